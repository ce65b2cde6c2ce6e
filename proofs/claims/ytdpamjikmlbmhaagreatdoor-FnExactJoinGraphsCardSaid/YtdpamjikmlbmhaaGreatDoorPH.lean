/- A part of the proof: texts PiA, PiB, PiE, PiF, PiG, PiI, PiJ, PjA, PjB, PjC, PjD, PjE, PjF, PjG, PjH, PkA, PkB, PkC, PkD, PkE, PkF, PkG, PkH, PkI, PkJ, PkK, PkL, PkM, PkN, PkO, PkP, PkQ, PkR, PkS, PkT, PkU, PkV, PkW, PkX, PqA, PqB, PqC, PqD, PqE, PqF, joined. Conditions: none. -/
import Derived.Test.YtdpamjikmlbmhaaGreatDoorPG
import Derived.Laws.IdiomCopy
import Derived.Laws.Externs
import Derived.Lib.AppendZerosOnto
import Derived.Shelf.LaysM
import Derived.Shelf.Strconv.Itoa4
import Derived.Shelf.LaysC
import Derived.Shelf.Strconv.ErrVarParseInt
import Derived.Test.YtdpamjikmlbmhaaGreatDoorProg
import Derived.Lib.LaidTab
import Derived.KernelRfl
import Derived.Deep.Slices
import Derived.ChangeSame
import Derived.Lib.SmallJoins
import Derived.Test.YtdpamjikmlbmhaaGreatDoorRows
import Derived.Deep.DeepHandedRow
import Derived.WideKeyArgs
import Derived.Stop.LaidErr
import Derived.RowKit
set_option linter.all false
open Nat (reduceEqDiff reduceAdd reduceLeDiff reduceLT reduceMul reduceSub)
namespace Go.PM
variable {P:Program} {B:Nat→Nat→Option Value}
theorem zK(w:World)(b:Nat)(x y:Array Value):(w.setRow b x).setRow b y=w.setRow b y:=by
 unfold World.setRow
 congr 1
 apply jG
 intro i
 simp only[im]
 by_cases h:b=i
 ·subst h
  simp only[if_true]
  cases w.heap[b]? with
  |none=>rfl
  |some o=>cases o<;>rfl
 ·simp only[ad h]
theorem E6(w:World)(b:Nat){x:Array Value}{e f}(h:w.heap[b]? =some (.cells x e f)):w.setRow b x=w:=by
 obtain⟨hp,t,d,os,out⟩:=w
 simp only[World.setRow]
 congr 1
 apply jG
 intro i
 simp only[im]
 by_cases hi:b=i
 ·subst hi
  rw[ai rfl]
  simp only at h
  rw[h];rfl
 ·rw[ad hi]
theorem BR(w:World)(b o:Nat)(v:Value){x:Array Value}{e f}(h:w.heap[b]? =some (.cells x e f)):w.setCell ⟨b,o,none⟩ v=w.setRow b (x.setIfInBounds o v):=by
 unfold World.setCell World.setRow
 congr 1
 apply jG
 intro i
 simp only[im]
 by_cases hi:b=i
 ·subst hi
  rw[ai rfl,ai rfl,h];rfl
 ·rw[ad hi,ad hi]
theorem Al(b:Nat){e f}:∀ (vs:List Value) (o:Nat) (w:World) (x:List Value),w.heap[b]? =some (.cells x.toArray e f)→o+vs.length≤x.length→w.setCells b o vs=w.setRow b (x.take o++vs++x.drop (o+vs.length)).toArray
 | [],o,w,x,h,_=>by rw[World.setCells,aO,aV,bh,eO,E6 w b h]
 |v::vs,o,w,x,h,hl=>by
  simp only[ao]at hl
  have h1:=BR w b o v h
  have h2:=setRow_heap w b _ (x.toArray.setIfInBounds o v) e f h
  rw[World.setCells,h1]
  have h3:x.toArray.setIfInBounds o v=(x.set o v).toArray:=by simp
  rw[h3]at h2 ⊢
  rw[Al b vs (o+1) _ _ h2 (by simp;omega),zK]
  congr 2
  rw[List.drop_set_of_lt (by omega),List.take_set,ao,show o+1+vs.length=o+(vs.length+1) by omega]
  congr 1
  rw[aL (by omega),List.set_append_right _ _ (by simp;omega),bi,jE (by omega)]
  simp
theorem Rs.take{G:Gh}{cs:List PV}{us:List Value}(h:Rs G cs us)(k:Nat):Rs G (cs.take k) (us.take k):=by
 obtain⟨h1,h2,h3⟩:=h
 refine⟨by simp[h1],fun j p u hp hu=>?_,fun u hu=>h3 u (d5 hu)⟩
 rw[List.getElem?_take]at hp hu
 split at hp
 ·rename_i hj
  rw[ai hj]at hu
  exact h2 j p u hp hu
 ·cases hp
theorem Rs.drop{G:Gh}{cs:List PV}{us:List Value}(h:Rs G cs us)(k:Nat):Rs G (cs.drop k) (us.drop k):=by
 obtain⟨h1,h2,h3⟩:=h
 refine⟨by simp[h1],fun j p u hp hu=>?_,fun u hu=>h3 u (eZ hu)⟩
 rw[ey]at hp hu
 exact h2 _ p u hp hu
theorem CG{cs ds:List PV}(h:aG cs=true)(hs:∀ p∈ds,p∈cs):aG ds=true:=kX fun p hp=>eF h (hs p hp)
theorem Cn{K:Nat→Bool}{cs:List PV}:∀ {ds:List PV},dT K cs=true→(∀ p∈ds,p∈cs)→dT K ds=true
 | [],_,_=>rfl
 |d::ds,h,hs=>by
  simp only[dT,aa]
  refine⟨?_,Cn h fun p hp=>hs p (a7 _ hp)⟩
  obtain⟨j,hj⟩:=List.mem_iff_getElem?.1 (hs d List.mem_cons_self)
  exact j8 h hj
theorem Jm{K:Nat→Bool}:∀ {cs ds:List PV},dT K cs=true→dT K ds=true→dT K (cs++ds)=true
 | [],_,_,h=>h
 |c::cs,ds,h,k=>by
  simp only[dT,aa]at h
  simp only[aM,dT,aa]
  exact⟨h.1,Jm h.2 k⟩
section
variable {G:Gh} {st:St} {w w':World}
theorem bt.below(hI:bt P B G st w)(hs:w.heap.size≤w'.heap.size)(hb:∀ b,b<w.heap.size→w'.heap[b]? =w.heap[b]?)(he:w'.os=w.os∧w'.output=w.output):bt P B G st w'∧bV G w G w':=by
 have lt_of:∀ {b:Nat} {o:Obj},w.heap[b]? =some o→b<w.heap.size:=fun h=>(aE.1 h).1
 have hsh:=hI.sh
 refine⟨⟨fun b o v h=>?_,fun b e k h=>?_,hI.nx,hI.cnt,hI.live,hI.room,hI.apart,hI.priv,fun s cs h=>?_,fun s b h=>?_,hI.obj,hI.nob,hI.npo,fun b k h=>?_,fun b h=>?_,hI.base,fun s b e sz h1 h2=>?_,
  fun s es h=>?_,fun s b h=>?_,hI.mbi,hI.nomb,hI.obx,hI.ful⟩,⟨qI.refl G,hs,fun b hb' _ _ _=>hb b hb',fun s b h=> .inl ⟨s,h⟩,fun t r h=> .inl ⟨t,r,h,rfl⟩,fun _ _ _ h=> .inl h,fun _ _ h=> .inl h,fun _ k h=> .inl ⟨k,h⟩,fun s b h=> .inl ⟨s,h⟩,he⟩⟩
 ·have hc:=hI.com b o v h
  rw[World.cell?_of_block (hb b (World.block_lt_of_cell? w _ hc))];exact hc
 ·obtain⟨c,h1,h2⟩:=hI.sh b e k h
  exact⟨c,by rw[hb b (lt_of h1)];exact h1,h2⟩
 ·obtain⟨b,e,vs,h1,h2,h3⟩:=hI.objs s cs h
  exact⟨b,e,vs,h1,by rw[hb b (lt_of h2)];exact h2,h3⟩
 ·obtain⟨h1,h2⟩:=hI.obs s b h
  exact⟨by omega,h2⟩
 ·have:=hI.pvl b k h;omega
 ·have:=hI.xpl b h;omega
 ·obtain⟨h3,c,h4⟩:=hI.oes s b e sz h1 h2
  exact⟨h3,c,by rw[hb b (lt_of h4)];exact h4⟩
 ·obtain⟨b,vs,clk,h1,h2,h3⟩:=hI.mobj s es h
  exact⟨b,vs,clk,h1,by rw[hb b (lt_of h2)];exact h2,h3⟩
 ·obtain⟨vs,clk,h1⟩:=hI.mbs s b h
  exact⟨vs,clk,by rw[hb b (lt_of h1)];exact h1⟩
theorem bV.heap{G':Gh}{w2 w3:World}(hS:bV G w G' w2)(h:w3.heap=w2.heap)(he:w3.os=w2.os∧w3.output=w2.output):bV G w G' w3:=
 ⟨hS.le,by rw[h];exact hS.size,fun b hb ho ht hm=>by rw[h];exact hS.kept b hb ho ht hm,hS.nearO,hS.nearT,hS.nearC,hS.nearS,hS.nearP,hS.nearM,⟨he.1.trans hS.eff.1,he.2.trans hS.eff.2⟩⟩
theorem KJ(u:jC)(ns:List Nat):{cF ns []with objs:=nM u (cF ns []).objs,maps:=oX u (cF ns []).maps}=cF ns []:=by
 unfold cF nM oX
 congr 1
end
end Go.PM
namespace Go.Proofs
open Go.Shelf Go.PM
def Tryz.laysM173_ren:Go.Shelf.Ren:=⟨fun|173=>135|246=>177|283=>194|284=>195|285=>196|286=>197|129=>146|317=>205|318=>206|319=>207|320=>208|337=>229|338=>230|n=>n,fun|2=>2|3=>3|9=>9|4=>4|171=>212|0=>0|53=>170|37=>134|5=>5|173=>214|212=>232|51=>168|20=>20|213=>233|46=>138|232=>255|233=>256|n=>n,fun|17=>0|18=>1|19=>2|n=>n⟩
theorem Tryz.laysM173:Go.Proofs.LaysM.n173 Tryz.prog Tryz.laysM173_ren:={
 mixed:=by kernel_rfl
 f129:=Tryz.func146.trans (aC some (by kernel_rfl))
 f173:=Tryz.func135.trans (aC some (by kernel_rfl))
 f246:=Tryz.func177.trans (aC some (by kernel_rfl))
 f283:=Tryz.func194.trans (aC some (by kernel_rfl))
 f284:=Tryz.func195.trans (aC some (by kernel_rfl))
 f285:=Tryz.func196.trans (aC some (by kernel_rfl))
 f286:=Tryz.func197.trans (aC some (by kernel_rfl))
 f317:=Tryz.func205.trans (aC some (by kernel_rfl))
 f318:=Tryz.func206.trans (aC some (by kernel_rfl))
 f319:=Tryz.func207.trans (aC some (by kernel_rfl))
 f320:=Tryz.func208.trans (aC some (by kernel_rfl))
 f337:=Tryz.func229.trans (aC some (by kernel_rfl))
 f338:=Tryz.func230.trans (aC some (by kernel_rfl))
 t0:=Tryz.underlying0
 a0:=Tryz.isAgg0
 z0:=Tryz.sizeOf0
 v0:=Tryz.zeroValue0
 t2:=Tryz.underlying2
 a2:=Tryz.isAgg2
 z2:=Tryz.sizeOf2
 v2:=Tryz.zeroValue2
 t3:=Tryz.underlying3
 a3:=Tryz.isAgg3
 z3:=Tryz.sizeOf3
 v3:=Tryz.zeroValue3
 t4:=Tryz.underlying4
 a4:=Tryz.isAgg4
 z4:=Tryz.sizeOf4
 v4:=Tryz.zeroValue4
 t5:=Tryz.underlying5
 a5:=Tryz.isAgg5
 z5:=Tryz.sizeOf5
 v5:=Tryz.zeroValue5
 t9:=Tryz.underlying9
 a9:=Tryz.isAgg9
 z9:=Tryz.sizeOf9
 v9:=Tryz.zeroValue9
 t20:=Tryz.underlying20
 a20:=Tryz.isAgg20
 z20:=Tryz.sizeOf20
 v20:=Tryz.zeroValue20
 t37:=Tryz.underlying134
 a37:=Tryz.isAgg134
 z37:=Tryz.sizeOf134
 v37:=Tryz.zeroValue134
 t46:=Tryz.underlying138
 a46:=Tryz.isAgg138
 z46:=Tryz.sizeOf138
 v46:=Tryz.zeroValue138
 t51:=Tryz.underlying168
 a51:=Tryz.isAgg168
 z51:=Tryz.sizeOf168
 v51:=Tryz.zeroValue168
 t53:=Tryz.underlying170
 a53:=Tryz.isAgg170
 z53:=Tryz.sizeOf170
 v53:=Tryz.zeroValue170
 t171:=Tryz.underlying212
 a171:=Tryz.isAgg212
 z171:=Tryz.sizeOf212
 v171:=Tryz.zeroValue212
 t173:=Tryz.underlying214
 a173:=Tryz.isAgg214
 z173:=Tryz.sizeOf214
 v173:=Tryz.zeroValue214
 t212:=Tryz.underlying232
 a212:=Tryz.isAgg232
 z212:=Tryz.sizeOf232
 v212:=Tryz.zeroValue232
 t213:=Tryz.underlying233
 a213:=Tryz.isAgg233
 z213:=Tryz.sizeOf233
 t232:=Tryz.underlying255
 a232:=Tryz.isAgg255
 z232:=Tryz.sizeOf255
 v232:=Tryz.zeroValue255
 t233:=Tryz.underlying256
 a233:=Tryz.isAgg256
 z233:=Tryz.sizeOf256
 v233:=Tryz.zeroValue256
 g17:=by kernel_rfl
 g18:=by kernel_rfl
 g19:=by kernel_rfl
 i0:=by kernel_rfl
 i2:=by kernel_rfl
 i3:=by kernel_rfl
 i4:=by kernel_rfl
 i5:=by kernel_rfl
 i9:=by kernel_rfl
 i20:=by kernel_rfl
 i37:=by kernel_rfl
 i46:=by kernel_rfl
 i51:=by kernel_rfl
 i53:=by kernel_rfl
 i171:=by kernel_rfl
 i173:=by kernel_rfl
 i212:=by kernel_rfl
 i232:=by kernel_rfl
 i233:=by kernel_rfl
 m17:=by kernel_rfl
 m18:=by kernel_rfl
 m19:=by kernel_rfl}
open Go.RowKit Go.Sort Go.Lib in
theorem Tryz.strconv_FormatInt_10(n:Int)(h0: -9223372036854775808≤n)(h1:n≤9223372036854775807)(w:World)(htab:Lib.TabIs Tryz.prog w "internal/strconv.uint64pow10" .u64 Lib.pow10Tab):
  Calls Tryz.prog 135 #[.int .i64 n,.int .i64 10] w fun e w'=>e= .returned (.string ⟨(Lib.itoa n).toArray⟩)∧∃ k os,w'=grow (w.drewN k) os:=Any.strconv_FormatInt_10 Tryz.laysM173 n h0 h1 w htab
def Tryz.laysC174_ren:Go.Shelf.Ren:=⟨fun|174=>239|247=>246|245=>247|287=>249|279=>250|280=>251|281=>252|282=>253|321=>254|322=>255|316=>256|171=>258|205=>257|243=>259|246=>177|283=>194|284=>195|285=>196|286=>197|129=>146|317=>205|318=>206|319=>207|320=>208|337=>229|338=>230|n=>n,fun|9=>9|3=>3|2=>2|75=>251|85=>252|4=>4|167=>258|5=>5|53=>170|175=>259|46=>138|168=>261|37=>134|0=>0|210=>267|21=>21|127=>269|145=>272|143=>270|171=>212|173=>214|212=>232|51=>168|20=>20|213=>233|232=>255|233=>256|80=>236|n=>n,fun|15=>3|16=>4|17=>0|18=>1|19=>2|n=>n⟩
theorem Tryz.laysC174:Go.Proofs.LaysC.n174 Tryz.prog Tryz.laysC174_ren:={
 mixed:=by kernel_rfl
 f129:=Tryz.func146.trans (aC some (by kernel_rfl))
 f171:=Tryz.func258.trans (aC some (by kernel_rfl))
 f174:=Tryz.func239.trans (aC some (by kernel_rfl))
 f205:=Tryz.func257.trans (aC some (by kernel_rfl))
 f243:=Tryz.func259.trans (aC some (by kernel_rfl))
 f245:=Tryz.func247.trans (aC some (by kernel_rfl))
 f246:=Tryz.func177.trans (aC some (by kernel_rfl))
 f247:=Tryz.func246.trans (aC some (by kernel_rfl))
 f279:=Tryz.func250.trans (aC some (by kernel_rfl))
 f280:=Tryz.func251.trans (aC some (by kernel_rfl))
 f281:=Tryz.func252.trans (aC some (by kernel_rfl))
 f282:=Tryz.func253.trans (aC some (by kernel_rfl))
 f283:=Tryz.func194.trans (aC some (by kernel_rfl))
 f284:=Tryz.func195.trans (aC some (by kernel_rfl))
 f285:=Tryz.func196.trans (aC some (by kernel_rfl))
 f286:=Tryz.func197.trans (aC some (by kernel_rfl))
 f287:=Tryz.func249.trans (aC some (by kernel_rfl))
 f316:=Tryz.func256.trans (aC some (by kernel_rfl))
 f317:=Tryz.func205.trans (aC some (by kernel_rfl))
 f318:=Tryz.func206.trans (aC some (by kernel_rfl))
 f319:=Tryz.func207.trans (aC some (by kernel_rfl))
 f320:=Tryz.func208.trans (aC some (by kernel_rfl))
 f321:=Tryz.func254.trans (aC some (by kernel_rfl))
 f322:=Tryz.func255.trans (aC some (by kernel_rfl))
 f337:=Tryz.func229.trans (aC some (by kernel_rfl))
 f338:=Tryz.func230.trans (aC some (by kernel_rfl))
 t0:=Tryz.underlying0
 a0:=Tryz.isAgg0
 z0:=Tryz.sizeOf0
 v0:=Tryz.zeroValue0
 t2:=Tryz.underlying2
 a2:=Tryz.isAgg2
 z2:=Tryz.sizeOf2
 v2:=Tryz.zeroValue2
 t3:=Tryz.underlying3
 a3:=Tryz.isAgg3
 z3:=Tryz.sizeOf3
 v3:=Tryz.zeroValue3
 t4:=Tryz.underlying4
 a4:=Tryz.isAgg4
 z4:=Tryz.sizeOf4
 v4:=Tryz.zeroValue4
 t5:=Tryz.underlying5
 a5:=Tryz.isAgg5
 z5:=Tryz.sizeOf5
 v5:=Tryz.zeroValue5
 t9:=Tryz.underlying9
 a9:=Tryz.isAgg9
 z9:=Tryz.sizeOf9
 v9:=Tryz.zeroValue9
 t20:=Tryz.underlying20
 a20:=Tryz.isAgg20
 z20:=Tryz.sizeOf20
 v20:=Tryz.zeroValue20
 t21:=Tryz.underlying21
 a21:=Tryz.isAgg21
 z21:=Tryz.sizeOf21
 v21:=Tryz.zeroValue21
 t37:=Tryz.underlying134
 a37:=Tryz.isAgg134
 z37:=Tryz.sizeOf134
 v37:=Tryz.zeroValue134
 t46:=Tryz.underlying138
 a46:=Tryz.isAgg138
 z46:=Tryz.sizeOf138
 v46:=Tryz.zeroValue138
 t51:=Tryz.underlying168
 a51:=Tryz.isAgg168
 z51:=Tryz.sizeOf168
 v51:=Tryz.zeroValue168
 t53:=Tryz.underlying170
 a53:=Tryz.isAgg170
 z53:=Tryz.sizeOf170
 v53:=Tryz.zeroValue170
 t75:=Tryz.underlying251
 a75:=Tryz.isAgg251
 z75:=Tryz.sizeOf251
 v75:=Tryz.zeroValue251
 t85:=Tryz.underlying252
 a85:=Tryz.isAgg252
 z85:=Tryz.sizeOf252
 v85:=Tryz.zeroValue252
 t127:=Tryz.underlying269
 a127:=Tryz.isAgg269
 z127:=Tryz.sizeOf269
 v127:=Tryz.zeroValue269
 t143:=Tryz.underlying270
 a143:=Tryz.isAgg270
 z143:=Tryz.sizeOf270
 v143:=Tryz.zeroValue270
 t145:=Tryz.underlying272
 a145:=Tryz.isAgg272
 z145:=Tryz.sizeOf272
 v145:=Tryz.zeroValue272
 t167:=Tryz.underlying258
 a167:=Tryz.isAgg258
 z167:=Tryz.sizeOf258
 v167:=Tryz.zeroValue258
 t168:=Tryz.underlying261
 a168:=Tryz.isAgg261
 z168:=Tryz.sizeOf261
 v168:=Tryz.zeroValue261
 t171:=Tryz.underlying212
 a171:=Tryz.isAgg212
 z171:=Tryz.sizeOf212
 v171:=Tryz.zeroValue212
 t173:=Tryz.underlying214
 a173:=Tryz.isAgg214
 z173:=Tryz.sizeOf214
 v173:=Tryz.zeroValue214
 t175:=Tryz.underlying259
 a175:=Tryz.isAgg259
 z175:=Tryz.sizeOf259
 v175:=Tryz.zeroValue259
 t210:=Tryz.underlying267
 a210:=Tryz.isAgg267
 z210:=Tryz.sizeOf267
 v210:=Tryz.zeroValue267
 t212:=Tryz.underlying232
 a212:=Tryz.isAgg232
 z212:=Tryz.sizeOf232
 v212:=Tryz.zeroValue232
 t213:=Tryz.underlying233
 a213:=Tryz.isAgg233
 z213:=Tryz.sizeOf233
 t232:=Tryz.underlying255
 a232:=Tryz.isAgg255
 z232:=Tryz.sizeOf255
 v232:=Tryz.zeroValue255
 t233:=Tryz.underlying256
 a233:=Tryz.isAgg256
 z233:=Tryz.sizeOf256
 v233:=Tryz.zeroValue256
 g15:=by kernel_rfl
 g16:=by kernel_rfl
 g17:=by kernel_rfl
 g18:=by kernel_rfl
 g19:=by kernel_rfl
 t80:=Tryz.underlying236
 a80:=Tryz.isAgg236
 z80:=Tryz.sizeOf236
 v80:=Tryz.zeroValue236
 i0:=by kernel_rfl
 i2:=by kernel_rfl
 i3:=by kernel_rfl
 i4:=by kernel_rfl
 i5:=by kernel_rfl
 i9:=by kernel_rfl
 i20:=by kernel_rfl
 i21:=by kernel_rfl
 i37:=by kernel_rfl
 i46:=by kernel_rfl
 i51:=by kernel_rfl
 i53:=by kernel_rfl
 i75:=by kernel_rfl
 i80:=by kernel_rfl
 i85:=by kernel_rfl
 i127:=by kernel_rfl
 i143:=by kernel_rfl
 i145:=by kernel_rfl
 i167:=by kernel_rfl
 i168:=by kernel_rfl
 i171:=by kernel_rfl
 i173:=by kernel_rfl
 i175:=by kernel_rfl
 i210:=by kernel_rfl
 i212:=by kernel_rfl
 i232:=by kernel_rfl
 i233:=by kernel_rfl
 m15:=by kernel_rfl
 m16:=by kernel_rfl
 m17:=by kernel_rfl
 m18:=by kernel_rfl
 m19:=by kernel_rfl
 c0:=by kernel_rfl
 c2:=by kernel_rfl
 c3:=by kernel_rfl
 c4:=by kernel_rfl
 c5:=by kernel_rfl
 c9:=by kernel_rfl
 c20:=by kernel_rfl
 c21:=by kernel_rfl
 c37:=by kernel_rfl
 c46:=by kernel_rfl
 c51:=by kernel_rfl
 c53:=by kernel_rfl
 c75:=by kernel_rfl
 c80:=by kernel_rfl
 c85:=by kernel_rfl
 c127:=by kernel_rfl
 c143:=by kernel_rfl
 c145:=by kernel_rfl
 c167:=by kernel_rfl
 c168:=by kernel_rfl
 c171:=by kernel_rfl
 c173:=by kernel_rfl
 c175:=by kernel_rfl
 c210:=by kernel_rfl
 c212:=by kernel_rfl
 c213:=by kernel_rfl
 c232:=by kernel_rfl
 c233:=by kernel_rfl}
open Go.RowKit in
theorem Tryz.strconv_ParseInt_10_at64_ok(s:ByteArray)(hmax:s.size≤9223372036854775806)(v:Int)(h:Lib.parseIntB 64 s.data.toList= .ok v)(w:World):
  Calls Tryz.prog 239 #[.string s,.int .i64 10,.int .i64 64] w fun e w'=>e= .returned (.tuple #[.int .i64 v,.nilIface])∧(w'=w∨∃ t,w'=Lib.bytesWorld w 5 t):=Any.strconv_ParseInt_10_at64_ok Tryz.laysC174 s hmax v h w
open Go.RowKit in
theorem Tryz.parse_no(s:ByteArray)(hlim:s.size≤281474976710656)(h1:∀ n,Lib.parseIntB 64 s.data.toList= .ok n→False)(h2:Lib.parseIntB 64 s.data.toList= .range→False)(tp:TypeId)(p:Value)(w:World)(hvar:w.var? Tryz.prog "strconv.ErrSyntax" =some #[.iface tp p]):
  Calls Tryz.prog 239 #[.string s,.int .i64 10,.int .i64 64] w fun e w'=>∃ N,e= .returned (.tuple #[.int .i64 (0),.iface 261 (.pointer (some ⟨N,0,none⟩))])∧w.heap.size≤N∧w'.heap[N]? =some (.cells #[.string ⟨#[80,97,114,115,101,73,110,116]⟩,.string s,.iface tp p] 267 (0,0))∧Below w.heap.size w w':=by
 cases hh:Lib.parseIntB 64 s.data.toList with
 |ok n=>exact(h1 n hh).elim
 |range=>exact(h2 hh).elim
 |_=>exact Any.strconv_ParseInt_10_at64_syntax_var Tryz.laysC174 s hlim hh tp p w hvar
open Go.RowKit in
theorem Tryz.strconv_ParseInt_10_at64_range_var(s:ByteArray)(hlim:s.size≤281474976710656)(h:Lib.parseIntB 64 s.data.toList= .range)(tp:TypeId)(p:Value)(w:World)(hvar:w.var? Tryz.prog "strconv.ErrRange" =some #[.iface tp p]):
  Calls Tryz.prog 239 #[.string s,.int .i64 10,.int .i64 64] w fun e w'=>∃ N,e= .returned (.tuple #[.int .i64 (Lib.intSat 64 s.data.toList),.iface 261 (.pointer (some ⟨N,0,none⟩))])∧w.heap.size≤N∧w'.heap[N]? =some (.cells #[.string ⟨#[80,97,114,115,101,73,110,116]⟩,.string s,.iface tp p] 267 (0,0))∧Below w.heap.size w w':=Any.strconv_ParseInt_10_at64_range_var Tryz.laysC174 s hlim h tp p w hvar
end Go.Proofs
namespace Go.PM
open Go Go.Proofs Go.Lib Go.Sort
def ii(eS eR:Value):Nat→Nat→Option Value:=fun b o=>
 if b=0 then(pow10Tab.map (Value.int .u64))[o]? else if b=3 then(if o=0 then some eS else none)else if b=4 then(if o=0 then some eR else none)else none
theorem Ei:Tryz.prog.globalNamed "internal/strconv.uint64pow10" =some 0:=by kernel_rfl
theorem Ef:Tryz.prog.globalNamed "strconv.ErrSyntax" =some 3:=by kernel_rfl
theorem Eh:Tryz.prog.globalNamed "strconv.ErrRange" =some 4:=by kernel_rfl
section
variable {eS eR:Value} {G:Gh} {st:St} {w:World}
theorem bt.known{P:Program}{B:Nat→Nat→Option Value}(hI:bt P B G st w){b:Nat}(l:List Value)(h0:l≠ [])(hl:∀ o,B b o=l[o]?):∃ e f,w.heap[b]? =some (.cells l.toArray e f):=by
 have hpos:0<l.length:=List.length_pos_iff.2 h0
 have hget:∀ o (ho:o<l.length),B b o=some l[o]:=fun o ho=>by rw[hl,az ho]
 obtain⟨h1,_,x,hx,hall⟩:=hI.base b 0 _ (hget 0 hpos)
 obtain⟨cur,hcur,hsz⟩:=hI.sh b x.1 x.2 hx
 refine⟨x.1,(0,0),?_⟩
 rw[hcur]
 refine aC (fun q=>some (Obj.cells q x.1 (0,0))) ?_
 apply Array.ext'
 apply mf
 intro o
 by_cases ho:o<l.length
 ·have hc:=hI.com _ _ _ (hI.base b o _ (hget o ho)).1
  simp only[World.cell?,hcur,Option.isSome_none,cA,if_false]at hc
  rw[il,hc,az ho]
 ·have hle:cur.size≤l.length:=by
   rcases Nat.lt_or_ge l.length cur.size with h|h
   ·exact absurd (by rw[hl];exact cU (aD _)) (hall l.length (by omega))
   ·exact h
  rw[il,Array.getElem?_eq_none (by omega)]
  exact(cU (by simpa using ho)).symm
theorem Fj{P:Program}(hI:bt P (ii eS eR) G st w):∃ e f,w.heap[0]? =some (.cells (pow10Tab.map (Value.int .u64)).toArray e f):=
 hI.known _ (by simp[pow10Tab]) (fun o=>by unfold ii;rw[ai rfl])
theorem E1{P:Program}(hI:bt P (ii eS eR) G st w):∃ e f,w.heap[3]? =some (.cells #[eS] e f):=by
 refine hI.known [eS] (by simp) (fun o=>?_)
 unfold ii
 rw[ad (by decide),ai rfl]
 cases o with
 |zero=>rfl
 |succ o=>simp
theorem Fi{P:Program}(hI:bt P (ii eS eR) G st w):∃ e f,w.heap[4]? =some (.cells #[eR] e f):=by
 refine hI.known [eR] (by simp) (fun o=>?_)
 unfold ii
 rw[ad (by decide),ad (by decide),ai rfl]
 cases o with
 |zero=>rfl
 |succ o=>simp
theorem EZ(hI:bt Tryz.prog (ii eS eR) G st w):TabIs Tryz.prog w "internal/strconv.uint64pow10" .u64 pow10Tab:=by
 obtain⟨e,f,h⟩:=Fj hI
 unfold TabIs World.var?
 rw[Ei]
 simp only[dr,h]
theorem MP(hI:bt Tryz.prog (ii eS eR) G st w):w.var? Tryz.prog "strconv.ErrSyntax" =some #[eS]:=by
 obtain⟨e,f,h⟩:=E1 hI
 unfold World.var?
 rw[Ef]
 simp only[dr,h]
theorem MR(hI:bt Tryz.prog (ii eS eR) G st w):w.var? Tryz.prog "strconv.ErrRange" =some #[eR]:=by
 obtain⟨e,f,h⟩:=Fi hI
 unfold World.var?
 rw[Eh]
 simp only[dr,h]
end
theorem wl(w:World)(e:TypeId)(s:ByteArray):w.heap.size≤(bytesWorld w e s).heap.size∧∀ b,b<w.heap.size→(bytesWorld w e s).heap[b]? =w.heap[b]? :=by
 unfold bytesWorld World.freeze
 rw[ad (by decide)]
 generalize bytesCells w e s=A
 have h1:(w.drew.alloc (.cells A e)).heap=w.heap.push (.cells A e):=rfl
 simp only[h1]
 refine⟨by simp,fun b hb=>?_⟩
 rw[im,ad (by omega),Array.getElem?_push,ad (by omega)]
theorem ym(w:World)(e:TypeId)(s:ByteArray):(bytesWorld w e s).os=w.os∧(bytesWorld w e s).output=w.output:=by
 unfold bytesWorld World.freeze
 rw[ad (by decide)]
 exact⟨rfl,rfl⟩
theorem Ed(w:World)(k:Nat)(os:Array Obj):w.heap.size≤(grow (w.drewN k) os).heap.size∧∀ b,b<w.heap.size→(grow (w.drewN k) os).heap[b]? =w.heap[b]? :=by
 have h1:(grow (w.drewN k) os).heap=w.heap++os:=rfl
 simp only[h1]
 exact⟨by simp,fun b hb=>by rw[ir hb]⟩
theorem BK{G:Gh}{p q:PV}{u v:Value}(h1:R G p u)(h2:R G q v):R G (.tup [p,q]) (.tuple #[u,v]):=
 .tup [p,q] [u,v] rfl fun j a b ha hb=>by
  match j with
  |0=>simp at ha hb;subst ha hb;exact h1
  |1=>simp at ha hb;subst ha hb;exact h2
  |j+2=>simp at ha
def tB(l:List UInt8):PV:=match parseIntB 64 l with
 | .ok n=> .tup [I n,.nili]
 | .range=> .tup [I (intSat 64 l),.err]
 |_=> .tup [I 0,.err]
def CB:List PV→List Nat→List (List PV)→Option (PV×List Nat×List (List PV))
 | [.str s,.int .i64 a,.int .i64 b],[],[]=>if a=10∧b=64∧s.size≤2000000 then some (tB s.data.toList,[],[])else none
 |_,_,_=>none
def I4:List PV→List Nat→List (List PV)→Option (PV×List Nat×List (List PV))
 | [.int .i64 n,.int .i64 b],[],[]=>if b=10∧ -9223372036854775808≤n∧n≤9223372036854775807 then some (S (itoa n),[],[])else none
 |_,_,_=>none
def yH:au:=fun f xs ns cs=>if f=239 then CB xs ns cs else if f=135 then I4 xs ns cs else none
theorem MT{vs:List Value}(h:3=vs.length):∃ a b c,vs=[a,b,c]:=by
 match vs,h with
 | [a,b,c],_=>exact⟨a,b,c,rfl⟩
theorem MU{vs:List Value}(h:2=vs.length):∃ a b,vs=[a,b]:=by
 match vs,h with
 | [a,b],_=>exact⟨a,b,rfl⟩
theorem F7:kZ Tryz.prog 239:=⟨Tryz.f239,Tryz.func239,of_decide_eq_true (by kernel_rfl),by kernel_rfl⟩
theorem F9:kZ Tryz.prog 135:=⟨Tryz.f135,Tryz.func135,of_decide_eq_true (by kernel_rfl),by kernel_rfl⟩
theorem wM{f:Nat}(h:f<1000000){vs:List Value}{v:Value}:nP f vs v (.returned v):=(qG h).2 rfl
theorem KP(tS tR:TypeId)(pS pR:Value):gU Tryz.prog (ii (.iface tS pS) (.iface tR pR)) yH:=by
 intro f xs ns cs r rs cs' h
 unfold yH at h
 split at h
 ·rename_i hf
  subst hf
  rw[rH (by decide)]
  refine⟨F7,?_⟩
  unfold CB at h
  split at h
  ·rename_i s a b
   split at h
   ·rename_i hc
    obtain⟨rfl,rfl,hs⟩:=hc
    cases h
    refine⟨rfl,by unfold tB;split<;>rfl,fun c hc=>(by cases hc),fun G w vs hI hl hR=>?_⟩
    obtain⟨v0,v1,v2,rfl⟩:=MT hl
    have h0:=(hR 0 _ _ rfl rfl).1
    have h1:=(hR 1 _ _ rfl rfl).1
    have h2:=(hR 2 _ _ rfl rfl).1
    cases h0;cases h1;cases h2
    unfold tB
    split
    ·rename_i n hp
     exact(Tryz.strconv_ParseInt_10_at64_ok s (by omega) n hp w).mono fun e w' h=>by
      obtain⟨rfl,hw⟩:=h
      have hb:w.heap.size≤w'.heap.size∧∀ b,b<w.heap.size→w'.heap[b]? =w.heap[b]? :=by
       rcases hw with rfl|⟨t,rfl⟩
       ·exact⟨aD _,fun _ _=>rfl⟩
       ·exact wl _ _ _
      have he:w'.os=w.os∧w'.output=w.output:=by
       rcases hw with rfl|⟨t,rfl⟩
       ·exact⟨rfl,rfl⟩
       ·exact ym _ _ _
      obtain⟨hI',hS'⟩:=hI.below hb.1 hb.2 he
      exact⟨_,G,wM (by decide),BK (.int _ _) .nili,hI',hS',rfl,fun k hk=>absurd hk (ij _)⟩
    ·rename_i hp
     exact(Tryz.strconv_ParseInt_10_at64_range_var s (by omega) hp tR pR w (MR hI)).mono fun e w' h=>by
      obtain⟨N,rfl,_,_,hb⟩:=h
      obtain⟨hI',hS'⟩:=hI.below hb.size hb.block ⟨hb.os,hb.output⟩
      exact⟨_,G,wM (by decide),BK (.int _ _) (.err _ _),hI',hS',rfl,fun k hk=>absurd hk (ij _)⟩
    ·rename_i h1 h2
     exact(Tryz.parse_no s (by omega) h1 h2 tS pS w (MP hI)).mono fun e w' h=>by
      obtain⟨N,rfl,_,_,hb⟩:=h
      obtain⟨hI',hS'⟩:=hI.below hb.size hb.block ⟨hb.os,hb.output⟩
      exact⟨_,G,wM (by decide),BK (.int _ _) (.err _ _),hI',hS',rfl,fun k hk=>absurd hk (ij _)⟩
   ·cases h
  ·cases h
 ·split at h
  ·rename_i hf
   subst hf
   rw[rH (by decide)]
   refine⟨F9,?_⟩
   unfold I4 at h
   split at h
   ·rename_i n b
    split at h
    ·rename_i hc
     obtain⟨rfl,h1,h2⟩:=hc
     cases h
     refine⟨rfl,rfl,fun c hc=>(by cases hc),fun G w vs hI hl hR=>?_⟩
     obtain⟨v0,v1,rfl⟩:=MU hl
     have h3:=(hR 0 _ _ rfl rfl).1
     have h4:=(hR 1 _ _ rfl rfl).1
     cases h3;cases h4
     exact(Tryz.strconv_FormatInt_10 n h1 h2 w (EZ hI)).mono fun e w' h=>by
      obtain⟨rfl,k,os,rfl⟩:=h
      have hb:=Ed w k os
      have he:(grow (w.drewN k) os).os=w.os∧(grow (w.drewN k) os).output=w.output:=⟨rfl,rfl⟩
      obtain⟨hI',hS'⟩:=hI.below hb.1 hb.2 he
      exact⟨_,G,wM (by decide),.str _,hI',hS',rfl,fun k hk=>absurd hk (ij _)⟩
    ·cases h
   ·cases h
  ·cases h
end Go.PM
namespace Go.PM
open Go Go.Proofs
def KW(mk:Bool)(f:Nat):List Nat:=if f=1000001∨f=1000002 then(if mk then [1]else [])else if [128,189].contains f then [0,2]else if [91,161].contains f then [0,1]else if [160,163,115,164,63,64,113,156,14].contains f then [0]else if [34,27,69,72,15,20,50,51,57,58].contains f then [1000]else []
def M5(f:Nat):List Nat:=if f=14 then [1000]else KW true f
def M4(n f:Nat):List Nat:=if f=1000003∧n=132∨f=1000002∧[113,156,115,164].contains n then [1]else KW false f
noncomputable def K6(f:Nat):Option bn:=if f<1000000 then rL Tryz.prog (M4 f) (if [200,201,209,210,211,212,213,214,215,216,217,218,219,220,221,222,223,224,225,226,227,232,235,240,242,106,136,107].contains f then 1 else 0) ([63,64,67,10,44,45,66,68,86,87,103,108,122,123,170,24,25].contains f) f else uL Tryz.prog (if f=1000034∨f=1000027 then M5 else KW true) (f-1000000)
set_option maxRecDepth 4000 in
theorem MV:∀ f F,T f=some F→K6 f=some F:=by
 intro f F h
 unfold T at h
 split at h
 all_goals first|(cases h;kernel_rfl)|cases h
theorem Jo:yr T Tryz.prog:=fun f F h=>by
 have h:=MV f F h
 unfold K6 at h
 split at h
 ·exact .inl ⟨by assumption,_,_,_,h⟩
 ·exact .inr ⟨_,f-1000000,by unfold gx;omega,h⟩
end Go.PM
namespace Go.PM
open Go Go.Proofs Go.ChangeShapes Go.Deep
def kh(w:World):Gh where
 com b o:=w.cell? ⟨b,o,none⟩
 sh b:=match w.heap[b]? with
  |some (.cells c e (0,0))=>some (e,c.size)
  |_=>none
 tk _:=none
 ob _:=none
 nx:=0
 pv _:=none
 xp _:=false
 oe _:=none
 mb _:=none
theorem JY{w:World}{b e k:Nat}(h:(kh w).sh b=some (e,k)):∃ cur:Array Value,w.heap[b]? =some (.cells cur e (0,0))∧cur.size=k:=by
 simp only[kh]at h
 split at h
 ·rename_i c e' hc
  cases h
  exact⟨c,hc,rfl⟩
 ·cases h
section
variable {H:Type} {enc:TypeId×Value→H} {w:World} {base:Nat} {held:Bool}
theorem Ax{a:Addr}{n:Nat}{cs:List Value}(h:w.cells? base a n=some cs):cs.length=n∧∀ i,i<n→w.cell? (a.add i)=cs[i]? :=by
 obtain⟨_,h1,h2⟩:=World.cells?_some h
 exact⟨h1,h2⟩
theorem pW{P:Program}{t e:TypeId}{sz:Nat}(ht:P.underlying t=some (.slice e))(hce:P.cellsOf e=sz)(hsz:0<sz){α:Type}(en:α→List PV)(Ok:α→Prop)(hen:∀ a,(en a).length=sz)
  (hel:∀ fuel cs x,DataW.trod enc P w base (fun _=>true) held fuel e cs=some x→cs.length=sz→∃ a,Rs (kh w) (en a) cs∧Ok a)
  {fuel:Nat} {cs:List Value} {x:DataW H×List MemPlace} (h:DataW.trod enc P w base (fun _=>true) held fuel t cs=some x):
  ∃ (l:List α) (v:Value),cs=[v]∧R (kh w) (.list l.length (l.flatMap en) .no) v∧v.oneCell'=true∧l.length≤maxLen∧∀ a∈l,Ok a:=by
 rcases open_slice ht h with⟨rfl,_⟩|⟨a,len,cap,m,n,D,Pl,rfl,hb,hlc,hcm,hm,_,hall⟩
 ·exact⟨[],_,rfl,.listN _ trivial,rfl,aY _,fun _ h=>by cases h⟩
 have hm:m=cap:=hm
 subst hm
 rw[hce]at hall
 by_cases hc0:m=0
 ·subst hc0
  obtain rfl:len=0:=by omega
  exact⟨[],_,rfl,.listE a,rfl,aY _,fun _ h=>by cases h⟩
 have hsp:a.spot=none:=by
  obtain⟨cs',h1,_⟩:=hall 0 (by omega)
  obtain⟨h2,h3⟩:=Ax h1
  have h4:=h3 0 hsz
  rw[az (by omega)]at h4
  have e0:(a.add (0*sz)).add 0=a:=by simp[Addr.add]
  rw[e0]at h4
  unfold World.cell? at h4
  split at h4
  ·split at h4
   ·cases h4
   ·rename_i hs;simpa using hs
  ·cases h4
 obtain⟨b,o,s⟩:=a
 simp only at hsp
 subst hsp
 have main:∀ k,k≤len→∃ (l:List α) (us:List Value),l.length=k∧Rs (kh w) (l.flatMap en) us∧us.length=k*sz∧(∀ (j:Nat) u,us[j]? =some u→w.cell? ⟨b,o+j,none⟩=some u)∧∀ a∈l,Ok a:=by
  intro k
  induction k with
  |zero=>intro _;exact⟨[],[],rfl,⟨rfl,fun j p u hp _=>by simp at hp,fun _ h=>by cases h⟩,by simp,fun j u hj=>by simp at hj,fun _ h=>by cases h⟩
  |succ k ih=>
   intro hk
   obtain⟨l,us,h1,h2,h3,h4,h5⟩:=ih (by omega)
   obtain⟨cs',h6,h7⟩:=hall k (by omega)
   obtain⟨h8,h9⟩:=Ax h6
   obtain⟨y,hy1,hy2⟩:=hel _ _ _ h7 h8
   refine⟨l++[y],us++cs',by simp[h1],?_,by rw[ak,h3,h8,fb],fun j u hj=>?_,fun z hz=>?_⟩
   ·rw[dF]
    simpa using h2.append hy1
   ·by_cases hlt:j<k*sz
    ·rw[bA (by omega)]at hj
     exact h4 j u hj
    ·rw[bF (by omega),h3]at hj
     have hj':=(a8.1 hj).1
     have:=h9 (j-k*sz) (by omega)
     rw[hj,Addr.add_lit,Addr.add_lit]at this
     rw[←this]
     congr 2;omega
   ·rcases ax.1 hz with h|h
    ·exact h5 z h
    ·rw[dj.1 h];exact hy2
 obtain⟨l,us,h1,h2,h3,h4,h5⟩:=main len (aD _)
 refine⟨l,_,rfl,?_,rfl,by omega,h5⟩
 rw[h1]
 exact .list len _ .no b o m us hlc h2.1 (fun j u hj=>h4 j u hj) h2.2.1 h2.2.2 trivial (fun k _ hk=>by cases hk) (fun _ hn=>absurd rfl hn)
theorem wN{fuel:Nat}{cs:List Value}{x:DataW H×List MemPlace}(h:DataW.trod enc Tryz.prog w base (fun _=>true) held fuel 9 cs=some x):∃ a:List UInt8,Rs (kh w) [S a] cs∧a.length≤maxLen:=by
 obtain⟨s,rfl,_,hs⟩:=DataW.trod_string (by kernel_rfl) h
 refine⟨s.data.toList,⟨rfl,fun j p u hp hu=>?_,fun u hu=>?_⟩,by rw[cC];exact hs⟩
 ·cases j with
  |zero=>simp at hp hu;subst hp hu;exact .str s
  |succ j=>simp at hp
 ·simp at hu;subst hu;rfl
theorem wO{t:Nat}(ht:Tryz.prog.underlying t=some (.int .i64)){fuel:Nat}{cs:List Value}{x:DataW H×List MemPlace}(h:DataW.trod enc Tryz.prog w base (fun _=>true) held fuel t cs=some x):∃ n:Int,Rs (kh w) [I n] cs:=by
 obtain⟨n,rfl,_,hs⟩:=DataW.trod_int ht h
 refine⟨n,⟨rfl,fun j p u hp hu=>?_,fun u hu=>?_⟩⟩
 ·cases j with
  |zero=>simp at hp hu;subst hp hu;exact .int _ _
  |succ j=>simp at hp
 ·simp at hu;subst hu;rfl
def EN(l:List (List UInt8)):Prop:=l.length≤maxLen∧∀ t∈l,t.length≤maxLen
def wv(l:List Fd):Prop:=l.length≤maxLen∧∀ f∈l,f.1.length≤maxLen∧f.2.length≤maxLen
theorem xM{G:Gh}{p:PV}{v:Value}(h:R G p v)(h1:v.oneCell'=true):Rs G [p] [v]:=by
 refine⟨rfl,fun j p u hp hu=>?_,fun u hu=>?_⟩
 ·cases j with
  |zero=>simp at hp hu;subst hp hu;exact h
  |succ j=>simp at hp
 ·simp at hu;subst hu;exact h1
theorem A6:∀ l:List (List UInt8),l.flatMap (fun a=>[S a])=l.map S
 | []=>rfl
 |a::l=>by rw[aI,aF,A6 l,List.singleton_append]
theorem Hm{fuel:Nat}{cs:List Value}{x:DataW H×List MemPlace}(h:DataW.trod enc Tryz.prog w base (fun _=>true) held fuel 70 cs=some x):∃ l,Rs (kh w) [TX l] cs∧EN l:=by
 obtain⟨l,v,rfl,h1,h2,h3,h4⟩:=pW (α:=List UInt8) (e:=9) (sz:=1) (by kernel_rfl) (by kernel_rfl) (by decide) (fun a=>[S a]) (fun a=>a.length≤maxLen) (fun _=>rfl) (fun fuel cs x h _=>wN h) h
 rw[A6]at h1
 exact⟨l,xM h1 h2,h3,h4⟩
theorem MB{cs:List Value}(h:cs.length=2):∃ a b,cs=[a,b]:=by
 match cs,h with
 | [a,b],_=>exact⟨a,b,rfl⟩
theorem LZ{cs:List Value}(h:cs.length=3):∃ a b c,cs=[a,b,c]:=by
 match cs,h with
 | [a,b,c],_=>exact⟨a,b,c,rfl⟩
theorem MW{cs:List Value}(h:cs.length=5):∃ a b c d e,cs=[a,b,c,d,e]:=by
 match cs,h with
 | [a,b,c,d,e],_=>exact⟨a,b,c,d,e,rfl⟩
noncomputable def zW(t:Nat):List (Nat×Nat):=match Tryz.prog.underlying t with
 |some (.struct fs)=>fs.toList.map fun f=>(f.type,f.offset)
 |_=>[]
theorem qU{t:TypeId}{L:List (Nat×Nat)}(hL:zW t=L)(h0:L≠ []){fuel:Nat}{cs:List Value}{x:DataW H×List MemPlace}(h:DataW.trod enc Tryz.prog w base (fun _=>true) held fuel t cs=some x):
  ∃ n,∀ (i:Nat) q,L[i]? =some q→∃ y,DataW.trod enc Tryz.prog w base (fun _=>true) held n q.1 ((cs.drop q.2).take (Tryz.prog.cellsOf q.1))=some y:=by
 unfold zW at hL
 split at hL
 ·rename_i fs hfs
  obtain⟨xs,n,_,_,_,hl,hf⟩:=DataW.trod_struct hfs h
  refine⟨n,fun i q hi=>?_⟩
  rw[←hL,b7,ae]at hi
  obtain⟨f,hi,rfl⟩:=hi
  rw[il]at hi
  have:=hf i f hi
  have hlt:i<xs.length:=by rw[hl];exact(aE.1 hi).1
  rw[az hlt]at this
  exact⟨_,this⟩
 ·exact absurd hL.symm h0
theorem c9:Tryz.prog.cellsOf 9=1:=by kernel_rfl
theorem c2:Tryz.prog.cellsOf 2=1:=by kernel_rfl
theorem M6:Tryz.prog.cellsOf 70=1:=by kernel_rfl
theorem LJ:Tryz.prog.cellsOf 102=1:=by kernel_rfl
theorem M8:Tryz.prog.cellsOf 22=1:=by kernel_rfl
theorem M7:Tryz.prog.cellsOf 23=1:=by kernel_rfl
theorem Ho{fuel:Nat}{cs:List Value}{x:DataW H×List MemPlace}(h:DataW.trod enc Tryz.prog w base (fun _=>true) held fuel 184 cs=some x)(hl:cs.length=2):∃ f:Fd,Rs (kh w) (fc f) cs∧f.1.length≤maxLen∧f.2.length≤maxLen:=by
 obtain⟨n,hf⟩:=qU (L:=[(9,0),(9,1)]) (by kernel_rfl) (by decide) h
 obtain⟨a,b,rfl⟩:=MB hl
 obtain⟨y0,h0⟩:=hf 0 _ rfl
 obtain⟨y1,h1⟩:=hf 1 _ rfl
 rw[c9]at h0 h1
 have h0:DataW.trod enc Tryz.prog w base (fun _=>true) held n 9 [a]=some y0:=h0
 have h1:DataW.trod enc Tryz.prog w base (fun _=>true) held n 9 [b]=some y1:=h1
 obtain⟨s0,r0,l0⟩:=wN h0
 obtain⟨s1,r1,l1⟩:=wN h1
 exact⟨(s0,s1),r0.append r1,l0,l1⟩
theorem yD{fuel:Nat}{cs:List Value}{x:DataW H×List MemPlace}(h:DataW.trod enc Tryz.prog w base (fun _=>true) held fuel 102 cs=some x):∃ l,Rs (kh w) [FX l] cs∧wv l:=by
 obtain⟨l,v,rfl,h1,h2,h3,h4⟩:=pW (α:=Fd) (e:=184) (sz:=2) (by kernel_rfl) (by kernel_rfl) (by decide) fc (fun f=>f.1.length≤maxLen∧f.2.length≤maxLen) uc (fun fuel cs x h hl=>Ho h hl) h
 exact⟨l,xM h1 h2,h3,h4⟩
theorem JD{fuel:Nat}{cs:List Value}{x:DataW H×List MemPlace}(h:DataW.trod enc Tryz.prog w base (fun _=>true) held fuel 104 cs=some x)(hl:cs.length=3):∃ y:Nd,Rs (kh w) (nc y) cs∧EN y.labels∧wv y.fields:=by
 obtain⟨n,hf⟩:=qU (L:=[(2,0),(70,1),(102,2)]) (by kernel_rfl) (by decide) h
 obtain⟨a,b,c,rfl⟩:=LZ hl
 obtain⟨y0,h0⟩:=hf 0 _ rfl
 obtain⟨y1,h1⟩:=hf 1 _ rfl
 obtain⟨y2,h2⟩:=hf 2 _ rfl
 rw[c2]at h0
 rw[M6]at h1
 rw[LJ]at h2
 have h0:DataW.trod enc Tryz.prog w base (fun _=>true) held n 2 [a]=some y0:=h0
 have h1:DataW.trod enc Tryz.prog w base (fun _=>true) held n 70 [b]=some y1:=h1
 have h2:DataW.trod enc Tryz.prog w base (fun _=>true) held n 102 [c]=some y2:=h2
 obtain⟨i,r0⟩:=wO (by kernel_rfl) h0
 obtain⟨ls,r1,l1⟩:=Hm h1
 obtain⟨fs,r2,l2⟩:=yD h2
 exact⟨⟨i,ls,fs⟩,(r0.append r1).append r2,l1,l2⟩
theorem JE{fuel:Nat}{cs:List Value}{x:DataW H×List MemPlace}(h:DataW.trod enc Tryz.prog w base (fun _=>true) held fuel 106 cs=some x)(hl:cs.length=5):∃ y:Eg,Rs (kh w) (ec y) cs∧y.type.length≤maxLen∧wv y.fields:=by
 obtain⟨n,hf⟩:=qU (L:=[(2,0),(9,1),(2,2),(2,3),(102,4)]) (by kernel_rfl) (by decide) h
 obtain⟨a,b,c,d,e,rfl⟩:=MW hl
 obtain⟨y0,h0⟩:=hf 0 _ rfl
 obtain⟨y1,h1⟩:=hf 1 _ rfl
 obtain⟨y2,h2⟩:=hf 2 _ rfl
 obtain⟨y3,h3⟩:=hf 3 _ rfl
 obtain⟨y4,h4⟩:=hf 4 _ rfl
 rw[c2]at h0 h2 h3
 rw[c9]at h1
 rw[LJ]at h4
 have h0:DataW.trod enc Tryz.prog w base (fun _=>true) held n 2 [a]=some y0:=h0
 have h1:DataW.trod enc Tryz.prog w base (fun _=>true) held n 9 [b]=some y1:=h1
 have h2:DataW.trod enc Tryz.prog w base (fun _=>true) held n 2 [c]=some y2:=h2
 have h3:DataW.trod enc Tryz.prog w base (fun _=>true) held n 2 [d]=some y3:=h3
 have h4:DataW.trod enc Tryz.prog w base (fun _=>true) held n 102 [e]=some y4:=h4
 obtain⟨i,r0⟩:=wO (by kernel_rfl) h0
 obtain⟨t,r1,l1⟩:=wN h1
 obtain⟨f,r2⟩:=wO (by kernel_rfl) h2
 obtain⟨g,r3⟩:=wO (by kernel_rfl) h3
 obtain⟨fs,r4,l4⟩:=yD h4
 exact⟨⟨i,t,f,g,fs⟩,((((r0.append r1).append r2).append r3).append r4),l1,l4⟩
structure MM (g:bj):Prop where
 ns:g.nodes.length≤maxLen
 es:g.edges.length≤maxLen
 n:∀ x∈g.nodes,EN x.labels∧wv x.fields
 e:∀ x∈g.edges,x.type.length≤maxLen∧wv x.fields
theorem Hn{fuel:Nat}{cs:List Value}{x:DataW H×List MemPlace}(h:DataW.trod enc Tryz.prog w base (fun _=>true) held fuel 25 cs=some x)(hl:cs.length=2):∃ g:bj,Rs (kh w) (gc g) cs∧MM g:=by
 obtain⟨n,hf⟩:=qU (L:=[(22,0),(23,1)]) (by kernel_rfl) (by decide) h
 obtain⟨a,b,rfl⟩:=MB hl
 obtain⟨y0,h0⟩:=hf 0 _ rfl
 obtain⟨y1,h1⟩:=hf 1 _ rfl
 rw[M8]at h0
 rw[M7]at h1
 obtain⟨ns,v0,e0,r0,o0,l0,k0⟩:=pW (α:=Nd) (e:=104) (sz:=3) (by kernel_rfl) (by kernel_rfl) (by decide) nc (fun y=>EN y.labels∧wv y.fields) dI (fun fuel cs x h hl=>JD h hl) h0
 obtain⟨es,v1,e1,r1,o1,l1,k1⟩:=pW (α:=Eg) (e:=106) (sz:=5) (by kernel_rfl) (by kernel_rfl) (by decide) ec (fun y=>y.type.length≤maxLen∧wv y.fields) dl (fun fuel cs x h hl=>JE h hl) h1
 simp only[lZ,ji,List.take_zero,List.drop_succ_cons]at e0 e1
 cases e0;cases e1
 exact⟨⟨ns,es⟩,(xM r0 o0).append (xM r1 o1),l0,l1,k0,k1⟩
end
end Go.PM
namespace Go.PM
open Go Go.Proofs Go.Proofs.YtdpamjikmlbmhaaGreatDoor Go.ChangeShapes Go.WideShapes Go.RowKit Go.Lib
def xc:List (String×DataW Unit):=[("math/bits.deBruijn32tab",Rows.laid_math_bits_deBruijn32tab),("math/bits.deBruijn64tab",Rows.laid_math_bits_deBruijn64tab),("internal/strconv.uint64pow10",Rows.laid_internal_strconv_uint64pow10),("strconv.ErrRange",Rows.laid_strconv_ErrRange),("strconv.ErrSyntax",Rows.laid_strconv_ErrSyntax)]
section
variable {W:World}
theorem rX(hsh:W.ShapedOpen Tryz.prog){g:Nat}(hg:g<Tryz.prog.globals.size)(h:(((begin Tryz.prog (fun _ _=>0) default).world.heap[g]?).bind Obj.row?).isSome=true):∃ cs t,W.heap[g]? =some (.cells cs t (0,0)):=by
 obtain⟨x,hx⟩:=bR.1 h
 obtain⟨cs,h1,_⟩:=hsh.1 g x.1 x.2 hg hx
 exact⟨cs,x.2,h1⟩
theorem xP{n:String}{g:Nat}(hn:Tryz.prog.globalNamed n=some g){cs:Array Value}(hv:W.var? Tryz.prog n=some cs){c:Array Value}{t:TypeId}{f:Nat×Nat}(hh:W.heap[g]? =some (.cells c t f)):W.heap[g]? =some (.cells cs t f):=by
 unfold World.var? at hv
 rw[hn]at hv
 simp only[dr,hh]at hv
 cases hv
 exact hh
theorem KQ(hL:laidMet Tryz.prog xc W):TabIs Tryz.prog W "internal/strconv.uint64pow10" .u64 pow10Tab:=
 tabIs_of_head (t:=232) (e:=170) (n:=20) Ei (by kernel_rfl) (by kernel_rfl) (by kernel_rfl) (by kernel_rfl) (by kernel_rfl) (rest:=[("strconv.ErrRange",Rows.laid_strconv_ErrRange),("strconv.ErrSyntax",Rows.laid_strconv_ErrSyntax)]) hL.tail.tail
theorem BS(u:TypeId)(h:Tryz.prog.typeName? 3 u=some "*errors.errorString"):u=270:=
 typeName_ptr_named (nm:= "errors.errorString") (by rw[show "*" ++ "errors.errorString" = "*errors.errorString" by decide];kernel_rfl) (by kernel_rfl) (by decide) u (by rw[show "*" ++ "errors.errorString" = "*errors.errorString" by decide];exact h)
theorem Hz{fs:Array Field}{t o:Nat}(h:(fs.toList.map fun f=>(f.type,f.offset))=[(t,o)]):∃ f,fs= #[f]∧f.type=t∧f.offset=o:=by
 obtain⟨l⟩:=fs
 match l,h with
 | [f],h=>
  simp only[aF,bK,List.cons.injEq,bE,and_true]at h
  exact⟨f,rfl,h.1,h.2⟩
theorem uZ{n:String}{text:List UInt8}{r:List (String×DataW Unit)}{g:Nat}(h:laidMet Tryz.prog ((n,.iface "*errors.errorString" (.ptr (.agg [.lit (.string text)])))::r) W)
  (hg:Tryz.prog.globalNamed n=some g) (ht:(Tryz.prog.globals[g]?).map (·.type)=some 251):∃ a:Addr,W.var? Tryz.prog n=some #[.iface 270 (.pointer (some a))]:=by
 obtain⟨fs,hfs⟩:∃ f,Tryz.prog.underlying 272=some (.struct #[f])∧f.type=9∧f.offset=0:=by
  have h1:zW 272=[(9,0)]:=by kernel_rfl
  unfold zW at h1
  split at h1
  ·rename_i fs hfs
   obtain⟨f,rfl,h2,h3⟩:=Hz h1
   exact⟨f,hfs,h2,h3⟩
  ·cases h1
 obtain⟨a,s,h1,_⟩:=laid_sentinel h hg ht Tryz.underlying251 BS (show Tryz.prog.underlying 270=some (.pointer 272) by kernel_rfl) hfs.1 hfs.2.1 hfs.2.2 (by kernel_rfl) (by kernel_rfl) (by kernel_rfl)
 exact⟨a,h1⟩
theorem GV(hL:laidMetH Tryz.prog xc W)(hsh:W.ShapedOpen Tryz.prog):∃ pS pR,bt Tryz.prog (ii (.iface 270 pS) (.iface 270 pR)) (kh W) (cF [] []) W:=by
 have hL0:laidMet Tryz.prog xc W:=hL
 have ht:=KQ hL0
 obtain⟨aR,hR⟩:=uZ (r:=[("strconv.ErrSyntax",Rows.laid_strconv_ErrSyntax)]) (show laidMet Tryz.prog (("strconv.ErrRange",Rows.laid_strconv_ErrRange)::_) W from hL0.tail.tail.tail) Eh (by kernel_rfl)
 obtain⟨aS,hS⟩:=uZ (r:=[]) (show laidMet Tryz.prog (("strconv.ErrSyntax",Rows.laid_strconv_ErrSyntax)::_) W from hL0.tail.tail.tail.tail) Ef (by kernel_rfl)
 obtain⟨c0,t0,h0⟩:=rX hsh (g:=0) (of_decide_eq_true (by kernel_rfl)) (by kernel_rfl)
 obtain⟨c3,t3,h3⟩:=rX hsh (g:=3) (of_decide_eq_true (by kernel_rfl)) (by kernel_rfl)
 obtain⟨c4,t4,h4⟩:=rX hsh (g:=4) (of_decide_eq_true (by kernel_rfl)) (by kernel_rfl)
 have k0:=xP Ei ht h0
 have k3:=xP Ef hS h3
 have k4:=xP Eh hR h4
 have whole:∀ {b:Nat} {l:List Value} {t:TypeId},W.heap[b]? =some (.cells l.toArray t (0,0))→(∀ o,ii (.iface 270 (.pointer (some aS))) (.iface 270 (.pointer (some aR))) b o=l[o]?)→∀ o v,ii (.iface 270 (.pointer (some aS))) (.iface 270 (.pointer (some aR))) b o=some v→
   (kh W).com b o=some v∧(kh W).pv b=none∧Whole (ii (.iface 270 (.pointer (some aS))) (.iface 270 (.pointer (some aR)))) b ((kh W).sh b):=by
  intro b l t hb hl o v hv
  refine⟨?_,rfl,(t,l.length),?_,fun o ho=>?_⟩
  ·rw[hl]at hv
   show W.cell? ⟨b,o,none⟩=some v
   simp only[World.cell?,hb,Option.isSome_none,cA,if_false,gw]
   exact hv
  ·simp only[kh,hb,md]
  ·rw[hl,az ho]
   exact fun h=>by cases h
 refine⟨.pointer (some aS),.pointer (some aR),?_⟩
 have nf:∀ {α:Type} {x:α},(none:Option α)=some x→False:=fun h=>by cases h
 refine⟨fun b o v h=>h,fun b e k h=>JY h,rfl,fun t x h=>(nf h).elim,fun t h=>absurd h (ij _),fun t r h=>(nf h).elim,fun t u r q h=>(nf h).elim,fun t r h=>(nf h).elim,fun s cs h=>(nf h).elim,
  fun s b h=>(nf h).elim,fun s u b h=>(nf h).elim,fun _ _=>rfl,fun s cs h=>(nf h).elim,fun b k h=>(nf h).elim,fun b h=>Bool.noConfusion h,fun b o v h=>?_,fun s b e sz h=>(nf h).elim,fun s es h=>(nf h).elim,fun s b h=>(nf h).elim,
  fun s u b h=>(nf h).elim,fun _ _=>rfl,fun s b h=>(nf h).elim,fun t m h=>(nf h).elim⟩
 by_cases b0:b=0
 ·subst b0
  exact whole k0 (fun o=>by unfold ii;rw[ai rfl]) o v h
 ·by_cases b3:b=3
  ·subst b3
   exact whole (l:=[.iface 270 (.pointer (some aS))]) k3 (fun o=>by
    unfold ii
    rw[ad (by decide),ai rfl]
    cases o with
    |zero=>rfl
    |succ o=>simp) o v h
  ·by_cases b4:b=4
   ·subst b4
    exact whole (l:=[.iface 270 (.pointer (some aR))]) k4 (fun o=>by
     unfold ii
     rw[ad (by decide),ad (by decide),ai rfl]
     cases o with
     |zero=>rfl
     |succ o=>simp) o v h
   ·unfold ii at h
    rw[ad b0,ad b3,ad b4]at h
    cases h
theorem J1{G':Gh}{W':World}(hS:bV (kh W) W G' W'):∀ b,b<W.heap.size→W'.heap[b]? =W.heap[b]? :=fun b hb=>
 hS.kept b hb (fun s h=>by cases h) (fun t r h=>by cases h) (fun s h=>by cases h)
theorem B6{W':World}(he:W'.os=W.os∧W'.output=W.output)(hb:∀ b,b<W.heap.size→W'.heap[b]? =W.heap[b]?)(may:MemPlace→Prop):W.keptBut W' may:=by
 refine⟨he.1,he.2,fun i hi=>?_⟩
 rw[hb i hi]
 cases h:W.heap[i]? with
 |none=>rfl
 |some o=>cases o<;>first|exact⟨rfl,rfl,rfl,fun _ _=>rfl⟩|exact .inr ⟨rfl,rfl⟩|rfl
theorem Jy{W':World}(hb:∀ b,b<W.heap.size→W'.heap[b]? =W.heap[b]?){p:MemPlace}(hp:p.block<W.heap.size):W.sameAt W' p:=by
 cases p with
 |cell b o=>exact World.cell?_of_block (w:=W) (hb b hp)
 |map b=>exact hb b hp
theorem s8{H:Type}{enc:TypeId×Value→H}(hl:laidOutB Tryz.prog=true){W':World}(hb:∀ b,b<W.heap.size→W'.heap[b]? =W.heap[b]?):∀ {ts:List TypeId} {vs:List Value} {ds:List (DataW H)} {ps:List MemPlace},
  (∀ t∈ts,Tryz.prog.readableRec t=true∧t<Tryz.prog.types.size)→(∀ p∈ps,p.block<W.heap.size)→DataW.TrodAll enc Tryz.prog W 0 (fun _=>true) true ts vs ds ps→DataW.TrodAll enc Tryz.prog W' 0 (fun b=>decide (b<W.heap.size)) true ts vs ds ps
 | [],[],[],_,_,_,h=>h
 |t::ts,v::vs,d::ds,ps,ht,hp,h=>by
  obtain⟨p,q,h1,h2,rfl⟩:=h
  exact⟨p,q,WideElems.Trod_stays hl (ht t List.mem_cons_self).1 (ht t List.mem_cons_self).2 h1 (fun x hx=>Jy hb (hp x (gK _ hx))) (fun x hx=>by simpa using hp x (gK _ hx)),
   s8 hl hb (fun t h=>ht t (a7 _ h)) (fun x hx=>hp x (ik _ hx)) h2,rfl⟩
theorem JT:laidOutB Tryz.prog=true:=by kernel_rfl
end
end Go.PM
namespace Go.PM
open Go.Lib
variable {cf:au} {st:St} {mk:PV→St→Fr×St} {A:Fr×St→Prop} {s:Nat}
def nf(l:List (List UInt8)):List Fd:=l.map fun n=>(n,[])
def cc(c:Ch):List PV:=[I c.kind,I c.node.id,TX c.node.labels,FX c.node.fields,I c.edge.id,S c.edge.type,I c.edge.src,I c.edge.dst,FX c.edge.fields,S c.value,S c.name,S c.text]
theorem Em{α β:Type}{f:α→List β}{m:Nat}(h:∀ a,(f a).length≤m):∀ l:List α,(l.flatMap f).length≤l.length*m
 | []=>by simp
 |a::l=>by
  have:=Em h l
  have:=h a
  rw[aI,ak,ao,fb];omega
theorem GP:∀ l:List (List UInt8),b8 (l.map S)
 | []=>dK
 |_::l=>bq (cD _) (GP l)
end Go.PM
namespace Go.PM
open Go.Lib
theorem vp{g:bj}(h:bY g=true):g.nodes.length≤200∧g.edges.length≤400∧(∀ i,i<g.nodes.length→dS g.nodes i=true)∧∀ i,i<g.edges.length→bZ g i=true:=by
 unfold bY at h
 rw[aa,aa,aa]at h
 have h1:=of_decide_eq_true h.1.1
 have h2:=of_decide_eq_true h.1.2
 exact⟨by omega,by omega,mN.1 h.2.1,mN.1 h.2.2⟩
theorem pt{l:List Fd}(h:fT l=true):l.length≤20:=by
 unfold fT at h
 rw[aa]at h
 have:=of_decide_eq_true h.1
 omega
theorem AH:∀ {l:List (List UInt8)},(∀ i,(h:i+1<l.length)→ej l[i] l[i+1]=true)→kg l
 | [],_=>List.Pairwise.nil
 | [a],_=>fR _ _
 |a::b::l,h=>by
  have ih:kg (b::l):=AH fun i hi=>by
   have:=h (i+1) (by simp only[ao]at hi ⊢;omega)
   simpa using this
  have h0:ej a b=true:=by simpa using h 0 (by simp)
  refine List.Pairwise.cons (fun c hc=>?_) ih
  rcases aJ.1 hc with rfl|hc
  ·exact h0
  ·exact mY h0 ((b6.1 ih).1 c hc)
theorem Bb:iQ pi=false:=by decide
theorem rg{l:List Fd}(h:fT l=true):IS l:=by
 unfold fT at h
 rw[aa]at h
 have hall:=mN.1 h.2
 refine⟨AH fun i hi=>?_,fun f hf e=>?_⟩
 ·rw[bu]at hi
  have:=hall (i+1) hi
  rw[dx,aa,aa,mo]at this
  have h2:=this.2.1
  simp only[lM,qq hi,qq (show i<l.length by omega),bP,decide_eq_true_eq]at h2
  rcases h2 with h2|h2
  ·omega
  ·simpa using h2
 ·obtain⟨j,hj,he⟩:=cP hf
  have:=hall j hj
  rw[dx,aa,aa,qq hj,he,e,Bb]at this
  exact absurd this.2.2 (by simp)
theorem sq{l:List (List UInt8)}(h:gF 10 l=true):l.length≤10:=by
 unfold gF at h
 rw[aa]at h
 have:=of_decide_eq_true h.1
 omega
theorem I6{n:Int}(h:jI n=true):1≤n∧n≤1000000000000:=by
 unfold jI at h
 rw[aa]at h
 exact⟨of_decide_eq_true h.1,of_decide_eq_true h.2⟩
structure M1 (n:Nd):Prop where
 fl:n.fields.length≤20
 ll:n.labels.length≤10
 fd:IS n.fields
 id:1≤n.id∧n.id≤1000000000000
structure M3 (e:Eg):Prop where
 fl:e.fields.length≤20
 fd:IS e.fields
 id:1≤e.id∧e.id≤1000000000000
def rJ(l:List Eg):Prop:=l.Pairwise fun a b=>a.id<b.id
theorem zh:∀ {l:List Eg},(∀ i,(h:i+1<l.length)→l[i].id<l[i+1].id)→rJ l
 | [],_=>List.Pairwise.nil
 | [a],_=>fR _ _
 |a::b::l,h=>by
  have ih:rJ (b::l):=zh fun i hi=>by
   have:=h (i+1) (by simp only[ao]at hi ⊢;omega)
   simpa using this
  have h0:a.id<b.id:=by simpa using h 0 (by simp)
  refine List.Pairwise.cons (fun c hc=>?_) ih
  rcases aJ.1 hc with rfl|hc
  ·exact h0
  ·exact Int.lt_trans h0 ((b6.1 ih).1 c hc)
structure IR (g:bj):Prop where
 nl:g.nodes.length≤200
 el:g.edges.length≤400
 ns:∀ n∈g.nodes,M1 n
 es:∀ e∈g.edges,M3 e
 nr:wL g.nodes
 er:rJ g.edges
theorem uG{g:bj}(h:bY g=true):IR g:=by
 obtain⟨h1,h2,h3,h4⟩:=vp h
 refine⟨h1,h2,fun n hn=>?_,fun e he=>?_,vo h,zh fun i hi=>?_⟩
 ·obtain⟨j,hj,rfl⟩:=cP hn
  have:=h3 j hj
  rw[dS,aa,oQ hj,nC,aa,aa]at this
  exact⟨pt this.1.2.2,sq this.1.2.1,rg this.1.2.2,I6 this.1.1⟩
 ·obtain⟨j,hj,rfl⟩:=cP he
  have:=h4 j hj
  rw[bZ,aa,nI hj,mr,aa,aa,aa,aa]at this
  exact⟨pt this.1.2.2.2.2,rg this.1.2.2.2.2,I6 this.1.1⟩
 ·have:=h4 (i+1) hi
  rw[bZ,aa,aa,kY]at this
  have h2:=this.2.1
  simp only[lM,nI hi,nI (show i<g.edges.length by omega),bP,decide_eq_true_eq]at h2
  rcases h2 with h2|h2
  ·omega
  ·exact h2
theorem Er:∀ {l:List Eg},rJ l→∀ {x:Eg},x∈l→qv l x.id=some x
 | [],_,_,h=>by simp at h
 |y::l,hr,x,h=>by
  have h2:=b6.1 hr
  unfold qv
  rw[List.find?_cons]
  rcases aJ.1 h with rfl|hx
  ·simp
  ·have:y.id<x.id:=h2.1 x hx
   have hne:decide (y.id=x.id)=false:=by simp;omega
   rw[hne]
   exact Er h2.2 hx
theorem A8{α β:Type}{f g:α→List β}:∀ {l:List α},(∀ a∈l,f a=g a)→l.flatMap f=l.flatMap g
 | [],_=>rfl
 |a::l,h=>by
  rw[aI,aI,h a List.mem_cons_self,A8 fun x hx=>h x (a7 _ hx)]
end Go.PM
namespace Go.PM
open Go.Lib
variable {cf:au} {st:St} {mk:PV→St→Fr×St} {A:Fr×St→Prop} {s:Nat}
theorem B8{α β:Type}{f:α→List β}{m:Nat}:∀ {l:List α},(∀ a∈l,(f a).length≤m)→(l.flatMap f).length≤l.length*m
 | [],_=>by simp
 |a::l,h=>by
  have:=B8 (f:=f) (l:=l) (m:=m) fun x hx=>h x (a7 _ hx)
  have:=h a List.mem_cons_self
  rw[aI,ak,ao,fb];omega
def KX(f:Nat)(p:PV)(st:St):Option (PV×St):=if fg p||np p then some (.fn f [p],st)else none
theorem MS:(∀ {cf:au} {fr:Fr} {st:St} {d:Option Nat} {f:Nat} {x:CX},ap cf fr st d (.mkfn f [x])=KX f (x.ev fr) st)∧(∀ {f s o:Nat} {st:St},KX f (.ptr s o) st=some (.fn f [.ptr s o],st)):=
 ⟨by intros;simp[ap,KX],rfl⟩
structure Nf (c:Ch):Prop where
 ll:c.node.labels.length≤2000000
 nf:c.node.fields.length≤2000000
 ef:c.edge.fields.length≤2000000
abbrev Sh:=Nat×Nat×Nat
def mB(k:Nat)(x:Sh):Nat:=k+2+x.1+2*x.2.1
def HG(k:Nat)(x:Sh):Ch:=⟨k,⟨(k+1:Nat),nQ (k+2) x.1,kx (k+2+x.1) x.2.1⟩,⟨(mB k x:Nat),mt (mB k x+1),(mB k x+2:Nat),(mB k x+3:Nat),kx (mB k x+4) x.2.2⟩,mt (mB k x+4+2*x.2.2),mt (mB k x+4+2*x.2.2+1),mt (mB k x+4+2*x.2.2+2)⟩
def mE(k:Nat)(x:Sh):Nat:=mB k x+4+2*x.2.2+3
def w6:List Sh→Nat→List Ch
 | [],_=>[]
 |x::l,k=>HG k x::w6 l (mE k x)
def ma:List Sh→Nat→Nat
 | [],k=>k
 |x::l,k=>ma l (mE k x)
theorem HF:∀ (l:List Sh) (x:Sh) (k:Nat),w6 (l++[x]) k=w6 l k++[HG (ma l k) x]∧ma (l++[x]) k=mE (ma l k) x
 | [],x,k=>⟨rfl,rfl⟩
 |y::l,x,k=>by
  obtain⟨h1,h2⟩:=HF l x (mE k y)
  exact⟨by simp only[aM,w6,ma,h1],by simp only[aM,ma,h2]⟩
theorem Ie:∀ (l m:List Sh) (k:Nat),ma (l++m) k=ma m (ma l k)
 | [],_,_=>rfl
 |x::l,m,k=>by rw[aM,ma,ma,Ie l m]
theorem Mc(k:Nat)(x:Sh):k+9≤mE k x:=by unfold mE mB;omega
theorem Ic:∀ (l:List Sh) (k:Nat),k+l.length≤ma l k
 | [],_=>aD _
 |x::l,k=>by have:=Ic l (mE k x);have:=Mc k x;rw[ma,ao];omega
theorem JR:∀ (l:List Sh) (k:Nat),(w6 l k).length=l.length
 | [],_=>rfl
 |x::l,k=>by rw[w6,ao,JR l,ao]
theorem K1:∀ (l:List Sh) (k i:Nat) (h:i<(w6 l k).length) (h':i<l.length),(w6 l k)[i]=HG (ma (l.take i) k) l[i]∧ma (l.take (i+1)) k=mE (ma (l.take i) k) l[i]
 |x::l,k,0,_,_=>⟨rfl,rfl⟩
 |x::l,k,i+1,h,h'=>K1 l (mE k x) i (by simpa [w6]using h) (by simpa using h')
end Go.PM
namespace Go.PM
def re(J mv:List Nat)(i:Nat):List PV→List PV
 | []=>[]
 |p::ps=>(if mv.contains i then ren (bG J) false p else aA p)::re J mv (i+1) ps
theorem za(J mv:List Nat):∀ (a9z:List PV) (i n:Nat),a9z.all bI=true→d9 J mv i n a9z=re J mv i a9z
 | [],_,_,_=>rfl
 |p::ps,i,n,h=>by
  rw[dc,aa]at h
  have ih:=za J mv ps (i+1) n h.2
  cases p<;>first|(simp only[d9,re,ih];done)|exact absurd h.1 (by simp[bI])
section
variable {cf:au} {f:Nat} {F:bn} {st:St} {rs:List gr}
def q9(J ns:List Nat)(b:Bool)(st:St):St:={ez J ns st with fl:=if b then st.fl else st.nx}
theorem AN{J ns:List Nat}{b:Bool}{st:St}:(q9 J ns b st).nx=st.nx+ns.length:=St.more_nx st ns
theorem Im{a9z:List PV}{mv:List Nat}(hmv:mv≠ [])(hr:a9z.all bI=true)(hk:a6 st (jx mv 0 a9z))(hsp:jR ((jx mv 0 a9z).map (·.1)) mv 0 a9z=true){r:PV}{ns:List Nat}
  (hc:cf f (re ((jx mv 0 a9z).map (·.1)) mv 0 a9z) ((jx mv 0 a9z).map (·.2)) []=some (r,ns,[])):
  ar cf f a9z mv st=some (ren (fun k=>some (st.nx+k)) false r,q9 ((jx mv 0 a9z).map (·.1)) ns (ed r) st)∧cX a9z mv st=(jx mv 0 a9z).map (·.1):=by
 have hb:∀ J l,rP l ([]:List (List PV))=[]∧jX J l ([]:List (List PV))=[]∧lG J l ([]:List (List PV))=true:=by intro J l;cases l<;>exact⟨rfl,rfl,rfl⟩
 have hm:dy mv a9z []=jx mv 0 a9z:=by rw[dy,(hb [] _).1,aO]
 cases mv with
 |nil=>exact absurd rfl hmv
 |cons m mv=>
 constructor
 ·simp only[ar,dX hr,cE,hm,m7 hk.1,hk.ok,hsp,(hb _ _).2.1,(hb _ _).2.2,am,if_true,za _ _ _ _ _ hr,hc,aV,dw,du,cr]
  rfl
 ·simp only[cX,dX hr,cE,hm]
def Hw(Q:PV→St→Prop)(o:Option (List PV))(st:St):Prop:=match o with
 |some ps=>gM ps=true∧Q (eq ps) st
 |none=>False
def sT(rs:List gr)(Q:PV→St→Prop)(e:Ex)(y:Fr×St):Prop:=iA e∧Hw Q (ei y.1 y.2 rs) y.2
theorem vK:
  (∀ {fr:Fr} {st:St} {Q:PV→St→Prop} {rs:List gr},sT rs Q .ret (fr,st)↔Hw Q (ei fr st rs) st)∧(∀ {fr:Fr} {st:St} {r:gr} {rs:List gr},ei fr st (r::rs)=sF (lw fr st r) (ei fr st rs))∧(∀ {fr:Fr} {st:St},ei fr st []=some [])∧
  (∀ {fr:Fr} {st:St} {t:Nat},lw fr st (.tmp t)=some (fr t))∧(∀ {fr:Fr} {st:St} {a sz:Nat} {ag:Bool},lw fr st (.cell a sz ag)=sI (fr a) sz ag st)∧(∀ {s al sz:Nat} {ag:Bool} {st:St},sI (.ptr s al) sz ag st=tL (st.objs s) al sz ag)∧
  (∀ {p:PV} {ps:List PV},sF (some p) (some ps)=some (p::ps))∧(∀ {Q:PV→St→Prop} {ps:List PV} {st:St},Hw Q (some ps) st↔gM ps=true∧Q (eq ps) st)∧(∀ {p:PV},eq [p]=p)∧(∀ {p q:PV} {ps:List PV},eq (p::q::ps)= .tup (p::q::ps))∧
  (∀ {J ns:List Nat} {b:Bool} {st:St} {s:Nat},(q9 J ns b st).objs s=(st.objs s).map fun c=>c.map (bJ J)):=
 ⟨by intros;exact⟨fun h=>h.2,fun h=>⟨m9.2 trivial,h⟩⟩,r7,rfl,rfl,rfl,rfl,rfl,Iff.rfl,rfl,rfl,rfl⟩
theorem G6{r0:PV}{s1:St}{cs:List (List PV)}:(a6 s1 (aq r0++iU cs)∧jr true s1 r0 cs=(ren (bG ((aq r0++iU cs).map (·.1))) false r0,(aq r0++iU cs).map (·.2),cs.map (bB (bG ((aq r0++iU cs).map (·.1))) false)))∨(¬a6 s1 (aq r0++iU cs)∧(jr true s1 r0 cs=(aA r0,[],cs.map aB)∨∃ f:Nat→Option Nat,jr true s1 r0 cs=(ren f false r0,(aq r0++iU cs).map (·.2),cs.map (bB f false)))):=by
 by_cases h:a6 s1 (aq r0++iU cs)
 ·refine .inl ⟨h,?_⟩
  simp only[jr,m7 h.1,h.ok,am,if_true]
 ·refine .inr ⟨h,?_⟩
  unfold jr
  split
  ·exact .inr ⟨_,rfl⟩
  ·exact .inl rfl
structure BG (s1:St) (r0 r:PV) (ns:List Nat):Prop where
 st:aA r=aA r0
 np:np r=np r0
 ok:a6 s1 (aq r0)→∃ g:Nat→Option Nat,r=ren g false r0∧(∀ q∈aq r0,(g q.1).isSome=true)∧ns=(aq r0).map (·.2)∧aq r=cY 0 ns
theorem IZ{a9z:List PV}(hown:F.own=true)(hres:F.res=rs)(N:Nat){ns0:List Nat}{P:PV→St→Prop}(hnt:a9z.length≤F.nt)(h:Wp cf N F.body (eP a9z,cF ns0 []) (sT rs P)):
  ∃ r0 s1 r ns,P r0 s1∧ff cf N F a9z ns0 []=some (r,ns,[])∧PM.np r0=true∧BG s1 r0 r ns:=by
 obtain⟨e,⟨fr,s1⟩,hev,he,ho⟩:=h
 subst hres
 revert ho
 generalize hps:ei fr s1 F.res=o1
 intro ho
 match o1,ho with
 |some ps,ho=>
  obtain⟨hg,hP⟩:=ho
  have h0:cE s1 (List.range 0)=some []:=rfl
  obtain⟨hrow,-⟩:=oB hg
  have hm:=mj F.nk s1 ps hrow
  have hn:=AL hg
  have hf:ge F 0 fr s1=some (jr true s1 (eq ps) []):=by
   simp only[ge,hps,h0,hm,hn,du,am,if_true,hown]
  have hrun:ff cf N F a9z ns0 []=some (jr true s1 (eq ps) []):=by
   unfold ff
   rw[ai ⟨hnt,aY _⟩,hev]
   cases e with
   |go=>exact hf
   |ret=>exact hf
   |exit i=>exact he.elim
  have hta:iU []=[]:=rfl
  have h2:=G6 (r0:=eq ps) (s1:=s1) (cs:=[])
  simp only[hta,aO,bK]at h2
  rcases h2 with⟨hk,h2⟩|⟨hk,h2|⟨g,h2⟩⟩
  ·rw[h2]at hrun
   refine⟨eq ps,s1,_,_,hP,hrun,hn,by rw[hO],by simp only[PM.np,fC],fun _=>⟨_,rfl,fun q hq=>kz (cq.2 ⟨q,hq,rfl⟩),rfl,?_⟩⟩
   have h1:aq (ren (bG ((aq (eq ps)).map (·.1))) false (eq ps))=(aq (eq ps)).map fun q=>((bG ((aq (eq ps)).map (·.1)) q.1).getD 0,q.2):=
    mD _ (fun k=>(bG ((aq (eq ps)).map (·.1)) k).getD 0) (eq ps) fun q hq=>by
     obtain⟨i,hi⟩:=bR.1 (kz (cq.2 ⟨q,hq,rfl⟩));rw[hi];rfl
   rw[h1];have:=lU 0 hk.1;simpa using this
  ·rw[h2]at hrun
   exact⟨eq ps,s1,_,_,hP,hrun,hn,qT _ _ _,by rw[HB],fun h=>absurd h hk⟩
  ·rw[h2]at hrun
   exact⟨eq ps,s1,_,_,hP,hrun,hn,by rw[hO],by simp only[PM.np,fC],fun h=>absurd h hk⟩
end
def lg(x:Fd):List Fd→List Fd
 | []=>[x]
 |y::l=>if ej y.1 x.1=true then y::lg x l else x::y::l
def wC(l:List Fd):List Fd:=l.foldl (fun o x=>lg x o) []
theorem rW(l:List Fd)(x:Fd):wC (l++[x])=lg x (wC l):=by simp[wC]
theorem HW(x:Fd):∀ l:List Fd,(lg x l).length=l.length+1
 | []=>rfl
 |y::l=>by
  rw[lg]
  split
  ·rw[ao,HW x l,ao]
  ·rfl
theorem AR{x y:Fd}:∀ {l:List Fd},y∈lg x l↔y=x∨y∈l
 | []=>by simp[lg]
 |z::l=>by
  rw[lg]
  split
  ·rw[aJ,AR (l:=l),aJ]
   constructor
   ·rintro(h|h|h)<;>simp[h]
   ·rintro(h|h|h)<;>simp[h]
  ·rw[aJ]
def o8(l:List Fd):Prop:=l.Pairwise fun a b=>ej a.1 b.1=true
theorem A2{x:Fd}:∀ {l:List Fd},o8 l→(∀ y∈l,y.1≠x.1)→o8 (lg x l)
 | [],_,_=>fR _ _
 |y::l,h,hn=>by
  have h2:=b6.1 h
  rw[lg]
  split
  ·rename_i hy
   refine b6.2 ⟨fun z hz=>?_,A2 h2.2 fun z hz=>hn z (a7 _ hz)⟩
   rcases AR.1 hz with rfl|hz
   ·exact hy
   ·exact h2.1 z hz
  ·rename_i hy
   have hxy:ej x.1 y.1=true:=by
    cases hc:ej x.1 y.1 with
    |true=>rfl
    |false=>exact absurd (qO (by simpa using hy) hc) (hn y List.mem_cons_self)
   refine b6.2 ⟨fun z hz=>?_,h⟩
   rcases aJ.1 hz with rfl|hz
   ·exact hxy
   ·exact mY hxy (h2.1 z hz)
theorem y7{x:Fd}:∀ {l:List Fd} {k:Nat},k≤l.length→(∀ j (h:j<l.length),j<k→ej l[j].1 x.1=true)→(∀ h:k<l.length,ej l[k].1 x.1=false)→lg x l=l.take k++x::l.drop k
 | [],k,hk,_,_=>by
  have:k=0:=by simpa using hk
  subst this;rfl
 |y::l,0,_,_,h2=>by
  have hy:ej y.1 x.1=false:=h2 (by simp)
  rw[lg,ad (by rw[hy];simp)];rfl
 |y::l,k+1,hk,h1,h2=>by
  have hy:ej y.1 x.1=true:=h1 0 (by simp) (by omega)
  rw[lg,ai hy,y7 (k:=k) (by simpa using hk) (fun j h hj=>by have:=h1 (j+1) (by simpa using h) (by omega);simpa using this) (fun h=>by have:=h2 (by simpa using h);simpa using this)]
  rfl
theorem wB:∀ {l:List Fd},o8 l→wC l=l:=by
 intro l
 induction h:l.length generalizing l with
 |zero=>intro _;rw[List.length_eq_zero_iff.1 h];rfl
 |succ n ih=>
  intro ho
  obtain⟨l0,x,rfl⟩:∃ l0 x,l=l0++[x]:=⟨l.dropLast,l.getLast (by intro e;rw[e]at h;simp at h),(List.dropLast_concat_getLast _).symm⟩
  rw[ak]at h
  have h2:=List.pairwise_append.1 ho
  rw[rW,ih (by simpa using h) h2.1,y7 (k:=l0.length) (aD _) (fun j hj _=>h2.2.2 _ (bL hj) x (by simp)) (fun h=>absurd h (by omega))]
  simp
def vJ(l:List Fd)(n v:List UInt8):List Fd:=if v=pi then l.filter (fun f=>decide (f.1≠n))else wC (l.filter (fun f=>decide (f.1≠n))++[(n,v)])
def ux(n v:List UInt8):Bool→List Fd→List Fd
 |b,[]=>if b then []else [(n,v)]
 |b,f::l=>(if b=false∧ej f.1 n=false then [(n,v)]else [])++(if f.1≠n then [f]else [])++ux n v (b||!ej f.1 n) l
def AC(l:List Fd)(n v:List UInt8):List Fd:=ux n v (decide (v=pi)) l
theorem sa(n v:List UInt8):∀ l:List Fd,ux n v true l=l.filter fun f=>decide (f.1≠n)
 | []=>rfl
 |f::l=>by
  rw[ux,Bool.true_or,sa n v l,List.filter_cons]
  by_cases h:f.1=n<;>simp[h]
theorem yG{n v:List UInt8}:∀ {l:List Fd},o8 l→ux n v false l=lg (n,v) (l.filter fun f=>decide (f.1≠n))
 | [],_=>rfl
 |f::l,h=>by
  have h2:=b6.1 h
  rw[ux,Bool.false_or]
  cases hf:ej f.1 n with
  |true=>
   have hne:f.1≠n:=fun e=>by rw[e,nw]at hf;cases hf
   rw[List.filter_cons_of_pos (by simpa using hne),lg,ai hf,Bool.not_true,yG h2.2]
   simp[hne]
  |false=>
   rw[Bool.not_false,sa]
   by_cases hne:f.1=n
   ·rw[List.filter_cons_of_neg (by simp[hne])]
    have hall:∀ y∈l.filter (fun f=>decide (f.1≠n)),ej y.1 n=false:=fun y hy=>by
     have:=h2.1 y (jF.1 hy).1
     rw[hne]at this;exact tr this
    generalize l.filter (fun f=>decide (f.1≠n))=m at*
    cases m with
    |nil=>simp[lg,hne]
    |cons y m=>simp[lg,hall y List.mem_cons_self,hne]
   ·rw[List.filter_cons_of_pos (by simpa using hne)];simp[lg,hf,hne]
theorem Ay{l:List Fd}(ho:o8 l)(n v:List UInt8):AC l n v=vJ l n v:=by
 have hk:o8 (l.filter fun f=>decide (f.1≠n)):=List.Pairwise.filter _ ho
 unfold AC vJ
 by_cases hv:v=pi
 ·rw[ai hv,decide_eq_true hv,sa]
 ·rw[ad hv,decide_eq_false hv,yG ho,rW,wB hk]
theorem AB{l:List Fd}(ho:o8 l)(n v:List UInt8):o8 (vJ l n v):=by
 have hk:o8 (l.filter fun f=>decide (f.1≠n)):=List.Pairwise.filter _ ho
 unfold vJ
 by_cases hv:v=pi
 ·rw[ai hv];exact hk
 ·rw[ad hv,rW,wB hk]
  exact A2 hk fun y hy=>by simpa using(jF.1 hy).2
theorem uI{l:List Fd}(h:kg (l.map (·.1))):o8 l:=me.1 h
def A4(c:Ch):Bool:=
 if c.kind=1 then nC c.node else if c.kind=2 then jI c.node.id else if c.kind=3 then mr c.edge else if c.kind=4 then jI c.edge.id
 else if c.kind=5 then jI c.node.id && gF 10 c.node.labels
 else if c.kind=6 then(match fW c.value with
  |some v=>decide (v.kind=8)||decide (v.kind=9)
  |none=>false) && (dE c.name && (decide (c.text=pi)||iQ c.text))
 else false
structure BC where
 insN:Nd→List Nd→List Nd
 insE:Eg→List Eg→List Eg
 put:List Fd→List UInt8→List UInt8→List Fd
def wG(w:BC)(g:bj)(c:Ch)(id:Int):bj×Int:=
 if h:df g.nodes id<0 then(g,5)else
  if 20<(w.put (q8 g.nodes (df g.nodes id).toNat).fields c.name c.text).length then(g,4)
  else(⟨g.nodes.set (df g.nodes id).toNat {q8 g.nodes (df g.nodes id).toNat with fields:=w.put (q8 g.nodes (df g.nodes id).toNat).fields c.name c.text},g.edges⟩,0)
def wH(w:BC)(g:bj)(c:Ch)(id:Int):bj×Int:=
 if h:i7 g.edges id<0 then(g,5)else
  if 20<(w.put (qw g.edges (i7 g.edges id).toNat).fields c.name c.text).length then(g,4)
  else(⟨g.nodes,g.edges.set (i7 g.edges id).toNat {qw g.edges (i7 g.edges id).toNat with fields:=w.put (qw g.edges (i7 g.edges id).toNat).fields c.name c.text}⟩,0)
def wI(w:BC)(g:bj)(c:Ch):bj×Int:=match fW c.value with
 |some v=>if v.kind=9 then wH w g c v.num else wG w g c v.num
 |none=>(g,0)
def xD(w:BC)(g:bj)(c:Ch):bj×Int:=
 if A4 c=false then(g,1)
 else if c.kind=1 then(if 0≤df g.nodes c.node.id then(g,9)else if g.nodes.length=200 then(g,4)else(⟨w.insN c.node g.nodes,g.edges⟩,0))
 else if c.kind=2 then(if df g.nodes c.node.id<0 then(g,5)else if g.edges.any (fun e=>decide (e.src=c.node.id)||decide (e.dst=c.node.id))=true then(g,6)else(⟨g.nodes.eraseIdx (df g.nodes c.node.id).toNat,g.edges⟩,0))
 else if c.kind=3 then(if 0≤i7 g.edges c.edge.id then(g,9)else if df g.nodes c.edge.src<0∨df g.nodes c.edge.dst<0 then(g,5)else if g.edges.length=400 then(g,4)else(⟨g.nodes,w.insE c.edge g.edges⟩,0))
 else if c.kind=4 then(if i7 g.edges c.edge.id<0 then(g,5)else(⟨g.nodes,g.edges.eraseIdx (i7 g.edges c.edge.id).toNat⟩,0))
 else if c.kind=5 then(if df g.nodes c.node.id<0 then(g,5)else(⟨g.nodes.set (df g.nodes c.node.id).toNat {q8 g.nodes (df g.nodes c.node.id).toNat with labels:=c.node.labels},g.edges⟩,0))
 else wI w g c
def we(w:BC):Nat→bj→List Ch→bj×Nat×Int
 |_,g,[]=>(g,0,0)
 |i,g,c::l=>if(xD w g c).2≠0 then((xD w g c).1,i,(xD w g c).2)else we w (i+1) (xD w g c).1 l
def fq(x:Nd):List Nd→List Nd
 | []=>[x]
 |y::l=>if x.id<y.id then x::y::l else y::fq x l
def eK(x:Eg):List Eg→List Eg
 | []=>[x]
 |y::l=>if x.id<y.id then x::y::l else y::eK x l
def uE(x:Eg):List Eg→List Eg
 | []=>[x]
 |y::l=>if y.id<x.id then y::uE x l else x::y::l
def wS:BC:=⟨fq,eK,vJ⟩
def wP:BC:=⟨oZ,uE,AC⟩
theorem D0{l:List Nd}{id:Int}(h:¬0≤df l id):∀ y∈l,y.id≠id:=by
 have hg:∀ (l:List Nd) (i:Nat),¬0≤kJ id l i→∀ y∈l,y.id≠id:=by
  intro l
  induction l with
  |nil=>intro i _ y hy;cases hy
  |cons x l ih=>
   intro i hi y hy
   rw[kJ]at hi
   by_cases he:x.id=id
   ·rw[ai he]at hi;omega
   ·rw[ad he]at hi
    rcases aJ.1 hy with rfl|hy
    ·exact he
    ·exact ih _ hi y hy
 exact hg l 0 h
theorem Es{l:List Eg}{id:Int}(h:¬0≤i7 l id):∀ y∈l,y.id≠id:=by
 have hg:∀ (l:List Eg) (i:Nat),¬0≤o9 id l i→∀ y∈l,y.id≠id:=by
  intro l
  induction l with
  |nil=>intro i _ y hy;cases hy
  |cons x l ih=>
   intro i hi y hy
   rw[o9]at hi
   by_cases he:x.id=id
   ·rw[ai he]at hi;omega
   ·rw[ad he]at hi
    rcases aJ.1 hy with rfl|hy
    ·exact he
    ·exact ih _ hi y hy
 exact hg l 0 h
theorem tH{l:List Nd}{id:Int}:df l id<l.length:=by
 have hg:∀ (l:List Nd) (i:Nat),kJ id l i<(i+l.length:Nat):=by
  intro l
  induction l with
  |nil=>intro i;rw[kJ];omega
  |cons x l ih=>
   intro i
   rw[kJ]
   split
   ·simp only[ao];omega
   ·have:=ih (i+1);simp only[ao];omega
 simpa [df]using hg l 0
theorem zl{l:List Eg}{id:Int}:i7 l id<l.length:=by
 have hg:∀ (l:List Eg) (i:Nat),o9 id l i<(i+l.length:Nat):=by
  intro l
  induction l with
  |nil=>intro i;rw[o9];omega
  |cons x l ih=>
   intro i
   rw[o9]
   split
   ·simp only[ao];omega
   ·have:=ih (i+1);simp only[ao];omega
 simpa [i7]using hg l 0
theorem y5{x:Nd}:∀ {l:List Nd},(∀ y∈l,y.id≠x.id)→oZ x l=fq x l
 | [],_=>rfl
 |y::l,h=>by
  have h1:=h y List.mem_cons_self
  rw[oZ,fq]
  by_cases hy:y.id<x.id
  ·rw[ai hy,ad (by omega),y5 fun z hz=>h z (a7 _ hz)]
  ·rw[ad hy,ai (by omega)]
theorem y8{x:Eg}:∀ {l:List Eg},(∀ y∈l,y.id≠x.id)→uE x l=eK x l
 | [],_=>rfl
 |y::l,h=>by
  have h1:=h y List.mem_cons_self
  rw[uE,eK]
  by_cases hy:y.id<x.id
  ·rw[ai hy,ad (by omega),y8 fun z hz=>h z (a7 _ hz)]
  ·rw[ad hy,ai (by omega)]
theorem AQ{x y:Nd}:∀ {l:List Nd},y∈fq x l→y=x∨y∈l
 | [],h=>by simpa [fq]using h
 |z::l,h=>by
  rw[fq]at h
  split at h
  ·simpa using h
  ·rcases aJ.1 h with rfl|h
   ·simp
   ·rcases AQ h with h|h<;>simp[h]
theorem yP{x y:Eg}:∀ {l:List Eg},y∈eK x l→y=x∨y∈l
 | [],h=>by simpa [eK]using h
 |z::l,h=>by
  rw[eK]at h
  split at h
  ·simpa using h
  ·rcases aJ.1 h with rfl|h
   ·simp
   ·rcases yP h with h|h<;>simp[h]
theorem v6(x:Nd):∀ l:List Nd,(fq x l).length=l.length+1
 | []=>rfl
 |y::l=>by rw[fq];split<;>simp[v6 x l]
theorem tV(x:Eg):∀ l:List Eg,(eK x l).length=l.length+1
 | []=>rfl
 |y::l=>by rw[eK];split<;>simp[tV x l]
structure qH (g:bj):Prop where
 nl:g.nodes.length≤200
 el:g.edges.length≤400
 ns:∀ n∈g.nodes,n.labels.length≤10∧n.fields.length≤20∧o8 n.fields
 es:∀ e∈g.edges,e.fields.length≤20∧o8 e.fields
theorem JO{g:bj}(h:bY g=true):qH g:=by
 have:=uG h
 exact⟨this.nl,this.el,fun n hn=>⟨(this.ns n hn).ll,(this.ns n hn).fl,uI (this.ns n hn).fd.ord⟩,fun e he=>⟨(this.es e he).fl,uI (this.es e he).fd.ord⟩⟩
theorem x5{l:List Nd}{i:Nat}(h:i<l.length):q8 l i∈l:=by rw[oQ h];exact bL h
theorem C0{l:List Eg}{i:Nat}(h:i<l.length):qw l i∈l:=by rw[nI h];exact bL h
theorem ga{p:Prop}[Decidable p]{a b:bj×Int}{P:bj→Prop}(h1:p→P a.1)(h2:¬p→P b.1):P (if p then a else b).1:=by
 split
 ·exact h1 ‹_›
 ·exact h2 ‹_›
theorem vQ{g:bj}(c:Ch)(h:qH g):qH (xD wS g c).1:=by
 unfold xD
 refine ga (fun _=>h) fun hf=>?_
 have hf:A4 c=true:=by simpa using hf
 unfold A4 at hf
 refine ga (fun hk=>?_) fun hk1=>?_
 ·rw[ai hk]at hf
  refine ga (fun _=>h) fun _=>ga (fun _=>h) fun h2=>?_
  rw[nC,aa,aa]at hf
  refine⟨?_,h.el,fun n hn=>?_,h.es⟩
  ·show(fq _ _).length≤200
   rw[v6];have:=h.nl;omega
  ·rcases AQ hn with rfl|hn
   ·exact⟨sq hf.2.1,pt hf.2.2,uI (rg hf.2.2).ord⟩
   ·exact h.ns n hn
 rw[ad hk1]at hf
 refine ga (fun hk=>?_) fun hk2=>?_
 ·refine ga (fun _=>h) fun _=>ga (fun _=>h) fun h2=>?_
  exact⟨di (List.length_eraseIdx_le _ _) h.nl,h.el,fun n hn=>h.ns n (List.mem_of_mem_eraseIdx hn),h.es⟩
 rw[ad hk2]at hf
 refine ga (fun hk=>?_) fun hk3=>?_
 ·rw[ai hk]at hf
  refine ga (fun _=>h) fun _=>ga (fun _=>h) fun _=>ga (fun _=>h) fun h2=>?_
  rw[mr,aa,aa,aa,aa]at hf
  refine⟨h.nl,?_,h.ns,fun e he=>?_⟩
  ·show(eK _ _).length≤400
   rw[tV];have:=h.el;omega
  ·rcases yP he with rfl|he
   ·exact⟨pt hf.2.2.2.2,uI (rg hf.2.2.2.2).ord⟩
   ·exact h.es e he
 rw[ad hk3]at hf
 refine ga (fun hk=>?_) fun hk4=>?_
 ·refine ga (fun _=>h) fun _=>?_
  exact⟨h.nl,di (List.length_eraseIdx_le _ _) h.el,h.ns,fun e he=>h.es e (List.mem_of_mem_eraseIdx he)⟩
 rw[ad hk4]at hf
 refine ga (fun hk=>?_) fun hk5=>?_
 ·rw[ai hk,aa]at hf
  refine ga (fun _=>h) fun h0=>?_
  have hlt:= @tH g.nodes c.node.id
  refine⟨by simpa using h.nl,h.el,fun n hn=>?_,h.es⟩
  rcases eG hn with hn|rfl
  ·exact h.ns n hn
  ·have:=h.ns _ (x5 (l:=g.nodes) (i:=(df g.nodes c.node.id).toNat) (by omega))
   exact⟨sq hf.2,this.2⟩
 unfold wI
 split
 ·rename_i v _
  refine ga (fun _=>?_) fun _=>?_
  ·unfold wH
   split
   ·exact h
   ·have hlt:= @zl g.edges v.num
    refine ga (fun _=>h) fun hl=>?_
    refine⟨h.nl,by simpa using h.el,h.ns,fun e he=>?_⟩
    rcases eG he with he|rfl
    ·exact h.es e he
    ·exact⟨by simpa using hl,AB (h.es _ (C0 (by omega))).2 _ _⟩
  ·unfold wG
   split
   ·exact h
   ·have hlt:= @tH g.nodes v.num
    refine ga (fun _=>h) fun hl=>?_
    refine⟨by simpa using h.nl,h.el,fun n hn=>?_,h.es⟩
    rcases eG hn with hn|rfl
    ·exact h.ns n hn
    ·have:=h.ns _ (x5 (l:=g.nodes) (i:=(df g.nodes v.num).toNat) (by omega))
     exact⟨this.1,by simpa using hl,AB this.2.2 _ _⟩
 ·exact h
theorem Ih{g:bj}(c:Ch)(h:qH g):xD wP g c=xD wS g c:=by
 have h1:¬0≤df g.nodes c.node.id→wP.insN c.node g.nodes=wS.insN c.node g.nodes:=fun hn=>y5 (D0 hn)
 have h2:¬0≤i7 g.edges c.edge.id→wP.insE c.edge g.edges=wS.insE c.edge g.edges:=fun hn=>y8 (Es hn)
 have h3:∀ v,fW c.value=some v→wG wP g c v.num=wG wS g c v.num:=fun v _=>by
  unfold wG
  by_cases h0:df g.nodes v.num<0
  ·rw[dif_pos h0,dif_pos h0]
  ·have hlt:= @tH g.nodes v.num
   have:=Ay (h.ns _ (x5 (l:=g.nodes) (i:=(df g.nodes v.num).toNat) (by omega))).2.2 c.name c.text
   rw[dif_neg h0,dif_neg h0,show wP.put=AC from rfl,show wS.put=vJ from rfl,this]
 have h4:∀ v,fW c.value=some v→wH wP g c v.num=wH wS g c v.num:=fun v _=>by
  unfold wH
  by_cases h0:i7 g.edges v.num<0
  ·rw[dif_pos h0,dif_pos h0]
  ·have hlt:= @zl g.edges v.num
   have:=Ay (h.es _ (C0 (l:=g.edges) (i:=(i7 g.edges v.num).toNat) (by omega))).2 c.name c.text
   rw[dif_neg h0,dif_neg h0,show wP.put=AC from rfl,show wS.put=vJ from rfl,this]
 have h5:wI wP g c=wI wS g c:=by
  unfold wI
  cases hv:fW c.value with
  |none=>rfl
  |some v=>simp only[h3 v hv,h4 v hv]
 unfold xD
 rw[h5]
 by_cases a:0≤df g.nodes c.node.id<;>by_cases b:0≤i7 g.edges c.edge.id<;>simp only[a,b,if_true,if_false,h1,h2,not_false_eq_true]
theorem Ge:∀ (l:List Ch) (i:Nat) {g:bj},qH g→we wP i g l=we wS i g l
 | [],_,_,_=>rfl
 |c::l,i,g,h=>by
  rw[we,we,Ih c h]
  split
  ·rfl
  ·exact Ge l (i+1) (vQ c h)
theorem FA:∀ (l:List Ch) (i:Nat) {g:bj},qH g→qH (we wS i g l).1
 | [],_,_,h=>h
 |c::l,i,g,h=>by
  rw[we]
  split
  ·exact vQ c h
  ·exact FA l (i+1) (vQ c h)
end Go.PM
namespace Go.PM
open Go.Lib
variable {cf:au} {st:St} {mk:PV→St→Fr×St} {A:Fr×St→Prop} {s:Nat}
def xZ(e n:Nat):ay→Prop
 | .nil=>n=0
 | .full e'=>e'=e∧n=0
 | .own _ e'=>e'=e
 |_=>False
def th(t:ay)(n:Nat):List (Nat×Nat):=match t with
 | .own k _=>[(k,n)]
 |_=>[]
theorem rV{n:Nat}{cs:List PV}{t:ay}:aq (.list n cs t)=th t n++aw cs:=by cases t<;>rfl
mutual
theorem Dt:∀ p:PV,aq (aA p)=[]
 | .list n cs t=>by have ih:=iT cs;rw[ep,rV,ih];rfl
 | .iptr cs _ _=>by have ih:=iT cs;simp only[aA,aB,ren,aq]at ih ⊢;exact ih
 | .agg cs=>by have ih:=iT cs;simp only[aA,aB,ren,aq]at ih ⊢;exact ih
 | .tup cs=>by have ih:=iT cs;simp only[aA,aB,ren,aq]at ih ⊢;exact ih
 | .fn _ cs=>by have ih:=iT cs;simp only[aA,aB,ren,aq]at ih ⊢;exact ih
 | .any| .hole| .int _ _| .bool _| .str _| .nilp| .nili| .err| .ptr _ _| .osl _ _ _ _| .mp _=>rfl
theorem iT:∀ ps:List PV,aw (aB ps)=[]
 | []=>rfl
 |p::ps=>by
  have h1:=Dt p
  have h2:=iT ps
  simp only[aA,aB,bB,aw]at h1 h2 ⊢
  rw[h1,h2];rfl
end
theorem Ad{cs:List PV}(h:b8 cs):aw cs=[]:=by rw[←h.2.1];exact iT cs
theorem xW{f:Nat→Option Nat}{b:Bool}{cs:List PV}(h:b8 cs):bB f b cs=cs:=by
 have:=iG f b cs
 have h2:bB (fun _=>none) true cs=cs:=h.2.1
 rwa [h2]at this
theorem oa(g:bj):b8 (g.nodes.flatMap nc):=fw nc gE _
theorem oi(g:bj):b8 (g.edges.flatMap ec):=fw ec jL _
def gq(g:bj)(t u:ay):PV:= .agg [.list g.nodes.length (g.nodes.flatMap nc) t,.list g.edges.length (g.edges.flatMap ec) u]
def jk(g:bj)(t u:ay):Prop:=xZ 72 g.nodes.length t∧xZ 68 g.edges.length u
def eH(g:bj)(t u:ay):List (Nat×Nat):=th t g.nodes.length++th u g.edges.length
theorem od(g:bj)(t u:ay):aq (gq g t u)=eH g t u:=by
 have h1:=Ad (oa g)
 have h2:=Ad (oi g)
 show aw [_,_]=_
 rw[aw,aw,aw,rV,rV,h1,h2,aO,aO,aO];rfl
theorem Ee(g:bj)(t u:ay):np (gq g t u)=true:=by
 have h1:=(oa g).1
 have h2:=(oi g).1
 simp only[gq,np,al,cM,cr,aa]
 exact⟨h1,h2⟩
theorem H3(g:bj)(t u:ay):aA (gq g t u)= .agg (gc g):=by
 simp only[gq,av,(oa g).2.1,(oi g).2.1];rfl
theorem xw(f:Nat→Option Nat)(g:bj)(t u:ay):ren f false (gq g t u)=gq g (t.ren f false) (u.ren f false):=by
 simp only[gq,ren,bB,xW (oa g),xW (oi g)]
theorem AG{f:Nat→Option Nat}{e n:Nat}{t:ay}(h:xZ e n t)(hf:∀ q∈th t n,(f q.1).isSome=true):xZ e n (t.ren f false):=by
 cases t with
 |own k e'=>
  obtain⟨j,hj⟩:=bR.1 (hf (k,n) (by simp[th]))
  have hj:f k=some j:=hj
  simp only[ay.ren,hj];exact h
 |nil=>exact h
 |full e'=>exact h
 |no=>exact h.elim
 |sub k=>exact h.elim
 |el k e n=>exact h.elim
theorem vO{f:Nat→Option Nat}{g:bj}{t u:ay}(h:jk g t u)(hf:∀ q∈eH g t u,(f q.1).isSome=true):jk g (t.ren f false) (u.ren f false):=
 ⟨AG h.1 fun q hq=>hf q (gK _ hq),AG h.2 fun q hq=>hf q (ik _ hq)⟩
theorem Jh{e n:Nat}{t:ay}(h:xZ e n t)(hk:a6 st (th t n)):Gr e st.nx st.cnt n t:=by
 cases t with
 |own k e'=>
  obtain⟨h1,h2,-⟩:=hk.2 (k,n) (by simp[th])
  exact⟨h1,h2,h⟩
 |nil=>exact h
 |full e'=>exact h
 |no=>exact h.elim
 |sub k=>exact h.elim
 |el k e n=>exact h.elim
theorem IJ{g:bj}{t u:ay}(hk:a6 st (eH g t u)):jb t u:=by
 cases t<;>cases u<;>try trivial
 rename_i k e j e'
 show k≠j
 rintro rfl
 have:=hk.1 k
 simp[eH,th,ck]at this
theorem xu{g:bj}{t u:ay}{e e':Nat}(h1:Gr e st.nx st.cnt g.nodes.length t)(h2:Gr e' st.nx st.cnt g.edges.length u)(ha:jb t u)(hf:∀ k e,t= .own k e∨u= .own k e→st.fl≤k):a6 st (eH g t u):=by
 refine⟨fun k=>?_,fun q hq=>?_⟩
 ·cases t<;>cases u<;>simp only[eH,th,aO,bf,List.singleton_append,ck]<;>(try omega)<;>(try (split<;>omega))
  rename_i k1 e1 k2 e2
  have:k1≠k2:=ha
  by_cases h:k1=k
  ·rw[ai h,ad (by omega)];omega
  ·rw[ad h];split<;>omega
 ·rcases ax.1 hq with hq|hq
  ·cases t<;>simp only[th,dj,eD]at hq
   subst hq
   exact⟨h1.1,h1.2.1,hf _ _ (.inl rfl)⟩
  ·cases u<;>simp only[th,dj,eD]at hq
   subst hq
   exact⟨h2.1,h2.2.1,hf _ _ (.inr rfl)⟩
theorem zD(ns:List Nat):a6 (cF ns []) (cY 0 ns):=
 ⟨fun k=>og k ns,fun q hq=>by have:=jK hq;exact⟨by simpa [cF]using this.2.1,by simpa [cF]using this.2.2,aY _⟩⟩
theorem sC(nx:Nat):∀ (ns:List Nat),(cY 0 ns).map (fun q=>(nx+q.1,q.2))=cY nx ns:=fun ns=>by
 have:=Bc nx ns 0;rwa [bh]at this
theorem zE{ns:List Nat}{J:List Nat}{b:Bool}(hf:st.fl≤st.nx)(hJ:∀ k∈J,k<st.nx):a6 (q9 J ns b st) (cY st.nx ns):=by
 refine⟨fun k=>og k ns,fun q hq=>?_⟩
 obtain⟨h1,h2,h3⟩:=jK hq
 have hc:J.contains q.1=false:=by
  rw[Bool.eq_false_iff];intro h
  have:=hJ _ (dB.1 h);omega
 have hn:(q9 J ns b st).nx=st.nx+ns.length:=AN
 refine⟨by rw[hn];omega,?_,?_⟩
 ·show(if J.contains q.1 then 0 else(st.more ns).cnt q.1)=q.2
  rw[hc,ad (by simp),St.more_new _ _ h1 h2];exact h3
 ·show(if b then st.fl else st.nx)≤q.1
  split<;>omega
section
variable {f:Nat} {F:bn} {rs:List gr} {g:bj} {t u:ay} {rest:List PV}
theorem C2(K:gT cf)(hT:T f=some F)(hres:F.res=rs)(hown:F.own=true)(hg:jk g t u)(hk:a6 st (eH g t u))(hr:∀ p∈rest,cL p)(hnt:rest.length+1≤F.nt)(N:Nat){Q:PV→St→Prop}
  (h:∀ t0 u0 ns,jk g t0 u0→eH g t0 u0=cY 0 ns→Wp cf N F.body (eP (gq g t0 u0::rest),cF ns []) (sT rs Q)):
  ∃ r0 s1 r ns b,Q r0 s1∧ar cf f (gq g t u::rest) [0] st=some (ren (fun k=>some (st.nx+k)) false r,q9 ((eH g t u).map (·.1)) ns b st)∧cX (gq g t u::rest) [0] st=(eH g t u).map (·.1)∧BG s1 r0 r ns:=by
 obtain⟨q1,q2⟩:=dR hr
 have hp:(gq g t u::rest).all bI=true:=by
  rw[dc,q1,cr]
  have:=Ee g t u
  unfold gq at this ⊢;simp only[bI,this,am]
 have hm:jx [0] 0 (gq g t u::rest)=eH g t u:=by
  rw[jx,pj _ _ (by omega),od];simp
 have hJ:∀ q∈eH g t u,(bG ((eH g t u).map (·.1)) q.1).isSome=true:=fun q hq=>kz (cq.2 ⟨q,hq,rfl⟩)
 have htk:eH g (t.ren (bG ((eH g t u).map (·.1))) false) (u.ren (bG ((eH g t u).map (·.1))) false)=cY 0 ((eH g t u).map (·.2)):=by
  rw[←od,←xw,mD _ (fun k=>(bG ((eH g t u).map (·.1)) k).getD 0) _ fun q hq=>by
   rw[od]at hq
   obtain⟨i,hi⟩:=bR.1 (hJ q hq);rw[hi];rfl,od]
  have:=lU 0 hk.1;simpa using this
 have hh:re ((eH g t u).map (·.1)) [0] 0 (gq g t u::rest)=gq g (t.ren (bG ((eH g t u).map (·.1))) false) (u.ren (bG ((eH g t u).map (·.1))) false)::rest:=by
  have hrest:∀ (i:Nat) (l:List PV),0<i→(l.map aA=l)→re ((eH g t u).map (·.1)) [0] i l=l:=by
   intro i l
   induction l generalizing i with
   |nil=>intro _ _;rfl
   |cons p ps ih=>
    intro hi hl
    rw[aF,List.cons.injEq]at hl
    have hc:([0]:List Nat).contains i=false:=by simp;omega
    rw[re,hc,ad (by simp),hl.1,ih (i+1) (by omega) hl.2]
  rw[re,hrest 1 rest (by omega) q2,xw];rfl
 have hsp:jR ((eH g t u).map (·.1)) [0] 0 (gq g t u::rest)=true:=by
  have hrest:∀ (i:Nat) (l:List PV),(l.map aA=l)→jR ((eH g t u).map (·.1)) [0] i l=true:=by
   intro i l
   induction l generalizing i with
   |nil=>intro _;rfl
   |cons p ps ih=>
    intro hl
    rw[aF,List.cons.injEq]at hl
    have:=pM (((eH g t u).map (·.1)).contains ·) p
    rw[hl.1]at this
    rw[jR,this,ih (i+1) hl.2,km];rfl
  rw[jR,hrest 1 rest q2];rfl
 obtain⟨r0,s1,r,ns,hQ,hrun,-,hS⟩:=IZ hown hres N (a9z:=gq g _ _::rest) (ns0:=(eH g t u).map (·.2)) (by simpa using hnt) (h _ _ _ (vO hg hJ) htk)
 have hcf:=K f F hT N _ _ _ _ hrun
 obtain⟨h1,h2⟩:=Im (f:=f) (mv:=[0]) (by simp) hp (by rw[hm];exact hk) (by rw[hm];exact hsp) (by rw[hm,hh];exact hcf)
 rw[hm]at h1 h2
 exact⟨r0,s1,r,ns,ed r,hQ,h1,h2,hS⟩
theorem CA{f:Nat→Option Nat}{n:Nat}{p:PV}{ns:List Nat}(h:aq p=cY 0 ns):aq (ren (fun k=>some (n+k)) false p)=cY n ns:=by
 rw[mD _ (fun k=>n+k) _ fun _ _=>rfl,h,sC]
theorem I7{s1:St}{r0 r:PV}{ns:List Nat}(hS:BG s1 r0 r ns)(h0:r0=gq g t u)(hg:jk g t u)(hk:a6 s1 (eH g t u))(n:Nat):∃ t' u',ren (fun k=>some (n+k)) false r=gq g t' u'∧jk g t' u'∧eH g t' u'=cY n ns:=by
 subst h0
 obtain⟨f,rfl,hf,-,htk⟩:=hS.ok (by rw[od];exact hk)
 rw[od]at hf
 have h2:=CA (f:=f) (n:=n) htk
 rw[xw,xw]at h2 ⊢
 exact⟨_,_,rfl,vO (vO hg hf) fun _ _=>rfl,by rw[←od];exact h2⟩
end
theorem Ht{x:Eg}:bT (ec x) 0 1 false=some (I x.id):=rfl
theorem ni{t:ay}{st:St}{n:Nat}:(ic t st n).fl=st.fl:=by cases t<;>rfl
theorem xx{g:bj}{t u:ay}:gM [gq g t u]=true:=by
 have:=Ee g t u
 simp only[gM,this,cr,bX];rfl
theorem A3{g:bj}{t u:ay}(hk:a6 st (eH g t u))(hg:jk g t u):Gr 72 st.nx st.cnt g.nodes.length t∧Gr 68 st.nx st.cnt g.edges.length u∧jb t u:=
 ⟨Jh hg.1 (fH hk (fun k=>by rw[eH,bW];omega) (fun q hq=>gK _ hq)),Jh hg.2 (fH hk (fun k=>by rw[eH,bW];omega) (fun q hq=>ik _ hq)),IJ hk⟩
theorem vx{e:Nat}{u:ay}:jb (.full e) u:=by cases u<;>trivial
theorem m5{e n nx:Nat}{cnt:Nat→Nat}{t:ay}(h:Gr e nx cnt n t):xZ e n t:=by
 cases t with
 |own k e'=>exact h.2.2
 |nil=>exact h
 |full e'=>exact h
 |no=>exact h.elim
 |sub k=>exact h.elim
 |el k e n=>exact h.elim
theorem uH{t u:ay}(h:st.fl=0):∀ k e,t= .own k e∨u= .own k e→st.fl≤k:=fun k e _=>by omega
theorem HV{l:List Nd}{i:Nat}(h:i<l.length)(x:Nd):fq x (l.drop i)=if x.id<l[i].id then x::l[i]::l.drop (i+1)else l[i]::fq x (l.drop (i+1)):=by
 rw[aK h,fq]
set_option maxHeartbeats 4000000 in
theorem Ln(K:bH cf)(g:bj)(x:Nd){t u:ay}(hg:jk g t u)(hk:a6 st (eH g t u))(hl:g.nodes.length≤1000000):
  ∃ t' u' ns b,ar cf 63 [gq g t u,.agg (nc x)] [0] st=some (gq ⟨fq x g.nodes,g.edges⟩ t' u',q9 ((eH g t u).map (·.1)) ns b st)∧cX [gq g t u,.agg (nc x)] [0] st=(eH g t u).map (·.1)∧jk ⟨fq x g.nodes,g.edges⟩ t' u'∧eH ⟨fq x g.nodes,g.edges⟩ t' u'=cY st.nx ns:=by
 have hw:∀ t0 u0 ns,jk g t0 u0→eH g t0 u0=cY 0 ns→Wp cf (g.nodes.length+2) F63.body (eP [gq g t0 u0,.agg (nc x)],cF ns []) (sT F63.res fun r s=>∃ t' u',r=gq ⟨fq x g.nodes,g.edges⟩ t' u'∧jk ⟨fq x g.nodes,g.edges⟩ t' u'∧a6 s (eH ⟨fq x g.nodes,g.edges⟩ t' u')):=by
  clear hg hk
  intro t u ns hg hns
  obtain⟨hG1,hG2,-⟩:=A3 (st:=cF ns []) (by rw[hns];exact zD ns) hg
  have hxl:=dI x
  have hx3:List.take 3 (nc x)=nc x:=rfl
  have hm:=ce nc 3 dI g.nodes
  unfold F63 qr qd qm qi qc qb qk ql qf qa qy qn qs qo qN gq
  simp only[↓pa,↓bM,pb,aj,↓reduceIte,reduceEqDiff,reduceAdd,reduceLT,hxl,gV,jd]
  refine aX (fun q fr st=>∃ (i:Nat) (d:Bool) (L:List Nd) (tok:ay),q=g.nodes.length-i∧i≤g.nodes.length∧fr 2= .ptr 2 0∧fr 3= .ptr 3 0∧fr 4= .ptr 4 0∧fr 5= .list L.length (L.flatMap nc) tok∧fr 6= .bool d∧fr 7=I i∧st.objs 2=some [.list g.nodes.length (g.nodes.flatMap nc) t,.list g.edges.length (g.edges.flatMap ec) u]∧st.objs 3=some (nc x)∧st.objs 4=some [.list 0 [] .nil,.list 0 [] .nil]∧
   L.length≤i+d.toNat∧fq x g.nodes=L++(if d then g.nodes.drop i else fq x (g.nodes.drop i))∧Gr 72 st.nx st.cnt L.length tok∧Gr 68 st.nx st.cnt g.edges.length u∧jb tok u∧st.fl=0) g.nodes.length (by omega)
   ⟨0,false,[],.full 72,by simp,by omega,by simp only[↓pa,pb,↓reduceIte,reduceEqDiff],by simp only[↓pa,pb,↓reduceIte,reduceEqDiff],by simp only[↓pa,↓reduceIte,reduceEqDiff],by simp only[↓pa,↓reduceIte,reduceEqDiff];rfl,by simp only[↓pa,↓reduceIte,reduceEqDiff],by simp only[↓pa,↓reduceIte];rfl,by simp only[pb,↓reduceIte,reduceEqDiff],by simp only[pb,↓reduceIte,reduceEqDiff],by simp only[pb,↓reduceIte],by simp,by simp,pK,hG2,vx,rfl⟩ ?_
  clear hG1 hG2
  rintro q fr st ⟨i,d,L,tok,rfl,hi,f2,f3,f4,f5,f6,f7,o2,o3,o4,hL,hQ,hG,hE,hap,hfl⟩
  simp only[↓pa,pb,aj,aT,↓reduceIte,reduceEqDiff,f2,f7,o2,bh]
  refine ab (fun h1=>?_) (fun h1=>?_)
  ·have hlt:i<g.nodes.length:=h1
   have hnow:=HV hlt x
   have hdr:=aK hlt
   have hnl:=dI g.nodes[i]
   have hn3:List.take 3 (nc g.nodes[i])=nc g.nodes[i]:=rfl
   cases d with
   |true=>
    have hL:L.length≤i+1:=hL
    simp only[if_true]at hQ
    rw[hdr]at hQ
    simp (maxSteps:=1000000) (disch:=omega)only[↓pa,↓bM,pb,aj,↓reduceIte,reduceEqDiff,reduceAdd,reduceLeDiff,reduceLT,f2,f5,f6,f7,o2,h1,bh,bg,k9 hlt,hnl,sc hnl]
    refine cu hG (ce nc 3 dI _) (by rw[hnl]) (by omega) (by omega) (by decide) ?_
    simp (disch:=omega)only[↓pa,pb,aj,aT,↓reduceIte,reduceEqDiff,f2,f3,f4,f6,f7,o2,o3,o4]
    have hc:L.flatMap nc++nc g.nodes[i]=(L++[g.nodes[i]]).flatMap nc:=by simp
    obtain⟨hE2,hap2⟩:=iq (m:=L.length+1) hG hE hap
    refine⟨g.nodes.length- (i+1),by omega,i+1,true,L++[g.nodes[i]],g8 72 tok st,rfl,by omega,by rw[hc];simp,rfl,rfl,by simp only[ak,ao,aV,Bool.toNat_true];omega,by rw[hQ];simp,by rw[ak];exact fa hG,hE2,hap2,by rw[ni];exact hfl⟩
   |false=>
    have hL:L.length≤i:=hL
    simp only[if_false,cA]at hQ
    rw[hnow]at hQ
    simp (disch:=omega)only[↓pa,pb,aj,↓reduceIte,reduceEqDiff,f2,f3,f6,f7,o2,o3,h1,bh,m4 hlt,yL]
    refine ab (fun h2=>?_) (fun h2=>?_)
    ·rw[ai h2]at hQ
     simp only[↓pa,↓bM,pb,aj,↓reduceIte,reduceEqDiff,reduceAdd,reduceLeDiff,reduceLT,f3,f5,o3,h2,bg,hxl,hx3,sc hxl]
     refine cu hG (ce nc 3 dI _) (by rw[hxl]) (by omega) (by omega) (by decide) ?_
     have hc0:L.flatMap nc++nc x=(L++[x]).flatMap nc:=by simp
     have hc:(L++[x]).flatMap nc++nc g.nodes[i]=(L++[x]++[g.nodes[i]]).flatMap nc:=by simp
     have hlx:(L++[x]).length=L.length+1:=by simp
     have hG2:=fa (m:=1) hG
     obtain⟨hE2,hap2⟩:=iq (m:=L.length+1) hG hE hap
     simp (disch:=omega)only[↓pa,↓bM,pb,aj,↓reduceIte,reduceEqDiff,reduceAdd,reduceLeDiff,reduceLT,f2,f7,o2,bh,bg,k9 hlt,hnl,sc hnl,hc0]
     rw[←hlx]at hG2 hE2 ⊢
     refine cu hG2 (ce nc 3 dI _) (by rw[hnl]) (by omega) (by omega) (by decide) ?_
     have hG3:=fa (m:=1) hG2
     obtain⟨hE3,hap3⟩:=iq (m:=(L++[x]).length+1) hG2 hE2 hap2
     simp (disch:=omega)only[↓pa,pb,aj,aT,↓reduceIte,reduceEqDiff,f2,f3,f4,f7,o2,o3,o4,hc]
     refine⟨g.nodes.length- (i+1),by omega,i+1,true,L++[x]++[g.nodes[i]],_,rfl,by omega,by simp,rfl,rfl,by simp only[ak,ao,aV,Bool.toNat_true];omega,by rw[hQ];simp,by rw[@ak _ (L++[x])];exact hG3,hE3,hap3,by simp only[ni];exact hfl⟩
    ·rw[ad h2]at hQ
     simp (disch:=omega)only[↓pa,↓bM,pb,aj,↓reduceIte,reduceEqDiff,reduceAdd,reduceLeDiff,reduceLT,f2,f5,f7,o2,h2,bh,bg,k9 hlt,hnl,sc hnl]
     refine cu hG (ce nc 3 dI _) (by rw[hnl]) (by omega) (by omega) (by decide) ?_
     simp (disch:=omega)only[↓pa,pb,aj,aT,↓reduceIte,reduceEqDiff,f2,f3,f4,f6,f7,o2,o3,o4]
     have hc:L.flatMap nc++nc g.nodes[i]=(L++[g.nodes[i]]).flatMap nc:=by simp
     obtain⟨hE2,hap2⟩:=iq (m:=L.length+1) hG hE hap
     refine⟨g.nodes.length- (i+1),by omega,i+1,false,L++[g.nodes[i]],g8 72 tok st,rfl,by omega,by rw[hc];simp,rfl,rfl,by simp only[ak,ao,aV,Bool.toNat_false];omega,by rw[hQ];simp,by rw[ak];exact fa hG,hE2,hap2,by rw[ni];exact hfl⟩
  ·have hie:g.nodes.drop i=[]:=cz (by omega)
   rw[hie]at hQ
   cases d with
   |true=>
    have hL:L.length≤i+1:=hL
    simp only[if_true,aO]at hQ
    simp only[↓pa,pb,aj,↓reduceIte,reduceEqDiff,reduceAdd,reduceLeDiff,vK,f2,f4,f5,f6,o2,o4,h1]
    have e:PV.agg [.list L.length (L.flatMap nc) tok,.list g.edges.length (g.edges.flatMap ec) u]=gq ⟨fq x g.nodes,g.edges⟩ tok u:=by simp only[gq,hQ]
    rw[e]
    refine⟨xx,_,_,rfl,⟨m5 (by rw[hQ];exact hG),m5 hE⟩,xu (by rw[hQ];exact hG) hE hap (uH hfl)⟩
   |false=>
    have hL:L.length≤i:=hL
    simp only[if_false,cA,fq]at hQ
    simp only[↓pa,↓bM,pb,aj,↓reduceIte,reduceEqDiff,reduceAdd,reduceLeDiff,reduceLT,f3,f5,f6,o3,h1,hxl,hx3,sc hxl]
    refine cu hG (ce nc 3 dI _) (by rw[hxl]) (by omega) (by omega) (by decide) ?_
    have hc:L.flatMap nc++nc x=(L++[x]).flatMap nc:=by simp
    have hlx:(L++[x]).length=L.length+1:=by simp
    have hG2:=fa (m:=1) hG
    obtain⟨hE2,hap2⟩:=iq (m:=L.length+1) hG hE hap
    simp only[↓pa,pb,aj,↓reduceIte,reduceEqDiff,reduceAdd,reduceLeDiff,vK,f2,f4,o2,o4,hc]
    rw[←hlx]at hG2 hE2 ⊢
    have e:PV.agg [.list (L++[x]).length ((L++[x]).flatMap nc) (g8 72 tok st),.list g.edges.length (g.edges.flatMap ec) u]=gq ⟨fq x g.nodes,g.edges⟩ (g8 72 tok st) u:=by simp only[gq,hQ]
    rw[e]
    refine⟨xx,_,_,rfl,⟨m5 (by rw[hQ];exact hG2),m5 hE2⟩,xu (by rw[hQ];exact hG2) hE2 hap2 (uH ((@ni tok st (L++[x]).length).trans hfl))⟩
 obtain⟨r0,s1,r,ns,b,⟨t0,u0,h0,h1,h2⟩,hc,ht,hS⟩:=C2 (f:=63) (F:=F63) K.tab rfl rfl rfl hg hk (rest:=[.agg (nc x)]) (by simp[hY]) (lb rfl) (g.nodes.length+2) hw
 obtain⟨t',u',e,h3,h4⟩:=I7 hS h0 h1 h2 st.nx
 exact⟨t',u',ns,b,by rw[hc,e],ht,h3,h4⟩
theorem FS{l:List Eg}{i:Nat}(h:i<l.length)(x:Eg):eK x (l.drop i)=if x.id<l[i].id then x::l[i]::l.drop (i+1)else l[i]::eK x (l.drop (i+1)):=by
 rw[aK h,eK]
set_option maxHeartbeats 4000000 in
theorem Lo(K:bH cf)(g:bj)(x:Eg){t u:ay}(hg:jk g t u)(hk:a6 st (eH g t u))(hl:g.edges.length≤1000000):
  ∃ t' u' ns b,ar cf 64 [gq g t u,.agg (ec x)] [0] st=some (gq ⟨g.nodes,eK x g.edges⟩ t' u',q9 ((eH g t u).map (·.1)) ns b st)∧cX [gq g t u,.agg (ec x)] [0] st=(eH g t u).map (·.1)∧jk ⟨g.nodes,eK x g.edges⟩ t' u'∧eH ⟨g.nodes,eK x g.edges⟩ t' u'=cY st.nx ns:=by
 have hw:∀ t0 u0 ns,jk g t0 u0→eH g t0 u0=cY 0 ns→Wp cf (g.edges.length+2) F64.body (eP [gq g t0 u0,.agg (ec x)],cF ns []) (sT F64.res fun r s=>∃ t' u',r=gq ⟨g.nodes,eK x g.edges⟩ t' u'∧jk ⟨g.nodes,eK x g.edges⟩ t' u'∧a6 s (eH ⟨g.nodes,eK x g.edges⟩ t' u')):=by
  clear hg hk
  intro t u ns hg hns
  obtain⟨hG1,hG2,-⟩:=A3 (st:=cF ns []) (by rw[hns];exact zD ns) hg
  have hxl:=dl x
  have hx3:List.take 5 (ec x)=ec x:=rfl
  have hm:=ce ec 5 dl g.edges
  unfold F64 qr qd qm qi qc qb qk ql qf qa qy qn qs qo qN gq
  simp only[↓pa,↓bM,pb,aj,↓reduceIte,reduceEqDiff,reduceAdd,reduceLT,hxl,gV,jd]
  refine aX (fun q fr st=>∃ (i:Nat) (d:Bool) (L:List Eg) (tok:ay),q=g.edges.length-i∧i≤g.edges.length∧fr 2= .ptr 2 0∧fr 3= .ptr 3 0∧fr 4= .ptr 4 0∧fr 5= .list L.length (L.flatMap ec) tok∧fr 6= .bool d∧fr 7=I i∧st.objs 2=some [.list g.nodes.length (g.nodes.flatMap nc) t,.list g.edges.length (g.edges.flatMap ec) u]∧st.objs 3=some (ec x)∧st.objs 4=some [.list 0 [] .nil,.list 0 [] .nil]∧
   L.length≤i+d.toNat∧eK x g.edges=L++(if d then g.edges.drop i else eK x (g.edges.drop i))∧Gr 68 st.nx st.cnt L.length tok∧Gr 72 st.nx st.cnt g.nodes.length t∧jb tok t∧st.fl=0) g.edges.length (by omega)
   ⟨0,false,[],.full 68,by simp,by omega,by simp only[↓pa,pb,↓reduceIte,reduceEqDiff],by simp only[↓pa,pb,↓reduceIte,reduceEqDiff],by simp only[↓pa,↓reduceIte,reduceEqDiff],by simp only[↓pa,↓reduceIte,reduceEqDiff];rfl,by simp only[↓pa,↓reduceIte,reduceEqDiff],by simp only[↓pa,↓reduceIte];rfl,by simp only[pb,↓reduceIte,reduceEqDiff],by simp only[pb,↓reduceIte,reduceEqDiff],by simp only[pb,↓reduceIte],by simp,by simp,pK,hG1,vx,rfl⟩ ?_
  clear hG1 hG2
  rintro q fr st ⟨i,d,L,tok,rfl,hi,f2,f3,f4,f5,f6,f7,o2,o3,o4,hL,hQ,hG,hE,hap,hfl⟩
  simp only[↓pa,pb,aj,aT,↓reduceIte,reduceEqDiff,f2,f7,o2,bg]
  refine ab (fun h1=>?_) (fun h1=>?_)
  ·have hlt:i<g.edges.length:=h1
   have hnow:=FS hlt x
   have hdr:=aK hlt
   have hnl:=dl g.edges[i]
   have hn3:List.take 5 (ec g.edges[i])=ec g.edges[i]:=rfl
   cases d with
   |true=>
    have hL:L.length≤i+1:=hL
    simp only[if_true]at hQ
    rw[hdr]at hQ
    simp (maxSteps:=1000000) (disch:=omega)only[↓pa,↓bM,pb,aj,↓reduceIte,reduceEqDiff,reduceAdd,reduceLeDiff,reduceLT,f2,f5,f6,f7,o2,h1,bg,lc hlt,hnl,sb hnl]
    refine cu hG (ce ec 5 dl _) (by rw[hnl]) (by omega) (by omega) (by decide) ?_
    simp (disch:=omega)only[↓pa,pb,aj,aT,↓reduceIte,reduceEqDiff,f2,f3,f4,f6,f7,o2,o3,o4]
    have hc:L.flatMap ec++ec g.edges[i]=(L++[g.edges[i]]).flatMap ec:=by simp
    obtain⟨hE2,hap2⟩:=iq (m:=L.length+1) hG hE hap
    refine⟨g.edges.length- (i+1),by omega,i+1,true,L++[g.edges[i]],g8 68 tok st,rfl,by omega,by rw[hc];simp,rfl,rfl,by simp only[ak,ao,aV,Bool.toNat_true];omega,by rw[hQ];simp,by rw[ak];exact fa hG,hE2,hap2,by rw[ni];exact hfl⟩
   |false=>
    have hL:L.length≤i:=hL
    simp only[if_false,cA]at hQ
    rw[hnow]at hQ
    simp (disch:=omega)only[↓pa,pb,aj,↓reduceIte,reduceEqDiff,f2,f3,f6,f7,o2,o3,h1,bh,bg,oN hlt,Ht]
    refine ab (fun h2=>?_) (fun h2=>?_)
    ·rw[ai h2]at hQ
     simp only[↓pa,↓bM,pb,aj,↓reduceIte,reduceEqDiff,reduceAdd,reduceLeDiff,reduceLT,f3,f5,o3,h2,bg,hxl,hx3,sb hxl]
     refine cu hG (ce ec 5 dl _) (by rw[hxl]) (by omega) (by omega) (by decide) ?_
     have hc0:L.flatMap ec++ec x=(L++[x]).flatMap ec:=by simp
     have hc:(L++[x]).flatMap ec++ec g.edges[i]=(L++[x]++[g.edges[i]]).flatMap ec:=by simp
     have hlx:(L++[x]).length=L.length+1:=by simp
     have hG2:=fa (m:=1) hG
     obtain⟨hE2,hap2⟩:=iq (m:=L.length+1) hG hE hap
     simp (disch:=omega)only[↓pa,↓bM,pb,aj,↓reduceIte,reduceEqDiff,reduceAdd,reduceLeDiff,reduceLT,f2,f7,o2,bg,lc hlt,hnl,sb hnl,hc0]
     rw[←hlx]at hG2 hE2 ⊢
     refine cu hG2 (ce ec 5 dl _) (by rw[hnl]) (by omega) (by omega) (by decide) ?_
     have hG3:=fa (m:=1) hG2
     obtain⟨hE3,hap3⟩:=iq (m:=(L++[x]).length+1) hG2 hE2 hap2
     simp (disch:=omega)only[↓pa,pb,aj,aT,↓reduceIte,reduceEqDiff,f2,f3,f4,f7,o2,o3,o4,hc]
     refine⟨g.edges.length- (i+1),by omega,i+1,true,L++[x]++[g.edges[i]],_,rfl,by omega,by simp,rfl,rfl,by simp only[ak,ao,aV,Bool.toNat_true];omega,by rw[hQ];simp,by rw[@ak _ (L++[x])];exact hG3,hE3,hap3,by simp only[ni];exact hfl⟩
    ·rw[ad h2]at hQ
     simp (disch:=omega)only[↓pa,↓bM,pb,aj,↓reduceIte,reduceEqDiff,reduceAdd,reduceLeDiff,reduceLT,f2,f5,f7,o2,h2,bg,lc hlt,hnl,sb hnl]
     refine cu hG (ce ec 5 dl _) (by rw[hnl]) (by omega) (by omega) (by decide) ?_
     simp (disch:=omega)only[↓pa,pb,aj,aT,↓reduceIte,reduceEqDiff,f2,f3,f4,f6,f7,o2,o3,o4]
     have hc:L.flatMap ec++ec g.edges[i]=(L++[g.edges[i]]).flatMap ec:=by simp
     obtain⟨hE2,hap2⟩:=iq (m:=L.length+1) hG hE hap
     refine⟨g.edges.length- (i+1),by omega,i+1,false,L++[g.edges[i]],g8 68 tok st,rfl,by omega,by rw[hc];simp,rfl,rfl,by simp only[ak,ao,aV,Bool.toNat_false];omega,by rw[hQ];simp,by rw[ak];exact fa hG,hE2,hap2,by rw[ni];exact hfl⟩
  ·have hie:g.edges.drop i=[]:=cz (by omega)
   rw[hie]at hQ
   cases d with
   |true=>
    have hL:L.length≤i+1:=hL
    simp only[if_true,aO]at hQ
    simp only[↓pa,pb,aj,↓reduceIte,reduceEqDiff,reduceAdd,reduceLeDiff,vK,f2,f4,f5,f6,o2,o4,h1]
    have e:PV.agg [.list g.nodes.length (g.nodes.flatMap nc) t,.list L.length (L.flatMap ec) tok]=gq ⟨g.nodes,eK x g.edges⟩ t tok:=by simp only[gq,hQ]
    rw[e]
    refine⟨xx,_,_,rfl,⟨m5 hE,m5 (by rw[hQ];exact hG)⟩,xu hE (by rw[hQ];exact hG) (iN hap) (uH hfl)⟩
   |false=>
    have hL:L.length≤i:=hL
    simp only[if_false,cA,eK]at hQ
    simp only[↓pa,↓bM,pb,aj,↓reduceIte,reduceEqDiff,reduceAdd,reduceLeDiff,reduceLT,f3,f5,f6,o3,h1,hxl,hx3,sb hxl]
    refine cu hG (ce ec 5 dl _) (by rw[hxl]) (by omega) (by omega) (by decide) ?_
    have hc:L.flatMap ec++ec x=(L++[x]).flatMap ec:=by simp
    have hlx:(L++[x]).length=L.length+1:=by simp
    have hG2:=fa (m:=1) hG
    obtain⟨hE2,hap2⟩:=iq (m:=L.length+1) hG hE hap
    simp only[↓pa,pb,aj,↓reduceIte,reduceEqDiff,reduceAdd,reduceLeDiff,vK,f2,f4,o2,o4,hc]
    rw[←hlx]at hG2 hE2 ⊢
    have e:PV.agg [.list g.nodes.length (g.nodes.flatMap nc) t,.list (L++[x]).length ((L++[x]).flatMap ec) (g8 68 tok st)]=gq ⟨g.nodes,eK x g.edges⟩ t (g8 68 tok st):=by simp only[gq,hQ]
    rw[e]
    refine⟨xx,_,_,rfl,⟨m5 hE2,m5 (by rw[hQ];exact hG2)⟩,xu hE2 (by rw[hQ];exact hG2) (iN hap2) (uH ((@ni tok st (L++[x]).length).trans hfl))⟩
 obtain⟨r0,s1,r,ns,b,⟨t0,u0,h0,h1,h2⟩,hc,ht,hS⟩:=C2 (f:=64) (F:=F64) K.tab rfl rfl rfl hg hk (rest:=[.agg (ec x)]) (by simp[hZ]) (lb rfl) (g.edges.length+2) hw
 obtain⟨t',u',e,h3,h4⟩:=I7 hS h0 h1 h2 st.nx
 exact⟨t',u',ns,b,by rw[hc,e],ht,h3,h4⟩
theorem IH{a9z:List PV}(has:∀ p∈a9z,cL p):a9z.all (tf fun _=>true)=true:=by
 rw[aU]
 exact fun p hp=>xS p (has p hp).2.1
theorem JZ{f fl:Nat}{a9z:List PV}{r:PV}(hf:mn f=true)(has:∀ p∈a9z,cL p)(h:ar cf f a9z [] st=some (r,cQ st fl)):cQ st fl=st:=by
 obtain⟨h1,-⟩:=dR has
 simp only[ar,dX h1,cE,bK]at h
 split at h
 ·split at h
  ·have h2:=aC St.fl (Prod.mk.inj (Option.some.inj h)).2
   have h3:lj f a9z []=true:=by simp only[lj,hf,IH has,du,Bool.true_or,am]
   simp only[h3,km,if_true,cQ]at h2
   have h2:st.fl=fl:=h2
   rw[←h2];rfl
  ·cases h
 ·cases h
theorem BH{f:Nat}{a9z:List PV}{v:PV}(hf:mn f=true)(has:∀ p∈a9z,cL p)(h:∃ r,r=v∧∃ fl,ar cf f a9z [] st=some (r,cQ st fl))(k:A (mk v st)):cT (ar cf f a9z [] st) mk A:=by
 obtain⟨r,rfl,fl,h⟩:=h
 rw[h,JZ hf has h]
 exact⟨_,_,rfl,k⟩
theorem C3{f:Nat}{g:bj}{t u:ay}{rest:List PV}(hr:∀ p∈rest,cL p)(hf:mn f=false:=by rfl):ar cf f (.agg [.list g.nodes.length (g.nodes.flatMap nc) t,.list g.edges.length (g.edges.flatMap ec) u]::rest) [] st=ar cf f (.agg (gc g)::rest) [] st:=by
 obtain⟨q1,q2⟩:=dR hr
 have hs:(PV.agg [.list g.nodes.length (g.nodes.flatMap nc) t,.list g.edges.length (g.edges.flatMap ec) u]::rest).map aA= .agg (gc g)::rest:=by
  rw[aF,q2]
  have:=H3 g t u
  unfold gq at this;rw[this]
 obtain⟨q3,q4⟩:=dR (ps:= .agg (gc g)::rest) (by
  intro p hp
  rcases aJ.1 hp with rfl|hp
  ·exact gQ g
  ·exact hr p hp)
 have hn:=Ee g t u
 unfold gq at hn
 rw[vt (by rw[dc,q1,cr];simp only[bI,hn,am]) (by rw[hs];exact q3) (by rw[hs];exact q4) hf,hs]
theorem H6{α:Type}(enc:α→List PV)(m:Nat)(henc:∀ a,(enc a).length=m){al:Nat}(ho:al<m){v:PV}:∀ {l:List α} {i:Nat} {b:α} (hi:i<l.length),(enc l[i]).set al v=enc b→(l.flatMap enc).set (i*m+al) v=(l.set i b).flatMap enc
 |a::l,0,b,_,h=>by
  have h:(enc a).set al v=enc b:=h
  rw[aI,Nat.zero_mul,bg,List.set_append_left _ _ (by rw[henc];exact ho),h,lN,aI]
 |a::l,i+1,b,hi,h=>by
  have ih:=H6 enc m henc ho (l:=l) (i:=i) (b:=b) (by simpa using hi) (by simpa using h)
  rw[aI,List.set_append_right _ _ (by rw[henc,fb];omega),henc,show(i+1) *m+al-m=i*m+al by rw[fb];omega,ih,lO,aI]
def zX(b:Bool)(e:Eg):Int:=if b then e.src else e.dst
def gZ(b:Bool)(l:List Eg)(id:Int):List Int:=(l.filter fun e=>decide (zX b e=id)).map Eg.id
theorem Kz{l:List Eg}{i:Nat}(h:i<l.length)(b:Bool)(id:Int):gZ b (l.take (i+1)) id=if zX b l[i]=id then gZ b (l.take i) id++[l[i].id]else gZ b (l.take i) id:=by
 unfold gZ
 rw[aL h,List.filter_append,bS]
 by_cases hd:zX b l[i]=id<;>simp[hd]
theorem LM(l:List Eg)(b:Bool)(id:Int):(gZ b l id).length≤l.length:=by
 unfold gZ
 rw[bu]
 exact List.length_filter_le _ _
set_option maxHeartbeats 2000000 in
theorem Gf(K:bH cf)(g:bj)(b:Bool)(id:Int)(hl:g.edges.length≤2000000):cf 43 [.agg (gc g),I id,.bool b] [] []=some (IX (gZ b g.edges id),[],[]):=by
 refine K.tab 43 F43 rfl (g.edges.length+1) _ _ _ _ (Jz rfl rfl (lb rfl) _ ?_)
 have hm:=ce ec 5 dl g.edges
 unfold F43 qr qd qm qi qc qb qk ql qf qa qx qy qn qo qN
 simp only[↓pa,↓bM,pb,aj,↓reduceIte,reduceAdd,reduceLT,gc,gV,jd]
 refine aX (fun k fr st=>∃ (i:Nat) (tok:ay),k=g.edges.length-i∧i≤g.edges.length∧fr 1=I id∧fr 2= .bool b∧fr 3= .ptr 3 0∧st.objs 3=some [NX g.nodes,EX g.edges]∧fr 8=I i∧fr 7= .list (gZ b (g.edges.take i) id).length ((gZ b (g.edges.take i) id).map I) tok∧Gr 2 st.nx st.cnt (gZ b (g.edges.take i) id).length tok) g.edges.length (by omega)
  ⟨0,.full 2,by simp,by omega,by simp only[↓pa,pb,↓reduceIte,reduceEqDiff],by simp only[↓pa,pb,↓reduceIte,reduceEqDiff],by simp only[↓pa,↓reduceIte,reduceEqDiff],by simp only[pb,↓reduceIte],by simp only[↓pa,↓reduceIte];rfl,by simp only[↓pa,↓reduceIte,reduceEqDiff];rfl,pK⟩ ?_
 rintro k fr st ⟨i,tok,rfl,hi,f1,f2,f3,o3,f8,f7,hG⟩
 simp only[↓pa,pb,aj,aT,↓reduceIte,reduceEqDiff,reduceAdd,f3,o3,f8]
 refine ab (fun h1=>?_) (fun h1=>?_)
 rotate_left
 ·have hii:i=g.edges.length:=by omega
  have ht:g.edges.take i=g.edges:=bC (by omega)
  rw[ht]at f7
  have hpl:=xl (gZ b g.edges id)
  simp only[↓pa,pb,av,↓reduceIte,reduceEqDiff,f7,h1,hpl.1,hpl.2.1]
 have hlt:i<g.edges.length:=h1
 have hn:=Kz hlt b id
 have hle:=LM (g.edges.take i) b id
 have hle2:(g.edges.take i).length≤g.edges.length:=by rw[bi];omega
 cases b with
 |false=>
  simp (disch:=omega)only[↓pa,pb,aj,↓reduceIte,reduceEqDiff,reduceAdd,f1,f2,f3,o3,f8,h1,DW hlt]
  refine ab (fun h2=>?_) (fun h2=>?_)
  ·
   rw[ai (by exact h2)]at hn
   simp (disch:=omega)only[↓pa,↓bM,pb,aj,↓reduceIte,reduceEqDiff,reduceAdd,reduceLeDiff,reduceLT,f3,o3,f8,f7,h2,bh,oN hlt]
   refine cu hG (by rw[bu,fk]) rfl (by omega) (by omega) (by decide) ?_
   simp (disch:=omega)only[↓pa,pb,aj,aT,↓reduceIte,reduceEqDiff,f1,f2,f3,o3,f8]
   refine⟨g.edges.length- (i+1),by omega,i+1,g8 2 tok st,rfl,by omega,rfl,?_,?_⟩
   ·rw[hn,ak,bS];rfl
   ·rw[hn,ak];exact fa hG
  ·
   rw[ad (by exact h2)]at hn
   simp (disch:=omega)only[↓pa,pb,aT,↓reduceIte,reduceEqDiff,f1,f2,f3,o3,f8,f7,h2]
   refine⟨g.edges.length- (i+1),by omega,i+1,tok,rfl,by omega,rfl,?_,?_⟩
   ·rw[hn]
   ·rw[hn];exact hG
 |true=>
  simp (disch:=omega)only[↓pa,pb,aj,↓reduceIte,reduceEqDiff,reduceAdd,f1,f2,f3,o3,f8,h1,DV hlt]
  refine ab (fun h2=>?_) (fun h2=>?_)
  ·
   rw[ai (by exact h2)]at hn
   simp (disch:=omega)only[↓pa,↓bM,pb,aj,↓reduceIte,reduceEqDiff,reduceAdd,reduceLeDiff,reduceLT,f3,o3,f8,f7,h2,bh,oN hlt]
   refine cu hG (by rw[bu,fk]) rfl (by omega) (by omega) (by decide) ?_
   simp (disch:=omega)only[↓pa,pb,aj,aT,↓reduceIte,reduceEqDiff,f1,f2,f3,o3,f8]
   refine⟨g.edges.length- (i+1),by omega,i+1,g8 2 tok st,rfl,by omega,rfl,?_,?_⟩
   ·rw[hn,ak,bS];rfl
   ·rw[hn,ak];exact fa hG
  ·
   rw[ad (by exact h2)]at hn
   simp (disch:=omega)only[↓pa,pb,aT,↓reduceIte,reduceEqDiff,f1,f2,f3,o3,f8,f7,h2]
   refine⟨g.edges.length- (i+1),by omega,i+1,tok,rfl,by omega,rfl,?_,?_⟩
   ·rw[hn]
   ·rw[hn];exact hG
theorem Gz(K:bH cf)(g:bj)(b:Bool)(id:Int)(hl:g.edges.length≤2000000){t u:ay}:∃ fl,ar cf 43 [.agg [.list g.nodes.length (g.nodes.flatMap nc) t,.list g.edges.length (g.edges.flatMap ec) u],I id,.bool b] [] st=some (IX (gZ b g.edges id),cQ st fl)∧(gZ b g.edges id=[]→fl=st.fl):=by
 rw[C3 (by simp[aQ,rx])]
 obtain⟨q1,q2⟩:=dR (ps:=[PV.agg (gc g),I id,PV.bool b]) (by simp[gQ,aQ,rx])
 rw[oF q1 (by rw[q2];exact Gf K g b id hl)]
 refine⟨_,aC some (Prod.ext ?_ rfl),fun h=>?_⟩
 ·have:=xl (gZ b g.edges id)
  simp only[IX,ren,xW this];rfl
 ·rw[h];rfl
theorem BF{l:List (Nat×Nat)}(hk:a6 st l):∀ k∈l.map (·.1),k<st.nx:=by
 intro k h
 obtain⟨q,hq,rfl⟩:=cq.1 h
 exact(hk.2 q hq).1
theorem Cg(K:bH cf){g:bj}{x:Nd}{t u:ay}(hg:jk g t u)(hk:a6 st (eH g t u))(hf:st.fl≤st.nx)(hl:g.nodes.length≤1000000)
  (k:∀ t' u' ns b,cX [.agg [.list g.nodes.length (g.nodes.flatMap nc) t,.list g.edges.length (g.edges.flatMap ec) u],.agg (nc x)] [0] st=(eH g t u).map (·.1)→jk ⟨fq x g.nodes,g.edges⟩ t' u'→a6 (q9 ((eH g t u).map (·.1)) ns b st) (eH ⟨fq x g.nodes,g.edges⟩ t' u')→A (mk (gq ⟨fq x g.nodes,g.edges⟩ t' u') (q9 ((eH g t u).map (·.1)) ns b st))):
  cT (ar cf 63 [.agg [.list g.nodes.length (g.nodes.flatMap nc) t,.list g.edges.length (g.edges.flatMap ec) u],.agg (nc x)] [0] st) mk A:=by
 obtain⟨t',u',ns,b,hc,ht,h1,h2⟩:=Ln K g x hg hk hl
 exact⟨_,_,hc,k t' u' ns b ht h1 (by rw[h2];exact zE hf (BF hk))⟩
theorem Ci(K:bH cf){g:bj}{x:Eg}{t u:ay}(hg:jk g t u)(hk:a6 st (eH g t u))(hf:st.fl≤st.nx)(hl:g.edges.length≤1000000)
  (k:∀ t' u' ns b,cX [.agg [.list g.nodes.length (g.nodes.flatMap nc) t,.list g.edges.length (g.edges.flatMap ec) u],.agg (ec x)] [0] st=(eH g t u).map (·.1)→jk ⟨g.nodes,eK x g.edges⟩ t' u'→a6 (q9 ((eH g t u).map (·.1)) ns b st) (eH ⟨g.nodes,eK x g.edges⟩ t' u')→A (mk (gq ⟨g.nodes,eK x g.edges⟩ t' u') (q9 ((eH g t u).map (·.1)) ns b st))):
  cT (ar cf 64 [.agg [.list g.nodes.length (g.nodes.flatMap nc) t,.list g.edges.length (g.edges.flatMap ec) u],.agg (ec x)] [0] st) mk A:=by
 obtain⟨t',u',ns,b,hc,ht,h1,h2⟩:=Lo K g x hg hk hl
 exact⟨_,_,hc,k t' u' ns b ht h1 (by rw[h2];exact zE hf (BF hk))⟩
def g0:bj:=⟨[],[]⟩
structure pC where
 code:Int
 at_:Int
 graph:bj
def gP(r:pC):List PV:=[I r.code,I r.at_,NX r.graph.nodes,EX r.graph.edges]
theorem qS(r:pC):b8 (gP r):=bq (aQ _ _) (bq (aQ _ _) (bq (yJ _) (bq (m3 _) dK)))
section
variable {f:Nat} {F:bn} {rs:List gr}
theorem zF{A B C R:List (Nat×Nat)}{ns:List Nat}(h:a6 st (A++B++C))(hf:st.fl≤st.nx)(hR:∀ k,ck k R≤ck k (cY st.nx ns))(hm:∀ q∈R,q∈cY st.nx ns):a6 (ez (B.map (·.1)) ns st) (A++R++C):=
 fH (qD h hf) (fun k=>by have:=hR k;rw[bW,bW,bW,bW];omega) fun q hq=>by
  simp only[ax]at hq ⊢
  rcases hq with(hq|hq)|hq
  ·exact .inl (.inl hq)
  ·exact .inl (.inr (hm q hq))
  ·exact .inr hq
end
structure M9 (g:bj) (c:List PV):Prop where
 st:aB c=gc g
 np:aG c=true
 so:bc c=true
 sh:∃ cs ds t u,c=[.list g.nodes.length cs t,.list g.edges.length ds u]∧n4 72 t∧n4 68 u
theorem Hv{f:Nat→Option Nat}{e n:Nat}{cs:List PV}{t:ay}(h:n4 e t)(hf:∀ q∈aq (.list n cs t),(f q.1).isSome=true):n4 e (t.ren f false):=by
 rcases h with rfl|⟨k,rfl⟩
 ·exact .inl rfl
 ·obtain⟨j,hj⟩:=bR.1 (hf (k,n) (by simp[aq]))
  have hj:f k=some j:=hj
  exact .inr ⟨j,by simp only[ay.ren,hj]⟩
structure Jg (cf:au) (a m e:Nat):Prop where
 nil:∀ (ds:List PV) (ns:List Nat) (e':Nat),ds.length=m→aG ds=true→cf a [.list 0 [] .nil,I 0,.list 1 ds (.full e')] ns []=some (.list 1 ds (.own ns.length e),ns++[1],[])
 own:∀ (n i:Nat) (cs ds:List PV) (ns:List Nat) (e':Nat),cs.length=n*m→ds.length=m→aG cs=true→aG ds=true→dT ([0].contains ·) cs=true→dT ([0].contains ·) ds=true→i≤n→n≤10000000→cf a [.list n cs (.own 0 e),I i,.list 1 ds (.full e')] (n::ns) []=some (.list (n+1) (cs.take (i*m)++ds++cs.drop (i*m)) (.own 0 e),(n+1)::ns,[])
structure Jj (cf:au) (b m e:Nat):Prop where
 own:∀ (n i:Nat) (cs:List PV) (ns:List Nat),cs.length=n*m→aG cs=true→dT ([0].contains ·) cs=true→i<n→n≤10000000→cf b [.list n cs (.own 0 e),I i,I ((i+1:Nat):Int)] (n::ns) []=some (.list (n-1) (cs.take (i*m)++cs.drop ((i+1) *m)) (.own 0 e),(n-1)::ns,[])
structure Nb (cf:au):Prop where
 insN:Jg cf 128 3 72
 insE:Jg cf 189 5 68
 delN:Jj cf 160 3 72
 delE:Jj cf 163 5 68
theorem Lb{nx k:Nat}:∀ {l l':List (Nat×Nat)},(∀ k,ck k l≤ck k l')→ck k (l.map fun q=>(nx+q.1,q.2))≤ck k (l'.map fun q=>(nx+q.1,q.2)):=by
 have h:∀ l:List (Nat×Nat),ck k (l.map fun q=>(nx+q.1,q.2))=if nx≤k then ck (k-nx) l else 0:=by
  intro l
  induction l with
  |nil=>simp[ck]
  |cons q l ih=>
   rw[aF,ck,ck,ih]
   by_cases hk:nx≤k
   ·have:(nx+q.1=k)↔(q.1=k-nx):=by omega
    simp only[hk,if_true,this]
   ·rw[ad (show ¬nx+q.1=k by omega),ad hk,ad hk]
 intro l l' hl
 rw[h,h]
 split
 ·exact hl _
 ·exact aD _
theorem xr{l:List (Nat×Nat)}:∀ q∈l,(bG (l.map (·.1)) q.1).isSome=true:=fun q hq=>kz (cq.2 ⟨q,hq,rfl⟩)
theorem EU{cs:List PV}{l:List (Nat×Nat)}(h:∀ q∈aw cs,q∈l):aw (bB (bG (l.map (·.1))) false cs)=(aw cs).map fun q=>((bG (l.map (·.1)) q.1).getD 0,q.2):=
 lq _ (fun k=>(bG (l.map (·.1)) k).getD 0) cs fun q hq=>by
  obtain⟨i,hi⟩:=bR.1 (xr q (h q hq));rw[hi];rfl
theorem HY{l:List (Nat×Nat)}(h:∀ k,ck k l≤1):l.map (fun q=>((bG (l.map (·.1)) q.1).getD 0,q.2))=cY 0 (l.map (·.2)):=by
 have:=lU 0 h;simpa using this
theorem ph(n:Nat):cL (.fn n []):=⟨rfl,rfl,fun _ _=>rfl,trivial⟩
theorem IP{o:Option (PV×St)}{P:PV→Prop}(h:∃ r ns,o=some (r,st.more ns)∧cW st.nx ns r∧P r)(k:∀ r ns,cW st.nx ns r→P r→A (mk r (st.more ns))):cT o mk A:=by
 obtain⟨r,ns,rfl,hF,hP⟩:=h
 exact⟨_,_,rfl,k r ns hF hP⟩
structure Jf {α:Type} (enc:α→List PV) (m e:Nat) (l:List α) (p:PV):Prop where
 sh:∃ cs t,p= .list l.length cs t∧kO enc m l cs∧n4 e t
 so:aH p=true
theorem Dn{α:Type}{enc:α→List PV}{m e:Nat}{l:List α}{p:PV}{f:Nat→Option Nat}(h:Jf enc m e l p)(hf:∀ q∈aq p,(f q.1).isSome=true):Jf enc m e l (ren f false p):=by
 obtain⟨cs,t,rfl,hL,ht⟩:=h.sh
 refine⟨⟨bB f false cs,t.ren f false,gW _ _ _ _ _,⟨by rw[gB];exact hL.len,by rw[gA];exact hL.st,by rw[aG,iJ];exact hL.np⟩,Hv ht hf⟩,lu f _ h.so hf⟩
theorem Lf{f:Nat}{F:bn}{a9z:List PV}{rs:List gr}(K:gT cf)(hT:T f=some F)(hres:F.res=rs)(hown:F.own=true)(hnt:a9z.length≤F.nt)(has:∀ p∈a9z,cL p)(N:Nat){Q:PV→Prop}
  (h:Wp cf N F.body (eP a9z,cF [] []) (sT rs fun p s=>np p=true∧aH p=true∧a6 s (aq p)∧Q p)):∃ r ns r0,ar cf f a9z [] st=some (r,st.more ns)∧cW st.nx ns r∧Q r0∧∃ g h:Nat→Option Nat,r=ren g false (ren h false r0)∧(∀ q∈aq r0,(h q.1).isSome=true)∧∀ k,(g k).isSome=true:=by
 obtain⟨h1,h2⟩:=dR has
 obtain⟨r0,s1,r,ns,⟨hn,hso,hk,hQ⟩,hrun,-,hS⟩:=IZ hown hres N hnt h
 have hcf:=K f F hT N _ _ _ _ hrun
 obtain⟨g,rfl,hg,-,htk⟩:=hS.ok hk
 have hsr:=lu g r0 hso hg
 have hnr:PM.np (ren g false r0)=true:=hS.np.trans hn
 exact⟨_,ns,r0,ue h1 (by rw[h2];exact hcf) hsr,⟨CA (f:=g) htk,lu _ _ hsr fun _ _=>rfl,by simp only[PM.np,fC];simpa [PM.np,fC]using hn⟩,hQ,_,g,rfl,hg,fun _=>rfl⟩
set_option maxHeartbeats 4000000 in
theorem Ip(K:bH cf)(l:List Eg)(hl:l.length≤1000000)(hb:∀ x∈l,x.fields.length≤2000000):∃ r ns,ar cf 67 [EX l,.fn 68 []] [] st=some (r,st.more ns)∧cW st.nx ns r∧Jf ec 5 68 l r:=by
 have hw:Wp cf (l.length+2) F67.body (eP [EX l,.fn 68 []],cF [] []) (sT F67.res fun p s=>np p=true∧aH p=true∧a6 s (aq p)∧Jf ec 5 68 l p):=by
  have hm:=ce ec 5 dl l
  unfold F67 qr qd qm qi qc qb qk ql qa qn qs qo qN
  simp only[↓pa,pb,↓reduceIte,reduceCtorEq]
  refine aX (fun q fr st=>∃ (i:Nat) (cs:List PV) (tk:ay),q=l.length-i∧i≤l.length∧fr 1= .fn 68 []∧fr 8=EX l∧fr 9=I l.length∧fr 10=I i∧fr 5= .list (l.take i).length cs tk∧kO ec 5 (l.take i) cs∧n4 68 tk∧aH (.list (l.take i).length cs tk)=true∧a6 st (aq (.list (l.take i).length cs tk))∧st.fl=0) l.length (by omega)
   ⟨0,[],.nil,by simp,by omega,by simp only[↓pa,↓reduceIte,reduceEqDiff],by simp only[↓pa,↓reduceIte,reduceEqDiff],by simp only[↓pa,↓reduceIte,reduceEqDiff],by simp only[↓pa,↓reduceIte];rfl,by simp only[↓pa,↓reduceIte,reduceEqDiff];rfl,ww,.inl rfl,rfl,fp,rfl⟩ ?_
  rintro q fr st ⟨i,cs,tk,rfl,hi,f1,f8,f9,f10,f5,hL,hto,hso,hT,hfl⟩
  have hti:(l.take i).length=i:=by rw[bi];omega
  simp only[↓pa,pb,aT,↓reduceIte,f9,f10]
  refine ab (fun k1=>?_) (fun k1=>?_)
  ·have hlt:i<l.length:=k1
   have hnl:=dl l[i]
   have hn3:List.take 5 (ec l[i])=ec l[i]:=rfl
   have hnn:=hb _ (bL hlt)
   have hkp:=m8 (hZ l[i])
   have hnext:l.take (i+1)=l.take i++[l[i]]:=aL hlt
   simp (disch:=omega)only[↓pa,pb,aj,↓reduceIte,reduceEqDiff,reduceAdd,reduceLeDiff,f1,f8,f10,f5,k1,bg,lc hlt,hnl,hn3,sb hnl]
   refine eV (J8 K l[i] hnn) (fun r ns hF hr=>?_)
   obtain⟨ds,rfl,hds⟩:=jl hr
   have hdl:ds.length=5:=by rw[←hnl,←hds,ct,bu]
   have hFt:aw ds=cY _ ns:=hF.tk
   have hFs:bc ds=true:=hF.so
   have hFn:aG ds=true:=hF.np
   simp only[↓pa,↓bM,pb,aj,↓reduceIte,reduceEqDiff,reduceAdd,reduceLeDiff,reduceLT,bg,hdl,sb hdl]
   refine rB (X:=[]) (Y:=[]) hto hso hFs (by rw[bf,aO,hFt];exact ew (br (br hT)) (by show st.fl≤_;omega) ns) (by rw[St.more_fl];exact hfl) hL.len (by rw[hdl]) (by omega) (by omega) (by decide) (fun st1 tk1 hto1 hso1 hT1 ho1 hfl1=>?_)
   simp (disch:=omega)only[↓pa,pb,aT,↓reduceIte,reduceEqDiff,f1,f8,f9,f10]
   have hl1:(l.take i).length+1=(l.take (i+1)).length:=by rw[hnext,ak];rfl
   rw[hl1]at hso1 hT1 ⊢
   exact⟨l.length- (i+1),by omega,i+1,_,tk1,rfl,by omega,rfl,rfl,by rw[hnext];exact zJ hL hdl hds hFn,hto1,hso1,by simpa using hT1,hfl1⟩
  ·have hie:l.take i=l:=bC (by omega)
   rw[hie]at f5 hL hso hT
   simp only[↓pa,pb,↓reduceIte,reduceEqDiff,vK,f5,k1]
   have hn:np (.list l.length cs tk)=true:=hL.np
   exact⟨by simp only[gM,hn,cr,bX];rfl,hn,hso,hT,⟨cs,tk,rfl,hL,hto⟩,hso⟩
 obtain⟨r,ns,r0,hc,hF,hQ,g,h,rfl,hh,hg⟩:=Lf (st:=st) (f:=67) (F:=F67) K.tab rfl rfl rfl (lb rfl) (a9z:=[EX l,.fn 68 []]) (by
  intro p hp
  rcases aJ.1 hp with rfl|hp
  ·exact m3 l
  ·rw[dj.1 hp];exact ph _) (l.length+2) hw
 exact⟨_,ns,hc,hF,Dn (Dn hQ hh) fun _ _=>hg _⟩
theorem FT(x:Eg):∀ l:List Eg,(uE x l).length=l.length+1
 | []=>rfl
 |y::l=>by
  rw[uE]
  split
  ·rw[ao,FT x l,ao]
  ·rw[ao]
structure Nh (x:pC) (r:List PV):Prop where
 sh:∃ p q,r=[I x.code,I x.at_,p,q]∧M9 x.graph [p,q]
structure Na (c:Ch):Prop where
 nl:c.node.labels.length≤eA∧∀ t∈c.node.labels,t.length≤eA
 nf:c.node.fields.length≤eA∧∀ f∈c.node.fields,f.1.length≤eA∧f.2.length≤eA
 et:c.edge.type.length≤eA
 ef:c.edge.fields.length≤eA∧∀ f∈c.edge.fields,f.1.length≤eA∧f.2.length≤eA
 na:c.name.length≤eA
 va:c.value.length≤eA
 te:c.text.length≤eA
def lz(a:List (Nat×Nat))(b:List Nat)(k:Nat):bj:=⟨kw a k,jQ b (bO a k)⟩
theorem Kl(K:bH cf)(k:Nat)(a:List (Nat×Nat))(b:List Nat)(hk:cg b (bO a k)≤1000000000000):ar cf 74 [.agg (gc (lz a b k)),I k] [] st=some (I (cg b (bO a k):Nat),st):=by
 refine cB K.tab (F:=F74) (t:=4) rfl rfl rfl (lb rfl) (by simp[gQ,aQ]) (dn _ _) 1 ?_
 have hle:=oh b (bO a k)
 have h1:=fun st=>Kk (st:=st) K k a (by omega)
 have h2:=fun st=>Km (st:=st) K (bO a k) b hk
 have l1:=pE a k
 have l2:=pF b (bO a k)
 unfold F74 qg qr qm qi qk ql qf qu qo
 simp only[↓pa,pb,aj,↓reduceIte,reduceEqDiff,reduceAdd,gc,lz,NX,EX,l1,l2,h1,h2,tI]
section
variable {f:Nat} {F:bn} {cs:List PV}
theorem C5(K:gT cf)(hT:T (gx f)=some F){t:Nat}(hres:F.res=[.tmp t,.tmp 0])(hown:F.own=true)(hs:bc cs=true)(hn:aG cs=true)(hk:a6 st (aw cs))
  (hnt:2≤F.nt) (N:Nat) {k k':Int} {v:PV}
  (h:∀ cs0 ns,aB cs0=aB cs→aG cs0=true→bc cs0=true→a6 (cF ns []) (aw cs0)→Wp cf N F.body (eP [.agg cs0,I k],cF ns []) (xO t fun j p=>j=k'∧p=v)):
  ∃ p ns,uP cf f [.agg cs,I k] st=some (I k',p,ez ((aw cs).map (·.1)) ns st)∧cW st.nx ns p∧aA p=v∧cX [.agg cs,I k] [0] st=(aw cs).map (·.1):=by
 have hrr:ren (bG ((aw cs).map (·.1))) false (.agg cs)= .agg (bB (bG ((aw cs).map (·.1))) false cs):=by simp[ren]
 have htt:aq (.agg cs)=aw cs:=by simp[aq]
 have hF0:=(kA (r0:= .agg cs) (by simpa [aH]using hs) hn (by rw[htt];exact hk.1) 0).2
 rw[htt,hrr]at hF0
 have hTB:a6 (cF ((aw cs).map (·.2)) []) (aw (bB (bG ((aw cs).map (·.1))) false cs)):=by
  have:=hF0.tk
  simp only[aq]at this
  rw[this]
  exact⟨fun j=>og j _,fun q hq=>by have:=jK hq;exact⟨by simpa [cF]using this.2.1,by simpa [cF]using this.2.2,aY _⟩⟩
 have hnp0:aG (bB (bG ((aw cs).map (·.1))) false cs)=true:=hF0.np
 obtain⟨j,p,ns,hrun,hFr,hF,hQ1,hQ2⟩:=@Ar _ _ [.agg (bB (bG ((aw cs).map (·.1))) false cs),I k] _ hown hres N _ _ hnt (h _ _ (gA _ _) hnp0 (by simpa [aH]using hF0.so) hTB)
 have hcf:=K (gx f) F hT N _ _ _ _ hrun
 rw[←hrr]at hcf
 subst hQ1
 have hst:aH (.tup [I j,p])=true:=by simp only[aH,bc,hFr.so,am]
 obtain⟨h1,h2⟩:=Gl (rest:=[I k]) hn hk rfl rfl hcf hst
 refine⟨ren (fun k=>some (st.nx+k)) false p,ns,?_,hF st.nx,by rw[hO];exact hQ2,h2⟩
 unfold uP
 rw[h1]
 rfl
end
mutual
theorem Bv(J:List Nat)(l:List (Nat×Nat×PV))(hu:∀ q∈l,J.contains q.1=true):∀ p:PV,tf (J.contains ·) p=true→gG J l p=p
 | .list n cs t,h=>by
  simp only[tf,aa]at h
  have ih:=ne J l hu cs h.2
  have:l9 l n t=none:=by
   cases hs:l9 l n t with
   |none=>rfl
   |some p=>
    obtain⟨k,e,rfl,hm⟩:=rY hs
    have h1:=h.1
    simp only[ay.free,ay.of,hu _ hm]at h1
    cases h1
  simp only[gG,ih,this]
  rw[ai h.1]
 | .iptr cs o t,h=>by
  simp only[tf,aa]at h
  have ih:=ne J l hu cs h.2
  simp only[gG,ih]
  rw[ai h.1]
 | .agg cs,h=>by simp only[tf]at h;simp only[gG,ne J l hu cs h]
 | .tup cs,h=>by simp only[tf]at h;simp only[gG,ne J l hu cs h]
 | .fn g cs,h=>by simp only[tf]at h;simp only[gG,ne J l hu cs h]
 | .any,_| .hole,_| .int _ _,_| .bool _,_| .str _,_| .nilp,_| .nili,_| .err,_| .ptr _ _,_| .osl _ _ _ _,_| .mp _,_=>rfl
theorem ne(J:List Nat)(l:List (Nat×Nat×PV))(hu:∀ q∈l,J.contains q.1=true):∀ ps:List PV,dT (J.contains ·) ps=true→fA J l ps=ps
 | [],_=>rfl
 |p::ps,h=>by
  simp only[dT,aa]at h
  simp only[fA,Bv J l hu p h.1,ne J l hu ps h.2]
end
theorem KM{cs ds:List PV}:∀ q∈fD cs ds,((aw cs).map (·.1)).contains q.1=true:=by
 rintro⟨k,n,p⟩ hq
 obtain⟨i,c,e,d,h1,h2,h3⟩:=oL hq
 have:=tK h1
 simp only[dB,cq]
 exact⟨_,this,rfl⟩
theorem zA{J:List Nat}{l:List (Nat×Nat×PV)}(hu:∀ q∈l,J.contains q.1=true){p:PV}(h:cL p):gG J l p=p:=by
 have:=pM (J.contains ·) p
 rw[h.2.1]at this
 exact Bv J l hu p this
theorem EH{J:List Nat}{l:List (Nat×Nat×PV)}(hu:∀ q∈l,J.contains q.1=true):∀ {ps:List PV},b8 ps→fA J l ps=ps:=fun{ps} h=>by
 have:=zA hu (p:= .agg ps) (fu h)
 simp only[gG,PV.agg.injEq]at this
 exact this
theorem Kx{J:List Nat}{n m:Nat}{ca cb da db:List PV}{ta tb ua ub:ay}{ns:List Nat}(h1:ca=[]↔n=0)(h2:cb=[]↔m=0)(h3:da=[]↔n=0)(h4:db=[]↔m=0)
  (hs:bc [.list n ca ta,.list m cb tb]=true) (hk:a6 st (aw [.list n ca ta,.list m cb tb])) (hJ:J=(aw [.list n ca ta,.list m cb tb]).map (·.1)) (hF:cW st.nx ns (.agg [.list n da ua,.list m db ub])) (hf:st.fl≤st.nx):
  ∃ x y,fA J (fD [.list n ca ta,.list m cb tb] [.list n da ua,.list m db ub]) [.list n ca ta,.list m cb tb]=[x,y]∧bc [x,y]=true∧aG [x,y]=true∧aA x=aA (.list n da ua)∧aA y=aA (.list m db ub)∧a6 (ez J ns st) (aw [x,y]):=by
 have hm:=qD (A:=[]) (B:=aw [.list n ca ta,.list m cb tb]) (C:=[]) (ns:=ns) (by simpa using hk) hf
 rw[←hJ,←hF.tk]at hm
 simp only[bf,aO,aq,aw]at hm
 have hso:=hF.so
 simp only[aH,bc,aa,cr]at hso
 have hnp:aG [.list n da ua,.list m db ub]=true:=hF.np
 have hn1:np (.list n da ua)=true:=eF hnp (by simp)
 have hn2:np (.list m db ub)=true:=eF hnp (by simp)
 have stay:∀ {n:Nat} {ca:List PV} {ta:ay} {l:List (Nat×Nat×PV)},(ca=[]↔n=0)→aH (.list n ca ta)=true→(∀ k e,ta≠ .own k e)→gG J l (.list n ca ta)= .list n ca ta∧ca=[]∧n=0∧aq (.list n ca ta)=[]:=by
  intro n ca ta l hz hs ho
  have hc:=tj hs ho
  have ht:=rU hs ho
  refine⟨?_,hc,hz.1 hc,ht⟩
  subst hc
  have hse:l9 l n ta=none:=by
   cases ta with
   |own k e=>exact absurd rfl (ho k e)
   |_=>rfl
  have hfr:ta.free (J.contains ·)=true:=by
   simp only[aH,aa]at hs
   cases ta with
   |own k e=>exact absurd rfl (ho k e)
   |sub k=>simp at hs
   |el k e n=>simp at hs
   |_=>rfl
  simp only[gG,hse,fA]
  rw[ai hfr]
 have mark:∀ {n:Nat} {da:List PV} {ua:ay},(da=[]↔n=0)→aH (.list n da ua)=true→np (.list n da ua)=true→aH (cH n (.list n da ua))=true∧np (cH n (.list n da ua))=true∧aA (cH n (.list n da ua))=aA (.list n da ua)∧(∀ k,ck k (aq (cH n (.list n da ua)))≤ck k (aq (.list n da ua)))∧∀ q∈aq (cH n (.list n da ua)),q∈aq (.list n da ua):=by
  intro n da ua hz h1 h2
  unfold cH
  by_cases h:n=0
  ·rw[ai h]
   refine⟨rfl,rfl,?_,fun k=>aY _,fun q hq=>by simp[aq,aw]at hq⟩
   rw[ep,ep,hz.2 h,h]
  ·rw[ad h];exact⟨h1,h2,rfl,fun k=>aD _,fun q hq=>hq⟩
 have nil:∀ {n:Nat} {ca da:List PV} {ta ua:ay},ca=[]→(da=[]↔n=0)→n=0→aA (.list n ca ta)=aA (.list n da ua):=by
  intro n ca da ta ua h1 h2 h3
  rw[ep,ep,h1,h2.2 h3]
 have hs1:aH (.list n ca ta)=true:=by simp only[bc,aa]at hs;exact hs.1
 have hs2:aH (.list m cb tb)=true:=by simp only[bc,aa]at hs;exact hs.2.1
 obtain⟨a1,a2,a3,a4,a5⟩:=mark h3 (by simpa [aH]using hso.1) hn1
 obtain⟨b1,b2,b3,b4,b5⟩:=mark h4 (by simpa [aH]using hso.2) hn2
 have fin:∀ x y,(∀ k,ck k (aq x)≤ck k (aq (.list n da ua)))→(∀ q∈aq x,q∈aq (.list n da ua))→(∀ k,ck k (aq y)≤ck k (aq (.list m db ub)))→(∀ q∈aq y,q∈aq (.list m db ub))→a6 (ez J ns st) (aw [x,y]):=by
  intro x y x1 x2 y1 y2
  refine fH hm (fun k=>?_) (fun q hq=>?_)
  ·have:=x1 k
   have:=y1 k
   simp only[aw,bW,aO,aq]at*
   omega
  ·simp only[aw,aO,ax]at hq
   have e1:=x2 q
   have e2:=y2 q
   simp only[aq]at e1 e2
   rcases hq with hq|hq
   ·exact ax.2 (.inl (e1 hq))
   ·exact ax.2 (.inr (e2 hq))
 have zero:∀ {x:PV},aq x=[]→∀ l:List (Nat×Nat),(∀ k,ck k (aq x)≤ck k l)∧∀ q∈aq x,q∈l:=fun{x} h l=>by
  rw[h];exact⟨fun k=>aY _,fun q hq=>by simp at hq⟩
 by_cases o1:∃ k e,ta= .own k e
 ·obtain⟨k1,e1,rfl⟩:=o1
  by_cases o2:∃ k e,tb= .own k e
  ·obtain⟨k2,e2,rfl⟩:=o2
   have hne:k1≠k2:=by
    rintro rfl
    have:=hk.1 k1
    simp only[aw,aq,bW,ck,if_true]at this
    omega
   refine⟨cH n (.list n da ua),cH m (.list m db ub),?_,by simp only[bc,a1,b1,am],by show cM _ _=true;simp only[cM];have x1:al _ _=true:=a2;have x2:al _ _=true:=b2;rw[x1,x2];rfl,a3,b3,fin _ _ a4 a5 b4 b5⟩
   have hb:(k1==k2)=false:=by simpa using hne
   simp only[fA,gG,fD,l9,List.find?_cons,kP,am,cp,hb,fP]
  ·have ho:∀ k e,tb≠ .own k e:=fun k e h=>o2 ⟨k,e,h⟩
   obtain⟨c1,c2,c3,c4⟩:=stay (l:=fD [.list n ca (.own k1 e1),.list m cb tb] [.list n da ua,.list m db ub]) h2 hs2 ho
   refine⟨cH n (.list n da ua),.list m cb tb,?_,by simp only[bc,a1,hs2,am],?_,a3,nil c2 h4 c3,fin _ _ a4 a5 (zero c4 _).1 (zero c4 _).2⟩
   ·rw[fA,fA,c1]
    simp only[fA,gG,fD,l9,List.find?_cons,kP,am,cp]
   ·show cM _ _=true
    have x1:al _ _=true:=a2
    simp only[cM,x1,c2,al,am]
 ·have ho:∀ k e,ta≠ .own k e:=fun k e h=>o1 ⟨k,e,h⟩
  obtain⟨c1,c2,c3,c4⟩:=stay (l:=fD [.list n ca ta,.list m cb tb] [.list n da ua,.list m db ub]) h1 hs1 ho
  have hsel:fD [.list n ca ta,.list m cb tb] [.list n da ua,.list m db ub]=fD [.list m cb tb] [.list m db ub]:=by
   cases ta with
   |own k e=>exact absurd rfl (ho k e)
   |_=>rfl
  by_cases o2:∃ k e,tb= .own k e
  ·obtain⟨k2,e2,rfl⟩:=o2
   refine⟨.list n ca ta,cH m (.list m db ub),?_,by simp only[bc,b1,hs1,am],?_,nil c2 h3 c3,b3,fin _ _ (zero c4 _).1 (zero c4 _).2 b4 b5⟩
   ·rw[fA,fA,c1,hsel]
    simp only[fA,gG,fD,l9,List.find?_cons,kP,am,cp]
   ·show cM _ _=true
    have x1:al _ _=true:=b2
    simp only[cM,x1,c2,al,am]
  ·have ho2:∀ k e,tb≠ .own k e:=fun k e h=>o2 ⟨k,e,h⟩
   obtain⟨d1,d2,d3,d4⟩:=stay (l:=fD [.list n ca ta,.list m cb tb] [.list n da ua,.list m db ub]) h2 hs2 ho2
   refine⟨.list n ca ta,.list m cb tb,by rw[fA,fA,c1,d1];rfl,hs,?_,nil c2 h3 c3,nil d2 h4 d3,fin _ _ (zero c4 _).1 (zero c4 _).2 (zero d4 _).1 (zero d4 _).2⟩
   show cM _ _=true
   simp only[cM,c2,d2,al,am]
theorem FN{n sz:Nat}{cs rest:List PV}{tk:ay}{r p':PV}{s st:St}{ns:List Nat}(hs:aH (.list n cs tk)=true)(hn:aG cs=true)(hl:cs.length=n*sz)(h0:0<sz)(ht:cX (.list n cs tk::rest) [0] st=(aq (.list n cs tk)).map (·.1))(hF:cW st.nx ns p')(hz:cs=[]→aA p'= .list 0 [] .no){pre post:List PV}
  (hs1:bc pre=true) (hs2:bc post=true) (hk:a6 st (aw pre++aq (.list n cs tk)++aw post)) (hf:st.fl≤st.nx):
  ∃ q,kU (some (r,p',s)) (.list n cs tk::rest) st (.agg (pre++ .list n cs tk::post))= .agg (pre++q::post)∧aH q=true∧np q=true∧aA q=aA p'∧a6 (ez ((aq (.list n cs tk)).map (·.1)) ns st) (aw pre++aq q++aw post):=by
 obtain⟨q,h1,h2,h3,h4,h5⟩:=FM (r:=r) (s:=s) hs hn hl h0 ht hF hz hk hf
 have hap:=lJ hk
 refine⟨q,?_,h2,h3,h4,h5⟩
 by_cases ho:∃ k e,tk= .own k e
 ·obtain⟨k,e,rfl⟩:=ho
  rw[tO]at h1 ⊢
  rw[ht]at h1 ⊢
  have hJ:((aq (.list n cs (.own k e))).map (·.1)).contains k=true:=by simp[aq]
  simp only[fo]
  rw[pz,lH (u:=⟨(aq (.list n cs (.own k e))).map (·.1),k,n,cH n p'⟩) hJ hs1 (fun x hx=>hap x (by simp[hx]))]
  simp only[fU]
  rw[lH (u:=⟨(aq (.list n cs (.own k e))).map (·.1),k,n,cH n p'⟩) hJ hs2 (fun x hx=>hap x (by simp[hx])),h1]
 ·have ho':∀ k e,tk≠ .own k e:=fun k e h=>ho ⟨k,e,h⟩
  have htk:=rU hs ho'
  rw[tP ho',ht,htk,bK,lS]at h1 ⊢
  rw[h1]
theorem FO{cs ds rest:List PV}{r q:PV}{s st:St}:kU (some (r,.agg ds,s)) (.agg cs::rest) st q=gG (cX (.agg cs::rest) [0] st) (fD cs ds) q:=rfl
def yn(J:List Nat)(l:List (Nat×Nat×PV))(st st':St):St:={st' with objs:=fun s=>(st.objs s).map fun c=>fA J l c}
theorem zH{f:Nat}{cs vs:List PV}{k k':Int}{J:List Nat}(hn:aG cs=true)
  (h:∃ p ns,uP cf f [.agg cs,I k] st=some (I k',p,ez J ns st)∧cW st.nx ns p∧aA p= .agg vs∧cX [.agg cs,I k] [0] st=J)
  (kk:∀ ds ns,uP cf f [.agg cs,I k] st=some (I k',.agg ds,ez J ns st)→cW st.nx ns (.agg ds)→aB ds=vs→cX [.agg cs,I k] [0] st=J→A (mk (I k') (yn J (fD cs ds) st (ez J ns st)))):
  cT (uR f (uP cf f [.agg cs,I k] st) [.agg cs,I k] st) mk A:=by
 obtain⟨p,ns,hu,hF,hs,hX⟩:=h
 obtain⟨ds,rfl,hd⟩:=jl hs
 refine⟨I k',yn J (fD cs ds) st (ez J ns st),?_,kk ds ns hu hF hd hX⟩
 have hkey:ch [.agg cs,I k]=some []:=by
  have hn':np (.agg cs)=true:=hn
  rw[ch,ai hn']
  ·rfl
  ·intros;contradiction
 rw[hu]
 simp only[uR,kG,if_true,Bu]
 rw[ai hkey,hX]
 rfl
set_option maxHeartbeats 4000000 in
theorem Iz(K:bH cf)(k:Nat)(g:bj)(hk:cg (g.edges.map e9) (bO (g.nodes.map eL) k)≤1000000000000){cs:List PV}(hst:aB cs=gc g)(hs:bc cs=true)(hn:aG cs=true)(hT:a6 st (aw cs)):
  ∃ p ns,uP cf 14 [.agg cs,I k] st=some (I (cg (g.edges.map e9) (bO (g.nodes.map eL) k):Nat),p,ez ((aw cs).map (·.1)) ns st)∧cW st.nx ns p∧aA p= .agg (gc (lz (g.nodes.map eL) (g.edges.map e9) k))∧cX [.agg cs,I k] [0] st=(aw cs).map (·.1):=by
 refine C5 K.tab (f:=14) (F:=FB14) (t:=4) rfl rfl rfl hs hn hT (lb rfl) 1 (fun c0 ns hst0 hnp0 hso0 hTB=>?_)
 rw[hst]at hst0
 clear hs hn hT hst
 obtain⟨c,d,rfl⟩:∃ c d,c0=[c,d]:=by
  have:=aC List.length hst0
  rw[cZ]at this
  match c0,this with
  | [c,d],_=>exact⟨c,d,rfl⟩
 simp only[ct,aF,bK,gc,List.cons.injEq,and_true]at hst0
 obtain⟨hr3,hr4⟩:=hst0
 obtain⟨ca,ta,rfl,hca,-⟩:=cw hr3
 obtain⟨cb,tb,rfl,hcb,-⟩:=cw hr4
 simp only[bc,cr,aa]at hso0
 have hn1:aG ca=true:=by simp only[av,cr,aa]at hnp0;exact hnp0.1
 have hn2:aG cb=true:=by simp only[av,cr,aa]at hnp0;exact hnp0.2
 have hLa:kO nc 3 g.nodes ca:=rR dI hca hn1
 have hLb:kO ec 5 g.edges cb:=rR dl hcb hn2
 have hnm:=oh (g.edges.map e9) (bO (g.nodes.map eL) k)
 have hTB2:a6 (cF ns []) ([]++aq (.list g.nodes.length ca ta)++aq (.list g.edges.length cb tb)):=by
  simpa only[aw,aO,bf]using hTB
 unfold FB14 qr qm qi ql qf qo
 simp only[↓pa,pb,aj,↓reduceIte,reduceEqDiff,reduceAdd,g9]
 refine sP (Da K k g.nodes (by omega) hso0.1 hLa (br (fH hTB2 (fun j=>by simp only[bW];omega) (fun q hq=>by simp[hq])))) (fun p ns1 hu hF1 hv htk=>?_)
 have hap:=lJ hTB2
 have hk1:bJ ((aq (.list g.nodes.length ca ta)).map (·.1)) (.list g.edges.length cb tb)= .list g.edges.length cb tb:=B2 hso0.2 fun q hq=>hap q (by simp[hq])
 have hT1:a6 (bU (cF ns []) 2 [.list g.nodes.length ca ta,.list g.edges.length cb tb]) (aw []++aq (.list g.nodes.length ca ta)++aw [.list g.edges.length cb tb]):=by
  simpa only[aw,aO,bf]using br (s:=2) (c:=[.list g.nodes.length ca ta,.list g.edges.length cb tb]) hTB2
 obtain⟨q1,j1,j2,j3,j4,j5⟩:=FN (r:=I (bO (g.nodes.map eL) k:Nat)) (s:=ez ((aq (.list g.nodes.length ca ta)).map (·.1)) ns1 (bU (cF ns []) 2 [.list g.nodes.length ca ta,.list g.edges.length cb tb])) (pre:=[]) (post:=[.list g.edges.length cb tb]) hso0.1 hn1 hLa.len (by decide) htk hF1 (fun e=>by
  have h0:g.nodes.length=0:=by have:=hLa.len;rw[e]at this;simp at this;omega
  have h1:g.nodes=[]:=aP h0
  rw[hv,h1];rfl) rfl (by simp only[bc,hso0.2,am]) hT1 (aY _)
 rw[bf,bf]at j1
 have hT2:=qD (ns:=ns1) (br (s:=2) (c:=[.list g.nodes.length ca ta,.list g.edges.length cb tb]) hTB2) (aY _)
 simp only[↓pa,pb,aj,↓reduceIte,reduceEqDiff,reduceAdd,g9,KS,hk1,hu]
 generalize hS:ez ((aq (.list g.nodes.length ca ta)).map (·.1)) ns1 (bU (cF ns []) 2 [.list g.nodes.length ca ta,.list g.edges.length cb tb])=S1 at*
 have hfl:S1.fl≤S1.nx:=by rw[←hS];exact aY _
 have hT3:a6 S1 (aw [q1]++aq (.list g.edges.length cb tb)++aw []):=by
  simpa only[aw,aO,bf]using j5
 refine sP (Dc K (bO (g.nodes.map eL) k) g.edges hk hso0.2 hLb (fH hT3 (fun j=>by simp only[bW];omega) (fun q hq=>by simp[hq]))) (fun p2 ns2 hu2 hF2 hv2 htk2=>?_)
 obtain⟨q2,i1,i2,i3,i4,i5⟩:=FN (r:=I (cg (g.edges.map e9) (bO (g.nodes.map eL) k):Nat)) (s:=ez ((aq (.list g.edges.length cb tb)).map (·.1)) ns2 S1) (pre:=[q1]) (post:=[]) hso0.2 hn2 hLb.len (by decide) htk2 hF2 (fun e=>by
  have h0:g.edges.length=0:=by have:=hLb.len;rw[e]at this;simp at this;omega
  have h1:g.edges=[]:=aP h0
  rw[hv2,h1];rfl) (by simp only[bc,j2,am]) rfl hT3 hfl
 simp only[aM,bf]at i1
 simp only[↓pa,pb,↓reduceIte,reduceCtorEq,g9,j1,hu2,i1]
 refine⟨_,rfl,rfl,?_,?_,by simpa [aq,aw]using i5,rfl,?_⟩
 ·show cM _ _=true
  have a1:al _ _=true:=j3
  have a2:al _ _=true:=i3
  simp only[cM,a1,a2,am]
 ·simp only[aH,bc,j2,i2,am]
 ·simp only[mV,ct,aF,bK,j4,i4,hv,hv2]
  simp only[gc,lz,NX,EX,pE,pF,bu]
theorem tg{g:bj}{cs:List PV}(h:aB cs=gc g):∃ ca ta cb tb,cs=[.list g.nodes.length ca ta,.list g.edges.length cb tb]∧aB ca=g.nodes.flatMap nc∧aB cb=g.edges.flatMap ec:=by
 obtain⟨c,d,rfl⟩:∃ c d,cs=[c,d]:=by
  have:=aC List.length h
  rw[cZ]at this
  match cs,this with
  | [c,d],_=>exact⟨c,d,rfl⟩
 simp only[ct,aF,bK,gc,List.cons.injEq,and_true]at h
 obtain⟨ca,ta,rfl,hca,-⟩:=cw h.1
 obtain⟨cb,tb,rfl,hcb,-⟩:=cw h.2
 exact⟨ca,ta,cb,tb,rfl,hca,hcb⟩
theorem uB{α:Type}{enc:α→List PV}{m:Nat}(hm:∀ a,(enc a).length=m)(h0:0<m){l:List α}{cs:List PV}(h:aB cs=l.flatMap enc):cs=[]↔l.length=0:=by
 have h1:cs.length=l.length*m:=by rw[←cZ,h,ce enc m hm]
 constructor
 ·rintro rfl
  rcases gv l.length with h2|h2
  ·exact h2
  ·have:=Nat.mul_pos h2 h0;simp at h1;omega
 ·intro h2
  exact aP (by rw[h1,h2,Nat.zero_mul])
theorem w7{a:List (Nat×Nat)}{b:List Nat}{k:Nat}{g:bj}{cs ds:List PV}{ns:List Nat}(ha:a=g.nodes.map eL)(hb:b=g.edges.map e9)(hst:aB cs=gc g)(hs:bc cs=true)(hT:a6 st (aw cs))(hd:aB ds=gc (lz a b k))(hF:cW st.nx ns (.agg ds))(hf:st.fl≤st.nx):
  ∃ x y,fA ((aw cs).map (·.1)) (fD cs ds) cs=[x,y]∧bc [x,y]=true∧aG [x,y]=true∧aB [x,y]=gc (lz a b k)∧a6 (ez ((aw cs).map (·.1)) ns st) (aw [x,y]):=by
 obtain⟨ca,ta,cb,tb,rfl,hca,hcb⟩:=tg hst
 obtain⟨da,ua,db,ub,rfl,hda,hdb⟩:=tg hd
 have l1:(lz a b k).nodes.length=g.nodes.length:=by simp only[lz,pE,ha,bu]
 have l2:(lz a b k).edges.length=g.edges.length:=by simp only[lz,pF,hb,bu]
 have z1:=uB dI (by decide) hda
 have z2:=uB dl (by decide) hdb
 rw[l1]at z1 hF hd ⊢
 rw[l2]at z2 hF hd ⊢
 obtain⟨x,y,h1,h2,h3,h4,h5,h6⟩:=Kx (uB dI (by decide) hca) (uB dl (by decide) hcb) z1 z2 hs hT rfl hF hf
 exact⟨x,y,h1,h2,h3,by rw[←hd];simp only[ct,aF,bK,h4,h5],h6⟩
theorem pd{x:pC}{cs:List PV}(h:aB cs=gP x):∃ ds,cs=I x.code::I x.at_::ds∧aB ds=gc x.graph:=by
 obtain⟨a,b,c,d,rfl⟩:∃ a b c d,cs=[a,b,c,d]:=by
  have hl:cs.length=4:=by rw[←cZ,h];rfl
  match cs,hl with
  | [a,b,c,d],_=>exact⟨a,b,c,d,rfl⟩
 simp only[ct,aF,gP,List.cons.injEq]at h
 obtain⟨h1,h2,h3⟩:=h
 have e1:a=I x.code:=by cases a<;>simp_all [aA,ren]
 have e2:b=I x.at_:=by cases b<;>simp_all [aA,ren]
 exact⟨[c,d],by rw[e1,e2],by simp only[ct,aF,h3];rfl⟩
theorem qJ{c i:Int}{cs:List PV}:aw (I c::I i::cs)=aw cs:=by simp[aw,aq]
theorem GL{nx:Nat}{ns:List Nat}{c i:Int}{ds:List PV}(h:cW nx ns (.agg (I c::I i::ds))):cW nx ns (.agg ds):=
 ⟨by have:=h.tk;simpa [aq,aw]using this,by have:=h.so;simpa [aH,bc]using this,by have:=h.np;simpa [np,al,cM,aG]using this⟩
end Go.PM
namespace Go.PM
def zV(n k:Nat)(h:bj):List Nd:=h.nodes.filter fun x=>decide (x.id.tmod n=k)
def gY(n:Nat):Nat→List bj→List Nd
 |_,[]=>[]
 |k,h::l=>zV n k h++gY n (k+1) l
def fz(l:List bj):List Eg:=l.flatMap (·.edges)
def oC(a l:List Nd):List Nd:=l.foldl (fun a x=>fq x a) a
def pp(a l:List Eg):List Eg:=l.foldl (fun a x=>eK x a) a
def d7(l:List bj):bj:=⟨oC [] (gY l.length 0 l),pp [] (fz l)⟩
def oK(h:bj)(n k:Nat):Bool:=h.nodes.all fun x=>decide (x.id.tmod n=k)||(decide (x.labels.length=0) && decide (x.fields.length=0) && decide ((gZ true h.edges x.id).length=0) && !decide ((gZ false h.edges x.id).length=0))
def ot(n:Nat):Nat→List bj→Bool
 |_,[]=>true
 |k,h::l=>bY h && oK h n k && ot n (k+1) l
def my(l:List bj):pC:=
 if 1000<l.length then⟨2,0,g0⟩else if l.length<1∨8<l.length then⟨1,0,g0⟩
 else if ot l.length 0 l=false then⟨1,0,g0⟩else if bY (d7 l)=false then⟨1,0,g0⟩else⟨0,0,d7 l⟩
def uF(L:List bj)(h:bj)(n k:Nat):Bool:=h.edges.all (fun e=>decide (e.src.tmod n=k)) &&
 h.nodes.all fun x=>decide (x.id.tmod n=k)||(decide (x.labels.length=0) && decide (x.fields.length=0) && h.edges.any (fun e=>decide (e.dst=x.id)) && decide (0≤df (L.getD (x.id.tmod n).toNat g0).nodes x.id))
def mz(L:List bj)(n:Nat):Nat→List bj→Bool
 |_,[]=>true
 |k,h::l=>uF L h n k && mz L n (k+1) l
def fK(l:List bj):Bool:=l.all bY && decide ((fz l).map Eg.id).Nodup && mz l l.length 0 l
def po(l:List bj):pC:=
 if 1000<l.length then⟨2,0,g0⟩else if(l.length<1∨8<l.length)∨fK l=false then⟨1,0,g0⟩
 else if bY (d7 l)=false then⟨1,0,g0⟩else⟨0,0,d7 l⟩
theorem wq(n:Nat):∀ (k:Nat) (l:List bj),ot n k l=true↔∀ i (hi:i<l.length),bY l[i]=true∧oK l[i] n (k+i)=true
 |k,[]=>by simp[ot]
 |k,h::l=>by
  rw[ot,aa,aa,wq n (k+1) l]
  constructor
  ·rintro⟨h1,h2⟩ i hi
   cases i with
   |zero=>exact h1
   |succ i=>have:=h2 i (by simpa using hi);rw[show k+(i+1)=k+1+i by omega];exact this
  ·intro h1
   refine⟨h1 0 (by simp),fun i hi=>?_⟩
   have:=h1 (i+1) (by simpa using hi)
   rw[show k+1+i=k+(i+1) by omega];exact this
theorem tX(L:List bj)(n:Nat):∀ (k:Nat) (l:List bj),mz L n k l=true↔∀ i (hi:i<l.length),uF L l[i] n (k+i)=true
 |k,[]=>by simp[mz]
 |k,h::l=>by
  rw[mz,aa,tX L n (k+1) l]
  constructor
  ·rintro⟨h1,h2⟩ i hi
   cases i with
   |zero=>exact h1
   |succ i=>have:=h2 i (by simpa using hi);rw[show k+(i+1)=k+1+i by omega];exact this
  ·intro h1
   refine⟨h1 0 (by simp),fun i hi=>?_⟩
   have:=h1 (i+1) (by simpa using hi)
   rw[show k+1+i=k+(i+1) by omega];exact this
theorem vX(n:Nat):∀ (k:Nat) (l:List bj) {x:Nd},x∈gY n k l→∃ i,∃ hi:i<l.length,x∈(l[i]'hi).nodes∧x.id.tmod n=((k+i:Nat):Int)
 |k,[],x,h=>by simp[gY]at h
 |k,g::l,x,h=>by
  rw[gY,ax]at h
  rcases h with h|h
  ·obtain⟨h1,h2⟩:=jF.1 h
   exact⟨0,by simp,h1,by simpa using h2⟩
  ·obtain⟨i,hi,h1,h2⟩:=vX n (k+1) l h
   exact⟨i+1,by simpa using hi,h1,by rw[h2];congr 1;omega⟩
theorem A1{y x:Nd}:∀ {l:List Nd},x∈fq y l→x=y∨x∈l
 | [],h=>by simpa [fq]using h
 |z::l,h=>by
  rw[fq]at h
  split at h
  ·simpa using h
  ·rcases aJ.1 h with h|h
   ·exact .inr (by simp[h])
   ·rcases A1 h with h|h
    ·exact .inl h
    ·exact .inr (by simp[h])
theorem ze{x:Nd}:∀ (l a:List Nd),x∈oC a l→x∈a∨x∈l
 | [],a,h=> .inl h
 |y::l,a,h=>by
  rcases ze l (fq y a) h with h|h
  ·rcases A1 h with h|h
   ·exact .inr (by simp[h])
   ·exact .inl h
  ·exact .inr (by simp[h])
theorem xq(y:Eg):∀ l:List Eg,(eK y l).Perm (y::l)
 | []=>List.Perm.refl _
 |z::l=>by
  rw[eK]
  split
  ·exact List.Perm.refl _
  ·exact((xq y l).cons z).trans (List.Perm.swap y z l)
theorem sx:∀ (l a:List Eg),(pp a l).Perm (l++a)
 | [],a=>List.Perm.refl _
 |y::l,a=>by
  refine(sx l (eK y a)).trans ?_
  exact((xq y a).append_left l).trans List.perm_middle
theorem uO{b:Bool}{l:List Eg}{id:Int}:(gZ b l id).length=0↔∀ e∈l,zX b e≠id:=by
 unfold gZ
 rw[bu,List.length_eq_zero_iff,List.filter_eq_nil_iff]
 simp
theorem zk{g:bj}(h:bY g=true){e:Eg}(he:e∈g.edges):fO g.nodes e.src=true∧fO g.nodes e.dst=true:=by
 obtain⟨j,hj,rfl⟩:=cP he
 have:=(vp h).2.2.2 j hj
 rw[bZ,aa,aa,aa,nI hj]at this
 exact this.2.2
theorem yd{l:List Nd}{id:Int}:fO l id=true↔∃ x∈l,x.id=id:=by simp[fO]
theorem DZ{l:List Nd}{id:Int}:0≤df l id↔fO l id=true:=by
 have:=lA id l 0
 unfold df
 cases hh:fO l id with
 |true=>rw[hh]at this;simp at this;exact⟨fun _=>rfl,fun _=>this⟩
 |false=>rw[hh]at this;simp at this;exact⟨fun h=>by omega,fun h=>by cases h⟩
theorem DF{l:List bj}(h:fK l=true):ot l.length 0 l=true:=by
 unfold fK at h
 rw[aa,aa,aU,tX]at h
 obtain⟨⟨h1,-⟩,h2⟩:=h
 rw[wq]
 intro i hi
 refine⟨h1 _ (bL hi),?_⟩
 have h3:=h2 i hi
 unfold uF at h3
 rw[aa,aU,aU]at h3
 unfold oK
 rw[aU]
 intro x hx
 have h4:=h3.2 x hx
 rw[bP]at h4 ⊢
 rcases h4 with h4|h4
 ·exact .inl h4
 by_cases hk:x.id.tmod l.length=((0+i:Nat):Int)
 ·exact .inl (by simpa using hk)
 right
 simp only[aa,decide_eq_true_eq,gO,decide_eq_false_iff_not]at h4 ⊢
 refine⟨⟨h4.1.1,uO.2 fun e he hid=>hk ?_⟩,fun h0=>?_⟩
 ·have:=h3.1 e he
  have hid:e.src=x.id:=hid
  rw[←hid];simpa using this
 ·obtain⟨e,he,hd⟩:=mR.1 h4.1.2
  have hd:e.dst=x.id:=by simpa using hd
  exact uO.1 h0 e he hd
theorem DH{l:List bj}(h:ot l.length 0 l=true)(hg:bY (d7 l)=true):fK l=true:=by
 rw[wq]at h
 have hok:=uG hg
 unfold fK
 rw[aa,aa,aU,tX]
 have hp:=sx (fz l) []
 rw[aO]at hp
 refine⟨⟨fun g hgm=>?_,?_⟩,fun i hi=>?_⟩
 ·obtain⟨i,hi,rfl⟩:=cP hgm
  exact(h i hi).1
 ·refine decide_eq_true ?_
  refine(hp.map Eg.id).nodup_iff.1 ?_
  have:rJ (d7 l).edges:=hok.er
  unfold rJ at this
  rw[List.nodup_iff_pairwise_ne,me]
  exact this.imp fun hab=>by omega
 ·obtain⟨hgi,hsi⟩:=h i hi
  unfold oK at hsi
  rw[aU]at hsi
  have own:∀ x∈l[i].nodes,(∃ e∈l[i].edges,e.src=x.id)→x.id.tmod l.length=((0+i:Nat):Int):=by
   rintro x hx ⟨e,he,hs⟩
   have:=hsi x hx
   rw[bP]at this
   rcases this with h1|h1
   ·simpa using h1
   ·simp only[aa,decide_eq_true_eq]at h1
    exact absurd hs (uO.1 h1.1.2 e he)
  unfold uF
  rw[aa,aU,aU]
  refine⟨fun e he=>?_,fun x hx=>?_⟩
  ·obtain⟨x,hx,hid⟩:=yd.1 (zk hgi he).1
   have:=own x hx ⟨e,he,hid.symm⟩
   rw[hid]at this
   simpa using this
  ·have h1:=hsi x hx
   rw[bP]at h1 ⊢
   rcases h1 with h1|h1
   ·exact .inl h1
   right
   simp only[aa,decide_eq_true_eq,gO,decide_eq_false_iff_not]at h1 ⊢
   have hex:∃ e∈l[i].edges,e.dst=x.id:=by
    refine Classical.byContradiction fun hn=>h1.2 (uO.2 fun e he hd=>hn ⟨e,he,hd⟩)
   obtain⟨e,he,hd⟩:=hex
   refine⟨⟨⟨h1.1.1.1,h1.1.1.2⟩,mR.2 ⟨e,he,by simpa using hd⟩⟩,?_⟩
   have hej:e∈(d7 l).edges:=hp.mem_iff.2 (kR.2 ⟨l[i],bL hi,he⟩)
   obtain⟨y,hy,hyid⟩:=yd.1 (zk hg hej).2
   rcases ze _ _ hy with h2|h2
   ·cases h2
   ·obtain⟨j,hj,h3,h4⟩:=vX l.length 0 l h2
    rw[DZ]
    have hx2:x.id.tmod l.length=(j:Int):=by rw[←hd,←hyid,h4];simp
    rw[hx2,gN,fe,az hj]
    exact yd.2 ⟨y,h3,by rw[hyid,hd]⟩
theorem FP(l:List bj):po l=my l:=by
 unfold po my
 by_cases h0:1000<l.length
 ·rw[ai h0,ai h0]
 rw[ad h0,ad h0]
 by_cases h1:l.length<1∨8<l.length
 ·rw[ai (.inl h1),ai h1]
 rw[ad h1]
 cases hs:fK l with
 |true=>
  have e1:¬ ((l.length<1∨8<l.length)∨true=false):=by
   rintro(h|h)
   ·exact h1 h
   ·cases h
  rw[ad e1,DF hs,ad (show ¬ (true=false) by simp)]
 |false=>
  rw[ai (.inr rfl)]
  cases ha:ot l.length 0 l with
  |false=>rw[ai rfl]
  |true=>
   rw[ad (by simp)]
   cases hg:bY (d7 l)with
   |false=>rw[ai rfl]
   |true=>rw[DH ha hg]at hs;cases hs
end Go.PM
namespace Go.PM
open Go.Lib
variable {cf:au} {st:St} {mk:PV→St→Fr×St} {A:Fr×St→Prop} {s:Nat}
theorem zG(K:bH cf)(g:bj)(b:Bool)(id:Int)(hl:g.edges.length≤2000000)(kk:∀ fl,A (mk (IX (gZ b g.edges id)) (cQ st fl))):cT (ar cf 43 [.agg [NX g.nodes,EX g.edges],I id,.bool b] [] st) mk A:=by
 obtain⟨fl,h,-⟩:=Gz (st:=st) K g b id hl (t:= .no) (u:= .no)
 exact⟨_,_,h,kk fl⟩
def wF(es:List Eg)(n k:Nat)(x:Nd):Bool:=decide (x.id.tmod n=k)||(decide (x.labels.length=0) && decide (x.fields.length=0) && decide ((gZ true es x.id).length=0) && !decide ((gZ false es x.id).length=0))
set_option maxHeartbeats 4000000 in
theorem Ir(K:bH cf)(h:bj)(n k:Nat)(hn:1≤n∧n≤8)(hk:k≤8)(hnl:h.nodes.length≤2000000)(hel:h.edges.length≤2000000)(hx:∀ x∈h.nodes,x.labels.length≤2000000∧x.fields.length≤2000000):
  ar cf 62 [.agg (gc h),I n,I k] [] st=some (.bool (oK h n k),st):=by
 refine cB K.tab (F:=F62) (t:=6) rfl rfl rfl (lb rfl) (by simp[gQ,aQ]) (bD _) (h.nodes.length+1) ?_
 have hm:=ce nc 3 dI h.nodes
 unfold F62 qr qd qm qi qc qb qk ql qf qa qy qn qs qo qN
 simp only[↓pa,aj,↓reduceIte,reduceAdd,gc]
 refine aX (fun q fr st=>∃ i:Nat,q=h.nodes.length-i∧i≤h.nodes.length∧fr 1=I n∧fr 2=I k∧fr 3= .ptr 3 0∧fr 7=I i∧st.objs 3=some [NX h.nodes,EX h.edges]∧oK h n k=(h.nodes.drop i).all (wF h.edges n k)) h.nodes.length (by omega)
  ⟨0,by simp,by omega,by simp only[↓pa,pb,↓reduceIte,reduceEqDiff],by simp only[↓pa,pb,↓reduceIte,reduceEqDiff],by simp only[↓pa,↓reduceIte,reduceEqDiff],by simp only[↓pa,↓reduceIte]<;>rfl,by simp only[pb,↓reduceIte],rfl⟩ ?_
 rintro q fr st ⟨i,rfl,hi,f1,f2,f3,f7,o3,hQ⟩
 simp only[↓pa,pb,aj,aT,↓reduceIte,reduceEqDiff,reduceAdd,f3,f7,o3]
 refine ab (fun h1=>?_) (fun h1=>?_)
 ·have hlt:i<h.nodes.length:=h1
  have hrem:=kN (k:= .i64) (a:=h.nodes[i].id) (show(n:Int)≠0 by omega)
  have h3:=dI h.nodes[i]
  have hxx:=hx _ (bL hlt)
  rw[aK hlt,dc]at hQ
  have hnc:nc h.nodes[i]=[I h.nodes[i].id,TX h.nodes[i].labels,FX h.nodes[i].fields]:=rfl
  simp (disch:=omega)only[↓pa,pb,aj,↓reduceIte,reduceEqDiff,reduceAdd,reduceLeDiff,dD,f1,f2,f3,f7,o3,h1,k9 hlt,hnc,hrem]
  have hno:∀ {b:Bool},wF h.edges n k h.nodes[i]=b→oK h n k=(b && (List.drop (i+1) h.nodes).all (wF h.edges n k)):=fun e=>by rw[hQ,e]
  clear hQ
  have ht:wF h.edges n k h.nodes[i]=(decide (h.nodes[i].id.tmod n=k)||(decide (h.nodes[i].labels.length=0) && decide (h.nodes[i].fields.length=0) && decide ((gZ true h.edges h.nodes[i].id).length=0) && !decide ((gZ false h.edges h.nodes[i].id).length=0))):=rfl
  rw[ht]at hno
  clear ht
  refine ab (fun h2=>?_) (fun h2=>?_)
  ·simp (disch:=omega)only[↓pa,pb,aT,↓reduceIte,reduceEqDiff,f1,f2,f3,f7,o3,h2]
   exact⟨h.nodes.length- (i+1),by omega,i+1,rfl,by omega,rfl,by rw[hno (b:=true) (by rw[decide_eq_true h2];rfl)];rfl⟩
  simp only[↓pa,pb,aj,↓reduceIte,reduceEqDiff,reduceAdd,h2]
  refine ab (fun h4=>?_) (fun h4=>?_)
  ·simp only[↓pa,pb,↓reduceIte,reduceEqDiff,h4]
   rw[hno (b:=false) (by rw[decide_eq_false h2,decide_eq_false (show ¬h.nodes[i].labels.length=0 by omega)];rfl)];rfl
  simp only[↓pa,pb,aj,↓reduceIte,reduceEqDiff,reduceAdd,h4]
  refine ab (fun h5=>?_) (fun h5=>?_)
  ·simp only[↓pa,pb,↓reduceIte,reduceEqDiff,h5]
   rw[hno (b:=false) (by rw[decide_eq_false h2,decide_eq_false (show ¬h.nodes[i].fields.length=0 by omega),l5];rfl)];rfl
  simp only[↓pa,pb,aj,↓reduceIte,reduceEqDiff,reduceAdd,reduceLeDiff,f3,o3,h5]
  have e4:h.nodes[i].labels.length=0:=by omega
  have e5:h.nodes[i].fields.length=0:=by omega
  refine zG K h true _ hel (fun fl=>?_)
  simp only[↓pa,pb,↓reduceIte,reduceEqDiff]
  refine ab (fun h6=>?_) (fun h6=>?_)
  ·simp only[↓pa,pb,↓reduceIte,reduceEqDiff,h6]
   rw[hno (b:=false) (by rw[decide_eq_false h2,decide_eq_false (show ¬ (gZ true h.edges h.nodes[i].id).length=0 by omega),l5];rfl)];rfl
  simp only[↓pa,pb,aj,↓reduceIte,reduceEqDiff,reduceAdd,reduceLeDiff,f3,o3,h6]
  refine zG K h false _ hel (fun fl=>?_)
  simp only[↓pa,pb,↓reduceIte,reduceEqDiff]
  refine ab (fun h7=>?_) (fun h7=>?_)
  ·simp only[↓pa,pb,↓reduceIte,h7]
   rw[hno (b:=false) (by rw[decide_eq_false h2,decide_eq_true (show(gZ false h.edges h.nodes[i].id).length=0 by omega)];simp)];rfl
  simp (disch:=omega)only[↓pa,pb,aj,aT,↓reduceIte,reduceEqDiff,f1,f2,f3,f7,o3,h7]
  exact⟨h.nodes.length- (i+1),by omega,i+1,rfl,by omega,rfl,by rw[hno (b:=true) (by rw[decide_eq_true e4,decide_eq_true e5,decide_eq_true (show(gZ true h.edges h.nodes[i].id).length=0 by omega),decide_eq_false (show ¬ (gZ false h.edges h.nodes[i].id).length=0 by omega)];simp)];rfl⟩
 ·have hd:h.nodes.drop i=[]:=cz (by omega)
  rw[hd]at hQ
  simp only[↓pa,pb,↓reduceIte,h1]
  exact aC PV.bool hQ.symm
theorem n3{l:List bj}{i:Nat}(h:i<l.length):bT (l.flatMap gc) (i*2) 2 true=some (.agg (gc l[i])):=by
 have:=cR gc 2 ki 0 2 true (by decide) l i h
 rw[bh]at this
 rw[this];rfl
theorem vN{l:List bj}{i:Nat}(h:i<l.length):bT (l.flatMap gc) (i*2) 1 false=some (NX l[i].nodes):=by
 have:=cR gc 2 ki 0 1 false (by decide) l i h
 rw[bh]at this
 rw[this];rfl
theorem AE{l:List bj}{i:Nat}(h:i<l.length):bT (l.flatMap gc) (i*2+1) 1 false=some (EX l[i].edges):=by
 have:=cR gc 2 ki 1 1 false (by decide) l i h
 rw[this];rfl
def EP(l:List bj):Prop:=l.length≤2000000∧∀ g∈l,sS g
set_option maxHeartbeats 8000000 in
theorem Kh(K:bH cf)(l:List bj)(hl:EP l):∃ r,r= .agg (gP (my l))∧∃ fl,ar cf 23 [GX l] [] st=some (r,cQ st fl):=by
 refine qA K.tab (F:=F23) (Q:=fun r=>r= .agg (gP (my l))) rfl rfl rfl (lb rfl) (by simp[iI]) 1000 ?_
 have hm:=ce gc 2 ki l
 have hflt:∀ (g:bj) st,ar cf 40 [.agg (gc g)] [] st=some (I (lk g),st):=fun g st=>Kn K g
 have hlb:=hl.1
 unfold F23 qr qd qm qi qb qk ql qf qt qa qx qn qs qo qN
 simp only[↓pa,pb,↓reduceIte,reduceCtorEq]
 refine ab (fun k1=>?_) (fun k1=>?_)
 ·have e:my l=⟨2,0,g0⟩:=ai (by omega)
  simp only[↓pa,↓bM,pb,aj,av,↓reduceIte,reduceEqDiff,reduceAdd,reduceLeDiff,k1]
  rw[e];rfl
 simp only[↓pa,pb,↓reduceIte,reduceCtorEq,k1]
 have e1:l.length<1∨8<l.length→my l=⟨1,0,g0⟩:=fun h=>by rw[my,ad (by omega),ai h]
 refine ab (fun k2=>?_) (fun k2=>?_)
 ·simp only[↓pa,↓bM,pb,aj,av,↓reduceIte,reduceEqDiff,reduceAdd,reduceLeDiff,k2]
  rw[e1 (by omega)];rfl
 simp only[↓pa,pb,↓reduceIte,reduceEqDiff,k2]
 refine ab (fun k3=>?_) (fun k3=>?_)
 ·simp only[↓pa,↓bM,pb,aj,av,↓reduceIte,reduceEqDiff,reduceAdd,reduceLeDiff,k3]
  rw[e1 (by omega)];rfl
 have e2:my l=if ot l.length 0 l=false then⟨1,0,g0⟩else if bY (d7 l)=false then⟨1,0,g0⟩else⟨0,0,d7 l⟩:=by
  rw[my,ad (by omega),ad (by omega)]
 clear e1
 simp only[↓pa,↓bM,pb,aj,↓reduceIte,reduceEqDiff,reduceAdd,reduceLeDiff,k3]
 refine aX (fun q fr st=>∃ (k:Nat) (G:bj) (t u:ay) (z:PV),q=l.length-k∧k≤l.length∧fr 0=GX l∧fr 2= .ptr 2 0∧fr 3=I l.length∧fr 4= .ptr 4 0∧fr 5=I k∧(∃ a b c d,st.objs 2=some [a,b,c,d])∧st.objs 4=some [.list G.nodes.length (G.nodes.flatMap nc) t,.list G.edges.length (G.edges.flatMap ec) u]∧jk G t u∧a6 st (eH G t u)∧st.fl≤st.nx∧G.nodes.length≤200*k∧G.edges.length≤400*k∧ot l.length 0 l=ot l.length k (l.drop k)∧d7 l=⟨oC G.nodes (gY l.length k (l.drop k)),pp G.edges (fz (l.drop k))⟩) l.length (by omega)
  ⟨0,g0,.nil,.nil,.hole,by simp,by omega,by simp only[↓pa,pb,↓reduceIte,reduceCtorEq],by simp only[↓pa,pb,↓reduceIte,reduceEqDiff],by simp only[↓pa,pb,↓reduceIte,reduceEqDiff],by simp only[↓pa,↓reduceIte,reduceEqDiff],by simp only[↓pa,↓reduceIte]<;>rfl,⟨_,_,_,_,by simp only[pb,↓reduceIte,reduceEqDiff]<;>rfl⟩,by simp only[pb,↓reduceIte]<;>rfl,⟨rfl,rfl⟩,fp,aY _,aY _,aY _,rfl,rfl⟩ ?_
 rintro q fr st ⟨k,G,t,u,z,rfl,hk8,f0,f2,f3,f4,f5,⟨a2,b2,c2,d2,o2⟩,o4,hg,hk,hfl,hGn,hGe,hA,hJ⟩
 simp only[↓pa,pb,aT,↓reduceIte,reduceEqDiff,f3,f5]
 refine ab (fun h1=>?_) (fun h1=>?_)
 ·have hlt:k<l.length:=h1
  have hkl:=fun J=> @vk J _ (iI l)
  rw[aK hlt]at hA hJ
  rw[ot]at hA
  have hJ:d7 l=⟨oC G.nodes (l[k].nodes.filter (fun x=>decide (x.id.tmod l.length=(k:Int)))++gY l.length (k+1) (l.drop (k+1))),pp G.edges (l[k].edges++fz (l.drop (k+1)))⟩:=hJ
  have hfk:=hflt l[k]
  simp (disch:=omega)only[↓pa,pb,↓reduceIte,reduceEqDiff,dD,reduceCtorEq,f0,f5,h1,n3 hlt,hfk]
  cases hgk:bY l[k]
  ·have hf1:lk l[k]=1:=by simp[lk,hgk]
   simp only[↓pa,↓bM,pb,aj,av,↓reduceIte,reduceEqDiff,reduceAdd,reduceLeDiff,Int.reduceEq,f2,o2,hf1]
   rw[e2,hA,hgk];rfl
  have hf1:lk l[k]=0:=by simp[lk,hgk]
  have hok:=uG hgk
  have hsr:=fun st=>Ir (st:=st) K l[k] l.length k (by omega) (by omega) (by have:=hok.nl;omega) (by have:=hok.el;omega) (fun x hx=>by have:=hok.ns x hx;exact⟨by have:=this.ll;omega,by have:=this.fl;omega⟩)
  simp (disch:=omega)only[↓pa,pb,↓reduceIte,reduceEqDiff,reduceCtorEq,f0,f3,f5,n3 hlt,hf1,hsr]
  cases hsh:oK l[k] l.length k
  ·simp only[↓pa,↓bM,pb,aj,av,↓reduceIte,reduceEqDiff,reduceAdd,reduceLeDiff,f2,o2]
   rw[e2,hA,hgk,hsh];rfl
  rw[hgk,hsh,bX,bX]at hA
  simp only[↓pa,pb]
  clear hfk hsr hsh
  have hnl:=hok.nl
  have hel:=hok.el
  refine aX (fun q fr st=>∃ (i:Nat) (H:bj) (t u:ay),q=l[k].nodes.length-i∧i≤l[k].nodes.length∧fr 0=GX l∧fr 2= .ptr 2 0∧fr 3=I l.length∧fr 4= .ptr 4 0∧fr 5=I k∧fr 6=I i∧(∃ a b c d,st.objs 2=some [a,b,c,d])∧st.objs 4=some [.list H.nodes.length (H.nodes.flatMap nc) t,.list H.edges.length (H.edges.flatMap ec) u]∧jk H t u∧a6 st (eH H t u)∧st.fl≤st.nx∧H.nodes.length≤200*k+i∧H.edges.length≤400*k∧d7 l=⟨oC H.nodes ((l[k].nodes.drop i).filter (fun x=>decide (x.id.tmod l.length=(k:Int)))++gY l.length (k+1) (l.drop (k+1))),pp H.edges (l[k].edges++fz (l.drop (k+1)))⟩) l[k].nodes.length (by omega)
   ⟨0,G,t,u,by simp,by omega,by simp only[↓pa,↓reduceIte,reduceCtorEq,f0],by simp only[↓pa,↓reduceIte,reduceEqDiff,f2],by simp only[↓pa,↓reduceIte,reduceEqDiff,f3],by simp only[↓pa,↓reduceIte,reduceEqDiff,f4],by simp only[↓pa,↓reduceIte,reduceEqDiff,f5],(by simp only[↓pa,↓reduceIte]<;>rfl),⟨a2,b2,c2,d2,by simp only[o2]⟩,by simp only[o4],hg,hk,hfl,hGn,hGe,hJ⟩ ?_
  clear f0 f2 f3 f4 f5 o2 o4 hg hk hfl hGn hGe hJ
  rintro q fr st ⟨i,H,t,u,rfl,hi,f0,f2,f3,f4,f5,f6,⟨a2,b2,c2,d2,o2⟩,o4,hg,hk,hfl,hGn,hGe,hJ⟩
  have hmn:=ce nc 3 dI l[k].nodes
  have hme:=ce ec 5 dl l[k].edges
  simp (disch:=omega)only[↓pa,pb,aT,↓reduceIte,reduceEqDiff,reduceCtorEq,f0,f5,f6,vN hlt,bh]
  refine ab (fun h3=>?_) (fun h3=>?_)
  ·have hlt2:i<l[k].nodes.length:=h3
   have hrem:=kN (k:= .i64) (a:=l[k].nodes[i].id) (show(l.length:Int)≠0 by omega)
   rw[aK hlt2,List.filter_cons]at hJ
   simp (maxSteps:=1000000) (disch:=omega)only[↓pa,pb,↓reduceIte,reduceEqDiff,reduceCtorEq,f0,f3,f5,f6,vN hlt,bh,h3,m4 hlt2,hrem]
   refine ab (fun h4=>?_) (fun h4=>?_)
   ·rw[ai (by simpa using h4)]at hJ
    simp (disch:=omega)only[↓pa,↓dV,pb,aj,cS,↓reduceIte,reduceEqDiff,reduceAdd,reduceLeDiff,reduceCtorEq,f0,f4,f5,f6,o4,vN hlt,bh,h4,k9 hlt2]
    have hnx:=hok.ns _ (bL hlt2)
    refine BH rfl (by simp[hY]) (Kq K l[k].nodes[i] (by have:=hnx.ll;omega) (by have:=hnx.fl;omega)) ?_
    simp only[↓pa,↓dV,pb,cS,↓reduceIte,reduceEqDiff]
    refine Cg K hg hk hfl (by omega) (fun t' u' ns b ht hg' hk'=>?_)
    simp (disch:=omega)only[↓pa,↓dV,pb,aj,cS,fS,aT,ah,af,↓reduceIte,reduceEqDiff,reduceAdd,reduceLeDiff,reduceCtorEq,f0,f2,f3,f4,f5,f6,o2,o4,KS,vK,ht,hkl,gq,m8 (hY l[k].nodes[i])]
    refine⟨l[k].nodes.length- (i+1),by omega,i+1,⟨fq l[k].nodes[i] H.nodes,H.edges⟩,t',u',rfl,by omega,rfl,⟨_,_,_,_,rfl⟩,rfl,hg',hk',?_,by simp only[v6];omega,hGe,hJ⟩
    show(if b then st.fl else st.nx)≤(q9 _ _ _ _).nx
    rw[AN]
    split<;>omega
   ·rw[ad (by simpa using h4)]at hJ
    simp (disch:=omega)only[↓pa,pb,aT,↓reduceIte,reduceEqDiff,reduceCtorEq,f0,f2,f3,f4,f5,f6,o2,o4,h4]
    exact⟨l[k].nodes.length- (i+1),by omega,i+1,H,t,u,rfl,by omega,rfl,⟨_,_,_,_,rfl⟩,rfl,hg,hk,hfl,by omega,hGe,hJ⟩
  ·have hd:l[k].nodes.drop i=[]:=cz (by omega)
   rw[hd]at hJ
   have hJ:d7 l=⟨oC H.nodes (gY l.length (k+1) (l.drop (k+1))),pp H.edges (l[k].edges++fz (l.drop (k+1)))⟩:=hJ
   simp only[↓pa,pb,h3]
   refine aX (fun q fr st=>∃ (i:Nat) (G:bj) (t u:ay),q=l[k].edges.length-i∧i≤l[k].edges.length∧fr 0=GX l∧fr 2= .ptr 2 0∧fr 3=I l.length∧fr 4= .ptr 4 0∧fr 5=I k∧fr 7=I i∧(∃ a b c d,st.objs 2=some [a,b,c,d])∧st.objs 4=some [.list G.nodes.length (G.nodes.flatMap nc) t,.list G.edges.length (G.edges.flatMap ec) u]∧jk G t u∧a6 st (eH G t u)∧st.fl≤st.nx∧G.nodes.length≤200* (k+1)∧G.edges.length≤400*k+i∧d7 l=⟨oC G.nodes (gY l.length (k+1) (l.drop (k+1))),pp G.edges (l[k].edges.drop i++fz (l.drop (k+1)))⟩) l[k].edges.length (by omega)
    ⟨0,H,t,u,by simp,by omega,by simp only[↓pa,↓reduceIte,reduceCtorEq,f0],by simp only[↓pa,↓reduceIte,reduceEqDiff,f2],by simp only[↓pa,↓reduceIte,reduceEqDiff,f3],by simp only[↓pa,↓reduceIte,reduceEqDiff,f4],by simp only[↓pa,↓reduceIte,reduceEqDiff,f5],(by simp only[↓pa,↓reduceIte]<;>rfl),⟨a2,b2,c2,d2,by simp only[o2]⟩,by simp only[o4],hg,hk,hfl,by omega,hGe,hJ⟩ ?_
   clear f0 f2 f3 f4 f5 f6 o2 o4 hg hk hfl hGn hGe hJ hd h3 hi
   rintro q fr st ⟨i,G,t,u,rfl,hi,f0,f2,f3,f4,f5,f7,⟨a2,b2,c2,d2,o2⟩,o4,hg,hk,hfl,hGn,hGe,hJ⟩
   simp (disch:=omega)only[↓pa,pb,aT,↓reduceIte,reduceEqDiff,reduceCtorEq,f0,f5,f7,AE hlt]
   refine ab (fun h3=>?_) (fun h3=>?_)
   ·have hlt2:i<l[k].edges.length:=h3
    rw[aK hlt2]at hJ
    simp (disch:=omega)only[↓pa,↓dV,pb,aj,cS,↓reduceIte,reduceEqDiff,reduceAdd,reduceLeDiff,reduceCtorEq,f0,f4,f5,f7,o4,AE hlt,h3,lc hlt2]
    have hnx:=hok.es _ (bL hlt2)
    refine BH rfl (by simp[hZ]) (Kr K l[k].edges[i] (by have:=hnx.fl;omega)) ?_
    simp only[↓pa,↓dV,pb,cS,↓reduceIte,reduceEqDiff]
    refine Ci K hg hk hfl (by omega) (fun t' u' ns b ht hg' hk'=>?_)
    simp (disch:=omega)only[↓pa,↓dV,pb,aj,cS,fS,aT,ah,af,↓reduceIte,reduceEqDiff,reduceAdd,reduceLeDiff,reduceCtorEq,f0,f2,f3,f4,f5,f7,o2,o4,KS,vK,ht,hkl,gq,m8 (hZ l[k].edges[i])]
    refine⟨l[k].edges.length- (i+1),by omega,i+1,⟨G.nodes,eK l[k].edges[i] G.edges⟩,t',u',rfl,by omega,rfl,⟨_,_,_,_,rfl⟩,rfl,hg',hk',?_,hGn,by simp only[tV];omega,hJ⟩
    show(if b then st.fl else st.nx)≤(q9 _ _ _ _).nx
    rw[AN]
    split<;>omega
   ·have hd:l[k].edges.drop i=[]:=cz (by omega)
    rw[hd,bf]at hJ
    simp (disch:=omega)only[↓pa,pb,aT,↓reduceIte,reduceEqDiff,reduceCtorEq,f0,f2,f3,f4,f5,o2,o4,h3]
    exact⟨l.length- (k+1),by omega,k+1,G,t,u,.hole,rfl,by omega,rfl,⟨_,_,_,_,rfl⟩,rfl,hg,hk,hfl,hGn,by omega,hA,hJ⟩
 ·have hd:l.drop k=[]:=cz (by omega)
  rw[hd]at hA hJ
  have hA:ot l.length 0 l=true:=hA
  have hJ:d7 l=G:=hJ
  rw[hA,ad (by simp),hJ]at e2
  have hfg:∀ st,ar cf 40 [.agg [.list G.nodes.length (G.nodes.flatMap nc) t,.list G.edges.length (G.edges.flatMap ec) u]] [] st=some (I (lk G),st):=fun st=>by
   rw[C3 (by simp)]
   exact hflt G st
  simp only[↓pa,pb,aj,↓reduceIte,reduceEqDiff,reduceAdd,reduceLeDiff,dD,f4,o4,h1,hfg]
  cases hgG:bY G
  ·have hf1:lk G=1:=by simp[lk,hgG]
   simp only[↓pa,↓bM,pb,aj,av,↓reduceIte,reduceEqDiff,reduceAdd,reduceLeDiff,Int.reduceEq,f2,o2,hf1]
   rw[e2,hgG];rfl
  have hf1:lk G=0:=by simp[lk,hgG]
  simp only[↓pa,↓bM,pb,aj,av,↓reduceIte,reduceEqDiff,reduceAdd,reduceLeDiff,f2,f4,o2,o4,hf1,(oa G).1,(oa G).2.1,(oi G).1,(oi G).2.1]
  rw[e2,hgG];rfl
theorem Cs{f g t:Nat}{F:bn}(K:gT cf)(hT:T f=some F)(hres:F.res=[.tmp t])(hown:F.own=false)(hnt:2≤F.nt)(hnk:1≤F.nk){a r:PV}(hr:mc r){c:List PV}(hc:b8 c)(N:Nat)
  (h:Wp cf N F.body (eP [a,.fn g [.ptr 0 0]],cF [] [c]) (fun e y=>iA e∧y.1 t=r∧y.2.objs 0=some c)):cf f [a,.fn g [.ptr 0 0]] [] [c]=some (r,[],[c]):=
 K f F hT N _ [] [c] _ (qP h (by simpa using hnt) hnk fun e y hq=>⟨hq.1,pq (cs:=[c]) hres hown (by
  have:List.range [c].length=[0]:=rfl
  rw[this];simp only[cE,hq.2.2]) (by simpa using hc) ⟨hr.1,hr.2.1,hr.2.2.2.1,hr.2.2.2.2⟩ hq.2.1⟩)
theorem zq{f g:Nat}{a r:PV}(ha:cL a)(hr:mc r){c:List PV}(hs:st.objs s=some c)(hc:b8 c)(hcf:cf f [a,.fn g [.ptr 0 0]] [] [c]=some (r,[],[c])):
  ∃ fl,ar cf f [a,.fn g [.ptr s 0]] [] st=some (r,cQ st fl):=by
 have hna:np a=true:=ha.1
 have h2:aA a=a:=ha.2.1
 have hf:np (.fn g [.ptr s 0])=false:=by simp[np,al,cM]
 have hkey:ch [a,.fn g [.ptr s 0]]=none:=by
  cases a<;>first|(simp[np,al]at hna;done)|(simp[ch,hna,hf])
 refine⟨if ed r && [c].all eg then st.fl else st.nx,?_⟩
 simp only[ar,hkey,jV,hna,if_true,hs,h2,hc.2.1,hcf]
 congr 1
 refine Prod.ext (hr.2.2.2.1 _ _) ?_
 have hrr:bB (fun k=>some (st.nx+k)) false c=c:=hc.2.2 _ _
 have e:(fun k=>if k=s then some c else st.objs k)=st.objs:=by
  funext k
  split
  ·rename_i h;rw[h,hs]
  ·rfl
 simp only[aF,bK,hrr,dw,e,cQ,St.more]
theorem Mq(K:bH cf)(e:Eg)(x:Nd)(hs:st.objs s=some (nc x)):ar cf 107 [.agg (ec e),.ptr s 0] [] st=some (.bool (decide (e.dst=x.id)),st):=by
 refine Lp K.tab (F:=F107) (t:=3) rfl rfl rfl (lb rfl) (lb rfl) (fu (jL e)) (bD _) hs (gE x) 1 ?_
 unfold F107 qr qm qc qb ql qf qo
 simp only[↓pa,pb,aj,↓reduceIte,reduceEqDiff,reduceAdd,reduceCtorEq,ec,nc]
def yU(id:Int):List Eg→Nat→Int
 | [],_=> -1
 |e::l,k=>if e.dst=id then(k:Int)else yU id l (k+1)
theorem CQ(id:Int):∀ (l:List Eg) (k:Nat),decide (0≤yU id l k)=l.any fun e=>decide (e.dst=id)
 | [],k=>by simp[yU]
 |e::l,k=>by
  rw[yU,List.any_cons,←CQ id l (k+1)]
  by_cases h:e.dst=id
  ·rw[ai h];simp[h]
  ·rw[ad h];simp[h]
theorem Mo(K:bH cf)(l:List Eg)(hl:l.length≤2000000)(x:Nd):cf 136 [EX l,.fn 107 [.ptr 0 0]] [] [nc x]=some (I (yU x.id l 0),[],[nc x]):=by
 refine Cs K.tab (F:=F136) (t:=4) rfl rfl rfl (lb rfl) (lb rfl) (dn _ _) (gE x) (l.length+1) ?_
 have hm:=ce ec 5 dl l
 unfold F136 qr qd qm qi qb qk ql qa qn qo
 simp only[↓pa,pb,↓reduceIte,reduceCtorEq]
 refine aX (fun q fr st=>∃ i:Nat,q=l.length-i∧i≤l.length∧fr 0=EX l∧fr 1= .fn 107 [.ptr 0 0]∧fr 6=EX l∧fr 7=I l.length∧fr 8=I i∧st.objs 0=some (nc x)∧yU x.id l 0=yU x.id (l.drop i) i) l.length (by omega)
  ⟨0,by simp,by omega,by simp only[↓pa,↓reduceIte,reduceCtorEq],by simp only[↓pa,↓reduceIte,reduceEqDiff],by simp only[↓pa,↓reduceIte,reduceEqDiff],by simp only[↓pa,↓reduceIte,reduceEqDiff],by simp only[↓pa,↓reduceIte]<;>rfl,by simp only[pb],rfl⟩ ?_
 rintro q fr st ⟨i,rfl,hi,f0,f1,f6,f7,f8,o0,hQ⟩
 simp only[↓pa,pb,aT,↓reduceIte,f7,f8]
 refine ab (fun h1=>?_) (fun h1=>?_)
 ·have hlt:i<l.length:=h1
  have hcl:∀ st:St,st.objs 0=some (nc x)→zY cf (.fn 107 [.ptr 0 0]) [.agg (ec l[i])] st=some (.bool (decide (l[i].dst=x.id)),st):=fun st h=>Mq K l[i] x h
  rw[aK hlt,yU]at hQ
  simp (disch:=omega)only[↓pa,pb,↓reduceIte,reduceEqDiff,reduceCtorEq,f0,f1,f8,h1,lc hlt,hcl]
  refine ab (fun h2=>?_) (fun h2=>?_)
  ·simp only[↓pa,pb,↓reduceIte,reduceEqDiff,o0,h2]
   rw[hQ,ai h2]
  ·rw[ad h2]at hQ
   simp (disch:=omega)only[↓pa,pb,aT,↓reduceIte,reduceEqDiff,reduceCtorEq,f0,f1,f6,f7,f8,o0,h2]
   exact⟨l.length- (i+1),by omega,i+1,rfl,by omega,rfl,hQ⟩
 ·have hd:l.drop i=[]:=cz (by omega)
  rw[hd]at hQ
  simp only[↓pa,pb,↓reduceIte,o0,h1]
  rw[hQ];rfl
theorem Ly(K:bH cf)(l:List Eg)(hl:l.length≤2000000)(x:Nd):cf 106 [EX l,.fn 107 [.ptr 0 0]] [] [nc x]=some (.bool (l.any fun e=>decide (e.dst=x.id)),[],[nc x]):=by
 refine Cs K.tab (F:=F106) (t:=4) rfl rfl rfl (lb rfl) (lb rfl) (bD _) (gE x) 1 ?_
 unfold F106 qr qm qc qk qu
 simp only[↓pa,pb,↓reduceIte,reduceEqDiff,reduceCtorEq]
 refine oY (by obtain⟨fl,h⟩:=zq (st:=cF [] [nc x]) (s:=0) (m3 l) (dn _ _) rfl (gE x) (Mo K l hl x);exact⟨_,rfl,fl,h⟩) (fun fl=>?_)
 simp only[↓pa,pb,aj,av,↓reduceIte,CQ]
theorem FV(K:bH cf)(l:List Eg)(hl:l.length≤2000000)(x:Nd)(hs:st.objs s=some (nc x)):∃ r,r= .bool (l.any fun e=>decide (e.dst=x.id))∧∃ fl,ar cf 106 [EX l,.fn 107 [.ptr s 0]] [] st=some (r,cQ st fl):=
 ⟨_,rfl,zq (m3 l) (bD _) hs (gE x) (Ly K l hl x)⟩
theorem JC{ks:List Int}{x:Int}(hx:x∉ks)(hs:st.maps s=some (ks.map kW))(k:A (mk .hole (tn st s ((ks++[x]).map kW)))):cT (tJ 0 (.mp s) (I x) (I 1) st) mk A:=by
 refine⟨_,_,?_,k⟩
 have hf:=(lC x ks 0).2 hx
 unfold tJ
 simp only[hs,hf]
 rw[ai ⟨rfl,rfl⟩,bS]
 rfl
theorem Hi{ks:List Int}{x:Int}(hx:x∈ks)(hs:st.maps s=some (ks.map kW))(k:∀ es,(∀ st':St,st'.maps s=some es→sk false (I 0) 0 (.mp s) (I x) st'=some (I 2,st'))→A (mk .hole (tn st s es))):cT (tJ 0 (.mp s) (I x) (I 2) st) mk A:=by
 obtain⟨i,h1,h2,h3⟩:=(lC x ks 0).1 hx
 rw[bg]at h3
 have hset:∀ (es:List (PV×PV)) (j i:Nat) (v:PV),iz (I x) es j=some (some (j+i,v))→∀ w,iz (I x) (es.set i (I x,w)) j=some (some (j+i,w)):=by
  intro es
  induction es with
  |nil=>intro j i v h;simp[iz]at h
  |cons e es ih=>
   intro j i v h w
   rw[iz]at h
   cases i with
   |zero=>
    rw[lN,iz]
    have:xh (I x) (I x)=some true:=by show some (x==x)=_;simp
    simp only[this,bh]
   |succ i=>
    rw[lO,iz]
    split at h
    ·simp at h
    ·have:=ih (j+1) i v (by rw[h];congr 3;omega) w
     rw[this];congr 3;omega
    ·cases h
 have h4:=hset (ks.map kW) 0 i (I 1) (by rw[h3,bg]) (I 2)
 rw[bg]at h4
 refine⟨_,_,?_,k ((ks.map kW).set i (I x,I 2)) (fun st' hs'=>?_)⟩
 ·unfold tJ
  simp only[hs,h3]
  rw[ai ⟨rfl,rfl⟩]
 ·unfold sk
  simp only[hs',h4]
  rw[ai (show jm (I x)=0 from rfl)]
  rfl
theorem Ez{l:List bj}{i j:Nat}(hi:i<l.length)(hj:j<l[i].edges.length):∃ rest,fz l=fz (l.take i)++l[i].edges.take j++l[i].edges[j]::rest:=by
 refine⟨l[i].edges.drop (j+1)++fz (l.drop (i+1)),?_⟩
 have h1:l=l.take i++l[i]::l.drop (i+1):=by rw[←aK hi,eO]
 have h2:l[i].edges=l[i].edges.take j++l[i].edges[j]::l[i].edges.drop (j+1):=by rw[←aK hj,eO]
 have h3:fz l=fz (l.take i)++(l[i].edges++fz (l.drop (i+1))):=by
  refine(aC fz h1).trans ?_
  unfold fz
  rw[dF,aI]
 refine h3.trans ?_
 generalize l[i].edges[j]=e at h2 ⊢
 generalize h4:l[i].edges.take j=a at h2 ⊢
 generalize h5:l[i].edges.drop (j+1)=b at h2 ⊢
 rw[h2]
 simp
theorem DG{l:List bj}{i j:Nat}(hi:i<l.length)(hj:j<l[i].edges.length)(h:l[i].edges[j].id∈(fz (l.take i)++l[i].edges.take j).map Eg.id):fK l=false:=by
 obtain⟨rest,hr⟩:=Ez hi hj
 have hn:¬ ((fz l).map Eg.id).Nodup:=by
  rw[hr,bS,aF]
  intro hd
  have:=List.nodup_append.1 hd
  exact this.2.2 _ h _ List.mem_cons_self rfl
 unfold fK
 rw[decide_eq_false hn]
 simp
theorem DI{l:List bj}{i:Nat}(hi:i<l.length)(h:bY l[i]=false):fK l=false:=by
 have:l.all bY=false:=by
  rw[Bool.eq_false_iff]
  intro ha
  rw[aU.1 ha _ (bL hi)]at h
  cases h
 unfold fK
 rw[this];rfl
theorem Aj{l:List bj}(h1:∀ g∈l,bY g=true)(h2:((fz l).map Eg.id).Nodup):fK l=mz l l.length 0 l:=by
 unfold fK
 rw[aU.2 h1,decide_eq_true h2];rfl
theorem H0{L:List bj}{n:Nat}{l:List bj}{i:Nat}(h:i<l.length):mz L n i (l.drop i)=(uF L l[i] n i && mz L n (i+1) (l.drop (i+1))):=by
 rw[aK h,mz]
def eT(n k:Nat)(e:Eg):Bool:=decide (e.src.tmod n=k)
def nT(L:List bj)(h:bj)(n k:Nat)(x:Nd):Bool:=decide (x.id.tmod n=k)||(decide (x.labels.length=0) && decide (x.fields.length=0) && h.edges.any (fun e=>decide (e.dst=x.id)) && decide (0≤df (L.getD (x.id.tmod n).toNat g0).nodes x.id))
theorem JX(L:List bj)(h:bj)(n k:Nat):uF L h n k=(h.edges.all (eT n k) && h.nodes.all (nT L h n k)):=rfl
def kk(l:List bj)(g:bj)(i j:Nat):List Int:=(fz (l.take i)++g.edges.take j).map Eg.id
theorem CO{l:List bj}{g:bj}{i:Nat}:kk l g i 0=(fz (l.take i)).map Eg.id:=by simp[kk]
theorem x9{l:List bj}{g:bj}{i j:Nat}(h:j<g.edges.length):kk l g i (j+1)=kk l g i j++[g.edges[j].id]:=by
 unfold kk
 rw[aL h,←cK,bS];rfl
theorem JU{l:List bj}{i j:Nat}(h:i<l.length)(hj:¬j<l[i].edges.length):kk l l[i] i j=(fz (l.take (i+1))).map Eg.id:=by
 unfold kk
 rw[bC (l:=l[i].edges) (by omega),aL h]
 unfold fz
 rw[dF,aI,je,aO]
set_option maxHeartbeats 8000000 in
theorem Gs(K:bH cf)(l:List bj)(hl:EP l):ar cf 65 [GX l] [] st=some (.bool (decide (1≤l.length∧l.length≤8) && fK l),st):=by
 refine cB K.tab (F:=F65) (t:=2) rfl rfl rfl (lb rfl) (by simp[iI]) (bD _) 1000 ?_
 have hm:=ce gc 2 ki l
 have hgo:∀ (g:bj) st,ar cf 46 [.agg (gc g)] [] st=some (.bool (bY g),st):=fun g st=>zu K g
 have hlb:=hl.1
 unfold F65 qg qr qd qm qi qc qb qk ql qf qt qa qx qn qs qo qe qN
 simp only[↓pa,pb,↓reduceIte,reduceCtorEq]
 refine ab (fun k1=>?_) (fun k1=>?_)
 ·simp only[↓pa,pb,↓reduceIte,reduceEqDiff,k1]
  rw[decide_eq_false (show ¬ (1≤l.length∧l.length≤8) by omega)];rfl
 simp only[↓pa,pb,↓reduceIte,reduceEqDiff,k1]
 refine ab (fun k2=>?_) (fun k2=>?_)
 ·simp only[↓pa,pb,↓reduceIte,k2]
  rw[decide_eq_false (show ¬ (1≤l.length∧l.length≤8) by omega)];rfl
 rw[decide_eq_true (show 1≤l.length∧l.length≤8 by omega),bX]
 simp only[↓pa,pb,↓reduceIte,reduceCtorEq,mh,k2]
 refine aX (fun q fr st=>∃ i:Nat,q=l.length-i∧i≤l.length∧fr 0=GX l∧fr 3=I l.length∧fr 4= .mp 23∧fr 24=GX l∧fr 25=I l.length∧fr 26=I i∧st.maps 23=some (((fz (l.take i)).map Eg.id).map kW)∧((fz (l.take i)).map Eg.id).Nodup∧∀ g∈l.take i,bY g=true) l.length (by omega)
  ⟨0,by simp,by omega,by simp only[↓pa,pb,↓reduceIte,reduceCtorEq],by simp only[↓pa,pb,↓reduceIte,reduceEqDiff],by simp only[↓pa,↓reduceIte,reduceEqDiff],by simp only[↓pa,↓reduceIte,reduceEqDiff],by simp only[↓pa,↓reduceIte,reduceEqDiff],(by simp only[↓pa,↓reduceIte]<;>rfl),(by simp only[↓reduceIte,mh]<;>rfl),by simp[fz],by simp⟩ ?_
 rintro q fr st ⟨i,rfl,hi,f0,f3,f4,f24,f25,f26,m,hnd,hall⟩
 simp only[↓pa,pb,aT,↓reduceIte,f25,f26]
 refine ab (fun h1=>?_) (fun h1=>?_)
 ·have hlt:i<l.length:=h1
  have hgi:∀ st,ar cf 46 [.agg [NX l[i].nodes,EX l[i].edges]] [] st=some (.bool (bY l[i]),st):=hgo l[i]
  simp (disch:=omega)only[↓pa,pb,aj,↓reduceIte,reduceEqDiff,reduceAdd,reduceLeDiff,f24,f26,h1,n3 hlt,gc,hgi]
  refine ab (fun hgk=>?_) (fun hgk=>?_)
  rotate_left
  ·have hgk:bY l[i]=false:=by simpa using hgk
   simp only[↓pa,pb,↓reduceIte,hgk]
   rw[DI hlt hgk]
  have hok:=uG hgk
  have hel:=hok.el
  have hme:=ce ec 5 dl l[i].edges
  simp only[↓pa,pb,aj,↓reduceIte,reduceEqDiff,reduceAdd,hgk]
  refine aX (fun q fr st=>∃ j:Nat,q=l[i].edges.length-j∧j≤l[i].edges.length∧fr 0=GX l∧fr 3=I l.length∧fr 4= .mp 23∧fr 24=GX l∧fr 25=I l.length∧fr 26=I i∧fr 34=EX l[i].edges∧fr 35=I l[i].edges.length∧fr 36=I j∧st.maps 23=some ((kk l l[i] i j).map kW)∧(kk l l[i] i j).Nodup) l[i].edges.length (by omega)
   ⟨0,by simp,by omega,by simp only[↓pa,pb,↓reduceIte,reduceCtorEq,f0],by simp only[↓pa,pb,↓reduceIte,reduceEqDiff,f3],by simp only[↓pa,pb,↓reduceIte,reduceEqDiff,f4],by simp only[↓pa,pb,↓reduceIte,reduceEqDiff,f24],by simp only[↓pa,pb,↓reduceIte,reduceEqDiff,f25],by simp only[↓pa,pb,↓reduceIte,reduceEqDiff,f26],by simp only[↓pa,↓reduceIte,reduceEqDiff],by simp only[↓pa,↓reduceIte,reduceEqDiff],(by simp only[↓pa,↓reduceIte]<;>rfl),by simp only[pb,m,CO],by rw[CO];exact hnd⟩ ?_
  clear f0 f3 f4 f24 f25 f26 m hnd hgi
  rintro q fr st ⟨j,rfl,hj,f0,f3,f4,f24,f25,f26,f34,f35,f36,m,hnd⟩
  simp only[↓pa,pb,aT,↓reduceIte,f35,f36]
  refine ab (fun h3=>?_) (fun h3=>?_)
  ·have hlt2:j<l[i].edges.length:=h3
   have hg:∀ (st:St),st.maps 23=some ((kk l l[i] i j).map kW)→sk false (I 0) 0 (.mp 23) (I l[i].edges[j].id) st=some (I (if l[i].edges[j].id∈kk l l[i] i j then 1 else 0),st):=fun st h=>sj h
   simp (disch:=omega)only[↓pa,pb,aj,↓reduceIte,reduceEqDiff,reduceAdd,reduceLeDiff,mh,f4,f34,f36,h3,lc hlt2,ec]
   rw[hg _ (by simp only[pb,m])]
   by_cases hmem:l[i].edges[j].id∈kk l l[i] i j
   ·rw[ai hmem]
    simp (disch:=omega)only[↓pa,pb,↓reduceIte,reduceEqDiff,mh]
    refine Hi hmem (by simp only[pb,m]) (fun es hes=>?_)
    simp only[↓pa,pb,aj,↓reduceIte,reduceEqDiff,reduceAdd,mh,f4]
    rw[hes _ (by simp only[pb,mh,if_true])]
    simp only[↓pa,pb,↓reduceIte,Int.reduceLT]
    rw[DG hlt hlt2 hmem]
   ·rw[ad hmem]
    simp (disch:=omega)only[↓pa,pb,↓reduceIte,reduceEqDiff,mh]
    refine JC hmem (by simp only[pb,m]) ?_
    have hnd2:(kk l l[i] i (j+1)).Nodup:=by
     rw[x9 hlt2,List.nodup_append]
     exact⟨hnd,by simp,fun a ha b hb=>by rintro rfl;simp at hb;exact hmem (hb▸ha)⟩
    have hg2:∀ (st:St),st.maps 23=some ((kk l l[i] i (j+1)).map kW)→sk false (I 0) 0 (.mp 23) (I l[i].edges[j].id) st=some (I 1,st):=fun st h=>by
     rw[sj h,ai (by rw[x9 hlt2];simp)]
    rw[←x9 hlt2]
    simp only[↓pa,pb,aj,↓reduceIte,reduceEqDiff,reduceAdd,mh,f4]
    rw[hg2 _ (by simp only[pb,mh,if_true])]
    simp (disch:=omega)only[↓pa,pb,aT,↓reduceIte,reduceEqDiff,Int.reduceLT,reduceCtorEq,mh,f0,f3,f4,f24,f25,f26,f34,f35,f36]
    exact⟨l[i].edges.length- (j+1),by omega,j+1,rfl,by omega,rfl,rfl,hnd2⟩
  ·simp (disch:=omega)only[↓pa,pb,aT,↓reduceIte,reduceEqDiff,reduceCtorEq,f0,f3,f4,f24,f25,f26,h3]
   rw[JU hlt h3]at m hnd
   refine⟨l.length- (i+1),by omega,i+1,rfl,by omega,rfl,m,hnd,fun g hg=>?_⟩
   rw[aL hlt,ax,dj]at hg
   rcases hg with hg|rfl
   ·exact hall g hg
   ·exact hgk
 have hd:l.take i=l:=bC (by omega)
 rw[hd]at hnd hall
 have hS:=Aj hall hnd
 have hok:∀ g∈l,IR g:=fun g hg=>uG (hall g hg)
 simp only[↓pa,pb,↓reduceIte,reduceCtorEq,f0,h1]
 clear f4 f24 f25 f26 m hnd hall hi h1 hd
 refine aX (fun q fr st=>∃ k:Nat,q=l.length-k∧k≤l.length∧fr 0=GX l∧fr 3=I l.length∧fr 52=GX l∧fr 53=I l.length∧fr 54=I k∧fK l=mz l l.length k (l.drop k)) l.length (by omega)
  ⟨0,by simp,by omega,by simp only[↓pa,↓reduceIte,reduceCtorEq,f0],by simp only[↓pa,↓reduceIte,reduceEqDiff,f3],by simp only[↓pa,↓reduceIte,reduceEqDiff],by simp only[↓pa,↓reduceIte,reduceEqDiff],(by simp only[↓pa,↓reduceIte]<;>rfl),hS⟩ ?_
 clear f0 f3 hS
 rintro q fr st ⟨k,rfl,hk,f0,f3,f52,f53,f54,hS⟩
 simp only[↓pa,pb,aT,↓reduceIte,f53,f54]
 refine ab (fun h1=>?_) (fun h1=>?_)
 rotate_left
 ·have hd:l.drop k=[]:=cz (by omega)
  rw[hd]at hS
  simp only[↓pa,pb,↓reduceIte,h1]
  rw[hS];rfl
 have hlt:k<l.length:=h1
 have hokk:=hok _ (bL hlt)
 have hel:=hokk.el
 have hnl:=hokk.nl
 have hme:=ce ec 5 dl l[k].edges
 have hmn:=ce nc 3 dI l[k].nodes
 rw[H0 hlt,JX,Bool.and_assoc]at hS
 simp (disch:=omega)only[↓pa,pb,aj,↓reduceIte,reduceEqDiff,reduceAdd,reduceLeDiff,f52,f54,h1,n3 hlt,gc]
 refine aX (fun q fr st=>∃ j:Nat,q=l[k].edges.length-j∧j≤l[k].edges.length∧fr 0=GX l∧fr 3=I l.length∧fr 52=GX l∧fr 53=I l.length∧fr 54=I k∧fr 9=I k∧fr 10= .ptr 10 0∧st.objs 10=some [NX l[k].nodes,EX l[k].edges]∧fr 60=EX l[k].edges∧fr 61=I l[k].edges.length∧fr 62=I j∧fK l=((l[k].edges.drop j).all (eT l.length k) && (l[k].nodes.all (nT l l[k] l.length k) && mz l l.length (k+1) (l.drop (k+1))))) l[k].edges.length (by omega)
  ⟨0,by simp,by omega,by simp only[↓pa,pb,↓reduceIte,reduceCtorEq,f0],by simp only[↓pa,pb,↓reduceIte,reduceEqDiff,f3],by simp only[↓pa,pb,↓reduceIte,reduceEqDiff,f52],by simp only[↓pa,pb,↓reduceIte,reduceEqDiff,f53],by simp only[↓pa,pb,↓reduceIte,reduceEqDiff,f54],by simp only[↓pa,↓reduceIte,reduceEqDiff],by simp only[↓pa,↓reduceIte,reduceEqDiff],by simp only[pb,↓reduceIte],by simp only[↓pa,↓reduceIte,reduceEqDiff],by simp only[↓pa,↓reduceIte,reduceEqDiff],(by simp only[↓pa,↓reduceIte]<;>rfl),hS⟩ ?_
 clear f0 f3 f52 f53 f54 hS
 rintro q fr st ⟨j,rfl,hj,f0,f3,f52,f53,f54,f9,f10,o10,f60,f61,f62,hS⟩
 simp only[↓pa,pb,aT,↓reduceIte,f61,f62]
 refine ab (fun h2=>?_) (fun h2=>?_)
 ·have hlt2:j<l[k].edges.length:=h2
  have hrem:=kN (k:= .i64) (a:=l[k].edges[j].src) (show(l.length:Int)≠0 by omega)
  rw[aK hlt2,dc]at hS
  simp (disch:=omega)only[↓pa,pb,aj,↓reduceIte,reduceEqDiff,reduceAdd,reduceLeDiff,dD,f3,f9,f60,f62,h2,lc hlt2,ec,hrem]
  refine ab (fun h3=>?_) (fun h3=>?_)
  ·rw[eT,decide_eq_true h3,bX]at hS
   simp (disch:=omega)only[↓pa,pb,aT,↓reduceIte,reduceEqDiff,reduceCtorEq,f0,f3,f52,f53,f54,f9,f10,o10,f60,f61,f62,h3]
   exact⟨l[k].edges.length- (j+1),by omega,j+1,rfl,by omega,rfl,hS⟩
  ·rw[eT,decide_eq_false h3]at hS
   simp only[↓pa,pb,↓reduceIte,h3]
   rw[hS];rfl
 have hd:l[k].edges.drop j=[]:=cz (by omega)
 rw[hd,du,bX]at hS
 simp only[↓pa,pb,aj,↓reduceIte,reduceEqDiff,reduceAdd,f10,o10,h2]
 clear f60 f61 f62 hd h2 hj
 refine aX (fun q fr st=>∃ j:Nat,q=l[k].nodes.length-j∧j≤l[k].nodes.length∧fr 0=GX l∧fr 3=I l.length∧fr 52=GX l∧fr 53=I l.length∧fr 54=I k∧fr 9=I k∧fr 10= .ptr 10 0∧st.objs 10=some [NX l[k].nodes,EX l[k].edges]∧fr 74=NX l[k].nodes∧fr 75=I l[k].nodes.length∧fr 76=I j∧fK l=((l[k].nodes.drop j).all (nT l l[k] l.length k) && mz l l.length (k+1) (l.drop (k+1)))) l[k].nodes.length (by omega)
  ⟨0,by simp,by omega,by simp only[↓pa,↓reduceIte,reduceCtorEq,f0],by simp only[↓pa,↓reduceIte,reduceEqDiff,f3],by simp only[↓pa,↓reduceIte,reduceEqDiff,f52],by simp only[↓pa,↓reduceIte,reduceEqDiff,f53],by simp only[↓pa,↓reduceIte,reduceEqDiff,f54],by simp only[↓pa,↓reduceIte,reduceEqDiff,f9],by simp only[↓pa,↓reduceIte,reduceEqDiff,f10],by simp only[o10],by simp only[↓pa,↓reduceIte,reduceEqDiff],by simp only[↓pa,↓reduceIte,reduceEqDiff],(by simp only[↓pa,↓reduceIte]<;>rfl),hS⟩ ?_
 clear f0 f3 f52 f53 f54 f9 f10 o10 hS
 rintro q fr st ⟨j,rfl,hj,f0,f3,f52,f53,f54,f9,f10,o10,f74,f75,f76,hS⟩
 simp only[↓pa,pb,aT,↓reduceIte,f75,f76]
 refine ab (fun h2=>?_) (fun h2=>?_)
 rotate_left
 ·have hd:l[k].nodes.drop j=[]:=cz (by omega)
  rw[hd,du,bX]at hS
  simp (disch:=omega)only[↓pa,pb,aT,↓reduceIte,reduceEqDiff,reduceCtorEq,f0,f3,f52,f53,f54,h2]
  exact⟨l.length- (k+1),by omega,k+1,rfl,by omega,rfl,hS⟩
 have hlt2:j<l[k].nodes.length:=h2
 have hokn:=hokk.ns _ (bL hlt2)
 have hrem:=kN (k:= .i64) (a:=l[k].nodes[j].id) (show(l.length:Int)≠0 by omega)
 obtain⟨m,hm1,hm2⟩:∃ m:Nat,l[k].nodes[j].id.tmod l.length=(m:Int)∧m<l.length:=by
  have h1:=hokn.id.1
  have:=Int.tmod_lt_of_pos l[k].nodes[j].id (show(0:Int)<l.length by omega)
  have h3:=Int.tmod_nonneg (l.length:Int) (show(0:Int)≤l[k].nodes[j].id by omega)
  exact⟨(l[k].nodes[j].id.tmod l.length).toNat,by omega,by omega⟩
 rw[hm1]at hrem
 have hnt:nT l l[k] l.length k l[k].nodes[j]=(decide (m=k)||(decide (l[k].nodes[j].labels.length=0) && decide (l[k].nodes[j].fields.length=0) && l[k].edges.any (fun e=>decide (e.dst=l[k].nodes[j].id)) && decide (0≤df l[m].nodes l[k].nodes[j].id))):=by
  unfold nT
  have e1:decide ((m:Int)=k)=decide (m=k):=decide_eq_decide.2 Int.ofNat_inj
  have e2:l.getD m g0=l[m]:=by simp[List.getD,hm2]
  rw[hm1,gN,e1,e2]
 rw[aK hlt2,dc,hnt]at hS
 have hna:∀ st,ar cf 90 [.agg [NX l[m].nodes,EX l[m].edges],I l[k].nodes[j].id] [] st=some (I (df l[m].nodes l[k].nodes[j].id),st):=fun st=>Iv K l[m] _ (by have:=(hok _ (bL hm2)).nl;omega)
 simp (disch:=omega)only[↓pa,pb,aj,aT,↓reduceIte,reduceEqDiff,reduceAdd,reduceLeDiff,f3,f9,f74,f76,h2,k9 hlt2,nc,hrem]
 refine ab (fun h3=>?_) (fun h3=>?_)
 ·rw[decide_eq_true h3,Bool.true_or,bX]at hS
  simp (disch:=omega)only[↓pa,pb,aT,↓reduceIte,reduceEqDiff,reduceCtorEq,f0,f3,f52,f53,f54,f9,f10,o10,f74,f75,f76,h3]
  exact⟨l[k].nodes.length- (j+1),by omega,j+1,rfl,by omega,rfl,hS⟩
 rw[decide_eq_false h3,Bool.false_or]at hS
 simp only[↓pa,pb,aj,↓reduceIte,reduceEqDiff,reduceAdd,h3]
 refine ab (fun h4=>?_) (fun h4=>?_)
 ·simp only[↓pa,pb,↓reduceIte,reduceEqDiff,h4]
  rw[hS,decide_eq_false (show ¬l[k].nodes[j].labels.length=0 by omega)];rfl
 simp only[↓pa,pb,aj,↓reduceIte,reduceEqDiff,reduceAdd,h4]
 refine ab (fun h5=>?_) (fun h5=>?_)
 ·simp only[↓pa,pb,↓reduceIte,reduceEqDiff,h5]
  rw[hS,decide_eq_false (show ¬l[k].nodes[j].fields.length=0 by omega),l5];rfl
 rw[decide_eq_true (show l[k].nodes[j].labels.length=0 by omega),decide_eq_true (show l[k].nodes[j].fields.length=0 by omega),bX,bX]at hS
 simp only[↓pa,pb,aj,↓reduceIte,reduceEqDiff,reduceAdd,MS,f10,o10,h5]
 refine oY (FV K l[k].edges (by omega) l[k].nodes[j] rfl) (fun fl=>?_)
 simp only[↓pa,pb,↓reduceIte,reduceEqDiff]
 refine ab (fun h6=>?_) (fun h6=>?_)
 rotate_left
 ·have h6:(l[k].edges.any fun e=>decide (e.dst=l[k].nodes[j].id))=false:=by simpa using h6
  simp only[↓pa,pb,↓reduceIte,reduceEqDiff,h6]
  rw[hS,h6];rfl
 rw[h6,bX]at hS
 simp (disch:=omega)only[↓pa,pb,aj,↓reduceIte,reduceEqDiff,reduceAdd,reduceCtorEq,f0,f3,h6,hrem,n3 hm2,gc,hna]
 refine ab (fun h7=>?_) (fun h7=>?_)
 ·simp only[↓pa,pb,↓reduceIte,h7]
  rw[hS,decide_eq_false (show ¬0≤df l[m].nodes l[k].nodes[j].id by omega)];rfl
 ·rw[decide_eq_true (show 0≤df l[m].nodes l[k].nodes[j].id by omega),bX]at hS
  simp (disch:=omega)only[↓pa,pb,aj,aT,↓reduceIte,reduceEqDiff,reduceCtorEq,f0,f3,f52,f53,f54,f9,f10,o10,f74,f75,f76,h7]
  exact⟨l[k].nodes.length- (j+1),by omega,j+1,rfl,by omega,rfl,hS⟩
end Go.PM
namespace Go.PM
def fN(m:Nat)(cs:List PV)(i:Nat):Int:=match cs[i*m]? with
 |some (.int .i64 n)=>n
 |_=>0
def ra(m:Nat)(cs:List PV)(i:Nat):Bool:=match cs[i*m]? with
 |some (.int .i64 _)=>true
 |_=>false
def gd(m n:Nat)(cs:List PV):Bool:=(List.range n).all (ra m cs) && decide ((List.range n).map (fN m cs)).Nodup
def tD(m n:Nat)(cs:List PV):List (Fin n):=(List.finRange n).mergeSort fun i j=>!decide (fN m cs j<fN m cs i)
def eW(m n:Nat)(cs:List PV):List PV:=(tD m n cs).flatMap fun i=>(cs.drop (i.val*m)).take m
theorem oI{m n:Nat}{cs:List PV}{p:PV}(h:p∈eW m n cs):p∈cs:=by
 obtain⟨i,-,hi⟩:=kR.1 h
 exact eZ (d5 hi)
theorem Hx{m n:Nat}{cs:List PV}:(tD m n cs).length=n:=by
 unfold tD
 rw[List.length_mergeSort,List.length_finRange]
theorem sy{α β:Type}{m:Nat}{f:α→List β}:∀ {l:List α},(∀ a∈l,(f a).length=m)→(l.flatMap f).length=l.length*m
 | [],_=>by simp
 |a::l,h=>by
  rw[aI,ak,h a List.mem_cons_self,sy fun b hb=>h b (a7 _ hb),ao,fb];omega
theorem sH{α β:Type}{enc:α→List β}{m:Nat}(hm:∀ a,(enc a).length=m):∀ (l:List α) (i:Nat) (h:i<l.length),((l.flatMap enc).drop (i*m)).take m=enc l[i]
 | [],i,h=>by simp at h
 |a::l,0,h=>by rw[aI,Nat.zero_mul,lZ,List.take_append_of_le_length (by rw[hm];omega),bC (by rw[hm];omega)];rfl
 |a::l,i+1,h=>by
  rw[aI,fb,Nat.add_comm,List.drop_append,hm,cz (by rw[hm];omega),bf]
  have:m+i*m-m=i*m:=by omega
  rw[this]
  exact sH hm l i (by simpa using h)
theorem wQ{β:Type}{m:Nat}{us:List β}:∀ n:Nat,(List.range n).flatMap (fun i=>(us.drop (i*m)).take m)=us.take (n*m)
 |0=>by simp
 |n+1=>by
  rw[List.range_succ,dF,wQ n,aI,je,aO,fb,List.take_add]
theorem A9{β:Type}{m n:Nat}{us:List β}(h:us.length=n*m):(List.finRange n).flatMap (fun i=>(us.drop (i.val*m)).take m)=us:=by
 have h1:(List.finRange n).map (·.val)=List.range n:=by
  apply mQ (by simp)
  intro i h1 h2
  simp
 have h2:=wQ (m:=m) (us:=us) n
 rw[←h1,List.flatMap_map,bC (by omega)]at h2
 exact h2
theorem Gd{m n:Nat}{β:Type}{cs:List β}(h:cs.length=n*m)(i:Fin n):((cs.drop (i.val*m)).take m).length=m:=by
 rw[bi,cV,h,←Nat.sub_mul]
 exact jE (Nat.le_mul_of_pos_left _ (by omega))
theorem E5{m n:Nat}{cs:List PV}(h:cs.length=n*m):(eW m n cs).length=n*m:=by
 unfold eW
 rw[sy fun i _=>Gd h i,Hx]
theorem tN(m:Nat)(cs:List PV)(i:Nat):fN m (aB cs) i=fN m cs i:=by
 unfold fN
 rw[ct,b7]
 cases h:cs[i*m]? with
 |none=>rfl
 |some p=>cases p<;>simp[aA,ren]
theorem AX(m:Nat)(cs:List PV)(i:Nat):ra m (aB cs) i=ra m cs i:=by
 unfold ra
 rw[ct,b7]
 cases h:cs[i*m]? with
 |none=>rfl
 |some p=>cases p<;>simp[aA,ren]
theorem mx(m n:Nat)(cs:List PV):gd m n (aB cs)=gd m n cs:=by
 unfold gd
 simp only[funext (tN m cs),funext (AX m cs)]
theorem uY{α:Type}(f:α→List PV):∀ l:List α,aB (l.flatMap f)=l.flatMap fun a=>aB (f a)
 | []=>rfl
 |a::l=>by rw[aI,aI,gg,uY f l]
theorem Ai(m n:Nat)(cs:List PV):aB (eW m n cs)=eW m n (aB cs):=by
 unfold eW tD
 rw[uY]
 simp only[BP,BQ,tN]
section
variable {α:Type} (enc:α→List PV) (m:Nat) (key:α→Int) (ins:α→List α→List α)
theorem yz(h0:0<m)(hm:∀ a,(enc a).length=m)(hk:∀ a,(enc a)[0]? =some (I (key a)))(l:List α):
  ra m (l.flatMap enc)=(fun i=>decide (i<l.length))∧(∀ i (h:i<l.length),fN m (l.flatMap enc) i=key l[i])∧eW m l.length (l.flatMap enc)=(l.mergeSort fun a b=>!decide (key b<key a)).flatMap enc:=by
 have hget:=fun i h=>sH hm l i h
 have hlen:(l.flatMap enc).length=l.length*m:=sy fun a _=>hm a
 have hcell:∀ i (h:i<l.length),(l.flatMap enc)[i*m]? =some (I (key l[i])):=by
  intro i h
  have h1:=hget i h
  have h2:=hk l[i]
  rw[←h1,List.getElem?_take,ai h0,ey,bh]at h2
  exact h2
 have hkey:∀ i (h:i<l.length),fN m (l.flatMap enc) i=key l[i]:=fun i h=>by unfold fN;rw[hcell i h]
 refine⟨funext fun i=>?_,hkey,?_⟩
 ·by_cases h:i<l.length
  ·unfold ra;rw[hcell i h,decide_eq_true h]
  ·unfold ra
   rw[cU (by rw[hlen];exact ex _ (by omega)),decide_eq_false h]
 ·unfold eW tD
  have h1:(fun i:Fin l.length=>((l.flatMap enc).drop (i.val*m)).take m)=fun i=>enc (l[i.val]'i.2):=funext fun i=>hget i.val i.2
  have h2:(fun i j:Fin l.length=>!decide (fN m (l.flatMap enc) j<fN m (l.flatMap enc) i))=fun i j=>!decide (key (l[j.val]'j.2)<key (l[i.val]'i.2)):=funext fun i=>funext fun j=>by rw[hkey _ i.2,hkey _ j.2]
  rw[h1,h2]
  have h3:=List.map_mergeSort (r:=fun i j:Fin l.length=>!decide (key (l[j.val]'j.2)<key (l[i.val]'i.2))) (s:=fun a b:α=>!decide (key b<key a)) (f:=fun i:Fin l.length=>l[i.val]'i.2) (l:=List.finRange l.length) (fun _ _ _ _=>rfl)
  have h4:(List.finRange l.length).map (fun i:Fin l.length=>l[i.val]'i.2)=l:=by
   rw[List.finRange,List.map_ofFn]
   exact List.ofFn_getElem
  rw[h4]at h3
  rw[←h3,List.flatMap_map]
theorem zd(hnil:∀ x,ins x []=[x])(hcons:∀ x y l,ins x (y::l)=if key x<key y then x::y::l else y::ins x l){l:List α}(hd:(l.map key).Nodup):
  (l.mergeSort fun a b=>!decide (key b<key a))=l.foldl (fun a x=>ins x a) []:=by
 have hp:∀ x (a:List α),(ins x a).Perm (x::a):=by
  intro x a
  induction a with
  |nil=>rw[hnil]
  |cons y a ih=>
   rw[hcons]
   split
   ·exact List.Perm.refl _
   ·exact(ih.cons y).trans (List.Perm.swap x y a)
 have hfp:∀ (l a:List α),(l.foldl (fun a x=>ins x a) a).Perm (l++a):=by
  intro l
  induction l with
  |nil=>intro a;exact List.Perm.refl _
  |cons y l ih=>
   intro a
   refine(ih (ins y a)).trans ?_
   exact((hp y a).append_left l).trans List.perm_middle
 have hs:∀ x (a:List α),a.Pairwise (fun a b=>key a≤key b)→(ins x a).Pairwise fun a b=>key a≤key b:=by
  intro x a
  induction a with
  |nil=>intro _;rw[hnil];exact fR _ _
  |cons y a ih=>
   intro h
   obtain⟨h1,h2⟩:=b6.1 h
   rw[hcons]
   split
   ·rename_i hlt
    exact b6.2 ⟨fun z hz=>by rcases aJ.1 hz with rfl|hz;exact Int.le_of_lt hlt;exact Int.le_trans (Int.le_of_lt hlt) (h1 z hz),h⟩
   ·rename_i hlt
    exact b6.2 ⟨fun z hz=>by rcases aJ.1 ((hp x a).mem_iff.1 hz)with rfl|hz;omega;exact h1 z hz,ih h2⟩
 have hfs:∀ (l a:List α),a.Pairwise (fun a b=>key a≤key b)→(l.foldl (fun a x=>ins x a) a).Pairwise fun a b=>key a≤key b:=by
  intro l
  induction l with
  |nil=>intro a h;exact h
  |cons y l ih=>intro a h;exact ih _ (hs y a h)
 have hA:=hfp l []
 rw[aO]at hA
 have hB:=List.mergeSort_perm l fun a b=>!decide (key b<key a)
 refine List.Perm.eq_of_pairwise (le:=fun a b=>key a≤key b) (fun a b ha hb h1 h2=>?_) ?_ (hfs l [] List.Pairwise.nil) (hB.trans hA.symm)
 ·have ha:=hB.mem_iff.1 ha
  have hb:=hA.mem_iff.1 hb
  obtain⟨i,hi,rfl⟩:=cP ha
  obtain⟨j,hj,rfl⟩:=cP hb
  have:i=j:=(List.getElem_inj (h₀:=by simpa using hi) (h₁:=by simpa using hj) hd).1 (by simp only[List.getElem_map];omega)
  subst this;rfl
 ·have:=List.pairwise_mergeSort (le:=fun a b:α=>!decide (key b<key a)) (fun a b c h1 h2=>by simp at h1 h2 ⊢;omega) (fun a b=>by simp;omega) l
  exact this.imp fun h=>by simpa using h
end
theorem Dx{l:List Nd}(hd:(l.map Nd.id).Nodup):gd 3 l.length (l.flatMap nc)=true∧eW 3 l.length (l.flatMap nc)=(oC [] l).flatMap nc:=by
 obtain⟨h1,h2,h3⟩:=yz nc 3 Nd.id (by decide) dI (fun _=>rfl) l
 refine⟨?_,by rw[h3,zd Nd.id fq (fun _=>rfl) (fun _ _ _=>rfl) hd];rfl⟩
 unfold gd
 rw[h1]
 have:(List.range l.length).map (fN 3 (l.flatMap nc))=l.map Nd.id:=by
  apply mQ (by simp)
  intro i hi _
  simp only[bu,List.length_range]at hi
  simp[h2 i hi]
 rw[this,decide_eq_true hd]
 simp
theorem Dy{l:List Eg}(hd:(l.map Eg.id).Nodup):gd 5 l.length (l.flatMap ec)=true∧eW 5 l.length (l.flatMap ec)=(pp [] l).flatMap ec:=by
 obtain⟨h1,h2,h3⟩:=yz ec 5 Eg.id (by decide) dl (fun _=>rfl) l
 refine⟨?_,by rw[h3,zd Eg.id eK (fun _=>rfl) (fun _ _ _=>rfl) hd];rfl⟩
 unfold gd
 rw[h1]
 have:(List.range l.length).map (fN 5 (l.flatMap ec))=l.map Eg.id:=by
  apply mQ (by simp)
  intro i hi _
  simp only[bu,List.length_range]at hi
  simp[h2 i hi]
 rw[this,decide_eq_true hd]
 simp
end Go.PM
