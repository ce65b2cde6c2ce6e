/- A part of the proof: texts PiA, PiB, PiE, PiF, PiG, PiH, PiI, PiJ, PjA, PjB, PjC, PjD, PjE, PjF, PjG, joined. Conditions: none. -/
import Derived.Test.YtdpamjikmlbmhaaGreatDoorPG
import Derived.Laws.IdiomCopy
import Derived.Laws.Externs
import Derived.Lib.AppendZerosOnto
import Derived.Shelf.LaysM
import Derived.Shelf.Strconv.Itoa4
import Derived.Shelf.LaysC
import Derived.Shelf.Strconv.ErrVarParseInt
import Derived.Test.YtdpamjikmlbmhaaGreatDoorProg
import Derived.Lib.LaidTab
import Derived.KernelRfl
import Derived.Deep.Slices
import Derived.ChangeSame
import Derived.Lib.SmallJoins
import Derived.Test.YtdpamjikmlbmhaaGreatDoorRows
import Derived.Deep.DeepHandedRow
import Derived.WideKeyArgs
import Derived.Stop.LaidErr
import Derived.RowKit
namespace Go.PM
variable {P:Program} {B:Nat→Nat→Option Value}
theorem setRow_setRow(w:World)(b:Nat)(x y:Array Value):(w.setRow b x).setRow b y=w.setRow b y:=by
 unfold World.setRow
 congr 1
 apply Array.ext_getElem?
 intro i
 simp only[Array.getElem?_modify]
 by_cases h:b=i
 ·subst h
  simp only[if_true]
  cases w.heap[b]? with
  |none=>rfl
  |some o=>cases o<;>rfl
 ·simp only[if_neg h]
theorem setRow_at(w:World)(b:Nat){x:Array Value}{e f}(h:w.heap[b]? =some (.cells x e f)):w.setRow b x=w:=by
 obtain⟨hp,t,d,os,out⟩:=w
 simp only[World.setRow]
 congr 1
 apply Array.ext_getElem?
 intro i
 simp only[Array.getElem?_modify]
 by_cases hi:b=i
 ·subst hi
  rw[if_pos rfl]
  simp only at h
  rw[h];rfl
 ·rw[if_neg hi]
theorem setCell_row(w:World)(b o:Nat)(v:Value){x:Array Value}{e f}(h:w.heap[b]? =some (.cells x e f)):w.setCell ⟨b,o,none⟩ v=w.setRow b (x.setIfInBounds o v):=by
 unfold World.setCell World.setRow
 congr 1
 apply Array.ext_getElem?
 intro i
 simp only[Array.getElem?_modify]
 by_cases hi:b=i
 ·subst hi
  rw[if_pos rfl,if_pos rfl,h];rfl
 ·rw[if_neg hi,if_neg hi]
theorem setCells_row(b:Nat){e f}:∀ (vs:List Value) (o:Nat) (w:World) (x:List Value),w.heap[b]? =some (.cells x.toArray e f)→o+vs.length≤x.length→w.setCells b o vs=w.setRow b (x.take o++vs++x.drop (o+vs.length)).toArray
 | [],o,w,x,h,_=>by rw[World.setCells,List.append_nil,List.length_nil,Nat.add_zero,List.take_append_drop,setRow_at w b h]
 |v::vs,o,w,x,h,hl=>by
  simp only[List.length_cons]at hl
  have h1:=setCell_row w b o v h
  have h2:=setRow_heap w b _ (x.toArray.setIfInBounds o v) e f h
  rw[World.setCells,h1]
  have h3:x.toArray.setIfInBounds o v=(x.set o v).toArray:=by simp
  rw[h3]at h2 ⊢
  rw[setCells_row b vs (o+1) _ _ h2 (by simp;omega),setRow_setRow]
  congr 2
  rw[List.drop_set_of_lt (by omega),List.take_set,List.length_cons,show o+1+vs.length=o+(vs.length+1) by omega]
  congr 1
  rw[List.take_succ_eq_append_getElem (by omega),List.set_append_right _ _ (by simp;omega),List.length_take,Nat.min_eq_left (by omega)]
  simp
theorem Rs.take{G:Gh}{cs:List PV}{us:List Value}(h:Rs G cs us)(k:Nat):Rs G (cs.take k) (us.take k):=by
 obtain⟨h1,h2,h3⟩:=h
 refine⟨by simp[h1],fun j p u hp hu=>?_,fun u hu=>h3 u (List.mem_of_mem_take hu)⟩
 rw[List.getElem?_take]at hp hu
 split at hp
 ·rename_i hj
  rw[if_pos hj]at hu
  exact h2 j p u hp hu
 ·cases hp
theorem Rs.drop{G:Gh}{cs:List PV}{us:List Value}(h:Rs G cs us)(k:Nat):Rs G (cs.drop k) (us.drop k):=by
 obtain⟨h1,h2,h3⟩:=h
 refine⟨by simp[h1],fun j p u hp hu=>?_,fun u hu=>h3 u (List.mem_of_mem_drop hu)⟩
 rw[List.getElem?_drop]at hp hu
 exact h2 _ p u hp hu
theorem tfs_sub{K:Nat→Bool}{cs:List PV}:∀ {ds:List PV},tfs K cs=true→(∀ p∈ds,p∈cs)→tfs K ds=true
 | [],_,_=>rfl
 |d::ds,h,hs=>by
  simp only[tfs,Bool.and_eq_true]
  refine⟨?_,tfs_sub h fun p hp=>hs p (List.mem_cons_of_mem _ hp)⟩
  obtain⟨j,hj⟩:=List.mem_iff_getElem?.1 (hs d List.mem_cons_self)
  exact tfs_get h hj
theorem tfs_app{K:Nat→Bool}:∀ {cs ds:List PV},tfs K cs=true→tfs K ds=true→tfs K (cs++ds)=true
 | [],_,_,h=>h
 |c::cs,ds,h,k=>by
  simp only[tfs,Bool.and_eq_true]at h
  simp only[List.cons_append,tfs,Bool.and_eq_true]
  exact⟨h.1,tfs_app h.2 k⟩
section
variable {G:Gh} {st:St} {w w':World}
theorem Inv.below(hI:Inv P B G st w)(hs:w.heap.size≤w'.heap.size)(hb:∀ b,b<w.heap.size→w'.heap[b]? =w.heap[b]?)(he:w'.os=w.os∧w'.output=w.output):Inv P B G st w'∧Step G w G w':=by
 have lt_of:∀ {b:Nat} {o:Obj},w.heap[b]? =some o→b<w.heap.size:=fun h=>(Array.getElem?_eq_some_iff.1 h).1
 have hsh:=hI.sh
 refine⟨⟨fun b o v h=>?_,fun b e k h=>?_,hI.nx,hI.cnt,hI.live,hI.room,hI.apart,hI.priv,fun s cs h=>?_,fun s b h=>?_,hI.obj,hI.nob,hI.npo,fun b k h=>?_,fun b h=>?_,hI.base,fun s b e sz h1 h2=>?_,
  fun s es h=>?_,fun s b h=>?_,hI.mbi,hI.nomb,hI.obx,hI.ful⟩,⟨LeW.refl G,hs,fun b hb' _ _ _=>hb b hb',fun s b h=> .inl ⟨s,h⟩,fun t r h=> .inl ⟨t,r,h,rfl⟩,fun _ _ _ h=> .inl h,fun _ _ h=> .inl h,fun _ k h=> .inl ⟨k,h⟩,fun s b h=> .inl ⟨s,h⟩,he⟩⟩
 ·have hc:=hI.com b o v h
  rw[World.cell?_of_block (hb b (World.block_lt_of_cell? w _ hc))];exact hc
 ·obtain⟨c,h1,h2⟩:=hI.sh b e k h
  exact⟨c,by rw[hb b (lt_of h1)];exact h1,h2⟩
 ·obtain⟨b,e,vs,h1,h2,h3⟩:=hI.objs s cs h
  exact⟨b,e,vs,h1,by rw[hb b (lt_of h2)];exact h2,h3⟩
 ·obtain⟨h1,h2⟩:=hI.obs s b h
  exact⟨by omega,h2⟩
 ·have:=hI.pvl b k h;omega
 ·have:=hI.xpl b h;omega
 ·obtain⟨h3,c,h4⟩:=hI.oes s b e sz h1 h2
  exact⟨h3,c,by rw[hb b (lt_of h4)];exact h4⟩
 ·obtain⟨b,vs,clk,h1,h2,h3⟩:=hI.mobj s es h
  exact⟨b,vs,clk,h1,by rw[hb b (lt_of h2)];exact h2,h3⟩
 ·obtain⟨vs,clk,h1⟩:=hI.mbs s b h
  exact⟨vs,clk,by rw[hb b (lt_of h1)];exact h1⟩
theorem Step.heap{G':Gh}{w2 w3:World}(hS:Step G w G' w2)(h:w3.heap=w2.heap)(he:w3.os=w2.os∧w3.output=w2.output):Step G w G' w3:=
 ⟨hS.le,by rw[h];exact hS.size,fun b hb ho ht hm=>by rw[h];exact hS.kept b hb ho ht hm,hS.nearO,hS.nearT,hS.nearC,hS.nearS,hS.nearP,hS.nearM,⟨he.1.trans hS.eff.1,he.2.trans hS.eff.2⟩⟩
end
end Go.PM
namespace Go.Proofs
open Go.Shelf
def Tryz.laysM173_ren:Go.Shelf.Ren:=⟨fun|173=>135|246=>177|283=>194|284=>195|285=>196|286=>197|129=>146|317=>205|318=>206|319=>207|320=>208|337=>229|338=>230|n=>n,fun|2=>2|3=>3|9=>9|4=>4|171=>212|0=>0|53=>170|37=>134|5=>5|173=>214|212=>232|51=>168|20=>20|213=>233|46=>138|232=>255|233=>256|n=>n,fun|17=>0|18=>1|19=>2|n=>n⟩
theorem Tryz.laysM173:Go.Proofs.LaysM.n173 Tryz.prog Tryz.laysM173_ren:={
 mixed:=by kernel_rfl
 f129:=Tryz.func146.trans (congrArg some (by kernel_rfl))
 f173:=Tryz.func135.trans (congrArg some (by kernel_rfl))
 f246:=Tryz.func177.trans (congrArg some (by kernel_rfl))
 f283:=Tryz.func194.trans (congrArg some (by kernel_rfl))
 f284:=Tryz.func195.trans (congrArg some (by kernel_rfl))
 f285:=Tryz.func196.trans (congrArg some (by kernel_rfl))
 f286:=Tryz.func197.trans (congrArg some (by kernel_rfl))
 f317:=Tryz.func205.trans (congrArg some (by kernel_rfl))
 f318:=Tryz.func206.trans (congrArg some (by kernel_rfl))
 f319:=Tryz.func207.trans (congrArg some (by kernel_rfl))
 f320:=Tryz.func208.trans (congrArg some (by kernel_rfl))
 f337:=Tryz.func229.trans (congrArg some (by kernel_rfl))
 f338:=Tryz.func230.trans (congrArg some (by kernel_rfl))
 t0:=Tryz.underlying0
 a0:=Tryz.isAgg0
 z0:=Tryz.sizeOf0
 v0:=Tryz.zeroValue0
 t2:=Tryz.underlying2
 a2:=Tryz.isAgg2
 z2:=Tryz.sizeOf2
 v2:=Tryz.zeroValue2
 t3:=Tryz.underlying3
 a3:=Tryz.isAgg3
 z3:=Tryz.sizeOf3
 v3:=Tryz.zeroValue3
 t4:=Tryz.underlying4
 a4:=Tryz.isAgg4
 z4:=Tryz.sizeOf4
 v4:=Tryz.zeroValue4
 t5:=Tryz.underlying5
 a5:=Tryz.isAgg5
 z5:=Tryz.sizeOf5
 v5:=Tryz.zeroValue5
 t9:=Tryz.underlying9
 a9:=Tryz.isAgg9
 z9:=Tryz.sizeOf9
 v9:=Tryz.zeroValue9
 t20:=Tryz.underlying20
 a20:=Tryz.isAgg20
 z20:=Tryz.sizeOf20
 v20:=Tryz.zeroValue20
 t37:=Tryz.underlying134
 a37:=Tryz.isAgg134
 z37:=Tryz.sizeOf134
 v37:=Tryz.zeroValue134
 t46:=Tryz.underlying138
 a46:=Tryz.isAgg138
 z46:=Tryz.sizeOf138
 v46:=Tryz.zeroValue138
 t51:=Tryz.underlying168
 a51:=Tryz.isAgg168
 z51:=Tryz.sizeOf168
 v51:=Tryz.zeroValue168
 t53:=Tryz.underlying170
 a53:=Tryz.isAgg170
 z53:=Tryz.sizeOf170
 v53:=Tryz.zeroValue170
 t171:=Tryz.underlying212
 a171:=Tryz.isAgg212
 z171:=Tryz.sizeOf212
 v171:=Tryz.zeroValue212
 t173:=Tryz.underlying214
 a173:=Tryz.isAgg214
 z173:=Tryz.sizeOf214
 v173:=Tryz.zeroValue214
 t212:=Tryz.underlying232
 a212:=Tryz.isAgg232
 z212:=Tryz.sizeOf232
 v212:=Tryz.zeroValue232
 t213:=Tryz.underlying233
 a213:=Tryz.isAgg233
 z213:=Tryz.sizeOf233
 t232:=Tryz.underlying255
 a232:=Tryz.isAgg255
 z232:=Tryz.sizeOf255
 v232:=Tryz.zeroValue255
 t233:=Tryz.underlying256
 a233:=Tryz.isAgg256
 z233:=Tryz.sizeOf256
 v233:=Tryz.zeroValue256
 g17:=by kernel_rfl
 g18:=by kernel_rfl
 g19:=by kernel_rfl
 i0:=by kernel_rfl
 i2:=by kernel_rfl
 i3:=by kernel_rfl
 i4:=by kernel_rfl
 i5:=by kernel_rfl
 i9:=by kernel_rfl
 i20:=by kernel_rfl
 i37:=by kernel_rfl
 i46:=by kernel_rfl
 i51:=by kernel_rfl
 i53:=by kernel_rfl
 i171:=by kernel_rfl
 i173:=by kernel_rfl
 i212:=by kernel_rfl
 i232:=by kernel_rfl
 i233:=by kernel_rfl
 m17:=by kernel_rfl
 m18:=by kernel_rfl
 m19:=by kernel_rfl}
open Go.RowKit Go.Sort Go.Lib in
theorem Tryz.strconv_FormatInt_10(n:Int)(h0: -9223372036854775808≤n)(h1:n≤9223372036854775807)(w:World)(htab:Lib.TabIs Tryz.prog w "internal/strconv.uint64pow10" .u64 Lib.pow10Tab):
  Calls Tryz.prog 135 #[.int .i64 n,.int .i64 10] w fun e w'=>e= .returned (.string ⟨(Lib.itoa n).toArray⟩)∧∃ k os,w'=grow (w.drewN k) os:=Any.strconv_FormatInt_10 Tryz.laysM173 n h0 h1 w htab
def Tryz.laysC174_ren:Go.Shelf.Ren:=⟨fun|174=>239|247=>246|245=>247|287=>249|279=>250|280=>251|281=>252|282=>253|321=>254|322=>255|316=>256|171=>258|205=>257|243=>259|246=>177|283=>194|284=>195|285=>196|286=>197|129=>146|317=>205|318=>206|319=>207|320=>208|337=>229|338=>230|n=>n,fun|9=>9|3=>3|2=>2|75=>251|85=>252|4=>4|167=>258|5=>5|53=>170|175=>259|46=>138|168=>261|37=>134|0=>0|210=>267|21=>21|127=>269|145=>272|143=>270|171=>212|173=>214|212=>232|51=>168|20=>20|213=>233|232=>255|233=>256|80=>236|n=>n,fun|15=>3|16=>4|17=>0|18=>1|19=>2|n=>n⟩
theorem Tryz.laysC174:Go.Proofs.LaysC.n174 Tryz.prog Tryz.laysC174_ren:={
 mixed:=by kernel_rfl
 f129:=Tryz.func146.trans (congrArg some (by kernel_rfl))
 f171:=Tryz.func258.trans (congrArg some (by kernel_rfl))
 f174:=Tryz.func239.trans (congrArg some (by kernel_rfl))
 f205:=Tryz.func257.trans (congrArg some (by kernel_rfl))
 f243:=Tryz.func259.trans (congrArg some (by kernel_rfl))
 f245:=Tryz.func247.trans (congrArg some (by kernel_rfl))
 f246:=Tryz.func177.trans (congrArg some (by kernel_rfl))
 f247:=Tryz.func246.trans (congrArg some (by kernel_rfl))
 f279:=Tryz.func250.trans (congrArg some (by kernel_rfl))
 f280:=Tryz.func251.trans (congrArg some (by kernel_rfl))
 f281:=Tryz.func252.trans (congrArg some (by kernel_rfl))
 f282:=Tryz.func253.trans (congrArg some (by kernel_rfl))
 f283:=Tryz.func194.trans (congrArg some (by kernel_rfl))
 f284:=Tryz.func195.trans (congrArg some (by kernel_rfl))
 f285:=Tryz.func196.trans (congrArg some (by kernel_rfl))
 f286:=Tryz.func197.trans (congrArg some (by kernel_rfl))
 f287:=Tryz.func249.trans (congrArg some (by kernel_rfl))
 f316:=Tryz.func256.trans (congrArg some (by kernel_rfl))
 f317:=Tryz.func205.trans (congrArg some (by kernel_rfl))
 f318:=Tryz.func206.trans (congrArg some (by kernel_rfl))
 f319:=Tryz.func207.trans (congrArg some (by kernel_rfl))
 f320:=Tryz.func208.trans (congrArg some (by kernel_rfl))
 f321:=Tryz.func254.trans (congrArg some (by kernel_rfl))
 f322:=Tryz.func255.trans (congrArg some (by kernel_rfl))
 f337:=Tryz.func229.trans (congrArg some (by kernel_rfl))
 f338:=Tryz.func230.trans (congrArg some (by kernel_rfl))
 t0:=Tryz.underlying0
 a0:=Tryz.isAgg0
 z0:=Tryz.sizeOf0
 v0:=Tryz.zeroValue0
 t2:=Tryz.underlying2
 a2:=Tryz.isAgg2
 z2:=Tryz.sizeOf2
 v2:=Tryz.zeroValue2
 t3:=Tryz.underlying3
 a3:=Tryz.isAgg3
 z3:=Tryz.sizeOf3
 v3:=Tryz.zeroValue3
 t4:=Tryz.underlying4
 a4:=Tryz.isAgg4
 z4:=Tryz.sizeOf4
 v4:=Tryz.zeroValue4
 t5:=Tryz.underlying5
 a5:=Tryz.isAgg5
 z5:=Tryz.sizeOf5
 v5:=Tryz.zeroValue5
 t9:=Tryz.underlying9
 a9:=Tryz.isAgg9
 z9:=Tryz.sizeOf9
 v9:=Tryz.zeroValue9
 t20:=Tryz.underlying20
 a20:=Tryz.isAgg20
 z20:=Tryz.sizeOf20
 v20:=Tryz.zeroValue20
 t21:=Tryz.underlying21
 a21:=Tryz.isAgg21
 z21:=Tryz.sizeOf21
 v21:=Tryz.zeroValue21
 t37:=Tryz.underlying134
 a37:=Tryz.isAgg134
 z37:=Tryz.sizeOf134
 v37:=Tryz.zeroValue134
 t46:=Tryz.underlying138
 a46:=Tryz.isAgg138
 z46:=Tryz.sizeOf138
 v46:=Tryz.zeroValue138
 t51:=Tryz.underlying168
 a51:=Tryz.isAgg168
 z51:=Tryz.sizeOf168
 v51:=Tryz.zeroValue168
 t53:=Tryz.underlying170
 a53:=Tryz.isAgg170
 z53:=Tryz.sizeOf170
 v53:=Tryz.zeroValue170
 t75:=Tryz.underlying251
 a75:=Tryz.isAgg251
 z75:=Tryz.sizeOf251
 v75:=Tryz.zeroValue251
 t85:=Tryz.underlying252
 a85:=Tryz.isAgg252
 z85:=Tryz.sizeOf252
 v85:=Tryz.zeroValue252
 t127:=Tryz.underlying269
 a127:=Tryz.isAgg269
 z127:=Tryz.sizeOf269
 v127:=Tryz.zeroValue269
 t143:=Tryz.underlying270
 a143:=Tryz.isAgg270
 z143:=Tryz.sizeOf270
 v143:=Tryz.zeroValue270
 t145:=Tryz.underlying272
 a145:=Tryz.isAgg272
 z145:=Tryz.sizeOf272
 v145:=Tryz.zeroValue272
 t167:=Tryz.underlying258
 a167:=Tryz.isAgg258
 z167:=Tryz.sizeOf258
 v167:=Tryz.zeroValue258
 t168:=Tryz.underlying261
 a168:=Tryz.isAgg261
 z168:=Tryz.sizeOf261
 v168:=Tryz.zeroValue261
 t171:=Tryz.underlying212
 a171:=Tryz.isAgg212
 z171:=Tryz.sizeOf212
 v171:=Tryz.zeroValue212
 t173:=Tryz.underlying214
 a173:=Tryz.isAgg214
 z173:=Tryz.sizeOf214
 v173:=Tryz.zeroValue214
 t175:=Tryz.underlying259
 a175:=Tryz.isAgg259
 z175:=Tryz.sizeOf259
 v175:=Tryz.zeroValue259
 t210:=Tryz.underlying267
 a210:=Tryz.isAgg267
 z210:=Tryz.sizeOf267
 v210:=Tryz.zeroValue267
 t212:=Tryz.underlying232
 a212:=Tryz.isAgg232
 z212:=Tryz.sizeOf232
 v212:=Tryz.zeroValue232
 t213:=Tryz.underlying233
 a213:=Tryz.isAgg233
 z213:=Tryz.sizeOf233
 t232:=Tryz.underlying255
 a232:=Tryz.isAgg255
 z232:=Tryz.sizeOf255
 v232:=Tryz.zeroValue255
 t233:=Tryz.underlying256
 a233:=Tryz.isAgg256
 z233:=Tryz.sizeOf256
 v233:=Tryz.zeroValue256
 g15:=by kernel_rfl
 g16:=by kernel_rfl
 g17:=by kernel_rfl
 g18:=by kernel_rfl
 g19:=by kernel_rfl
 t80:=Tryz.underlying236
 a80:=Tryz.isAgg236
 z80:=Tryz.sizeOf236
 v80:=Tryz.zeroValue236
 i0:=by kernel_rfl
 i2:=by kernel_rfl
 i3:=by kernel_rfl
 i4:=by kernel_rfl
 i5:=by kernel_rfl
 i9:=by kernel_rfl
 i20:=by kernel_rfl
 i21:=by kernel_rfl
 i37:=by kernel_rfl
 i46:=by kernel_rfl
 i51:=by kernel_rfl
 i53:=by kernel_rfl
 i75:=by kernel_rfl
 i80:=by kernel_rfl
 i85:=by kernel_rfl
 i127:=by kernel_rfl
 i143:=by kernel_rfl
 i145:=by kernel_rfl
 i167:=by kernel_rfl
 i168:=by kernel_rfl
 i171:=by kernel_rfl
 i173:=by kernel_rfl
 i175:=by kernel_rfl
 i210:=by kernel_rfl
 i212:=by kernel_rfl
 i232:=by kernel_rfl
 i233:=by kernel_rfl
 m15:=by kernel_rfl
 m16:=by kernel_rfl
 m17:=by kernel_rfl
 m18:=by kernel_rfl
 m19:=by kernel_rfl
 c0:=by kernel_rfl
 c2:=by kernel_rfl
 c3:=by kernel_rfl
 c4:=by kernel_rfl
 c5:=by kernel_rfl
 c9:=by kernel_rfl
 c20:=by kernel_rfl
 c21:=by kernel_rfl
 c37:=by kernel_rfl
 c46:=by kernel_rfl
 c51:=by kernel_rfl
 c53:=by kernel_rfl
 c75:=by kernel_rfl
 c80:=by kernel_rfl
 c85:=by kernel_rfl
 c127:=by kernel_rfl
 c143:=by kernel_rfl
 c145:=by kernel_rfl
 c167:=by kernel_rfl
 c168:=by kernel_rfl
 c171:=by kernel_rfl
 c173:=by kernel_rfl
 c175:=by kernel_rfl
 c210:=by kernel_rfl
 c212:=by kernel_rfl
 c213:=by kernel_rfl
 c232:=by kernel_rfl
 c233:=by kernel_rfl}
open Go.RowKit in
theorem Tryz.strconv_ParseInt_10_at64_ok(s:ByteArray)(hmax:s.size≤9223372036854775806)(v:Int)(h:Lib.parseIntB 64 s.data.toList= .ok v)(w:World):
  Calls Tryz.prog 239 #[.string s,.int .i64 10,.int .i64 64] w fun e w'=>e= .returned (.tuple #[.int .i64 v,.nilIface])∧(w'=w∨∃ t,w'=Lib.bytesWorld w 5 t):=Any.strconv_ParseInt_10_at64_ok Tryz.laysC174 s hmax v h w
open Go.RowKit in
theorem Tryz.parse_no(s:ByteArray)(hlim:s.size≤281474976710656)(h1:∀ n,Lib.parseIntB 64 s.data.toList= .ok n→False)(h2:Lib.parseIntB 64 s.data.toList= .range→False)(tp:TypeId)(p:Value)(w:World)(hvar:w.var? Tryz.prog "strconv.ErrSyntax" =some #[.iface tp p]):
  Calls Tryz.prog 239 #[.string s,.int .i64 10,.int .i64 64] w fun e w'=>∃ N,e= .returned (.tuple #[.int .i64 (0),.iface 261 (.pointer (some ⟨N,0,none⟩))])∧w.heap.size≤N∧w'.heap[N]? =some (.cells #[.string ⟨#[80,97,114,115,101,73,110,116]⟩,.string s,.iface tp p] 267 (0,0))∧Below w.heap.size w w':=by
 cases hh:Lib.parseIntB 64 s.data.toList with
 |ok n=>exact(h1 n hh).elim
 |range=>exact(h2 hh).elim
 |_=>exact Any.strconv_ParseInt_10_at64_syntax_var Tryz.laysC174 s hlim hh tp p w hvar
open Go.RowKit in
theorem Tryz.strconv_ParseInt_10_at64_range_var(s:ByteArray)(hlim:s.size≤281474976710656)(h:Lib.parseIntB 64 s.data.toList= .range)(tp:TypeId)(p:Value)(w:World)(hvar:w.var? Tryz.prog "strconv.ErrRange" =some #[.iface tp p]):
  Calls Tryz.prog 239 #[.string s,.int .i64 10,.int .i64 64] w fun e w'=>∃ N,e= .returned (.tuple #[.int .i64 (Lib.intSat 64 s.data.toList),.iface 261 (.pointer (some ⟨N,0,none⟩))])∧w.heap.size≤N∧w'.heap[N]? =some (.cells #[.string ⟨#[80,97,114,115,101,73,110,116]⟩,.string s,.iface tp p] 267 (0,0))∧Below w.heap.size w w':=Any.strconv_ParseInt_10_at64_range_var Tryz.laysC174 s hlim h tp p w hvar
end Go.Proofs
namespace Go.PM
open Go Go.Proofs Go.Lib Go.Sort
def baseB(eS eR:Value):Nat→Nat→Option Value:=fun b o=>
 if b=0 then(pow10Tab.map (Value.int .u64))[o]? else if b=3 then(if o=0 then some eS else none)else if b=4 then(if o=0 then some eR else none)else none
theorem g_pow:Tryz.prog.globalNamed "internal/strconv.uint64pow10" =some 0:=by kernel_rfl
theorem g_syn:Tryz.prog.globalNamed "strconv.ErrSyntax" =some 3:=by kernel_rfl
theorem g_ran:Tryz.prog.globalNamed "strconv.ErrRange" =some 4:=by kernel_rfl
section
variable {eS eR:Value} {G:Gh} {st:St} {w:World}
theorem Inv.known{P:Program}{B:Nat→Nat→Option Value}(hI:Inv P B G st w){b:Nat}(l:List Value)(h0:l≠ [])(hl:∀ o,B b o=l[o]?):∃ e f,w.heap[b]? =some (.cells l.toArray e f):=by
 have hpos:0<l.length:=List.length_pos_iff.2 h0
 have hget:∀ o (ho:o<l.length),B b o=some l[o]:=fun o ho=>by rw[hl,List.getElem?_eq_getElem ho]
 obtain⟨h1,_,x,hx,hall⟩:=hI.base b 0 _ (hget 0 hpos)
 obtain⟨cur,hcur,hsz⟩:=hI.sh b x.1 x.2 hx
 refine⟨x.1,(0,0),?_⟩
 rw[hcur]
 refine congrArg (fun q=>some (Obj.cells q x.1 (0,0))) ?_
 apply Array.ext'
 apply List.ext_getElem?
 intro o
 by_cases ho:o<l.length
 ·have hc:=hI.com _ _ _ (hI.base b o _ (hget o ho)).1
  simp only[World.cell?,hcur,Option.isSome_none,Bool.false_eq_true,if_false]at hc
  rw[Array.getElem?_toList,hc,List.getElem?_eq_getElem ho]
 ·have hle:cur.size≤l.length:=by
   rcases Nat.lt_or_ge l.length cur.size with h|h
   ·exact absurd (by rw[hl];exact List.getElem?_eq_none (Nat.le_refl _)) (hall l.length (by omega))
   ·exact h
  rw[Array.getElem?_toList,Array.getElem?_eq_none (by omega)]
  exact(List.getElem?_eq_none (by simpa using ho)).symm
theorem pow_known{P:Program}(hI:Inv P (baseB eS eR) G st w):∃ e f,w.heap[0]? =some (.cells (pow10Tab.map (Value.int .u64)).toArray e f):=
 hI.known _ (by simp[pow10Tab]) (fun o=>by unfold baseB;rw[if_pos rfl])
theorem syn_known{P:Program}(hI:Inv P (baseB eS eR) G st w):∃ e f,w.heap[3]? =some (.cells #[eS] e f):=by
 refine hI.known [eS] (by simp) (fun o=>?_)
 unfold baseB
 rw[if_neg (by decide),if_pos rfl]
 cases o with
 |zero=>rfl
 |succ o=>simp
theorem ran_known{P:Program}(hI:Inv P (baseB eS eR) G st w):∃ e f,w.heap[4]? =some (.cells #[eR] e f):=by
 refine hI.known [eR] (by simp) (fun o=>?_)
 unfold baseB
 rw[if_neg (by decide),if_neg (by decide),if_pos rfl]
 cases o with
 |zero=>rfl
 |succ o=>simp
theorem tab_known(hI:Inv Tryz.prog (baseB eS eR) G st w):TabIs Tryz.prog w "internal/strconv.uint64pow10" .u64 pow10Tab:=by
 obtain⟨e,f,h⟩:=pow_known hI
 unfold TabIs World.var?
 rw[g_pow]
 simp only[Option.bind_some,h]
theorem synV(hI:Inv Tryz.prog (baseB eS eR) G st w):w.var? Tryz.prog "strconv.ErrSyntax" =some #[eS]:=by
 obtain⟨e,f,h⟩:=syn_known hI
 unfold World.var?
 rw[g_syn]
 simp only[Option.bind_some,h]
theorem ranV(hI:Inv Tryz.prog (baseB eS eR) G st w):w.var? Tryz.prog "strconv.ErrRange" =some #[eR]:=by
 obtain⟨e,f,h⟩:=ran_known hI
 unfold World.var?
 rw[g_ran]
 simp only[Option.bind_some,h]
end
theorem bytesWorld_below(w:World)(e:TypeId)(s:ByteArray):w.heap.size≤(bytesWorld w e s).heap.size∧∀ b,b<w.heap.size→(bytesWorld w e s).heap[b]? =w.heap[b]? :=by
 unfold bytesWorld World.freeze
 rw[if_neg (by decide)]
 generalize bytesCells w e s=A
 have h1:(w.drew.alloc (.cells A e)).heap=w.heap.push (.cells A e):=rfl
 simp only[h1]
 refine⟨by simp,fun b hb=>?_⟩
 rw[Array.getElem?_modify,if_neg (by omega),Array.getElem?_push,if_neg (by omega)]
theorem bytesWorld_eff(w:World)(e:TypeId)(s:ByteArray):(bytesWorld w e s).os=w.os∧(bytesWorld w e s).output=w.output:=by
 unfold bytesWorld World.freeze
 rw[if_neg (by decide)]
 exact⟨rfl,rfl⟩
theorem grow_below(w:World)(k:Nat)(os:Array Obj):w.heap.size≤(grow (w.drewN k) os).heap.size∧∀ b,b<w.heap.size→(grow (w.drewN k) os).heap[b]? =w.heap[b]? :=by
 have h1:(grow (w.drewN k) os).heap=w.heap++os:=rfl
 simp only[h1]
 exact⟨by simp,fun b hb=>by rw[Array.getElem?_append_left hb]⟩
theorem R_pair{G:Gh}{p q:PV}{u v:Value}(h1:R G p u)(h2:R G q v):R G (.tup [p,q]) (.tuple #[u,v]):=
 .tup [p,q] [u,v] rfl fun j a b ha hb=>by
  match j with
  |0=>simp at ha hb;subst ha hb;exact h1
  |1=>simp at ha hb;subst ha hb;exact h2
  |j+2=>simp at ha
def parseR(l:List UInt8):PV:=match parseIntB 64 l with
 | .ok n=> .tup [I n,.nili]
 | .range=> .tup [I (intSat 64 l),.err]
 |_=> .tup [I 0,.err]
def prParse:List PV→List Nat→List (List PV)→Option (PV×List Nat×List (List PV))
 | [.str s,.int .i64 a,.int .i64 b],[],[]=>if a=10∧b=64∧s.size≤2000000 then some (parseR s.data.toList,[],[])else none
 |_,_,_=>none
def prFmt:List PV→List Nat→List (List PV)→Option (PV×List Nat×List (List PV))
 | [.int .i64 n,.int .i64 b],[],[]=>if b=10∧ -9223372036854775808≤n∧n≤9223372036854775807 then some (S (itoa n),[],[])else none
 |_,_,_=>none
def prA:CallF:=fun f xs ns cs=>if f=239 then prParse xs ns cs else if f=135 then prFmt xs ns cs else none
theorem len3{vs:List Value}(h:3=vs.length):∃ a b c,vs=[a,b,c]:=by
 match vs,h with
 | [a,b,c],_=>exact⟨a,b,c,rfl⟩
theorem len2{vs:List Value}(h:2=vs.length):∃ a b,vs=[a,b]:=by
 match vs,h with
 | [a,b],_=>exact⟨a,b,rfl⟩
theorem enters239:Enters Tryz.prog 239:=⟨Tryz.f239,Tryz.func239,of_decide_eq_true (by kernel_rfl),by kernel_rfl⟩
theorem enters135:Enters Tryz.prog 135:=⟨Tryz.f135,Tryz.func135,of_decide_eq_true (by kernel_rfl),by kernel_rfl⟩
theorem ret_lt{f:Nat}(h:f<1000000){vs:List Value}{v:Value}:RetOk f vs v (.returned v):=(RetOk_lt h).2 rfl
theorem prA_ok(tS tR:TypeId)(pS pR:Value):CallOk Tryz.prog (baseB (.iface tS pS) (.iface tR pR)) prA:=by
 intro f xs ns cs r rs cs' h
 unfold prA at h
 split at h
 ·rename_i hf
  subst hf
  rw[fnOf_lt (by decide)]
  refine⟨enters239,?_⟩
  unfold prParse at h
  split at h
  ·rename_i s a b
   split at h
   ·rename_i hc
    obtain⟨rfl,rfl,hs⟩:=hc
    cases h
    refine⟨rfl,by unfold parseR;split<;>rfl,fun c hc=>(by cases hc),fun G w vs hI hl hR=>?_⟩
    obtain⟨v0,v1,v2,rfl⟩:=len3 hl
    have h0:=(hR 0 _ _ rfl rfl).1
    have h1:=(hR 1 _ _ rfl rfl).1
    have h2:=(hR 2 _ _ rfl rfl).1
    cases h0;cases h1;cases h2
    unfold parseR
    split
    ·rename_i n hp
     exact(Tryz.strconv_ParseInt_10_at64_ok s (by omega) n hp w).mono fun e w' h=>by
      obtain⟨rfl,hw⟩:=h
      have hb:w.heap.size≤w'.heap.size∧∀ b,b<w.heap.size→w'.heap[b]? =w.heap[b]? :=by
       rcases hw with rfl|⟨t,rfl⟩
       ·exact⟨Nat.le_refl _,fun _ _=>rfl⟩
       ·exact bytesWorld_below _ _ _
      have he:w'.os=w.os∧w'.output=w.output:=by
       rcases hw with rfl|⟨t,rfl⟩
       ·exact⟨rfl,rfl⟩
       ·exact bytesWorld_eff _ _ _
      obtain⟨hI',hS'⟩:=hI.below hb.1 hb.2 he
      exact⟨_,G,ret_lt (by decide),R_pair (.int _ _) .nili,hI',hS',rfl,fun k hk=>absurd hk (Nat.not_lt_zero _)⟩
    ·rename_i hp
     exact(Tryz.strconv_ParseInt_10_at64_range_var s (by omega) hp tR pR w (ranV hI)).mono fun e w' h=>by
      obtain⟨N,rfl,_,_,hb⟩:=h
      obtain⟨hI',hS'⟩:=hI.below hb.size hb.block ⟨hb.os,hb.output⟩
      exact⟨_,G,ret_lt (by decide),R_pair (.int _ _) (.err _ _),hI',hS',rfl,fun k hk=>absurd hk (Nat.not_lt_zero _)⟩
    ·rename_i h1 h2
     exact(Tryz.parse_no s (by omega) h1 h2 tS pS w (synV hI)).mono fun e w' h=>by
      obtain⟨N,rfl,_,_,hb⟩:=h
      obtain⟨hI',hS'⟩:=hI.below hb.size hb.block ⟨hb.os,hb.output⟩
      exact⟨_,G,ret_lt (by decide),R_pair (.int _ _) (.err _ _),hI',hS',rfl,fun k hk=>absurd hk (Nat.not_lt_zero _)⟩
   ·cases h
  ·cases h
 ·split at h
  ·rename_i hf
   subst hf
   rw[fnOf_lt (by decide)]
   refine⟨enters135,?_⟩
   unfold prFmt at h
   split at h
   ·rename_i n b
    split at h
    ·rename_i hc
     obtain⟨rfl,h1,h2⟩:=hc
     cases h
     refine⟨rfl,rfl,fun c hc=>(by cases hc),fun G w vs hI hl hR=>?_⟩
     obtain⟨v0,v1,rfl⟩:=len2 hl
     have h3:=(hR 0 _ _ rfl rfl).1
     have h4:=(hR 1 _ _ rfl rfl).1
     cases h3;cases h4
     exact(Tryz.strconv_FormatInt_10 n h1 h2 w (tab_known hI)).mono fun e w' h=>by
      obtain⟨rfl,k,os,rfl⟩:=h
      have hb:=grow_below w k os
      have he:(grow (w.drewN k) os).os=w.os∧(grow (w.drewN k) os).output=w.output:=⟨rfl,rfl⟩
      obtain⟨hI',hS'⟩:=hI.below hb.1 hb.2 he
      exact⟨_,G,ret_lt (by decide),.str _,hI',hS',rfl,fun k hk=>absurd hk (Nat.not_lt_zero _)⟩
    ·cases h
   ·cases h
  ·cases h
end Go.PM
namespace Go.PM
open Go Go.Proofs
def mvA(mk:Bool)(f:Nat):List Nat:=if f=1000001∨f=1000002 then(if mk then [1]else [])else match f with
 |128=>[0]
 |189=>[0]
 |91=>[0]
 |161=>[0]
 |14=>[0]
 |27=>[0]
 |34=>[0]
 |15=>[1000]
 |20=>[1000]
 |50=>[1000]
 |51=>[1000]
 |57=>[1000]
 |58=>[1000]
 |_=>[]
def mvC(f:Nat):List Nat:=if f=1000003 then [1]else mvA false f
theorem okF8:compFn Tryz.prog (mvA false) 0 false 8=some F8:=by kernel_rfl
theorem okF10:compFn Tryz.prog (mvA false) 0 true 10=some F10:=by kernel_rfl
theorem okF13:compFn Tryz.prog (mvA false) 0 false 13=some F13:=by kernel_rfl
theorem okF14:compFn Tryz.prog (mvA false) 0 false 14=some F14:=by kernel_rfl
theorem okF38:compFn Tryz.prog (mvA false) 0 false 38=some F38:=by kernel_rfl
theorem okF39:compFn Tryz.prog (mvA false) 0 false 39=some F39:=by kernel_rfl
theorem okF40:compFn Tryz.prog (mvA false) 0 false 40=some F40:=by kernel_rfl
theorem okF41:compFn Tryz.prog (mvA false) 0 false 41=some F41:=by kernel_rfl
theorem okF42:compFn Tryz.prog (mvA false) 0 false 42=some F42:=by kernel_rfl
theorem okF44:compFn Tryz.prog (mvA false) 0 true 44=some F44:=by kernel_rfl
theorem okF45:compFn Tryz.prog (mvA false) 0 true 45=some F45:=by kernel_rfl
theorem okF46:compFn Tryz.prog (mvA false) 0 false 46=some F46:=by kernel_rfl
theorem okF48:compFn Tryz.prog (mvA false) 0 false 48=some F48:=by kernel_rfl
theorem okF49:compFn Tryz.prog (mvA false) 0 false 49=some F49:=by kernel_rfl
theorem okF59:compFn Tryz.prog (mvA false) 0 false 59=some F59:=by kernel_rfl
theorem okF60:compFn Tryz.prog (mvA false) 0 false 60=some F60:=by kernel_rfl
theorem okF61:compFn Tryz.prog (mvA false) 0 false 61=some F61:=by kernel_rfl
theorem okF66:compFn Tryz.prog (mvA false) 0 true 66=some F66:=by kernel_rfl
theorem okF68:compFn Tryz.prog (mvA false) 0 true 68=some F68:=by kernel_rfl
theorem okF79:compFn Tryz.prog (mvA false) 0 false 79=some F79:=by kernel_rfl
theorem okF80:compFn Tryz.prog (mvA false) 0 false 80=some F80:=by kernel_rfl
theorem okF81:compFn Tryz.prog (mvA false) 0 false 81=some F81:=by kernel_rfl
theorem okF82:compFn Tryz.prog (mvA false) 0 false 82=some F82:=by kernel_rfl
theorem okF83:compFn Tryz.prog (mvA false) 0 false 83=some F83:=by kernel_rfl
theorem okF84:compFn Tryz.prog (mvA false) 0 false 84=some F84:=by kernel_rfl
theorem okF85:compFn Tryz.prog (mvA false) 0 false 85=some F85:=by kernel_rfl
theorem okF86:compFn Tryz.prog (mvA false) 0 true 86=some F86:=by kernel_rfl
theorem okF87:compFn Tryz.prog (mvA false) 0 true 87=some F87:=by kernel_rfl
theorem okF88:compFn Tryz.prog (mvA false) 0 false 88=some F88:=by kernel_rfl
theorem okF89:compFn Tryz.prog (mvA false) 0 false 89=some F89:=by kernel_rfl
theorem okF90:compFn Tryz.prog (mvA false) 0 false 90=some F90:=by kernel_rfl
theorem okF93:compFn Tryz.prog (mvA false) 0 false 93=some F93:=by kernel_rfl
theorem okF94:compFn Tryz.prog (mvA false) 0 false 94=some F94:=by kernel_rfl
theorem okF98:compFn Tryz.prog (mvA false) 0 false 98=some F98:=by kernel_rfl
theorem okF103:compFn Tryz.prog (mvA false) 0 true 103=some F103:=by kernel_rfl
theorem okF108:compFn Tryz.prog (mvA false) 0 true 108=some F108:=by kernel_rfl
theorem okF116:compFn Tryz.prog (mvA false) 0 false 116=some F116:=by kernel_rfl
theorem okF117:compFn Tryz.prog (mvA false) 0 false 117=some F117:=by kernel_rfl
theorem okF118:compFn Tryz.prog (mvA false) 0 false 118=some F118:=by kernel_rfl
theorem okF119:compFn Tryz.prog (mvA false) 0 false 119=some F119:=by kernel_rfl
theorem okF120:compFn Tryz.prog (mvA false) 0 false 120=some F120:=by kernel_rfl
theorem okF121:compFn Tryz.prog (mvA false) 0 false 121=some F121:=by kernel_rfl
theorem okF122:compFn Tryz.prog (mvA false) 0 true 122=some F122:=by kernel_rfl
theorem okF123:compFn Tryz.prog (mvA false) 0 true 123=some F123:=by kernel_rfl
theorem okF124:compFn Tryz.prog (mvA false) 0 false 124=some F124:=by kernel_rfl
theorem okF125:compFn Tryz.prog (mvA false) 0 false 125=some F125:=by kernel_rfl
theorem okF126:compFn Tryz.prog (mvA false) 0 false 126=some F126:=by kernel_rfl
theorem okF127:compFn Tryz.prog (mvA false) 0 false 127=some F127:=by kernel_rfl
theorem okF129:compFn Tryz.prog (mvA false) 0 false 129=some F129:=by kernel_rfl
theorem okF130:compFn Tryz.prog (mvA false) 0 false 130=some F130:=by kernel_rfl
theorem okF165:compFn Tryz.prog (mvA false) 0 false 165=some F165:=by kernel_rfl
theorem okF166:compFn Tryz.prog (mvA false) 0 false 166=some F166:=by kernel_rfl
theorem okF167:compFn Tryz.prog (mvA false) 0 false 167=some F167:=by kernel_rfl
theorem okF168:compFn Tryz.prog (mvA false) 0 false 168=some F168:=by kernel_rfl
theorem okF169:compFn Tryz.prog (mvA false) 0 false 169=some F169:=by kernel_rfl
theorem okF170:compFn Tryz.prog (mvA false) 0 true 170=some F170:=by kernel_rfl
theorem okF171:compFn Tryz.prog (mvA false) 0 false 171=some F171:=by kernel_rfl
theorem okF172:compFn Tryz.prog (mvA false) 0 false 172=some F172:=by kernel_rfl
theorem okF173:compFn Tryz.prog (mvA false) 0 false 173=some F173:=by kernel_rfl
theorem okF176:compFn Tryz.prog (mvA false) 0 false 176=some F176:=by kernel_rfl
theorem okF186:compFn Tryz.prog (mvA false) 0 false 186=some F186:=by kernel_rfl
theorem okF188:compFn Tryz.prog (mvA false) 0 false 188=some F188:=by kernel_rfl
theorem okF191:compFn Tryz.prog (mvA false) 0 false 191=some F191:=by kernel_rfl
theorem okF192:compFn Tryz.prog (mvA false) 0 false 192=some F192:=by kernel_rfl
theorem okF200:compFn Tryz.prog (mvA false) 1 false 200=some F200:=by kernel_rfl
theorem okF201:compFn Tryz.prog (mvA false) 1 false 201=some F201:=by kernel_rfl
theorem okF209:compFn Tryz.prog (mvA false) 1 false 209=some F209:=by kernel_rfl
theorem okF210:compFn Tryz.prog (mvA false) 1 false 210=some F210:=by kernel_rfl
theorem okF211:compFn Tryz.prog (mvA false) 1 false 211=some F211:=by kernel_rfl
theorem okF212:compFn Tryz.prog (mvA false) 1 false 212=some F212:=by kernel_rfl
theorem okF213:compFn Tryz.prog (mvA false) 1 false 213=some F213:=by kernel_rfl
theorem okF214:compFn Tryz.prog (mvA false) 1 false 214=some F214:=by kernel_rfl
theorem okF215:compFn Tryz.prog (mvA false) 1 false 215=some F215:=by kernel_rfl
theorem okF216:compFn Tryz.prog (mvA false) 1 false 216=some F216:=by kernel_rfl
theorem okF217:compFn Tryz.prog (mvA false) 1 false 217=some F217:=by kernel_rfl
theorem okF218:compFn Tryz.prog (mvA false) 1 false 218=some F218:=by kernel_rfl
theorem okF219:compFn Tryz.prog (mvA false) 1 false 219=some F219:=by kernel_rfl
theorem okF220:compFn Tryz.prog (mvA false) 1 false 220=some F220:=by kernel_rfl
theorem okF221:compFn Tryz.prog (mvA false) 1 false 221=some F221:=by kernel_rfl
theorem okF222:compFn Tryz.prog (mvA false) 1 false 222=some F222:=by kernel_rfl
theorem okF223:compFn Tryz.prog (mvA false) 1 false 223=some F223:=by kernel_rfl
theorem okF224:compFn Tryz.prog (mvA false) 1 false 224=some F224:=by kernel_rfl
theorem okF225:compFn Tryz.prog (mvA false) 1 false 225=some F225:=by kernel_rfl
theorem okF226:compFn Tryz.prog (mvA false) 1 false 226=some F226:=by kernel_rfl
theorem okF227:compFn Tryz.prog (mvA false) 1 false 227=some F227:=by kernel_rfl
theorem okF231:compFn Tryz.prog (mvA false) 0 false 231=some F231:=by kernel_rfl
theorem okF232:compFn Tryz.prog (mvA false) 1 false 232=some F232:=by kernel_rfl
theorem okF233:compFn Tryz.prog (mvA false) 0 false 233=some F233:=by kernel_rfl
theorem okF234:compFn Tryz.prog (mvA false) 0 false 234=some F234:=by kernel_rfl
theorem okF235:compFn Tryz.prog (mvA false) 1 false 235=some F235:=by kernel_rfl
theorem okF236:compFn Tryz.prog (mvA false) 0 false 236=some F236:=by kernel_rfl
theorem okF237:compFn Tryz.prog (mvA false) 0 false 237=some F237:=by kernel_rfl
theorem okF238:compFn Tryz.prog (mvA false) 0 false 238=some F238:=by kernel_rfl
theorem okF240:compFn Tryz.prog (mvA false) 1 false 240=some F240:=by kernel_rfl
theorem okF241:compFn Tryz.prog (mvA false) 0 false 241=some F241:=by kernel_rfl
theorem okF242:compFn Tryz.prog (mvA false) 1 false 242=some F242:=by kernel_rfl
theorem okF244:compFn Tryz.prog (mvA false) 0 false 244=some F244:=by kernel_rfl
theorem okF245:compFn Tryz.prog (mvA false) 0 false 245=some F245:=by kernel_rfl
theorem okF248:compFn Tryz.prog (mvA false) 0 false 248=some F248:=by kernel_rfl
theorem okFB50:compFnB Tryz.prog (mvA true) 50=some FB50:=by kernel_rfl
theorem okFB51:compFnB Tryz.prog (mvA true) 51=some FB51:=by kernel_rfl
theorem okFB57:compFnB Tryz.prog (mvA true) 57=some FB57:=by kernel_rfl
theorem okFB58:compFnB Tryz.prog (mvA true) 58=some FB58:=by kernel_rfl
theorem okFB20:compFnB Tryz.prog (mvA true) 20=some FB20:=by kernel_rfl
theorem okF4:compFn Tryz.prog (mvA false) 0 false 4=some F4:=by kernel_rfl
theorem okF17:compFn Tryz.prog (mvA false) 0 false 17=some F17:=by kernel_rfl
theorem okF18:compFn Tryz.prog (mvA false) 0 true 18=some F18:=by kernel_rfl
theorem okF19:compFn Tryz.prog (mvA false) 0 false 19=some F19:=by kernel_rfl
theorem okF21:compFn Tryz.prog (mvA false) 0 false 21=some F21:=by kernel_rfl
theorem okF54:compFn Tryz.prog (mvA false) 0 false 54=some F54:=by kernel_rfl
theorem okF55:compFn Tryz.prog (mvA false) 0 true 55=some F55:=by kernel_rfl
theorem okF56:compFn Tryz.prog (mvA false) 0 false 56=some F56:=by kernel_rfl
theorem okF95:compFn Tryz.prog (mvA false) 0 false 95=some F95:=by kernel_rfl
theorem okF96:compFn Tryz.prog (mvA false) 0 false 96=some F96:=by kernel_rfl
theorem okF97:compFn Tryz.prog (mvA false) 0 false 97=some F97:=by kernel_rfl
theorem okF99:compFn Tryz.prog (mvA false) 0 false 99=some F99:=by kernel_rfl
theorem okF100:compFn Tryz.prog (mvA false) 1 false 100=some F100:=by kernel_rfl
theorem okF101:compFn Tryz.prog (mvA false) 0 false 101=some F101:=by kernel_rfl
theorem okF102:compFn Tryz.prog (mvA false) 0 false 102=some F102:=by kernel_rfl
theorem okF104:compFn Tryz.prog (mvA false) 0 true 104=some F104:=by kernel_rfl
theorem okF105:compFn Tryz.prog (mvA false) 0 false 105=some F105:=by kernel_rfl
theorem okF131:compFn Tryz.prog (mvA false) 0 false 131=some F131:=by kernel_rfl
theorem okF132:compFn Tryz.prog mvC 0 false 132=some F132:=by kernel_rfl
theorem okF133:compFn Tryz.prog (mvA false) 0 false 133=some F133:=by kernel_rfl
theorem okF134:compFn Tryz.prog (mvA false) 0 false 134=some F134:=by kernel_rfl
theorem tableOk:TableOk T Tryz.prog:=by
 intro f F h
 unfold T at h
 split at h
 ·cases h;exact .inl ⟨by decide,_,_,_,okF8⟩
 ·cases h;exact .inl ⟨by decide,_,_,_,okF10⟩
 ·cases h;exact .inl ⟨by decide,_,_,_,okF13⟩
 ·cases h;exact .inl ⟨by decide,_,_,_,okF14⟩
 ·cases h;exact .inl ⟨by decide,_,_,_,okF38⟩
 ·cases h;exact .inl ⟨by decide,_,_,_,okF39⟩
 ·cases h;exact .inl ⟨by decide,_,_,_,okF40⟩
 ·cases h;exact .inl ⟨by decide,_,_,_,okF41⟩
 ·cases h;exact .inl ⟨by decide,_,_,_,okF42⟩
 ·cases h;exact .inl ⟨by decide,_,_,_,okF44⟩
 ·cases h;exact .inl ⟨by decide,_,_,_,okF45⟩
 ·cases h;exact .inl ⟨by decide,_,_,_,okF46⟩
 ·cases h;exact .inl ⟨by decide,_,_,_,okF48⟩
 ·cases h;exact .inl ⟨by decide,_,_,_,okF49⟩
 ·cases h;exact .inl ⟨by decide,_,_,_,okF59⟩
 ·cases h;exact .inl ⟨by decide,_,_,_,okF60⟩
 ·cases h;exact .inl ⟨by decide,_,_,_,okF61⟩
 ·cases h;exact .inl ⟨by decide,_,_,_,okF66⟩
 ·cases h;exact .inl ⟨by decide,_,_,_,okF68⟩
 ·cases h;exact .inl ⟨by decide,_,_,_,okF79⟩
 ·cases h;exact .inl ⟨by decide,_,_,_,okF80⟩
 ·cases h;exact .inl ⟨by decide,_,_,_,okF81⟩
 ·cases h;exact .inl ⟨by decide,_,_,_,okF82⟩
 ·cases h;exact .inl ⟨by decide,_,_,_,okF83⟩
 ·cases h;exact .inl ⟨by decide,_,_,_,okF84⟩
 ·cases h;exact .inl ⟨by decide,_,_,_,okF85⟩
 ·cases h;exact .inl ⟨by decide,_,_,_,okF86⟩
 ·cases h;exact .inl ⟨by decide,_,_,_,okF87⟩
 ·cases h;exact .inl ⟨by decide,_,_,_,okF88⟩
 ·cases h;exact .inl ⟨by decide,_,_,_,okF89⟩
 ·cases h;exact .inl ⟨by decide,_,_,_,okF90⟩
 ·cases h;exact .inl ⟨by decide,_,_,_,okF93⟩
 ·cases h;exact .inl ⟨by decide,_,_,_,okF94⟩
 ·cases h;exact .inl ⟨by decide,_,_,_,okF98⟩
 ·cases h;exact .inl ⟨by decide,_,_,_,okF103⟩
 ·cases h;exact .inl ⟨by decide,_,_,_,okF108⟩
 ·cases h;exact .inl ⟨by decide,_,_,_,okF116⟩
 ·cases h;exact .inl ⟨by decide,_,_,_,okF117⟩
 ·cases h;exact .inl ⟨by decide,_,_,_,okF118⟩
 ·cases h;exact .inl ⟨by decide,_,_,_,okF119⟩
 ·cases h;exact .inl ⟨by decide,_,_,_,okF120⟩
 ·cases h;exact .inl ⟨by decide,_,_,_,okF121⟩
 ·cases h;exact .inl ⟨by decide,_,_,_,okF122⟩
 ·cases h;exact .inl ⟨by decide,_,_,_,okF123⟩
 ·cases h;exact .inl ⟨by decide,_,_,_,okF124⟩
 ·cases h;exact .inl ⟨by decide,_,_,_,okF125⟩
 ·cases h;exact .inl ⟨by decide,_,_,_,okF126⟩
 ·cases h;exact .inl ⟨by decide,_,_,_,okF127⟩
 ·cases h;exact .inl ⟨by decide,_,_,_,okF129⟩
 ·cases h;exact .inl ⟨by decide,_,_,_,okF130⟩
 ·cases h;exact .inl ⟨by decide,_,_,_,okF165⟩
 ·cases h;exact .inl ⟨by decide,_,_,_,okF166⟩
 ·cases h;exact .inl ⟨by decide,_,_,_,okF167⟩
 ·cases h;exact .inl ⟨by decide,_,_,_,okF168⟩
 ·cases h;exact .inl ⟨by decide,_,_,_,okF169⟩
 ·cases h;exact .inl ⟨by decide,_,_,_,okF170⟩
 ·cases h;exact .inl ⟨by decide,_,_,_,okF171⟩
 ·cases h;exact .inl ⟨by decide,_,_,_,okF172⟩
 ·cases h;exact .inl ⟨by decide,_,_,_,okF173⟩
 ·cases h;exact .inl ⟨by decide,_,_,_,okF176⟩
 ·cases h;exact .inl ⟨by decide,_,_,_,okF186⟩
 ·cases h;exact .inl ⟨by decide,_,_,_,okF188⟩
 ·cases h;exact .inl ⟨by decide,_,_,_,okF191⟩
 ·cases h;exact .inl ⟨by decide,_,_,_,okF192⟩
 ·cases h;exact .inl ⟨by decide,_,_,_,okF200⟩
 ·cases h;exact .inl ⟨by decide,_,_,_,okF201⟩
 ·cases h;exact .inl ⟨by decide,_,_,_,okF209⟩
 ·cases h;exact .inl ⟨by decide,_,_,_,okF210⟩
 ·cases h;exact .inl ⟨by decide,_,_,_,okF211⟩
 ·cases h;exact .inl ⟨by decide,_,_,_,okF212⟩
 ·cases h;exact .inl ⟨by decide,_,_,_,okF213⟩
 ·cases h;exact .inl ⟨by decide,_,_,_,okF214⟩
 ·cases h;exact .inl ⟨by decide,_,_,_,okF215⟩
 ·cases h;exact .inl ⟨by decide,_,_,_,okF216⟩
 ·cases h;exact .inl ⟨by decide,_,_,_,okF217⟩
 ·cases h;exact .inl ⟨by decide,_,_,_,okF218⟩
 ·cases h;exact .inl ⟨by decide,_,_,_,okF219⟩
 ·cases h;exact .inl ⟨by decide,_,_,_,okF220⟩
 ·cases h;exact .inl ⟨by decide,_,_,_,okF221⟩
 ·cases h;exact .inl ⟨by decide,_,_,_,okF222⟩
 ·cases h;exact .inl ⟨by decide,_,_,_,okF223⟩
 ·cases h;exact .inl ⟨by decide,_,_,_,okF224⟩
 ·cases h;exact .inl ⟨by decide,_,_,_,okF225⟩
 ·cases h;exact .inl ⟨by decide,_,_,_,okF226⟩
 ·cases h;exact .inl ⟨by decide,_,_,_,okF227⟩
 ·cases h;exact .inl ⟨by decide,_,_,_,okF231⟩
 ·cases h;exact .inl ⟨by decide,_,_,_,okF232⟩
 ·cases h;exact .inl ⟨by decide,_,_,_,okF233⟩
 ·cases h;exact .inl ⟨by decide,_,_,_,okF234⟩
 ·cases h;exact .inl ⟨by decide,_,_,_,okF235⟩
 ·cases h;exact .inl ⟨by decide,_,_,_,okF236⟩
 ·cases h;exact .inl ⟨by decide,_,_,_,okF237⟩
 ·cases h;exact .inl ⟨by decide,_,_,_,okF238⟩
 ·cases h;exact .inl ⟨by decide,_,_,_,okF240⟩
 ·cases h;exact .inl ⟨by decide,_,_,_,okF241⟩
 ·cases h;exact .inl ⟨by decide,_,_,_,okF242⟩
 ·cases h;exact .inl ⟨by decide,_,_,_,okF244⟩
 ·cases h;exact .inl ⟨by decide,_,_,_,okF245⟩
 ·cases h;exact .inl ⟨by decide,_,_,_,okF248⟩
 ·cases h;exact .inr ⟨_,50,by decide,okFB50⟩
 ·cases h;exact .inr ⟨_,51,by decide,okFB51⟩
 ·cases h;exact .inr ⟨_,57,by decide,okFB57⟩
 ·cases h;exact .inr ⟨_,58,by decide,okFB58⟩
 ·cases h;exact .inr ⟨_,20,by decide,okFB20⟩
 ·cases h;exact .inl ⟨by decide,_,_,_,okF4⟩
 ·cases h;exact .inl ⟨by decide,_,_,_,okF17⟩
 ·cases h;exact .inl ⟨by decide,_,_,_,okF18⟩
 ·cases h;exact .inl ⟨by decide,_,_,_,okF19⟩
 ·cases h;exact .inl ⟨by decide,_,_,_,okF21⟩
 ·cases h;exact .inl ⟨by decide,_,_,_,okF54⟩
 ·cases h;exact .inl ⟨by decide,_,_,_,okF55⟩
 ·cases h;exact .inl ⟨by decide,_,_,_,okF56⟩
 ·cases h;exact .inl ⟨by decide,_,_,_,okF95⟩
 ·cases h;exact .inl ⟨by decide,_,_,_,okF96⟩
 ·cases h;exact .inl ⟨by decide,_,_,_,okF97⟩
 ·cases h;exact .inl ⟨by decide,_,_,_,okF99⟩
 ·cases h;exact .inl ⟨by decide,_,_,_,okF100⟩
 ·cases h;exact .inl ⟨by decide,_,_,_,okF101⟩
 ·cases h;exact .inl ⟨by decide,_,_,_,okF102⟩
 ·cases h;exact .inl ⟨by decide,_,_,_,okF104⟩
 ·cases h;exact .inl ⟨by decide,_,_,_,okF105⟩
 ·cases h;exact .inl ⟨by decide,_,_,_,okF131⟩
 ·cases h;exact .inl ⟨by decide,_,_,_,okF132⟩
 ·cases h;exact .inl ⟨by decide,_,_,_,okF133⟩
 ·cases h;exact .inl ⟨by decide,_,_,_,okF134⟩
 ·cases h
end Go.PM
namespace Go.PM
open Go Go.Proofs Go.Lib
noncomputable def cfT:CallF:=callW T prA
theorem cfT_ok(tS tR:TypeId)(pS pR:Value):CallOk Tryz.prog (baseB (.iface tS pS) (.iface tR pR)) cfT:=callW_ok T prA (by kernel_rfl) tableOk (prA_ok tS tR pS pR)
theorem tabT:Tab cfT:=fun f F hF N xs ns cs r h=>callW_fn T prA hF (by
 unfold prA
 split
 ·rename_i hf;subst hf;cases hF
 ·split
  ·rename_i hf;subst hf;cases hF
  ·rfl) N h
theorem envT:Env cfT where
 tab:=tabT
 parse l hl:=callW_pr T prA (by
  unfold prA
  rw[if_pos rfl]
  show(if(10:Int)=10∧(64:Int)=64∧ByteArray.size ⟨l.toArray⟩≤2000000 then _ else _)=_
  rw[if_pos ⟨rfl,rfl,by simpa [ByteArray.size]using hl⟩]
  show some (parseR l.toArray.toList,_,_)=_
  unfold parseR
  simp only[List.toList_toArray]
  cases parseIntB 64 l<;>rfl)
 fmt n h1 h2:=callW_pr T prA (by
  unfold prA
  rw[if_neg (by decide),if_pos rfl]
  show(if(10:Int)=10∧_∧_ then _ else _)=_
  rw[if_pos ⟨rfl,h1,h2⟩])
end Go.PM
namespace Go.PM
open Go Go.Proofs Go.ChangeShapes Go.Deep
def ghOf(w:World):Gh where
 com b o:=w.cell? ⟨b,o,none⟩
 sh b:=match w.heap[b]? with
  |some (.cells c e (0,0))=>some (e,c.size)
  |_=>none
 tk _:=none
 ob _:=none
 nx:=0
 pv _:=none
 xp _:=false
 oe _:=none
 mb _:=none
theorem ghOf_sh{w:World}{b e k:Nat}(h:(ghOf w).sh b=some (e,k)):∃ cur:Array Value,w.heap[b]? =some (.cells cur e (0,0))∧cur.size=k:=by
 simp only[ghOf]at h
 split at h
 ·rename_i c e' hc
  cases h
  exact⟨c,hc,rfl⟩
 ·cases h
section
variable {H:Type} {enc:TypeId×Value→H} {w:World} {base:Nat} {held:Bool}
theorem rd_cells{a:Addr}{n:Nat}{cs:List Value}(h:w.cells? base a n=some cs):cs.length=n∧∀ i,i<n→w.cell? (a.add i)=cs[i]? :=by
 obtain⟨_,h1,h2⟩:=World.cells?_some h
 exact⟨h1,h2⟩
theorem rd_slice{P:Program}{t e:TypeId}{sz:Nat}(ht:P.underlying t=some (.slice e))(hce:P.cellsOf e=sz)(hsz:0<sz){α:Type}(en:α→List PV)(Ok:α→Prop)(hen:∀ a,(en a).length=sz)
  (hel:∀ fuel cs x,DataW.trod enc P w base (fun _=>true) held fuel e cs=some x→cs.length=sz→∃ a,Rs (ghOf w) (en a) cs∧Ok a)
  {fuel:Nat} {cs:List Value} {x:DataW H×List MemPlace} (h:DataW.trod enc P w base (fun _=>true) held fuel t cs=some x):
  ∃ (l:List α) (v:Value),cs=[v]∧R (ghOf w) (.list l.length (l.flatMap en) .no) v∧v.oneCell'=true∧l.length≤maxLen∧∀ a∈l,Ok a:=by
 rcases open_slice ht h with⟨rfl,_⟩|⟨a,len,cap,m,n,D,Pl,rfl,hb,hlc,hcm,hm,_,hall⟩
 ·exact⟨[],_,rfl,.listN _ trivial,rfl,Nat.zero_le _,fun _ h=>by cases h⟩
 have hm:m=cap:=hm
 subst hm
 rw[hce]at hall
 by_cases hc0:m=0
 ·subst hc0
  obtain rfl:len=0:=by omega
  exact⟨[],_,rfl,.listE a,rfl,Nat.zero_le _,fun _ h=>by cases h⟩
 have hsp:a.spot=none:=by
  obtain⟨cs',h1,_⟩:=hall 0 (by omega)
  obtain⟨h2,h3⟩:=rd_cells h1
  have h4:=h3 0 hsz
  rw[List.getElem?_eq_getElem (by omega)]at h4
  have e0:(a.add (0*sz)).add 0=a:=by simp[Addr.add]
  rw[e0]at h4
  unfold World.cell? at h4
  split at h4
  ·split at h4
   ·cases h4
   ·rename_i hs;simpa using hs
  ·cases h4
 obtain⟨b,o,s⟩:=a
 simp only at hsp
 subst hsp
 have main:∀ k,k≤len→∃ (l:List α) (us:List Value),l.length=k∧Rs (ghOf w) (l.flatMap en) us∧us.length=k*sz∧(∀ (j:Nat) u,us[j]? =some u→w.cell? ⟨b,o+j,none⟩=some u)∧∀ a∈l,Ok a:=by
  intro k
  induction k with
  |zero=>intro _;exact⟨[],[],rfl,⟨rfl,fun j p u hp _=>by simp at hp,fun _ h=>by cases h⟩,by simp,fun j u hj=>by simp at hj,fun _ h=>by cases h⟩
  |succ k ih=>
   intro hk
   obtain⟨l,us,h1,h2,h3,h4,h5⟩:=ih (by omega)
   obtain⟨cs',h6,h7⟩:=hall k (by omega)
   obtain⟨h8,h9⟩:=rd_cells h6
   obtain⟨y,hy1,hy2⟩:=hel _ _ _ h7 h8
   refine⟨l++[y],us++cs',by simp[h1],?_,by rw[List.length_append,h3,h8,Nat.succ_mul],fun j u hj=>?_,fun z hz=>?_⟩
   ·rw[List.flatMap_append]
    simpa using h2.append hy1
   ·by_cases hlt:j<k*sz
    ·rw[List.getElem?_append_left (by omega)]at hj
     exact h4 j u hj
    ·rw[List.getElem?_append_right (by omega),h3]at hj
     have hj':=(List.getElem?_eq_some_iff.1 hj).1
     have:=h9 (j-k*sz) (by omega)
     rw[hj,Addr.add_lit,Addr.add_lit]at this
     rw[←this]
     congr 2;omega
   ·rcases List.mem_append.1 hz with h|h
    ·exact h5 z h
    ·rw[List.mem_singleton.1 h];exact hy2
 obtain⟨l,us,h1,h2,h3,h4,h5⟩:=main len (Nat.le_refl _)
 refine⟨l,_,rfl,?_,rfl,by omega,h5⟩
 rw[h1]
 exact .list len _ .no b o m us hlc h2.1 (fun j u hj=>h4 j u hj) h2.2.1 h2.2.2 trivial (fun k _ hk=>by cases hk) (fun _ hn=>absurd rfl hn)
theorem rd_str{fuel:Nat}{cs:List Value}{x:DataW H×List MemPlace}(h:DataW.trod enc Tryz.prog w base (fun _=>true) held fuel 9 cs=some x):∃ a:List UInt8,Rs (ghOf w) [S a] cs∧a.length≤maxLen:=by
 obtain⟨s,rfl,_,hs⟩:=DataW.trod_string (by kernel_rfl) h
 refine⟨s.data.toList,⟨rfl,fun j p u hp hu=>?_,fun u hu=>?_⟩,by rw[Array.length_toList];exact hs⟩
 ·cases j with
  |zero=>simp at hp hu;subst hp hu;exact .str s
  |succ j=>simp at hp
 ·simp at hu;subst hu;rfl
theorem rd_int{t:Nat}(ht:Tryz.prog.underlying t=some (.int .i64)){fuel:Nat}{cs:List Value}{x:DataW H×List MemPlace}(h:DataW.trod enc Tryz.prog w base (fun _=>true) held fuel t cs=some x):∃ n:Int,Rs (ghOf w) [I n] cs:=by
 obtain⟨n,rfl,_,hs⟩:=DataW.trod_int ht h
 refine⟨n,⟨rfl,fun j p u hp hu=>?_,fun u hu=>?_⟩⟩
 ·cases j with
  |zero=>simp at hp hu;subst hp hu;exact .int _ _
  |succ j=>simp at hp
 ·simp at hu;subst hu;rfl
def OkTx(l:List (List UInt8)):Prop:=l.length≤maxLen∧∀ t∈l,t.length≤maxLen
def OkFs(l:List Fd):Prop:=l.length≤maxLen∧∀ f∈l,f.1.length≤maxLen∧f.2.length≤maxLen
theorem Rs_one{G:Gh}{p:PV}{v:Value}(h:R G p v)(h1:v.oneCell'=true):Rs G [p] [v]:=by
 refine⟨rfl,fun j p u hp hu=>?_,fun u hu=>?_⟩
 ·cases j with
  |zero=>simp at hp hu;subst hp hu;exact h
  |succ j=>simp at hp
 ·simp at hu;subst hu;exact h1
theorem flat_one:∀ l:List (List UInt8),l.flatMap (fun a=>[S a])=l.map S
 | []=>rfl
 |a::l=>by rw[List.flatMap_cons,List.map_cons,flat_one l,List.singleton_append]
theorem rd_texts{fuel:Nat}{cs:List Value}{x:DataW H×List MemPlace}(h:DataW.trod enc Tryz.prog w base (fun _=>true) held fuel 70 cs=some x):∃ l,Rs (ghOf w) [TX l] cs∧OkTx l:=by
 obtain⟨l,v,rfl,h1,h2,h3,h4⟩:=rd_slice (α:=List UInt8) (e:=9) (sz:=1) (by kernel_rfl) (by kernel_rfl) (by decide) (fun a=>[S a]) (fun a=>a.length≤maxLen) (fun _=>rfl) (fun fuel cs x h _=>rd_str h) h
 rw[flat_one]at h1
 exact⟨l,Rs_one h1 h2,h3,h4⟩
theorem two{cs:List Value}(h:cs.length=2):∃ a b,cs=[a,b]:=by
 match cs,h with
 | [a,b],_=>exact⟨a,b,rfl⟩
theorem three{cs:List Value}(h:cs.length=3):∃ a b c,cs=[a,b,c]:=by
 match cs,h with
 | [a,b,c],_=>exact⟨a,b,c,rfl⟩
theorem five{cs:List Value}(h:cs.length=5):∃ a b c d e,cs=[a,b,c,d,e]:=by
 match cs,h with
 | [a,b,c,d,e],_=>exact⟨a,b,c,d,e,rfl⟩
noncomputable def layOf(t:Nat):List (Nat×Nat):=match Tryz.prog.underlying t with
 |some (.struct fs)=>fs.toList.map fun f=>(f.type,f.offset)
 |_=>[]
theorem rd_struct{t:TypeId}{L:List (Nat×Nat)}(hL:layOf t=L)(h0:L≠ []){fuel:Nat}{cs:List Value}{x:DataW H×List MemPlace}(h:DataW.trod enc Tryz.prog w base (fun _=>true) held fuel t cs=some x):
  ∃ n,∀ (i:Nat) q,L[i]? =some q→∃ y,DataW.trod enc Tryz.prog w base (fun _=>true) held n q.1 ((cs.drop q.2).take (Tryz.prog.cellsOf q.1))=some y:=by
 unfold layOf at hL
 split at hL
 ·rename_i fs hfs
  obtain⟨xs,n,_,_,_,hl,hf⟩:=DataW.trod_struct hfs h
  refine⟨n,fun i q hi=>?_⟩
  rw[←hL,List.getElem?_map,Option.map_eq_some_iff]at hi
  obtain⟨f,hi,rfl⟩:=hi
  rw[Array.getElem?_toList]at hi
  have:=hf i f hi
  have hlt:i<xs.length:=by rw[hl];exact(Array.getElem?_eq_some_iff.1 hi).1
  rw[List.getElem?_eq_getElem hlt]at this
  exact⟨_,this⟩
 ·exact absurd hL.symm h0
theorem c9:Tryz.prog.cellsOf 9=1:=by kernel_rfl
theorem c2:Tryz.prog.cellsOf 2=1:=by kernel_rfl
theorem c70:Tryz.prog.cellsOf 70=1:=by kernel_rfl
theorem c102:Tryz.prog.cellsOf 102=1:=by kernel_rfl
theorem c22:Tryz.prog.cellsOf 22=1:=by kernel_rfl
theorem c23:Tryz.prog.cellsOf 23=1:=by kernel_rfl
theorem rd_field{fuel:Nat}{cs:List Value}{x:DataW H×List MemPlace}(h:DataW.trod enc Tryz.prog w base (fun _=>true) held fuel 184 cs=some x)(hl:cs.length=2):∃ f:Fd,Rs (ghOf w) (fc f) cs∧f.1.length≤maxLen∧f.2.length≤maxLen:=by
 obtain⟨n,hf⟩:=rd_struct (L:=[(9,0),(9,1)]) (by kernel_rfl) (by decide) h
 obtain⟨a,b,rfl⟩:=two hl
 obtain⟨y0,h0⟩:=hf 0 _ rfl
 obtain⟨y1,h1⟩:=hf 1 _ rfl
 rw[c9]at h0 h1
 have h0:DataW.trod enc Tryz.prog w base (fun _=>true) held n 9 [a]=some y0:=h0
 have h1:DataW.trod enc Tryz.prog w base (fun _=>true) held n 9 [b]=some y1:=h1
 obtain⟨s0,r0,l0⟩:=rd_str h0
 obtain⟨s1,r1,l1⟩:=rd_str h1
 exact⟨(s0,s1),r0.append r1,l0,l1⟩
theorem rd_fields{fuel:Nat}{cs:List Value}{x:DataW H×List MemPlace}(h:DataW.trod enc Tryz.prog w base (fun _=>true) held fuel 102 cs=some x):∃ l,Rs (ghOf w) [FX l] cs∧OkFs l:=by
 obtain⟨l,v,rfl,h1,h2,h3,h4⟩:=rd_slice (α:=Fd) (e:=184) (sz:=2) (by kernel_rfl) (by kernel_rfl) (by decide) fc (fun f=>f.1.length≤maxLen∧f.2.length≤maxLen) fc_len (fun fuel cs x h hl=>rd_field h hl) h
 exact⟨l,Rs_one h1 h2,h3,h4⟩
theorem rd_node{fuel:Nat}{cs:List Value}{x:DataW H×List MemPlace}(h:DataW.trod enc Tryz.prog w base (fun _=>true) held fuel 104 cs=some x)(hl:cs.length=3):∃ y:Nd,Rs (ghOf w) (nc y) cs∧OkTx y.labels∧OkFs y.fields:=by
 obtain⟨n,hf⟩:=rd_struct (L:=[(2,0),(70,1),(102,2)]) (by kernel_rfl) (by decide) h
 obtain⟨a,b,c,rfl⟩:=three hl
 obtain⟨y0,h0⟩:=hf 0 _ rfl
 obtain⟨y1,h1⟩:=hf 1 _ rfl
 obtain⟨y2,h2⟩:=hf 2 _ rfl
 rw[c2]at h0
 rw[c70]at h1
 rw[c102]at h2
 have h0:DataW.trod enc Tryz.prog w base (fun _=>true) held n 2 [a]=some y0:=h0
 have h1:DataW.trod enc Tryz.prog w base (fun _=>true) held n 70 [b]=some y1:=h1
 have h2:DataW.trod enc Tryz.prog w base (fun _=>true) held n 102 [c]=some y2:=h2
 obtain⟨i,r0⟩:=rd_int (by kernel_rfl) h0
 obtain⟨ls,r1,l1⟩:=rd_texts h1
 obtain⟨fs,r2,l2⟩:=rd_fields h2
 exact⟨⟨i,ls,fs⟩,(r0.append r1).append r2,l1,l2⟩
theorem rd_edge{fuel:Nat}{cs:List Value}{x:DataW H×List MemPlace}(h:DataW.trod enc Tryz.prog w base (fun _=>true) held fuel 106 cs=some x)(hl:cs.length=5):∃ y:Eg,Rs (ghOf w) (ec y) cs∧y.type.length≤maxLen∧OkFs y.fields:=by
 obtain⟨n,hf⟩:=rd_struct (L:=[(2,0),(9,1),(2,2),(2,3),(102,4)]) (by kernel_rfl) (by decide) h
 obtain⟨a,b,c,d,e,rfl⟩:=five hl
 obtain⟨y0,h0⟩:=hf 0 _ rfl
 obtain⟨y1,h1⟩:=hf 1 _ rfl
 obtain⟨y2,h2⟩:=hf 2 _ rfl
 obtain⟨y3,h3⟩:=hf 3 _ rfl
 obtain⟨y4,h4⟩:=hf 4 _ rfl
 rw[c2]at h0 h2 h3
 rw[c9]at h1
 rw[c102]at h4
 have h0:DataW.trod enc Tryz.prog w base (fun _=>true) held n 2 [a]=some y0:=h0
 have h1:DataW.trod enc Tryz.prog w base (fun _=>true) held n 9 [b]=some y1:=h1
 have h2:DataW.trod enc Tryz.prog w base (fun _=>true) held n 2 [c]=some y2:=h2
 have h3:DataW.trod enc Tryz.prog w base (fun _=>true) held n 2 [d]=some y3:=h3
 have h4:DataW.trod enc Tryz.prog w base (fun _=>true) held n 102 [e]=some y4:=h4
 obtain⟨i,r0⟩:=rd_int (by kernel_rfl) h0
 obtain⟨t,r1,l1⟩:=rd_str h1
 obtain⟨f,r2⟩:=rd_int (by kernel_rfl) h2
 obtain⟨g,r3⟩:=rd_int (by kernel_rfl) h3
 obtain⟨fs,r4,l4⟩:=rd_fields h4
 exact⟨⟨i,t,f,g,fs⟩,((((r0.append r1).append r2).append r3).append r4),l1,l4⟩
structure OkG (g:Gph):Prop where
 ns:g.nodes.length≤maxLen
 es:g.edges.length≤maxLen
 n:∀ x∈g.nodes,OkTx x.labels∧OkFs x.fields
 e:∀ x∈g.edges,x.type.length≤maxLen∧OkFs x.fields
theorem rd_graph{fuel:Nat}{cs:List Value}{x:DataW H×List MemPlace}(h:DataW.trod enc Tryz.prog w base (fun _=>true) held fuel 25 cs=some x)(hl:cs.length=2):∃ g:Gph,Rs (ghOf w) (gc g) cs∧OkG g:=by
 obtain⟨n,hf⟩:=rd_struct (L:=[(22,0),(23,1)]) (by kernel_rfl) (by decide) h
 obtain⟨a,b,rfl⟩:=two hl
 obtain⟨y0,h0⟩:=hf 0 _ rfl
 obtain⟨y1,h1⟩:=hf 1 _ rfl
 rw[c22]at h0
 rw[c23]at h1
 obtain⟨ns,v0,e0,r0,o0,l0,k0⟩:=rd_slice (α:=Nd) (e:=104) (sz:=3) (by kernel_rfl) (by kernel_rfl) (by decide) nc (fun y=>OkTx y.labels∧OkFs y.fields) nc_len (fun fuel cs x h hl=>rd_node h hl) h0
 obtain⟨es,v1,e1,r1,o1,l1,k1⟩:=rd_slice (α:=Eg) (e:=106) (sz:=5) (by kernel_rfl) (by kernel_rfl) (by decide) ec (fun y=>y.type.length≤maxLen∧OkFs y.fields) ec_len (fun fuel cs x h hl=>rd_edge h hl) h1
 simp only[List.drop_zero,List.take_succ_cons,List.take_zero,List.drop_succ_cons]at e0 e1
 cases e0;cases e1
 exact⟨⟨ns,es⟩,(Rs_one r0 o0).append (Rs_one r1 o1),l0,l1,k0,k1⟩
end
end Go.PM
namespace Go.PM
open Go Go.Proofs Go.Proofs.YtdpamjikmlbmhaaGreatDoor Go.ChangeShapes Go.WideShapes Go.RowKit Go.Lib
def laidL:List (String×DataW Unit):=[("math/bits.deBruijn32tab",Rows.laid_math_bits_deBruijn32tab),("math/bits.deBruijn64tab",Rows.laid_math_bits_deBruijn64tab),("internal/strconv.uint64pow10",Rows.laid_internal_strconv_uint64pow10),("strconv.ErrRange",Rows.laid_strconv_ErrRange),("strconv.ErrSyntax",Rows.laid_strconv_ErrSyntax)]
section
variable {W:World}
theorem shaped_row(hsh:W.ShapedOpen Tryz.prog){g:Nat}(hg:g<Tryz.prog.globals.size)(h:(((begin Tryz.prog (fun _ _=>0) default).world.heap[g]?).bind Obj.row?).isSome=true):∃ cs t,W.heap[g]? =some (.cells cs t (0,0)):=by
 obtain⟨x,hx⟩:=Option.isSome_iff_exists.1 h
 obtain⟨cs,h1,_⟩:=hsh.1 g x.1 x.2 hg hx
 exact⟨cs,x.2,h1⟩
theorem var_row{n:String}{g:Nat}(hn:Tryz.prog.globalNamed n=some g){cs:Array Value}(hv:W.var? Tryz.prog n=some cs){c:Array Value}{t:TypeId}{f:Nat×Nat}(hh:W.heap[g]? =some (.cells c t f)):W.heap[g]? =some (.cells cs t f):=by
 unfold World.var? at hv
 rw[hn]at hv
 simp only[Option.bind_some,hh]at hv
 cases hv
 exact hh
theorem powTab(hL:laidMet Tryz.prog laidL W):TabIs Tryz.prog W "internal/strconv.uint64pow10" .u64 pow10Tab:=
 tabIs_of_head (t:=232) (e:=170) (n:=20) g_pow (by kernel_rfl) (by kernel_rfl) (by kernel_rfl) (by kernel_rfl) (by kernel_rfl) (rest:=[("strconv.ErrRange",Rows.laid_strconv_ErrRange),("strconv.ErrSyntax",Rows.laid_strconv_ErrSyntax)]) hL.tail.tail
theorem sentinelRow(u:TypeId)(h:Tryz.prog.typeName? 3 u=some "*errors.errorString"):u=270:=
 typeName_ptr_named (nm:= "errors.errorString") (by rw[show "*" ++ "errors.errorString" = "*errors.errorString" by decide];kernel_rfl) (by kernel_rfl) (by decide) u (by rw[show "*" ++ "errors.errorString" = "*errors.errorString" by decide];exact h)
theorem oneField{fs:Array Field}{t o:Nat}(h:(fs.toList.map fun f=>(f.type,f.offset))=[(t,o)]):∃ f,fs= #[f]∧f.type=t∧f.offset=o:=by
 obtain⟨l⟩:=fs
 match l,h with
 | [f],h=>
  simp only[List.map_cons,List.map_nil,List.cons.injEq,Prod.mk.injEq,and_true]at h
  exact⟨f,rfl,h.1,h.2⟩
theorem sentinelVar{n:String}{text:List UInt8}{r:List (String×DataW Unit)}{g:Nat}(h:laidMet Tryz.prog ((n,.iface "*errors.errorString" (.ptr (.agg [.lit (.string text)])))::r) W)
  (hg:Tryz.prog.globalNamed n=some g) (ht:(Tryz.prog.globals[g]?).map (·.type)=some 251):∃ a:Addr,W.var? Tryz.prog n=some #[.iface 270 (.pointer (some a))]:=by
 obtain⟨fs,hfs⟩:∃ f,Tryz.prog.underlying 272=some (.struct #[f])∧f.type=9∧f.offset=0:=by
  have h1:layOf 272=[(9,0)]:=by kernel_rfl
  unfold layOf at h1
  split at h1
  ·rename_i fs hfs
   obtain⟨f,rfl,h2,h3⟩:=oneField h1
   exact⟨f,hfs,h2,h3⟩
  ·cases h1
 obtain⟨a,s,h1,_⟩:=laid_sentinel h hg ht Tryz.underlying251 sentinelRow (show Tryz.prog.underlying 270=some (.pointer 272) by kernel_rfl) hfs.1 hfs.2.1 hfs.2.2 (by kernel_rfl) (by kernel_rfl) (by kernel_rfl)
 exact⟨a,h1⟩
theorem startInv(hL:laidMetH Tryz.prog laidL W)(hsh:W.ShapedOpen Tryz.prog):∃ pS pR,Inv Tryz.prog (baseB (.iface 270 pS) (.iface 270 pR)) (ghOf W) (stB [] []) W:=by
 have hL0:laidMet Tryz.prog laidL W:=hL
 have ht:=powTab hL0
 obtain⟨aR,hR⟩:=sentinelVar (r:=[("strconv.ErrSyntax",Rows.laid_strconv_ErrSyntax)]) (show laidMet Tryz.prog (("strconv.ErrRange",Rows.laid_strconv_ErrRange)::_) W from hL0.tail.tail.tail) g_ran (by kernel_rfl)
 obtain⟨aS,hS⟩:=sentinelVar (r:=[]) (show laidMet Tryz.prog (("strconv.ErrSyntax",Rows.laid_strconv_ErrSyntax)::_) W from hL0.tail.tail.tail.tail) g_syn (by kernel_rfl)
 obtain⟨c0,t0,h0⟩:=shaped_row hsh (g:=0) (of_decide_eq_true (by kernel_rfl)) (by kernel_rfl)
 obtain⟨c3,t3,h3⟩:=shaped_row hsh (g:=3) (of_decide_eq_true (by kernel_rfl)) (by kernel_rfl)
 obtain⟨c4,t4,h4⟩:=shaped_row hsh (g:=4) (of_decide_eq_true (by kernel_rfl)) (by kernel_rfl)
 have k0:=var_row g_pow ht h0
 have k3:=var_row g_syn hS h3
 have k4:=var_row g_ran hR h4
 have whole:∀ {b:Nat} {l:List Value} {t:TypeId},W.heap[b]? =some (.cells l.toArray t (0,0))→(∀ o,baseB (.iface 270 (.pointer (some aS))) (.iface 270 (.pointer (some aR))) b o=l[o]?)→∀ o v,baseB (.iface 270 (.pointer (some aS))) (.iface 270 (.pointer (some aR))) b o=some v→
   (ghOf W).com b o=some v∧(ghOf W).pv b=none∧Whole (baseB (.iface 270 (.pointer (some aS))) (.iface 270 (.pointer (some aR)))) b ((ghOf W).sh b):=by
  intro b l t hb hl o v hv
  refine⟨?_,rfl,(t,l.length),?_,fun o ho=>?_⟩
  ·rw[hl]at hv
   show W.cell? ⟨b,o,none⟩=some v
   simp only[World.cell?,hb,Option.isSome_none,Bool.false_eq_true,if_false,List.getElem?_toArray]
   exact hv
  ·simp only[ghOf,hb,List.size_toArray]
  ·rw[hl,List.getElem?_eq_getElem ho]
   exact fun h=>by cases h
 refine⟨.pointer (some aS),.pointer (some aR),?_⟩
 have nf:∀ {α:Type} {x:α},(none:Option α)=some x→False:=fun h=>by cases h
 refine⟨fun b o v h=>h,fun b e k h=>ghOf_sh h,rfl,fun t x h=>(nf h).elim,fun t h=>absurd h (Nat.not_lt_zero _),fun t r h=>(nf h).elim,fun t u r q h=>(nf h).elim,fun t r h=>(nf h).elim,fun s cs h=>(nf h).elim,
  fun s b h=>(nf h).elim,fun s u b h=>(nf h).elim,fun _ _=>rfl,fun s cs h=>(nf h).elim,fun b k h=>(nf h).elim,fun b h=>Bool.noConfusion h,fun b o v h=>?_,fun s b e sz h=>(nf h).elim,fun s es h=>(nf h).elim,fun s b h=>(nf h).elim,
  fun s u b h=>(nf h).elim,fun _ _=>rfl,fun s b h=>(nf h).elim,fun t m h=>(nf h).elim⟩
 by_cases b0:b=0
 ·subst b0
  exact whole k0 (fun o=>by unfold baseB;rw[if_pos rfl]) o v h
 ·by_cases b3:b=3
  ·subst b3
   exact whole (l:=[.iface 270 (.pointer (some aS))]) k3 (fun o=>by
    unfold baseB
    rw[if_neg (by decide),if_pos rfl]
    cases o with
    |zero=>rfl
    |succ o=>simp) o v h
  ·by_cases b4:b=4
   ·subst b4
    exact whole (l:=[.iface 270 (.pointer (some aR))]) k4 (fun o=>by
     unfold baseB
     rw[if_neg (by decide),if_neg (by decide),if_pos rfl]
     cases o with
     |zero=>rfl
     |succ o=>simp) o v h
   ·unfold baseB at h
    rw[if_neg b0,if_neg b3,if_neg b4]at h
    cases h
theorem endKept{G':Gh}{W':World}(hS:Step (ghOf W) W G' W'):∀ b,b<W.heap.size→W'.heap[b]? =W.heap[b]? :=fun b hb=>
 hS.kept b hb (fun s h=>by cases h) (fun t r h=>by cases h) (fun s h=>by cases h)
theorem keptBut_old{W':World}(he:W'.os=W.os∧W'.output=W.output)(hb:∀ b,b<W.heap.size→W'.heap[b]? =W.heap[b]?)(may:MemPlace→Prop):W.keptBut W' may:=by
 refine⟨he.1,he.2,fun i hi=>?_⟩
 rw[hb i hi]
 cases h:W.heap[i]? with
 |none=>rfl
 |some o=>cases o<;>first|exact⟨rfl,rfl,rfl,fun _ _=>rfl⟩|exact .inr ⟨rfl,rfl⟩|rfl
theorem sameOld{W':World}(hb:∀ b,b<W.heap.size→W'.heap[b]? =W.heap[b]?){p:MemPlace}(hp:p.block<W.heap.size):W.sameAt W' p:=by
 cases p with
 |cell b o=>exact World.cell?_of_block (w:=W) (hb b hp)
 |map b=>exact hb b hp
theorem TrodAll_stays{H:Type}{enc:TypeId×Value→H}(hl:laidOutB Tryz.prog=true){W':World}(hb:∀ b,b<W.heap.size→W'.heap[b]? =W.heap[b]?):∀ {ts:List TypeId} {vs:List Value} {ds:List (DataW H)} {ps:List MemPlace},
  (∀ t∈ts,Tryz.prog.readableRec t=true∧t<Tryz.prog.types.size)→(∀ p∈ps,p.block<W.heap.size)→DataW.TrodAll enc Tryz.prog W 0 (fun _=>true) true ts vs ds ps→DataW.TrodAll enc Tryz.prog W' 0 (fun b=>decide (b<W.heap.size)) true ts vs ds ps
 | [],[],[],_,_,_,h=>h
 |t::ts,v::vs,d::ds,ps,ht,hp,h=>by
  obtain⟨p,q,h1,h2,rfl⟩:=h
  exact⟨p,q,WideElems.Trod_stays hl (ht t List.mem_cons_self).1 (ht t List.mem_cons_self).2 h1 (fun x hx=>sameOld hb (hp x (List.mem_append_left _ hx))) (fun x hx=>by simpa using hp x (List.mem_append_left _ hx)),
   TrodAll_stays hl hb (fun t h=>ht t (List.mem_cons_of_mem _ h)) (fun x hx=>hp x (List.mem_append_right _ hx)) h2,rfl⟩
theorem laidOut:laidOutB Tryz.prog=true:=by kernel_rfl
end
end Go.PM
namespace Go.PM
open Go.Lib
variable {cf:CallF} {st:St} {mk:PV→St→Fr×St} {A:Fr×St→Prop} {s:Nat}
theorem pmcut:
  (∀ {cf:CallF} {fr:Fr} {st:St} {d:Option Nat} {e sz b:Nat} {x y:CX},runOp cf fr st d (.apc e sz b x y)=apcV e sz b (x.ev fr) (y.ev fr) st)∧
  (∀ {cf:CallF} {fr:Fr} {st:St} {d:Option Nat} {e sz b:Nat} {x y:CX},killF cf (.apc e sz b x y) d st fr=killA (cutJ (x.ev fr) (y.ev fr) st) fr)∧
  (∀ {fr:Fr} {e sz b:Nat} {x y:CX},keysAt fr (.apc e sz b x y)=[])∧
  (∀ {J:List Nat} {fr:Fr} {t:Nat},killA J fr t=killT J (fr t))∧
  (∀ {e sz b n e':Nat} {cs:List PV} {y:PV} {st:St},apcV e sz b (.list n cs (.full e')) y st=appP e sz b (.list n cs (.full e')) y st)∧
  (∀ {n e':Nat} {cs:List PV} {y:PV} {st:St},cutJ (.list n cs (.full e')) y st=[])∧
  (∀ {e sz b n k e':Nat} {cs:List PV} {y:PV} {st:St},apcV e sz b (.list n cs (.own k e')) y st=appP e sz b (.list n cs (.own k e')) y st)∧
  (∀ {n k e':Nat} {cs:List PV} {y:PV} {st:St},cutJ (.list n cs (.own k e')) y st=[])∧
  (∀ {p:PV},killT [] p=p):=
 ⟨rfl,rfl,rfl,rfl,rfl,rfl,rfl,rfl,killT_nil _⟩
theorem slcP_pre{sz n k:Nat}{cs:List PV}{t:Tok}(h:cs.length=n*sz)(hk:k≤n):slcP sz (.list n cs t) none (some (I k)) st=some (.list k (cs.take (k*sz)) (t.cut true n k),st):=by
 simp[slcP,boundP,h,hk]
theorem slcP_suf{sz n k:Nat}{cs:List PV}{t:Tok}(h:cs.length=n*sz)(hk:k≤n):slcP sz (.list n cs t) (some (I k)) none st=some (.list (n-k) (cs.drop (k*sz)) t.der,st):=by
 have e2:(cs.drop (k*sz)).take ((n-k) *sz)=cs.drop (k*sz):=List.take_of_length_le (by rw[List.length_drop,h,Nat.sub_mul];exact Nat.le_refl _)
 have b1:boundP (I k) n=some k:=by simp[boundP,hk]
 simp only[slcP,b1,h,if_true,e2,Option.isNone_some,Tok.cut,Bool.false_eq_true,if_false]
theorem cut_no'{n k:Nat}:Tok.cut true n k .no= .no:=by unfold Tok.cut;split<;>(try split)<;>rfl
theorem der_no':Tok.der .no= .no:=rfl
theorem take_map_S(l:List (List UInt8))(k:Nat):(l.map S).take (k*1)=(l.take k).map S:=by rw[Nat.mul_one,List.map_take]
theorem drop_map_S(l:List (List UInt8))(k:Nat):(l.map S).drop (k*1)=(l.drop k).map S:=by rw[Nat.mul_one,List.map_drop]
set_option maxHeartbeats 2000000 in
theorem c_insT(K:Env cf)(l:List (List UInt8))(x:List UInt8)(hl:l.length≤2000000):∃ r,r=TX (insT x l)∧∃ fl,callP cf 133 [TX l,S x] [] st=some (r,setF st fl):=by
 refine c_valE K.tab (F:=F133) (Q:=fun r=>r=TX (insT x l)) rfl rfl rfl (lb rfl) (by simp[plainV_tx,plainV_str]) (l.length+1) ?_
 have hm:(l.map S).length=l.length:=by simp
 have hmk:=fun st=> @mk0P_ok 9 1 16 ((l.length+1:Nat):Int) st (by omega) (by omega) (by omega) (by decide)
 unfold F133 qr qd qm qi qc qb qk qo qN
 simp (disch:=omega)only[↓pa]
 refine Wp_rounds (fun q fr st=>∃ i:Nat,q=l.length-i∧i≤l.length∧fr 0=TX l∧fr 1=S x∧fr 5=I i∧∀ j (h:j<l.length),j<i→sLt l[j] x=true) l.length (by omega) ⟨0,by simp,by omega,by simp (disch:=omega)only[↓pa,↓reduceIte,reduceCtorEq],by simp (disch:=omega)only[↓pa,↓reduceIte,Nat.reduceEqDiff],by simp (disch:=omega)only[↓pa,↓reduceIte];rfl,fun j h hj=>by omega⟩ ?_
 rintro q fr st ⟨i,rfl,hi,f0,f1,f5,hall⟩
 have hp:=fun st=> @slcP_pre st 1 l.length i (l.map S) .no (by simp) hi
 have hq:=fun st=> @slcP_suf st 1 l.length i (l.map S) .no (by simp) hi
 simp (disch:=omega)only[↓pa,pb,natP,↓reduceIte,Nat.reduceEqDiff,reduceCtorEq,f0,f5]
 refine Cnd_intro (fun h1=>?_) (fun h1=>?_)
 ·have hlt:i<l.length:=h1
  have ta:tAt l i=l[i]:=by simp[tAt,hlt]
  simp (disch:=omega)only[↓pa,pb,↓reduceIte,Nat.reduceEqDiff,reduceCtorEq,f0,f1,f5,h1,Nat.mul_one,partP_tx hlt,ta]
  refine Cnd_intro (fun h2=>?_) (fun h2=>?_)
  ·simp (disch:=omega)only[↓pa,pb,natP,↓reduceIte,Nat.reduceEqDiff,reduceCtorEq,f0,f1,f5,h2]
   exact⟨l.length- (i+1),by omega,i+1,rfl,by omega,rfl,fun j h hj=>by
    by_cases e:j=i
    ·subst e;exact h2
    ·exact hall j h (by omega)⟩
  ·have h2:sLt l[i] x=false:=by simpa using h2
   obtain⟨g1,g2⟩:=insT_left hi hall (fun _=>h2)
   simp (disch:=omega)only[↓pa,pb,natP,↓reduceIte,Nat.reduceEqDiff,reduceCtorEq,f0,f1,f5,h1,h2,Nat.mul_one,partP_tx hlt,ta]
   refine Cnd_intro (fun h3=>?_) (fun h3=>?_)
   ·simp (disch:=omega)only[↓pa,pb,pmz,pmV,↓reduceIte,reduceCtorEq,f0,h3]
    rw[g1 hlt h3]
   ·have he:=g2 fun _=>h3
    have hG:Gr 9 (st.more [0]).nx (st.more [0]).cnt 0 (.own st.nx 9):=⟨by simp[St.more],by simp[St.more],rfl⟩
    simp (disch:=omega)only[↓pa,↓pmx,pb,natP,↓reduceIte,Nat.reduceEqDiff,reduceCtorEq,pmj,f0,f5,h3,hmk,hp,cut_no',take_map_S]
    refine RunsTo_app hG rfl (by simp;omega) (by omega) (by omega) (by decide) ?_
    simp (disch:=omega)only[↓pa,↓pmx,pb,pmy,↓reduceIte,Nat.reduceEqDiff,Nat.reduceAdd,Nat.reduceLeDiff,Nat.reduceLT,f1]
    refine RunsTo_app (Gr_app hG) (by simp;omega) rfl (by omega) (by omega) (by decide) ?_
    simp (disch:=omega)only[↓pa,↓pmx,↓reduceIte,Nat.reduceEqDiff,reduceCtorEq,f0,f5,hq,der_no',drop_map_S]
    refine RunsTo_app (Gr_app (Gr_app hG)) (by simp;omega) (by simp) (by omega) (by omega) (by decide) ?_
    have hc:((l.take i).map S++[PV.str ⟨x.toArray⟩])++(l.drop i).map S=(l.take i++x::l.drop i).map S:=by simp
    have hp2:=plainV_tx (l.take i++x::l.drop i)
    have e1:0+i+1+(l.length-i)=(l.take i++x::l.drop i).length:=by simp;omega
    rw[hc,e1]
    simp (disch:=omega)only[↓pa,pb,pmz,pmV,↓reduceIte,he]
 ·obtain⟨g1,g2⟩:=insT_left hi hall (fun h=>absurd h (by omega))
  have he:=g2 fun h=>absurd h (by omega)
  have h3:=h1
  have hG:Gr 9 (st.more [0]).nx (st.more [0]).cnt 0 (.own st.nx 9):=⟨by simp[St.more],by simp[St.more],rfl⟩
  simp (disch:=omega)only[↓pa,↓pmx,pb,natP,↓reduceIte,Nat.reduceEqDiff,reduceCtorEq,pmj,f0,f5,h1,hmk,hp,cut_no',take_map_S]
  refine RunsTo_app hG rfl (by simp;omega) (by omega) (by omega) (by decide) ?_
  simp (disch:=omega)only[↓pa,↓pmx,pb,pmy,↓reduceIte,Nat.reduceEqDiff,Nat.reduceAdd,Nat.reduceLeDiff,Nat.reduceLT,f1]
  refine RunsTo_app (Gr_app hG) (by simp;omega) rfl (by omega) (by omega) (by decide) ?_
  simp (disch:=omega)only[↓pa,↓pmx,↓reduceIte,Nat.reduceEqDiff,reduceCtorEq,f0,f5,hq,der_no',drop_map_S]
  refine RunsTo_app (Gr_app (Gr_app hG)) (by simp;omega) (by simp) (by omega) (by omega) (by decide) ?_
  have hc:((l.take i).map S++[PV.str ⟨x.toArray⟩])++(l.drop i).map S=(l.take i++x::l.drop i).map S:=by simp
  have hp2:=plainV_tx (l.take i++x::l.drop i)
  have e1:0+i+1+(l.length-i)=(l.take i++x::l.drop i).length:=by simp;omega
  rw[hc,e1]
  simp (disch:=omega)only[↓pa,pb,pmz,pmV,↓reduceIte,he]
def nf(l:List (List UInt8)):List Fd:=l.map fun n=>(n,[])
theorem nf_len(l:List (List UInt8)):(nf l).length=l.length:=by simp[nf]
theorem nf_at{l:List (List UInt8)}{j:Nat}(h:j<l.length):partP ((nf l).flatMap fc) (j*2) 1 false=some (S l[j]):=by
 rw[partP_fn (by rw[nf_len];exact h)];simp[nf]
theorem nf_whole{l:List (List UInt8)}{j:Nat}(h:j<l.length):partP ((nf l).flatMap fc) (j*2) 2 true=some (.agg [S l[j],S []]):=by
 rw[partP_fs (by rw[nf_len];exact h)];simp[nf]
theorem nf_flen(l:List (List UInt8)):((nf l).flatMap fc).length=l.length*2:=by rw[fs_len,nf_len]
theorem nf_append(a b:List (List UInt8)):(nf (a++b)).flatMap fc=(nf a).flatMap fc++(nf b).flatMap fc:=by simp[nf,List.flatMap_append]
theorem nf_take(l:List (List UInt8))(k:Nat):((nf l).flatMap fc).take (k*2)=(nf (l.take k)).flatMap fc:=by
 conv=>lhs;rw[←List.take_append_drop k l,nf_append]
 by_cases h:k≤l.length
 ·rw[List.take_left' (by rw[nf_flen,List.length_take];congr 1;omega)]
 ·rw[←nf_append,List.take_append_drop,List.take_of_length_le (by rw[nf_flen];omega),List.take_of_length_le (by omega:l.length≤k)]
theorem nf_drop(l:List (List UInt8))(k:Nat)(h:k≤l.length):((nf l).flatMap fc).drop (k*2)=(nf (l.drop k)).flatMap fc:=by
 conv=>lhs;rw[←List.take_append_drop k l,nf_append]
 rw[List.drop_left' (by rw[nf_flen,List.length_take];congr 1;omega)]
theorem nf_one(x:List UInt8):(nf [x]).flatMap fc=[S x,S []]:=rfl
theorem nf_plain(l:List (List UInt8)):plainVs ((nf l).flatMap fc):=fs_plain _
theorem apcV_cut{e sz b n c j:Nat}{cs:List PV}{y:PV}(hc:0<c)(hj:j<st.nx)(hcnt:st.cnt j=c)(hfl:st.fl≤j)(h1:tfs ([j].contains ·) cs=true)(h2:tf ([j].contains ·) y=true):
  apcV e sz b (.list n cs (.el j e c)) y st=appP e sz b (.list n cs (.own st.nx e)) y (cutSt st j n)∧cutJ (.list n cs (.el j e c)) y st=[j]:=by
 have h:cutJ (.list n cs (.el j e c)) y st=[j]:=by simp only[cutJ];rw[if_pos ⟨hc,hj,hcnt,hfl,h1,h2⟩]
 refine⟨?_,h⟩
 simp only[apcV,h];rfl
theorem tfs_pl{J:List Nat}{cs:List PV}(h:plainVs cs):tfs (J.contains ·) cs=true:=by
 have:=tfs_strips (J.contains ·) cs
 rwa [h.2.1]at this
set_option maxHeartbeats 4000000 in
theorem c_sorted(K:Env cf)(l:List (List UInt8))(hn:l.Nodup)(hl:l.length≤2000000):∃ r,r=FX (nf (sortT l))∧∃ fl,callP cf 132 [FX (nf l)] [] st=some (r,setF st fl):=by
 refine c_valE K.tab (F:=F132) (Q:=fun r=>r=FX (nf (sortT l))) rfl rfl rfl (lb rfl) (by simp[plainV_FX]) (l.length+2) ?_
 have hm:=nf_flen l
 have hm2:=nf_len l
 unfold F132 qr qd qm qi qc qb qk ql qo qN
 simp (disch:=omega)only[↓pa,↓pmx,pb,pmy,↓reduceIte,Nat.reduceAdd,Nat.reduceLT,List.replicate_zero,List.flatten_nil]
 refine Wp_rounds (fun q fr st=>∃ (i:Nat) (tok:Tok),q=l.length-i∧i≤l.length∧fr 3= .list (sortT (l.take i)).length ((nf (sortT (l.take i))).flatMap fc) tok∧fr 0=FX (nf l)∧fr 4=I i∧((tok= .full 133∧sortT (l.take i)=[])∨∃ j,tok= .own j 133∧j<st.nx∧st.cnt j=(sortT (l.take i)).length)∧st.fl=0) l.length (by omega)
  ⟨0,.full 133,by simp,by omega,by simp (disch:=omega)only[↓pa,↓reduceIte,Nat.reduceEqDiff];rfl,by simp (disch:=omega)only[↓pa,↓reduceIte,reduceCtorEq],by simp (disch:=omega)only[↓pa,↓reduceIte];rfl,.inl ⟨rfl,rfl⟩,rfl⟩ ?_
 rintro q fr st ⟨i,tok,rfl,hi,f3,f0,f4,hG,hfl⟩
 have holen:=sortT_len (l.take i)
 rw[List.length_take]at holen
 simp (disch:=omega)only[↓pa,pb,natP,↓reduceIte,Nat.reduceEqDiff,reduceCtorEq,f0,f4,nf_len]
 refine Cnd_intro (fun h1=>?_) (fun h1=>?_)
 rotate_left
 ·have hie:l.take i=l:=List.take_of_length_le (by omega)
  rw[hie]at f3
  simp (disch:=omega)only[↓pa,pb,pmz,↓reduceIte,Nat.reduceEqDiff,f3,h1,pmF]
  rw[FX,nf_len]
 have hlt:i<l.length:=by omega
 have ho:inOrder (sortT (l.take i)):=sortT_order _
 have hnext:sortT (l.take (i+1))=insT l[i] (sortT (l.take i)):=by rw[List.take_succ_eq_append_getElem hlt,sortT_snoc]
 have hxo:l[i]∉sortT (l.take i):=by
  rw[mem_sortT]
  intro h
  obtain⟨j,hj,he⟩:=List.getElem_of_mem h
  rw[List.length_take]at hj
  rw[List.getElem_take]at he
  have hp:=List.pairwise_iff_getElem.1 hn j i (by omega) hlt (by omega)
  exact hp he
 generalize hod:sortT (l.take i)=o at*
 simp (disch:=omega)only[↓pa,pb,↓reduceIte,Nat.reduceEqDiff,f3,h1]
 have hmo:=nf_flen o
 have hpos:∀ (k:Nat),k≤o.length→(((k:Int) -1).toNat)=k-1:=fun k _=>by omega
 refine Wp_rounds (fun k fr st=>k≤o.length∧fr 0=FX (nf l)∧fr 3= .list o.length ((nf o).flatMap fc) tok∧fr 4=I i∧fr 5=I k∧(∀ j (h:j<o.length),k≤j→sLt l[i] o[j]=true)∧((tok= .full 133∧o=[])∨∃ j,tok= .own j 133∧j<st.nx∧st.cnt j=o.length)∧st.fl=0) o.length (by omega)
  ⟨Nat.le_refl _,by simp (disch:=omega)only[↓pa,↓reduceIte,reduceCtorEq,f0],by simp (disch:=omega)only[↓pa,↓reduceIte,Nat.reduceEqDiff,f3],by simp (disch:=omega)only[↓pa,↓reduceIte,Nat.reduceEqDiff,f4],by simp (disch:=omega)only[↓pa,↓reduceIte],fun j h hj=>by omega,hG,hfl⟩ ?_
 clear f0 f3 f4 hG hfl
 rintro k fr st ⟨hk,f0,f3,f4,f5,hgt,hG,hfl⟩
 simp (disch:=omega)only[↓pa,pb,↓reduceIte,f5]
 refine Cnd_intro (fun h2=>?_) (fun h2=>?_)
 rotate_left
 ·have hend:k=0∨∃ h:k-1<o.length,sLt l[i] o[k-1]=false:= .inl (by omega)
  simp (maxSteps:=1000000) (disch:=omega)only[↓pa,↓pmx,pb,pmy,↓reduceIte,Nat.reduceEqDiff,Nat.reduceAdd,Nat.reduceLT,f3,f5,h2]
  have hp:=fun st=> @slcP_pre st 2 o.length k ((nf o).flatMap fc) tok (nf_flen o) hk
  have hq:=fun st=> @slcP_suf st 2 o.length k ((nf o).flatMap fc) tok (nf_flen o) hk
  have hins:=insT_right ho hxo hk hgt hend
  have hins2:k+1+(0+(o.length-k))=(o.take k++l[i]::o.drop k).length:=by simp;omega
  have hcell:(nf (o.take k)).flatMap fc++[PV.str ⟨l[i].toArray⟩,S []]++(nf (o.drop k)).flatMap fc=(nf (o.take k++l[i]::o.drop k)).flatMap fc:=by
   rw[nf_append,show l[i]::o.drop k=[l[i]]++o.drop k from rfl,nf_append,nf_one,List.append_assoc]
  have htl:((nf (o.take k)).flatMap fc).length=k*2:=by rw[nf_flen,List.length_take];congr 1;omega
  have hdl:((nf (o.drop k)).flatMap fc).length=(0+(o.length-k)) *2:=by rw[nf_flen,List.length_drop];congr 1;omega
  simp (disch:=omega)only[↓pa,↓reduceIte,Nat.reduceEqDiff,pmcut,hq,nf_drop o k hk,List.replicate_zero,List.flatten_nil]
  refine RunsTo_app (n:=0) (m:=o.length-k) Gr_full rfl (by rw[nf_flen,List.length_drop]) (by omega) (by omega) (by decide) ?_
  simp (disch:=omega)only[↓pa,↓pmx,pb,pmy,↓reduceIte,Nat.reduceEqDiff,Nat.reduceAdd,Nat.reduceLeDiff,Nat.reduceLT,reduceCtorEq,f0,f3,f4,f5,pmcut,hp,nf_whole hlt,nf_take]
  have hpl1:=nf_plain (o.drop k)
  have hpl2:=nf_plain (o.take k)
  rcases hG with⟨rfl,ho0⟩|⟨j,rfl,hj,hjc⟩
  ·have hm0:o.length=0:=by rw[ho0];rfl
   have hk0:k=0:=by omega
   have hcut:Tok.cut true o.length k (.full 133)= .full 133:=by simp[Tok.cut,hk0,hm0]
   have g1:Gr 133 (st.more [0+(o.length-k)]).nx (st.more [0+(o.length-k)]).cnt k (.full 133):=⟨rfl,hk0⟩
   simp (disch:=omega)only[hcut,pmcut,appS]
   refine RunsTo_app g1 htl rfl (by omega) (by omega) (by decide) ?_
   have g2:=Gr_app (m:=1) g1
   simp only[appT,appS]at g2
   simp (disch:=omega)only[↓pa,↓reduceIte,Nat.reduceEqDiff,pmcut,appT,appS]
   refine RunsTo_app g2 (by rw[List.length_append,htl];simp;omega) hdl (by omega) (by omega) (by decide) ?_
   have g3:=Gr_app (m:=0+(o.length-k)) g2
   simp only[appT,appS]at g3
   simp (disch:=omega)only[↓pa,pb,natP,↓reduceIte,Nat.reduceEqDiff,reduceCtorEq,f0,f4,pmcut,appT,appS]
   refine⟨l.length- (i+1),by omega,i+1,_,rfl,by omega,?_,rfl,.inr ⟨_,rfl,g3.1,by rw[hnext,hins,←hins2];exact g3.2.1⟩,by simp[St.count,St.more_fl,hfl]⟩
   rw[hnext,hins,hins2,hcell]
  ·by_cases hkm:k=o.length
   ·have hcut:Tok.cut true o.length k (.own j 133)= .own j 133:=by simp[Tok.cut,hkm]
    have g1:Gr 133 (st.more [0+(o.length-k)]).nx (st.more [0+(o.length-k)]).cnt k (.own j 133):=⟨by simp[St.more];omega,by simp[St.more,hj,hjc,hkm],rfl⟩
    simp (disch:=omega)only[hcut,pmcut,appS]
    refine RunsTo_app g1 htl rfl (by omega) (by omega) (by decide) ?_
    have g2:=Gr_app (m:=1) g1
    simp only[appT,appS]at g2
    simp (disch:=omega)only[↓pa,↓reduceIte,Nat.reduceEqDiff,pmcut,appT,appS]
    refine RunsTo_app g2 (by rw[List.length_append,htl];simp;omega) hdl (by omega) (by omega) (by decide) ?_
    have g3:=Gr_app (m:=0+(o.length-k)) g2
    simp only[appT,appS]at g3
    simp (disch:=omega)only[↓pa,pb,natP,↓reduceIte,Nat.reduceEqDiff,reduceCtorEq,f0,f4,pmcut,appT,appS]
    refine⟨l.length- (i+1),by omega,i+1,_,rfl,by omega,?_,rfl,.inr ⟨_,rfl,g3.1,by rw[hnext,hins,←hins2];exact g3.2.1⟩,by simp[St.count,St.more_fl,hfl]⟩
    rw[hnext,hins,hins2,hcell]
   ·have hcut:Tok.cut true o.length k (.own j 133)= .el j 133 o.length:=by simp[Tok.cut,hkm,Tok.elt]
    obtain⟨ha,hJ⟩:=apcV_cut (st:=st.more [0+(o.length-k)]) (e:=133) (sz:=2) (b:=32) (n:=k) (c:=o.length) (j:=j) (cs:=(nf (o.take k)).flatMap fc) (y:= .list 1 [S l[i],S []] (.full 133)) (by omega) (by simp[St.more];omega) (by simp[St.more,hj,hjc]) (by rw[St.more_fl,hfl];omega) (tfs_pl hpl2) rfl
    have g1:Gr 133 (cutSt (st.more [0+(o.length-k)]) j k).nx (cutSt (st.more [0+(o.length-k)]) j k).cnt k (.own (st.more [0+(o.length-k)]).nx 133):=⟨by simp[cutSt,St.more],by
     have:¬ (st.nx+1=j):=by omega
     simp[cutSt,St.more,this],rfl⟩
    have k0:= @killT_plain [j] _ (plainV_FX (nf l))
    have k4:killT [j] (I i)=I i:=killT_plain (plainV_int _ _)
    have k6:killT [j] (.list (0+(o.length-k)) ((nf (o.drop k)).flatMap fc) (.own st.nx 133))= .list (0+(o.length-k)) ((nf (o.drop k)).flatMap fc) (.own st.nx 133):=by
     have:¬ (st.nx=j):=by omega
     have ht:=tfs_pl (J:=[j]) hpl1
     rw[killT,if_pos]
     simp only[tf,ht,Bool.and_true]
     simp[Tok.free,Tok.of,this]
    simp (disch:=omega)only[hcut,ha,hJ,appS]
    refine RunsTo_app g1 htl rfl (by omega) (by omega) (by decide) ?_
    have g2:=Gr_app (m:=1) g1
    simp only[appT,appS]at g2
    simp (disch:=omega)only[↓pa,↓reduceIte,Nat.reduceEqDiff,pmcut,appT,appS,k6]
    refine RunsTo_app g2 (by rw[List.length_append,htl];simp;omega) hdl (by omega) (by omega) (by decide) ?_
    have g3:=Gr_app (m:=0+(o.length-k)) g2
    simp only[appT,appS]at g3
    simp (disch:=omega)only[↓pa,pb,natP,↓reduceIte,Nat.reduceEqDiff,reduceCtorEq,f0,f4,pmcut,appT,appS,k0,k4]
    refine⟨l.length- (i+1),by omega,i+1,_,rfl,by omega,?_,rfl,.inr ⟨_,rfl,g3.1,by rw[hnext,hins,←hins2];exact g3.2.1⟩,by simp[St.count,St.more_fl,cutSt,hfl]⟩
    rw[hnext,hins,hins2,hcell]
 ·have hk0:0<k:=by omega
  have hk1:k-1<o.length:=by omega
  have hne:¬o[k-1]=l[i]:=fun e=>hxo (by rw[←e];exact List.getElem_mem hk1)
  simp (maxSteps:=1000000) (disch:=omega)only[↓pa,pb,↓reduceIte,Nat.reduceEqDiff,reduceCtorEq,f0,f3,f4,f5,h2,hpos k hk,Nat.add_zero,nf_at hk1,nf_at hlt]
  refine Cnd_intro (fun h3=>?_) (fun h3=>?_)
  rotate_left
  ·have h3':sLt l[i] o[k-1]=true:=by
    cases hc:sLt l[i] o[k-1]with
    |true=>rfl
    |false=>exact absurd (sLt_total (by simpa [hne]using h3) hc) hne
   simp (disch:=omega)only[↓pa,pb,↓reduceIte,Nat.reduceEqDiff,reduceCtorEq,f0,f3,f4,f5]
   refine⟨k-1,by omega,by omega,?_,fun j h hj=>?_,hG,hfl⟩
   ·congr 1;omega
   ·by_cases e:j=k-1
    ·subst e;exact h3'
    ·exact hgt j h (by omega)
  ·have h3':sLt o[k-1] l[i]=true:=by simpa [hne]using h3
   have hend:k=0∨∃ h:k-1<o.length,sLt l[i] o[k-1]=false:= .inr ⟨hk1,sLt_asymm h3'⟩
   simp (disch:=omega)only[↓pa,↓pmx,pb,pmy,↓reduceIte,Nat.reduceEqDiff,Nat.reduceAdd,Nat.reduceLT,f3,f5]
   have hp:=fun st=> @slcP_pre st 2 o.length k ((nf o).flatMap fc) tok (nf_flen o) hk
   have hq:=fun st=> @slcP_suf st 2 o.length k ((nf o).flatMap fc) tok (nf_flen o) hk
   have hins:=insT_right ho hxo hk hgt hend
   have hins2:k+1+(0+(o.length-k))=(o.take k++l[i]::o.drop k).length:=by simp;omega
   have hcell:(nf (o.take k)).flatMap fc++[PV.str ⟨l[i].toArray⟩,S []]++(nf (o.drop k)).flatMap fc=(nf (o.take k++l[i]::o.drop k)).flatMap fc:=by
    rw[nf_append,show l[i]::o.drop k=[l[i]]++o.drop k from rfl,nf_append,nf_one,List.append_assoc]
   have htl:((nf (o.take k)).flatMap fc).length=k*2:=by rw[nf_flen,List.length_take];congr 1;omega
   have hdl:((nf (o.drop k)).flatMap fc).length=(0+(o.length-k)) *2:=by rw[nf_flen,List.length_drop];congr 1;omega
   simp (disch:=omega)only[↓pa,↓reduceIte,Nat.reduceEqDiff,pmcut,hq,nf_drop o k hk,List.replicate_zero,List.flatten_nil]
   refine RunsTo_app (n:=0) (m:=o.length-k) Gr_full rfl (by rw[nf_flen,List.length_drop]) (by omega) (by omega) (by decide) ?_
   simp (disch:=omega)only[↓pa,↓pmx,pb,pmy,↓reduceIte,Nat.reduceEqDiff,Nat.reduceAdd,Nat.reduceLeDiff,Nat.reduceLT,reduceCtorEq,f0,f3,f4,f5,pmcut,hp,nf_whole hlt,nf_take]
   have hpl1:=nf_plain (o.drop k)
   have hpl2:=nf_plain (o.take k)
   rcases hG with⟨rfl,ho0⟩|⟨j,rfl,hj,hjc⟩
   ·have hm0:o.length=0:=by rw[ho0];rfl
    have hk0:k=0:=by omega
    have hcut:Tok.cut true o.length k (.full 133)= .full 133:=by simp[Tok.cut,hk0,hm0]
    have g1:Gr 133 (st.more [0+(o.length-k)]).nx (st.more [0+(o.length-k)]).cnt k (.full 133):=⟨rfl,hk0⟩
    simp (disch:=omega)only[hcut,pmcut,appS]
    refine RunsTo_app g1 htl rfl (by omega) (by omega) (by decide) ?_
    have g2:=Gr_app (m:=1) g1
    simp only[appT,appS]at g2
    simp (disch:=omega)only[↓pa,↓reduceIte,Nat.reduceEqDiff,pmcut,appT,appS]
    refine RunsTo_app g2 (by rw[List.length_append,htl];simp;omega) hdl (by omega) (by omega) (by decide) ?_
    have g3:=Gr_app (m:=0+(o.length-k)) g2
    simp only[appT,appS]at g3
    simp (disch:=omega)only[↓pa,pb,natP,↓reduceIte,Nat.reduceEqDiff,reduceCtorEq,f0,f4,pmcut,appT,appS]
    refine⟨l.length- (i+1),by omega,i+1,_,rfl,by omega,?_,rfl,.inr ⟨_,rfl,g3.1,by rw[hnext,hins,←hins2];exact g3.2.1⟩,by simp[St.count,St.more_fl,hfl]⟩
    rw[hnext,hins,hins2,hcell]
   ·by_cases hkm:k=o.length
    ·have hcut:Tok.cut true o.length k (.own j 133)= .own j 133:=by simp[Tok.cut,hkm]
     have g1:Gr 133 (st.more [0+(o.length-k)]).nx (st.more [0+(o.length-k)]).cnt k (.own j 133):=⟨by simp[St.more];omega,by simp[St.more,hj,hjc,hkm],rfl⟩
     simp (disch:=omega)only[hcut,pmcut,appS]
     refine RunsTo_app g1 htl rfl (by omega) (by omega) (by decide) ?_
     have g2:=Gr_app (m:=1) g1
     simp only[appT,appS]at g2
     simp (disch:=omega)only[↓pa,↓reduceIte,Nat.reduceEqDiff,pmcut,appT,appS]
     refine RunsTo_app g2 (by rw[List.length_append,htl];simp;omega) hdl (by omega) (by omega) (by decide) ?_
     have g3:=Gr_app (m:=0+(o.length-k)) g2
     simp only[appT,appS]at g3
     simp (disch:=omega)only[↓pa,pb,natP,↓reduceIte,Nat.reduceEqDiff,reduceCtorEq,f0,f4,pmcut,appT,appS]
     refine⟨l.length- (i+1),by omega,i+1,_,rfl,by omega,?_,rfl,.inr ⟨_,rfl,g3.1,by rw[hnext,hins,←hins2];exact g3.2.1⟩,by simp[St.count,St.more_fl,hfl]⟩
     rw[hnext,hins,hins2,hcell]
    ·have hcut:Tok.cut true o.length k (.own j 133)= .el j 133 o.length:=by simp[Tok.cut,hkm,Tok.elt]
     obtain⟨ha,hJ⟩:=apcV_cut (st:=st.more [0+(o.length-k)]) (e:=133) (sz:=2) (b:=32) (n:=k) (c:=o.length) (j:=j) (cs:=(nf (o.take k)).flatMap fc) (y:= .list 1 [S l[i],S []] (.full 133)) (by omega) (by simp[St.more];omega) (by simp[St.more,hj,hjc]) (by rw[St.more_fl,hfl];omega) (tfs_pl hpl2) rfl
     have g1:Gr 133 (cutSt (st.more [0+(o.length-k)]) j k).nx (cutSt (st.more [0+(o.length-k)]) j k).cnt k (.own (st.more [0+(o.length-k)]).nx 133):=⟨by simp[cutSt,St.more],by
      have:¬ (st.nx+1=j):=by omega
      simp[cutSt,St.more,this],rfl⟩
     have k0:= @killT_plain [j] _ (plainV_FX (nf l))
     have k4:killT [j] (I i)=I i:=killT_plain (plainV_int _ _)
     have k6:killT [j] (.list (0+(o.length-k)) ((nf (o.drop k)).flatMap fc) (.own st.nx 133))= .list (0+(o.length-k)) ((nf (o.drop k)).flatMap fc) (.own st.nx 133):=by
      have:¬ (st.nx=j):=by omega
      have ht:=tfs_pl (J:=[j]) hpl1
      rw[killT,if_pos]
      simp only[tf,ht,Bool.and_true]
      simp[Tok.free,Tok.of,this]
     simp (disch:=omega)only[hcut,ha,hJ,appS]
     refine RunsTo_app g1 htl rfl (by omega) (by omega) (by decide) ?_
     have g2:=Gr_app (m:=1) g1
     simp only[appT,appS]at g2
     simp (disch:=omega)only[↓pa,↓reduceIte,Nat.reduceEqDiff,pmcut,appT,appS,k6]
     refine RunsTo_app g2 (by rw[List.length_append,htl];simp;omega) hdl (by omega) (by omega) (by decide) ?_
     have g3:=Gr_app (m:=0+(o.length-k)) g2
     simp only[appT,appS]at g3
     simp (disch:=omega)only[↓pa,pb,natP,↓reduceIte,Nat.reduceEqDiff,reduceCtorEq,f0,f4,pmcut,appT,appS,k0,k4]
     refine⟨l.length- (i+1),by omega,i+1,_,rfl,by omega,?_,rfl,.inr ⟨_,rfl,g3.1,by rw[hnext,hins,←hins2];exact g3.2.1⟩,by simp[St.count,St.more_fl,cutSt,hfl]⟩
     rw[hnext,hins,hins2,hcell]
def cc(c:Ch):List PV:=[I c.kind,I c.node.id,TX c.node.labels,FX c.node.fields,I c.edge.id,S c.edge.type,I c.edge.src,I c.edge.dst,FX c.edge.fields,S c.value,S c.name,S c.text]
@[reducible] def HX (l:List Ch):PV:= .list l.length (l.flatMap cc) .no
theorem cc_len(c:Ch):(cc c).length=12:=rfl
theorem cc_plain(c:Ch):plainVs (cc c):=plainVs_cons (plainV_int _ _) (plainVs_append (ps:=nc c.node) (nc_plain _) (plainVs_append (ps:=ec c.edge) (ec_plain _) (plainVs_cons (plainV_str _) (plainVs_cons (plainV_str _) (plainVs_cons (plainV_str _) plainVs_nil)))))
theorem plainV_HX(l:List Ch):plainV (HX l):=plainV_list (flat_plain cc cc_plain l)
def cF(what n v:List UInt8):List PV:=[I 6,I 0,.list 0 [] .nil,.list 0 [] .nil,I 0,S [],I 0,I 0,.list 0 [] .nil,S what,S n,S v]
theorem cF_strip(what n v:List UInt8):strips (cF what n v)=cc (chF what n v):=rfl
theorem callP_list2{f n:Nat}{cs:List PV}{t:Tok}{p:PV}(h:plainVs cs)(hp:plainV p):callP cf f [.list n cs t,p] [] st=callP cf f [.list n cs .no,p] [] st:=by
 have hp':=plainVs_arg (ps:=[p]) (by simpa using hp)
 have e1:plainArg p=true:=by simpa using hp'.1
 have e2:strip p=p:=by simpa using hp'.2
 have q:plainArg (.list n cs t)=true:=by simp only[plainArg,pmz,h.1,Bool.and_self]
 have q2:plainArg (.list n cs .no)=true:=by simp only[plainArg,pmz,h.1,Bool.and_self]
 have hs:([PV.list n cs t,p].map strip)=[.list n cs .no,p]:=by simp only[List.map_cons,List.map_nil,strip_list,h.2.1,e2]
 rw[callP_strip (by simp[q,e1]) (by rw[hs];simp[q2,e1]) (by rw[hs];simp only[List.map_cons,List.map_nil,strip_list,h.2.1,e2]),hs]
theorem moreS_snoc{a b:List Fd}{i:Nat}(h:i<b.length):moreS a (b.take (i+1))=if fieldV a b[i].1=nullT then moreS a (b.take i)++[b[i].1]else moreS a (b.take i):=by
 unfold moreS
 rw[List.take_succ_eq_append_getElem h,List.map_append,List.filter_append]
 by_cases hd:fieldV a b[i].1=nullT<;>simp[hd]
theorem moreS_len(a b:List Fd):(moreS a b).length≤b.length:=by
 unfold moreS
 exact Nat.le_trans (List.length_filter_le _ _) (by simp)
theorem flat_snoc{α β:Type}{f:α→List β}{l:List α}{i:Nat}(h:i<l.length):(l.take (i+1)).flatMap f=(l.take i).flatMap f++f l[i]:=by
 rw[List.take_succ_eq_append_getElem h,List.flatMap_append];simp
theorem flat_bound{α β:Type}{f:α→List β}{m:Nat}(h:∀ a,(f a).length≤m):∀ l:List α,(l.flatMap f).length≤l.length*m
 | []=>by simp
 |a::l=>by
  have:=flat_bound h l
  have:=h a
  rw[List.flatMap_cons,List.length_append,List.length_cons,Nat.succ_mul];omega
theorem FX_nf(l:List (List UInt8)):FX (nf l)= .list l.length ((nf l).flatMap fc) .no:=by rw[FX,nf_len]
theorem fcG1_len(what:List UInt8)(b:List Fd)(s:List UInt8):(fcG1 what b s).length≤1:=by unfold fcG1;split<;>simp
theorem fcO1_len(what:List UInt8)(a b:List Fd)(s:List UInt8):(fcO1 what a b s).length≤1:=by unfold fcO1;split<;>(try split)<;>simp
theorem fcP1_len(g:Bool)(what:List UInt8)(a b:List Fd)(s:List UInt8):(fcP1 g what a b s).length≤1:=by unfold fcP1;split<;>simp
set_option maxHeartbeats 4000000 in
theorem c_fcS(K:Env cf)(what:List UInt8)(a b:List Fd)(hn:(a.map (·.1)++moreS a b).Nodup)(h1:a.length≤1000000)(h2:b.length≤1000000):∃ r,r=HX (fcS what a b)∧∃ fl,callP cf 97 [S what,FX a,FX b] [] st=some (r,setF st fl):=by
 refine c_valE K.tab (F:=F97) (Q:=fun r=>r=HX (fcS what a b)) rfl rfl rfl (lb rfl) (by simp[plainV_FX,plainV_str]) 3000000 ?_
 have hma:=fs_len a
 have hmb:=fs_len b
 unfold F97 qr qd qm qi qc qb qk ql qf qo qe qN
 simp (disch:=omega)only[↓pa,↓pmx,pb,pmy,↓reduceIte,Nat.reduceAdd,Nat.reduceLT,List.replicate_zero,List.flatten_nil]
 refine Wp_rounds (fun q fr st=>∃ (i:Nat) (tok:Tok),q=a.length-i∧i≤a.length∧fr 0=S what∧fr 1=FX a∧fr 2=FX b∧fr 7= .list i ((nf ((a.take i).map (·.1))).flatMap fc) tok∧fr 8=I i∧Gr 133 st.nx st.cnt i tok) a.length (by omega)
  ⟨0,.full 133,by simp,by omega,by simp (disch:=omega)only[↓pa,↓reduceIte,reduceCtorEq],by simp (disch:=omega)only[↓pa,↓reduceIte,Nat.reduceEqDiff],by simp (disch:=omega)only[↓pa,↓reduceIte,Nat.reduceEqDiff],by simp (disch:=omega)only[↓pa,↓reduceIte,Nat.reduceEqDiff];rfl,by simp (disch:=omega)only[↓pa,↓reduceIte];rfl,Gr_full⟩ ?_
 rintro q fr st ⟨i,tok,rfl,hi,f0,f1,f2,f7,f8,hG⟩
 have hml:((nf ((a.take i).map (·.1))).flatMap fc).length=i*2:=by rw[nf_flen,List.length_map,List.length_take];congr 1;omega
 simp (disch:=omega)only[↓pa,pb,natP,↓reduceIte,Nat.reduceEqDiff,f1,f8]
 refine Cnd_intro (fun k1=>?_) (fun k1=>?_)
 ·have hlt:i<a.length:=k1
  have hcell:(nf ((a.take i).map (·.1))).flatMap fc++[S a[i].1,S []]=(nf ((a.take (i+1)).map (·.1))).flatMap fc:=by
   rw[List.take_succ_eq_append_getElem hlt,List.map_append,nf_append];rfl
  simp (disch:=omega)only[↓pa,↓pmx,pb,pmy,↓reduceIte,Nat.reduceEqDiff,Nat.reduceAdd,Nat.reduceLeDiff,Nat.reduceLT,f1,f7,f8,k1,Nat.add_zero,partP_fn hlt]
  refine RunsTo_app hG hml rfl (by omega) (by omega) (by decide) ?_
  simp (disch:=omega)only[↓pa,pb,natP,↓reduceIte,Nat.reduceEqDiff,reduceCtorEq,f0,f1,f2,f8]
  exact⟨a.length- (i+1),by omega,i+1,appT 133 tok st,rfl,by omega,by rw[←hcell],rfl,Gr_app hG⟩
 have hia:a.take i=a:=List.take_of_length_le (by omega)
 have hie:i=a.length:=by omega
 subst hie
 rw[hia]at f7
 simp (disch:=omega)only[↓pa,pb,k1]
 refine Wp_rounds (fun q fr st=>∃ (i:Nat) (tok:Tok),q=b.length-i∧i≤b.length∧fr 0=S what∧fr 1=FX a∧fr 2=FX b∧fr 7= .list (a.map (·.1)++moreS a (b.take i)).length ((nf (a.map (·.1)++moreS a (b.take i))).flatMap fc) tok∧fr 9=I i∧Gr 133 st.nx st.cnt (a.map (·.1)++moreS a (b.take i)).length tok) b.length (by omega)
  ⟨0,tok,by simp,by omega,by simp (disch:=omega)only[↓pa,↓reduceIte,reduceCtorEq,f0],by simp (disch:=omega)only[↓pa,↓reduceIte,Nat.reduceEqDiff,f1],by simp (disch:=omega)only[↓pa,↓reduceIte,Nat.reduceEqDiff,f2],by simp (disch:=omega)only[↓pa,↓reduceIte,Nat.reduceEqDiff,f7];simp[moreS],by simp (disch:=omega)only[↓pa,↓reduceIte];rfl,by simpa [moreS]using hG⟩ ?_
 clear f0 f1 f2 f7 f8 hG hml k1
 rintro q fr st ⟨i,tok,rfl,hi,f0,f1,f2,f7,f9,hG⟩
 have hml:=nf_flen (a.map (·.1)++moreS a (b.take i))
 have hbl:=moreS_len a (b.take i)
 have hbl2:(b.take i).length≤b.length:=by rw[List.length_take];omega
 have hll:(a.map (·.1)++moreS a (b.take i)).length≤2000000:=by rw[List.length_append,List.length_map];omega
 simp (disch:=omega)only[↓pa,pb,natP,↓reduceIte,Nat.reduceEqDiff,f2,f9]
 refine Cnd_intro (fun k1=>?_) (fun k1=>?_)
 ·have hlt:i<b.length:=k1
  have hnext:=moreS_snoc (a:=a) hlt
  have hfv:=fun st=>c_fieldS (st:=st) K a b[i].1 (by omega)
  simp (disch:=omega)only[↓pa,pb,↓reduceIte,Nat.reduceEqDiff,f1,f2,f9,k1,Nat.add_zero,partP_fn hlt,hfv,nullT_eq]
  refine Cnd_intro (fun k2=>?_) (fun k2=>?_)
  ·rw[if_pos k2]at hnext
   simp (disch:=omega)only[↓pa,↓pmx,pb,pmy,↓reduceIte,Nat.reduceEqDiff,Nat.reduceAdd,Nat.reduceLeDiff,Nat.reduceLT,f2,f7,f9,k2,Nat.add_zero,partP_fn hlt]
   refine RunsTo_app hG hml rfl (by omega) (by omega) (by decide) ?_
   simp (disch:=omega)only[↓pa,pb,natP,↓reduceIte,Nat.reduceEqDiff,reduceCtorEq,f0,f1,f2,f9]
   exact⟨b.length- (i+1),by omega,i+1,appT 133 tok st,rfl,by omega,by rw[hnext,←List.append_assoc,nf_append _ [b[i].1],List.length_append (bs:=[b[i].1])];rfl,rfl,by rw[hnext,←List.append_assoc,List.length_append (bs:=[b[i].1])];exact Gr_app hG⟩
  ·rw[if_neg k2]at hnext
   simp (disch:=omega)only[↓pa,pb,natP,↓reduceIte,Nat.reduceEqDiff,reduceCtorEq,f0,f1,f2,f7,f9,k2]
   exact⟨b.length- (i+1),by omega,i+1,tok,rfl,by omega,by rw[hnext],rfl,by rw[hnext];exact hG⟩
 have hib:b.take i=b:=List.take_of_length_le (by omega)
 rw[hib]at f7 hG hml hll
 have hsl:=sortT_len (a.map (·.1)++moreS a b)
 have hcs:∀ st,∃ r,r=FX (nf (namesS a b))∧∃ fl,callP cf 132 [.list (a.map (·.1)++moreS a b).length ((nf (a.map (·.1)++moreS a b)).flatMap fc) tok] [] st=some (r,setF st fl):=fun st=>by
  rw[callP_list1 (nf_plain _),←FX_nf]
  exact c_sorted (st:=st) K _ hn hll
 simp (disch:=omega)only[↓pa,pb,↓reduceIte,Nat.reduceEqDiff,f7,k1]
 refine RunsTo_EQ (hcs _) (fun fl=>?_)
 have hsl:(namesS a b).length≤2000000:=by unfold namesS;omega
 generalize hN:namesS a b=N at*
 have hmN:=nf_flen N
 have hmN2:=nf_len N
 simp (disch:=omega)only[↓pa,↓pmx,pb,pmy,↓reduceIte,Nat.reduceAdd,Nat.reduceLT,List.replicate_zero,List.flatten_nil]
 clear f7 f9 hG
 refine Wp_rounds (fun q fr st=>∃ (i:Nat) (cs ds:List PV) (tok tok2:Tok),q=N.length-i∧i≤N.length∧fr 0=S what∧fr 1=FX a∧fr 2=FX b∧fr 7=FX (nf N)∧fr 10= .list ((N.take i).flatMap (fcG1 what b)).length cs tok∧fr 11= .list ((N.take i).flatMap (fcO1 what a b)).length ds tok2∧fr 12=I i∧
   Like cc 12 ((N.take i).flatMap (fcG1 what b)) cs∧Like cc 12 ((N.take i).flatMap (fcO1 what a b)) ds∧Gr 85 st.nx st.cnt ((N.take i).flatMap (fcG1 what b)).length tok∧Gr 85 st.nx st.cnt ((N.take i).flatMap (fcO1 what a b)).length tok2∧apartT tok tok2) N.length (by omega)
  ⟨0,[],[],.full 85,.full 85,by simp,by omega,by simp (disch:=omega)only[↓pa,↓reduceIte,reduceCtorEq,f0],by simp (disch:=omega)only[↓pa,↓reduceIte,Nat.reduceEqDiff,f1],by simp (disch:=omega)only[↓pa,↓reduceIte,Nat.reduceEqDiff,f2],by simp (disch:=omega)only[↓pa,↓reduceIte,Nat.reduceEqDiff],by simp (disch:=omega)only[↓pa,↓reduceIte,Nat.reduceEqDiff];rfl,by simp (disch:=omega)only[↓pa,↓reduceIte,Nat.reduceEqDiff];rfl,by simp (disch:=omega)only[↓pa,↓reduceIte];rfl,Like_nil,Like_nil,Gr_full,Gr_full,trivial⟩ ?_
 clear f0 f1 f2 k1
 rintro q fr st ⟨i,cs,ds,tok,tok2,rfl,hi,f0,f1,f2,f7,f10,f11,f12,hL1,hL2,hG1,hG2,hap⟩
 have hb1:=flat_bound (fcG1_len what b) (N.take i)
 have hb2:=flat_bound (fcO1_len what a b) (N.take i)
 rw[List.length_take]at hb1 hb2
 simp (disch:=omega)only[↓pa,pb,natP,↓reduceIte,Nat.reduceEqDiff,f7,f12,hmN2]
 refine Cnd_intro (fun k1=>?_) (fun k1=>?_)
 ·have hlt:i<N.length:=k1
  have hnG:=flat_snoc (f:=fcG1 what b) hlt
  have hnO:=flat_snoc (f:=fcO1 what a b) hlt
  have hfb:=fun st=>c_fieldS (st:=st) K b N[i] (by omega)
  have hfa:=fun st=>c_fieldS (st:=st) K a N[i] (by omega)
  simp (disch:=omega)only[↓pa,↓pmx,pb,pmy,↓reduceIte,Nat.reduceEqDiff,Nat.reduceAdd,Nat.reduceLeDiff,reduceCtorEq,f0,f2,f7,f12,k1,hmN2,Nat.add_zero,nf_at hlt,hfb,nullT_eq]
  refine Cnd_intro (fun k2=>?_) (fun k2=>?_)
  ·rw[fcG1,if_pos k2]at hnG
   rw[fcO1,if_pos k2,List.append_nil]at hnO
   simp (disch:=omega)only[↓pa,↓pmx,pb,pmy,↓reduceIte,Nat.reduceEqDiff,Nat.reduceAdd,Nat.reduceLeDiff,Nat.reduceLT,f10,k2]
   refine RunsTo_app2 (e2:=85) (n2:=((N.take i).flatMap (fcO1 what a b)).length) (u:=tok2) hG1 hL1.len rfl (by omega) (by omega) (by decide) hG2 hap (fun st1 tk' ho hG1' hG2' hap'=>?_)
   simp (disch:=omega)only[↓pa,pb,natP,↓reduceIte,Nat.reduceEqDiff,reduceCtorEq,f0,f1,f2,f7,f11,f12]
   exact⟨N.length- (i+1),by omega,i+1,_,ds,tk',tok2,rfl,by omega,by rw[hnG,List.length_append];rfl,by rw[hnO],rfl,by rw[hnG];exact Like_snoc hL1 rfl (by rw[k2];rfl) rfl,by rw[hnO];exact hL2,by rw[hnG,List.length_append];exact hG1',by rw[hnO];exact hG2',hap'⟩
  ·rw[fcG1,if_neg k2,List.append_nil]at hnG
   rw[fcO1,if_neg k2]at hnO
   simp (disch:=omega)only[↓pa,pb,↓reduceIte,Nat.reduceEqDiff,ne_eq,f1,f7,f12,k2,Nat.add_zero,nf_at hlt,hfa]
   refine Cnd_intro (fun k3=>?_) (fun k3=>?_)
   ·rw[if_neg (by simp[k3]),List.append_nil]at hnO
    simp (disch:=omega)only[↓pa,pb,natP,↓reduceIte,Nat.reduceEqDiff,reduceCtorEq,f0,f1,f2,f7,f10,f11,f12,k3]
    exact⟨N.length- (i+1),by omega,i+1,cs,ds,tok,tok2,rfl,by omega,by rw[hnG],by rw[hnO],rfl,by rw[hnG];exact hL1,by rw[hnO];exact hL2,by rw[hnG];exact hG1,by rw[hnO];exact hG2,hap⟩
   ·rw[if_pos k3]at hnO
    simp (disch:=omega)only[↓pa,↓pmx,pb,pmy,↓reduceIte,Nat.reduceEqDiff,Nat.reduceAdd,Nat.reduceLeDiff,Nat.reduceLT,f11,k3]
    refine RunsTo_app2 (e2:=85) (n2:=((N.take i).flatMap (fcG1 what b)).length) (u:=tok) hG2 hL2.len rfl (by omega) (by omega) (by decide) hG1 (apartT_symm hap) (fun st1 tk' ho hG2' hG1' hap'=>?_)
    simp (disch:=omega)only[↓pa,pb,natP,↓reduceIte,Nat.reduceEqDiff,reduceCtorEq,f0,f1,f2,f7,f10,f12]
    exact⟨N.length- (i+1),by omega,i+1,cs,_,tok,tk',rfl,by omega,by rw[hnG],by rw[hnO,List.length_append];rfl,rfl,by rw[hnG];exact hL1,by rw[hnO];exact Like_snoc hL2 rfl (cF_strip _ _ _) rfl,by rw[hnG];exact hG1',by rw[hnO,List.length_append];exact hG2',apartT_symm hap'⟩
 ·have hiN:N.take i=N:=List.take_of_length_le (by omega)
  rw[hiN]at hL1 hL2 hG1 hG2 hb1 hb2 f10 f11
  simp (disch:=omega)only[↓pa,↓pmx,pb,↓reduceIte,Nat.reduceEqDiff,f10,f11,k1]
  refine RunsTo_app hG1 hL1.len hL2.len (by omega) (by omega) (by decide) ?_
  simp (disch:=omega)only[↓pa,pb,pmz,↓reduceIte,nps_append_iff,hL1.np,hL2.np,strips_append,hL1.st,hL2.st]
  rw[fcS,hN,HX,List.length_append,List.flatMap_append]
theorem RunsTo_appP{e sz bytes n m:Nat}{cs ds:List PV}{tk u:Tok}{X Y:List (Nat×Nat)}(ht:ownT e tk)(hs:solid (.list n cs tk)=true)(hd:solids ds=true)(hk:TokOK st (X++toks (.list n cs tk)++Y++tokss ds))(hf:st.fl≤st.nx)
  (h1:cs.length=n*sz) (h2:ds.length=m*sz) (h3:(n+m) *bytes≤140737488355328) (h4:n+m≤140737488355328) (h5:0<sz)
  (k:∀ st' tk',ownT e tk'→solid (.list (n+m) (cs++ds) tk')=true→TokOK st' (X++toks (.list (n+m) (cs++ds) tk')++Y)→st'.objs=st.objs→st'.fl=st.fl→st.nx≤st'.nx→A (mk (.list (n+m) (cs++ds) tk') st')):RunsTo (appP e sz bytes (.list n cs tk) (.list m ds u) st) mk A:=by
 have hsc:solids cs=true:=by simp only[solid,Bool.and_eq_true]at hs;exact hs.2
 have hsa:solids (cs++ds)=true:=by rw[solids_append,hsc,hd];rfl
 rcases ht with rfl|⟨j,rfl⟩
 ·have hc:cs=[]:=by simp only[solid,Bool.and_eq_true,List.isEmpty_iff]at hs;exact hs.1
  subst hc
  have hn:n=0:=by
   simp only[List.length_nil]at h1
   rcases Nat.eq_zero_or_pos n with h|h
   ·exact h
   ·have:=Nat.mul_pos h h5;omega
  subst hn
  refine⟨_,_,appP_ok (show Gr e st.nx st.cnt 0 .nil from rfl) h1 h2 h3 h4 h5,?_⟩
  refine k _ _ (.inr ⟨_,rfl⟩) (by simp only[appT,solid,hsa,Bool.and_self]) ?_ appS_objs rfl (by simp[appS,St.more])
  have:=TokOK_more hk hf [0+m]
  refine TokOK_of this (fun q=>?_) (fun q hq=>?_)
  ·simp only[appT,toks,ck_append,ck,enum,List.nil_append,tokss];omega
  ·simp only[appT,toks,enum,List.nil_append,tokss,List.mem_append,List.mem_cons,List.not_mem_nil,or_false]at hq ⊢
   rcases hq with(h|h|h)|h<;>simp[h]
 ·have hj:=hk.2 (j,n) (by simp[toks])
  refine⟨_,_,appP_ok (show Gr e st.nx st.cnt n (.own j e)from⟨hj.1,hj.2.1,rfl⟩) h1 h2 h3 h4 h5,?_⟩
  refine k _ _ (.inr ⟨_,rfl⟩) (by simp only[appT,solid,hsa,Bool.and_self]) ?_ appS_objs rfl (Nat.le_refl _)
  have hne:∀ q,q∈X∨q∈tokss cs∨q∈Y∨q∈tokss ds→q.1≠j:=by
   intro q hq he
   have:=hk.1 j
   simp only[toks,ck_append,ck,if_true]at this
   have h0:0<ck j X∨0<ck j (tokss cs)∨0<ck j Y∨0<ck j (tokss ds):=by
    rcases hq with h|h|h|h
    ·exact .inl (ck_pos.2 ⟨q,h,he⟩)
    ·exact .inr (.inl (ck_pos.2 ⟨q,h,he⟩))
    ·exact .inr (.inr (.inl (ck_pos.2 ⟨q,h,he⟩)))
    ·exact .inr (.inr (.inr (ck_pos.2 ⟨q,h,he⟩)))
   omega
  refine⟨fun q=>?_,fun q hq=>?_⟩
  ·have:=hk.1 q
   simp only[appT,toks,ck_append,ck,tokss_append]at this ⊢
   omega
  ·simp only[appT,toks,tokss_append,List.mem_append,List.mem_cons,List.not_mem_nil,or_false]at hq
   show q.1<st.nx∧(if q.1=j then n+m else st.cnt q.1)=q.2∧st.fl≤q.1
   by_cases hqj:q=(j,n+m)
   ·subst hqj;exact⟨hj.1,by simp,hj.2.2⟩
   ·have hm:q∈X∨q∈tokss cs∨q∈Y∨q∈tokss ds:=by
     rcases hq with(h|h|h|h)|h<;>simp_all
    rw[if_neg (hne q hm)]
    refine hk.2 q ?_
    simp only[toks,List.mem_append]
    rcases hm with h|h|h|h<;>simp[h]
theorem tx_plain:∀ l:List (List UInt8),plainVs (l.map S)
 | []=>plainVs_nil
 |_::l=>plainVs_cons (plainV_str _) (tx_plain l)
theorem foldT_snoc{l:List Fd}{o:List (List UInt8)}{i:Nat}(h:i<l.length):((l.take (i+1)).map (·.1)).foldl (fun o x=>insT x o) o=insT l[i].1 (((l.take i).map (·.1)).foldl (fun o x=>insT x o) o):=by
 rw[List.take_succ_eq_append_getElem h,List.map_append,List.foldl_append];rfl
def fcPs(what:List UInt8)(a b:List Fd):Nat→List Ch
 |0=>[]
 |1=>(namesP a b).flatMap (fcP1 true what a b)
 |_=>fcP what a b
def goA(i:Nat):Bool:=decide (i=0)
theorem fcPs_next(what:List UInt8)(a b:List Fd){i:Nat}(h:i<2):fcPs what a b (i+1)=fcPs what a b i++(namesP a b).flatMap (fcP1 (goA i) what a b):=by
 match i,h with
 |0,_=>rfl
 |1,_=>rfl
theorem fcPs_len(what:List UInt8)(a b:List Fd)(i:Nat):(fcPs what a b i).length≤2* (namesP a b).length:=by
 have h1:=flat_bound (fcP1_len true what a b) (namesP a b)
 have h2:=flat_bound (fcP1_len false what a b) (namesP a b)
 match i with
 |0=>simp[fcPs]
 |1=>rw[fcPs];omega
 |i+2=>rw[show fcPs what a b (i+2)=fcP what a b from rfl,fcP,List.length_append];omega
theorem beqP_ok{x y:Bool}:beqP false (.bool x) (.bool y) st=some (.bool (x==y),st):=rfl
theorem goA_at{i:Nat}(h:i<2):partP [PV.bool true,PV.bool false] i 1 false=some (.bool (goA i)):=by
 match i,h with
 |0,_=>rfl
 |1,_=>rfl
theorem partP_st{l:List (List UInt8)}{i:Nat}(h:i<l.length):partP (l.map S) i 1 false=some (S l[i]):=by
 rw[partP_tx h];simp[tAt,h]
set_option maxHeartbeats 4000000 in
theorem c_fcP(K:Env cf)(what:List UInt8)(a b:List Fd)(h1:a.length≤1000000)(h2:b.length≤1000000):∃ r ns,callP cf 104 [S what,FX a,FX b] [] st=some (r,st.more ns)∧Fresh st.nx ns r∧strip r=HX (fcP what a b):=by
 refine c_valO K.tab (F:=F104) (Q:=fun r=>r=HX (fcP what a b)) rfl rfl rfl (lb rfl) (by simp[plainV_FX,plainV_str]) 3000000 ?_
 have hma:=fs_len a
 have hmb:=fs_len b
 unfold F104 qr qd qm qi qc qb qk ql qf qo qe qN
 simp (disch:=omega)only[↓pa,pb,↓reduceIte,Nat.reduceEqDiff]
 refine Wp_rounds (fun q fr st=>∃ (i:Nat) (o:List (List UInt8)) (tok:Tok),q=a.length-i∧i≤a.length∧fr 0=S what∧fr 1=FX a∧fr 2=FX b∧fr 18=FX a∧fr 19=I a.length∧fr 20=I i∧fr 7= .list o.length (o.map S) tok∧o=sortT ((a.take i).map (·.1))∧st.fl≤st.nx) a.length (by omega)
  ⟨0,[],.nil,by simp,by omega,by simp (disch:=omega)only[↓pa,↓reduceIte,reduceCtorEq],by simp (disch:=omega)only[↓pa,↓reduceIte,Nat.reduceEqDiff],by simp (disch:=omega)only[↓pa,↓reduceIte,Nat.reduceEqDiff],by simp (disch:=omega)only[↓pa,↓reduceIte,Nat.reduceEqDiff],by simp (disch:=omega)only[↓pa,↓reduceIte,Nat.reduceEqDiff],by simp (disch:=omega)only[↓pa,↓reduceIte]<;>rfl,by simp (disch:=omega)only[↓pa,pb,↓reduceIte,Nat.reduceEqDiff]<;>rfl,rfl,Nat.le_refl _⟩ ?_
 rintro q fr st ⟨i,o,tok,rfl,hi,f0,f1,f2,f18,f19,f20,f7,ho,hfl⟩
 have hol:=sortT_len ((a.take i).map (·.1))
 rw[←ho,List.length_map,List.length_take]at hol
 simp (disch:=omega)only[↓pa,pb,natP,↓reduceIte,f19,f20]
 refine Cnd_intro (fun k1=>?_) (fun k1=>?_)
 ·have hlt:i<a.length:=k1
  have hc:∀ st,∃ r,r=TX (insT a[i].1 o)∧∃ fl,callP cf 133 [.list o.length (o.map S) tok,S a[i].1] [] st=some (r,setF st fl):=fun st=>by
   rw[callP_list2 (tx_plain o) (plainV_str _)]
   exact c_insT (st:=st) K o a[i].1 (by omega)
  simp (disch:=omega)only[↓pa,pb,pmy,↓reduceIte,Nat.reduceEqDiff,Nat.reduceAdd,Nat.reduceLeDiff,f18,f20,f7,k1,partP_fs hlt]
  refine RunsTo_EQf (hc _) hfl (fun fl hfl'=>?_)
  simp (disch:=omega)only[↓pa,pb,pmy,natP,↓reduceIte,Nat.reduceEqDiff,reduceCtorEq,f0,f1,f2,f18,f19,f20]
  exact⟨a.length- (i+1),by omega,i+1,insT a[i].1 o,.no,rfl,by omega,rfl,rfl,by rw[sortT,foldT_snoc hlt,ho];rfl,hfl'⟩
 have hia:a.take i=a:=List.take_of_length_le (by omega)
 rw[hia]at ho
 simp (disch:=omega)only[↓pa,pb,↓reduceIte,Nat.reduceEqDiff,f2,k1]
 refine Wp_rounds (fun q fr st=>∃ (i:Nat) (o:List (List UInt8)) (tok:Tok),q=b.length-i∧i≤b.length∧fr 0=S what∧fr 1=FX a∧fr 2=FX b∧fr 29=FX b∧fr 30=I b.length∧fr 31=I i∧fr 7= .list o.length (o.map S) tok∧o=((b.take i).map (·.1)).foldl (fun o x=>insT x o) (sortT (a.map (·.1)))∧st.fl≤st.nx) b.length (by omega)
  ⟨0,o,tok,by simp,by omega,by simp (disch:=omega)only[↓pa,↓reduceIte,reduceCtorEq,f0],by simp (disch:=omega)only[↓pa,↓reduceIte,Nat.reduceEqDiff,f1],by simp (disch:=omega)only[↓pa,↓reduceIte,Nat.reduceEqDiff,f2],by simp (disch:=omega)only[↓pa,↓reduceIte,Nat.reduceEqDiff],by simp (disch:=omega)only[↓pa,↓reduceIte,Nat.reduceEqDiff],by simp (disch:=omega)only[↓pa,↓reduceIte]<;>rfl,by simp (disch:=omega)only[↓pa,↓reduceIte,Nat.reduceEqDiff,f7],ho,hfl⟩ ?_
 clear f0 f1 f2 f18 f19 f20 f7 hfl k1 hol ho tok o hia hi
 rintro q fr st ⟨i,o,tok,rfl,hi,f0,f1,f2,f18,f19,f20,f7,ho,hfl⟩
 have hol:=fold_len (l:=(b.take i).map (·.1)) (o:=sortT (a.map (·.1)))
 have hol2:=sortT_len (a.map (·.1))
 rw[←ho,List.length_map,List.length_take]at hol
 rw[List.length_map]at hol2
 simp (disch:=omega)only[↓pa,pb,natP,↓reduceIte,f19,f20]
 refine Cnd_intro (fun k1=>?_) (fun k1=>?_)
 ·have hlt:i<b.length:=k1
  have hc:∀ st,∃ r,r=TX (insT b[i].1 o)∧∃ fl,callP cf 133 [.list o.length (o.map S) tok,S b[i].1] [] st=some (r,setF st fl):=fun st=>by
   rw[callP_list2 (tx_plain o) (plainV_str _)]
   exact c_insT (st:=st) K o b[i].1 (by omega)
  simp (disch:=omega)only[↓pa,pb,pmy,↓reduceIte,Nat.reduceEqDiff,Nat.reduceAdd,Nat.reduceLeDiff,f18,f20,f7,k1,partP_fs hlt]
  refine RunsTo_EQf (hc _) hfl (fun fl hfl'=>?_)
  simp (disch:=omega)only[↓pa,pb,pmy,natP,↓reduceIte,Nat.reduceEqDiff,reduceCtorEq,f0,f1,f2,f18,f19,f20]
  exact⟨b.length- (i+1),by omega,i+1,insT b[i].1 o,.no,rfl,by omega,rfl,rfl,by rw[foldT_snoc hlt,ho],hfl'⟩
 have hia:b.take i=b:=List.take_of_length_le (by omega)
 rw[hia]at ho
 have hN:o=namesP a b:=ho
 have hnl:(namesP a b).length≤2000000:=by rw[←hN];omega
 rw[hN]at f7
 clear ho hol hol2 hN hia hi f18 f19 f20
 simp (disch:=omega)only[↓pa,↓pmx,pb,pmy,↓reduceIte,Nat.reduceAdd,Nat.reduceLeDiff,Nat.reduceLT,k1]
 clear k1
 refine Wp_rounds (fun q fr st=>∃ (i:Nat) (cs:List PV) (tk:Tok),q=2-i∧i≤2∧fr 0=S what∧fr 1=FX a∧fr 2=FX b∧fr 40= .list 2 [.bool true,.bool false] (.full 4)∧fr 41=I 2∧fr 42=I i∧fr 7= .list (namesP a b).length ((namesP a b).map S) tok∧fr 12= .list (fcPs what a b i).length cs tk∧
   Like cc 12 (fcPs what a b i) cs∧ownT 85 tk∧solid (.list (fcPs what a b i).length cs tk)=true∧TokOK st ([]++toks (.list (fcPs what a b i).length cs tk)++[])∧st.fl≤st.nx) 2 (by omega)
  ⟨0,[],.nil,by simp,by omega,by simp (disch:=omega)only[↓pa,↓reduceIte,reduceCtorEq,f0],by simp (disch:=omega)only[↓pa,↓reduceIte,Nat.reduceEqDiff,f1],by simp (disch:=omega)only[↓pa,↓reduceIte,Nat.reduceEqDiff,f2],by simp (disch:=omega)only[↓pa,↓reduceIte,Nat.reduceEqDiff]<;>rfl,by simp (disch:=omega)only[↓pa,↓reduceIte,Nat.reduceEqDiff]<;>rfl,by simp (disch:=omega)only[↓pa,↓reduceIte]<;>rfl,by simp (disch:=omega)only[↓pa,↓reduceIte,Nat.reduceEqDiff,f7],by simp (disch:=omega)only[↓pa,↓reduceIte,Nat.reduceEqDiff]<;>rfl,Like_nil,.inl rfl,rfl,TokOK_nil,hfl⟩ ?_
 clear f0 f1 f2 f7 hfl
 rintro q fr st ⟨i,cs,tk,rfl,hi,f0,f1,f2,f40,f41,f42,f7,f12,hL,hto,hso,hT,hfl⟩
 have hfl2:=fcPs_len what a b i
 have hl2:([PV.bool true,PV.bool false]:List PV).length=2:=rfl
 simp (disch:=omega)only[↓pa,pb,↓reduceIte,f41,f42]
 refine Cnd_intro (fun k1=>?_) (fun k1=>?_)
 rotate_left
 ·have hi2:i=2:=by omega
  subst hi2
  simp (disch:=omega)only[↓pa,pb,↓reduceIte,Nat.reduceEqDiff,pmj,f12,k1]
  refine⟨rfl,hL.np,hso,?_,?_⟩
  ·simpa using hT
  ·simp only[pmz,hL.st];rfl
 have hlt:i<2:=by omega
 have hnx:=fcPs_next what a b hlt
 generalize hN:namesP a b=N at*
 have hmN:(N.map S).length=N.length:=by simp
 simp (disch:=omega)only[↓pa,pb,↓reduceIte,Nat.reduceEqDiff,f40,f42,f7,k1,Nat.mul_one,goA_at hlt]
 refine Wp_rounds (fun q fr st=>∃ (j:Nat) (cs:List PV) (tk:Tok),q=N.length-j∧j≤N.length∧fr 0=S what∧fr 1=FX a∧fr 2=FX b∧fr 40= .list 2 [.bool true,.bool false] (.full 4)∧fr 41=I 2∧fr 42=I i∧fr 7= .list N.length (N.map S) tok∧fr 14= .bool (goA i)∧fr 46= .list N.length (N.map S) tok∧fr 47=I N.length∧fr 48=I j∧
   fr 12= .list (fcPs what a b i++(N.take j).flatMap (fcP1 (goA i) what a b)).length cs tk∧
   Like cc 12 (fcPs what a b i++(N.take j).flatMap (fcP1 (goA i) what a b)) cs∧ownT 85 tk∧solid (.list (fcPs what a b i++(N.take j).flatMap (fcP1 (goA i) what a b)).length cs tk)=true∧TokOK st ([]++toks (.list (fcPs what a b i++(N.take j).flatMap (fcP1 (goA i) what a b)).length cs tk)++[])∧st.fl≤st.nx) N.length (by omega)
  ⟨0,cs,tk,by simp,by omega,by simp (disch:=omega)only[↓pa,↓reduceIte,reduceCtorEq,f0],by simp (disch:=omega)only[↓pa,↓reduceIte,Nat.reduceEqDiff,f1],by simp (disch:=omega)only[↓pa,↓reduceIte,Nat.reduceEqDiff,f2],by simp (disch:=omega)only[↓pa,↓reduceIte,Nat.reduceEqDiff,f40],by simp (disch:=omega)only[↓pa,↓reduceIte,Nat.reduceEqDiff,f41],by simp (disch:=omega)only[↓pa,↓reduceIte,Nat.reduceEqDiff,f42],by simp (disch:=omega)only[↓pa,↓reduceIte,Nat.reduceEqDiff,f7],by simp (disch:=omega)only[↓pa,↓reduceIte,Nat.reduceEqDiff],by simp (disch:=omega)only[↓pa,↓reduceIte,Nat.reduceEqDiff],by simp (disch:=omega)only[↓pa,↓reduceIte,Nat.reduceEqDiff],by simp (disch:=omega)only[↓pa,↓reduceIte]<;>rfl,by simp (disch:=omega)only[↓pa,↓reduceIte,Nat.reduceEqDiff,f12];simp,by simpa using hL,hto,by simpa using hso,by simpa using hT,hfl⟩ ?_
 clear f0 f1 f2 f40 f41 f42 f7 f12 hfl hL hto hso hT
 rintro q fr st ⟨j,cs,tk,rfl,hj,f0,f1,f2,f40,f41,f42,f7,f14,f46,f47,f48,f12,hL,hto,hso,hT,hfl⟩
 have hb1:=flat_bound (fcP1_len (goA i) what a b) (N.take j)
 rw[List.length_take]at hb1
 have hlen:(fcPs what a b i++(N.take j).flatMap (fcP1 (goA i) what a b)).length≤6000000:=by rw[List.length_append];omega
 simp (disch:=omega)only[↓pa,pb,natP,↓reduceIte,f47,f48]
 refine Cnd_intro (fun m1=>?_) (fun m1=>?_)
 rotate_left
 ·have hjN:N.take j=N:=List.take_of_length_le (by omega)
  rw[hjN,←hnx]at hL hso hT f12
  simp (disch:=omega)only[↓pa,pb,natP,↓reduceIte,Nat.reduceEqDiff,reduceCtorEq,f0,f1,f2,f40,f41,f42,f7,f12,m1]
  exact⟨2- (i+1),by omega,i+1,cs,tk,rfl,by omega,rfl,rfl,hL,hto,hso,hT,hfl⟩
 have hjt:j<N.length:=by omega
 have hns:=flat_snoc (f:=fcP1 (goA i) what a b) hjt
 have hfb:=fun st=>c_fieldOf (st:=st) K b N[j] (by omega)
 have hfa:=fun st=>c_fieldOf (st:=st) K a N[j] (by omega)
 simp (disch:=omega)only[↓pa,pb,↓reduceIte,Nat.reduceEqDiff,ne_eq,f1,f2,f46,f48,m1,Nat.mul_one,partP_st hjt,hfb,hfa,nullT_eq]
 refine Cnd_intro (fun m2=>?_) (fun m2=>?_)
 ·rw[fcP1,if_neg (by simp[m2]),List.append_nil]at hns
  simp (disch:=omega)only[↓pa,pb,natP,↓reduceIte,Nat.reduceEqDiff,reduceCtorEq,f0,f1,f2,f40,f41,f42,f7,f14,f46,f47,f48,f12,m2]
  exact⟨N.length- (j+1),by omega,j+1,cs,tk,rfl,by omega,rfl,by rw[hns],by rw[hns];exact hL,hto,by rw[hns];exact hso,by rw[hns];exact hT,hfl⟩
 ·simp (disch:=omega)only[↓pa,pb,↓reduceIte,Nat.reduceEqDiff,f14,m2,beqP_ok]
  refine Cnd_intro (fun m3=>?_) (fun m3=>?_)
  ·have m3':decide (fieldV b N[j]=nullT)=goA i:=by simpa using m3
   rw[fcP1,if_pos ⟨m2,m3'⟩]at hns
   have hcell:(fcPs what a b i++(N.take (j+1)).flatMap (fcP1 (goA i) what a b))=(fcPs what a b i++(N.take j).flatMap (fcP1 (goA i) what a b))++[chF what N[j] (fieldV b N[j])]:=by rw[hns,List.append_assoc]
   have hcl:(fcPs what a b i++(N.take (j+1)).flatMap (fcP1 (goA i) what a b)).length=(fcPs what a b i++(N.take j).flatMap (fcP1 (goA i) what a b)).length+1:=by rw[hcell,List.length_append];rfl
   simp (disch:=omega)only[↓pa,↓pmx,pb,pmy,↓reduceIte,Nat.reduceEqDiff,Nat.reduceAdd,Nat.reduceLeDiff,Nat.reduceLT,reduceCtorEq,f0,f12,m3]
   refine RunsTo_appP (X:=[]) (Y:=[]) hto hso (by rfl) (by have h:=hT;simp only[List.nil_append,List.append_nil]at h ⊢;exact(List.append_nil _).symm▸h) hfl hL.len rfl (by omega) (by omega) (by decide) (fun st1 tk1 hto1 hso1 hT1 ho1 hfl1 hnx1=>?_)
   simp (disch:=omega)only[↓pa,pb,natP,↓reduceIte,Nat.reduceEqDiff,reduceCtorEq,f0,f1,f2,f40,f41,f42,f7,f14,f46,f47,f48]
   exact⟨N.length- (j+1),by omega,j+1,_,tk1,rfl,by omega,rfl,by rw[hcl],by rw[hcell];exact Like_snoc hL rfl (cF_strip _ _ _) rfl,hto1,by rw[hcl];exact hso1,by rw[hcl];exact hT1,by omega⟩
  ·have m3':¬decide (fieldV b N[j]=nullT)=goA i:=by simpa using m3
   rw[fcP1,if_neg (fun h=>m3' h.2),List.append_nil]at hns
   simp (disch:=omega)only[↓pa,pb,natP,↓reduceIte,Nat.reduceEqDiff,reduceCtorEq,f0,f1,f2,f40,f41,f42,f7,f14,f46,f47,f48,f12,m3]
   exact⟨N.length- (j+1),by omega,j+1,cs,tk,rfl,by omega,rfl,by rw[hns],by rw[hns];exact hL,hto,by rw[hns];exact hso,by rw[hns];exact hT,hfl⟩
end Go.PM
namespace Go.PM
open Go.Lib
theorem graph_parts{g:Gph}(h:graphOk g=true):g.nodes.length≤200∧g.edges.length≤400∧(∀ i,i<g.nodes.length→nodeOkAt g.nodes i=true)∧∀ i,i<g.edges.length→edgeOkAt g i=true:=by
 unfold graphOk at h
 rw[Bool.and_eq_true,Bool.and_eq_true,Bool.and_eq_true]at h
 have h1:=of_decide_eq_true h.1.1
 have h2:=of_decide_eq_true h.1.2
 exact⟨by omega,by omega,alln_iff.1 h.2.1,alln_iff.1 h.2.2⟩
theorem fields_len{l:List Fd}(h:fieldsOk l=true):l.length≤20:=by
 unfold fieldsOk at h
 rw[Bool.and_eq_true]at h
 have:=of_decide_eq_true h.1
 omega
theorem order_of:∀ {l:List (List UInt8)},(∀ i,(h:i+1<l.length)→sLt l[i] l[i+1]=true)→inOrder l
 | [],_=>List.Pairwise.nil
 | [a],_=>List.pairwise_singleton _ _
 |a::b::l,h=>by
  have ih:inOrder (b::l):=order_of fun i hi=>by
   have:=h (i+1) (by simp only[List.length_cons]at hi ⊢;omega)
   simpa using this
  have h0:sLt a b=true:=by simpa using h 0 (by simp)
  refine List.Pairwise.cons (fun c hc=>?_) ih
  rcases List.mem_cons.1 hc with rfl|hc
  ·exact h0
  ·exact sLt_trans h0 ((List.pairwise_cons.1 ih).1 c hc)
theorem fieldOk_null:fieldOk nullT=false:=by decide
theorem fields_ok{l:List Fd}(h:fieldsOk l=true):FdOk l:=by
 unfold fieldsOk at h
 rw[Bool.and_eq_true]at h
 have hall:=alln_iff.1 h.2
 refine⟨order_of fun i hi=>?_,fun f hf e=>?_⟩
 ·rw[List.length_map]at hi
  have:=hall (i+1) hi
  rw[fieldOkAt,Bool.and_eq_true,Bool.and_eq_true,frises]at this
  have h2:=this.2.1
  simp only[Nat.add_sub_cancel,fAt_eq hi,fAt_eq (show i<l.length by omega),Bool.or_eq_true,decide_eq_true_eq]at h2
  rcases h2 with h2|h2
  ·omega
  ·simpa using h2
 ·obtain⟨j,hj,he⟩:=List.getElem_of_mem hf
  have:=hall j hj
  rw[fieldOkAt,Bool.and_eq_true,Bool.and_eq_true,fAt_eq hj,he,e,fieldOk_null]at this
  exact absurd this.2.2 (by simp)
theorem labels_len{l:List (List UInt8)}(h:labelsOk 10 l=true):l.length≤10:=by
 unfold labelsOk at h
 rw[Bool.and_eq_true]at h
 have:=of_decide_eq_true h.1
 omega
theorem id_ok{n:Int}(h:idOk n=true):1≤n∧n≤1000000000000:=by
 unfold idOk at h
 rw[Bool.and_eq_true]at h
 exact⟨of_decide_eq_true h.1,of_decide_eq_true h.2⟩
structure NdOk (n:Nd):Prop where
 fl:n.fields.length≤20
 ll:n.labels.length≤10
 fd:FdOk n.fields
 id:1≤n.id∧n.id≤1000000000000
structure EgOk (e:Eg):Prop where
 fl:e.fields.length≤20
 fd:FdOk e.fields
 id:1≤e.id∧e.id≤1000000000000
def erisen(l:List Eg):Prop:=l.Pairwise fun a b=>a.id<b.id
theorem erisen_of:∀ {l:List Eg},(∀ i,(h:i+1<l.length)→l[i].id<l[i+1].id)→erisen l
 | [],_=>List.Pairwise.nil
 | [a],_=>List.pairwise_singleton _ _
 |a::b::l,h=>by
  have ih:erisen (b::l):=erisen_of fun i hi=>by
   have:=h (i+1) (by simp only[List.length_cons]at hi ⊢;omega)
   simpa using this
  have h0:a.id<b.id:=by simpa using h 0 (by simp)
  refine List.Pairwise.cons (fun c hc=>?_) ih
  rcases List.mem_cons.1 hc with rfl|hc
  ·exact h0
  ·exact Int.lt_trans h0 ((List.pairwise_cons.1 ih).1 c hc)
structure GrOk (g:Gph):Prop where
 nl:g.nodes.length≤200
 el:g.edges.length≤400
 ns:∀ n∈g.nodes,NdOk n
 es:∀ e∈g.edges,EgOk e
 nr:risen g.nodes
 er:erisen g.edges
theorem gr_ok{g:Gph}(h:graphOk g=true):GrOk g:=by
 obtain⟨h1,h2,h3,h4⟩:=graph_parts h
 refine⟨h1,h2,fun n hn=>?_,fun e he=>?_,graph_risen h,erisen_of fun i hi=>?_⟩
 ·obtain⟨j,hj,rfl⟩:=List.getElem_of_mem hn
  have:=h3 j hj
  rw[nodeOkAt,Bool.and_eq_true,nAt_eq hj,nodeOk,Bool.and_eq_true,Bool.and_eq_true]at this
  exact⟨fields_len this.1.2.2,labels_len this.1.2.1,fields_ok this.1.2.2,id_ok this.1.1⟩
 ·obtain⟨j,hj,rfl⟩:=List.getElem_of_mem he
  have:=h4 j hj
  rw[edgeOkAt,Bool.and_eq_true,eAt_eq hj,edgeOk,Bool.and_eq_true,Bool.and_eq_true,Bool.and_eq_true,Bool.and_eq_true]at this
  exact⟨fields_len this.1.2.2.2.2,fields_ok this.1.2.2.2.2,id_ok this.1.1⟩
 ·have:=h4 (i+1) hi
  rw[edgeOkAt,Bool.and_eq_true,Bool.and_eq_true,erises]at this
  have h2:=this.2.1
  simp only[Nat.add_sub_cancel,eAt_eq hi,eAt_eq (show i<g.edges.length by omega),Bool.or_eq_true,decide_eq_true_eq]at h2
  rcases h2 with h2|h2
  ·omega
  ·exact h2
def chDE(e:Eg):Ch:=⟨4,nd0,⟨e.id,[],0,0,[]⟩,[],[],[]⟩
def chDN(n:Nd):Ch:=⟨2,⟨n.id,[],[]⟩,eg0,[],[],[]⟩
def chAN(n:Nd):Ch:=⟨1,n,eg0,[],[],[]⟩
def chAE(e:Eg):Ch:=⟨3,nd0,e,[],[],[]⟩
def chL(id:Int)(l:List (List UInt8)):Ch:=⟨5,⟨id,l,[]⟩,eg0,[],[],[]⟩
def dE1(bE:List Eg)(e:Eg):List Ch:=if staysB bE e then []else [chDE e]
def dN1(bN:List Nd)(n:Nd):List Ch:=if nodeIx bN n.id<0 then [chDN n]else []
def aN1(aN:List Nd)(n:Nd):List Ch:=if nodeIx aN n.id<0 then [chAN n]else []
def aES(aE:List Eg)(e:Eg):List Ch:=if staysB aE e then []else [chAE e]
def aEP(aE bE:List Eg)(e:Eg):List Ch:=match edgeOf aE e.id with
 |none=>[chAE e]
 |some x=>if staysB bE x then []else [chAE e]
def labC(id:Int)(l m:List (List UInt8)):List Ch:=if l=m then []else [chL id m]
def nwhat(id:Int):List UInt8:=[110]++itoa id
def ewhat(id:Int):List UInt8:=[101]++itoa id
def nFS(bN:List Nd)(n:Nd):List Ch:=match nodeOf bN n.id with
 |none=>[]
 |some m=>labC n.id n.labels m.labels++fcS (nwhat n.id) n.fields m.fields
def nFP(aN:List Nd)(m:Nd):List Ch:=match nodeOf aN m.id with
 |none=>[]
 |some n=>labC m.id n.labels m.labels++fcP (nwhat m.id) n.fields m.fields
def eFS(bE:List Eg)(e:Eg):List Ch:=match edgeOf bE e.id with
 |none=>[]
 |some x=>if same x e then fcS (ewhat e.id) e.fields x.fields else []
def eFP(aE bE:List Eg)(e:Eg):List Ch:=match edgeOf aE e.id with
 |none=>[]
 |some x=>if staysB bE x then fcP (ewhat e.id) x.fields e.fields else []
def diffS(a b:Gph):List Ch:=a.edges.flatMap (dE1 b.edges)++a.nodes.flatMap (dN1 b.nodes)++b.nodes.flatMap (aN1 a.nodes)++b.edges.flatMap (aES a.edges)++a.nodes.flatMap (nFS b.nodes)++a.edges.flatMap (eFS b.edges)
def diffP(a b:Gph):List Ch:=a.edges.flatMap (dE1 b.edges)++a.nodes.flatMap (dN1 b.nodes)++b.nodes.flatMap (aN1 a.nodes)++b.edges.flatMap (aEP a.edges b.edges)++b.nodes.flatMap (nFP a.nodes)++b.edges.flatMap (eFP a.edges b.edges)
theorem edgeOf_some{l:List Eg}{id:Int}{x:Eg}(h:edgeOf l id=some x):x∈l∧x.id=id:=by
 unfold edgeOf at h
 exact⟨List.mem_of_find?_eq_some h,by simpa using List.find?_some h⟩
theorem nodeOf_some{l:List Nd}{id:Int}{x:Nd}(h:nodeOf l id=some x):x∈l∧x.id=id:=by
 unfold nodeOf at h
 exact⟨List.mem_of_find?_eq_some h,by simpa using List.find?_some h⟩
theorem edgeOf_mem:∀ {l:List Eg},erisen l→∀ {x:Eg},x∈l→edgeOf l x.id=some x
 | [],_,_,h=>by simp at h
 |y::l,hr,x,h=>by
  have h2:=List.pairwise_cons.1 hr
  unfold edgeOf
  rw[List.find?_cons]
  rcases List.mem_cons.1 h with rfl|hx
  ·simp
  ·have:y.id<x.id:=h2.1 x hx
   have hne:decide (y.id=x.id)=false:=by simp;omega
   rw[hne]
   exact edgeOf_mem h2.2 hx
theorem same_symm(x e:Eg):same x e=same e x:=by
 unfold same
 congr 1
 ·exact decide_eq_decide.2 eq_comm
 ·congr 1<;>exact decide_eq_decide.2 eq_comm
theorem stays_mem{l:List Eg}(hr:erisen l){x e:Eg}(hx:e∈l)(hid:x.id=e.id):staysB l x=same e x:=by
 rw[staysB,hid,edgeOf_mem hr hx]
theorem flatMap_same{α β:Type}{f g:α→List β}:∀ {l:List α},(∀ a∈l,f a=g a)→l.flatMap f=l.flatMap g
 | [],_=>rfl
 |a::l,h=>by
  rw[List.flatMap_cons,List.flatMap_cons,h a List.mem_cons_self,flatMap_same fun x hx=>h x (List.mem_cons_of_mem _ hx)]
theorem both_nodes(G:Nd→Nd→List Ch):∀ {a b:List Nd},risen a→risen b→
  a.flatMap (fun n=>match nodeOf b n.id with|none=>[]|some m=>G n m)=b.flatMap (fun m=>match nodeOf a m.id with|none=>[]|some n=>G n m):=by
 intro a b
 induction a generalizing b with
 |nil=>
  intro _ _
  rw[List.flatMap_nil]
  have:∀ l:List Nd,l.flatMap (fun m=>match nodeOf [] m.id with|none=>[]|some n=>G n m)=[]:=fun l=>by
   induction l with
   |nil=>rfl
   |cons x l ih=>rw[List.flatMap_cons,ih];rfl
  rw[this]
 |cons n a iha=>
  intro ha hb
  have ha2:=List.pairwise_cons.1 ha
  induction b with
  |nil=>
   have:∀ l:List Nd,l.flatMap (fun n=>match nodeOf [] n.id with|none=>[]|some m=>G n m)=[]:=fun l=>by
    induction l with
    |nil=>rfl
    |cons x l ih=>rw[List.flatMap_cons,ih];rfl
   rw[this];rfl
  |cons m b ihb=>
   have hb2:=List.pairwise_cons.1 hb
   have skipN:∀ {x:Nd} {l:List Nd} {id:Int},x.id≠id→nodeOf (x::l) id=nodeOf l id:=fun{x l id} h=>by
    unfold nodeOf
    rw[List.find?_cons,decide_eq_false h]
   have none_of:∀ {l:List Nd} {id:Int},(∀ x∈l,id<x.id)→nodeOf l id=none:=fun{l id} h=>by
    unfold nodeOf
    rw[List.find?_eq_none]
    intro x hx
    have:=h x hx
    simp;omega
   by_cases h:n.id<m.id
   ·rw[List.flatMap_cons]
    have e1:nodeOf (m::b) n.id=none:=none_of fun x hx=>by
     rcases List.mem_cons.1 hx with rfl|hx
     ·exact h
     ·exact Int.lt_trans h (hb2.1 x hx)
    rw[e1,List.nil_append,iha ha2.2 hb]
    refine flatMap_same fun x hx=>?_
    have:n.id≠x.id:=by
     rcases List.mem_cons.1 hx with rfl|hx
     ·omega
     ·have:=hb2.1 x hx;omega
    rw[skipN this]
   ·by_cases h2:m.id<n.id
    ·conv=>rhs;rw[List.flatMap_cons]
     have e1:nodeOf (n::a) m.id=none:=none_of fun x hx=>by
      rcases List.mem_cons.1 hx with rfl|hx
      ·exact h2
      ·exact Int.lt_trans h2 (ha2.1 x hx)
     rw[e1,List.nil_append,←ihb hb2.2]
     refine flatMap_same fun x hx=>?_
     have:m.id≠x.id:=by
      rcases List.mem_cons.1 hx with rfl|hx
      ·omega
      ·have:=ha2.1 x hx;omega
     rw[skipN this]
    ·have he:m.id=n.id:=by omega
     rw[List.flatMap_cons,List.flatMap_cons]
     have e1:nodeOf (m::b) n.id=some m:=by unfold nodeOf;rw[List.find?_cons,decide_eq_true he]
     have e2:nodeOf (n::a) m.id=some n:=by unfold nodeOf;rw[List.find?_cons,decide_eq_true he.symm]
     rw[e1,e2]
     congr 1
     have q1:a.flatMap (fun n=>match nodeOf (m::b) n.id with|none=>[]|some m=>G n m)=a.flatMap (fun n=>match nodeOf b n.id with|none=>[]|some m=>G n m):=
      flatMap_same fun x hx=>by
       have:m.id≠x.id:=by have:=ha2.1 x hx;omega
       rw[skipN this]
     have q2:b.flatMap (fun x=>match nodeOf (n::a) x.id with|none=>[]|some n=>G n x)=b.flatMap (fun x=>match nodeOf a x.id with|none=>[]|some n=>G n x):=
      flatMap_same fun x hx=>by
       have:n.id≠x.id:=by have:=hb2.1 x hx;omega
       rw[skipN this]
     rw[q1,q2]
     exact iha ha2.2 hb2.2
theorem both_edges(G:Eg→Eg→List Ch):∀ {a b:List Eg},erisen a→erisen b→
  a.flatMap (fun n=>match edgeOf b n.id with|none=>[]|some m=>G n m)=b.flatMap (fun m=>match edgeOf a m.id with|none=>[]|some n=>G n m):=by
 intro a b
 induction a generalizing b with
 |nil=>
  intro _ _
  rw[List.flatMap_nil]
  have:∀ l:List Eg,l.flatMap (fun m=>match edgeOf [] m.id with|none=>[]|some n=>G n m)=[]:=fun l=>by
   induction l with
   |nil=>rfl
   |cons x l ih=>rw[List.flatMap_cons,ih];rfl
  rw[this]
 |cons n a iha=>
  intro ha hb
  have ha2:=List.pairwise_cons.1 ha
  induction b with
  |nil=>
   have:∀ l:List Eg,l.flatMap (fun n=>match edgeOf [] n.id with|none=>[]|some m=>G n m)=[]:=fun l=>by
    induction l with
    |nil=>rfl
    |cons x l ih=>rw[List.flatMap_cons,ih];rfl
   rw[this];rfl
  |cons m b ihb=>
   have hb2:=List.pairwise_cons.1 hb
   have skipN:∀ {x:Eg} {l:List Eg} {id:Int},x.id≠id→edgeOf (x::l) id=edgeOf l id:=fun{x l id} h=>by
    unfold edgeOf
    rw[List.find?_cons,decide_eq_false h]
   have none_of:∀ {l:List Eg} {id:Int},(∀ x∈l,id<x.id)→edgeOf l id=none:=fun{l id} h=>by
    unfold edgeOf
    rw[List.find?_eq_none]
    intro x hx
    have:=h x hx
    simp;omega
   by_cases h:n.id<m.id
   ·rw[List.flatMap_cons]
    have e1:edgeOf (m::b) n.id=none:=none_of fun x hx=>by
     rcases List.mem_cons.1 hx with rfl|hx
     ·exact h
     ·exact Int.lt_trans h (hb2.1 x hx)
    rw[e1,List.nil_append,iha ha2.2 hb]
    refine flatMap_same fun x hx=>?_
    have:n.id≠x.id:=by
     rcases List.mem_cons.1 hx with rfl|hx
     ·omega
     ·have:=hb2.1 x hx;omega
    rw[skipN this]
   ·by_cases h2:m.id<n.id
    ·conv=>rhs;rw[List.flatMap_cons]
     have e1:edgeOf (n::a) m.id=none:=none_of fun x hx=>by
      rcases List.mem_cons.1 hx with rfl|hx
      ·exact h2
      ·exact Int.lt_trans h2 (ha2.1 x hx)
     rw[e1,List.nil_append,←ihb hb2.2]
     refine flatMap_same fun x hx=>?_
     have:m.id≠x.id:=by
      rcases List.mem_cons.1 hx with rfl|hx
      ·omega
      ·have:=ha2.1 x hx;omega
     rw[skipN this]
    ·have he:m.id=n.id:=by omega
     rw[List.flatMap_cons,List.flatMap_cons]
     have e1:edgeOf (m::b) n.id=some m:=by unfold edgeOf;rw[List.find?_cons,decide_eq_true he]
     have e2:edgeOf (n::a) m.id=some n:=by unfold edgeOf;rw[List.find?_cons,decide_eq_true he.symm]
     rw[e1,e2]
     congr 1
     have q1:a.flatMap (fun n=>match edgeOf (m::b) n.id with|none=>[]|some m=>G n m)=a.flatMap (fun n=>match edgeOf b n.id with|none=>[]|some m=>G n m):=
      flatMap_same fun x hx=>by
       have:m.id≠x.id:=by have:=ha2.1 x hx;omega
       rw[skipN this]
     have q2:b.flatMap (fun x=>match edgeOf (n::a) x.id with|none=>[]|some n=>G n x)=b.flatMap (fun x=>match edgeOf a x.id with|none=>[]|some n=>G n x):=
      flatMap_same fun x hx=>by
       have:n.id≠x.id:=by have:=hb2.1 x hx;omega
       rw[skipN this]
     rw[q1,q2]
     exact iha ha2.2 hb2.2
theorem diff_same{a b:Gph}(ha:GrOk a)(hb:GrOk b):diffS a b=diffP a b:=by
 have e4:b.edges.flatMap (aES a.edges)=b.edges.flatMap (aEP a.edges b.edges):=flatMap_same fun e he=>by
  unfold aES aEP
  cases h:edgeOf a.edges e.id with
  |none=>
   have hs:staysB a.edges e=false:=by rw[staysB,h]
   rw[hs];rfl
  |some x=>
   have hs:staysB a.edges e=same x e:=by rw[staysB,h]
   simp only[hs]
   rw[stays_mem hb.er he (edgeOf_some h).2,same_symm]
 have e5:a.nodes.flatMap (nFS b.nodes)=b.nodes.flatMap (nFP a.nodes):=by
  have h1:a.nodes.flatMap (nFS b.nodes)=a.nodes.flatMap (fun n=>match nodeOf b.nodes n.id with|none=>[]|some m=>labC m.id n.labels m.labels++fcP (nwhat m.id) n.fields m.fields):=flatMap_same fun n hn=>by
   unfold nFS
   cases h:nodeOf b.nodes n.id with
   |none=>rfl
   |some m=>
    obtain⟨h2,h3⟩:=nodeOf_some h
    simp only
    rw[h3,fc_same (ha.ns n hn).fd (hb.ns m h2).fd]
  rw[h1,both_nodes _ ha.nr hb.nr];rfl
 have e6:a.edges.flatMap (eFS b.edges)=b.edges.flatMap (eFP a.edges b.edges):=by
  have h1:a.edges.flatMap (eFS b.edges)=a.edges.flatMap (fun n=>match edgeOf b.edges n.id with|none=>[]|some m=>if same m n then fcP (ewhat m.id) n.fields m.fields else []):=flatMap_same fun n hn=>by
   unfold eFS
   cases h:edgeOf b.edges n.id with
   |none=>rfl
   |some m=>
    obtain⟨h2,h3⟩:=edgeOf_some h
    simp only
    rw[h3,fc_same (ha.es n hn).fd (hb.es m h2).fd]
  have h2:b.edges.flatMap (eFP a.edges b.edges)=b.edges.flatMap (fun m=>match edgeOf a.edges m.id with|none=>[]|some n=>if same m n then fcP (ewhat m.id) n.fields m.fields else []):=flatMap_same fun m hm=>by
   unfold eFP
   cases h:edgeOf a.edges m.id with
   |none=>rfl
   |some x=>
    simp only
    rw[stays_mem hb.er hm (edgeOf_some h).2]
  rw[h1,h2,both_edges _ ha.er hb.er]
 rw[diffS,diffP,e4,e5,e6]
end Go.PM
namespace Go.PM
open Go.Lib
variable {cf:CallF} {st:St} {mk:PV→St→Fr×St} {A:Fr×St→Prop} {s:Nat}
theorem RunsTo_appg{e sz bytes n m:Nat}{cs ds:List PV}{tk u:Tok}(h:Gr e st.nx st.cnt n tk)(h1:cs.length=n*sz)(h2:ds.length=m*sz)(h3:(n+m) *bytes≤140737488355328)(h4:n+m≤140737488355328)(h5:0<sz)
  (k:∀ st' t',st'.objs=st.objs→Gr e st'.nx st'.cnt (n+m) t'→A (mk (.list (n+m) (cs++ds) t') st')):RunsTo (appP e sz bytes (.list n cs tk) (.list m ds u) st) mk A:=
 RunsTo_app h h1 h2 h3 h4 h5 (k _ _ appS_objs (Gr_app h))
theorem Like_cat{α:Type}{enc:α→List PV}{m:Nat}{l l2:List α}{cs ds:List PV}(h:Like enc m l cs)(h2:Like enc m l2 ds):Like enc m (l++l2) (cs++ds):=
 ⟨by rw[List.length_append,h.len,h2.len,List.length_append,Nat.add_mul],by rw[strips_append,h.st,h2.st,List.flatMap_append],nps_append h.np h2.np⟩
theorem cc_of(c:Ch){t1 t2 t3:Tok}:strips [I c.kind,I c.node.id,.list c.node.labels.length (c.node.labels.map S) t1,.list c.node.fields.length (c.node.fields.flatMap fc) t2,I c.edge.id,S c.edge.type,I c.edge.src,I c.edge.dst,.list c.edge.fields.length (c.edge.fields.flatMap fc) t3,S c.value,S c.name,S c.text]=cc c∧
  nps [I c.kind,I c.node.id,.list c.node.labels.length (c.node.labels.map S) t1,.list c.node.fields.length (c.node.fields.flatMap fc) t2,I c.edge.id,S c.edge.type,I c.edge.src,I c.edge.dst,.list c.edge.fields.length (c.edge.fields.flatMap fc) t3,S c.value,S c.name,S c.text]=true:=by
 have h1:=(tx_plain c.node.labels)
 have h2:=(fs_plain c.node.fields)
 have h3:=(fs_plain c.edge.fields)
 constructor
 ·simp only[pmz,h1.2.1,h2.2.1,h3.2.1];rfl
 ·simp only[pmz,h1.1,h2.1,h3.1,Bool.and_self]
theorem flat_boundM{α β:Type}{f:α→List β}{m:Nat}:∀ {l:List α},(∀ a∈l,(f a).length≤m)→(l.flatMap f).length≤l.length*m
 | [],_=>by simp
 |a::l,h=>by
  have:=flat_boundM (f:=f) (l:=l) (m:=m) fun x hx=>h x (List.mem_cons_of_mem _ hx)
  have:=h a List.mem_cons_self
  rw[List.flatMap_cons,List.length_append,List.length_cons,Nat.succ_mul];omega
theorem pre_bound{α:Type}{f:α→List Ch}{m B:Nat}{l:List α}{P:List Ch}(hP:P.length≤B)(h:∀ a∈l,(f a).length≤m)(i:Nat):(P++(l.take i).flatMap f).length≤B+l.length*m:=by
 have h1:=flat_boundM (f:=f) (m:=m) (l:=l.take i) fun a ha=>h a (List.mem_of_mem_take ha)
 have h2:(l.take i).length*m≤l.length*m:=Nat.mul_le_mul_right _ (by rw[List.length_take];omega)
 rw[List.length_append];omega
theorem pre_next{α:Type}{f:α→List Ch}{l:List α}{P:List Ch}{i:Nat}(h:i<l.length):P++(l.take (i+1)).flatMap f=(P++(l.take i).flatMap f)++f l[i]:=by
 rw[flat_snoc h,List.append_assoc]
theorem fcS_len(what:List UInt8)(a b:List Fd):(fcS what a b).length≤2* (a.length+b.length):=by
 have h1:=flat_bound (fcG1_len what b) (namesS a b)
 have h2:=flat_bound (fcO1_len what a b) (namesS a b)
 have h3:=sortT_len (a.map (·.1)++moreS a b)
 have h4:=moreS_len a b
 rw[List.length_append,List.length_map]at h3
 have h5:(namesS a b).length≤a.length+b.length:=by unfold namesS;omega
 rw[fcS,List.length_append];omega
theorem fcP_len(what:List UInt8)(a b:List Fd):(fcP what a b).length≤4* (a.length+b.length):=by
 have h1:=flat_bound (fcP1_len true what a b) (namesP a b)
 have h2:=flat_bound (fcP1_len false what a b) (namesP a b)
 have h3:=fold_len (l:=b.map (·.1)) (o:=sortT (a.map (·.1)))
 have h4:=sortT_len (a.map (·.1))
 rw[List.length_map]at h3 h4
 have h5:(namesP a b).length≤a.length+b.length:=by unfold namesP;omega
 rw[fcP,List.length_append];omega
theorem dE1_len(l:List Eg)(e:Eg):(dE1 l e).length≤1:=by unfold dE1;split<;>simp
theorem dN1_len(l:List Nd)(e:Nd):(dN1 l e).length≤1:=by unfold dN1;split<;>simp
theorem aN1_len(l:List Nd)(e:Nd):(aN1 l e).length≤1:=by unfold aN1;split<;>simp
theorem aES_len(l:List Eg)(e:Eg):(aES l e).length≤1:=by unfold aES;split<;>simp
theorem aEP_len(l m:List Eg)(e:Eg):(aEP l m e).length≤1:=by unfold aEP;split<;>(try split)<;>simp
theorem labC_len(id:Int)(l m:List (List UInt8)):(labC id l m).length≤1:=by unfold labC;split<;>simp
theorem nFS_len{l:List Nd}{n:Nd}(h:NdOk n)(hl:∀ m∈l,NdOk m):(nFS l n).length≤161:=by
 unfold nFS
 split
 ·simp
 ·rename_i m hm
  have h1:=labC_len n.id n.labels m.labels
  have h2:=fcS_len (nwhat n.id) n.fields m.fields
  have h3:=h.fl
  have h4:=(hl m (nodeOf_some hm).1).fl
  rw[List.length_append];omega
theorem nFP_len{l:List Nd}{n:Nd}(h:NdOk n)(hl:∀ m∈l,NdOk m):(nFP l n).length≤161:=by
 unfold nFP
 split
 ·simp
 ·rename_i m hm
  have h1:=labC_len n.id m.labels n.labels
  have h2:=fcP_len (nwhat n.id) m.fields n.fields
  have h3:=h.fl
  have h4:=(hl m (nodeOf_some hm).1).fl
  rw[List.length_append];omega
theorem eFS_len{l:List Eg}{n:Eg}(h:EgOk n)(hl:∀ m∈l,EgOk m):(eFS l n).length≤160:=by
 unfold eFS
 split
 ·simp
 ·rename_i m hm
  have h2:=fcS_len (ewhat n.id) n.fields m.fields
  have h3:=h.fl
  have h4:=(hl m (edgeOf_some hm).1).fl
  split
  ·omega
  ·simp
theorem eFP_len{l k:List Eg}{n:Eg}(h:EgOk n)(hl:∀ m∈l,EgOk m):(eFP l k n).length≤160:=by
 unfold eFP
 split
 ·simp
 ·rename_i m hm
  have h2:=fcP_len (ewhat n.id) m.fields n.fields
  have h3:=h.fl
  have h4:=(hl m (edgeOf_some hm).1).fl
  split
  ·omega
  ·simp
theorem nodup_names{a b:List Fd}(ha:FdOk a)(hb:FdOk b):(a.map (·.1)++moreS a b).Nodup:=by
 have nd:∀ {l:List (List UInt8)},inOrder l→l.Nodup:=fun h=>List.Pairwise.imp (fun h e=>by rw[e,sLt_irrefl]at h;cases h) h
 rw[List.nodup_append]
 refine⟨nd ha.ord,List.Pairwise.filter _ (nd hb.ord),fun x hx y hy e=>?_⟩
 subst e
 unfold moreS at hy
 rw[List.mem_filter,decide_eq_true_eq,fieldV_iff ha]at hy
 exact hy.2 hx
theorem eg_of{j:Nat}{l:List Eg}(h:∀ e∈l,EgOk e)(hj:j<l.length):EgOk l[j]:=h _ (List.getElem_mem hj)
theorem nd_of{j:Nat}{l:List Nd}(h:∀ e∈l,NdOk e)(hj:j<l.length):NdOk l[j]:=h _ (List.getElem_mem hj)
set_option maxHeartbeats 16000000 in
theorem c_l02Diff(K:Env cf)(a b:Gph)(ha:GrOk a)(hb:GrOk b):∃ r,r=HX (diffS a b)∧∃ fl,callP cf 54 [.agg (gc a),.agg (gc b)] [] st=some (r,setF st fl):=by
 refine c_valE K.tab (F:=F54) (Q:=fun r=>r=HX (diffS a b)) rfl rfl rfl (lb rfl) (by simp[plainV_gr]) 1000 ?_
 have hm1:=flat_len nc 3 nc_len a.nodes
 have hm2:=flat_len ec 5 ec_len a.edges
 have hm3:=flat_len nc 3 nc_len b.nodes
 have hm4:=flat_len ec 5 ec_len b.edges
 have anl:=ha.nl
 have ael:=ha.el
 have bnl:=hb.nl
 have bel:=hb.el
 have e110:(PV.str ⟨#[110]⟩)=S [110]:=rfl
 have e101:(PV.str ⟨#[101]⟩)=S [101]:=rfl
 have l110:([110]:List UInt8).length=1:=rfl
 have l101:([101]:List UInt8).length=1:=rfl
 have hstB:∀ (e:Eg) (st:St),callP cf 95 [.agg [NX b.nodes,EX b.edges],.agg (ec e)] [] st=some (.bool (staysB b.edges e),st):=fun e st=>c_staysS K b e (by omega)
 have hstA:∀ (e:Eg) (st:St),callP cf 95 [.agg [NX a.nodes,EX a.edges],.agg (ec e)] [] st=some (.bool (staysB a.edges e),st):=fun e st=>c_staysS K a e (by omega)
 have hnaB:∀ id st,callP cf 83 [.agg [NX b.nodes,EX b.edges],I id] [] st=some (I (nodeIx b.nodes id),st):=fun id st=>c_nodeAtS K b id (by omega)
 have hnaA:∀ id st,callP cf 83 [.agg [NX a.nodes,EX a.edges],I id] [] st=some (I (nodeIx a.nodes id),st):=fun id st=>c_nodeAtS K a id (by omega)
 have heaB:∀ id st,callP cf 99 [.agg [NX b.nodes,EX b.edges],I id] [] st=some (I (edgeIx b.edges id),st):=fun id st=>c_edgeAtS K b id (by omega)
 unfold F54 qr qd qm qi qc qb qk ql qf qo qN
 simp (disch:=omega)only[↓pa,↓pmx,pb,pmy,↓reduceIte,Nat.reduceEqDiff,Nat.reduceAdd,Nat.reduceLT,gc,List.replicate_zero,List.flatten_nil]
 refine Wp_rounds (fun q fr st=>∃ (i:Nat) (cs:List PV) (tok:Tok),q=a.edges.length-i∧i≤a.edges.length∧fr 2= .ptr 2 0∧fr 3= .ptr 3 0∧st.objs 2=some [NX a.nodes,EX a.edges]∧st.objs 3=some [NX b.nodes,EX b.edges]∧fr 5= .list (([]:List Ch)++(a.edges.take i).flatMap (dE1 b.edges)).length cs tok∧fr 6=I i∧Like cc 12 (([]:List Ch)++(a.edges.take i).flatMap (dE1 b.edges)) cs∧Gr 85 st.nx st.cnt (([]:List Ch)++(a.edges.take i).flatMap (dE1 b.edges)).length tok) a.edges.length (by omega)
  ⟨0,[],.full 85,by simp,by omega,by simp (disch:=omega)only[↓pa,pb,↓reduceIte,Nat.reduceEqDiff],by simp (disch:=omega)only[↓pa,↓reduceIte,Nat.reduceEqDiff],by simp (disch:=omega)only[pb,↓reduceIte,Nat.reduceEqDiff]<;>rfl,by simp (disch:=omega)only[pb,↓reduceIte]<;>rfl,by simp (disch:=omega)only[↓pa,↓reduceIte,Nat.reduceEqDiff]<;>rfl,by simp (disch:=omega)only[↓pa,↓reduceIte]<;>rfl,Like_nil,Gr_full⟩ ?_
 rintro q fr st ⟨i,cs,tok,rfl,hi,f2,f3,o2,o3,f5,fI,hL,hG⟩
 have hB:=pre_bound (l:=a.edges) (f:=dE1 b.edges) (P:=([]:List Ch)) (B:=0) (m:=1) (by simp) (fun e _=>dE1_len _ e) i
 simp (disch:=omega)only[↓pa,pb,pmy,natP,↓reduceIte,Nat.reduceEqDiff,Nat.reduceAdd,f2,o2,fI]
 refine Cnd_intro (fun k1=>?_) (fun k1=>?_)
 ·have hlt:i<a.edges.length:=by omega
  have hnx:=pre_next (f:=dE1 b.edges) (P:=([]:List Ch)) hlt
  cases hs:staysB b.edges a.edges[i]with
  |true=>
   rw[dE1,hs,if_pos rfl,List.append_nil]at hnx
   simp (disch:=omega)only[↓pa,pb,pmy,natP,↓reduceIte,Nat.reduceEqDiff,Nat.reduceAdd,Nat.reduceLeDiff,f2,f3,o2,o3,f5,fI,k1,partP_e hlt,hstB,hs]
   exact⟨a.edges.length- (i+1),by omega,i+1,cs,tok,rfl,by omega,by rw[hnx],rfl,by rw[hnx];exact hL,by rw[hnx];exact hG⟩
  |false=>
   rw[dE1,hs,if_neg (by simp)]at hnx
   simp (maxSteps:=1000000) (disch:=omega)only[↓pa,↓pmx,pb,pmy,↓reduceIte,Nat.reduceEqDiff,Nat.reduceAdd,Nat.reduceLeDiff,Nat.reduceLT,f2,f3,o2,o3,f5,fI,k1,partP_e hlt,hstB,hs,Nat.add_zero,partP_eid hlt]
   refine RunsTo_appg hG hL.len rfl (by omega) (by omega) (by decide) (fun st1 tok1 ho hG1=>?_)
   simp (disch:=omega)only[↓pa,pb,natP,↓reduceIte,Nat.reduceEqDiff,f2,f3,o2,o3,fI,ho]
   exact⟨a.edges.length- (i+1),by omega,i+1,_,tok1,rfl,by omega,by rw[hnx,List.length_append (bs:=[chDE a.edges[i]])];rfl,rfl,by rw[hnx];exact Like_snoc hL rfl (cc_of (chDE a.edges[i]) (t1:= .nil) (t2:= .nil) (t3:= .nil)).1 (cc_of (chDE a.edges[i]) (t1:= .nil) (t2:= .nil) (t3:= .nil)).2,by rw[hnx,List.length_append (bs:=[chDE a.edges[i]])];exact hG1⟩
 have hie:a.edges.take i=a.edges:=List.take_of_length_le (by omega)
 rw[hie]at f5 hL hG hB
 generalize hP1:([]:List Ch)++a.edges.flatMap (dE1 b.edges)=P1 at*
 have hP1l:P1.length≤400:=by omega
 clear hie hB
 simp (disch:=omega)only[↓pa,pb,k1]
 refine Wp_rounds (fun q fr st=>∃ (i:Nat) (cs:List PV) (tok:Tok),q=a.nodes.length-i∧i≤a.nodes.length∧fr 2= .ptr 2 0∧fr 3= .ptr 3 0∧st.objs 2=some [NX a.nodes,EX a.edges]∧st.objs 3=some [NX b.nodes,EX b.edges]∧fr 5= .list (P1++(a.nodes.take i).flatMap (dN1 b.nodes)).length cs tok∧fr 7=I i∧Like cc 12 (P1++(a.nodes.take i).flatMap (dN1 b.nodes)) cs∧Gr 85 st.nx st.cnt (P1++(a.nodes.take i).flatMap (dN1 b.nodes)).length tok) a.nodes.length (by omega)
  ⟨0,cs,tok,by simp,by omega,by simp (disch:=omega)only[↓pa,↓reduceIte,Nat.reduceEqDiff,f2],by simp (disch:=omega)only[↓pa,↓reduceIte,Nat.reduceEqDiff,f3],by simp (disch:=omega)only[o2],by simp (disch:=omega)only[o3],by simp (disch:=omega)only[↓pa,↓reduceIte,Nat.reduceEqDiff,f5]<;>simp,by simp (disch:=omega)only[↓pa,↓reduceIte]<;>rfl,by simpa using hL,by simpa using hG⟩ ?_
 clear f2 f3 o2 o3 f5 fI hL hG hi k1 cs tok
 rintro q fr st ⟨i,cs,tok,rfl,hi,f2,f3,o2,o3,f5,fI,hL,hG⟩
 have hB:=pre_bound (l:=a.nodes) (f:=dN1 b.nodes) (P:=P1) (B:=400) (m:=1) (by omega) (fun e _=>dN1_len _ e) i
 simp (disch:=omega)only[↓pa,pb,pmy,natP,↓reduceIte,Nat.reduceEqDiff,Nat.reduceAdd,f2,o2,fI]
 refine Cnd_intro (fun k1=>?_) (fun k1=>?_)
 ·have hlt:i<a.nodes.length:=by omega
  have hnx:=pre_next (f:=dN1 b.nodes) (P:=P1) hlt
  by_cases hs:nodeIx b.nodes a.nodes[i].id<0
  ·rw[dN1,if_pos hs]at hnx
   simp (maxSteps:=1000000) (disch:=omega)only[↓pa,↓pmx,pb,pmy,↓reduceIte,Nat.reduceEqDiff,Nat.reduceAdd,Nat.reduceLeDiff,Nat.reduceLT,f2,f3,o2,o3,f5,fI,k1,Nat.add_zero,partP_nid hlt,hnaB,hs]
   refine RunsTo_appg hG hL.len rfl (by omega) (by omega) (by decide) (fun st1 tok1 ho hG1=>?_)
   simp (disch:=omega)only[↓pa,pb,natP,↓reduceIte,Nat.reduceEqDiff,f2,f3,o2,o3,fI,ho]
   exact⟨a.nodes.length- (i+1),by omega,i+1,_,tok1,rfl,by omega,by rw[hnx,List.length_append (bs:=[chDN a.nodes[i]])];rfl,rfl,by rw[hnx];exact Like_snoc hL rfl (cc_of (chDN a.nodes[i]) (t1:= .nil) (t2:= .nil) (t3:= .nil)).1 (cc_of (chDN a.nodes[i]) (t1:= .nil) (t2:= .nil) (t3:= .nil)).2,by rw[hnx,List.length_append (bs:=[chDN a.nodes[i]])];exact hG1⟩
  ·rw[dN1,if_neg hs,List.append_nil]at hnx
   simp (disch:=omega)only[↓pa,pb,pmy,natP,↓reduceIte,Nat.reduceEqDiff,Nat.reduceAdd,Nat.reduceLeDiff,f2,f3,o2,o3,f5,fI,k1,Nat.add_zero,partP_nid hlt,hnaB,hs]
   exact⟨a.nodes.length- (i+1),by omega,i+1,cs,tok,rfl,by omega,by rw[hnx],rfl,by rw[hnx];exact hL,by rw[hnx];exact hG⟩
 have hie:a.nodes.take i=a.nodes:=List.take_of_length_le (by omega)
 rw[hie]at f5 hL hG hB
 generalize hP2:P1++a.nodes.flatMap (dN1 b.nodes)=P2 at*
 have hP2l:P2.length≤600:=by omega
 clear hie hB
 simp (disch:=omega)only[↓pa,pb,k1]
 refine Wp_rounds (fun q fr st=>∃ (i:Nat) (cs:List PV) (tok:Tok),q=b.nodes.length-i∧i≤b.nodes.length∧fr 2= .ptr 2 0∧fr 3= .ptr 3 0∧st.objs 2=some [NX a.nodes,EX a.edges]∧st.objs 3=some [NX b.nodes,EX b.edges]∧fr 5= .list (P2++(b.nodes.take i).flatMap (aN1 a.nodes)).length cs tok∧fr 8=I i∧Like cc 12 (P2++(b.nodes.take i).flatMap (aN1 a.nodes)) cs∧Gr 85 st.nx st.cnt (P2++(b.nodes.take i).flatMap (aN1 a.nodes)).length tok) b.nodes.length (by omega)
  ⟨0,cs,tok,by simp,by omega,by simp (disch:=omega)only[↓pa,↓reduceIte,Nat.reduceEqDiff,f2],by simp (disch:=omega)only[↓pa,↓reduceIte,Nat.reduceEqDiff,f3],by simp (disch:=omega)only[o2],by simp (disch:=omega)only[o3],by simp (disch:=omega)only[↓pa,↓reduceIte,Nat.reduceEqDiff,f5]<;>simp,by simp (disch:=omega)only[↓pa,↓reduceIte]<;>rfl,by simpa using hL,by simpa using hG⟩ ?_
 clear f2 f3 o2 o3 f5 fI hL hG hi k1 cs tok
 rintro q fr st ⟨i,cs,tok,rfl,hi,f2,f3,o2,o3,f5,fI,hL,hG⟩
 have hB:=pre_bound (l:=b.nodes) (f:=aN1 a.nodes) (P:=P2) (B:=600) (m:=1) (by omega) (fun e _=>aN1_len _ e) i
 simp (disch:=omega)only[↓pa,pb,pmy,natP,↓reduceIte,Nat.reduceEqDiff,Nat.reduceAdd,f3,o3,fI]
 refine Cnd_intro (fun k1=>?_) (fun k1=>?_)
 ·have hlt:i<b.nodes.length:=by omega
  have hnx:=pre_next (f:=aN1 a.nodes) (P:=P2) hlt
  have hk:=nd_of hb.ns hlt
  have hk1:=hk.fl
  have hk2:=hk.ll
  by_cases hs:nodeIx a.nodes b.nodes[i].id<0
  ·rw[aN1,if_pos hs]at hnx
   simp (disch:=omega)only[↓pa,pb,pmy,↓reduceIte,Nat.reduceEqDiff,Nat.reduceAdd,Nat.reduceLeDiff,f2,f3,o2,o3,f5,fI,k1,Nat.add_zero,partP_nid hlt,partP_n hlt,hnaA,hs]
   refine RunsTo_EQ (c_copyN K b.nodes[i] (by omega) (by omega)) (fun fl=>?_)
   simp (disch:=omega)only[↓pa,↓pmx,pb,pmy,↓reduceIte,Nat.reduceEqDiff,Nat.reduceAdd,Nat.reduceLeDiff,Nat.reduceLT,nc]
   refine RunsTo_appg hG hL.len rfl (by omega) (by omega) (by decide) (fun st1 tok1 ho hG1=>?_)
   simp (disch:=omega)only[↓pa,pb,pmy,natP,↓reduceIte,Nat.reduceEqDiff,f2,f3,o2,o3,fI,ho]
   exact⟨b.nodes.length- (i+1),by omega,i+1,_,tok1,rfl,by omega,by rw[hnx,List.length_append (bs:=[chAN b.nodes[i]])];rfl,rfl,by rw[hnx];exact Like_snoc hL rfl (cc_of (chAN b.nodes[i]) (t1:= .no) (t2:= .no) (t3:= .nil)).1 (cc_of (chAN b.nodes[i]) (t1:= .no) (t2:= .no) (t3:= .nil)).2,by rw[hnx,List.length_append (bs:=[chAN b.nodes[i]])];exact hG1⟩
  ·rw[aN1,if_neg hs,List.append_nil]at hnx
   simp (disch:=omega)only[↓pa,pb,pmy,natP,↓reduceIte,Nat.reduceEqDiff,Nat.reduceAdd,Nat.reduceLeDiff,f2,f3,o2,o3,f5,fI,k1,Nat.add_zero,partP_nid hlt,hnaA,hs]
   exact⟨b.nodes.length- (i+1),by omega,i+1,cs,tok,rfl,by omega,by rw[hnx],rfl,by rw[hnx];exact hL,by rw[hnx];exact hG⟩
 have hie:b.nodes.take i=b.nodes:=List.take_of_length_le (by omega)
 rw[hie]at f5 hL hG hB
 generalize hP3:P2++b.nodes.flatMap (aN1 a.nodes)=P3 at*
 have hP3l:P3.length≤800:=by omega
 clear hie hB
 simp (disch:=omega)only[↓pa,pb,k1]
 refine Wp_rounds (fun q fr st=>∃ (i:Nat) (cs:List PV) (tok:Tok),q=b.edges.length-i∧i≤b.edges.length∧fr 2= .ptr 2 0∧fr 3= .ptr 3 0∧st.objs 2=some [NX a.nodes,EX a.edges]∧st.objs 3=some [NX b.nodes,EX b.edges]∧fr 5= .list (P3++(b.edges.take i).flatMap (aES a.edges)).length cs tok∧fr 9=I i∧Like cc 12 (P3++(b.edges.take i).flatMap (aES a.edges)) cs∧Gr 85 st.nx st.cnt (P3++(b.edges.take i).flatMap (aES a.edges)).length tok) b.edges.length (by omega)
  ⟨0,cs,tok,by simp,by omega,by simp (disch:=omega)only[↓pa,↓reduceIte,Nat.reduceEqDiff,f2],by simp (disch:=omega)only[↓pa,↓reduceIte,Nat.reduceEqDiff,f3],by simp (disch:=omega)only[o2],by simp (disch:=omega)only[o3],by simp (disch:=omega)only[↓pa,↓reduceIte,Nat.reduceEqDiff,f5]<;>simp,by simp (disch:=omega)only[↓pa,↓reduceIte]<;>rfl,by simpa using hL,by simpa using hG⟩ ?_
 clear f2 f3 o2 o3 f5 fI hL hG hi k1 cs tok
 rintro q fr st ⟨i,cs,tok,rfl,hi,f2,f3,o2,o3,f5,fI,hL,hG⟩
 have hB:=pre_bound (l:=b.edges) (f:=aES a.edges) (P:=P3) (B:=800) (m:=1) (by omega) (fun e _=>aES_len _ e) i
 simp (disch:=omega)only[↓pa,pb,pmy,natP,↓reduceIte,Nat.reduceEqDiff,Nat.reduceAdd,f3,o3,fI]
 refine Cnd_intro (fun k1=>?_) (fun k1=>?_)
 ·have hlt:i<b.edges.length:=by omega
  have hnx:=pre_next (f:=aES a.edges) (P:=P3) hlt
  have hk:=eg_of hb.es hlt
  have hk1:=hk.fl
  cases hs:staysB a.edges b.edges[i]with
  |true=>
   rw[aES,hs,if_pos rfl,List.append_nil]at hnx
   simp (disch:=omega)only[↓pa,pb,pmy,natP,↓reduceIte,Nat.reduceEqDiff,Nat.reduceAdd,Nat.reduceLeDiff,f2,f3,o2,o3,f5,fI,k1,partP_e hlt,hstA,hs]
   exact⟨b.edges.length- (i+1),by omega,i+1,cs,tok,rfl,by omega,by rw[hnx],rfl,by rw[hnx];exact hL,by rw[hnx];exact hG⟩
  |false=>
   rw[aES,hs,if_neg (by simp)]at hnx
   simp (disch:=omega)only[↓pa,pb,pmy,↓reduceIte,Nat.reduceEqDiff,Nat.reduceAdd,Nat.reduceLeDiff,f2,f3,o2,o3,f5,fI,k1,partP_e hlt,hstA,hs]
   refine RunsTo_EQ (c_copyE K b.edges[i] (by omega)) (fun fl=>?_)
   simp (disch:=omega)only[↓pa,↓pmx,pb,pmy,↓reduceIte,Nat.reduceEqDiff,Nat.reduceAdd,Nat.reduceLeDiff,Nat.reduceLT,ec]
   refine RunsTo_appg hG hL.len rfl (by omega) (by omega) (by decide) (fun st1 tok1 ho hG1=>?_)
   simp (disch:=omega)only[↓pa,pb,pmy,natP,↓reduceIte,Nat.reduceEqDiff,f2,f3,o2,o3,fI,ho]
   exact⟨b.edges.length- (i+1),by omega,i+1,_,tok1,rfl,by omega,by rw[hnx,List.length_append (bs:=[chAE b.edges[i]])];rfl,rfl,by rw[hnx];exact Like_snoc hL rfl (cc_of (chAE b.edges[i]) (t1:= .nil) (t2:= .nil) (t3:= .no)).1 (cc_of (chAE b.edges[i]) (t1:= .nil) (t2:= .nil) (t3:= .no)).2,by rw[hnx,List.length_append (bs:=[chAE b.edges[i]])];exact hG1⟩
 have hie:b.edges.take i=b.edges:=List.take_of_length_le (by omega)
 rw[hie]at f5 hL hG hB
 generalize hP4:P3++b.edges.flatMap (aES a.edges)=P4 at*
 have hP4l:P4.length≤1200:=by omega
 clear hie hB
 simp (disch:=omega)only[↓pa,pb,k1]
 refine Wp_rounds (fun q fr st=>∃ (i:Nat) (cs:List PV) (tok:Tok),q=a.nodes.length-i∧i≤a.nodes.length∧fr 2= .ptr 2 0∧fr 3= .ptr 3 0∧st.objs 2=some [NX a.nodes,EX a.edges]∧st.objs 3=some [NX b.nodes,EX b.edges]∧fr 5= .list (P4++(a.nodes.take i).flatMap (nFS b.nodes)).length cs tok∧fr 10=I i∧Like cc 12 (P4++(a.nodes.take i).flatMap (nFS b.nodes)) cs∧Gr 85 st.nx st.cnt (P4++(a.nodes.take i).flatMap (nFS b.nodes)).length tok) a.nodes.length (by omega)
  ⟨0,cs,tok,by simp,by omega,by simp (disch:=omega)only[↓pa,↓reduceIte,Nat.reduceEqDiff,f2],by simp (disch:=omega)only[↓pa,↓reduceIte,Nat.reduceEqDiff,f3],by simp (disch:=omega)only[o2],by simp (disch:=omega)only[o3],by simp (disch:=omega)only[↓pa,↓reduceIte,Nat.reduceEqDiff,f5]<;>simp,by simp (disch:=omega)only[↓pa,↓reduceIte]<;>rfl,by simpa using hL,by simpa using hG⟩ ?_
 clear f2 f3 o2 o3 f5 fI hL hG hi k1 cs tok
 rintro q fr st ⟨i,cs,tok,rfl,hi,f2,f3,o2,o3,f5,fI,hL,hG⟩
 have hB:=pre_bound (l:=a.nodes) (f:=nFS b.nodes) (P:=P4) (B:=1200) (m:=161) (by omega) (fun n hn=>nFS_len (ha.ns n hn) hb.ns) i
 simp (disch:=omega)only[↓pa,pb,pmy,natP,↓reduceIte,Nat.reduceEqDiff,Nat.reduceAdd,f2,o2,fI]
 refine Cnd_intro (fun k1=>?_) (fun k1=>?_)
 ·have hlt:i<a.nodes.length:=by omega
  have hnx:=pre_next (f:=nFS b.nodes) (P:=P4) hlt
  have hk:=nd_of ha.ns hlt
  have hk1:=hk.fl
  have hk2:=hk.ll
  have hk3:=hk.id
  have hil:=itoa_len (n:=a.nodes[i].id) (by omega) (by omega)
  have hdec:=fun st=>c_decS (st:=st) K (n:=a.nodes[i].id) (by omega) (by omega)
  rcases nx_spec b.nodes a.nodes[i].id with⟨h1,h2⟩|⟨j,hj,h1,h2⟩
  ·have hf:nFS b.nodes a.nodes[i]=[]:=by rw[nFS,h2]
   rw[hf,List.append_nil]at hnx
   simp (disch:=omega)only[↓pa,pb,pmy,natP,↓reduceIte,Nat.reduceEqDiff,Nat.reduceAdd,Nat.reduceLeDiff,Int.reduceLT,f2,f3,o2,o3,f5,fI,k1,Nat.add_zero,partP_nid hlt,hnaB,h1]
   exact⟨a.nodes.length- (i+1),by omega,i+1,cs,tok,rfl,by omega,by rw[hnx],rfl,by rw[hnx];exact hL,by rw[hnx];exact hG⟩
  ·have hf:nFS b.nodes a.nodes[i]=labC a.nodes[i].id a.nodes[i].labels b.nodes[j].labels++fcS (nwhat a.nodes[i].id) a.nodes[i].fields b.nodes[j].fields:=by rw[nFS,h2]
   rw[hf,←List.append_assoc]at hnx
   have hq:=nd_of hb.ns hj
   have hq1:=hq.fl
   have hq2:=hq.ll
   have hj0:¬ ((j:Int)<0):=by omega
   have hsm:=fun st=>c_sameTS (st:=st) K a.nodes[i].labels b.nodes[j].labels (by omega)
   by_cases hlab:a.nodes[i].labels=b.nodes[j].labels
   ·rw[labC,if_pos hlab,List.append_nil]at hnx
    have hd:decide (a.nodes[i].labels=b.nodes[j].labels)=true:=decide_eq_true hlab
    simp (maxSteps:=1000000) (disch:=omega)only[↓pa,↓pmw,pb,pmy,pmwk,↓reduceIte,Nat.reduceEqDiff,Nat.reduceAdd,Nat.reduceLeDiff,f2,f3,o2,o3,f5,fI,k1,Nat.add_zero,partP_nid hlt,hnaB,h1,hj0,partP_nlb hlt,partP_nlb hj,hsm,hd,hdec,e110,partP_nfl hlt,partP_nfl hj]
    refine RunsTo_EQ (c_fcS K (nwhat a.nodes[i].id) a.nodes[i].fields b.nodes[j].fields (nodup_names hk.fd hq.fd) (by omega) (by omega)) (fun fl=>?_)
    have hcl:=flat_len cc 12 cc_len (fcS (nwhat a.nodes[i].id) a.nodes[i].fields b.nodes[j].fields)
    have hcb:=fcS_len (nwhat a.nodes[i].id) a.nodes[i].fields b.nodes[j].fields
    simp (disch:=omega)only[↓pa,↓pmx,↓pmw,pmwk,↓reduceIte,Nat.reduceEqDiff]
    refine RunsTo_appg (m:=(fcS (nwhat a.nodes[i].id) a.nodes[i].fields b.nodes[j].fields).length) hG hL.len hcl (by omega) (by omega) (by decide) (fun st2 tok2 ho2 hG2=>?_)
    simp (disch:=omega)only[↓pa,↓pmw,pb,pmy,pmwk,pmwa,natP,List.getElem?_cons_zero,List.getElem?_cons_succ,↓reduceIte,Nat.reduceEqDiff,f2,f3,o2,o3,fI,ho2]
    exact⟨a.nodes.length- (i+1),by omega,i+1,_,tok2,rfl,by omega,by rw[hnx,List.length_append (bs:=fcS (nwhat a.nodes[i].id) a.nodes[i].fields b.nodes[j].fields)],rfl,by rw[hnx];exact Like_cat hL (Like_exact cc_len cc_plain _),by rw[hnx,List.length_append (bs:=fcS (nwhat a.nodes[i].id) a.nodes[i].fields b.nodes[j].fields)];exact hG2⟩
   ·rw[labC,if_neg hlab]at hnx
    have hd:decide (a.nodes[i].labels=b.nodes[j].labels)=false:=decide_eq_false hlab
    simp (maxSteps:=1000000) (disch:=omega)only[↓pa,↓pmw,pb,pmy,pmwk,↓reduceIte,Nat.reduceEqDiff,Nat.reduceAdd,Nat.reduceLeDiff,f2,f3,o2,o3,f5,fI,k1,Nat.add_zero,partP_nid hlt,hnaB,h1,hj0,partP_nlb hlt,partP_nlb hj,hsm,hd]
    refine RunsTo_EQ (c_copyT K b.nodes[j].labels (by omega)) (fun fl=>?_)
    simp (disch:=omega)only[↓pa,↓pmx,↓pmw,pb,pmy,pmwk,↓reduceIte,Nat.reduceEqDiff,Nat.reduceAdd,Nat.reduceLeDiff,Nat.reduceLT,keysOf_pl (plainV_tx b.nodes[j].labels)]
    refine RunsTo_appg hG hL.len rfl (by omega) (by omega) (by decide) (fun st1 tok1 ho hG1=>?_)
    have hL1:=Like_snoc hL rfl (cc_of (chL a.nodes[i].id b.nodes[j].labels) (t1:= .no) (t2:= .nil) (t3:= .nil)).1 (cc_of (chL a.nodes[i].id b.nodes[j].labels) (t1:= .no) (t2:= .nil) (t3:= .nil)).2
    simp (disch:=omega)only[↓pa,↓pmw,pb,pmy,pmwk,pmwa,List.getElem?_cons_zero,List.getElem?_cons_succ,↓reduceIte,Nat.reduceEqDiff,f2,f3,o2,o3,fI,ho,Nat.add_zero,partP_nid hlt,hdec,e110,partP_nfl hlt,partP_nfl hj]
    refine RunsTo_EQ (c_fcS K (nwhat a.nodes[i].id) a.nodes[i].fields b.nodes[j].fields (nodup_names hk.fd hq.fd) (by omega) (by omega)) (fun fl=>?_)
    have hcl:=flat_len cc 12 cc_len (fcS (nwhat a.nodes[i].id) a.nodes[i].fields b.nodes[j].fields)
    have hcb:=fcS_len (nwhat a.nodes[i].id) a.nodes[i].fields b.nodes[j].fields
    simp (disch:=omega)only[↓pa,↓pmx,↓pmw,pmwk,↓reduceIte,Nat.reduceEqDiff]
    refine RunsTo_appg (m:=(fcS (nwhat a.nodes[i].id) a.nodes[i].fields b.nodes[j].fields).length) hG1 (by have h:=hL1.len;rw[List.length_append (bs:=[chL a.nodes[i].id b.nodes[j].labels])]at h;exact h) hcl (by omega) (by omega) (by decide) (fun st2 tok2 ho2 hG2=>?_)
    simp (disch:=omega)only[↓pa,↓pmw,pb,pmy,pmwk,pmwa,natP,List.getElem?_cons_zero,List.getElem?_cons_succ,↓reduceIte,Nat.reduceEqDiff,f2,f3,o2,o3,fI,ho,ho2]
    exact⟨a.nodes.length- (i+1),by omega,i+1,_,tok2,rfl,by omega,by rw[hnx,List.length_append (bs:=fcS (nwhat a.nodes[i].id) a.nodes[i].fields b.nodes[j].fields),List.length_append (bs:=[chL a.nodes[i].id b.nodes[j].labels])];rfl,rfl,by rw[hnx];exact Like_cat hL1 (Like_exact cc_len cc_plain _),by rw[hnx,List.length_append (bs:=fcS (nwhat a.nodes[i].id) a.nodes[i].fields b.nodes[j].fields),List.length_append (bs:=[chL a.nodes[i].id b.nodes[j].labels])];exact hG2⟩
 have hie:a.nodes.take i=a.nodes:=List.take_of_length_le (by omega)
 rw[hie]at f5 hL hG hB
 generalize hP5:P4++a.nodes.flatMap (nFS b.nodes)=P5 at*
 have hP5l:P5.length≤33400:=by omega
 clear hie hB
 simp (disch:=omega)only[↓pa,pb,k1]
 refine Wp_rounds (fun q fr st=>∃ (i:Nat) (cs:List PV) (tok:Tok),q=a.edges.length-i∧i≤a.edges.length∧fr 2= .ptr 2 0∧fr 3= .ptr 3 0∧st.objs 2=some [NX a.nodes,EX a.edges]∧st.objs 3=some [NX b.nodes,EX b.edges]∧fr 5= .list (P5++(a.edges.take i).flatMap (eFS b.edges)).length cs tok∧fr 12=I i∧Like cc 12 (P5++(a.edges.take i).flatMap (eFS b.edges)) cs∧Gr 85 st.nx st.cnt (P5++(a.edges.take i).flatMap (eFS b.edges)).length tok) a.edges.length (by omega)
  ⟨0,cs,tok,by simp,by omega,by simp (disch:=omega)only[↓pa,↓reduceIte,Nat.reduceEqDiff,f2],by simp (disch:=omega)only[↓pa,↓reduceIte,Nat.reduceEqDiff,f3],by simp (disch:=omega)only[o2],by simp (disch:=omega)only[o3],by simp (disch:=omega)only[↓pa,↓reduceIte,Nat.reduceEqDiff,f5]<;>simp,by simp (disch:=omega)only[↓pa,↓reduceIte]<;>rfl,by simpa using hL,by simpa using hG⟩ ?_
 clear f2 f3 o2 o3 f5 fI hL hG hi k1 cs tok
 rintro q fr st ⟨i,cs,tok,rfl,hi,f2,f3,o2,o3,f5,fI,hL,hG⟩
 have hB:=pre_bound (l:=a.edges) (f:=eFS b.edges) (P:=P5) (B:=33400) (m:=160) (by omega) (fun n hn=>eFS_len (ha.es n hn) hb.es) i
 simp (disch:=omega)only[↓pa,pb,pmy,natP,↓reduceIte,Nat.reduceEqDiff,Nat.reduceAdd,f2,o2,fI]
 refine Cnd_intro (fun k1=>?_) (fun k1=>?_)
 ·have hlt:i<a.edges.length:=by omega
  have hnx:=pre_next (f:=eFS b.edges) (P:=P5) hlt
  have hk:=eg_of ha.es hlt
  have hk1:=hk.fl
  have hk3:=hk.id
  have hil:=itoa_len (n:=a.edges[i].id) (by omega) (by omega)
  have hdec:=fun st=>c_decS (st:=st) K (n:=a.edges[i].id) (by omega) (by omega)
  rcases ex_spec b.edges a.edges[i].id with⟨h1,h2⟩|⟨j,hj,h1,h2⟩
  ·have hf:eFS b.edges a.edges[i]=[]:=by rw[eFS,h2]
   have hs:staysB b.edges a.edges[i]=false:=by rw[staysB,h2]
   rw[hf,List.append_nil]at hnx
   simp (disch:=omega)only[↓pa,pb,pmy,natP,↓reduceIte,Nat.reduceEqDiff,Nat.reduceAdd,Nat.reduceLeDiff,f2,f3,o2,o3,f5,fI,k1,partP_e hlt,hstB,hs]
   exact⟨a.edges.length- (i+1),by omega,i+1,cs,tok,rfl,by omega,by rw[hnx],rfl,by rw[hnx];exact hL,by rw[hnx];exact hG⟩
  ·have hs:staysB b.edges a.edges[i]=same b.edges[j] a.edges[i]:=by rw[staysB,h2]
   have hq:=eg_of hb.es hj
   have hq1:=hq.fl
   cases hsm:same b.edges[j] a.edges[i]with
   |false=>
    have hf:eFS b.edges a.edges[i]=[]:=by rw[eFS,h2];simp[hsm]
    rw[hf,List.append_nil]at hnx
    rw[hsm]at hs
    simp (disch:=omega)only[↓pa,pb,pmy,natP,↓reduceIte,Nat.reduceEqDiff,Nat.reduceAdd,Nat.reduceLeDiff,f2,f3,o2,o3,f5,fI,k1,partP_e hlt,hstB,hs]
    exact⟨a.edges.length- (i+1),by omega,i+1,cs,tok,rfl,by omega,by rw[hnx],rfl,by rw[hnx];exact hL,by rw[hnx];exact hG⟩
   |true=>
    have hf:eFS b.edges a.edges[i]=fcS (ewhat a.edges[i].id) a.edges[i].fields b.edges[j].fields:=by rw[eFS,h2];simp[hsm]
    rw[hf]at hnx
    rw[hsm]at hs
    simp (disch:=omega)only[↓pa,↓pmw,pb,pmy,pmwk,↓reduceIte,Nat.reduceEqDiff,Nat.reduceAdd,Nat.reduceLeDiff,f2,f3,o2,o3,f5,fI,k1,partP_e hlt,hstB,hs,Nat.add_zero,partP_eid hlt,hdec,e101,partP_efl hlt,partP_efl hj,heaB,h1]
    refine RunsTo_EQ (c_fcS K (ewhat a.edges[i].id) a.edges[i].fields b.edges[j].fields (nodup_names hk.fd hq.fd) (by omega) (by omega)) (fun fl=>?_)
    have hkey:keysOf [PV.agg [NX b.nodes,EX b.edges],I a.edges[i].id]=some []:=keysOf_plain (plainVs_arg (ps:=[.agg (gc b),I a.edges[i].id]) (by simp[plainV_gr,plainV_int])).1
    have hcl:=flat_len cc 12 cc_len (fcS (ewhat a.edges[i].id) a.edges[i].fields b.edges[j].fields)
    have hcb:=fcS_len (ewhat a.edges[i].id) a.edges[i].fields b.edges[j].fields
    simp (disch:=omega)only[↓pa,↓pmx,↓pmw,pmwk,↓reduceIte,Nat.reduceEqDiff]
    refine RunsTo_appg (m:=(fcS (ewhat a.edges[i].id) a.edges[i].fields b.edges[j].fields).length) hG hL.len hcl (by omega) (by omega) (by decide) (fun st1 tok1 ho hG1=>?_)
    simp (disch:=omega)only[↓pa,↓pmw,pb,pmy,pmwk,pmwa,natP,List.getElem?_cons_zero,List.getElem?_cons_succ,↓reduceIte,Nat.reduceEqDiff,f2,f3,o2,o3,fI,ho,hkey]
    exact⟨a.edges.length- (i+1),by omega,i+1,_,tok1,rfl,by omega,by rw[hnx,List.length_append (bs:=fcS (ewhat a.edges[i].id) a.edges[i].fields b.edges[j].fields)],rfl,by rw[hnx];exact Like_cat hL (Like_exact cc_len cc_plain _),by rw[hnx,List.length_append (bs:=fcS (ewhat a.edges[i].id) a.edges[i].fields b.edges[j].fields)];exact hG1⟩
 have hie:a.edges.take i=a.edges:=List.take_of_length_le (by omega)
 rw[hie]at f5 hL hG hB
 generalize hP6:P5++a.edges.flatMap (eFS b.edges)=P6 at*
 have hP6l:P6.length≤97400:=by omega
 clear hie hB
 simp (disch:=omega)only[↓pa,pb,pmz,↓reduceIte,Nat.reduceEqDiff,f5,k1,hL.np,hL.st]
 rw[HX,←hP6,←hP5,←hP4,←hP3,←hP2,←hP1];rfl
def diffA(a b:Gph):List Ch:=if graphOk a=true∧graphOk b=true then diffS a b else []
set_option maxHeartbeats 2000000 in
theorem c_diffS(K:Env cf)(a b:Gph):∃ r,r=HX (diffA a b)∧∃ fl,callP cf 17 [.agg (gc a),.agg (gc b)] [] st=some (r,setF st fl):=by
 refine c_valE K.tab (F:=F17) (Q:=fun r=>r=HX (diffA a b)) rfl rfl rfl (lb rfl) (by simp[plainV_gr]) 1 ?_
 have hfa:∀ st,callP cf 40 [.agg [NX a.nodes,EX a.edges]] [] st=some (I (fault a),st):=fun st=>c_fault K a
 have hfb:∀ st,callP cf 40 [.agg [NX b.nodes,EX b.edges]] [] st=some (I (fault b),st):=fun st=>c_fault K b
 unfold F17 qr qd qm qc qk ql qo qN
 by_cases ha:graphOk a=true
 rotate_left
 ·have ha0:graphOk a=false:=by simpa using ha
  have e:diffA a b=[]:=by rw[diffA,if_neg fun h=>ha h.1]
  simp (disch:=omega)only[↓pa,↓pmx,pb,pmy,pmz,↓reduceIte,Nat.reduceEqDiff,Nat.reduceAdd,Nat.reduceLeDiff,Nat.reduceLT,Int.reduceEq,ne_eq,gc,hfa,fault_bad ha0,List.replicate_zero,List.flatten_nil]
  rw[e];rfl
 have hza:fault a=0:=by rw[fault,if_pos ha]
 by_cases hb:graphOk b=true
 rotate_left
 ·have hb0:graphOk b=false:=by simpa using hb
  have e:diffA a b=[]:=by rw[diffA,if_neg fun h=>hb h.2]
  simp (disch:=omega)only[↓pa,↓pmx,pb,pmy,pmz,↓reduceIte,Nat.reduceEqDiff,Nat.reduceAdd,Nat.reduceLeDiff,Nat.reduceLT,Int.reduceEq,ne_eq,gc,hfa,hza,hfb,fault_bad hb0,List.replicate_zero,List.flatten_nil]
  rw[e];rfl
 have hzb:fault b=0:=by rw[fault,if_pos hb]
 have e:diffA a b=diffS a b:=by rw[diffA,if_pos ⟨ha,hb⟩]
 have hd:∀ st,∃ r,r=HX (diffS a b)∧∃ fl,callP cf 54 [.agg [NX a.nodes,EX a.edges],.agg [NX b.nodes,EX b.edges]] [] st=some (r,setF st fl):=fun st=>c_l02Diff (st:=st) K a b (gr_ok ha) (gr_ok hb)
 have hpl:=plainV_HX (diffS a b)
 simp (disch:=omega)only[↓pa,pb,pmy,↓reduceIte,Nat.reduceEqDiff,Nat.reduceAdd,Nat.reduceLeDiff,ne_eq,gc,hfa,hza,hfb,hzb]
 refine RunsTo_EQ (hd _) (fun fl=>?_)
 simp (disch:=omega)only[↓pa,pb,pmz,↓reduceIte,hpl.1]
 rw[(flat_plain cc cc_plain _).2.1,e]
def mkf(f:Nat)(p:PV)(st:St):Option (PV×St):=if isBox p||np p then some (.fn f [p],st)else none
theorem pmkf:(∀ {cf:CallF} {fr:Fr} {st:St} {d:Option Nat} {f:Nat} {x:CX},runOp cf fr st d (.mkfn f [x])=mkf f (x.ev fr) st)∧(∀ {f s o:Nat} {st:St},mkf f (.ptr s o) st=some (.fn f [.ptr s o],st)):=
 ⟨by intros;simp[runOp,mkf],rfl⟩
theorem kfn:(killP 8 (.fn 100 [.ptr 3 0])= .fn 100 [.ptr 3 0])∧(killP 10 (.fn 100 [.ptr 3 0])= .fn 100 [.ptr 3 0])∧(killP 12 (.fn 100 [.ptr 3 0])= .fn 100 [.ptr 3 0])∧(killP 14 (.fn 100 [.ptr 3 0])= .fn 100 [.ptr 3 0])∧(killP 17 (.fn 100 [.ptr 3 0])= .fn 100 [.ptr 3 0])∧(killP 20 (.fn 100 [.ptr 3 0])= .fn 100 [.ptr 3 0]):=
 ⟨rfl,rfl,rfl,rfl,rfl,rfl⟩
theorem RunsTo_of{o:Option (PV×St)}{v:PV}{s1:St}(h:o=some (v,s1))(k:A (mk v s1)):RunsTo o mk A:=⟨v,s1,h,k⟩
theorem tok_nil{l:List (Nat×Nat)}{ds:List PV}(h:TokOK st ([]++l++[]))(hd:tokss ds=[]):TokOK st ([]++l++[]++tokss ds):=by rw[hd,List.append_nil];exact h
theorem partP_ec0{x:Eg}:partP (ec x) 0 1 false=some (I x.id):=rfl
theorem cellsN{x y z:PV}{n:Nd}(h:strips [x,y,z]=nc n)(hn:nps [x,y,z]=true)(hs:solids [x,y,z]=true):
  strips [I 1,x,y,z,I 0,S [],I 0,I 0,.list 0 [] .nil,S [],S [],S []]=cc (chAN n)∧nps [I 1,x,y,z,I 0,S [],I 0,I 0,.list 0 [] .nil,S [],S [],S []]=true∧
  solids [I 1,x,y,z,I 0,S [],I 0,I 0,.list 0 [] .nil,S [],S [],S []]=true∧tokss [I 1,x,y,z,I 0,S [],I 0,I 0,.list 0 [] .nil,S [],S [],S []]=tokss [x,y,z]:=by
 have e1:strips [I 1,x,y,z,I 0,S [],I 0,I 0,.list 0 [] .nil,S [],S [],S []]=[I 1]++strips [x,y,z]++[I 0,S [],I 0,I 0,.list 0 [] .no,S [],S [],S []]:=rfl
 refine⟨by rw[e1,h];rfl,?_,?_,?_⟩
 ·simp only[pmz,Bool.and_eq_true]at hn ⊢;simp[hn]
 ·simp only[solids,Bool.and_eq_true]at hs ⊢;simp[hs,solid,solids]
 ·simp only[tokss,toks,List.nil_append,List.append_nil]
theorem cellsE{v w x y z:PV}{e:Eg}(h:strips [v,w,x,y,z]=ec e)(hn:nps [v,w,x,y,z]=true)(hs:solids [v,w,x,y,z]=true):
  strips [I 3,I 0,.list 0 [] .nil,.list 0 [] .nil,v,w,x,y,z,S [],S [],S []]=cc (chAE e)∧nps [I 3,I 0,.list 0 [] .nil,.list 0 [] .nil,v,w,x,y,z,S [],S [],S []]=true∧
  solids [I 3,I 0,.list 0 [] .nil,.list 0 [] .nil,v,w,x,y,z,S [],S [],S []]=true∧tokss [I 3,I 0,.list 0 [] .nil,.list 0 [] .nil,v,w,x,y,z,S [],S [],S []]=tokss [v,w,x,y,z]:=by
 have e1:strips [I 3,I 0,.list 0 [] .nil,.list 0 [] .nil,v,w,x,y,z,S [],S [],S []]=[I 3,I 0,.list 0 [] .no,.list 0 [] .no]++strips [v,w,x,y,z]++[S [],S [],S []]:=rfl
 refine⟨by rw[e1,h];rfl,?_,?_,?_⟩
 ·simp only[pmz,Bool.and_eq_true]at hn ⊢;simp[hn]
 ·simp only[solids,Bool.and_eq_true]at hs ⊢;simp[hs,solid,solids]
 ·simp only[tokss,toks,List.nil_append,List.append_nil]
theorem cellsL{t:PV}{id:Int}{l:List (List UInt8)}(h:strip t=TX l)(hn:np t=true)(hs:solid t=true):
  strips [I 5,I id,t,.list 0 [] .nil,I 0,S [],I 0,I 0,.list 0 [] .nil,S [],S [],S []]=cc (chL id l)∧nps [I 5,I id,t,.list 0 [] .nil,I 0,S [],I 0,I 0,.list 0 [] .nil,S [],S [],S []]=true∧
  solids [I 5,I id,t,.list 0 [] .nil,I 0,S [],I 0,I 0,.list 0 [] .nil,S [],S [],S []]=true∧tokss [I 5,I id,t,.list 0 [] .nil,I 0,S [],I 0,I 0,.list 0 [] .nil,S [],S [],S []]=toks t:=by
 have e1:strips [I 5,I id,t,.list 0 [] .nil,I 0,S [],I 0,I 0,.list 0 [] .nil,S [],S [],S []]=[I 5,I id,strip t,.list 0 [] .no,I 0,S [],I 0,I 0,.list 0 [] .no,S [],S [],S []]:=rfl
 refine⟨by rw[e1,h];rfl,?_,?_,?_⟩
 ·simp only[pmz,hn,Bool.and_self]
 ·simp only[solids,hs,solid,Bool.and_self,List.isEmpty_nil]
 ·simp only[tokss,toks,List.nil_append,List.append_nil]
theorem ck_tokss(k:Nat)(n:Nat)(ds:List PV)(u:Tok):ck k (tokss ds)≤ck k (toks (.list n ds u)):=by
 cases u<;>simp only[toks,List.nil_append,ck_append]<;>omega
theorem mem_tokss{q:Nat×Nat}{n:Nat}{ds:List PV}{u:Tok}(h:q∈tokss ds):q∈toks (.list n ds u):=by
 cases u<;>simp[toks,h]
theorem tok_cells{l:List (Nat×Nat)}{n:Nat}{ds:List PV}{u:Tok}{ns:List Nat}(h:TokOK st ([]++l++[]))(hf:st.fl=0)(ht:toks (.list n ds u)=enum st.nx ns):TokOK (st.more ns) ([]++l++[]++tokss ds):=by
 have h1:=TokOK_more h (by omega) ns
 rw[←ht]at h1
 refine TokOK_of h1 (fun k=>?_) (fun q hq=>?_)
 ·have:=ck_tokss k n ds u
  simp only[ck_append]at this ⊢;omega
 ·rw[List.mem_append]at hq ⊢
  exact hq.imp id mem_tokss
theorem solids_of{n:Nat}{ds:List PV}{u:Tok}(h:solid (.list n ds u)=true):solids ds=true:=by
 simp only[solid,Bool.and_eq_true]at h;exact h.2
set_option maxHeartbeats 16000000 in
theorem c_diff(K:Env cf)(a b:Gph)(ha:GrOk a)(hb:GrOk b):∃ r ns,callP cf 55 [.agg (gc a),.agg (gc b)] [] st=some (r,st.more ns)∧Fresh st.nx ns r∧strip r=HX (diffP a b):=by
 refine c_valO K.tab (F:=F55) (Q:=fun r=>r=HX (diffP a b)) rfl rfl rfl (lb rfl) (by simp[plainV_gr]) 1000 ?_
 have hm1:=flat_len nc 3 nc_len a.nodes
 have hm2:=flat_len ec 5 ec_len a.edges
 have hm3:=flat_len nc 3 nc_len b.nodes
 have hm4:=flat_len ec 5 ec_len b.edges
 have anl:=ha.nl
 have ael:=ha.el
 have bnl:=hb.nl
 have bel:=hb.el
 have e110:(PV.str ⟨#[110]⟩)=S [110]:=rfl
 have e101:(PV.str ⟨#[101]⟩)=S [101]:=rfl
 have l110:([110]:List UInt8).length=1:=rfl
 have l101:([101]:List UInt8).length=1:=rfl
 have hcv:∀ (e:Eg) (st:St),st.objs 3=some [NX b.nodes,EX b.edges]→cvalP cf (.fn 100 [.ptr 3 0]) [.agg (ec e)] st=some (I (staysI b.edges e),st):=fun e st h=>c_stays K b e (by omega) h
 have hnaB:∀ id st,callP cf 90 [.agg [NX b.nodes,EX b.edges],I id] [] st=some (I (nodeIx b.nodes id),st):=fun id st=>c_nodeAt K b id (by omega)
 have hnaA:∀ id st,callP cf 90 [.agg [NX a.nodes,EX a.edges],I id] [] st=some (I (nodeIx a.nodes id),st):=fun id st=>c_nodeAt K a id (by omega)
 have heaA:∀ id st,callP cf 101 [.agg [NX a.nodes,EX a.edges],I id] [] st=some (I (edgeIx a.edges id),st):=fun id st=>c_edgeAt K a id (by omega)
 unfold F55 qr qd qm qi qc qb qk ql qf qo qe qN
 simp (disch:=omega)only[↓pa,pb,pmy,↓reduceIte,Nat.reduceEqDiff,Nat.reduceAdd,gc,pmkf]
 refine Wp_rounds (fun q fr st=>∃ (i:Nat) (cs:List PV) (tok:Tok),q=a.edges.length-i∧i≤a.edges.length∧fr 2= .ptr 2 0∧fr 3= .ptr 3 0∧st.objs 2=some [NX a.nodes,EX a.edges]∧st.objs 3=some [NX b.nodes,EX b.edges]∧fr 5= .list (([]:List Ch)++(a.edges.take i).flatMap (dE1 b.edges)).length cs tok∧fr 6= .fn 100 [.ptr 3 0]∧fr 24=EX a.edges∧fr 25=I a.edges.length∧fr 26=I i∧Like cc 12 (([]:List Ch)++(a.edges.take i).flatMap (dE1 b.edges)) cs∧ownT 85 tok∧solid (.list (([]:List Ch)++(a.edges.take i).flatMap (dE1 b.edges)).length cs tok)=true∧TokOK st ([]++toks (.list (([]:List Ch)++(a.edges.take i).flatMap (dE1 b.edges)).length cs tok)++[])∧st.fl=0) a.edges.length (by omega)
  ⟨0,[],.nil,by simp,by omega,by simp (disch:=omega)only[↓pa,pb,↓reduceIte,Nat.reduceEqDiff],by simp (disch:=omega)only[↓pa,↓reduceIte,Nat.reduceEqDiff],by simp (disch:=omega)only[pb,↓reduceIte,Nat.reduceEqDiff]<;>rfl,by simp (disch:=omega)only[pb,↓reduceIte]<;>rfl,by simp (disch:=omega)only[↓pa,↓reduceIte,Nat.reduceEqDiff]<;>rfl,by simp (disch:=omega)only[↓pa,↓reduceIte,Nat.reduceEqDiff]<;>rfl,by simp (disch:=omega)only[↓pa,↓reduceIte,Nat.reduceEqDiff]<;>rfl,by simp (disch:=omega)only[↓pa,↓reduceIte,Nat.reduceEqDiff]<;>rfl,by simp (disch:=omega)only[↓pa,↓reduceIte]<;>rfl,Like_nil,.inl rfl,rfl,TokOK_setO (TokOK_setO TokOK_nil),rfl⟩ ?_
 rintro q fr st ⟨i,cs,tok,rfl,hi,f2,f3,o2,o3,f5,f6,fL,fN,fI,hL,hto,hso,hT,hfl⟩
 have hB:=pre_bound (l:=a.edges) (f:=dE1 b.edges) (P:=([]:List Ch)) (B:=0) (m:=1) (by simp) (fun e _=>dE1_len _ e) i
 simp (disch:=omega)only[↓pa,pb,natP,↓reduceIte,fN,fI]
 refine Cnd_intro (fun k1=>?_) (fun k1=>?_)
 ·have hlt:i<a.edges.length:=by omega
  have hnx:=pre_next (f:=dE1 b.edges) (P:=([]:List Ch)) hlt
  have he5:=ec_len a.edges[i]
  have he5t:List.take 5 (ec a.edges[i])=ec a.edges[i]:=rfl
  simp (disch:=omega)only[↓pa,pb,pmy,↓reduceIte,Nat.reduceEqDiff,Nat.reduceAdd,Nat.reduceLeDiff,f6,fL,fI,kfn,k1,partP_e hlt,he5,put5v,he5t]
  refine RunsTo_of (hcv _ _ (by simp only[pb,↓reduceIte,Nat.reduceEqDiff,o3])) ?_
  by_cases hs:staysI b.edges a.edges[i]<0
  ·have hs':=(staysI_neg _ _).1 hs
   rw[dE1,hs',if_neg (by simp)]at hnx
   simp (disch:=omega)only[↓pa,↓pmx,pb,pmy,↓reduceIte,Nat.reduceEqDiff,Nat.reduceAdd,Nat.reduceLeDiff,Nat.reduceLT,f5,hs,ec]
   refine RunsTo_appO (X:=[]) (Y:=[]) hto hso rfl (tok_nil hT rfl) hfl hL.len rfl (by omega) (by omega) (by decide) (fun st1 tok1 hto1 hso1 hT1 ho hfl1=>?_)
   simp (disch:=omega)only[↓pa,pb,natP,↓reduceIte,Nat.reduceEqDiff,f2,f3,o2,o3,f6,fL,fN,fI,kfn,ho]
   exact⟨a.edges.length- (i+1),by omega,i+1,_,tok1,rfl,by omega,by rw[hnx,List.length_append (bs:=[chDE a.edges[i]])];rfl,rfl,by rw[hnx];exact Like_snoc hL rfl (cc_of (chDE a.edges[i]) (t1:= .nil) (t2:= .nil) (t3:= .nil)).1 (cc_of (chDE a.edges[i]) (t1:= .nil) (t2:= .nil) (t3:= .nil)).2,hto1,by rw[hnx,List.length_append (bs:=[chDE a.edges[i]])];exact hso1,by rw[hnx,List.length_append (bs:=[chDE a.edges[i]])];exact hT1,hfl1⟩
  ·have hs':staysB b.edges a.edges[i]=true:=by
    cases h:staysB b.edges a.edges[i]with
    |true=>rfl
    |false=>exact absurd ((staysI_neg _ _).2 h) hs
   rw[dE1,hs',if_pos rfl,List.append_nil]at hnx
   simp (disch:=omega)only[↓pa,pb,natP,↓reduceIte,Nat.reduceEqDiff,f2,f3,o2,o3,f5,f6,fL,fN,fI,kfn,hs]
   exact⟨a.edges.length- (i+1),by omega,i+1,cs,tok,rfl,by omega,by rw[hnx],rfl,by rw[hnx];exact hL,hto,by rw[hnx];exact hso,by rw[hnx];exact hT,hfl⟩
 have hie:a.edges.take i=a.edges:=List.take_of_length_le (by omega)
 rw[hie]at f5 hL hso hT hB
 generalize hP1:([]:List Ch)++a.edges.flatMap (dE1 b.edges)=P1 at*
 have hP1l:P1.length≤400:=by omega
 clear hie hB
 simp (disch:=omega)only[↓pa,pb,pmy,↓reduceIte,Nat.reduceEqDiff,Nat.reduceAdd,f2,o2,k1]
 refine Wp_rounds (fun q fr st=>∃ (i:Nat) (cs:List PV) (tok:Tok),q=a.nodes.length-i∧i≤a.nodes.length∧fr 2= .ptr 2 0∧fr 3= .ptr 3 0∧st.objs 2=some [NX a.nodes,EX a.edges]∧st.objs 3=some [NX b.nodes,EX b.edges]∧fr 5= .list (P1++(a.nodes.take i).flatMap (dN1 b.nodes)).length cs tok∧fr 6= .fn 100 [.ptr 3 0]∧fr 43=NX a.nodes∧fr 44=I a.nodes.length∧fr 45=I i∧Like cc 12 (P1++(a.nodes.take i).flatMap (dN1 b.nodes)) cs∧ownT 85 tok∧solid (.list (P1++(a.nodes.take i).flatMap (dN1 b.nodes)).length cs tok)=true∧TokOK st ([]++toks (.list (P1++(a.nodes.take i).flatMap (dN1 b.nodes)).length cs tok)++[])∧st.fl=0) a.nodes.length (by omega)
  ⟨0,cs,tok,by simp,by omega,by simp (disch:=omega)only[↓pa,↓reduceIte,Nat.reduceEqDiff,f2],by simp (disch:=omega)only[↓pa,↓reduceIte,Nat.reduceEqDiff,f3],by simp (disch:=omega)only[o2],by simp (disch:=omega)only[o3],by simp (disch:=omega)only[↓pa,↓reduceIte,Nat.reduceEqDiff,f5]<;>simp,by simp (disch:=omega)only[↓pa,↓reduceIte,Nat.reduceEqDiff,f6],by simp (disch:=omega)only[↓pa,↓reduceIte,Nat.reduceEqDiff],by simp (disch:=omega)only[↓pa,↓reduceIte,Nat.reduceEqDiff],by simp (disch:=omega)only[↓pa,↓reduceIte]<;>rfl,by simpa using hL,hto,by simpa using hso,by simpa using hT,hfl⟩ ?_
 clear f2 f3 o2 o3 f5 f6 fL fN fI hL hto hso hT hfl hi k1 cs tok
 rintro q fr st ⟨i,cs,tok,rfl,hi,f2,f3,o2,o3,f5,f6,fL,fN,fI,hL,hto,hso,hT,hfl⟩
 have hB:=pre_bound (l:=a.nodes) (f:=dN1 b.nodes) (P:=P1) (B:=400) (m:=1) (by omega) (fun e _=>dN1_len _ e) i
 simp (disch:=omega)only[↓pa,pb,natP,↓reduceIte,fN,fI]
 refine Cnd_intro (fun k1=>?_) (fun k1=>?_)
 ·have hlt:i<a.nodes.length:=by omega
  have hnx:=pre_next (f:=dN1 b.nodes) (P:=P1) hlt
  have hn3:=nc_len a.nodes[i]
  simp (disch:=omega)only[↓pa,pb,pmy,↓reduceIte,Nat.reduceEqDiff,Nat.reduceAdd,Nat.reduceLeDiff,f3,o3,fL,fI,k1,partP_n hlt,hn3,put3v,partP_nc0,hnaB]
  by_cases hs:nodeIx b.nodes a.nodes[i].id<0
  ·rw[dN1,if_pos hs]at hnx
   simp (disch:=omega)only[↓pa,↓pmx,pb,pmy,↓reduceIte,Nat.reduceEqDiff,Nat.reduceAdd,Nat.reduceLeDiff,Nat.reduceLT,f5,hs,nc]
   refine RunsTo_appO (X:=[]) (Y:=[]) hto hso rfl (tok_nil hT rfl) hfl hL.len rfl (by omega) (by omega) (by decide) (fun st1 tok1 hto1 hso1 hT1 ho hfl1=>?_)
   simp (disch:=omega)only[↓pa,pb,natP,↓reduceIte,Nat.reduceEqDiff,f2,f3,o2,o3,f6,fL,fN,fI,kfn,ho]
   exact⟨a.nodes.length- (i+1),by omega,i+1,_,tok1,rfl,by omega,by rw[hnx,List.length_append (bs:=[chDN a.nodes[i]])];rfl,rfl,by rw[hnx];exact Like_snoc hL rfl (cc_of (chDN a.nodes[i]) (t1:= .nil) (t2:= .nil) (t3:= .nil)).1 (cc_of (chDN a.nodes[i]) (t1:= .nil) (t2:= .nil) (t3:= .nil)).2,hto1,by rw[hnx,List.length_append (bs:=[chDN a.nodes[i]])];exact hso1,by rw[hnx,List.length_append (bs:=[chDN a.nodes[i]])];exact hT1,hfl1⟩
  ·rw[dN1,if_neg hs,List.append_nil]at hnx
   simp (disch:=omega)only[↓pa,pb,natP,↓reduceIte,Nat.reduceEqDiff,f2,f3,o2,o3,f5,f6,fL,fN,fI,kfn,hs]
   exact⟨a.nodes.length- (i+1),by omega,i+1,cs,tok,rfl,by omega,by rw[hnx],rfl,by rw[hnx];exact hL,hto,by rw[hnx];exact hso,by rw[hnx];exact hT,hfl⟩
 have hie:a.nodes.take i=a.nodes:=List.take_of_length_le (by omega)
 rw[hie]at f5 hL hso hT hB
 generalize hP2:P1++a.nodes.flatMap (dN1 b.nodes)=P2 at*
 have hP2l:P2.length≤600:=by omega
 clear hie hB
 simp (disch:=omega)only[↓pa,pb,pmy,↓reduceIte,Nat.reduceEqDiff,Nat.reduceAdd,f3,o3,k1]
 refine Wp_rounds (fun q fr st=>∃ (i:Nat) (cs:List PV) (tok:Tok),q=b.nodes.length-i∧i≤b.nodes.length∧fr 2= .ptr 2 0∧fr 3= .ptr 3 0∧st.objs 2=some [NX a.nodes,EX a.edges]∧st.objs 3=some [NX b.nodes,EX b.edges]∧fr 5= .list (P2++(b.nodes.take i).flatMap (aN1 a.nodes)).length cs tok∧fr 6= .fn 100 [.ptr 3 0]∧fr 63=NX b.nodes∧fr 64=I b.nodes.length∧fr 65=I i∧Like cc 12 (P2++(b.nodes.take i).flatMap (aN1 a.nodes)) cs∧ownT 85 tok∧solid (.list (P2++(b.nodes.take i).flatMap (aN1 a.nodes)).length cs tok)=true∧TokOK st ([]++toks (.list (P2++(b.nodes.take i).flatMap (aN1 a.nodes)).length cs tok)++[])∧st.fl=0) b.nodes.length (by omega)
  ⟨0,cs,tok,by simp,by omega,by simp (disch:=omega)only[↓pa,↓reduceIte,Nat.reduceEqDiff,f2],by simp (disch:=omega)only[↓pa,↓reduceIte,Nat.reduceEqDiff,f3],by simp (disch:=omega)only[o2],by simp (disch:=omega)only[o3],by simp (disch:=omega)only[↓pa,↓reduceIte,Nat.reduceEqDiff,f5]<;>simp,by simp (disch:=omega)only[↓pa,↓reduceIte,Nat.reduceEqDiff,f6],by simp (disch:=omega)only[↓pa,↓reduceIte,Nat.reduceEqDiff],by simp (disch:=omega)only[↓pa,↓reduceIte,Nat.reduceEqDiff],by simp (disch:=omega)only[↓pa,↓reduceIte]<;>rfl,by simpa using hL,hto,by simpa using hso,by simpa using hT,hfl⟩ ?_
 clear f2 f3 o2 o3 f5 f6 fL fN fI hL hto hso hT hfl hi k1 cs tok
 rintro q fr st ⟨i,cs,tok,rfl,hi,f2,f3,o2,o3,f5,f6,fL,fN,fI,hL,hto,hso,hT,hfl⟩
 have hB:=pre_bound (l:=b.nodes) (f:=aN1 a.nodes) (P:=P2) (B:=600) (m:=1) (by omega) (fun e _=>aN1_len _ e) i
 simp (disch:=omega)only[↓pa,pb,natP,↓reduceIte,fN,fI]
 refine Cnd_intro (fun k1=>?_) (fun k1=>?_)
 ·have hlt:i<b.nodes.length:=by omega
  have hnx:=pre_next (f:=aN1 a.nodes) (P:=P2) hlt
  have hk:=nd_of hb.ns hlt
  have hk1:=hk.fl
  have hk2:=hk.ll
  have hn3:=nc_len b.nodes[i]
  have hn3t:List.take 3 (nc b.nodes[i])=nc b.nodes[i]:=rfl
  simp (disch:=omega)only[↓pa,pb,pmy,↓reduceIte,Nat.reduceEqDiff,Nat.reduceAdd,Nat.reduceLeDiff,f2,o2,fL,fI,k1,partP_n hlt,hn3,put3v,partP_nc0,hnaA]
  by_cases hs:nodeIx a.nodes b.nodes[i].id<0
  ·rw[aN1,if_pos hs]at hnx
   simp (disch:=omega)only[↓pa,pb,pmy,↓reduceIte,Nat.reduceEqDiff,Nat.reduceLeDiff,f5,hs,hn3,hn3t]
   refine RunsTo_OE (c_twinN K b.nodes[i] (by omega) (by omega)) (fun r ns hF hr=>?_)
   obtain⟨ds,rfl,hds⟩:=strip_agg_inv hr
   have hdl:ds.length=3:=by rw[←hn3,←hds,strips_map,List.length_map]
   have hFt:tokss ds=enum _ ns:=hF.tk
   have hFs:solids ds=true:=hF.so
   have hFn:nps ds=true:=hF.np
   obtain⟨x,y,z,rfl⟩:∃ x y z,ds=[x,y,z]:=by
    match ds,hdl with
    | [x,y,z],_=>exact⟨x,y,z,rfl⟩
   have hD:=cellsN hds hFn hFs
   simp (disch:=omega)only[↓pa,↓pmx,pb,pmy,↓reduceIte,Nat.reduceEqDiff,Nat.reduceAdd,Nat.reduceLeDiff,Nat.reduceLT]
   refine RunsTo_appO (X:=[]) (Y:=[]) hto hso hD.2.2.1 (by rw[hD.2.2.2,hFt];exact TokOK_more (TokOK_setO (TokOK_setO hT)) (by show st.fl≤_;omega) ns) (by rw[St.more_fl];exact hfl) hL.len rfl (by omega) (by omega) (by decide) (fun st1 tok1 hto1 hso1 hT1 ho hfl1=>?_)
   simp (disch:=omega)only[↓pa,pb,natP,↓reduceIte,Nat.reduceEqDiff,pmj,f2,f3,o2,o3,f6,fL,fN,fI,kfn,ho]
   exact⟨b.nodes.length- (i+1),by omega,i+1,_,tok1,rfl,by omega,by rw[hnx,List.length_append (bs:=[chAN b.nodes[i]])];rfl,rfl,by rw[hnx];exact Like_snoc hL rfl hD.1 hD.2.1,hto1,by rw[hnx,List.length_append (bs:=[chAN b.nodes[i]])];exact hso1,by rw[hnx,List.length_append (bs:=[chAN b.nodes[i]])];exact hT1,hfl1⟩
  ·rw[aN1,if_neg hs,List.append_nil]at hnx
   simp (disch:=omega)only[↓pa,pb,natP,↓reduceIte,Nat.reduceEqDiff,f2,f3,o2,o3,f5,f6,fL,fN,fI,kfn,hs]
   exact⟨b.nodes.length- (i+1),by omega,i+1,cs,tok,rfl,by omega,by rw[hnx],rfl,by rw[hnx];exact hL,hto,by rw[hnx];exact hso,by rw[hnx];exact hT,hfl⟩
 have hie:b.nodes.take i=b.nodes:=List.take_of_length_le (by omega)
 rw[hie]at f5 hL hso hT hB
 generalize hP3:P2++b.nodes.flatMap (aN1 a.nodes)=P3 at*
 have hP3l:P3.length≤800:=by omega
 clear hie hB
 simp (disch:=omega)only[↓pa,pb,pmy,↓reduceIte,Nat.reduceEqDiff,Nat.reduceAdd,f3,o3,k1]
 refine Wp_rounds (fun q fr st=>∃ (i:Nat) (cs:List PV) (tok:Tok),q=b.edges.length-i∧i≤b.edges.length∧fr 2= .ptr 2 0∧fr 3= .ptr 3 0∧st.objs 2=some [NX a.nodes,EX a.edges]∧st.objs 3=some [NX b.nodes,EX b.edges]∧fr 5= .list (P3++(b.edges.take i).flatMap (aEP a.edges b.edges)).length cs tok∧fr 6= .fn 100 [.ptr 3 0]∧fr 82=EX b.edges∧fr 83=I b.edges.length∧fr 84=I i∧Like cc 12 (P3++(b.edges.take i).flatMap (aEP a.edges b.edges)) cs∧ownT 85 tok∧solid (.list (P3++(b.edges.take i).flatMap (aEP a.edges b.edges)).length cs tok)=true∧TokOK st ([]++toks (.list (P3++(b.edges.take i).flatMap (aEP a.edges b.edges)).length cs tok)++[])∧st.fl=0) b.edges.length (by omega)
  ⟨0,cs,tok,by simp,by omega,by simp (disch:=omega)only[↓pa,↓reduceIte,Nat.reduceEqDiff,f2],by simp (disch:=omega)only[↓pa,↓reduceIte,Nat.reduceEqDiff,f3],by simp (disch:=omega)only[o2],by simp (disch:=omega)only[o3],by simp (disch:=omega)only[↓pa,↓reduceIte,Nat.reduceEqDiff,f5]<;>simp,by simp (disch:=omega)only[↓pa,↓reduceIte,Nat.reduceEqDiff,f6],by simp (disch:=omega)only[↓pa,↓reduceIte,Nat.reduceEqDiff],by simp (disch:=omega)only[↓pa,↓reduceIte,Nat.reduceEqDiff],by simp (disch:=omega)only[↓pa,↓reduceIte]<;>rfl,by simpa using hL,hto,by simpa using hso,by simpa using hT,hfl⟩ ?_
 clear f2 f3 o2 o3 f5 f6 fL fN fI hL hto hso hT hfl hi k1 cs tok
 rintro q fr st ⟨i,cs,tok,rfl,hi,f2,f3,o2,o3,f5,f6,fL,fN,fI,hL,hto,hso,hT,hfl⟩
 have hB:=pre_bound (l:=b.edges) (f:=aEP a.edges b.edges) (P:=P3) (B:=800) (m:=1) (by omega) (fun e _=>aEP_len _ _ e) i
 simp (disch:=omega)only[↓pa,pb,natP,↓reduceIte,fN,fI]
 refine Cnd_intro (fun k1=>?_) (fun k1=>?_)
 ·have hlt:i<b.edges.length:=by omega
  have hnx:=pre_next (f:=aEP a.edges b.edges) (P:=P3) hlt
  have hk:=eg_of hb.es hlt
  have hk1:=hk.fl
  have he5:=ec_len b.edges[i]
  have he5t:List.take 5 (ec b.edges[i])=ec b.edges[i]:=rfl
  simp (disch:=omega)only[↓pa,pb,pmy,↓reduceIte,Nat.reduceEqDiff,Nat.reduceAdd,Nat.reduceLeDiff,f2,o2,fL,fI,k1,partP_e hlt,he5,put5v,partP_ec0,heaA]
  rcases ex_spec a.edges b.edges[i].id with⟨h1,h2⟩|⟨j,hj,h1,h2⟩
  ·rw[aEP,h2]at hnx
   simp (disch:=omega)only[↓pa,pb,pmy,↓reduceIte,Nat.reduceEqDiff,Nat.reduceLeDiff,Int.reduceLT,f5,h1,he5,he5t]
   refine RunsTo_OE (c_twinE K b.edges[i] (by omega)) (fun r ns hF hr=>?_)
   obtain⟨ds,rfl,hds⟩:=strip_agg_inv hr
   have hdl:ds.length=5:=by rw[←he5,←hds,strips_map,List.length_map]
   have hFt:tokss ds=enum _ ns:=hF.tk
   have hFs:solids ds=true:=hF.so
   have hFn:nps ds=true:=hF.np
   obtain⟨v,w,x,y,z,rfl⟩:∃ v w x y z,ds=[v,w,x,y,z]:=by
    match ds,hdl with
    | [v,w,x,y,z],_=>exact⟨v,w,x,y,z,rfl⟩
   have hD:=cellsE hds hFn hFs
   simp (disch:=omega)only[↓pa,↓pmx,pb,pmy,↓reduceIte,Nat.reduceEqDiff,Nat.reduceAdd,Nat.reduceLeDiff,Nat.reduceLT]
   refine RunsTo_appO (X:=[]) (Y:=[]) hto hso hD.2.2.1 (by rw[hD.2.2.2,hFt];exact TokOK_more (TokOK_setO (TokOK_setO hT)) (by show st.fl≤_;omega) ns) (by rw[St.more_fl];exact hfl) hL.len rfl (by omega) (by omega) (by decide) (fun st1 tok1 hto1 hso1 hT1 ho hfl1=>?_)
   simp (disch:=omega)only[↓pa,pb,natP,↓reduceIte,Nat.reduceEqDiff,pmj,f2,f3,o2,o3,f6,fL,fN,fI,kfn,ho]
   exact⟨b.edges.length- (i+1),by omega,i+1,_,tok1,rfl,by omega,by rw[hnx,List.length_append (bs:=[chAE b.edges[i]])];rfl,rfl,by rw[hnx];exact Like_snoc hL rfl hD.1 hD.2.1,hto1,by rw[hnx,List.length_append (bs:=[chAE b.edges[i]])];exact hso1,by rw[hnx,List.length_append (bs:=[chAE b.edges[i]])];exact hT1,hfl1⟩
  ·rw[aEP,h2]at hnx
   simp only at hnx
   have hj0:¬ ((j:Int)<0):=by omega
   simp (disch:=omega)only[↓pa,pb,pmy,↓reduceIte,Nat.reduceEqDiff,Nat.reduceAdd,f2,o2,f6,kfn,h1,hj0,partP_e hj]
   refine RunsTo_of (hcv _ _ (by simp only[pb,↓reduceIte,Nat.reduceEqDiff,o3])) ?_
   by_cases hs:staysI b.edges a.edges[j]<0
   ·have hs':=(staysI_neg _ _).1 hs
    rw[hs',if_neg (by simp)]at hnx
    simp (disch:=omega)only[↓pa,pb,pmy,↓reduceIte,Nat.reduceEqDiff,Nat.reduceLeDiff,f5,hs,he5,he5t]
    refine RunsTo_OE (c_twinE K b.edges[i] (by omega)) (fun r ns hF hr=>?_)
    obtain⟨ds,rfl,hds⟩:=strip_agg_inv hr
    have hdl:ds.length=5:=by rw[←he5,←hds,strips_map,List.length_map]
    have hFt:tokss ds=enum _ ns:=hF.tk
    have hFs:solids ds=true:=hF.so
    have hFn:nps ds=true:=hF.np
    obtain⟨v,w,x,y,z,rfl⟩:∃ v w x y z,ds=[v,w,x,y,z]:=by
     match ds,hdl with
     | [v,w,x,y,z],_=>exact⟨v,w,x,y,z,rfl⟩
    have hD:=cellsE hds hFn hFs
    simp (disch:=omega)only[↓pa,↓pmx,pb,pmy,↓reduceIte,Nat.reduceEqDiff,Nat.reduceAdd,Nat.reduceLeDiff,Nat.reduceLT]
    refine RunsTo_appO (X:=[]) (Y:=[]) hto hso hD.2.2.1 (by rw[hD.2.2.2,hFt];exact TokOK_more (TokOK_setO (TokOK_setO hT)) (by show st.fl≤_;omega) ns) (by rw[St.more_fl];exact hfl) hL.len rfl (by omega) (by omega) (by decide) (fun st1 tok1 hto1 hso1 hT1 ho hfl1=>?_)
    simp (disch:=omega)only[↓pa,pb,natP,↓reduceIte,Nat.reduceEqDiff,pmj,f2,f3,o2,o3,f6,fL,fN,fI,kfn,ho]
    exact⟨b.edges.length- (i+1),by omega,i+1,_,tok1,rfl,by omega,by rw[hnx,List.length_append (bs:=[chAE b.edges[i]])];rfl,rfl,by rw[hnx];exact Like_snoc hL rfl hD.1 hD.2.1,hto1,by rw[hnx,List.length_append (bs:=[chAE b.edges[i]])];exact hso1,by rw[hnx,List.length_append (bs:=[chAE b.edges[i]])];exact hT1,hfl1⟩
   ·have hs':staysB b.edges a.edges[j]=true:=by
     cases h:staysB b.edges a.edges[j]with
     |true=>rfl
     |false=>exact absurd ((staysI_neg _ _).2 h) hs
    rw[hs',if_pos rfl,List.append_nil]at hnx
    simp (disch:=omega)only[↓pa,pb,natP,↓reduceIte,Nat.reduceEqDiff,f2,f3,o2,o3,f5,f6,fL,fN,fI,kfn,hs]
    exact⟨b.edges.length- (i+1),by omega,i+1,cs,tok,rfl,by omega,by rw[hnx],rfl,by rw[hnx];exact hL,hto,by rw[hnx];exact hso,by rw[hnx];exact hT,hfl⟩
 have hie:b.edges.take i=b.edges:=List.take_of_length_le (by omega)
 rw[hie]at f5 hL hso hT hB
 generalize hP4:P3++b.edges.flatMap (aEP a.edges b.edges)=P4 at*
 have hP4l:P4.length≤1200:=by omega
 clear hie hB
 simp (disch:=omega)only[↓pa,pb,pmy,↓reduceIte,Nat.reduceEqDiff,Nat.reduceAdd,f3,o3,k1]
 refine Wp_rounds (fun q fr st=>∃ (i:Nat) (cs:List PV) (tok:Tok),q=b.nodes.length-i∧i≤b.nodes.length∧fr 2= .ptr 2 0∧fr 3= .ptr 3 0∧st.objs 2=some [NX a.nodes,EX a.edges]∧st.objs 3=some [NX b.nodes,EX b.edges]∧fr 5= .list (P4++(b.nodes.take i).flatMap (nFP a.nodes)).length cs tok∧fr 6= .fn 100 [.ptr 3 0]∧fr 112=NX b.nodes∧fr 113=I b.nodes.length∧fr 114=I i∧Like cc 12 (P4++(b.nodes.take i).flatMap (nFP a.nodes)) cs∧ownT 85 tok∧solid (.list (P4++(b.nodes.take i).flatMap (nFP a.nodes)).length cs tok)=true∧TokOK st ([]++toks (.list (P4++(b.nodes.take i).flatMap (nFP a.nodes)).length cs tok)++[])∧st.fl=0) b.nodes.length (by omega)
  ⟨0,cs,tok,by simp,by omega,by simp (disch:=omega)only[↓pa,↓reduceIte,Nat.reduceEqDiff,f2],by simp (disch:=omega)only[↓pa,↓reduceIte,Nat.reduceEqDiff,f3],by simp (disch:=omega)only[o2],by simp (disch:=omega)only[o3],by simp (disch:=omega)only[↓pa,↓reduceIte,Nat.reduceEqDiff,f5]<;>simp,by simp (disch:=omega)only[↓pa,↓reduceIte,Nat.reduceEqDiff,f6],by simp (disch:=omega)only[↓pa,↓reduceIte,Nat.reduceEqDiff],by simp (disch:=omega)only[↓pa,↓reduceIte,Nat.reduceEqDiff],by simp (disch:=omega)only[↓pa,↓reduceIte]<;>rfl,by simpa using hL,hto,by simpa using hso,by simpa using hT,hfl⟩ ?_
 clear f2 f3 o2 o3 f5 f6 fL fN fI hL hto hso hT hfl hi k1 cs tok
 rintro q fr st ⟨i,cs,tok,rfl,hi,f2,f3,o2,o3,f5,f6,fL,fN,fI,hL,hto,hso,hT,hfl⟩
 have hB:=pre_bound (l:=b.nodes) (f:=nFP a.nodes) (P:=P4) (B:=1200) (m:=161) (by omega) (fun n hn=>nFP_len (hb.ns n hn) ha.ns) i
 simp (disch:=omega)only[↓pa,pb,natP,↓reduceIte,fN,fI]
 refine Cnd_intro (fun k1=>?_) (fun k1=>?_)
 ·have hlt:i<b.nodes.length:=by omega
  have hnx:=pre_next (f:=nFP a.nodes) (P:=P4) hlt
  have hk:=nd_of hb.ns hlt
  have hk1:=hk.fl
  have hk2:=hk.ll
  have hk3:=hk.id
  have hn3:=nc_len b.nodes[i]
  have hil:=itoa_len (n:=b.nodes[i].id) (by omega) (by omega)
  have hdec:=fun st=>c_numT (st:=st) K (n:=b.nodes[i].id) (by omega) (by omega)
  simp (disch:=omega)only[↓pa,pb,pmy,↓reduceIte,Nat.reduceEqDiff,Nat.reduceAdd,Nat.reduceLeDiff,f2,o2,fL,fI,k1,partP_n hlt,hn3,put3v,partP_nc0,hnaA]
  rcases nx_spec a.nodes b.nodes[i].id with⟨h1,h2⟩|⟨j,hj,h1,h2⟩
  ·have hf:nFP a.nodes b.nodes[i]=[]:=by rw[nFP,h2]
   rw[hf,List.append_nil]at hnx
   simp (disch:=omega)only[↓pa,pb,natP,↓reduceIte,Nat.reduceEqDiff,Int.reduceLT,f2,f3,o2,o3,f5,f6,fL,fN,fI,kfn,h1]
   exact⟨b.nodes.length- (i+1),by omega,i+1,cs,tok,rfl,by omega,by rw[hnx],rfl,by rw[hnx];exact hL,hto,by rw[hnx];exact hso,by rw[hnx];exact hT,hfl⟩
  ·have hf:nFP a.nodes b.nodes[i]=labC b.nodes[i].id a.nodes[j].labels b.nodes[i].labels++fcP (nwhat b.nodes[i].id) a.nodes[j].fields b.nodes[i].fields:=by rw[nFP,h2]
   rw[hf,←List.append_assoc]at hnx
   have hq:=nd_of ha.ns hj
   have hq1:=hq.fl
   have hq2:=hq.ll
   have hj0:¬ ((j:Int)<0):=by omega
   have hsm:=fun st=>c_sameT (st:=st) K a.nodes[j].labels b.nodes[i].labels (by omega)
   by_cases hlab:a.nodes[j].labels=b.nodes[i].labels
   ·rw[labC,if_pos hlab,List.append_nil]at hnx
    have hd:decide (a.nodes[j].labels=b.nodes[i].labels)=true:=decide_eq_true hlab
    simp (maxSteps:=1000000) (disch:=omega)only[↓pa,↓pmw,pb,pmy,pmwk,↓reduceIte,Nat.reduceEqDiff,Nat.reduceAdd,f2,o2,f5,h1,hj0,Nat.add_zero,partP_nlb hj,nc,hsm,hd,hdec,e110,partP_nfl hj]
    refine RunsTo_OE (c_fcP K (nwhat b.nodes[i].id) a.nodes[j].fields b.nodes[i].fields (by omega) (by omega)) (fun r8 ns8 hF8 hr8=>?_)
    obtain⟨d8,u8,rfl,hst8,-⟩:=strip_list_inv hr8
    have hcb:=fcP_len (nwhat b.nodes[i].id) a.nodes[j].fields b.nodes[i].fields
    have hL8:=Like_of cc_len hst8 hF8.np
    simp (disch:=omega)only[↓pa,↓pmx,↓pmw,pmwk,↓reduceIte,Nat.reduceEqDiff]
    refine RunsTo_appO (X:=[]) (Y:=[]) (m:=(fcP (nwhat b.nodes[i].id) a.nodes[j].fields b.nodes[i].fields).length) hto hso (solids_of hF8.so) (tok_cells (TokOK_setO (TokOK_setO hT)) (by exact hfl) hF8.tk) (by rw[St.more_fl];exact hfl) hL.len hL8.len (by omega) (by omega) (by decide) (fun st2 tok2 hto2 hso2 hT2 ho2 hfl2=>?_)
    simp (disch:=omega)only[↓pa,↓pmw,pb,pmwk,pmwa,natP,List.getElem?_cons_zero,List.getElem?_cons_succ,↓reduceIte,Nat.reduceEqDiff,pmj,f2,f3,o2,o3,f6,fL,fN,fI,kfn,ho2]
    exact⟨b.nodes.length- (i+1),by omega,i+1,_,tok2,rfl,by omega,by rw[hnx,List.length_append (bs:=fcP (nwhat b.nodes[i].id) a.nodes[j].fields b.nodes[i].fields)],rfl,by rw[hnx];exact Like_cat hL hL8,hto2,by rw[hnx,List.length_append (bs:=fcP (nwhat b.nodes[i].id) a.nodes[j].fields b.nodes[i].fields)];exact hso2,by rw[hnx,List.length_append (bs:=fcP (nwhat b.nodes[i].id) a.nodes[j].fields b.nodes[i].fields)];exact hT2,hfl2⟩
   ·rw[labC,if_neg hlab]at hnx
    have hd:decide (a.nodes[j].labels=b.nodes[i].labels)=false:=decide_eq_false hlab
    simp (maxSteps:=1000000) (disch:=omega)only[↓pa,↓pmw,pb,pmy,pmwk,↓reduceIte,Nat.reduceEqDiff,Nat.reduceAdd,f2,o2,f5,h1,hj0,Nat.add_zero,partP_nlb hj,nc,hsm,hd]
    refine RunsTo_OE (c_twinT K b.nodes[i].labels (by omega)) (fun r ns hF hr=>?_)
    obtain⟨dt,ut,rfl,hdt,-⟩:=strip_list_inv hr
    have hD:=cellsL (id:=b.nodes[i].id) hr hF.np hF.so
    have hFt:=hF.tk
    simp (disch:=omega)only[↓pa,↓pmx,↓pmw,pb,pmy,pmwk,↓reduceIte,Nat.reduceEqDiff,Nat.reduceAdd,Nat.reduceLeDiff,Nat.reduceLT,keysOf_pl (plainV_tx b.nodes[i].labels)]
    refine RunsTo_appO (X:=[]) (Y:=[]) hto hso hD.2.2.1 (by rw[hD.2.2.2,hFt];exact TokOK_more (TokOK_setO (TokOK_setO hT)) (by show st.fl≤_;omega) ns) (by rw[St.more_fl];exact hfl) hL.len rfl (by omega) (by omega) (by decide) (fun st1 tok1 hto1 hso1 hT1 ho hfl1=>?_)
    have hL1:=Like_snoc hL rfl hD.1 hD.2.1
    have hl1:(P4++(b.nodes.take i).flatMap (nFP a.nodes)).length+1=((P4++(b.nodes.take i).flatMap (nFP a.nodes))++[chL b.nodes[i].id b.nodes[i].labels]).length:=by rw[List.length_append (bs:=[chL b.nodes[i].id b.nodes[i].labels])];rfl
    rw[hl1]at hso1 hT1 ⊢
    have hB1:((P4++(b.nodes.take i).flatMap (nFP a.nodes))++[chL b.nodes[i].id b.nodes[i].labels]).length≤33401:=by rw[←hl1];omega
    have o2':st1.objs 2=some [NX a.nodes,EX a.edges]:=by rw[ho];simp (disch:=omega)only[pb,↓reduceIte,Nat.reduceEqDiff,pmj,o2]
    have o3':st1.objs 3=some [NX b.nodes,EX b.edges]:=by rw[ho];simp (disch:=omega)only[pb,↓reduceIte,Nat.reduceEqDiff,pmj,o3]
    have o17':st1.objs 17=some [I b.nodes[i].id,TX b.nodes[i].labels,FX b.nodes[i].fields]:=by rw[ho];simp (disch:=omega)only[pb,↓reduceIte,pmj]
    clear hL hT hso hto hfl ho hl1
    simp (disch:=omega)only[↓pa,↓pmw,pb,pmy,pmwk,pmwa,List.getElem?_cons_zero,List.getElem?_cons_succ,↓reduceIte,Nat.reduceEqDiff,Nat.reduceAdd,f2,o2',o17',Nat.add_zero,hdec,e110,partP_nfl hj]
    generalize (P4++(b.nodes.take i).flatMap (nFP a.nodes))++[chL b.nodes[i].id b.nodes[i].labels]=PP at*
    refine RunsTo_OE (c_fcP K (nwhat b.nodes[i].id) a.nodes[j].fields b.nodes[i].fields (by omega) (by omega)) (fun r8 ns8 hF8 hr8=>?_)
    obtain⟨d8,u8,rfl,hst8,-⟩:=strip_list_inv hr8
    have hcb:=fcP_len (nwhat b.nodes[i].id) a.nodes[j].fields b.nodes[i].fields
    have hL8:=Like_of cc_len hst8 hF8.np
    simp (disch:=omega)only[↓pa,↓pmx,↓pmw,pmwk,↓reduceIte,Nat.reduceEqDiff]
    refine RunsTo_appO (X:=[]) (Y:=[]) (m:=(fcP (nwhat b.nodes[i].id) a.nodes[j].fields b.nodes[i].fields).length) hto1 hso1 (solids_of hF8.so) (tok_cells hT1 hfl1 hF8.tk) (by rw[St.more_fl];exact hfl1) hL1.len hL8.len (by omega) (by omega) (by decide) (fun st2 tok2 hto2 hso2 hT2 ho2 hfl2=>?_)
    simp (disch:=omega)only[↓pa,↓pmw,pb,pmwk,pmwa,natP,List.getElem?_cons_zero,List.getElem?_cons_succ,↓reduceIte,Nat.reduceEqDiff,pmj,f2,f3,o2',o3',f6,fL,fN,fI,kfn,ho2]
    exact⟨b.nodes.length- (i+1),by omega,i+1,_,tok2,rfl,by omega,by rw[hnx,List.length_append],rfl,by rw[hnx];exact Like_cat hL1 hL8,hto2,by rw[hnx,List.length_append];exact hso2,by rw[hnx,List.length_append];exact hT2,hfl2⟩
 have hie:b.nodes.take i=b.nodes:=List.take_of_length_le (by omega)
 rw[hie]at f5 hL hso hT hB
 generalize hP5:P4++b.nodes.flatMap (nFP a.nodes)=P5 at*
 have hP5l:P5.length≤33400:=by omega
 clear hie hB
 simp (disch:=omega)only[↓pa,pb,pmy,↓reduceIte,Nat.reduceEqDiff,Nat.reduceAdd,f3,o3,k1]
 refine Wp_rounds (fun q fr st=>∃ (i:Nat) (cs:List PV) (tok:Tok),q=b.edges.length-i∧i≤b.edges.length∧fr 2= .ptr 2 0∧fr 3= .ptr 3 0∧st.objs 2=some [NX a.nodes,EX a.edges]∧st.objs 3=some [NX b.nodes,EX b.edges]∧fr 5= .list (P5++(b.edges.take i).flatMap (eFP a.edges b.edges)).length cs tok∧fr 6= .fn 100 [.ptr 3 0]∧fr 161=EX b.edges∧fr 162=I b.edges.length∧fr 163=I i∧Like cc 12 (P5++(b.edges.take i).flatMap (eFP a.edges b.edges)) cs∧ownT 85 tok∧solid (.list (P5++(b.edges.take i).flatMap (eFP a.edges b.edges)).length cs tok)=true∧TokOK st ([]++toks (.list (P5++(b.edges.take i).flatMap (eFP a.edges b.edges)).length cs tok)++[])∧st.fl=0) b.edges.length (by omega)
  ⟨0,cs,tok,by simp,by omega,by simp (disch:=omega)only[↓pa,↓reduceIte,Nat.reduceEqDiff,f2],by simp (disch:=omega)only[↓pa,↓reduceIte,Nat.reduceEqDiff,f3],by simp (disch:=omega)only[o2],by simp (disch:=omega)only[o3],by simp (disch:=omega)only[↓pa,↓reduceIte,Nat.reduceEqDiff,f5]<;>simp,by simp (disch:=omega)only[↓pa,↓reduceIte,Nat.reduceEqDiff,f6],by simp (disch:=omega)only[↓pa,↓reduceIte,Nat.reduceEqDiff],by simp (disch:=omega)only[↓pa,↓reduceIte,Nat.reduceEqDiff],by simp (disch:=omega)only[↓pa,↓reduceIte]<;>rfl,by simpa using hL,hto,by simpa using hso,by simpa using hT,hfl⟩ ?_
 clear f2 f3 o2 o3 f5 f6 fL fN fI hL hto hso hT hfl hi k1 cs tok
 rintro q fr st ⟨i,cs,tok,rfl,hi,f2,f3,o2,o3,f5,f6,fL,fN,fI,hL,hto,hso,hT,hfl⟩
 have hB:=pre_bound (l:=b.edges) (f:=eFP a.edges b.edges) (P:=P5) (B:=33400) (m:=160) (by omega) (fun n hn=>eFP_len (hb.es n hn) ha.es) i
 simp (disch:=omega)only[↓pa,pb,natP,↓reduceIte,fN,fI]
 refine Cnd_intro (fun k1=>?_) (fun k1=>?_)
 ·have hlt:i<b.edges.length:=by omega
  have hnx:=pre_next (f:=eFP a.edges b.edges) (P:=P5) hlt
  have hk:=eg_of hb.es hlt
  have hk1:=hk.fl
  have hk3:=hk.id
  have he5:=ec_len b.edges[i]
  have hil:=itoa_len (n:=b.edges[i].id) (by omega) (by omega)
  have hdec:=fun st=>c_numT (st:=st) K (n:=b.edges[i].id) (by omega) (by omega)
  simp (disch:=omega)only[↓pa,pb,pmy,↓reduceIte,Nat.reduceEqDiff,Nat.reduceAdd,Nat.reduceLeDiff,f2,o2,fL,fI,k1,partP_e hlt,he5,put5v,partP_ec0,heaA]
  rcases ex_spec a.edges b.edges[i].id with⟨h1,h2⟩|⟨j,hj,h1,h2⟩
  ·have hf:eFP a.edges b.edges b.edges[i]=[]:=by rw[eFP,h2]
   rw[hf,List.append_nil]at hnx
   simp (disch:=omega)only[↓pa,pb,natP,↓reduceIte,Nat.reduceEqDiff,Int.reduceLE,f2,f3,o2,o3,f5,f6,fL,fN,fI,kfn,h1]
   exact⟨b.edges.length- (i+1),by omega,i+1,cs,tok,rfl,by omega,by rw[hnx],rfl,by rw[hnx];exact hL,hto,by rw[hnx];exact hso,by rw[hnx];exact hT,hfl⟩
  ·have hj0:(0:Int)≤(j:Int):=by omega
   have hq:=eg_of ha.es hj
   have hq1:=hq.fl
   simp (disch:=omega)only[↓pa,pb,pmy,↓reduceIte,Nat.reduceEqDiff,Nat.reduceAdd,f2,o2,f6,kfn,h1,hj0,partP_e hj]
   refine RunsTo_of (hcv _ _ (by simp only[pb,↓reduceIte,Nat.reduceEqDiff,o3])) ?_
   by_cases hs:staysI b.edges a.edges[j]<0
   ·have hs':=(staysI_neg _ _).1 hs
    have hs2:¬ (0≤staysI b.edges a.edges[j]):=by omega
    have hf:eFP a.edges b.edges b.edges[i]=[]:=by rw[eFP,h2];simp[hs']
    rw[hf,List.append_nil]at hnx
    simp (disch:=omega)only[↓pa,pb,natP,↓reduceIte,Nat.reduceEqDiff,f2,f3,o2,o3,f5,f6,fL,fN,fI,kfn,hs2]
    exact⟨b.edges.length- (i+1),by omega,i+1,cs,tok,rfl,by omega,by rw[hnx],rfl,by rw[hnx];exact hL,hto,by rw[hnx];exact hso,by rw[hnx];exact hT,hfl⟩
   ·have hs':staysB b.edges a.edges[j]=true:=by
     cases h:staysB b.edges a.edges[j]with
     |true=>rfl
     |false=>exact absurd ((staysI_neg _ _).2 h) hs
    have hs2:0≤staysI b.edges a.edges[j]:=by omega
    have hf:eFP a.edges b.edges b.edges[i]=fcP (ewhat b.edges[i].id) a.edges[j].fields b.edges[i].fields:=by rw[eFP,h2];simp[hs']
    rw[hf]at hnx
    simp (disch:=omega)only[↓pa,↓pmw,pb,pmy,pmwk,↓reduceIte,Nat.reduceEqDiff,Nat.reduceAdd,f2,o2,f5,hs2,Nat.add_zero,ec,hdec,e101,partP_efl hj]
    refine RunsTo_OE (c_fcP K (ewhat b.edges[i].id) a.edges[j].fields b.edges[i].fields (by omega) (by omega)) (fun r8 ns8 hF8 hr8=>?_)
    obtain⟨d8,u8,rfl,hst8,-⟩:=strip_list_inv hr8
    have hcb:=fcP_len (ewhat b.edges[i].id) a.edges[j].fields b.edges[i].fields
    have hL8:=Like_of cc_len hst8 hF8.np
    simp (disch:=omega)only[↓pa,↓pmx,↓pmw,pmwk,↓reduceIte,Nat.reduceEqDiff]
    refine RunsTo_appO (X:=[]) (Y:=[]) (m:=(fcP (ewhat b.edges[i].id) a.edges[j].fields b.edges[i].fields).length) hto hso (solids_of hF8.so) (tok_cells (TokOK_setO (TokOK_setO hT)) (by exact hfl) hF8.tk) (by rw[St.more_fl];exact hfl) hL.len hL8.len (by omega) (by omega) (by decide) (fun st2 tok2 hto2 hso2 hT2 ho2 hfl2=>?_)
    simp (disch:=omega)only[↓pa,↓pmw,pb,pmwk,pmwa,natP,List.getElem?_cons_zero,List.getElem?_cons_succ,↓reduceIte,Nat.reduceEqDiff,pmj,f2,f3,o2,o3,f6,fL,fN,fI,kfn,ho2]
    exact⟨b.edges.length- (i+1),by omega,i+1,_,tok2,rfl,by omega,by rw[hnx,List.length_append (bs:=fcP (ewhat b.edges[i].id) a.edges[j].fields b.edges[i].fields)],rfl,by rw[hnx];exact Like_cat hL hL8,hto2,by rw[hnx,List.length_append (bs:=fcP (ewhat b.edges[i].id) a.edges[j].fields b.edges[i].fields)];exact hso2,by rw[hnx,List.length_append (bs:=fcP (ewhat b.edges[i].id) a.edges[j].fields b.edges[i].fields)];exact hT2,hfl2⟩
 have hie:b.edges.take i=b.edges:=List.take_of_length_le (by omega)
 rw[hie]at f5 hL hso hT hB
 generalize hP6:P5++b.edges.flatMap (eFP a.edges b.edges)=P6 at*
 have hP6l:P6.length≤97400:=by omega
 clear hie hB
 simp (disch:=omega)only[↓pa,pb,↓reduceIte,Nat.reduceEqDiff,pmj,f5,k1]
 refine⟨rfl,hL.np,hso,?_,?_⟩
 ·simpa using hT
 ·simp only[pmz,hL.st]
  rw[←hP6,←hP5,←hP4,←hP3,←hP2,←hP1];rfl
set_option maxHeartbeats 2000000 in
theorem c_diffI(K:Env cf)(a b:Gph):∃ r ns,callP cf 18 [.agg (gc a),.agg (gc b)] [] st=some (r,st.more ns)∧Fresh st.nx ns r∧strip r=HX (diffA a b):=by
 refine c_valO K.tab (F:=F18) (Q:=fun r=>r=HX (diffA a b)) rfl rfl rfl (lb rfl) (by simp[plainV_gr]) 1 ?_
 have hfa:∀ st,callP cf 46 [.agg [NX a.nodes,EX a.edges]] [] st=some (.bool (graphOk a),st):=fun st=>c_graphOk K a
 have hfb:∀ st,callP cf 46 [.agg [NX b.nodes,EX b.edges]] [] st=some (.bool (graphOk b),st):=fun st=>c_graphOk K b
 unfold F18 qr qd qm qc ql qo qN
 cases ha:graphOk a with
 |false=>
  have e:diffA a b=[]:=by rw[diffA,if_neg fun h=>by rw[ha]at h;cases h.1]
  simp (disch:=omega)only[↓pa,pb,pmy,↓reduceIte,Nat.reduceEqDiff,Nat.reduceAdd,Nat.reduceLeDiff,gc,pmj,hfa,ha]
  exact⟨rfl,rfl,rfl,TokOK_nil,by rw[e];rfl⟩
 |true=>
  cases hb:graphOk b with
  |false=>
   have e:diffA a b=[]:=by rw[diffA,if_neg fun h=>by rw[hb]at h;cases h.2]
   simp (disch:=omega)only[↓pa,pb,pmy,↓reduceIte,Nat.reduceEqDiff,Nat.reduceAdd,Nat.reduceLeDiff,gc,pmj,hfa,hfb,ha,hb]
   exact⟨rfl,rfl,rfl,TokOK_nil,by rw[e];rfl⟩
  |true=>
   have e:diffA a b=diffP a b:=by rw[diffA,if_pos ⟨ha,hb⟩,diff_same (gr_ok ha) (gr_ok hb)]
   have hd:∀ st,∃ r ns,callP cf 55 [.agg [NX a.nodes,EX a.edges],.agg [NX b.nodes,EX b.edges]] [] st=some (r,st.more ns)∧Fresh st.nx ns r∧strip r=HX (diffP a b):=fun st=>c_diff (st:=st) K a b (gr_ok ha) (gr_ok hb)
   simp (disch:=omega)only[↓pa,pb,pmy,↓reduceIte,Nat.reduceEqDiff,Nat.reduceAdd,Nat.reduceLeDiff,gc,hfa,hfb,ha,hb]
   refine RunsTo_OE (hd _) (fun r ns hF hr=>?_)
   simp (disch:=omega)only[↓pa,↓reduceIte,pmj]
   refine⟨?_,hF.np,hF.so,?_,?_⟩
   ·obtain⟨ds,u,rfl,-,-⟩:=strip_list_inv hr;rfl
   ·rw[hF.tk];exact TokOK_more (TokOK_setO (TokOK_setO TokOK_nil)) (Nat.zero_le _) ns
   ·show strip r=_
    rw[hr,e]
structure ChFit (c:Ch):Prop where
 ll:c.node.labels.length≤2000000
 nf:c.node.fields.length≤2000000
 ef:c.edge.fields.length≤2000000
set_option maxHeartbeats 1000000 in
theorem c_eqC1(K:Env cf)(c:Ch)(h:ChFit c):callP cf 56 [.agg (cc c),.agg (cc c)] [] st=some (.bool true,st):=by
 refine c_val K.tab (F:=F56) (t:=4) rfl rfl rfl (lb rfl) (by simp[plainV_agg (cc_plain c)]) (bare_bool _) 1 ?_
 have h1:∀ st,callP cf 93 [.agg [I c.node.id,TX c.node.labels,FX c.node.fields],.agg [I c.node.id,TX c.node.labels,FX c.node.fields]] [] st=some (.bool true,st):=fun st=>c_eqN1 (st:=st) K c.node h.ll h.nf
 have h2:∀ st,callP cf 94 [.agg [I c.edge.id,S c.edge.type,I c.edge.src,I c.edge.dst,FX c.edge.fields],.agg [I c.edge.id,S c.edge.type,I c.edge.src,I c.edge.dst,FX c.edge.fields]] [] st=some (.bool true,st):=fun st=>c_eqE1 (st:=st) K c.edge h.ef
 unfold F56 qr qd qc qb ql qf qo
 simp (disch:=omega)only[↓pa,pb,pmy,↓reduceIte,Nat.reduceEqDiff,Nat.reduceAdd,Nat.reduceLeDiff,ne_eq,cc,h1,h2]
theorem c_eqCS(K:Env cf)(l:List Ch)(hl:l.length≤2000000)(h:∀ c∈l,ChFit c):callP cf 19 [HX l,HX l] [] st=some (.bool true,st):=
 c_eqL K (F:=F19) rfl ⟨rfl,rfl,rfl,(lb rfl)⟩ cc cc_len cc_plain l hl fun a ha st=>c_eqC1 K a (h a ha)
abbrev Sh:=Nat×Nat×Nat
def shc(c:Ch):Sh:=(c.node.labels.length,c.node.fields.length,c.edge.fields.length)
def mB(k:Nat)(x:Sh):Nat:=k+2+x.1+2*x.2.1
def mkC1(k:Nat)(x:Sh):Ch:=⟨k,⟨(k+1:Nat),mkT (k+2) x.1,mkF (k+2+x.1) x.2.1⟩,⟨(mB k x:Nat),mt (mB k x+1),(mB k x+2:Nat),(mB k x+3:Nat),mkF (mB k x+4) x.2.2⟩,mt (mB k x+4+2*x.2.2),mt (mB k x+4+2*x.2.2+1),mt (mB k x+4+2*x.2.2+2)⟩
def mE(k:Nat)(x:Sh):Nat:=mB k x+4+2*x.2.2+3
def mkC:List Sh→Nat→List Ch
 | [],_=>[]
 |x::l,k=>mkC1 k x::mkC l (mE k x)
def endC:List Sh→Nat→Nat
 | [],k=>k
 |x::l,k=>endC l (mE k x)
theorem mkC_snoc:∀ (l:List Sh) (x:Sh) (k:Nat),mkC (l++[x]) k=mkC l k++[mkC1 (endC l k) x]∧endC (l++[x]) k=mE (endC l k) x
 | [],x,k=>⟨rfl,rfl⟩
 |y::l,x,k=>by
  obtain⟨h1,h2⟩:=mkC_snoc l x (mE k y)
  exact⟨by simp only[List.cons_append,mkC,endC,h1],by simp only[List.cons_append,endC,h2]⟩
theorem endC_app:∀ (l m:List Sh) (k:Nat),endC (l++m) k=endC m (endC l k)
 | [],_,_=>rfl
 |x::l,m,k=>by rw[List.cons_append,endC,endC,endC_app l m]
theorem mE_le(k:Nat)(x:Sh):k+9≤mE k x:=by unfold mE mB;omega
theorem endC_len:∀ (l:List Sh) (k:Nat),k+l.length≤endC l k
 | [],_=>Nat.le_refl _
 |x::l,k=>by have:=endC_len l (mE k x);have:=mE_le k x;rw[endC,List.length_cons];omega
theorem endC_le(l:List Sh)(k:Nat):k≤endC l k:=by have:=endC_len l k;omega
theorem endC_take(l:List Sh)(i k:Nat):endC (l.take i) k≤endC l k:=by
 have e:endC l k=endC (l.drop i) (endC (l.take i) k):=by rw[←endC_app,List.take_append_drop]
 rw[e];exact endC_le _ _
theorem mkC_len:∀ (l:List Sh) (k:Nat),(mkC l k).length=l.length
 | [],_=>rfl
 |x::l,k=>by rw[mkC,List.length_cons,mkC_len l,List.length_cons]
theorem mkC_at:∀ (l:List Sh) (k i:Nat) (h:i<(mkC l k).length) (h':i<l.length),(mkC l k)[i]=mkC1 (endC (l.take i) k) l[i]∧endC (l.take (i+1)) k=mE (endC (l.take i) k) l[i]
 |x::l,k,0,_,_=>⟨rfl,rfl⟩
 |x::l,k,i+1,h,h'=>mkC_at l (mE k x) i (by simpa [mkC]using h) (by simpa using h')
theorem cc_mk(k:Nat)(x:Sh):cc (mkC1 k x)=[I k,I (k+1:Nat),.list x.1 ((mkT (k+2) x.1).map S) .no,.list x.2.1 ((mkF (k+2+x.1) x.2.1).flatMap fc) .no,I (mB k x:Nat),S (mt (mB k x+1)),I (mB k x+2:Nat),I (mB k x+3:Nat),.list x.2.2 ((mkF (mB k x+4) x.2.2).flatMap fc) .no,S (mt (mB k x+4+2*x.2.2)),S (mt (mB k x+4+2*x.2.2+1)),S (mt (mB k x+4+2*x.2.2+2))]:=by
 simp only[cc,mkC1,TX,FX,mkT_len,mkF_len]
set_option maxHeartbeats 8000000 in
theorem c_heldCS(K:Env cf)(k:Nat)(l:List Sh)(hk:endC l k≤1000000000000):callP cf 21 [.list l.length ((mkC l k).flatMap cc) .no,I k] [] st=some (I (endC l k:Nat),st):=by
 have hl:=mkC_len l k
 have hpl:plainV (.list l.length ((mkC l k).flatMap cc) .no):=plainV_list (flat_plain cc cc_plain _)
 refine c_val K.tab (F:=F21) (t:=4) rfl rfl rfl (lb rfl) (by simp[hpl,plainV_int]) (bare_int _ _) (l.length+1) ?_
 have hm:((mkC l k).flatMap cc).length=l.length*12:=by rw[flat_len cc 12 cc_len,hl]
 have hN:=endC_len l k
 unfold F21 qr qd qm qi qb qk ql qf qo
 simp (disch:=omega)only[↓pa]
 refine Wp_rounds (fun q fr st=>∃ i:Nat,q=l.length-i∧i≤l.length∧fr 0= .list l.length ((mkC l k).flatMap cc) .no∧fr 1=I (endC (l.take i) k:Nat)∧fr 5=I i) l.length (by omega) ⟨0,by simp,by omega,by simp (disch:=omega)only[↓pa,↓reduceIte,reduceCtorEq],by simp (disch:=omega)only[↓pa,↓reduceIte,Nat.reduceEqDiff]<;>rfl,by simp (disch:=omega)only[↓pa,↓reduceIte]<;>rfl⟩ ?_
 rintro q fr st ⟨i,rfl,hi,f0,f1,f5⟩
 simp (disch:=omega)only[↓pa,pb,natP,↓reduceIte,Nat.reduceEqDiff,reduceCtorEq,f0,f5]
 refine Cnd_intro (fun h=>?_) (fun h=>?_)
 ·have hlt:i<(mkC l k).length:=by omega
  have hlt':i<l.length:=by omega
  obtain⟨ha,he⟩:=mkC_at l k i hlt hlt'
  have hle:=endC_take l (i+1) k
  rw[he]at hle
  have hpj:=fun j (hj:j+1≤12)=>partP_flat cc 12 cc_len j 1 false hj (mkC l k) i hlt
  rw[ha,cc_mk]at hpj
  have hp0:=hpj 0 (by decide)
  have hp1:=hpj 1 (by decide)
  have hp2:=hpj 2 (by decide)
  have hp3:=hpj 3 (by decide)
  have hp4:=hpj 4 (by decide)
  have hp5:=hpj 5 (by decide)
  have hp6:=hpj 6 (by decide)
  have hp7:=hpj 7 (by decide)
  have hp8:=hpj 8 (by decide)
  have hp9:=hpj 9 (by decide)
  have hp10:=hpj 10 (by decide)
  have hp11:=hpj 11 (by decide)
  rw[Nat.add_zero]at hp0
  clear hpj ha
  generalize endC (l.take i) k=m at*
  have hb:mB m l[i]=m+2+l[i].1+2*l[i].2.1:=rfl
  have hee:mE m l[i]=mB m l[i]+4+2*l[i].2.2+3:=rfl
  have ht:=fun st=>c_heldT (st:=st) K (m+2) l[i].1 (by omega)
  have hf:=fun st=>c_heldF (st:=st) K (m+2+l[i].1) l[i].2.1 (by omega)
  rw[←hb]at hf
  generalize mB m l[i]=b at*
  have ht1:=fun st=>c_markText (st:=st) K (b+1) (by omega)
  have hf2:=fun st=>c_heldF (st:=st) K (b+4) l[i].2.2 (by omega)
  have ht9:=fun st=>c_markText (st:=st) K (b+4+2*l[i].2.2) (by omega)
  have ht10:=fun st=>c_markText (st:=st) K (b+4+2*l[i].2.2+1) (by omega)
  have ht11:=fun st=>c_markText (st:=st) K (b+4+2*l[i].2.2+2) (by omega)
  unfold TX at ht
  unfold FX at hf hf2
  simp only[mkT_len,mkF_len]at ht hf hf2
  simp (disch:=omega)only[↓pa,pb,pmy,natP,↓reduceIte,Nat.reduceEqDiff,ne_eq,reduceCtorEq,f0,f1,f5,h,Nat.add_zero,hp0,hp1,hp2,ht,negN]
  simp (disch:=omega)only[↓pa,pb,pmy,↓reduceIte,Nat.reduceEqDiff,reduceCtorEq,f0,f5,Nat.add_zero,hp3,hf,negN]
  simp (disch:=omega)only[↓pa,↓pmw,pb,pmy,pmwk,pmwa,natP,List.getElem?_cons_zero,List.getElem?_cons_succ,↓reduceIte,Nat.reduceEqDiff,ne_eq,reduceCtorEq,f0,f5,hp4,hp5,ht1]
  simp (disch:=omega)only[↓pa,pb,pmy,natP,↓reduceIte,Nat.reduceEqDiff,ne_eq,reduceCtorEq,f0,f5,hp6,hp7]
  simp (disch:=omega)only[↓pa,↓pmw,pb,pmy,pmwk,↓reduceIte,Nat.reduceEqDiff,reduceCtorEq,f0,f5,hp8,hf2,negN]
  simp (disch:=omega)only[↓pa,↓pmw,pb,pmy,pmwk,pmwa,natP,List.getElem?_cons_zero,List.getElem?_cons_succ,↓reduceIte,Nat.reduceEqDiff,ne_eq,reduceCtorEq,f0,f5,hp9,ht9]
  simp (disch:=omega)only[↓pa,↓pmw,pb,pmy,pmwk,pmwa,natP,List.getElem?_cons_zero,List.getElem?_cons_succ,↓reduceIte,Nat.reduceEqDiff,ne_eq,reduceCtorEq,f0,f5,hp10,ht10]
  simp (disch:=omega)only[↓pa,↓pmw,pb,pmy,pmwk,pmwa,natP,List.getElem?_cons_zero,List.getElem?_cons_succ,↓reduceIte,Nat.reduceEqDiff,ne_eq,reduceCtorEq,f0,f5,hp11,ht11]
  exact⟨l.length- (i+1),by omega,i+1,rfl,by omega,by rw[he,hee],rfl⟩
 ·have:l.take i=l:=List.take_of_length_le (by omega)
  rw[this]at f1
  simp (disch:=omega)only[↓pa,pb,↓reduceIte,Nat.reduceEqDiff,f1,h]
end Go.PM
