/- FnExactUndoOf: the program's UndoOf returns what the reference's returns, for all arguments: the row and its card. Conditions: none. -/
import Derived.Test.YtdpamjikmlbmhaaGreatDoorPI
import Derived.Test.YtdpamjikmlbmhaaGreatDoorProg
import Derived.WalkKit
import Derived.OwnWalk
import Derived.RegionTactic
import Derived.Deep.RegionLaw
import Derived.Deep.LoopGhost
import Derived.Test.YtdpamjikmlbmhaaGreatDoorCards
import Derived.Test.YtdpamjikmlbmhaaGreatDoorTie
import Derived.Deep.DeepWitnessRowRef
import Derived.LaidMore
import Derived.ProofKit
import Derived.SevenTiedAt
set_option linter.all false
set_option maxHeartbeats 32000000
open Nat (reduceEqDiff reduceAdd reduceLeDiff reduceLT reduceMul reduceSub)
namespace Go.Proofs.YtdpamjikmlbmhaaGreatDoor.UndoOf
open Go Go.PM Go.ChangeShapes Go.WideShapes Go.ChangeAt Go.RowKit
def own:ownKnob Tryz.prog.godebug=none:=by kernel_rfl
def Rc:Tryz.prog.underlying 4=some .bool:=by kernel_rfl
def QJ:Tryz.prog.cellsOf 25=2:=by kernel_rfl
def Rp{g:cj}(h:Rb g):Jl g:=⟨h.ns,h.es,fun x hx=>(h.n x hx).1,fun x hx=>(h.n x hx).2,fun x hx=>(h.e x hx).1,fun x hx=>(h.e x hx).2⟩
set_option maxRecDepth 100000 in
def Ms(H:Type)(enc:TypeId×Value->H)(W:World)(base:Nat)(args:Array Value)(ds gs:List (DataW H))(before:List MemPlace)
  (hval:∀ (j:Nat) t v,Tryz.f7.params[j]? =some t->args[j]? =some v->Value.okWide Tryz.prog W .any base t v)
  (hW:DataW.Whole enc Tryz.prog Tryz.f7.params.toList Rows.fnExactUndoOfSpec.vars false W args.toList ds gs before) (hL:laidMetH Tryz.prog AY W) (hsh:W.ShapedOpen Tryz.prog):
  Calls Tryz.prog 7 args W fun e W'=>∃ v,e= .returned v/\Rows.fnExactUndoOfSpec.post enc Tryz.prog Tryz.f7 false true false false W args v W':=by
 have hW':=hW;have hlt:=hW.lt;obtain⟨p,q,hA0,hV,rfl,hfz,hnd⟩:=hW;have hA:DataW.TrodAll enc Tryz.prog W 0 (fun _=>true) true Tryz.f7.params.toList args.toList ds p:=hA0;have hp:Tryz.f7.params= #[25,53]:=by kernel_rfl
 rw[hp]at hA hval;obtain⟨v0,v1,d0,d1,p0,p1,rfl,rfl,rfl,h0,h1⟩:=trodAll_two hA;obtain⟨rfl,rfl⟩:=trodVars_none hV;have hv1:=hval 1 53 v1 rfl rfl;have hv0:=hval 0 25 v0 rfl rfl;have row:∀ {v:Value},v.okWide Tryz.prog W .any base 25->∃ cs,v= .agg cs/\cs.size=Tryz.prog.cellsOf 25:=fun{v} h=>by
  unfold Value.okWide at h;rw[Tryz.underlying25]at h;obtain⟨cs,h1,h2,_⟩:=h;exact⟨cs,h1,h2⟩
 obtain⟨cs,rfl,hcs⟩:=row hv0;obtain⟨fuel,hf⟩:=h0;obtain⟨fuel2,hf2⟩:=h1;obtain⟨g,hg,hok⟩:=LL hf (fh.trans (hcs.trans QJ));obtain⟨l2,u2,hu2,hR1,hl2,hok2⟩:=Ir hf2;obtain rfl:=OE hv1 hu2;obtain⟨pS,pR,hI⟩:=Lo hL hsh;have hR0:R (lm W) (.agg (gc g)) (.agg cs):=by
  have:=R.agg (G:=lm W) (gc g) cs.toList hg.1 hg.2.1 hg.2.2;simpa using this
 obtain⟨_,_,hc⟩:=ss (Pm 270 270 pS pR) hI (f:=7) (show([.agg (gc g),HX l2]:List PV).length=([.agg cs,v1]:List Value).length from rfl) (fun j p v hp hv=>by
  match j with
  |0=>simp at hp hv;subst hp hv;exact⟨hR0,ga (dE g).1⟩
  |1=>simp at hp hv;subst hp hv;exact⟨hR1,ga (fS l2).1⟩
  |j+2=>simp at hp) (PG Rq Rj g l2 (Rp hok) hl2 hok2)
 refine hc.mono fun e W' h=>?_;obtain⟨v,G',hret,hRv,_,hS,_⟩:=h;cases hRv;obtain rfl:=(oZ (by decide)).1 hret;have hb:=N2 hS;have hargs:=xh (enc:=enc) NW hb (ts:=[25,53]) (fun t ht=>by
  simp only[aZ,eo,or_false]at ht;rcases ht with rfl|rfl
  ·exact⟨by kernel_rfl,of_decide_eq_true (by kernel_rfl)⟩
  ·exact⟨by kernel_rfl,of_decide_eq_true (by kernel_rfl)⟩) (fun x hx=>hlt x (dk _ hx)) (by rw[hp]at hA0;exact hA0)
 refine⟨_,rfl,[d0,d1],[],_,[],p0++p1,[],hW',trodAll_mk1 (shut_bool Rc true),?_,rfl,Gv hS.eff hb _,fun h=>by cases h⟩;rw[hp];exact hargs
def Mb(os:Os)(a:Array Value):laidMetH Tryz.prog AY ((World.doorLaid Tryz.prog 400 os).forCall (fun _ _=>0) ⟨#[],a,[]⟩).memory:=
 laidMetH_of_parts3 (fuel:=8) (laidMet_of_run' 8 (by kernel_rfl) (by kernel_rfl)) (by kernel_rfl) (by kernel_rfl)
def reads(os:Os){H:Type}(enc:TypeId×Value->H):∃ places,DataW.whole enc Tryz.prog ((World.doorLaid Tryz.prog 400 os).forCall (fun _ _=>0) ⟨#[], #[.agg #[.slice none 0 0,.slice none 0 0],.slice none 0 0],[]⟩).memory Tryz.f7.params.toList Rows.fnExactUndoOfSpec.vars false #[Value.agg #[.slice none 0 0,.slice none 0 0],.slice none 0 0].toList 8=some ([.agg [.nil,.nil],.nil],[],places):=
 ⟨[],by kernel_rfl⟩
set_option maxRecDepth 100000 in
def O6(os:Os)(started:os.Started)(H:Type)(enc:TypeId×Value->H)(F:Stop.Interp):
  ReturnsInHanded {} Tryz.checked os 7 .any ((OpenSpec.ofChange Rows.fnExactUndoOfSpec).preRow enc Tryz.prog Tryz.f7 Rows.fnExactUndoOfRow.domain false Rows.fnExactUndoOfRow.laid) (((OpenSpec.ofChange Rows.fnExactUndoOfSpec).at F).post enc Tryz.prog Tryz.f7 false true false false):=by
 obtain⟨places,hx⟩:=reads os enc;refine returnsInHanded_of_row (C:=Tryz.checked) (s:=OpenSpec.ofChange Rows.fnExactUndoOfSpec) own started (by kernel_rfl) Tryz.func7
  (witness_row_atRef (enc:=enc) (C:=Tryz.checked) false (World.doorLaid Tryz.prog 400 os) #[.agg #[.slice none 0 0,.slice none 0 0],.slice none 0 0] rfl (by kernel_rfl) (by kernel_rfl) (by kernel_rfl)
   (OpenSpec.preRow_of_cond 8 hx (by kernel_rfl) (fun k hk=>by cases hk) (by kernel_rfl) (Mb os _))) ?_
 intro W base args ds gs before hval hW _ _ _ hL hsh _;exact Ms H enc W base args ds gs before hval hW hL hsh
def Rg:Rows.FnExactUndoOfSaid:=
 OpenClaim.holds_of_cond 7 Tryz.f7 rfl rfl rfl rfl rfl rfl rfl ⟨rfl,rfl,rfl,rfl,rfl⟩ rfl rfl rfl rfl rfl (by kernel_rfl) Tryz.func7 (by kernel_rfl)
  (of_decide_eq_true (by kernel_rfl)) (by unfold Func.isWrapper;first|(rw[am (by decide+kernel)];kernel_rfl)|(rw[ai (by decide+kernel)];exact⟨rfl,rfl⟩))
  (fun os started H enc _ F=>by rw[OpenClaim.pre_eq_preRow];exact O6 os started H enc F)
def plain(f:FuncId)(fn:Func)(hf:Tryz.pinned.checked.prog.funcNamed "loop.example/g00042/laws.FnExactUndoOf" =some f)(hfn:Tryz.pinned.checked.prog.funcs[f]? =some fn):
  true=Tryz.pinned.checked.prog.looks []/\∀ (j:Nat) t,fn.params[j]? =some t->Tryz.pinned.checked.prog.wantsStandIn t=false:=by
 obtain rfl:f=7:=Option.some.inj ((show Tryz.prog.funcNamed "loop.example/g00042/laws.FnExactUndoOf" =some 7 by kernel_rfl).symm.trans hf)|>.symm;obtain rfl:fn=Tryz.f7:=(Option.some.inj (Tryz.func7.symm.trans hfn)).symm;refine⟨by kernel_rfl,fun j t ht=>?_⟩;have hp:Tryz.f7.params= #[25,53]:=by kernel_rfl
 rw[hp]at ht;have hm:=Array.mem_of_getElem? ht;simp only[List.mem_toArray,aZ,eo,or_false]at hm;rcases hm with rfl|rfl
 ·exact(show Tryz.prog.wantsStandIn 25=false by kernel_rfl)
 ·exact(show Tryz.prog.wantsStandIn 53=false by kernel_rfl)
theorem card : Rows.FnExactUndoOfCardSaid :=
 Claim7.holds_tied_plain_at .later [] _ _ _ _ Rg (fun _ h=>by cases h) (by kernel_rfl) (fun _ h=>by cases h) fnExactUndoOf_row_tie rfl ⟨rfl,rfl⟩ (by kernel_rfl) rfl plain (by kernel_rfl)
#print axioms card
end Go.Proofs.YtdpamjikmlbmhaaGreatDoor.UndoOf
