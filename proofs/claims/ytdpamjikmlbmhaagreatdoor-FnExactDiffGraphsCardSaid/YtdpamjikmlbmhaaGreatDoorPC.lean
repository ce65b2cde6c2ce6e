/- A part of the proof: texts PnA, PnB, PnC, PnD, PnE, PoA, PoB, PoC, PoD, PoE, joined. Conditions: none. -/
import Derived.Test.YtdpamjikmlbmhaaGreatDoorPB
namespace Go.PM
variable {P:Program} {B:Nat→Nat→Option Value}
inductive CRes where
 |tmp (t:Nat)
 |cell (a sz:Nat) (ag:Bool)
def resP(fr:Fr)(st:St):CRes→Option PV
 | .tmp t=>some (fr t)
 | .cell a sz ag=>match fr a with
  | .ptr s off=>match st.objs s with
   |some cs=>partP cs off sz ag
   |none=>none
  | .iptr cs off _=>partP cs off sz ag
  |_=>none
def ressP(fr:Fr)(st:St):List CRes→Option (List PV)
 | []=>some []
 |r::rs=>match resP fr st r,ressP fr st rs with
  |some p,some ps=>some (p::ps)
  |_,_=>none
def meltAll(nk:Nat):List PV→St→List PV×St
 | [],st=>([],st)
 | .osl e sz s n::ps,st=>match st.objs s with
  |some cs=>if nk≤s∧cs.length=n*sz∧n≤byteBound then
    match meltAll nk (ps.map (killP s)) {st.more [n]with objs:=fun k=>if k=s then none else st.objs k}with
    |(qs,st')=>(.list n cs (.own st.nx e)::qs,st')
   else match meltAll nk ps st with
    |(qs,st')=>(.any::qs,st')
  |none=>match meltAll nk ps st with
   |(qs,st')=>(.any::qs,st')
 |p::ps,st=>match meltAll nk ps st with
  |(qs,st')=>(p::qs,st')
termination_by ps _=>ps.length
def Gh.melt(G:Gh)(s b e sz n:Nat)(us:List Value):Gh where
 com b' o:=if b'=b then us[o]? else G.com b' o
 sh b':=if b'=b then some (e,us.length)else G.sh b'
 tk t:=if t=G.nx then some (TkE.room (Room.mk b n sz e n))else G.tk t
 nx:=G.nx+1
 pv b':=if b'=b then some G.nx else G.pv b'
 ob k:=if k=s then none else G.ob k
 oe k:=if k=s then none else G.oe k
 xp:=G.xp
 mb:=G.mb
section
variable {G:Gh} {st:St} {w:World}
theorem Le.melt(hI:Inv P B G st w){s b e sz n:Nat}{us:List Value}(hb:G.ob s=some b):Le G (G.melt s b e sz n us):=by
 obtain⟨_,h2,h3⟩:=hI.obs s b hb
 refine⟨fun b' o v h=>?_,fun b' x h=>?_,fun t x' ht h=>?_,Nat.le_succ G.nx,fun b' k o v h hp=>?_,rfl⟩
 ·have hne:b'≠b:=by rintro rfl;rw[h2 o]at h;cases h
  simp only[Gh.melt,if_neg hne];exact h
 ·have hne:b'≠b:=by rintro rfl;rw[h3]at h;cases h
  simp only[Gh.melt,if_neg hne];exact h
 ·have hne:t≠G.nx:=by omega
  simp only[Gh.melt,if_neg hne]at h
  exact⟨x',h,Nat.le_refl _,fun _=>rfl⟩
 ·have hne:b'≠b:=by rintro rfl;rw[h2 o]at h;cases h
  simp only[Gh.melt,if_neg hne]at hp;exact hp
theorem Inv.melt(hI:Inv P B G st w){s b e sz n:Nat}{cs:List PV}{us:List Value}(hb:G.ob s=some b)(hs:st.objs s=some cs)(hh:w.heap[b]? =some (.cells us.toArray e (0,0)))(hul:us.length=n*sz)(hn:n≤byteBound)(hsz:szOf P e=some sz):
  Inv P B (G.melt s b e sz n us) {st.more [n]with objs:=fun k=>if k=s then none else st.objs k} w:=by
 have hle:=Le.melt (e:=e) (sz:=sz) (n:=n) (us:=us) hI hb
 have hnx:=hI.nx
 obtain⟨h1,h2,h3⟩:=hI.obs s b hb
 have hml:byteBound≤maxLen:=by decide
 have hobk:∀ {k b'},(G.melt s b e sz n us).ob k=some b'→k≠s∧G.ob k=some b':=by
  intro k b' h
  simp only[Gh.melt]at h
  split at h
  ·cases h
  ·rename_i hk;exact⟨hk,h⟩
 have hbne:∀ {k b'},k≠s→G.ob k=some b'→b'≠b:=by
  rintro k b' hk h rfl
  exact hk (hI.obj k s _ h hb)
 have hrne:∀ {t r},G.tk t=some (.room r)→r.b≠b:=by
  rintro t r h rfl
  have:=(hI.room t r h).1
  rw[h3]at this;cases this
 have hroom:∀ {t r},(G.melt s b e sz n us).tk t=some (.room r)→(t=G.nx∧r={b:=b,cap:=n,sz:=sz,e:=e,m:=n})∨(t≠G.nx∧G.tk t=some (.room r)):=by
  intro t r h
  simp only[Gh.melt]at h
  split at h
  ·rename_i ht;cases h;exact .inl ⟨ht,rfl⟩
  ·rename_i ht;exact .inr ⟨ht,h⟩
 refine⟨fun b' o v h=>?_,fun b' e' k h=>?_,by simp[Gh.melt,St.more,hnx],fun t x h=>?_,fun t ht=>?_,fun t r h=>?_,fun t u r q h h' hb'=>?_,fun t r h=>?_,fun k c h=>?_,fun k b' h=>?_,fun k l b' h h'=>hI.obj k l b' (hobk h).2 (hobk h').2,fun k h=>?_,fun k c h=>?_,fun b' k h=>?_,hI.xpl,fun b' o v h=>?_,fun k b' e' sz' h h'=>?_,fun k es h=>?_,hI.mbs,hI.mbi,hI.nomb,fun k b' h=>?_,fun t m h=>by
  simp only[Gh.melt]at h
  split at h
  ·cases h
  ·exact hI.ful t m h⟩
 ·simp only[Gh.melt]at h
  split at h
  ·rename_i hbb;subst hbb;simp[World.cell?,hh,h]
  ·exact hI.com b' o v h
 ·simp only[Gh.melt]at h
  split at h
  ·rename_i hbb;subst hbb;cases h;exact⟨_,hh,by simp⟩
  ·exact hI.sh b' e' k h
 ·simp only[Gh.melt]at h
  split at h
  ·rename_i ht;cases h
   refine⟨by simp[St.more];omega,?_⟩
   simp[St.more,ht,hnx,TkE.cnt]
  ·obtain⟨h4,h5⟩:=hI.cnt t x h
   exact⟨by simp only[St.more];omega,by simp only[St.more,if_pos h4];exact h5⟩
 ·by_cases h:t=G.nx
  ·exact⟨.room {b:=b,cap:=n,sz:=sz,e:=e,m:=n},by simp only[Gh.melt,if_pos h]⟩
  ·obtain⟨x,hx⟩:=hI.live t (by simp[St.more]at ht;omega)
   exact⟨x,by simp only[Gh.melt,if_neg h];exact hx⟩
 ·rcases hroom h with⟨rfl,rfl⟩|⟨ht,h⟩
  ·refine⟨by simp[Gh.melt,hul],by show n≤maxLen;omega,Nat.le_refl _,hsz,fun o ho=>?_,?_⟩
   ·simp only[Gh.melt,if_true]
    exact List.getElem?_eq_none (by simp only at ho;omega)
   ·exact(hI.obx s b hb).2
  ·obtain⟨h4,h5,h6,h7,h8,h9⟩:=hI.room t r h
   have:=hrne h
   refine⟨by simp only[Gh.melt,if_neg this];exact h4,h5,h6,h7,fun o ho=>by simp only[Gh.melt,if_neg this];exact h8 o ho,h9⟩
 ·rcases hroom h with⟨rfl,rfl⟩|⟨ht,h⟩<;>rcases hroom h' with⟨rfl,rfl⟩|⟨hu,h'⟩
  ·rfl
  ·exact absurd hb'.symm (hrne h')
  ·exact absurd hb' (hrne h)
  ·exact hI.apart t u r q h h' hb'
 ·rcases hroom h with⟨rfl,rfl⟩|⟨ht,h⟩
  ·simp only[Gh.melt,if_true]
   exact⟨fun _=>trivial,fun j hj=>(Option.some.inj hj).symm⟩
  ·simp only[Gh.melt,if_neg (hrne h)]
   exact hI.priv t r h
 ·have h':(if k=s then none else st.objs k)=some c:=h
  split at h'
  ·cases h'
  ·rename_i hk
   obtain⟨b',e',vs,h4,h5,h6⟩:=hI.objs k c h'
   exact⟨b',e',vs,by simp only[Gh.melt,if_neg hk];exact h4,h5,h6.le hle (hI.npo k c h')⟩
 ·obtain⟨hk,h'⟩:=hobk h
  obtain⟨h4,h5,h6⟩:=hI.obs k b' h'
  have:=hbne hk h'
  exact⟨h4,fun o=>by simp only[Gh.melt,if_neg this];exact h5 o,by simp only[Gh.melt,if_neg this];exact h6⟩
 ·have h':(if k=s then none else st.objs k)=none:=h
  simp only[Gh.melt]
  split
  ·rfl
  ·rename_i hk;rw[if_neg hk]at h';exact hI.nob k h'
 ·have h':(if k=s then none else st.objs k)=some c:=h
  split at h'
  ·cases h'
  ·exact hI.npo k c h'
 ·simp only[Gh.melt]at h
  split at h
  ·rename_i hbb;subst hbb;exact h1
  ·exact hI.pvl b' k h
 ·obtain⟨h4,h5⟩:=hI.base b' o v h
  have hne:b'≠b:=by rintro rfl;rw[h2 o]at h4;cases h4
  simp only[Gh.melt,if_neg hne]
  exact⟨h4,h5⟩
 ·obtain⟨hk,h4⟩:=hobk h
  simp only[Gh.melt,if_neg hk]at h'
  exact hI.oes k b' e' sz' h4 h'
 ·obtain⟨b',vs,clk,h4,h5,h6,h7⟩:=hI.mobj k es h
  exact⟨b',vs,clk,h4,h5,h6.le hle h7,h7⟩
 ·obtain⟨hk,h'⟩:=hobk h
  obtain⟨h4,h5⟩:=hI.obx k b' h'
  simp only[Gh.melt,if_neg (hbne hk h')]
  exact⟨h4,h5⟩
theorem Step.melt{G0:Gh}{w0:World}(hI:Inv P B G st w)(hS:Step G0 w0 G w){s b e sz n:Nat}{us:List Value}(hb:G.ob s=some b)(hp:w0.heap.size≤b)(h0:∀ b o v,G0.com b o=some v→b<w0.heap.size):Step G0 w0 (G.melt s b e sz n us) w:=by
 have hle:=Le.melt (e:=e) (sz:=sz) (n:=n) (us:=us) hI hb
 refine⟨⟨fun b' o v h hpn=>?_,fun b' x h=>hle.sh b' x (hS.le.sh b' x h),hS.le.xp⟩,hS.size,hS.kept,fun k b' h=>?_,fun t r h=>?_,fun b' o v h=>?_,fun b' x h=>?_,fun b' k h=>?_,hS.nearM,hS.eff⟩
 ·obtain⟨h1,h2⟩:=hS.le.com b' o v h hpn
  have hne:b'≠b:=by rintro rfl;have:=h0 _ _ _ h;omega
  exact⟨hle.com b' o v h1,by simp only[Gh.melt,if_neg hne];exact h2⟩
 ·simp only[Gh.melt]at h
  split at h
  ·cases h
  ·exact hS.nearO k b' h
 ·simp only[Gh.melt]at h
  split at h
  ·cases h;exact .inr hp
  ·exact hS.nearT t r h
 ·simp only[Gh.melt]at h
  split at h
  ·rename_i hbb;subst hbb;exact .inr (.inr hp)
  ·exact hS.nearC b' o v h
 ·simp only[Gh.melt]at h
  split at h
  ·rename_i hbb;subst hbb;exact .inr hp
  ·exact hS.nearS b' x h
 ·simp only[Gh.melt]at h
  split at h
  ·rename_i hbb;subst hbb;exact .inr hp
  ·exact hS.nearP b' k h
theorem melt_all{G0:Gh}{w0:World}(h0:∀ b o v,G0.com b o=some v→b<w0.heap.size)(nk:Nat):∀ (k:Nat) {ps:List PV} {vs:List Value} {G:Gh} {st:St},ps.length=k→Inv P B G st w→Step G0 w0 G w→(∀ s b,nk≤s→G.ob s=some b→w0.heap.size≤b)→ps.length=vs.length→(∀ (j:Nat) p v,ps[j]? =some p→vs[j]? =some v→R G p v∧tidy p=true)→
  ∃ G',Inv P B G' (meltAll nk ps st).2 w∧Le G G'∧Step G0 w0 G' w∧(∀ s,s<nk→G'.bx s=G.bx s)∧(∀ s,s<nk→(meltAll nk ps st).2.objs s=st.objs s)∧(∀ s b,nk≤s→G'.ob s=some b→w0.heap.size≤b)∧
   (meltAll nk ps st).1.length=vs.length∧∀ (j:Nat) p v,(meltAll nk ps st).1[j]? =some p→vs[j]? =some v→np p=true→R G' p v:=by
 intro k
 induction k with
 |zero=>
  intro ps vs G st hk hI hS hob hl hR
  have:ps=[]:=List.eq_nil_of_length_eq_zero hk
  subst this
  rw[meltAll]
  exact⟨G,hI,Le.refl G,hS,fun _ _=>rfl,fun _ _=>rfl,hob,hl,fun j p v h=>by simp at h⟩
 |succ k ih=>
  intro ps vs G st hk hI hS hob hl hR
  cases ps with
  |nil=>simp at hk
  |cons p ps=>
   cases vs with
   |nil=>simp at hl
   |cons v vs=>
    have hRp:=hR 0 p v rfl rfl
    have hRt:∀ (j:Nat) p v,ps[j]? =some p→vs[j]? =some v→R G p v∧tidy p=true:=fun j p v h1 h2=>hR (j+1) p v (by simpa using h1) (by simpa using h2)
    have hk':ps.length=k:=by simpa using hk
    have hl':ps.length=vs.length:=by simpa using hl
    have keep:∀ q,(∀ G',Le G G'→np q=true→R G' q v)→∃ G',Inv P B G' (meltAll nk ps st).2 w∧Le G G'∧Step G0 w0 G' w∧(∀ s,s<nk→G'.bx s=G.bx s)∧(∀ s,s<nk→(meltAll nk ps st).2.objs s=st.objs s)∧(∀ s b,nk≤s→G'.ob s=some b→w0.heap.size≤b)∧
      (q::(meltAll nk ps st).1).length=(v::vs).length∧∀ (j:Nat) p u,(q::(meltAll nk ps st).1)[j]? =some p→(v::vs)[j]? =some u→np p=true→R G' p u:=by
     intro q hq
     obtain⟨G',h1,h2,h3,h4,h5,h6,h7,h8⟩:=ih hk' hI hS hob hl' hRt
     refine⟨G',h1,h2,h3,h4,h5,h6,by simp[h7],fun j p u hp hu hn=>?_⟩
     cases j with
     |zero=>simp at hp hu;subst hp;subst hu;exact hq G' h2 hn
     |succ j=>exact h8 j p u (by simpa using hp) (by simpa using hu) hn
    have plain:∃ G',Inv P B G' (meltAll nk ps st).2 w∧Le G G'∧Step G0 w0 G' w∧(∀ s,s<nk→G'.bx s=G.bx s)∧(∀ s,s<nk→(meltAll nk ps st).2.objs s=st.objs s)∧(∀ s b,nk≤s→G'.ob s=some b→w0.heap.size≤b)∧
      (p::(meltAll nk ps st).1).length=(v::vs).length∧∀ (j:Nat) q u,(p::(meltAll nk ps st).1)[j]? =some q→(v::vs)[j]? =some u→np q=true→R G' q u:=
     keep p fun G' hL hn=>hRp.1.le hL (fun _=>true) (fun s h=>by cases h) hn
    cases p with
    |osl e sz s n=>
     rw[meltAll]
     split
     ·rename_i cs hcs
      split
      ·rename_i hc
       obtain⟨hs,hlen,hnb⟩:=hc
       cases hRp.1 with
       |osl _ _ _ _ b hb he=>
       obtain⟨e',us,hh,hRs,_⟩:=hI.box hcs hb
       obtain⟨hsz,cur,hcur⟩:=hI.oes s b e sz hb he
       rw[hh]at hcur
       cases hcur
       have hul:us.length=n*sz:=by rw[←hRs.1];exact hlen
       have hle:=Le.melt (e:=e) (sz:=sz) (n:=n) (us:=us) hI hb
       have hpb:=hob s b hs hb
       have hI1:=hI.melt hb hcs hh hul hnb hsz
       have hS1:=Step.melt (e:=e) (sz:=sz) (n:=n) (us:=us) hI hS hb hpb h0
       obtain⟨G',h1,h2,h3,h4,h5,h6,h7,h8⟩:=ih (ps:=ps.map (killP s)) (vs:=vs) (by simpa using hk') hI1 hS1 (fun k b' hk hb'=>by
        simp only[Gh.melt]at hb'
        split at hb'
        ·cases hb'
        ·exact hob k b' hk hb') (by simpa using hl') (fun j q u hq hu=>by
        rw[List.getElem?_map,Option.map_eq_some_iff]at hq
        obtain⟨q0,hq0,rfl⟩:=hq
        obtain⟨h1,h2⟩:=hRt j q0 u hq0 hu
        exact⟨(killP_any s h1).le hle (fun k=>decide (k=s)) (fun k hk=>by
         have hk:k≠s:=by simpa using hk
         simp[Gh.bx,Gh.melt,hk]) (kill_off s q0 h2),kill_tidy s h2⟩)
       refine⟨G',h1,hle.trans h2,h3,fun k hk=>?_,fun k hk=>?_,h6,by simp[h7],fun j q u hq hu hn=>?_⟩
       ·rw[h4 k hk]
        simp[Gh.bx,Gh.melt,show k≠s by omega]
       ·rw[h5 k hk]
        simp[show k≠s by omega]
       ·cases j with
        |zero=>
         simp at hq hu;subst hq;subst hu
         have hRs1:=hRs.le hle (hI.npo s cs hcs)
         have hR1:R (G.melt s b e sz n us) (.list n cs (.own G.nx e)) (.slice (some ⟨b,0,none⟩) n n):=by
          refine .list n cs _ b 0 n us (Nat.le_refl _) hRs1.1 (fun j u hu=>?_) hRs1.2.1 hRs1.2.2 ⟨by simp[Gh.melt],fun x hx=>?_⟩ (fun k _ hk=>?_) (fun _ _=>(hI.obx s b hb).2)
          ·simp only[Gh.melt,Nat.zero_add,if_true];exact hu
          ·simp only[Gh.melt,if_true]at hx
           cases hx
           exact⟨Nat.le_refl _,fun _=>⟨rfl,rfl,rfl,rfl,hul⟩⟩
          ·simp only[Gh.melt,if_true]at hk
           exact hk
         rw[hI.nx]at hR1
         exact hR1.le h2 (fun _=>true) (fun s h=>by cases h) hn
        |succ j=>exact h8 j q u (by simpa using hq) (by simpa using hu) hn
      ·exact keep .any fun G' _ _=> .any v
     ·exact keep .any fun G' _ _=> .any v
    |any=>rw[meltAll];exact plain;all_goals (intros;simp_all)
    |hole=>rw[meltAll];exact plain;all_goals (intros;simp_all)
    |int _ _=>rw[meltAll];exact plain;all_goals (intros;simp_all)
    |bool _=>rw[meltAll];exact plain;all_goals (intros;simp_all)
    |str _=>rw[meltAll];exact plain;all_goals (intros;simp_all)
    |nilp=>rw[meltAll];exact plain;all_goals (intros;simp_all)
    |nili=>rw[meltAll];exact plain;all_goals (intros;simp_all)
    |err=>rw[meltAll];exact plain;all_goals (intros;simp_all)
    |agg _=>rw[meltAll];exact plain;all_goals (intros;simp_all)
    |tup _=>rw[meltAll];exact plain;all_goals (intros;simp_all)
    |list _ _ _=>rw[meltAll];exact plain;all_goals (intros;simp_all)
    |ptr _ _=>rw[meltAll];exact plain;all_goals (intros;simp_all)
    |mp _=>rw[meltAll];exact plain;all_goals (intros;simp_all)
    |iptr _ _ _=>rw[meltAll];exact plain;all_goals (intros;simp_all)
    |fn _ _=>rw[meltAll];exact plain;all_goals (intros;simp_all)
def Gh.rest(G:Gh)(nk:Nat):Gh:={G with ob:=fun k=>if k<nk then G.ob k else none,oe:=fun k=>if k<nk then G.oe k else none,mb:=fun _=>none}
theorem Le.rest(G:Gh)(nk:Nat):Le G (G.rest nk):=⟨fun _ _ _ h=>h,fun _ _ h=>h,fun _ x' _ h=>⟨x',h,Nat.le_refl _,fun _=>rfl⟩,Nat.le_refl _,fun _ _ _ _ _ h=>h,rfl⟩
theorem Inv.rest(hI:Inv P B G st w)(nk:Nat):Inv P B (G.rest nk) {st with objs:=fun k=>if k<nk then st.objs k else none,maps:=fun _=>none} w:=by
 have hle:=Le.rest G nk
 have hobk:∀ {k b},(G.rest nk).ob k=some b→k<nk∧G.ob k=some b:=by
  intro k b h
  simp only[Gh.rest]at h
  split at h
  ·rename_i hk;exact⟨hk,h⟩
  ·cases h
 have hobj:∀ {k c},(if k<nk then st.objs k else none)=some c→k<nk∧st.objs k=some c:=by
  intro k c h
  split at h
  ·rename_i hk;exact⟨hk,h⟩
  ·cases h
 refine⟨hI.com,hI.sh,hI.nx,hI.cnt,hI.live,hI.room,hI.apart,hI.priv,fun k c h=>?_,fun k b h=>hI.obs k b (hobk h).2,fun k l b h h'=>hI.obj k l b (hobk h).2 (hobk h').2,fun k h=>?_,fun k c h=>hI.npo k c (hobj h).2,hI.pvl,hI.xpl,hI.base,fun k b e sz h h'=>?_,
  fun k es h=>(by cases h),fun k b h=>(by cases h),fun k l b h=>(by cases h),fun k h=>rfl,fun k b h=>hI.obx k b (hobk h).2,hI.ful⟩
 ·obtain⟨hk,hc⟩:=hobj h
  obtain⟨b,e,vs,hb,hh,hR⟩:=hI.objs k c hc
  exact⟨b,e,vs,by simp only[Gh.rest,if_pos hk];exact hb,hh,hR.le hle (hI.npo k c hc)⟩
 ·simp only[Gh.rest]
  split
  ·rename_i hk
   simp only[if_pos hk]at h
   exact hI.nob k h
  ·rfl
 ·obtain⟨hk,h1⟩:=hobk h
  simp only[Gh.rest,if_pos hk]at h'
  exact hI.oes k b e sz h1 h'
theorem Step.rest{G0:Gh}{w0:World}(hS:Step G0 w0 G w)(nk:Nat):Step G0 w0 (G.rest nk) w:=by
 refine⟨⟨hS.le.com,hS.le.sh,hS.le.xp⟩,hS.size,hS.kept,fun k b h=>?_,hS.nearT,hS.nearC,hS.nearS,hS.nearP,fun s b h=>(by cases h),hS.eff⟩
 simp only[Gh.rest]at h
 split at h
 ·exact hS.nearO k b h
 ·cases h
end
def Gh.shut(G:Gh)(l:List Nat):Gh:=
 {G with tk:=fun t=>(l[t]?).bind G.tk,nx:=l.length,pv:=fun b=>(G.pv b).bind (idxIn l)}
theorem rn_shut(G:Gh)(l:List Nat):Rn (idxIn l) (fun _=>false) false G (G.shut l) where
 com b o v h _:=h
 sh b x h:=h
 tk k k' h _ hlt:=by
  have hg:=idxIn_get h
  refine⟨(List.getElem?_eq_some_iff.1 hg).1,fun x' hx'=>?_⟩
  simp only[Gh.shut,hg,Option.bind_some]at hx'
  exact⟨x',hx',Nat.le_refl _,fun _=>rfl⟩
 pv b k' o v _ _ h:=by
  simp only[Gh.shut,Option.bind_eq_some_iff]at h
  obtain⟨k,h1,h2⟩:=h
  exact .inl ⟨k,h1,h2⟩
 xp b o v _ _ h:= .inl h
section
variable {G:Gh} {st:St} {w:World}
theorem Inv.shut(hI:Inv P B G st w){ts:List (Nat×Nat)}(hts:TsOk st ts)(hmaps:st.maps=fun _=>none){cs:List (List PV)}(hobj:∀ k,st.objs k=cs[k]?)(sw:Bool):
  Inv P B (G.shut (ts.map (·.1))) (stB (ts.map (·.2)) (cs.map (rens (idxIn (ts.map (·.1))) sw))) w:=by
 generalize hl:ts.map (·.1)=l at*
 have hJn:l.Nodup:=by rw[←hl];exact hts.1
 have hlen:l.length=ts.length:=by rw[←hl];simp
 have hJk:∀ {t k:Nat},l[t]? =some k→k<st.nx∧(ts.map (·.2)).getD t 0=st.cnt k∧st.fl≤k∧t<ts.length:=fun h=>tsOk_get hts (by rw[hl];exact h)
 have htk:∀ {t x},(G.shut l).tk t=some x→∃ k,l[t]? =some k∧G.tk k=some x:=by
  intro t x h
  simpa only[Gh.shut,Option.bind_eq_some_iff]using h
 have hobjR:∀ {k c},(stB (ts.map (·.2)) (cs.map (rens (idxIn l) sw))).objs k=some c→∃ c0,st.objs k=some c0∧c=rens (idxIn l) sw c0:=by
  intro k c h
  simp only[stB,List.getElem?_map,Option.map_eq_some_iff]at h
  obtain⟨c0,h1,h2⟩:=h
  exact⟨c0,by rw[hobj k,h1],h2.symm⟩
 refine⟨hI.com,hI.sh,by simp[Gh.shut,stB,hlen],fun t x h=>?_,fun t h=>?_,fun t r h=>?_,fun t u r q h1 h2 hb=>?_,fun t r h=>?_,fun k c h=>?_,hI.obs,hI.obj,fun k h=>?_,fun k c h=>?_,fun b k h=>?_,hI.xpl,fun b o v h=>?_,hI.oes,fun s es h=>(by cases h),fun s b h=>?_,hI.mbi,fun s _=>?_,fun s b h=>?_,fun t m h=>by obtain⟨k,hk,hx⟩:=htk h;exact hI.ful k m hx⟩
 ·obtain⟨k,hk,hx⟩:=htk h
  obtain⟨h1,h2,_,h4⟩:=hJk hk
  refine⟨by simpa [stB]using h4,?_⟩
  simp only[stB]
  rw[h2,(hI.cnt k x hx).2]
 ·have hlt:t<l.length:=by simpa [stB,hlen]using h
  have hk:l[t]? =some l[t]:=List.getElem?_eq_getElem hlt
  obtain⟨x,hx⟩:=hI.live _ (hJk hk).1
  exact⟨x,by simp only[Gh.shut,hk,Option.bind_some];exact hx⟩
 ·obtain⟨k,hk,hx⟩:=htk h
  exact hI.room k r hx
 ·obtain⟨k,hk,hx⟩:=htk h1
  obtain⟨k',hk',hy⟩:=htk h2
  have:=hI.apart k k' r q hx hy hb
  subst this
  exact nodup_inj hJn hk hk'
 ·obtain⟨k,hk,hx⟩:=htk h
  have hp:=(hI.priv k r hx).1 (hJk hk).2.2.1
  have hpi:(G.shut l).pv r.b=some t:=by simp only[Gh.shut,hp,Option.bind_some];exact idxIn_of hJn hk
  rw[hpi]
  exact⟨fun _=>rfl,fun j hj=>(Option.some.inj hj).symm⟩
 ·obtain⟨c0,hc0,rfl⟩:=hobjR h
  obtain⟨b,e,vs,hb,hh,hR⟩:=hI.objs k c0 hc0
  exact⟨b,e,vs,hb,hh,hR.ren (rn_shut G l) (hI.npo k c0 hc0) (tfs_none c0) (by simp)⟩
 ·simp only[stB,List.getElem?_map,Option.map_eq_none_iff]at h
  exact hI.nob k (by rw[hobj k,h])
 ·obtain⟨c0,hc0,rfl⟩:=hobjR h
  exact nps_rens (hI.npo k c0 hc0)
 ·simp only[Gh.shut,Option.bind_eq_some_iff]at h
  obtain⟨k',h1,_⟩:=h
  exact hI.pvl b k' h1
 ·obtain⟨h1,h2,h3⟩:=hI.base b o v h
  exact⟨h1,by simp[Gh.shut,h2],h3⟩
 ·exact hI.mbs s b h
 ·exact hI.nomb s (by rw[hmaps])
 ·obtain⟨h1,h2⟩:=hI.obx s b h
  exact⟨by simp[Gh.shut,h1],h2⟩
theorem Step.shut{G0:Gh}{w0:World}(hS:Step G0 w0 G w)(l:List Nat):Step G0 w0 (G.shut l) w:=by
 refine⟨⟨fun b o v h hp=>?_,hS.le.sh,hS.le.xp⟩,hS.size,hS.kept,hS.nearO,fun t r h=>?_,hS.nearC,hS.nearS,fun b k h=>?_,hS.nearM,hS.eff⟩
 ·obtain⟨h1,h2⟩:=hS.le.com b o v h hp
  exact⟨h1,by simp[Gh.shut,h2]⟩
 ·simp only[Gh.shut,Option.bind_eq_some_iff]at h
  obtain⟨k,_,h2⟩:=h
  exact hS.nearT k r h2
 ·simp only[Gh.shut,Option.bind_eq_some_iff]at h
  obtain⟨k',h1,_⟩:=h
  exact hS.nearP b k' h1
end
def tokAll(cs:List (List PV)):List (Nat×Nat):=cs.flatMap tokss
def sealP(own:Bool)(st:St)(r:PV)(cs:List (List PV)):PV×List Nat×List (List PV):=
 if own && nodupB ((toks r++tokAll cs).map (·.1)) && (toks r++tokAll cs).all (okTok st)then(ren (idxIn ((toks r++tokAll cs).map (·.1))) false r,(toks r++tokAll cs).map (·.2),cs.map (rens (idxIn ((toks r++tokAll cs).map (·.1))) false))
 else(strip r,[],cs.map strips)
structure CFn where
 nt:Nat
 nk:Nat
 body:CC
 res:List CRes
 own:Bool
def oneOf:List PV→PV
 | [p]=>p
 |ps=> .tup ps
def finish(F:CFn)(n:Nat)(fr:Fr)(st:St):Option (PV×List Nat×List (List PV)):=
 match ressP fr st F.res,getAll st (List.range n)with
 |some vs,some cs=>if np (oneOf (meltAll F.nk vs st).1) && cs.all nps then some (sealP F.own (meltAll F.nk vs st).2 (oneOf (meltAll F.nk vs st).1) cs)else none
 |_,_=>none
def frame(as:List PV):Fr:=fun t=>(as[t]?).getD .hole
def runFn(cf:CallF)(N:Nat)(F:CFn)(as:List PV)(ns:List Nat)(cs:List (List PV)):Option (PV×List Nat×List (List PV)):=
 if as.length≤F.nt∧cs.length≤F.nk then
  match ev cf N F.body (frame as,stB ns cs)with
  |some (.go,y)=>finish F cs.length y.1 y.2
  |some (.ret,y)=>finish F cs.length y.1 y.2
  |_=>none
 else none
def compRes(P:Program):ResultVar→Option CRes
 | .tmp t=>some (.tmp t)
 | .cell a t=>match szOf P t,aggOf P t with
  |some sz,some ag=>some (.cell a sz ag)
  |_,_=>none
def compRess(P:Program):List ResultVar→Option (List CRes)
 | []=>some []
 |r::rs=>match compRes P r,compRess P rs with
  |some c,some cs=>some (c::cs)
  |_,_=>none
def resOne(tmps:Array Value):ResultVar→Sem Value
 | .tmp t=>pure (tmps.getD t undef)
 | .cell a t=>do loadVar t (←asAddr (tmps.getD a undef))
section
variable {G:Gh} {nt:Nat} {fr:Fr} {st:St} {w:World} {a:Act}
theorem run_resOne(hI:Inv P B G st w)(hF:FrR G nt fr a){r:ResultVar}{c:CRes}(hc:compRes P r=some c){p:PV}(hp:resP fr st c=some p):∃ v,(resOne a.tmps r).run P w= .ok v w∧R G p v∧tidy p=true:=by
 cases r with
 |tmp t=>
  simp only[compRes,Option.some.injEq]at hc
  subst hc
  simp only[resP,Option.some.injEq]at hp
  subst hp
  exact⟨_,rfl,hF.2.1 t,hF.2.2 t⟩
 |cell x t=>
  simp only[compRes]at hc
  split at hc
  ·rename_i sz ag hs hg
   simp only[Option.some.injEq]at hc
   subst hc
   have hR:=hF.2.1 x
   have ht:=hF.2.2 x
   simp only[resP]at hp
   generalize hv:a.tmps.getD x undef=xv at hR
   split at hp
   ·rename_i s off e
    rw[e]at hR
    split at hp
    ·rename_i cs hcs
     cases hR with
     |ptr _ _ b hb=>
     obtain⟨e',us,hh,hRs,hcell⟩:=hI.box hcs hb
     obtain⟨v,hrun,hRv⟩:=run_loadVar (P:=P) (w:=w) (o:=0) hs hg hRs.1 hRs.2.1 hRs.2.2 hcell hp
     rw[Nat.zero_add]at hrun
     refine⟨v,?_,hRv,np_tidy (partP_np (hI.npo _ _ hcs) hp)⟩
     simp only[resOne,hv]
     simp[asAddr,hrun]
    ·cases hp
   ·rename_i cs off tk e
    rw[e]at hR ht
    cases hR with
    |iptr _ _ _ b o us hl hcm hr h1 _ _ _=>
    obtain⟨v,hrun,hRv⟩:=run_loadVar (P:=P) (w:=w) hs hg hl hr h1 (fun j u hu=>hI.com _ _ _ (hcm j u hu)) hp
    refine⟨v,?_,hRv,np_tidy (partP_np (tidy_iptr ht) hp)⟩
    simp only[resOne,hv]
    simp[asAddr,hrun]
   ·cases hp
  ·cases hc
theorem run_ress(hI:Inv P B G st w)(hF:FrR G nt fr a):∀ {rs:List ResultVar} {cs:List CRes},compRess P rs=some cs→∀ {ps:List PV},ressP fr st cs=some ps→
  ∃ vs:List Value,(rs.mapM (resOne a.tmps)).run P w= .ok vs w∧ps.length=vs.length∧∀ (j:Nat) p v,ps[j]? =some p→vs[j]? =some v→R G p v∧tidy p=true
 | [],cs,hc,ps,hp=>by
  simp only[compRess,Option.some.injEq]at hc
  subst hc
  simp only[ressP,Option.some.injEq]at hp
  subst hp
  exact⟨[],rfl,rfl,fun j p v h=>by simp at h⟩
 |r::rs,cs,hc,ps,hp=>by
  simp only[compRess]at hc
  split at hc
  ·rename_i c cs' h1 h2
   simp only[Option.some.injEq]at hc
   subst hc
   simp only[ressP]at hp
   split at hp
   ·rename_i p ps' h3 h4
    simp only[Option.some.injEq]at hp
    subst hp
    obtain⟨v,hv,hR,ht⟩:=run_resOne hI hF h1 h3
    obtain⟨vs,hvs,hl,hRs⟩:=run_ress hI hF h2 h4
    refine⟨v::vs,?_,by simp[hl],fun j q u hq hu=>?_⟩
    ·simp[List.mapM_cons,hv,hvs]
    ·cases j with
     |zero=>simp at hq hu;subst hq;subst hu;exact⟨hR,ht⟩
     |succ j=>exact hRs j q u (by simpa using hq) (by simpa using hu)
   ·cases hp
  ·cases hc
theorem results_eq(fn:Func)(tmps:Array Value):results fn tmps=(do
  let vs←fn.results.mapM (resOne tmps)
  pure (if h:vs.size=1 then vs[0]else .tuple vs)):=by
 unfold results
 congr 1
end
def compFn(P:Program)(M:Nat→List Nat)(nk:Nat)(own:Bool)(f:Nat):Option CFn:=
 match P.funcs[f]? with
 |some fn=>
  if fn.name= "runtime.NumGoroutine" then none else
  match fn.body with
  |some c=>match compCode P M fn.ntmps nk c,compRess P fn.results.toList with
   |some b,some rs=>some {nt:=fn.ntmps,nk:=nk,body:=b,res:=rs,own:=own}
   |_,_=>none
  |none=>none
 |none=>none
theorem compFn_of{M:Nat→List Nat}{nk:Nat}{own:Bool}{f:Nat}{F:CFn}(h:compFn P M nk own f=some F):
  ∃ fn c,P.funcs[f]? =some fn∧fn.name≠ "runtime.NumGoroutine" ∧fn.body=some c∧F.nt=fn.ntmps∧compCode P M F.nt F.nk c=some F.body∧compRess P fn.results.toList=some F.res:=by
 unfold compFn at h
 split at h
 ·rename_i fn hfn
  split at h
  ·cases h
  ·rename_i hname
   split at h
   ·rename_i c hc
    split at h
    ·rename_i b rs hb hrs
     cases h
     exact⟨fn,c,hfn,hname,hc,rfl,hb,hrs⟩
    ·cases h
   ·cases h
 ·cases h
theorem getAll_range{st:St}{n:Nat}{cs:List (List PV)}(h:getAll st (List.range n)=some cs):cs.length=n∧∀ k,k<n→st.objs k=cs[k]? :=by
 obtain⟨h1,h2⟩:=getAll_get h
 refine⟨by simpa using h1.symm,fun k hk=>h2 k k ?_⟩
 simp[hk]
section
variable {cf:CallF}
theorem frame_R{G:Gh}{nt:Nat}{as:List PV}{vs:List Value}(hl:as.length=vs.length)(hle:as.length≤nt)(hR:∀ (j:Nat) p v,as[j]? =some p→vs[j]? =some v→R G p v∧tidy p=true):
  FrR G nt (frame as) {tmps:=vs.toArray++Array.replicate (nt-vs.toArray.size) undef,defers:=[]}:=by
 refine⟨by simp;omega,fun t=>?_,fun t=>?_⟩
 ·rw[Array.getD_eq_getD_getElem?]
  unfold frame
  by_cases ht:t<as.length
  ·have h1:as[t]? =some as[t]:=List.getElem?_eq_getElem ht
   have h2:vs[t]? =some (vs[t]'(by omega)):=List.getElem?_eq_getElem (by omega)
   rw[Array.getElem?_append_left (by simp;omega)]
   simp only[List.getElem?_toArray,h1,h2,Option.getD_some]
   exact(hR t _ _ h1 h2).1
  ·rw[List.getElem?_eq_none (by omega),Array.getElem?_append_right (by simp;omega),Array.getElem?_replicate]
   simp only[Option.getD_none]
   split<;>exact .hole
 ·unfold frame
  cases h:as[t]? with
  |none=>rfl
  |some p=>
   have ht:=(List.getElem?_eq_some_iff.1 h).1
   exact(hR t p _ h (List.getElem?_eq_getElem (by omega))).2
theorem sealP_shape(own:Bool)(st:St)(r:PV)(cs:List (List PV))(hr:np r=true)(hc:∀ c∈cs,nps c=true):np (sealP own st r cs).1=true∧(sealP own st r cs).2.2.length=cs.length∧∀ c∈(sealP own st r cs).2.2,nps c=true:=by
 unfold sealP
 split
 ·refine⟨by simp only[np,off_ren];exact hr,by simp,fun c h=>?_⟩
  obtain⟨c0,h0,rfl⟩:=List.mem_map.1 h
  exact nps_rens (hc c0 h0)
 ·refine⟨by simp only[np,strip,off_ren];exact hr,by simp,fun c h=>?_⟩
  obtain⟨c0,h0,rfl⟩:=List.mem_map.1 h
  exact nps_strips (hc c0 h0)
theorem finish_shape{F:CFn}{n:Nat}{fr:Fr}{st:St}{r:PV}{ns:List Nat}{cs':List (List PV)}(h:finish F n fr st=some (r,ns,cs')):cs'.length=n∧np r=true∧∀ c∈cs',nps c=true:=by
 unfold finish at h
 split at h
 ·rename_i ps cs hps hcs
  split at h
  ·rename_i hnp
   simp only[Bool.and_eq_true]at hnp
   obtain⟨hnp,hall⟩:=hnp
   simp only[Option.some.injEq]at h
   obtain⟨h1,h2,h3⟩:=sealP_shape F.own (meltAll F.nk ps st).2 _ cs hnp (fun c hc=>(List.all_eq_true.1 hall) c hc)
   rw[h]at h1 h2 h3
   exact⟨by rw[h2,(getAll_range hcs).1],h1,h3⟩
  ·cases h
 ·cases h
theorem finish_sound{F:CFn}{fn:Func}(hres:compRess P fn.results.toList=some F.res){G0 G:Gh}{ns0:List Nat}{cs0:List (List PV)}{st:St}{w0 w:World}{fr:Fr}{a:Act}(hcs0:cs0.length≤F.nk)(hI0:Inv P B G0 (stB ns0 cs0) w0)
  (hI:Inv P B G st w) (hS:Step G0 w0 G w) (hF:FrR G F.nt fr a) (hk:∀ s,F.nk≤s∨G.bx s=G0.bx s) {r:PV} {ns:List Nat} {cs':List (List PV)} (h:finish F cs0.length fr st=some (r,ns,cs')):
  ∃ v G',(results fn a.tmps).run P w= .ok v w∧R G' r v∧Inv P B G' (stB ns cs') w∧Step G0 w0 G' w∧G'.ob=G0.ob∧∀ k,k<cs0.length→G'.oe k=G0.oe k:=by
 unfold finish at h
 split at h
 ·rename_i ps cs hps hcs
  split at h
  ·rename_i hnp
   simp only[Bool.and_eq_true]at hnp
   obtain⟨hnp,_⟩:=hnp
   simp only[Option.some.injEq]at h
   obtain⟨vs,hvs,hlv,hRv⟩:=run_ress hI hF hres hps
   obtain⟨hlc,hgc⟩:=getAll_range hcs
   have h0:∀ b o v,G0.com b o=some v→b<w0.heap.size:=fun b o v h=>by
    have:=World.block_lt_of_cell? w0 _ (hI0.com b o v h);simpa using this
   have hob0:∀ k,cs0.length≤k→G0.ob k=none:=fun k hk=>hI0.nob k (by simp only[stB];exact List.getElem?_eq_none hk)
   have hpast:∀ s b,F.nk≤s→G.ob s=some b→w0.heap.size≤b:=by
    intro s b hs hsb
    rcases hS.nearO s b hsb with⟨u,hu⟩|h
    ·exfalso
     have hulen:u<cs0.length:=by
      rcases Nat.lt_or_ge u cs0.length with h|h
      ·exact h
      ·rw[hob0 u h]at hu;cases hu
     have hGu:G.ob u=some b:=by
      rcases hk u with h|h
      ·omega
      ·rw[bx_ob h,hu]
     have:=hI.obj s u b hsb hGu
     omega
    ·exact h
   obtain⟨G1,hI1,hL1,hS1,hb1,ho1,_,hl1,hR1⟩:=melt_all h0 F.nk ps.length rfl hI hS hpast hlv hRv
   generalize hm:meltAll F.nk ps st=m at*
   obtain⟨qs,st1⟩:=m
   simp only at h hnp hI1 ho1 hl1 hR1
   have hI2:=hI1.rest F.nk
   have hL2:=Le.rest G1 F.nk
   have hS2:=hS1.rest F.nk
   generalize hq:oneOf qs=q at h hnp
   have hval:∃ v,(results fn a.tmps).run P w= .ok v w∧R (G1.rest F.nk) q v:=by
    have hrun:(fn.results.mapM (resOne a.tmps)).run P w= .ok vs.toArray w:=by
     rw[Array.mapM_eq_mapM_toList]
     simp[hvs]
    have hR':∀ (j:Nat) p v,qs[j]? =some p→vs[j]? =some v→np p=true→R (G1.rest F.nk) p v:=fun j p v hp hv hn=>
     (hR1 j p v hp hv hn).le hL2 (fun _=>true) (fun s h=>by cases h) hn
    cases qs with
    |nil=>
     have hv0:vs=[]:=List.eq_nil_of_length_eq_zero (by simpa using hl1.symm)
     subst hv0
     simp only[oneOf]at hq
     subst hq
     exact⟨.tuple #[],by rw[results_eq];simp[hrun],.tup [] [] rfl fun j p u hp=>by simp at hp⟩
    |cons p qs=>
     cases qs with
     |nil=>
      obtain⟨v,rfl⟩:∃ v,vs=[v]:=by
       cases vs with
       |nil=>simp at hl1
       |cons v vs=>cases vs with
        |nil=>exact⟨v,rfl⟩
        |cons u vs=>simp at hl1
      simp only[oneOf]at hq
      subst hq
      exact⟨v,by rw[results_eq];simp[hrun],hR' 0 _ _ rfl rfl hnp⟩
     |cons p' qs=>
      have hq':q= .tup (p::p'::qs):=hq.symm
      subst hq'
      have hnps:nps (p::p'::qs)=true:=by simpa [np,off,nps]using hnp
      refine⟨.tuple vs.toArray,?_,.tup _ vs hl1 fun j q' u hq' hu=>hR' j q' u hq' hu (nps_get hnps hq')⟩
      rw[results_eq]
      have:¬vs.length=1:=by simp at hl1;omega
      simp[hrun,this]
   obtain⟨v,hrunv,hRq⟩:=hval
   have hobj:∀ k,(if k<F.nk then st1.objs k else none)=cs[k]? :=by
    intro k
    by_cases hkn:k<cs0.length
    ·rw[if_pos (by omega),ho1 k (by omega)];exact hgc k hkn
    ·rw[List.getElem?_eq_none (by omega)]
     split
     ·rename_i hk1
      rw[ho1 k hk1]
      have h0:G0.ob k=none:=hob0 k (by omega)
      have h1:G.ob k=none:=by
       rcases hk k with h|h
       ·omega
       ·rw[bx_ob h,h0]
      cases hso:st.objs k with
      |none=>rfl
      |some c=>
       obtain⟨b,_,_,hb,_⟩:=hI.objs k c hso
       rw[h1]at hb;cases hb
     ·rfl
   have hobF:∀ l,((G1.rest F.nk).shut l).ob=G0.ob∧∀ k,k<cs0.length→((G1.rest F.nk).shut l).oe k=G0.oe k:=by
    intro l
    have key:∀ k,k<F.nk→G1.bx k=G0.bx k:=fun k hlt=>by
     rw[hb1 k hlt]
     rcases hk k with h|h
     ·omega
     ·exact h
    refine⟨funext fun k=>?_,fun k hkc=>?_⟩
    ·show(if k<F.nk then G1.ob k else none)=G0.ob k
     split
     ·rename_i hlt;exact bx_ob (key k hlt)
     ·exact(hob0 k (by omega)).symm
    ·show(if k<F.nk then G1.oe k else none)=G0.oe k
     rw[if_pos (by omega)]
     exact bx_oe (key k (by omega))
   have finishG:∀ (ts:List (Nat×Nat)),TsOk st1 ts→∀ sw,R ((G1.rest F.nk).shut (ts.map (·.1))) (ren (idxIn (ts.map (·.1))) sw q) v∧Inv P B ((G1.rest F.nk).shut (ts.map (·.1))) (stB (ts.map (·.2)) (cs.map (rens (idxIn (ts.map (·.1))) sw))) w∧Step G0 w0 ((G1.rest F.nk).shut (ts.map (·.1))) w:=by
    intro ts h1 sw
    exact⟨hRq.ren (rn_shut _ _) (fun _=>true) (fun s hs=>by cases hs) hnp (tf_none q) (by simp),hI2.shut h1 rfl hobj sw,hS2.shut _⟩
   unfold sealP at h
   split at h
   ·rename_i hb
    simp only[Bool.and_eq_true]at hb
    obtain⟨⟨_,hb1⟩,hb2⟩:=hb
    simp only[Prod.mk.injEq]at h
    obtain⟨rfl,rfl,rfl⟩:=h
    obtain⟨f1,f2,f3⟩:=finishG (toks q++tokAll cs) (tsOk_of hb1 hb2) false
    exact⟨v,_,hrunv,f1,f2,f3,(hobF _).1,(hobF _).2⟩
   ·simp only[Prod.mk.injEq]at h
    obtain⟨rfl,rfl,rfl⟩:=h
    obtain⟨f1,f2,f3⟩:=finishG [] ⟨List.nodup_nil,fun x hx=>by cases hx⟩ true
    exact⟨v,_,hrunv,f1,f2,f3,(hobF _).1,(hobF _).2⟩
  ·cases h
 ·cases h
def FnOk(P:Program)(B:Nat→Nat→Option Value)(f:Nat)(T:List PV→List Nat→List (List PV)→Option (PV×List Nat×List (List PV))):Prop:=∀ as ns cs r rs cs',T as ns cs=some (r,rs,cs')→
 Enters P f∧cs'.length=cs.length∧np r=true∧(∀ c∈cs',nps c=true)∧
 ∀ G w (vs:List Value),Inv P B G (stB ns cs) w→as.length=vs.length→(∀ (j:Nat) p v,as[j]? =some p→vs[j]? =some v→R G p v∧tidy p=true)→
  Calls P f vs.toArray w fun e w'=>∃ v G',e= .returned v∧R G' r v∧Inv P B G' (stB rs cs') w'∧Step G w G' w'∧G'.ob=G.ob∧∀ k,k<cs.length→G'.oe k=G.oe k
theorem fn_sound{M:Nat→List Nat}(hcf:CallOk P B cf)(hmix:P.follows .mixedOrders=true)(N:Nat){nk:Nat}{own:Bool}{f:Nat}{F:CFn}(hc:compFn P M nk own f=some F):FnOk P B f (runFn cf N F):=by
 obtain⟨fn,c,hfn,hname,hbody,hnt,hcode,hres⟩:=compFn_of hc
 intro as ns0 cs r ns cs' h
 have hE:Enters P f:=⟨fn,hfn,hname,by rw[hbody];rfl⟩
 unfold runFn at h
 split at h
 ·rename_i hb
  obtain⟨hb1,hb2⟩:=hb
  have key:∃ e y,ev cf N F.body (frame as,stB ns0 cs)=some (e,y)∧(e= .go∨e= .ret)∧finish F cs.length y.1 y.2=some (r,ns,cs'):=by
   split at h
   ·rename_i y hy;exact⟨.go,y,hy,.inl rfl,h⟩
   ·rename_i y hy;exact⟨.ret,y,hy,.inr rfl,h⟩
   ·cases h
  obtain⟨e,y,hev,he,hfin⟩:=key
  obtain⟨h1,h2,h3⟩:=finish_shape hfin
  refine⟨hE,h1,h2,h3,fun G w vs hI hl hR=>?_⟩
  refine calls_of_wp hfn hbody ?_
  rw[←hnt]
  refine code_sound hcf hmix N c hcode hev hI (frame_R hl hb1 hR) fun a' w' G' hI' hS' hF' hd' hk'=>?_
  obtain⟨v,G2,hrun,hR2,hI2,hS2,hob2⟩:=finish_sound hres hb2 hI hI' hS' hF' hk' hfin
  rcases he with rfl|rfl
  ·exact⟨hd'.1,v,hrun,v,G2,rfl,hR2,hI2,hS2,hob2⟩
  ·exact⟨hd'.1,v,hrun,v,G2,rfl,hR2,hI2,hS2,hob2⟩
 ·cases h
def compFnB(P:Program)(M:Nat→List Nat)(f:Nat):Option CFn:=
 match compFn P M 0 true f with
 |some F=>if keeps M=true∧F.res.length=1∧f<1000000 then some {F with res:=F.res++[.tmp 0]}else none
 |none=>none
theorem compRess_push:∀ {rs:List ResultVar} {cs:List CRes},compRess P rs=some cs→compRess P (rs++[.tmp 0])=some (cs++[.tmp 0])∧rs.length=cs.length
 | [],cs,h=>by simp only[compRess,Option.some.injEq]at h;subst h;exact⟨rfl,rfl⟩
 |r::rs,cs,h=>by
  simp only[compRess]at h
  split at h
  ·rename_i c cs' h1 h2
   simp only[Option.some.injEq]at h
   subst h
   obtain⟨h3,h4⟩:=compRess_push h2
   exact⟨by simp only[List.cons_append,compRess,h1,h3],by simp[h4]⟩
  ·cases h
theorem results_push{fn:Func}(h1:fn.results.size=1){tmps:Array Value}{w:World}{v:Value}(h:(results {fn with results:=fn.results.push (.tmp 0)} tmps).run P w= .ok v w):
  ∃ u,(results fn tmps).run P w= .ok u w∧v= .tuple #[u,tmps.getD 0 undef]:=by
 obtain⟨r0,hr0⟩:∃ r0,fn.results= #[r0]:=by
  cases hl:fn.results with
  |mk l=>
   rw[hl]at h1
   match l,h1 with
   | [r0],_=>exact⟨r0,rfl⟩
 rw[results_eq]at h ⊢
 simp only[hr0]at h ⊢
 rw[Array.mapM_eq_mapM_toList]at h ⊢
 have h00:resOne tmps (.tmp 0)=pure (tmps.getD 0 undef):=rfl
 simp only[List.push_toArray,List.mapM_cons,List.mapM_nil,List.cons_append,List.nil_append,h00]at h ⊢
 generalize resOne tmps r0=X at h ⊢
 cases hr:X.run P w with
 |ok u w1=>
  simp[hr]at h ⊢
  obtain⟨h2,h3⟩:=h
  subst h3
  exact⟨u,by simp,h2.symm⟩
 |_=>simp[hr]at h
theorem fn_soundB{M:Nat→List Nat}(hcf:CallOk P B cf)(hmix:P.follows .mixedOrders=true)(N:Nat){f:Nat}{F:CFn}(hc:compFnB P M f=some F){as:List PV}{ns0:List Nat}{cs:List (List PV)}{r:PV}{ns:List Nat}{cs':List (List PV)}(h:runFn cf N F as ns0 cs=some (r,ns,cs')):
  Enters P (fnOf (backF f))∧cs'.length=cs.length∧np r=true∧(∀ c∈cs',nps c=true)∧
  ∀ G w (vs:List Value),Inv P B G (stB ns0 cs) w→as.length=vs.length→(∀ (j:Nat) p v,as[j]? =some p→vs[j]? =some v→R G p v∧tidy p=true)→
   Calls P (fnOf (backF f)) vs.toArray w fun e w'=>∃ v G',RetOk (backF f) vs v e∧R G' r v∧Inv P B G' (stB ns cs') w'∧Step G w G' w'∧G'.ob=G.ob∧∀ k,k<cs.length→G'.oe k=G.oe k:=by
 unfold compFnB at hc
 split at hc
 ·rename_i F0 hc0
  split at hc
  ·rename_i hk
   obtain⟨hkp,hr1,hf6⟩:=hk
   cases hc
   obtain⟨fn,c,hfn,hname,hbody,hnt,hcode,hres⟩:=compFn_of hc0
   obtain⟨hresp,hlen⟩:=compRess_push hres
   have hE:Enters P f:=⟨fn,hfn,hname,by rw[hbody];rfl⟩
   rw[fnOf_back hf6]
   unfold runFn at h
   split at h
   ·rename_i hb
    obtain⟨hb1,hb2⟩:=hb
    have key:∃ e y,ev cf N F0.body (frame as,stB ns0 cs)=some (e,y)∧(e= .go∨e= .ret)∧finish {F0 with res:=F0.res++[.tmp 0]} cs.length y.1 y.2=some (r,ns,cs'):=by
     split at h
     ·rename_i y hy;exact⟨.go,y,hy,.inl rfl,h⟩
     ·rename_i y hy;exact⟨.ret,y,hy,.inr rfl,h⟩
     ·cases h
    obtain⟨e,y,hev,he,hfin⟩:=key
    obtain⟨h1,h2,h3⟩:=finish_shape hfin
    refine⟨hE,h1,h2,h3,fun G w vs hI hl hR=>?_⟩
    refine calls_of_wp hfn hbody ?_
    rw[←hnt]
    refine code_sound hcf hmix N c hcode hev hI (frame_R hl hb1 hR) fun a' w' G' hI' hS' hF' hd' hk'=>?_
    obtain⟨v,G2,hrun,hR2,hI2,hS2,hob2⟩:=finish_sound (fn:={fn with results:=fn.results.push (.tmp 0)}) (F:={F0 with res:=F0.res++[.tmp 0]}) (by simpa using hresp) hb2 hI hI' hS' hF' hk' hfin
    obtain⟨u,hu,hv⟩:=results_push (by rw[←Array.length_toList,hlen];exact hr1) hrun
    have h0:a'.tmps.getD 0 undef=vs.getD 0 undef:=by
     rw[hd'.2 hkp]
     cases vs with
     |nil=>
      simp only[List.getD_nil]
      rw[Array.getD_eq_getD_getElem?]
      simp only[List.size_toArray,List.length_nil,Nat.sub_zero,Array.empty_append,Array.getElem?_replicate]
      split<;>rfl
     |cons v0 vs=>
      rw[Array.getD_eq_getD_getElem?,Array.getElem?_append_left (by simp)]
      simp
    rw[h0]at hv
    rcases he with rfl|rfl
    ·exact⟨hd'.1,u,hu,v,G2,RetOk_back.2 ⟨u,rfl,hv⟩,hR2,hI2,hS2,hob2⟩
    ·exact⟨hd'.1,u,hu,v,G2,RetOk_back.2 ⟨u,rfl,hv⟩,hR2,hI2,hS2,hob2⟩
   ·cases h
  ·cases hc
 ·cases hc
end
theorem runFn_mono{c c':CallF}(h:CLe c c'){n n':Nat}(hn:n≤n'){F:CFn}{as:List PV}{ns:List Nat}{cs:List (List PV)}{r}(hr:runFn c n F as ns cs=some r):runFn c' n' F as ns cs=some r:=by
 unfold runFn at hr ⊢
 split at hr
 ·rename_i hb
  rw[if_pos hb]
  split at hr
  ·rename_i y hy;rw[ev_mono h hn _ hy];exact hr
  ·rename_i y hy;rw[ev_mono h hn _ hy];exact hr
  ·cases hr
 ·cases hr
theorem runFn_cont{c:Nat→CallF}{lim:CallF}(h:Chain c lim){N:Nat}{F:CFn}{as:List PV}{ns:List Nat}{cs:List (List PV)}{r}(hr:runFn lim N F as ns cs=some r):∃ n,runFn (c n) N F as ns cs=some r:=by
 unfold runFn at hr ⊢
 split at hr
 ·rename_i hb
  split at hr
  ·rename_i y hy
   obtain⟨n,hn⟩:=ev_cont h N _ hy
   exact⟨n,by rw[if_pos hb,hn];exact hr⟩
  ·rename_i y hy
   obtain⟨n,hn⟩:=ev_cont h N _ hy
   exact⟨n,by rw[if_pos hb,hn];exact hr⟩
  ·cases hr
 ·cases hr
section
variable (T:Nat→Option CFn) (pr:CallF)
def callN:Nat→CallF
 |0=>pr
 |n+1=>fun f as ns cs=>match pr f as ns cs with
  |some r=>some r
  |none=>match T f with
   |some F=>runFn (callN n) n F as ns cs
   |none=>none
theorem callN_pr{n:Nat}{f:Nat}{as:List PV}{ns:List Nat}{cs:List (List PV)}{r}(h:pr f as ns cs=some r):callN T pr n f as ns cs=some r:=by
 cases n with
 |zero=>exact h
 |succ n=>simp only[callN,h]
theorem callN_up:∀ (n:Nat),CLe (callN T pr n) (callN T pr (n+1))
 |0=>fun f as ns cs r h=>callN_pr T pr h
 |n+1=>fun f as ns cs r h=>by
  simp only[callN]at h
  cases hp:pr f as ns cs with
  |some q=>
   rw[hp]at h
   cases h
   exact callN_pr T pr hp
  |none=>
   rw[hp]at h
   rw[callN]
   simp only[hp]
   cases ht:T f with
   |none=>rw[ht]at h;cases h
   |some F=>
    rw[ht]at h
    simp only at h ⊢
    exact runFn_mono (callN_up n) (Nat.le_succ n) h
theorem callN_le{n m:Nat}(h:n≤m):CLe (callN T pr n) (callN T pr m):=by
 induction h with
 |refl=>exact CLe.refl _
 |step _ ih=>exact ih.trans (callN_up T pr _)
noncomputable def callW:CallF:=fun f as ns cs=>open Classical in if h:∃ r n,callN T pr n f as ns cs=some r then some h.choose else none
theorem callW_iff{f:Nat}{as:List PV}{ns:List Nat}{cs:List (List PV)}{r}:callW T pr f as ns cs=some r↔∃ n,callN T pr n f as ns cs=some r:=by
 unfold callW
 constructor
 ·intro h
  split at h
  ·rename_i hx
   cases h
   exact hx.choose_spec
  ·cases h
 ·rintro⟨n,hn⟩
  have hx:∃ r n,callN T pr n f as ns cs=some r:=⟨r,n,hn⟩
  rw[dif_pos hx]
  obtain⟨m,hm⟩:=hx.choose_spec
  have h1:=callN_le T pr (Nat.le_max_left n m) _ _ _ _ _ hn
  have h2:=callN_le T pr (Nat.le_max_right n m) _ _ _ _ _ hm
  rw[h1]at h2
  rw[h2]
theorem chainW:Chain (callN T pr) (callW T pr):=⟨callN_up T pr,fun _ _ _ _ _ h=>(callW_iff T pr).1 h⟩
theorem callW_fn{f:Nat}{F:CFn}(ht:T f=some F){as:List PV}{ns:List Nat}{cs:List (List PV)}{r}(hp:pr f as ns cs=none)(N:Nat)(h:runFn (callW T pr) N F as ns cs=some r):callW T pr f as ns cs=some r:=by
 obtain⟨n,hn⟩:=runFn_cont (chainW T pr) h
 refine(callW_iff T pr).2 ⟨max n N+1,?_⟩
 simp only[callN,hp,ht]
 exact runFn_mono (callN_le T pr (Nat.le_max_left n N)) (Nat.le_max_right n N) hn
theorem callW_pr{f:Nat}{as:List PV}{ns:List Nat}{cs:List (List PV)}{r}(h:pr f as ns cs=some r):callW T pr f as ns cs=some r:=(callW_iff T pr).2 ⟨0,h⟩
def TableOk(P:Program):Prop:=∀ f F,T f=some F→(f<1000000∧∃ M nk own,compFn P M nk own f=some F)∨∃ M f0,f=backF f0∧compFnB P M f0=some F
theorem callN_ok(hmix:P.follows .mixedOrders=true)(hT:TableOk T P)(hpr:CallOk P B pr):∀ n,CallOk P B (callN T pr n)
 |0=>hpr
 |n+1=>by
  intro f as ns cs r rs cs' h
  simp only[callN]at h
  cases hp:pr f as ns cs with
  |some q=>
   rw[hp]at h
   cases h
   exact hpr f as ns cs r rs cs' hp
  |none=>
   rw[hp]at h
   simp only at h
   cases ht:T f with
   |none=>rw[ht]at h;cases h
   |some F=>
    rw[ht]at h
    rcases hT f F ht with⟨hf,M,nk,own,hF⟩|⟨M,f0,hf,hF⟩
    ·have hs:=fn_sound (callN_ok hmix hT hpr n) hmix n hF as ns cs r rs cs' h
     rw[fnOf_lt hf]
     exact⟨hs.1,hs.2.1,hs.2.2.1,hs.2.2.2.1,fun G w vs h1 h2 h3=>(hs.2.2.2.2 G w vs h1 h2 h3).mono fun e w' hx=>hx.elim fun v hx=>hx.elim fun G' hx=>⟨v,G',(RetOk_lt hf).2 hx.1,hx.2⟩⟩
    ·subst hf
     exact fn_soundB (callN_ok hmix hT hpr n) hmix n hF h
theorem callW_ok(hmix:P.follows .mixedOrders=true)(hT:TableOk T P)(hpr:CallOk P B pr):CallOk P B (callW T pr):=by
 intro f as ns cs r rs cs' h
 obtain⟨n,hn⟩:=(callW_iff T pr).1 h
 exact callN_ok T pr hmix hT hpr n f as ns cs r rs cs' hn
end
end Go.PM
namespace Go.PM
def Wp(cf:CallF)(N:Nat)(c:CC)(x:Fr×St)(Q:Ex→Fr×St→Prop):Prop:=∃ e y,ev cf N c x=some (e,y)∧Q e y
def WO(cf:CallF)(os:List COper)(x:Fr×St)(K:Fr×St→Prop):Prop:=∃ y,runOps cf os x=some y∧K y
def Cnd(c A B:Prop):Prop:=(c→A)∧(¬c→B)
def Later{α:Type}(f:α→Prop)(x:α):Prop:=f x
theorem Cnd_true{α:Type}{f:α→Prop}{x:α}{B:Prop}:Cnd True (Later f x) B↔f x:=by simp[Cnd,Later]
theorem Cnd_false{α:Type}{f:α→Prop}{x:α}{A:Prop}:Cnd False A (Later f x)↔f x:=by simp[Cnd,Later]
theorem Cnd_intro{α β:Type}{f:α→Prop}{x:α}{g:β→Prop}{y:β}{c:Prop}(h:c→f x)(k:¬c→g y):Cnd c (Later f x) (Later g y):=⟨h,k⟩
theorem Cnd_not{c A B:Prop}:Cnd (¬c) A B↔Cnd c B A:=by
 by_cases h:c<;>simp[Cnd,h]
theorem later{α:Type}{f:α→Prop}{x:α}(h:f x):Later f x:=h
def thenGo(A:Fr×St→Prop)(Q:Ex→Fr×St→Prop):Ex→Fr×St→Prop
 | .go,y=>A y
 |e,y=>Q e y
def thenBlock(id:Nat)(Q:Ex→Fr×St→Prop):Ex→Fr×St→Prop
 | .exit i,y=>Cnd (i=id) (Later (Q .go) y) (Later (Q (.exit i)) y)
 |e,y=>Q e y
def byB(p:PV)(A B:Prop):Prop:=match p with
 | .bool b=>Cnd (b=true) A B
 |_=>False
def byG(p:PV)(b:Bool)(A B:Prop):Prop:=match p with
 | .bool b'=>Cnd (b'=b) A B
 | .hole=>B
 |_=>False
def RunsTo(o:Option (PV×St))(mk:PV→St→Fr×St)(A:Fr×St→Prop):Prop:=∃ v st,o=some (v,st)∧A (mk v st)
theorem RunsTo_some{v:PV}{st:St}{mk:PV→St→Fr×St}{A:Fr×St→Prop}:RunsTo (some (v,st)) mk A↔A (mk v st):=⟨fun⟨_,_,h,k⟩=>by cases h;exact k,fun h=>⟨_,_,rfl,h⟩⟩
section
variable {cf:CallF} {N:Nat} {fr:Fr} {st:St}
theorem Wp_skip{Q:Ex→Fr×St→Prop}:Wp cf N .skip (fr,st) Q↔Q .go (fr,st):=⟨fun⟨_,_,h,hq⟩=>by cases h;exact hq,fun h=>⟨_,_,rfl,h⟩⟩
theorem Wp_exit{id:Nat}{Q:Ex→Fr×St→Prop}:Wp cf N (.exit id) (fr,st) Q↔Q (.exit id) (fr,st):=⟨fun⟨_,_,h,hq⟩=>by cases h;exact hq,fun h=>⟨_,_,rfl,h⟩⟩
theorem Wp_ret{Q:Ex→Fr×St→Prop}:Wp cf N .ret (fr,st) Q↔Q .ret (fr,st):=⟨fun⟨_,_,h,hq⟩=>by cases h;exact hq,fun h=>⟨_,_,rfl,h⟩⟩
theorem Wp_seq'{a b:CC}{x:Fr×St}{Q:Ex→Fr×St→Prop}:Wp cf N (.seq a b) x Q↔Wp cf N a x (thenGo (fun y=>Wp cf N b y Q) Q):=by
 unfold Wp
 simp only[ev]
 constructor
 ·rintro⟨e,y,h,hq⟩
  split at h
  ·rename_i z hz
   exact⟨.go,z,hz,e,y,h,hq⟩
  ·rename_i hne
   refine⟨e,y,h,?_⟩
   cases e with
   |go=>exact absurd h (hne y)
   |exit i=>exact hq
   |ret=>exact hq
 ·rintro⟨e,y,h,hq⟩
  rw[h]
  cases e with
  |go=>exact hq
  |exit i=>exact⟨_,_,rfl,hq⟩
  |ret=>exact⟨_,_,rfl,hq⟩
theorem Wp_seq{a b:CC}{Q:Ex→Fr×St→Prop}:Wp cf N (.seq a b) (fr,st) Q↔Wp cf N a (fr,st) (thenGo (fun y=>Wp cf N b y Q) Q):=Wp_seq'
theorem Wp_reg{os:List COper}{Q:Ex→Fr×St→Prop}:Wp cf N (.reg os []) (fr,st) Q↔WO cf os (fr,st) (Q .go):=by
 unfold Wp WO
 simp only[ev,regP]
 constructor
 ·rintro⟨e,y,h,hq⟩
  simp only[Option.map_eq_some_iff,Prod.mk.injEq]at h
  obtain⟨z,hz,rfl,rfl⟩:=h
  exact⟨z,hz,hq⟩
 ·rintro⟨y,h,hq⟩
  exact⟨.go,y,by rw[h];rfl,hq⟩
theorem Wp_cond{c:CX}{a b:CC}{Q:Ex→Fr×St→Prop}:Wp cf N (.cond c a b) (fr,st) Q↔byB (c.ev fr) (Later (fun y=>Wp cf N a y Q) (fr,st)) (Later (fun y=>Wp cf N b y Q) (fr,st)):=by
 unfold Wp byB
 simp only[ev]
 generalize c.ev fr=p
 have no:∀ {o:Option (Ex×Fr×St)},o=none→¬ ∃ e y,o=some (e,y)∧Q e y:=by
  rintro o rfl ⟨e,y,h,_⟩;cases h
 cases p with
 |bool b=>
  cases b with
  |true=>exact⟨fun h=>⟨fun _=>h,fun h=>absurd rfl h⟩,fun h=>h.1 rfl⟩
  |false=>exact⟨fun h=>⟨fun h=>(by cases h),fun _=>h⟩,fun h=>h.2 (by simp)⟩
 |_=>exact⟨fun h=>absurd h (no rfl),fun h=>h.elim⟩
theorem Wp_block'{id:Nat}{c:CC}{x:Fr×St}{Q:Ex→Fr×St→Prop}:Wp cf N (.block id c) x Q↔Wp cf N c x (thenBlock id Q):=by
 unfold Wp
 simp only[ev]
 constructor
 ·rintro⟨e,y,h,hq⟩
  split at h
  ·rename_i i z hz
   refine⟨.exit i,z,hz,?_⟩
   simp only[thenBlock,Cnd]
   split at h
   ·rename_i hi
    cases h
    exact⟨fun _=>hq,fun h=>absurd hi h⟩
   ·rename_i hi
    cases h
    exact⟨fun h=>absurd h hi,fun _=>hq⟩
  ·rename_i hne
   refine⟨e,y,h,?_⟩
   cases e with
   |go=>exact hq
   |exit i=>exact absurd h (hne i y)
   |ret=>exact hq
 ·rintro⟨e,y,h,hq⟩
  rw[h]
  cases e with
  |go=>exact⟨_,_,rfl,hq⟩
  |ret=>exact⟨_,_,rfl,hq⟩
  |exit i=>
   simp only[thenBlock,Cnd]at hq
   simp only
   split
   ·rename_i hi;exact⟨_,_,rfl,hq.1 hi⟩
   ·rename_i hi;exact⟨_,_,rfl,hq.2 hi⟩
theorem Wp_block{id:Nat}{c:CC}{Q:Ex→Fr×St→Prop}:Wp cf N (.block id c) (fr,st) Q↔Wp cf N c (fr,st) (thenBlock id Q):=Wp_block'
theorem Wp_loop{c:CC}{Q:Ex→Fr×St→Prop}(I:Nat→Fr×St→Prop)(hs:∀ k fr st,I k (fr,st)→Wp cf N c (fr,st) (thenGo (fun y=>∃ j,j<k∧I j y) Q)):
  ∀ (k:Nat) (x:Fr×St),k<N→I k x→Wp cf N (.loop c) x Q:=by
 have key:∀ (n k:Nat) (x:Fr×St),k<n→I k x→∃ e y,iter (ev cf N c) n x=some (e,y)∧Q e y:=by
  intro n
  induction n with
  |zero=>intro k x h;omega
  |succ n ih=>
   intro k x hk hx
   obtain⟨fr,st⟩:=x
   obtain⟨e,y,h,hq⟩:=hs k fr st hx
   simp only[iter,h]
   cases e with
   |go=>
    obtain⟨j,hj,hy⟩:=hq
    exact ih j y (by omega) hy
   |exit i=>exact⟨_,_,rfl,hq⟩
   |ret=>exact⟨_,_,rfl,hq⟩
 intro k x hk hx
 exact key N k x hk hx
theorem Wp_rounds{c:CC}{Q:Ex→Fr×St→Prop}(I:Nat→Fr→St→Prop)(k:Nat){fr:Fr}{st:St}(hk:k<N)(h0:I k fr st)(hs:∀ k fr st,I k fr st→Wp cf N c (fr,st) (thenGo (fun y=>∃ j,j<k∧I j y.1 y.2) Q)):
  Wp cf N (.loop c) (fr,st) Q:=
 Wp_loop (fun k x=>I k x.1 x.2) (fun k fr st h=>hs k fr st h) k (fr,st) hk h0
theorem WO_nil{K:Fr×St→Prop}:WO cf [] (fr,st) K↔K (fr,st):=by simp[WO,runOps]
theorem WO_cons{d:Option Nat}{op:COp}{os:List COper}{K:Fr×St→Prop}:
  WO cf (⟨none,d,op⟩::os) (fr,st) K↔RunsTo (runOp cf fr st d op) (fun v st'=>(put (killF cf op d st fr) d v,st')) (fun y=>WO cf os y K):=by
 unfold WO RunsTo
 simp only[runOps,runOper,wants]
 constructor
 ·rintro⟨y,h,hk⟩
  split at h
  ·rename_i z hz
   split at hz
   ·rename_i v st' hr
    cases hz
    exact⟨v,st',hr,y,h,hk⟩
   ·cases hz
  ·cases h
 ·rintro⟨v,st',hr,y,h,hk⟩
  exact⟨y,by rw[hr];exact h,hk⟩
theorem WO_guard{s:Nat}{b:Bool}{d:Option Nat}{op:COp}{os:List COper}{K:Fr×St→Prop}:
  WO cf (⟨some (s,b),d,op⟩::os) (fr,st) K↔byG (fr s) b (Later (fun y=>WO cf (⟨none,d,op⟩::os) y K) (fr,st)) (Later (fun y=>WO cf os y K) (put fr d .hole,st)):=by
 simp only[Later,WO_cons]
 unfold WO RunsTo byG
 simp only[runOps,runOper,wants]
 generalize fr s=p
 have run:∀ {o:Option (PV×St)},(∃ y,(match (match o with|some (v,st')=>some (put (killF cf op d st fr) d v,st')|none=>none)with|some y=>runOps cf os y|none=>none)=some y∧K y)↔
   ∃ v st',o=some (v,st')∧∃ y,runOps cf os (put (killF cf op d st fr) d v,st')=some y∧K y:=by
  intro o
  cases o with
  |none=>exact⟨fun⟨_,h,_⟩=>(by cases h),fun⟨_,_,h,_⟩=>(by cases h)⟩
  |some q=>exact⟨fun⟨y,h,hk⟩=>⟨q.1,q.2,rfl,y,h,hk⟩,fun⟨v,st',h,y,hy,hk⟩=>by cases h;exact⟨y,hy,hk⟩⟩
 cases p with
 |bool b'=>
  cases b<;>cases b'
  ·exact⟨fun h=>⟨fun _=>run.1 h,fun h=>absurd rfl h⟩,fun h=>run.2 (h.1 rfl)⟩
  ·exact⟨fun h=>⟨fun h=>(by cases h),fun _=>h⟩,fun h=>h.2 (by simp)⟩
  ·exact⟨fun h=>⟨fun h=>(by cases h),fun _=>h⟩,fun h=>h.2 (by simp)⟩
  ·exact⟨fun h=>⟨fun _=>run.1 h,fun h=>absurd rfl h⟩,fun h=>run.2 (h.1 rfl)⟩
 |hole=>exact Iff.rfl
 |_=>exact⟨fun⟨_,h,_⟩=>(by cases h),fun h=>h.elim⟩
end
def killB(s:Nat)(f:Fr):Fr:=fun t=>killP s (f t)
def setO(st:St)(s:Nat)(c:List PV):St:={st with objs:=fun k=>if k=s then some c else st.objs k}
section
variable {cf:CallF} {fr:Fr} {st:St} {d:Option Nat}
end
@[reducible] def S (l:List UInt8):PV:= .str ⟨l.toArray⟩
@[reducible] def I (n:Int):PV:= .int .i64 n
@[reducible] def U (n:Int):PV:= .int .u8 n
theorem size_mk(l:List UInt8):(⟨l.toArray⟩:ByteArray).size=l.length:=by simp[ByteArray.size]
theorem toList_loop(s:ByteArray):∀ (n i:Nat) (acc:List UInt8),s.size-i=n→ByteArray.toList.loop s i acc=acc.reverse++s.data.toList.drop i
 |0,i,acc,h=>by
  unfold ByteArray.toList.loop
  rw[if_neg (by omega),List.drop_eq_nil_of_le (by simp only[Array.length_toList];change s.size≤i;omega)]
  simp
 |n+1,i,acc,h=>by
  unfold ByteArray.toList.loop
  rw[if_pos (by omega),toList_loop s n (i+1) _ (by omega)]
  have hi:i<s.data.toList.length:=by simp only[Array.length_toList];change i<s.size;omega
  rw[List.drop_eq_getElem_cons hi]
  have:s.get! i=s.data.toList[i]:=by
   simp only[Array.getElem_toList]
   change s.data[i]! =_
   rw[getElem!_pos]
  simp[this]
theorem toList_data(s:ByteArray):s.toList=s.data.toList:=by
 unfold ByteArray.toList
 rw[toList_loop s _ 0 [] rfl]
 simp
theorem toList_mk(l:List UInt8):(⟨l.toArray⟩:ByteArray).toList=l:=by rw[toList_data]
theorem pureRun_pure{α:Type}(v:α):pureRun (pure v:Sem α)=some v:=rfl
theorem beq_dec{α:Type}[DecidableEq α][BEq α][LawfulBEq α](a b:α):(a==b)=decide (a=b):=by
 rw[Bool.eq_iff_iff];simp
def sLt:List UInt8→List UInt8→Bool:=Op.bytesLess
section
variable {a b:Int} {k:IntKind} {s t:List UInt8}
theorem b_lss:binP .lss (.int k a) (.int k b)=some (.bool (decide (a<b))):=by simp[binP,toVal,binOp,Op.intCmp,pureRun_pure,ofVal]
theorem b_leq:binP .leq (.int k a) (.int k b)=some (.bool (decide (a≤b))):=by simp[binP,toVal,binOp,Op.intCmp,pureRun_pure,ofVal]
theorem b_gtr:binP .gtr (.int k a) (.int k b)=some (.bool (decide (b<a))):=by simp[binP,toVal,binOp,Op.intCmp,pureRun_pure,ofVal]
theorem b_geq:binP .geq (.int k a) (.int k b)=some (.bool (decide (b≤a))):=by simp[binP,toVal,binOp,Op.intCmp,pureRun_pure,ofVal]
theorem b_eql:binP .eql (.int k a) (.int k b)=some (.bool (decide (a=b))):=by simp[binP,toVal,binOp,Op.intCmp,pureRun_pure,ofVal,beq_dec]
theorem b_neq:binP .neq (.int k a) (.int k b)=some (.bool (decide (a≠b))):=by simp[binP,toVal,binOp,Op.intCmp,pureRun_pure,ofVal,bne,beq_dec]
theorem b_add:binP .add (.int k a) (.int k b)=some (.int k (k.wrap (a+b))):=by simp[binP,toVal,binOp,Op.intArith,pureRun_pure,ofVal]
theorem b_sub:binP .sub (.int k a) (.int k b)=some (.int k (k.wrap (a-b))):=by simp[binP,toVal,binOp,Op.intArith,pureRun_pure,ofVal]
theorem b_mul:binP .mul (.int k a) (.int k b)=some (.int k (k.wrap (a*b))):=by simp[binP,toVal,binOp,Op.intArith,pureRun_pure,ofVal]
theorem s_add(h:s.length+t.length≤9223372036854775807):binP .add (S s) (S t)=some (S (s++t)):=by
 have h1:¬ ((9223372036854775807:Int)<((⟨s.toArray⟩:ByteArray).size:Int)+((⟨t.toArray⟩:ByteArray).size:Int)):=by
  rw[size_mk,size_mk]
  omega
 have h2:(⟨s.toArray⟩:ByteArray)++(⟨t.toArray⟩:ByteArray)=⟨(s++t).toArray⟩:=by
  apply ByteArray.ext
  simp
 simp[binP,toVal,binOp,Op.stringOp,h1,h2,pureRun_pure,ofVal]
theorem s_eql:binP .eql (S s) (S t)=some (.bool (decide (s=t))):=by simp[binP,toVal,binOp,Op.stringOp,toList_mk,pureRun_pure,ofVal,beq_dec]
theorem s_neq:binP .neq (S s) (S t)=some (.bool (decide (s≠t))):=by simp[binP,toVal,binOp,Op.stringOp,toList_mk,pureRun_pure,ofVal,beq_dec]
theorem s_lss:binP .lss (S s) (S t)=some (.bool (sLt s t)):=by simp[binP,toVal,binOp,Op.stringOp,toList_mk,pureRun_pure,ofVal,sLt]
theorem s_leq:binP .leq (S s) (S t)=some (.bool (sLt s t||decide (s=t))):=by simp[binP,toVal,binOp,Op.stringOp,toList_mk,pureRun_pure,ofVal,sLt,beq_dec]
theorem s_gtr:binP .gtr (S s) (S t)=some (.bool !(sLt s t||decide (s=t))):=by simp[binP,toVal,binOp,Op.stringOp,toList_mk,pureRun_pure,ofVal,sLt,beq_dec]
theorem s_geq:binP .geq (S s) (S t)=some (.bool !(sLt s t)):=by simp[binP,toVal,binOp,Op.stringOp,toList_mk,pureRun_pure,ofVal,sLt]
theorem u_not{x:Bool}:unP .not (.bool x)=some (.bool !x):=by simp[unP,toVal,Op.unary,pureRun_pure,ofVal]
theorem u_neg:unP .neg (.int k a)=some (.int k (k.wrap (-a))):=by simp[unP,toVal,Op.unary,Op.intArith,pureRun_pure,ofVal]
theorem wrap_i64(h1: -9223372036854775808≤a)(h2:a≤9223372036854775807):IntKind.i64.wrap a=a:=by
 have e1:IntKind.i64.bits=64:=rfl
 have e2:IntKind.i64.signed=true:=rfl
 simp only[IntKind.wrap,e1,e2,Bool.true_and]
 split
 ·rename_i h
  simp only[decide_eq_true_eq]at h
  omega
 ·rename_i h
  simp only[decide_eq_true_eq]at h
  omega
theorem wrap_u8(h1:0≤a)(h2:a≤255):IntKind.u8.wrap a=a:=by
 have e1:IntKind.u8.bits=8:=rfl
 have e2:IntKind.u8.signed=false:=rfl
 simp only[IntKind.wrap,e1,e2,Bool.false_and]
 simp
 omega
end
theorem pms:
  (∀ {cf:CallF} {N:Nat} {fr:Fr} {st:St} {Q:Ex→Fr×St→Prop},Wp cf N .skip (fr,st) Q↔Q .go (fr,st))∧
  (∀ {cf:CallF} {N:Nat} {fr:Fr} {st:St} {id:Nat} {Q:Ex→Fr×St→Prop},Wp cf N (.exit id) (fr,st) Q↔Q (.exit id) (fr,st))∧
  (∀ {cf:CallF} {N:Nat} {fr:Fr} {st:St} {Q:Ex→Fr×St→Prop},Wp cf N .ret (fr,st) Q↔Q .ret (fr,st))∧
  (∀ {cf:CallF} {N:Nat} {fr:Fr} {st:St} {a b:CC} {Q:Ex→Fr×St→Prop},Wp cf N (.seq a b) (fr,st) Q↔Wp cf N a (fr,st) (thenGo (fun y=>Wp cf N b y Q) Q))∧
  (∀ {cf:CallF} {N:Nat} {fr:Fr} {st:St} {os:List COper} {Q:Ex→Fr×St→Prop},Wp cf N (.reg os []) (fr,st) Q↔WO cf os (fr,st) (Q .go))∧
  (∀ {cf:CallF} {N:Nat} {fr:Fr} {st:St} {c:CX} {a b:CC} {Q:Ex→Fr×St→Prop},Wp cf N (.cond c a b) (fr,st) Q↔byB (c.ev fr) (Later (fun y=>Wp cf N a y Q) (fr,st)) (Later (fun y=>Wp cf N b y Q) (fr,st)))∧
  (∀ {cf:CallF} {N:Nat} {fr:Fr} {st:St} {id:Nat} {c:CC} {Q:Ex→Fr×St→Prop},Wp cf N (.block id c) (fr,st) Q↔Wp cf N c (fr,st) (thenBlock id Q))∧
  (∀ {cf:CallF} {fr:Fr} {st:St} {K:Fr×St→Prop},WO cf [] (fr,st) K↔K (fr,st))∧
  (∀ {cf:CallF} {fr:Fr} {st:St} {d:Option Nat} {op:COp} {os:List COper} {K:Fr×St→Prop},WO cf (⟨none,d,op⟩::os) (fr,st) K↔RunsTo (runOp cf fr st d op) (fun v st'=>(put (killF cf op d st fr) d v,st')) (fun y=>WO cf os y K))∧
  (∀ {cf:CallF} {fr:Fr} {st:St} {s:Nat} {b:Bool} {d:Option Nat} {op:COp} {os:List COper} {K:Fr×St→Prop},WO cf (⟨some (s,b),d,op⟩::os) (fr,st) K↔byG (fr s) b (Later (fun y=>WO cf (⟨none,d,op⟩::os) y K) (fr,st)) (Later (fun y=>WO cf os y K) (put fr d .hole,st)))∧
  (∀ {A:Fr×St→Prop} {Q:Ex→Fr×St→Prop} {y:Fr×St},thenGo A Q .go y↔A y)∧
  (∀ {A:Fr×St→Prop} {Q:Ex→Fr×St→Prop} {i:Nat} {y:Fr×St},thenGo A Q (.exit i) y↔Q (.exit i) y)∧
  (∀ {A:Fr×St→Prop} {Q:Ex→Fr×St→Prop} {y:Fr×St},thenGo A Q .ret y↔Q .ret y)∧
  (∀ {id:Nat} {Q:Ex→Fr×St→Prop} {y:Fr×St},thenBlock id Q .go y↔Q .go y)∧
  (∀ {id:Nat} {Q:Ex→Fr×St→Prop} {y:Fr×St},thenBlock id Q .ret y↔Q .ret y)∧
  (∀ {id i:Nat} {Q:Ex→Fr×St→Prop} {y:Fr×St},thenBlock id Q (.exit i) y↔Cnd (i=id) (Later (Q .go) y) (Later (Q (.exit i)) y))∧
  (∀ {v:PV} {st:St} {mk:PV→St→Fr×St} {A:Fr×St→Prop},RunsTo (some (v,st)) mk A↔A (mk v st))∧
  (∀ {b:Bool} {A B:Prop},byB (.bool b) A B↔Cnd (b=true) A B)∧
  (∀ {b b':Bool} {A B:Prop},byG (.bool b') b A B↔Cnd (b'=b) A B)∧
  (∀ {f:Fr×St→Prop} {x:Fr×St} {b:Bool} {A:Prop},byG .hole b A (Later f x)↔f x)∧
  (∀ {f:Fr×St→Prop} {x:Fr×St} {B:Prop},Cnd True (Later f x) B↔f x)∧
  (∀ {f:Fr×St→Prop} {x:Fr×St} {A:Prop},Cnd False A (Later f x)↔f x)∧
  (∀ {c A B:Prop},Cnd (¬c) A B↔Cnd c B A)∧
  (∀ {fr:Fr} {n:Nat},CX.ev fr (.sl n)=fr n)∧
  (∀ {fr:Fr} {p:PV},CX.ev fr (.k p)=p)∧
  (∀ {f:Fr} {d:Nat} {v:PV},put f (some d) v=upd f d v)∧
  (∀ {f:Fr} {v:PV},put f none v=f)∧
  (∀ {f:Fr} {d:Nat} {v:PV} {t:Nat},upd f d v t=if t=d then v else f t)∧
  (∀ {s:Nat} {f:Fr} {t:Nat},killB s f t=killP s (f t))∧
  (∀ {p:PV} {ps:List PV},frame (p::ps) 0=p)∧
  (∀ {p:PV} {ps:List PV} {n:Nat},frame (p::ps) (n+1)=frame ps n):=
 ⟨Wp_skip,Wp_exit,Wp_ret,Wp_seq,Wp_reg,Wp_cond,Wp_block,WO_nil,WO_cons,WO_guard,Iff.rfl,Iff.rfl,Iff.rfl,Iff.rfl,Iff.rfl,Iff.rfl,RunsTo_some,Iff.rfl,Iff.rfl,Iff.rfl,Cnd_true,Cnd_false,Cnd_not,rfl,rfl,rfl,rfl,rfl,rfl,rfl,rfl⟩
theorem pmk:
  (∀ {cf:CallF} {st:St} {fr:Fr} {d:Option Nat} {x:CX},killF cf (.mv x) d st fr=fr)∧(∀ {cf:CallF} {st:St} {fr:Fr} {d:Option Nat} {a b c:CX},killF cf (.pick a b c) d st fr=fr)∧(∀ {cf:CallF} {st:St} {fr:Fr} {zs:List PV} {s:Nat},killF cf (.alloc zs) (some s) st fr=killB s fr)∧(∀ {cf:CallF} {st:St} {fr:Fr} {n s:Nat} {x:CX},killF cf (.box n x) (some s) st fr=killB s fr)∧
  (∀ {cf:CallF} {st:St} {fr:Fr} {d:Option Nat} {zs:List PV} {ps:List (Nat×Nat×CX)},killF cf (.build zs ps) d st fr=fr)∧(∀ {cf:CallF} {st:St} {fr:Fr} {d:Option Nat} {e sz n:Nat} {zs:List PV} {ps:List (Nat×Nat×CX)},killF cf (.bsl e sz zs n ps) d st fr=fr)∧(∀ {cf:CallF} {st:St} {fr:Fr} {d:Option Nat} {sz:Nat} {ag:Bool} {x:CX},killF cf (.load sz ag x) d st fr=fr)∧
  (∀ {cf:CallF} {st:St} {fr:Fr} {d:Option Nat} {sz:Nat} {a x:CX},killF cf (.store sz a x) d st fr=fr)∧(∀ {cf:CallF} {st:St} {fr:Fr} {d:Option Nat} {x:CX},killF cf (.nck x) d st fr=fr)∧(∀ {cf:CallF} {st:St} {fr:Fr} {d:Option Nat} {op:BinOp} {x y:CX},killF cf (.bin op x y) d st fr=fr)∧(∀ {cf:CallF} {st:St} {fr:Fr} {d:Option Nat} {b:Bool} {x:CX},killF cf (.isnil b x) d st fr=fr)∧(∀ {cf:CallF} {st:St} {fr:Fr} {d:Option Nat} {b:Bool} {x y:CX},killF cf (.beq b x y) d st fr=fr)∧
  (∀ {cf:CallF} {st:St} {fr:Fr} {d:Option Nat} {op:UnOp} {x:CX},killF cf (.un op x) d st fr=fr)∧(∀ {cf:CallF} {st:St} {fr:Fr} {d:Option Nat} {k:IntKind} {x:CX},killF cf (.toInt k x) d st fr=fr)∧(∀ {cf:CallF} {st:St} {fr:Fr} {d:Option Nat} {x:CX},killF cf (.s2s x) d st fr=fr)∧(∀ {cf:CallF} {st:St} {fr:Fr} {d:Option Nat} {x:CX} {i:Nat},killF cf (.ext x i) d st fr=fr)∧(∀ {cf:CallF} {st:St} {fr:Fr} {d:Option Nat} {x:CX} {i:Nat},killF cf (.fad i x) d st fr=fr)∧
  (∀ {cf:CallF} {st:St} {fr:Fr} {d:Option Nat} {o sz:Nat} {ag:Bool} {x:CX},killF cf (.fld o sz ag x) d st fr=fr)∧(∀ {cf:CallF} {st:St} {fr:Fr} {d:Option Nat} {sz:Nat} {x i:CX},killF cf (.iad sz x i) d st fr=fr)∧(∀ {cf:CallF} {st:St} {fr:Fr} {d:Option Nat} {x i:CX},killF cf (.sidx x i) d st fr=fr)∧(∀ {cf:CallF} {st:St} {fr:Fr} {d:Option Nat} {x:CX} {l h:Option CX},killF cf (.ssl x l h) d st fr=fr)∧(∀ {cf:CallF} {st:St} {fr:Fr} {d:Option Nat} {sz:Nat} {x:CX} {l h:Option CX},killF cf (.slc sz x l h) d st fr=fr)∧
  (∀ {cf:CallF} {st:St} {fr:Fr} {e sz b s:Nat} {zs:List PV} {n c:CX},killF cf (.mks e sz b zs n c) (some s) st fr=killB s fr)∧(∀ {cf:CallF} {st:St} {fr:Fr} {d:Option Nat} {e sz b:Nat} {n c:CX},killF cf (.mk0 e sz b n c) d st fr=fr)∧(∀ {cf:CallF} {st:St} {fr:Fr} {d:Option Nat} {x:CX},killF cf (.slen x) d st fr=fr)∧(∀ {cf:CallF} {st:St} {fr:Fr} {d:Option Nat} {x:CX},killF cf (.len x) d st fr=fr)∧(∀ {cf:CallF} {st:St} {fr:Fr} {d:Option Nat} {e sz b:Nat} {x y:CX},killF cf (.app e sz b x y) d st fr=fr)∧
  (∀ {cf:CallF} {st:St} {fr:Fr} {d:Option Nat} {x:CX},killF cf (.b2s x) d st fr=fr)∧(∀ {cf:CallF} {st:St} {fr:Fr} {d:Option Nat} {f:Nat} {as:List CX},killF cf (.mkfn f as) d st fr=fr)∧(∀ {cf:CallF} {st:St} {fr:Fr} {s:Nat},killF cf .mkmap (some s) st fr=killB s fr)∧(∀ {cf:CallF} {st:St} {fr:Fr} {d:Option Nat} {kk:Nat} {m k v:CX},killF cf (.mpset kk m k v) d st fr=fr)∧(∀ {cf:CallF} {st:St} {fr:Fr} {d:Option Nat} {b:Bool} {z:PV} {kk:Nat} {m k:CX},killF cf (.mpget b z kk m k) d st fr=fr)∧(∀ {cf:CallF} {st:St} {fr:Fr} {d:Option Nat} {m:CX},killF cf (.mplen m) d st fr=fr)∧
  (∀ {cf:CallF} {st:St} {fr:Fr} {d:Option Nat} {f:Nat} {as:List CX},killF cf (.call f as []) d st fr=fr)∧(∀ {cf:CallF} {st:St} {fr:Fr} {d:Option Nat} {f:CX} {as:List CX},killF cf (.cval f as) d st fr=fr):=by
 refine⟨?_,?_,?_,?_,?_,?_,?_,?_,?_,?_,?_,?_,?_,?_,?_,?_,?_,?_,?_,?_,?_,?_,?_,?_,?_,?_,?_,?_,?_,?_,?_,?_,?_,?_,?_⟩<;>intros<;>first|rfl|(rename_i d _;cases d<;>rfl)|(rename_i d _ _;cases d<;>rfl)|(rename_i d _ _ _;cases d<;>rfl)|(rename_i d _ _ _ _;cases d<;>rfl)|(rename_i d _ _ _ _ _;cases d<;>rfl)
theorem pmp:(∀ {s:Nat} {k:IntKind} {n:Int},killP s (.int k n)= .int k n)∧(∀ {s:Nat} {b:Bool},killP s (.bool b)= .bool b)∧(∀ {s:Nat} {t:ByteArray},killP s (.str t)= .str t)∧(∀ {s:Nat} {n:Nat} {cs:List PV} {t:Tok},killP s (.list n cs t)= .list n cs t)∧(∀ {s:Nat} {cs:List PV},killP s (.agg cs)= .agg cs)∧(∀ {s:Nat} {cs:List PV},killP s (.tup cs)= .tup cs)∧
  (∀ {s:Nat} {cs:List PV} {n:Nat} {t:Tok},killP s (.iptr cs n t)= .iptr cs n t)∧(∀ {s:Nat} {k o:Nat},killP s (.ptr k o)=if k=s then .any else .ptr k o)∧(∀ {s:Nat} {e sz k n:Nat},killP s (.osl e sz k n)=if k=s then .any else .osl e sz k n)∧(∀ {s:Nat} {k:Nat},killP s (.mp k)=if k=s then .any else .mp k)∧
  (∀ {s:Nat},killP s .hole= .hole)∧(∀ {s:Nat},killP s .any= .any)∧(∀ {s:Nat},killP s .nili= .nili)∧(∀ {s:Nat},killP s .err= .err)∧(∀ {s:Nat},killP s .nilp= .nilp)∧(∀ {s:Nat} {f:Nat},killP s (.fn f [])= .fn f []):=
 ⟨rfl,rfl,rfl,rfl,rfl,rfl,rfl,rfl,rfl,rfl,rfl,rfl,rfl,rfl,rfl,rfl⟩
theorem pmo:
  (∀ {cf:CallF} {fr:Fr} {st:St} {d:Option Nat} {x:CX},runOp cf fr st d (.mv x)=some (x.ev fr,st))∧
  (∀ {cf:CallF} {fr:Fr} {st:St} {zs:List PV} {s:Nat},runOp cf fr st (some s) (.alloc zs)=some (.ptr s 0,setO st s zs))∧
  (∀ {cf:CallF} {fr:Fr} {st:St} {d:Option Nat} {op:BinOp} {x y:CX},runOp cf fr st d (.bin op x y)=(binP op (x.ev fr) (y.ev fr)).map fun p=>(p,st))∧
  (∀ {cf:CallF} {fr:Fr} {st:St} {d:Option Nat} {op:UnOp} {x:CX},runOp cf fr st d (.un op x)=(unP op (x.ev fr)).map fun p=>(p,st))∧
  (∀ {cf:CallF} {fr:Fr} {st:St} {d:Option Nat} {f:Nat} {as:List CX} {mv:List Nat},runOp cf fr st d (.call f as mv)=callP cf f (as.map (·.ev fr)) mv st)∧
  (∀ {cf:CallF} {fr:Fr} {st:St} {n s:Nat} {x:CX},runOp cf fr st (some s) (.box n x)=match cellsOf (x.ev fr)with|some cs=>if cs.length=n then some (.ptr s 0,setO st s cs)else none|none=>none):=
 ⟨rfl,rfl,rfl,rfl,rfl,by intros;simp only[runOp];cases cellsOf _<;>rfl⟩
def plainArg(p:PV):Bool:=np p && match p with| .ptr .. =>false|_=>true
theorem keysOf_plain:∀ {as:List PV},as.all plainArg=true→keysOf as=some []
 | [],_=>rfl
 |a::as,h=>by
  simp only[List.all_cons,Bool.and_eq_true]at h
  have ih:=keysOf_plain h.2
  have hn:np a=true:=by have:=h.1;simp only[plainArg,Bool.and_eq_true]at this;exact this.1
  cases a with
  |ptr s o=>simp[plainArg]at h
  |_=>simp only[keysOf,hn,ih,if_true]
theorem handOn_plain:∀ {as:List PV} (i n:Nat),as.all plainArg=true→handOn [] [] i n as=as.map strip
 | [],_,_,_=>rfl
 |a::as,i,n,h=>by
  simp only[List.all_cons,Bool.and_eq_true]at h
  cases a with
  |ptr s o=>simp[plainArg]at h
  |_=>simp[handOn,handOn_plain (i+1) n h.2]
theorem callP_plain{cf:CallF}{f:Nat}{as:List PV}{st:St}(h:as.all plainArg=true){r:PV}{ns:List Nat}(hc:cf f (as.map strip) [] []=some (r,ns,[])):
  callP cf f as [] st=some (ren (fun k=>some (st.nx+k)) false r,{st.more ns with fl:=if closed r then st.fl else st.nx}):=by
 have hf:freeC as []=false:=rfl
 simp only[callP,keysOf_plain h,getAll,handOn_plain 0 0 h,List.map_nil,hc,List.length_nil,if_true,setAll,List.all_nil,Bool.and_true,hf,Bool.or_false]
 congr 2
 cases ns<;>rfl
theorem callP_val{cf:CallF}{f:Nat}{as as':List PV}{st:St}(h:as.all plainArg=true)(ha:as.map strip=as'){r:PV}(hc:cf f as' [] []=some (r,[],[]))(hr:ren (fun k=>some (st.nx+k)) false r=r)(hcl:closed r=true):
  callP cf f as [] st=some (r,st):=by
 rw[callP_plain h (by rw[ha];exact hc),hr,hcl]
 rfl
def cI(l:List UInt8)(i:Nat):Int:=(l.getD i 0).toNat
def sidxP(x i:PV)(st:St):Option (PV×St):=match x,i with
 | .str s,.int _ j=>if h:0≤j∧j.toNat<s.size then some (.int .u8 (s[j.toNat]'h.2).toNat,st)else none
 |_,_=>none
theorem sidxP_ok{l:List UInt8}{j:Int}{st:St}(h0:0≤j)(h1:j.toNat<l.length):sidxP (S l) (I j) st=some (U (cI l j.toNat),st):=by
 simp only[sidxP]
 rw[dif_pos ⟨h0,by rw[size_mk];exact h1⟩]
 simp[cI,h1]
 rfl
def sslP(x:PV)(lo hi:Option PV)(st:St):Option (PV×St):=match x with
 | .str s=>match (match (match hi with|some x=>boundP x s.size|none=>some s.size)with
   |none=>none
   |some h=>match (match lo with|some x=>boundP x h|none=>some 0)with
    |none=>none
    |some l=>some (l,h))with
  |some (l,h)=>some (.str (s.extract l h),st)
  |none=>none
 |_=>none
theorem boundP_ok{k:IntKind}{j:Int}{n:Nat}(h0:0≤j)(h1:j≤(n:Int)):boundP (.int k j) n=some j.toNat:=by simp[boundP,h0,h1]
theorem extract_mk(l:List UInt8)(a b:Nat):(⟨l.toArray⟩:ByteArray).extract a b=⟨((l.take b).drop a).toArray⟩:=by
 apply ByteArray.ext
 simp[ByteArray.data_extract,List.drop_take]
theorem sslP_lo{l:List UInt8}{j:Int}{st:St}(h0:0≤j)(h1:j≤(l.length:Int)):sslP (S l) (some (I j)) none st=some (S (l.drop j.toNat),st):=by
 simp only[sslP,size_mk,boundP_ok h0 h1,extract_mk,List.take_length]
theorem sslP_hi{l:List UInt8}{j:Int}{st:St}(h0:0≤j)(h1:j≤(l.length:Int)):sslP (S l) none (some (I j)) st=some (S (l.take j.toNat),st):=by
 simp only[sslP,size_mk,boundP_ok h0 h1,extract_mk,List.drop_zero]
theorem sslP_both{l:List UInt8}{a b:Int}{st:St}(h0:0≤a)(h1:a≤b)(h2:b≤(l.length:Int)):sslP (S l) (some (I a)) (some (I b)) st=some (S ((l.take b.toNat).drop a.toNat),st):=by
 have h3:a≤(b.toNat:Int):=by omega
 simp only[sslP,size_mk,boundP_ok (show 0≤b by omega) h2,boundP_ok h0 h3,extract_mk]
def loadP(sz:Nat)(ag:Bool)(a:PV)(st:St):Option (PV×St):=match a with
 | .ptr s off=>match st.objs s with
  |some cs=>(partP cs off sz ag).map fun p=>(p,st)
  |none=>none
 | .iptr cs off _=>(partP cs off sz ag).map fun p=>(p,st)
 |_=>none
def storeP(sz:Nat)(a x:PV)(st:St):Option (PV×St):=match a,cellsOf x with
 | .ptr s off,some vs=>match st.objs s with
  |some cs=>if vs.length=sz∧off+sz≤cs.length then some (.hole,setO st s (putCells cs off vs))else none
  |none=>none
 |_,_=>none
theorem partP_one{cs:List PV}{off:Nat}{p:PV}(h:cs[off]? =some p):partP cs off 1 false=some p:=by
 have:=(List.getElem?_eq_some_iff.1 h).1
 simp[partP,h];omega
theorem partP_all{cs:List PV}{sz:Nat}(h:cs.length=sz):partP cs 0 sz true=some (.agg cs):=by
 subst h
 unfold partP
 rw[if_pos (by omega),if_pos rfl,List.drop_zero,List.take_length]
def iadP(sz:Nat)(x i:PV)(st:St):Option (PV×St):=match x,i with
 | .list n cs t,.int _ j=>if 0≤j∧j<(n:Int)∧cs.length=n*sz then some (.iptr cs (j.toNat*sz) (t.elt n),st)else none
 | .osl _ _ s n,.int _ j=>if 0≤j∧j<(n:Int)then some (.ptr s (j.toNat*sz),st)else none
 |_,_=>none
theorem iadP_list{sz n:Nat}{cs:List PV}{t:Tok}{j:Int}{st:St}(h0:0≤j)(h1:j<(n:Int))(h2:cs.length=n*sz):iadP sz (.list n cs t) (I j) st=some (.iptr cs (j.toNat*sz) (t.elt n),st):=by
 simp[iadP,h0,h1,h2]
theorem iadP_osl{sz e sz' s n:Nat}{j:Int}{st:St}(h0:0≤j)(h1:j<(n:Int)):iadP sz (.osl e sz' s n) (I j) st=some (.ptr s (j.toNat*sz),st):=by
 simp[iadP,h0,h1]
def lenP(x:PV)(st:St):Option (PV×St):=match x with
 | .list n _ _=>some (I n,st)
 | .osl _ _ _ n=>some (I n,st)
 |_=>none
def slenP(x:PV)(st:St):Option (PV×St):=match x with
 | .str s=>some (I s.size,st)
 |_=>none
theorem slenP_ok{l:List UInt8}{st:St}:slenP (S l) st=some (I l.length,st):=by simp only[slenP,size_mk]
def pickP(c a b:PV)(st:St):Option (PV×St):=match c with
 | .bool true=>some (a,st)
 | .bool false=>some (b,st)
 |_=>none
theorem pickP_or{a b:Bool}{st:St}:pickP (.bool a) (.bool true) (.bool b) st=some (.bool (a||b),st):=by cases a<;>rfl
theorem pickP_and{a b:Bool}{st:St}:pickP (.bool a) (.bool b) (.bool false) st=some (.bool (a && b),st):=by cases a<;>rfl
def fadP(off:Nat)(x:PV)(st:St):Option (PV×St):=match x with
 | .ptr s o=>some (.ptr s (o+off),st)
 | .iptr cs o t=>some (.iptr cs (o+off) t,st)
 |_=>none
def fldP(off sz:Nat)(ag:Bool)(x:PV)(st:St):Option (PV×St):=match x with
 | .agg cs=>(partP cs off sz ag).map fun p=>(p,st)
 |_=>none
def nckP(x:PV)(st:St):Option (PV×St):=match x with
 | .ptr s off=>some (.ptr s off,st)
 | .iptr cs off t=>some (.iptr cs off t,st)
 | .fn f cs=>some (.fn f cs,st)
 |_=>none
def extP(x:PV)(i:Nat)(st:St):Option (PV×St):=match x with
 | .tup vs=>(vs[i]?).map fun p=>(p,st)
 |_=>none
def isnilP(neg:Bool)(x:PV)(st:St):Option (PV×St):=match x with
 | .err=>some (.bool neg,st)
 | .nili=>some (.bool (!neg),st)
 |_=>none
def toIntP(k:IntKind)(x:PV)(st:St):Option (PV×St):=match x with
 | .int _ n=>some (.int k (k.wrap n),st)
 |_=>none
def beqP(neg:Bool)(x y:PV)(st:St):Option (PV×St):=match x,y with
 | .bool a,.bool b=>some (.bool (if neg then !(a==b)else a==b),st)
 |_,_=>none
def cvalP(cf:CallF)(f:PV)(as:List PV)(st:St):Option (PV×St):=match f with
 | .fn g cap=>if g<1000000 then callP cf g (as++cap) [] st else none
 |_=>none
theorem pmo2:
  (∀ {cf:CallF} {fr:Fr} {st:St} {d:Option Nat} {x i:CX},runOp cf fr st d (.sidx x i)=sidxP (x.ev fr) (i.ev fr) st)∧
  (∀ {cf:CallF} {fr:Fr} {st:St} {d:Option Nat} {x:CX},runOp cf fr st d (.ssl x none none)=sslP (x.ev fr) none none st)∧
  (∀ {cf:CallF} {fr:Fr} {st:St} {d:Option Nat} {x a:CX},runOp cf fr st d (.ssl x (some a) none)=sslP (x.ev fr) (some (a.ev fr)) none st)∧
  (∀ {cf:CallF} {fr:Fr} {st:St} {d:Option Nat} {x b:CX},runOp cf fr st d (.ssl x none (some b))=sslP (x.ev fr) none (some (b.ev fr)) st)∧
  (∀ {cf:CallF} {fr:Fr} {st:St} {d:Option Nat} {x a b:CX},runOp cf fr st d (.ssl x (some a) (some b))=sslP (x.ev fr) (some (a.ev fr)) (some (b.ev fr)) st)∧
  (∀ {cf:CallF} {fr:Fr} {st:St} {d:Option Nat} {sz:Nat} {ag:Bool} {x:CX},runOp cf fr st d (.load sz ag x)=loadP sz ag (x.ev fr) st)∧
  (∀ {cf:CallF} {fr:Fr} {st:St} {d:Option Nat} {sz:Nat} {a x:CX},runOp cf fr st d (.store sz a x)=storeP sz (a.ev fr) (x.ev fr) st)∧
  (∀ {cf:CallF} {fr:Fr} {st:St} {d:Option Nat} {sz:Nat} {x i:CX},runOp cf fr st d (.iad sz x i)=iadP sz (x.ev fr) (i.ev fr) st)∧
  (∀ {cf:CallF} {fr:Fr} {st:St} {d:Option Nat} {x:CX},runOp cf fr st d (.len x)=lenP (x.ev fr) st)∧
  (∀ {cf:CallF} {fr:Fr} {st:St} {d:Option Nat} {x:CX},runOp cf fr st d (.slen x)=slenP (x.ev fr) st)∧
  (∀ {cf:CallF} {fr:Fr} {st:St} {d:Option Nat} {c a b:CX},runOp cf fr st d (.pick c a b)=pickP (c.ev fr) (a.ev fr) (b.ev fr) st)∧
  (∀ {cf:CallF} {fr:Fr} {st:St} {d:Option Nat} {off:Nat} {x:CX},runOp cf fr st d (.fad off x)=fadP off (x.ev fr) st)∧
  (∀ {cf:CallF} {fr:Fr} {st:St} {d:Option Nat} {off sz:Nat} {ag:Bool} {x:CX},runOp cf fr st d (.fld off sz ag x)=fldP off sz ag (x.ev fr) st)∧
  (∀ {cf:CallF} {fr:Fr} {st:St} {d:Option Nat} {x:CX},runOp cf fr st d (.nck x)=nckP (x.ev fr) st)∧
  (∀ {cf:CallF} {fr:Fr} {st:St} {d:Option Nat} {x:CX} {i:Nat},runOp cf fr st d (.ext x i)=extP (x.ev fr) i st)∧
  (∀ {cf:CallF} {fr:Fr} {st:St} {d:Option Nat} {b:Bool} {x:CX},runOp cf fr st d (.isnil b x)=isnilP b (x.ev fr) st)∧
  (∀ {cf:CallF} {fr:Fr} {st:St} {d:Option Nat} {b:Bool} {x y:CX},runOp cf fr st d (.beq b x y)=beqP b (x.ev fr) (y.ev fr) st)∧
  (∀ {cf:CallF} {fr:Fr} {st:St} {d:Option Nat} {k:IntKind} {x:CX},runOp cf fr st d (.toInt k x)=toIntP k (x.ev fr) st)∧
  (∀ {cf:CallF} {fr:Fr} {st:St} {d:Option Nat} {f:CX} {as:List CX},runOp cf fr st d (.cval f as)=cvalP cf (f.ev fr) (as.map (·.ev fr)) st):=by
 refine⟨?_,?_,?_,?_,?_,?_,?_,?_,?_,?_,?_,?_,?_,?_,?_,?_,?_,?_,?_⟩<;>intros<;>rfl
theorem pmv:
  (∀ {l:List UInt8} {st:St},slenP (S l) st=some (I l.length,st))∧
  (∀ {n:Nat} {cs:List PV} {t:Tok} {st:St},lenP (.list n cs t) st=some (I n,st))∧
  (∀ {e sz s n:Nat} {st:St},lenP (.osl e sz s n) st=some (I n,st))∧
  (∀ {cs:List PV} {off sz:Nat} {ag:Bool} {t:Tok} {st:St},loadP sz ag (.iptr cs off t) st=(partP cs off sz ag).map fun p=>(p,st))∧
  (∀ {s o off:Nat} {st:St},fadP off (.ptr s o) st=some (.ptr s (o+off),st))∧
  (∀ {cs:List PV} {o off:Nat} {t:Tok} {st:St},fadP off (.iptr cs o t) st=some (.iptr cs (o+off) t,st))∧
  (∀ {cs:List PV} {off sz:Nat} {ag:Bool} {st:St},fldP off sz ag (.agg cs) st=(partP cs off sz ag).map fun p=>(p,st))∧
  (∀ {s o:Nat} {st:St},nckP (.ptr s o) st=some (.ptr s o,st))∧
  (∀ {cs:List PV} {o:Nat} {t:Tok} {st:St},nckP (.iptr cs o t) st=some (.iptr cs o t,st))∧
  (∀ {f:Nat} {cs:List PV} {st:St},nckP (.fn f cs) st=some (.fn f cs,st))∧
  (∀ {vs:List PV} {i:Nat} {st:St},extP (.tup vs) i st=(vs[i]?).map fun p=>(p,st))∧
  (∀ {b:Bool} {st:St},isnilP b .err st=some (.bool b,st))∧
  (∀ {b:Bool} {st:St},isnilP b .nili st=some (.bool (!b),st))∧
  (∀ {k j:IntKind} {n:Int} {st:St},toIntP k (.int j n) st=some (.int k (k.wrap n),st))∧
  (∀ {a b:Bool} {st:St},pickP (.bool a) (.bool true) (.bool b) st=some (.bool (a||b),st))∧
  (∀ {a b:Bool} {st:St},pickP (.bool a) (.bool b) (.bool false) st=some (.bool (a && b),st))∧
  (∀ {a b:PV} {st:St},pickP (.bool true) a b st=some (a,st))∧
  (∀ {a b:PV} {st:St},pickP (.bool false) a b st=some (b,st))∧
  (∀ {f:Nat} {cf:CallF} {as:List PV} {st:St},f<1000000→cvalP cf (.fn f []) as st=callP cf f as [] st):=by
 refine⟨slenP_ok,rfl,rfl,rfl,rfl,rfl,rfl,rfl,rfl,rfl,rfl,rfl,rfl,rfl,pickP_or,pickP_and,rfl,rfl,?_⟩
 intro f cf as st h
 simp[cvalP,h]
theorem pmb:
  (∀ {st:St} {s k:Nat} {c:List PV},(setO st s c).objs k=if k=s then some c else st.objs k)∧
  (∀ {st:St} {s:Nat} {c:List PV},(setO st s c).nx=st.nx)∧
  (∀ {st:St} {s:Nat} {c:List PV},(setO st s c).cnt=st.cnt)∧
  (∀ {st:St} {s:Nat} {c:List PV},(setO st s c).fl=st.fl)∧
  (∀ {st:St} {s:Nat} {c:List PV},(setO st s c).maps=st.maps):=⟨rfl,rfl,rfl,rfl,rfl⟩
theorem pmq:
  (decide True=true)∧(decide False=false)∧(∀ {p:Prop} [Decidable p],(decide p=true)=p)∧(∀ {p:Prop} [Decidable p],(decide p=false)=¬p)∧(∀ {p:Prop} [Decidable p],(!decide p)=decide (¬p))∧
  ((¬True)=False)∧((¬False)=True)∧(∀ {b:Bool},(false||b)=b)∧(∀ {b:Bool},(b||false)=b)∧(∀ {b:Bool},(true||b)=true)∧(∀ {b:Bool},(b||true)=true)∧
  (∀ {b:Bool},(false && b)=false)∧(∀ {b:Bool},(b && false)=false)∧(∀ {b:Bool},(true && b)=b)∧(∀ {b:Bool},(b && true)=b)∧((!true)=false)∧((!false)=true)∧(∀ {b:Bool},(!!b)=b)∧
  (∀ {b:Bool},((!b)=true)=(b=false))∧(∀ {b:Bool},((!b)=false)=(b=true))∧(∀ {b:Bool},(b=false)=¬(b=true))∧((true=true)=True)∧((false=true)=False)∧
  (∀ {a b:Bool},((a||b)=true)=(a=true∨b=true))∧(∀ {a b:Bool},((a && b)=true)=(a=true∧b=true))∧(∀ {p:Prop},(¬¬p)=p)∧
  (∀ {p:Prop},(True∧p)=p)∧(∀ {p:Prop},(p∧True)=p)∧(∀ {p:Prop},(False∧p)=False)∧(∀ {p:Prop},(p∧False)=False)∧(∀ {p:Prop},(True∨p)=True)∧(∀ {p:Prop},(p∨True)=True)∧(∀ {p:Prop},(False∨p)=p)∧(∀ {p:Prop},(p∨False)=p)∧
  (∀ {n:Nat},((n:Int)).toNat=n)∧((0:Int).toNat=0)∧(∀ {α β:Type} {f:α→β} {x:α},Option.map f (some x)=some (f x))∧(∀ {α β:Type} {f:α→β},List.map f []=[])∧(∀ {α β:Type} {f:α→β} {x:α} {xs:List α},List.map f (x::xs)=f x::List.map f xs):=by
 simp
def Knows(cf:CallF)(f:Nat)(F:CFn):Prop:=∀ N as ns cs r,runFn cf N F as ns cs=some r→cf f as ns cs=some r
def endOk:Ex→Prop
 | .exit _=>False
 |_=>True
theorem endOk_ret:endOk .ret↔True:=Iff.rfl
def bare(p:PV):Prop:=np p=true∧strip p=p∧closed p=true∧(∀ f s,ren f s p=p)∧(match p with| .osl .. =>False| .ptr .. =>False|_=>True)
def bares(ps:List PV):Prop:=nps ps=true∧strips ps=ps∧closeds ps=true∧∀ f s,rens f s ps=ps
theorem bare_int(k:IntKind)(n:Int):bare (.int k n):=⟨rfl,rfl,rfl,fun _ _=>rfl,trivial⟩
theorem bare_bool(b:Bool):bare (.bool b):=⟨rfl,rfl,rfl,fun _ _=>rfl,trivial⟩
theorem bare_str(s:ByteArray):bare (.str s):=⟨rfl,rfl,rfl,fun _ _=>rfl,trivial⟩
theorem bare_nili:bare .nili:=⟨rfl,rfl,rfl,fun _ _=>rfl,trivial⟩
theorem bare_err:bare .err:=⟨rfl,rfl,rfl,fun _ _=>rfl,trivial⟩
theorem bares_nil:bares []:=⟨rfl,rfl,rfl,fun _ _=>rfl⟩
theorem bares_cons{p:PV}{ps:List PV}(h:bare p)(k:bares ps):bares (p::ps):=by
 obtain⟨h1,h2,h3,h4,_⟩:=h
 obtain⟨k1,k2,k3,k4⟩:=k
 refine⟨?_,?_,?_,fun f s=>?_⟩
 ·have h1':off (fun _=>true) p=true:=h1
  have k1':offs (fun _=>true) ps=true:=k1
  simp only[nps,offs,h1',k1',Bool.and_self]
 ·have h2':ren (fun _=>none) true p=p:=h2
  have k2':rens (fun _=>none) true ps=ps:=k2
  simp only[strips,rens,h2',k2']
 ·simp only[closeds,h3,k3,Bool.and_self]
 ·simp only[rens,h4,k4]
theorem bare_tup{cs:List PV}(h:bares cs):bare (.tup cs):=by
 obtain⟨h1,h2,h3,h4⟩:=h
 refine⟨h1,?_,h3,fun f s=>?_,trivial⟩
 ·have h2':rens (fun _=>none) true cs=cs:=h2
  simp only[strip,ren,h2']
 ·simp only[ren,h4]
def plainV(p:PV):Prop:=np p=true∧strip p=p∧(∀ f s,ren f s p=p)∧(match p with| .osl .. =>False| .ptr .. =>False|_=>True)
def plainVs(ps:List PV):Prop:=nps ps=true∧strips ps=ps∧∀ f s,rens f s ps=ps
theorem bare.plain{p:PV}(h:bare p):plainV p:=⟨h.1,h.2.1,h.2.2.2.1,h.2.2.2.2⟩
theorem bares.plain{ps:List PV}(h:bares ps):plainVs ps:=⟨h.1,h.2.1,h.2.2.2⟩
theorem plainVs_nil:plainVs []:=bares_nil.plain
theorem plainVs_cons{p:PV}{ps:List PV}(h:plainV p)(k:plainVs ps):plainVs (p::ps):=by
 obtain⟨h1,h2,h4,_⟩:=h
 obtain⟨k1,k2,k4⟩:=k
 refine⟨?_,?_,fun f s=>?_⟩
 ·have h1':off (fun _=>true) p=true:=h1
  have k1':offs (fun _=>true) ps=true:=k1
  simp only[nps,offs,h1',k1',Bool.and_self]
 ·have h2':ren (fun _=>none) true p=p:=h2
  have k2':rens (fun _=>none) true ps=ps:=k2
  simp only[strips,rens,h2',k2']
 ·simp only[rens,h4,k4]
theorem plainVs_append{ps qs:List PV}(h:plainVs ps)(k:plainVs qs):plainVs (ps++qs):=by
 obtain⟨h1,h2,h4⟩:=h
 obtain⟨k1,k2,k4⟩:=k
 have hr:∀ f s,rens f s (ps++qs)=ps++qs:=by
  intro f s
  have:∀ (xs ys:List PV),rens f s (xs++ys)=rens f s xs++rens f s ys:=by
   intro xs ys
   induction xs with
   |nil=>rfl
   |cons x xs ih=>simp only[List.cons_append,rens,ih]
  rw[this,h4,k4]
 exact⟨nps_append h1 k1,hr _ _,hr⟩
theorem plainV_agg{cs:List PV}(h:plainVs cs):plainV (.agg cs):=by
 obtain⟨h1,h2,h4⟩:=h
 refine⟨h1,?_,fun f s=>?_,trivial⟩
 ·have h2':rens (fun _=>none) true cs=cs:=h2
  simp only[strip,ren,h2']
 ·simp only[ren,h4]
theorem plainV_list{n:Nat}{cs:List PV}(h:plainVs cs):plainV (.list n cs .no):=by
 obtain⟨h1,h2,h4⟩:=h
 refine⟨h1,?_,fun f s=>?_,trivial⟩
 ·have h2':rens (fun _=>none) true cs=cs:=h2
  simp only[strip,ren,h2',Tok.ren]
 ·simp only[ren,h4,Tok.ren]
theorem plainV_int(k:IntKind)(n:Int):plainV (.int k n):=(bare_int k n).plain
theorem plainV_bool(b:Bool):plainV (.bool b):=(bare_bool b).plain
theorem plainV_str(s:ByteArray):plainV (.str s):=(bare_str s).plain
theorem plainVs_arg{ps:List PV}(h:∀ p∈ps,plainV p):ps.all plainArg=true∧ps.map strip=ps:=by
 refine⟨List.all_eq_true.2 fun p hp=>?_,?_⟩
 ·have:=h p hp
  unfold plainArg
  rw[this.1,Bool.true_and]
  have h4:=this.2.2.2
  cases p<;>first|rfl|exact h4.elim
 ·induction ps with
  |nil=>rfl
  |cons p ps ih=>
   simp only[List.map_cons,(h p (by simp)).2.1]
   rw[ih fun q hq=>h q (by simp[hq])]
theorem meltAll_plain(nk:Nat){p:PV}{st:St}(h:match p with| .osl .. =>False| .ptr .. =>False|_=>True):meltAll nk [p] st=([p],st):=by
 cases p<;>first|exact h.elim|(rw[meltAll,meltAll];intros;simp_all)
section
variable {cf:CallF} {f:Nat} {F:CFn} {as:List PV} {r:PV} {t t2 N:Nat} {st:St}
theorem finish_val(hres:F.res=[.tmp t])(hown:F.own=false){fr:Fr}{cs:List (List PV)}(hcs:getAll st (List.range cs.length)=some cs)(hc:∀ c∈cs,plainVs c)(hr:plainV r)(h:fr t=r):finish F cs.length fr st=some (r,[],cs):=by
 have hn:np r=true:=hr.1
 have hcs':cs.map strips=cs:=by
  have:∀ (l:List (List PV)),(∀ c∈l,plainVs c)→l.map strips=l:=by
   intro l
   induction l with
   |nil=>intro _;rfl
   |cons c l ih=>intro hl;simp only[List.map_cons,(hl c (by simp)).2.1];rw[ih fun d hd=>hl d (by simp[hd])]
  exact this cs hc
 have hall:cs.all nps=true:=List.all_eq_true.2 fun c h=>(hc c h).1
 simp only[finish,hres,ressP,resP,h,hcs,meltAll_plain F.nk hr.2.2.2,oneOf,hn,hall,Bool.and_self,if_true,sealP,hown,Bool.false_and,Bool.false_eq_true,if_false,hr.2.1,hcs']
theorem run_of_wp{Q:Ex→Fr×St→Prop}{cs:List (List PV)}{ns:List Nat}{x}(h:Wp cf N F.body (frame as,stB ns cs) Q)(hnt:as.length≤F.nt)(hnk:cs.length≤F.nk)(hQ:∀ e y,Q e y→endOk e∧finish F cs.length y.1 y.2=some x):runFn cf N F as ns cs=some x:=by
 obtain⟨e,y,hev,hq⟩:=h
 obtain⟨he,hf⟩:=hQ e y hq
 unfold runFn
 rw[if_pos ⟨hnt,hnk⟩,hev]
 cases e with
 |go=>exact hf
 |ret=>exact hf
 |exit i=>exact he.elim
theorem fn_val(K:Knows cf f F)(hres:F.res=[.tmp t])(hown:F.own=false)(hnt:as.length≤F.nt)(hr:plainV r)(N:Nat)(h:Wp cf N F.body (frame as,stB [] []) (fun e y=>endOk e∧y.1 t=r)):cf f as [] []=some (r,[],[]):=
 K N as [] [] _ (run_of_wp h hnt (Nat.zero_le _) fun e y hq=>⟨hq.1,finish_val (cs:=[]) hres hown rfl (by simp) hr hq.2⟩)
theorem call_bare(has:∀ p∈as,plainV p)(hr:bare r)(h:cf f as [] []=some (r,[],[])):callP cf f as [] st=some (r,st):=by
 obtain⟨h1,h2⟩:=plainVs_arg has
 exact callP_val h1 h2 h (hr.2.2.2.1 _ _) hr.2.2.1
theorem call_ptr{s:Nat}{c c':List PV}(hs:st.objs s=some c)(hc:plainVs c)(hc':bares c')(has:∀ p∈as,plainV p)(hr:bare r)(h:cf f (.ptr 0 0::as) [] [c]=some (r,[],[c'])):
  callP cf f (.ptr s 0::as) [] st=some (r,setO st s c'):=by
 obtain⟨h1,h2⟩:=plainVs_arg has
 have hk:keysOf (.ptr s 0::as)=some [s]:=by
  simp only[keysOf,keysOf_plain h1]
  simp
 have hh:∀ (l:List PV) (i n:Nat),l.all plainArg=true→handOn [] [] i n l=l.map strip:=fun l i n hl=>handOn_plain i n hl
 have hon:handOn [] [] 0 0 (.ptr s 0::as)= .ptr 0 0::as:=by
  simp only[handOn,hh as _ _ h1,h2]
 simp only[callP,hk,getAll,hs,hon,List.map_cons,List.map_nil,hc.2.1,h,List.length_cons,List.length_nil,if_true]
 congr 1
 refine Prod.ext (hr.2.2.2.1 _ _) ?_
 simp only[hc'.2.2.2,hr.2.2.1,hc'.2.2.1,List.all_cons,List.all_nil,Bool.and_self]
 rfl
theorem fn_ptr(K:Knows cf f F)(hres:F.res=[.tmp t])(hown:F.own=false)(hnt:as.length+1≤F.nt)(hnk:1≤F.nk)(hr:plainV r){c c':List PV}(hc':plainVs c')(N:Nat)
  (h:Wp cf N F.body (frame (.ptr 0 0::as),stB [] [c]) (fun e y=>endOk e∧y.1 t=r∧y.2.objs 0=some c')):cf f (.ptr 0 0::as) [] [c]=some (r,[],[c']):=
 K N _ [] [c] _ (run_of_wp h (by simpa using hnt) hnk fun e y hq=>⟨hq.1,finish_val (cs:=[c']) hres hown (by
  have:List.range [c'].length=[0]:=rfl
  rw[this];simp only[getAll,hq.2.2]) (by simpa using hc') hr hq.2.1⟩)
end
end Go.PM
