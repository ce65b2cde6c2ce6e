/- A part of the proof: texts PmY, PmZ, PnA, PnB, PnC, PnD, PnE, PoA, PoB, PoC, PoD, PoE, PfA, PoF, PoG, joined. Conditions: none. -/
import Derived.Test.YtdpamjikmlbmhaaGreatDoorPB
set_option linter.all false
namespace Go.PM
def pI(c c':aJ):Prop:=∀ f as ns cs r,c f as ns cs=some r->c' f as ns cs=some r
def wK{c c':aJ}(h:pI c c'){f:Nat}{as:List PV}{mv:List Nat}{st:St}{r:PV×St}(hr:az c f as mv st=some r):az c' f as mv st=some r:=by
 unfold az at hr ⊢;cases hks:dw as with
 |none=>rw[hks]at hr;cases hr
 |some ks=>
  rw[hks]at hr;simp only at hr ⊢;cases hcs:dz st ks with
  |none=>rw[hcs]at hr;cases hr
  |some cs=>
   rw[hcs]at hr;simp only at hr ⊢;cases mv with
   |nil=>
    simp only at hr ⊢;cases hc:c f (fe [] [] 0 0 as) [] (cs.map aQ)with
    |none=>rw[hc]at hr;cases hr
    |some q=>rw[hc]at hr;rw[h _ _ _ _ _ hc];exact hr
   |cons m mv=>
    simp only at hr ⊢;split at hr
    ·rename_i hb;rw[am hb];cases hc:c f (fe ((d5 (m::mv) as cs).map (·.1)) (m::mv) 0 0 as) ((d5 (m::mv) as cs).map (·.2)) (me ((d5 (m::mv) as cs).map (·.1)) (kc (m::mv) 0 as) cs)with
     |none=>rw[hc]at hr;cases hr
     |some q=>rw[hc]at hr;rw[h _ _ _ _ _ hc];exact hr
    ·cases hr
def GM{c c':aJ}(h:pI c c'){f:Nat}{as:List PV}{st:St}{r:PV×PV×St}(hr:uP c f as st=some r):uP c' f as st=some r:=by
 unfold uP at hr ⊢;cases hq:az c (mI f) as [0] st with
 |none=>rw[hq]at hr;cases hr
 |some q=>rw[hq]at hr;rw[wK h hq];exact hr
def wr{c c':aJ}{fr:Fr}{st:St}{d:Option Nat}{o:eV}(h:∀ f as,o= .callU f as->uP c f (as.map (·.ev fr)) st=uP c' f (as.map (·.ev fr)) st):de c o d st fr=de c' o d st fr:=by
 cases o with
 |callU f as=>simp only[de,h f as rfl]
 |call f as mv=>cases mv<;>cases d<;>rfl
 |_=>cases d<;>rfl
def II{c c':aJ}(h:pI c c'){fr:Fr}{st:St}{d:Option Nat}{o:eV}{r:PV×St}(hr:aC c fr st d o=some r):de c o d st fr=de c' o d st fr:=by
 refine wr fun f as e=>?_;subst e;simp only[aC]at hr;cases hq:uP c f (as.map (·.ev fr)) st with
 |none=>rw[hq]at hr;cases hr
 |some q=>rw[GM h hq]
def Io{c c':aJ}(h:pI c c'){fr:Fr}{st:St}{d:Option Nat}{o:eV}{r:PV×St}(hr:aC c fr st d o=some r):aC c' fr st d o=some r:=by
 cases o with
 |call f as mv=>exact wK h hr
 |cval f as=>
  simp only[aC]at hr ⊢;cases hf:f.ev fr with
  |fn g cap=>
   rw[hf]at hr;simp only at hr ⊢;split at hr
   ·rename_i hg;rw[am hg];exact wK h hr
   ·cases hr
  |_=>rw[hf]at hr;cases hr
 |callU f as=>
  simp only[aC]at hr ⊢;cases hq:uP c f (as.map (·.ev fr)) st with
  |none=>rw[hq]at hr;cases hr
  |some q=>rw[hq]at hr;rw[GM h hq];exact hr
 |_=>exact hr
def rc{c c':aJ}(h:pI c c'){o:cW}{x y:Fr×St}(hr:dF c o x=some y):dF c' o x=some y:=by
 unfold dF at hr ⊢;cases hw:eZ x.1 o.g with
 |none=>rw[hw]at hr;cases hr
 |some b=>
  rw[hw]at hr;cases b with
  |false=>exact hr
  |true=>
   simp only at hr ⊢;cases hq:aC c x.1 x.2 o.d o.op with
   |none=>rw[hq]at hr;cases hr
   |some q=>rw[hq]at hr;rw[Io h hq,<-II h hq];exact hr
def vj{c c':aJ}(h:pI c c'):∀ {os:List cW} {x y:Fr×St},jl c os x=some y->jl c' os x=some y
 | [],_,_,hr=>hr
 |o::os,x,y,hr=>by
  simp only[jl]at hr ⊢;split at hr
  ·rename_i z hz;rw[rc h hz];exact vj h hr
  ·cases hr
def t6{c c':aJ}(h:pI c c'):∀ {os:List cW} {x:Fr×St} {y},jc c os x=some y->jc c' os x=some y
 | [],_,_,hr=>hr
 |o::os,x,y,hr=>by
  simp only[jc]at hr ⊢;split at hr
  ·rename_i z hz;rw[rc h hz];simp only;split at hr
   ·rename_i hk;rw[t6 h hk];exact hr
   ·cases hr
  ·cases hr
def JL{c c':aJ}(h:pI c c'){os:List cW}{chk:List (Nat×Nat)}{x y:Fr×St}(hr:tN c os chk x=some y):tN c' os chk x=some y:=by
 cases chk with
 |nil=>exact vj h hr
 |cons q chk=>
  simp only[tN]at hr ⊢;split at hr
  ·rename_i hk;rw[t6 h hk];exact hr
  ·cases hr
def xS{b b':Fr×St->Option (Ex×Fr×St)}(h:∀ x r,b x=some r->b' x=some r):∀ {n n':Nat} {x:Fr×St} {r},n<=n'->qm b n x=some r->qm b' n' x=some r
 |0,_,_,_,_,hr=>by simp[qm]at hr
 |n+1,0,_,_,hn,_=>by omega
 |n+1,n'+1,x,r,hn,hr=>by
  simp only[qm]at hr ⊢;split at hr
  ·rename_i y hy;rw[h _ _ hy];exact xS h (by omega) hr
  ·rename_i hne;rw[h _ _ hr];obtain⟨e,y⟩:=r;cases e with
   |go=>exact absurd hr (hne y)
   |exit i=>rfl
   |ret=>rfl
def vK{c c':aJ}(h:pI c c'){n n':Nat}(hn:n<=n'):∀ (cc:CC) {x:Fr×St} {r},ev c n cc x=some r->ev c' n' cc x=some r:=by
 intro cc
 induction cc with
 |skip=>intro x r hr;exact hr
 |exit id=>intro x r hr;exact hr
 |ret=>intro x r hr;exact hr
 |reg os chk=>
  intro x r hr;simp only[ev,av]at hr ⊢;obtain⟨y,hy,rfl⟩:=hr;exact⟨y,JL h hy,rfl⟩
 |seq a b iha ihb=>
  intro x r hr;simp only[ev]at hr ⊢;split at hr
  ·rename_i y hy;rw[iha hy];exact ihb hr
  ·rename_i hne;rw[iha hr];obtain⟨e,y⟩:=r;cases e with
   |go=>exact absurd hr (hne y)
   |exit i=>rfl
   |ret=>rfl
 |cond cx a b iha ihb=>
  intro x r hr;simp only[ev]at hr ⊢;split at hr
  ·rename_i hc;exact iha hr
  ·rename_i hc;exact ihb hr
  ·cases hr
 |block id a iha=>
  intro x r hr;simp only[ev]at hr ⊢;split at hr
  ·rename_i i y hy;rw[iha hy];exact hr
  ·rename_i hne;rw[iha hr];obtain⟨e,y⟩:=r;cases e with
   |go=>rfl
   |exit i=>exact absurd hr (hne i y)
   |ret=>rfl
 |loop a iha=>
  intro x r hr;simp only[ev]at hr ⊢;exact xS (fun x r h=>iha h) hn hr
structure qd (c:Nat->aJ) (lim:aJ):Prop where
 up:∀ n,pI (c n) (c (n+1))
 lim:∀ f as ns cs r,lim f as ns cs=some r->∃ n,c n f as ns cs=some r
def pI.refl(c:aJ):pI c c:=fun _ _ _ _ _ h=>h
def pI.trans{a b c:aJ}(h:pI a b)(k:pI b c):pI a c:=fun f as ns cs r x=>k f as ns cs r (h f as ns cs r x)
section
variable {c:Nat->aJ} {lim:aJ}
def qd.le(h:qd c lim){n m:Nat}(hnm:n<=m):pI (c n) (c m):=by
 induction hnm with
 |refl=>exact pI.refl _
 |step _ ih=>exact ih.trans (h.up _)
def wM(h:qd c lim){f:Nat}{as:List PV}{mv:List Nat}{st:St}{r:PV×St}(hr:az lim f as mv st=some r):∃ n,az (c n) f as mv st=some r:=by
 unfold az at hr ⊢;cases hks:dw as with
 |none=>rw[hks]at hr;cases hr
 |some ks=>
  rw[hks]at hr;simp only at hr ⊢;cases hcs:dz st ks with
  |none=>rw[hcs]at hr;cases hr
  |some cs=>
   rw[hcs]at hr;simp only at hr ⊢;cases mv with
   |nil=>
    simp only at hr ⊢;cases hc:lim f (fe [] [] 0 0 as) [] (cs.map aQ)with
    |none=>rw[hc]at hr;cases hr
    |some q=>
     rw[hc]at hr;obtain⟨n,hn⟩:=h.lim _ _ _ _ _ hc;exact⟨n,by rw[hn];exact hr⟩
   |cons m mv=>
    simp only at hr ⊢;split at hr
    ·rename_i hb;cases hc:lim f (fe ((d5 (m::mv) as cs).map (·.1)) (m::mv) 0 0 as) ((d5 (m::mv) as cs).map (·.2)) (me ((d5 (m::mv) as cs).map (·.1)) (kc (m::mv) 0 as) cs)with
     |none=>rw[hc]at hr;cases hr
     |some q=>
      rw[hc]at hr;obtain⟨n,hn⟩:=h.lim _ _ _ _ _ hc;exact⟨n,by rw[am hb,hn];exact hr⟩
    ·cases hr
def GN(h:qd c lim){f:Nat}{as:List PV}{st:St}{r:PV×PV×St}(hr:uP lim f as st=some r):∃ n,uP (c n) f as st=some r:=by
 unfold uP at hr ⊢;cases hq:az lim (mI f) as [0] st with
 |none=>rw[hq]at hr;cases hr
 |some q=>
  rw[hq]at hr;obtain⟨n,hn⟩:=wM h hq;exact⟨n,by rw[hn];exact hr⟩
def Ip(h:qd c lim){fr:Fr}{st:St}{d:Option Nat}{o:eV}{r:PV×St}(hr:aC lim fr st d o=some r):∃ n,aC (c n) fr st d o=some r:=by
 cases o with
 |call f as mv=>exact wM h hr
 |cval f as=>
  simp only[aC]at hr ⊢;cases hf:f.ev fr with
  |fn g cap=>
   rw[hf]at hr;simp only at hr ⊢;split at hr
   ·rename_i hg;obtain⟨n,hn⟩:=wM h hr;exact⟨n,by rw[am hg];exact hn⟩
   ·cases hr
  |_=>rw[hf]at hr;cases hr
 |callU f as=>
  simp only[aC]at hr ⊢;cases hq:uP lim f (as.map (·.ev fr)) st with
  |none=>rw[hq]at hr;cases hr
  |some q=>
   rw[hq]at hr;obtain⟨n,hn⟩:=GN h hq;exact⟨n,by rw[hn];exact hr⟩
 |_=>exact⟨0,hr⟩
def xz(h:qd c lim){o:cW}{x y:Fr×St}(hr:dF lim o x=some y):∃ n,dF (c n) o x=some y:=by
 unfold dF at hr ⊢;cases hw:eZ x.1 o.g with
 |none=>rw[hw]at hr;cases hr
 |some b=>
  rw[hw]at hr;cases b with
  |false=>exact⟨0,hr⟩
  |true=>
   simp only at hr ⊢;cases hq:aC lim x.1 x.2 o.d o.op with
   |none=>rw[hq]at hr;cases hr
   |some q=>
    rw[hq]at hr;obtain⟨n,hn,hk⟩:∃ n,aC (c n) x.1 x.2 o.d o.op=some q/\de (c n) o.op o.d x.2 x.1=de lim o.op o.d x.2 x.1:=by
     by_cases hu:∃ f as,o.op= .callU f as
     ·obtain⟨f,as,he⟩:=hu;rw[he]at hq ⊢;simp only[aC]at hq ⊢;cases hv:uP lim f (as.map (·.ev x.1)) x.2 with
      |none=>rw[hv]at hq;cases hq
      |some z=>
       rw[hv]at hq;obtain⟨n,hn⟩:=GN h hv;exact⟨n,by rw[hn];exact hq,wr fun f' as' e=>by cases e;rw[hn,hv]⟩
     ·obtain⟨n,hn⟩:=Ip h hq;exact⟨n,hn,wr fun f as e=>absurd ⟨f,as,e⟩ hu⟩
    exact⟨n,by rw[hn,hk];exact hr⟩
def za(h:qd c lim):∀ {os:List cW} {x y:Fr×St},jl lim os x=some y->∃ n,jl (c n) os x=some y
 | [],_,_,hr=>⟨0,hr⟩
 |o::os,x,y,hr=>by
  simp only[jl]at hr ⊢;split at hr
  ·rename_i z hz;obtain⟨n,hn⟩:=xz h hz;obtain⟨m,hm⟩:=za h hr;refine⟨max n m,?_⟩;rw[rc (h.le (jv n m)) hn];exact vj (h.le (lx n m)) hm
  ·cases hr
def xR(h:qd c lim):∀ {os:List cW} {x:Fr×St} {y},jc lim os x=some y->∃ n,jc (c n) os x=some y
 | [],_,_,hr=>⟨0,hr⟩
 |o::os,x,y,hr=>by
  simp only[jc]at hr ⊢;split at hr
  ·rename_i z hz;split at hr
   ·rename_i hk;obtain⟨n,hn⟩:=xz h hz;obtain⟨m,hm⟩:=xR h hk;refine⟨max n m,?_⟩;rw[rc (h.le (jv n m)) hn];simp only;rw[t6 (h.le (lx n m)) hm];exact hr
   ·cases hr
  ·cases hr
def JM(h:qd c lim){os:List cW}{chk:List (Nat×Nat)}{x y:Fr×St}(hr:tN lim os chk x=some y):∃ n,tN (c n) os chk x=some y:=by
 cases chk with
 |nil=>exact za h hr
 |cons q chk=>
  simp only[tN]at hr ⊢;split at hr
  ·rename_i hk;obtain⟨n,hn⟩:=xR h hk;exact⟨n,by rw[hn];exact hr⟩
  ·cases hr
def Dc{b:Nat->Fr×St->Option (Ex×Fr×St)}{l:Fr×St->Option (Ex×Fr×St)}(up:∀ n m x r,n<=m->b n x=some r->b m x=some r)(hl:∀ x r,l x=some r->∃ n,b n x=some r):
  ∀ {N:Nat} {x:Fr×St} {r},qm l N x=some r->∃ n,qm (b n) N x=some r
 |0,_,_,hr=>by simp[qm]at hr
 |N+1,x,r,hr=>by
  simp only[qm]at hr ⊢;split at hr
  ·rename_i y hy;obtain⟨n,hn⟩:=hl _ _ hy;obtain⟨m,hm⟩:=Dc up hl hr;refine⟨max n m,?_⟩;rw[up _ _ _ _ (jv n m) hn];exact xS (fun x r h=>up _ _ _ _ (lx n m) h) (aP _) hm
  ·rename_i hne;obtain⟨n,hn⟩:=hl _ _ hr;refine⟨n,?_⟩;rw[hn];obtain⟨e,y⟩:=r;cases e with
   |go=>exact absurd hr (hne y)
   |exit i=>rfl
   |ret=>rfl
def HA(h:qd c lim)(N:Nat):∀ (cc:CC) {x:Fr×St} {r},ev lim N cc x=some r->∃ n,ev (c n) N cc x=some r:=by
 intro cc
 induction cc with
 |skip=>intro x r hr;exact⟨0,hr⟩
 |exit id=>intro x r hr;exact⟨0,hr⟩
 |ret=>intro x r hr;exact⟨0,hr⟩
 |reg os chk=>
  intro x r hr;simp only[ev,av]at hr ⊢;obtain⟨y,hy,rfl⟩:=hr;obtain⟨n,hn⟩:=JM h hy;exact⟨n,y,hn,rfl⟩
 |seq a b iha ihb=>
  intro x r hr;simp only[ev]at hr ⊢;split at hr
  ·rename_i y hy;obtain⟨n,hn⟩:=iha hy;obtain⟨m,hm⟩:=ihb hr;refine⟨max n m,?_⟩;rw[vK (h.le (jv n m)) (aP N) a hn];exact vK (h.le (lx n m)) (aP N) b hm
  ·rename_i hne;obtain⟨n,hn⟩:=iha hr;refine⟨n,?_⟩;rw[hn];obtain⟨e,y⟩:=r;cases e with
   |go=>exact absurd hr (hne y)
   |exit i=>rfl
   |ret=>rfl
 |cond cx a b iha ihb=>
  intro x r hr;simp only[ev]at hr ⊢;split at hr
  ·exact iha hr
  ·exact ihb hr
  ·cases hr
 |block id a iha=>
  intro x r hr;simp only[ev]at hr ⊢;split at hr
  ·rename_i i y hy;obtain⟨n,hn⟩:=iha hy;exact⟨n,by rw[hn];exact hr⟩
  ·rename_i hne;obtain⟨n,hn⟩:=iha hr;refine⟨n,?_⟩;rw[hn];obtain⟨e,y⟩:=r;cases e with
   |go=>rfl
   |exit i=>exact absurd hr (hne i y)
   |ret=>rfl
 |loop a iha=>
  intro x r hr;simp only[ev]at hr ⊢;exact Dc (b:=fun n=>ev (c n) N a) (l:=ev lim N a) (fun n m x r hnm hx=>vK (h.le hnm) (aP N) a hx) (fun x r hx=>iha hx) hr
end
end Go.PM
namespace Go.PM
variable {P:Program} {B:Nat->Nat->Option Value}
inductive iG where
 |tmp (t:Nat)
 |cell (a sz:Nat) (ag:Bool)
def od(fr:Fr)(st:St):iG->Option PV
 | .tmp t=>some (fr t)
 | .cell a sz ag=>match fr a with
  | .ptr s off=>match st.objs s with
   |some cs=>bL cs off sz ag
   |none=>none
  | .iptr cs off _=>bL cs off sz ag
  |_=>none
def fG(fr:Fr)(st:St):List iG->Option (List PV)
 | []=>some []
 |r::rs=>match od fr st r,fG fr st rs with
  |some p,some ps=>some (p::ps)
  |_,_=>none
def dh(nk:Nat):List PV->St->List PV×St
 | [],st=>([],st)
 | .osl e sz s n::ps,st=>match st.objs s with
  |some cs=>if nk<=s/\cs.length=n*sz/\n<=dL then
    match dh nk (ps.map (dZ s)) {st.more [n]with objs:=fun k=>if k=s then none else st.objs k}with
    |(qs,st')=>(.list n cs (.own st.nx e)::qs,st')
   else match dh nk ps st with
    |(qs,st')=>(.any::qs,st')
  |none=>match dh nk ps st with
   |(qs,st')=>(.any::qs,st')
 |p::ps,st=>match dh nk ps st with
  |(qs,st')=>(p::qs,st')
termination_by ps _=>ps.length
def Gh.melt(G:Gh)(s b e sz n:Nat)(us:List Value):Gh where
 com b' o:=if b'=b then us[o]? else G.com b' o
 sh b':=if b'=b then some (e,us.length)else G.sh b'
 tk t:=if t=G.nx then some (ot.room (qv.mk b n sz e n))else G.tk t
 nx:=G.nx+1
 pv b':=if b'=b then some G.nx else G.pv b'
 ob k:=if k=s then none else G.ob k
 oe k:=if k=s then none else G.oe k
 xp:=G.xp
 mb:=G.mb
section
variable {G:Gh} {st:St} {w:World}
def Le.melt(hI:bM P B G st w){s b e sz n:Nat}{us:List Value}(hb:G.ob s=some b):Le G (G.melt s b e sz n us):=by
 obtain⟨_,h2,h3⟩:=hI.obs s b hb;refine⟨fun b' o v h=>?_,fun b' x h=>?_,fun t x' ht h=>?_,Nat.le_succ G.nx,fun b' k o v h hp=>?_,rfl⟩
 ·have hne:b'≠b:=by rintro rfl;rw[h2 o]at h;cases h
  simp only[Gh.melt,ai hne];exact h
 ·have hne:b'≠b:=by rintro rfl;rw[h3]at h;cases h
  simp only[Gh.melt,ai hne];exact h
 ·have hne:t≠G.nx:=by omega
  simp only[Gh.melt,ai hne]at h;exact⟨x',h,aP _,fun _=>rfl⟩
 ·have hne:b'≠b:=by rintro rfl;rw[h2 o]at h;cases h
  simp only[Gh.melt,ai hne]at hp;exact hp
def bM.melt(hI:bM P B G st w){s b e sz n:Nat}{cs:List PV}{us:List Value}(hb:G.ob s=some b)(hs:st.objs s=some cs)(hh:w.heap[b]? =some (.cells us.toArray e (0,0)))(hul:us.length=n*sz)(hn:n<=dL)(hsz:gO P e=some sz):
  bM P B (G.melt s b e sz n us) {st.more [n]with objs:=fun k=>if k=s then none else st.objs k} w:=by
 have hle:=Le.melt (e:=e) (sz:=sz) (n:=n) (us:=us) hI hb;have hnx:=hI.nx;obtain⟨h1,h2,h3⟩:=hI.obs s b hb;have hml:dL<=maxLen:=by decide
 have hobk:∀ {k b'},(G.melt s b e sz n us).ob k=some b'->k≠s/\G.ob k=some b':=by
  intro k b' h;simp only[Gh.melt]at h;split at h
  ·cases h
  ·rename_i hk;exact⟨hk,h⟩
 have hbne:∀ {k b'},k≠s->G.ob k=some b'->b'≠b:=by
  rintro k b' hk h rfl;exact hk (hI.obj k s _ h hb)
 have hrne:∀ {t r},G.tk t=some (.room r)->r.b≠b:=by
  rintro t r h rfl;have:=(hI.room t r h).1;rw[h3]at this;cases this
 have hroom:∀ {t r},(G.melt s b e sz n us).tk t=some (.room r)->(t=G.nx/\r={b:=b,cap:=n,sz:=sz,e:=e,m:=n})\/(t≠G.nx/\G.tk t=some (.room r)):=by
  intro t r h;simp only[Gh.melt]at h;split at h
  ·rename_i ht;cases h;exact .inl ⟨ht,rfl⟩
  ·rename_i ht;exact .inr ⟨ht,h⟩
 refine⟨fun b' o v h=>?_,fun b' e' k h=>?_,by simp[Gh.melt,St.more,hnx],fun t x h=>?_,fun t ht=>?_,fun t r h=>?_,fun t u r q h h' hb'=>?_,fun t r h=>?_,fun k c h=>?_,fun k b' h=>?_,fun k l b' h h'=>hI.obj k l b' (hobk h).2 (hobk h').2,fun k h=>?_,fun k c h=>?_,fun b' k h=>?_,hI.xpl,fun b' o v h=>?_,fun k b' e' sz' h h'=>?_,fun k es h=>?_,hI.mbs,hI.mbi,hI.nomb,fun k b' h=>?_,fun t m h=>by
  simp only[Gh.melt]at h;split at h
  ·cases h
  ·exact hI.ful t m h⟩
 ·simp only[Gh.melt]at h;split at h
  ·rename_i hbb;subst hbb;simp[World.cell?,hh,h]
  ·exact hI.com b' o v h
 ·simp only[Gh.melt]at h;split at h
  ·rename_i hbb;subst hbb;cases h;exact⟨_,hh,by simp⟩
  ·exact hI.sh b' e' k h
 ·simp only[Gh.melt]at h;split at h
  ·rename_i ht;cases h;refine⟨by simp[St.more];omega,?_⟩;simp[St.more,ht,hnx,ot.cnt]
  ·obtain⟨h4,h5⟩:=hI.cnt t x h;exact⟨by simp only[St.more];omega,by simp only[St.more,am h4];exact h5⟩
 ·by_cases h:t=G.nx
  ·exact⟨.room {b:=b,cap:=n,sz:=sz,e:=e,m:=n},by simp only[Gh.melt,am h]⟩
  ·obtain⟨x,hx⟩:=hI.live t (by simp[St.more]at ht;omega);exact⟨x,by simp only[Gh.melt,ai h];exact hx⟩
 ·rcases hroom h with⟨rfl,rfl⟩|⟨ht,h⟩
  ·refine⟨by simp[Gh.melt,hul],by show n<=maxLen;omega,aP _,hsz,fun o ho=>?_,?_⟩
   ·simp only[Gh.melt,if_true];exact cE (by simp only at ho;omega)
   ·exact(hI.obx s b hb).2
  ·obtain⟨h4,h5,h6,h7,h8,h9⟩:=hI.room t r h;have:=hrne h;refine⟨by simp only[Gh.melt,ai this];exact h4,h5,h6,h7,fun o ho=>by simp only[Gh.melt,ai this];exact h8 o ho,h9⟩
 ·rcases hroom h with⟨rfl,rfl⟩|⟨ht,h⟩<;>rcases hroom h' with⟨rfl,rfl⟩|⟨hu,h'⟩
  ·rfl
  ·exact absurd hb'.symm (hrne h')
  ·exact absurd hb' (hrne h)
  ·exact hI.apart t u r q h h' hb'
 ·rcases hroom h with⟨rfl,rfl⟩|⟨ht,h⟩
  ·simp only[Gh.melt,if_true];exact⟨fun _=>trivial,fun j hj=>(Option.some.inj hj).symm⟩
  ·simp only[Gh.melt,ai (hrne h)];exact hI.priv t r h
 ·have h':(if k=s then none else st.objs k)=some c:=h;split at h'
  ·cases h'
  ·rename_i hk;obtain⟨b',e',vs,h4,h5,h6⟩:=hI.objs k c h';exact⟨b',e',vs,by simp only[Gh.melt,ai hk];exact h4,h5,h6.le hle (hI.npo k c h')⟩
 ·obtain⟨hk,h'⟩:=hobk h;obtain⟨h4,h5,h6⟩:=hI.obs k b' h';have:=hbne hk h';exact⟨h4,fun o=>by simp only[Gh.melt,ai this];exact h5 o,by simp only[Gh.melt,ai this];exact h6⟩
 ·have h':(if k=s then none else st.objs k)=none:=h;simp only[Gh.melt];split
  ·rfl
  ·rename_i hk;rw[ai hk]at h';exact hI.nob k h'
 ·have h':(if k=s then none else st.objs k)=some c:=h;split at h'
  ·cases h'
  ·exact hI.npo k c h'
 ·simp only[Gh.melt]at h;split at h
  ·rename_i hbb;subst hbb;exact h1
  ·exact hI.pvl b' k h
 ·obtain⟨h4,h5⟩:=hI.base b' o v h;have hne:b'≠b:=by rintro rfl;rw[h2 o]at h4;cases h4
  simp only[Gh.melt,ai hne];exact⟨h4,h5⟩
 ·obtain⟨hk,h4⟩:=hobk h;simp only[Gh.melt,ai hk]at h';exact hI.oes k b' e' sz' h4 h'
 ·obtain⟨b',vs,clk,h4,h5,h6,h7⟩:=hI.mobj k es h;exact⟨b',vs,clk,h4,h5,h6.le hle h7,h7⟩
 ·obtain⟨hk,h'⟩:=hobk h;obtain⟨h4,h5⟩:=hI.obx k b' h';simp only[Gh.melt,ai (hbne hk h')];exact⟨h4,h5⟩
def cQ.melt{G0:Gh}{w0:World}(hI:bM P B G st w)(hS:cQ G0 w0 G w){s b e sz n:Nat}{us:List Value}(hb:G.ob s=some b)(hp:w0.heap.size<=b)(h0:∀ b o v,G0.com b o=some v->b<w0.heap.size):cQ G0 w0 (G.melt s b e sz n us) w:=by
 have hle:=Le.melt (e:=e) (sz:=sz) (n:=n) (us:=us) hI hb;refine⟨⟨fun b' o v h hpn=>?_,fun b' x h=>hle.sh b' x (hS.le.sh b' x h),hS.le.xp⟩,hS.size,hS.kept,fun k b' h=>?_,fun t r h=>?_,fun b' o v h=>?_,fun b' x h=>?_,fun b' k h=>?_,hS.nearM,hS.eff⟩
 ·obtain⟨h1,h2⟩:=hS.le.com b' o v h hpn;have hne:b'≠b:=by rintro rfl;have:=h0 _ _ _ h;omega
  exact⟨hle.com b' o v h1,by simp only[Gh.melt,ai hne];exact h2⟩
 ·simp only[Gh.melt]at h;split at h
  ·cases h
  ·exact hS.nearO k b' h
 ·simp only[Gh.melt]at h;split at h
  ·cases h;exact .inr hp
  ·exact hS.nearT t r h
 ·simp only[Gh.melt]at h;split at h
  ·rename_i hbb;subst hbb;exact .inr (.inr hp)
  ·exact hS.nearC b' o v h
 ·simp only[Gh.melt]at h;split at h
  ·rename_i hbb;subst hbb;exact .inr hp
  ·exact hS.nearS b' x h
 ·simp only[Gh.melt]at h;split at h
  ·rename_i hbb;subst hbb;exact .inr hp
  ·exact hS.nearP b' k h
def L6{G0:Gh}{w0:World}(h0:∀ b o v,G0.com b o=some v->b<w0.heap.size)(nk:Nat):∀ (k:Nat) {ps:List PV} {vs:List Value} {G:Gh} {st:St},ps.length=k->bM P B G st w->cQ G0 w0 G w->(∀ s b,nk<=s->G.ob s=some b->w0.heap.size<=b)->ps.length=vs.length->(∀ (j:Nat) p v,ps[j]? =some p->vs[j]? =some v->R G p v/\cO p=true)->
  ∃ G',bM P B G' (dh nk ps st).2 w/\Le G G'/\cQ G0 w0 G' w/\(∀ s,s<nk->G'.bx s=G.bx s)/\(∀ s,s<nk->(dh nk ps st).2.objs s=st.objs s)/\(∀ s b,nk<=s->G'.ob s=some b->w0.heap.size<=b)/\
   (dh nk ps st).1.length=vs.length/\∀ (j:Nat) p v,(dh nk ps st).1[j]? =some p->vs[j]? =some v->np p=true->R G' p v:=by
 intro k
 induction k with
 |zero=>
  intro ps vs G st hk hI hS hob hl hR;have:ps=[]:=cq hk;subst this;rw[dh];exact⟨G,hI,Le.refl G,hS,fun _ _=>rfl,fun _ _=>rfl,hob,hl,fun j p v h=>by simp at h⟩
 |succ k ih=>
  intro ps vs G st hk hI hS hob hl hR;cases ps with
  |nil=>simp at hk
  |cons p ps=>
   cases vs with
   |nil=>simp at hl
   |cons v vs=>
    have hRp:=hR 0 p v rfl rfl;have hRt:∀ (j:Nat) p v,ps[j]? =some p->vs[j]? =some v->R G p v/\cO p=true:=fun j p v h1 h2=>hR (j+1) p v (by simpa using h1) (by simpa using h2);have hk':ps.length=k:=by simpa using hk
    have hl':ps.length=vs.length:=by simpa using hl
    have keep:∀ q,(∀ G',Le G G'->np q=true->R G' q v)->∃ G',bM P B G' (dh nk ps st).2 w/\Le G G'/\cQ G0 w0 G' w/\(∀ s,s<nk->G'.bx s=G.bx s)/\(∀ s,s<nk->(dh nk ps st).2.objs s=st.objs s)/\(∀ s b,nk<=s->G'.ob s=some b->w0.heap.size<=b)/\
      (q::(dh nk ps st).1).length=(v::vs).length/\∀ (j:Nat) p u,(q::(dh nk ps st).1)[j]? =some p->(v::vs)[j]? =some u->np p=true->R G' p u:=by
     intro q hq;obtain⟨G',h1,h2,h3,h4,h5,h6,h7,h8⟩:=ih hk' hI hS hob hl' hRt;refine⟨G',h1,h2,h3,h4,h5,h6,by simp[h7],fun j p u hp hu hn=>?_⟩;cases j with
     |zero=>simp at hp hu;subst hp;subst hu;exact hq G' h2 hn
     |succ j=>exact h8 j p u (by simpa using hp) (by simpa using hu) hn
    have plain:∃ G',bM P B G' (dh nk ps st).2 w/\Le G G'/\cQ G0 w0 G' w/\(∀ s,s<nk->G'.bx s=G.bx s)/\(∀ s,s<nk->(dh nk ps st).2.objs s=st.objs s)/\(∀ s b,nk<=s->G'.ob s=some b->w0.heap.size<=b)/\
      (p::(dh nk ps st).1).length=(v::vs).length/\∀ (j:Nat) q u,(p::(dh nk ps st).1)[j]? =some q->(v::vs)[j]? =some u->np q=true->R G' q u:=
     keep p fun G' hL hn=>hRp.1.le hL (fun _=>true) (fun s h=>by cases h) hn
    cases p with
    |osl e sz s n=>
     rw[dh];split
     ·rename_i cs hcs;split
      ·rename_i hc;obtain⟨hs,hlen,hnb⟩:=hc;cases hRp.1 with
       |osl _ _ _ _ b hb he=>
       obtain⟨e',us,hh,hRs,_⟩:=hI.box hcs hb;obtain⟨hsz,cur,hcur⟩:=hI.oes s b e sz hb he;rw[hh]at hcur;cases hcur;have hul:us.length=n*sz:=by rw[<-hRs.1];exact hlen
       have hle:=Le.melt (e:=e) (sz:=sz) (n:=n) (us:=us) hI hb;have hpb:=hob s b hs hb;have hI1:=hI.melt hb hcs hh hul hnb hsz;have hS1:=cQ.melt (e:=e) (sz:=sz) (n:=n) (us:=us) hI hS hb hpb h0;obtain⟨G',h1,h2,h3,h4,h5,h6,h7,h8⟩:=ih (ps:=ps.map (dZ s)) (vs:=vs) (by simpa using hk') hI1 hS1 (fun k b' hk hb'=>by
        simp only[Gh.melt]at hb';split at hb'
        ·cases hb'
        ·exact hob k b' hk hb') (by simpa using hl') (fun j q u hq hu=>by
        rw[dB,av]at hq;obtain⟨q0,hq0,rfl⟩:=hq;obtain⟨h1,h2⟩:=hRt j q0 u hq0 hu;exact⟨(C9 s h1).le hle (fun k=>decide (k=s)) (fun k hk=>by
         have hk:k≠s:=by simpa using hk
         simp[Gh.bx,Gh.melt,hk]) (EU s q0 h2),C8 s h2⟩)
       refine⟨G',h1,hle.trans h2,h3,fun k hk=>?_,fun k hk=>?_,h6,by simp[h7],fun j q u hq hu hn=>?_⟩
       ·rw[h4 k hk];simp[Gh.bx,Gh.melt,show k≠s by omega]
       ·rw[h5 k hk];simp[show k≠s by omega]
       ·cases j with
        |zero=>
         simp at hq hu;subst hq;subst hu;have hRs1:=hRs.le hle (hI.npo s cs hcs);have hR1:R (G.melt s b e sz n us) (.list n cs (.own G.nx e)) (.slice (some ⟨b,0,none⟩) n n):=by
          refine .list n cs _ b 0 n us (aP _) hRs1.1 (fun j u hu=>?_) hRs1.2.1 hRs1.2.2 ⟨by simp[Gh.melt],fun x hx=>?_⟩ (fun k _ hk=>?_) (fun _ _=>(hI.obx s b hb).2)
          ·simp only[Gh.melt,ar,if_true];exact hu
          ·simp only[Gh.melt,if_true]at hx;cases hx;exact⟨aP _,fun _=>⟨rfl,rfl,rfl,rfl,hul⟩⟩
          ·simp only[Gh.melt,if_true]at hk;exact hk
         rw[hI.nx]at hR1;exact hR1.le h2 (fun _=>true) (fun s h=>by cases h) hn
        |succ j=>exact h8 j q u (by simpa using hq) (by simpa using hu) hn
      ·exact keep .any fun G' _ _=> .any v
     ·exact keep .any fun G' _ _=> .any v
    |any=>rw[dh];exact plain;all_goals (intros;simp_all)
    |hole=>rw[dh];exact plain;all_goals (intros;simp_all)
    |int _ _=>rw[dh];exact plain;all_goals (intros;simp_all)
    |bool _=>rw[dh];exact plain;all_goals (intros;simp_all)
    |str _=>rw[dh];exact plain;all_goals (intros;simp_all)
    |nilp=>rw[dh];exact plain;all_goals (intros;simp_all)
    |nili=>rw[dh];exact plain;all_goals (intros;simp_all)
    |err=>rw[dh];exact plain;all_goals (intros;simp_all)
    |agg _=>rw[dh];exact plain;all_goals (intros;simp_all)
    |tup _=>rw[dh];exact plain;all_goals (intros;simp_all)
    |list _ _ _=>rw[dh];exact plain;all_goals (intros;simp_all)
    |ptr _ _=>rw[dh];exact plain;all_goals (intros;simp_all)
    |mp _=>rw[dh];exact plain;all_goals (intros;simp_all)
    |iptr _ _ _=>rw[dh];exact plain;all_goals (intros;simp_all)
    |fn _ _=>rw[dh];exact plain;all_goals (intros;simp_all)
def Gh.rest(G:Gh)(nk:Nat):Gh:={G with ob:=fun k=>if k<nk then G.ob k else none,oe:=fun k=>if k<nk then G.oe k else none,mb:=fun _=>none}
def Le.rest(G:Gh)(nk:Nat):Le G (G.rest nk):=⟨fun _ _ _ h=>h,fun _ _ h=>h,fun _ x' _ h=>⟨x',h,aP _,fun _=>rfl⟩,aP _,fun _ _ _ _ _ h=>h,rfl⟩
def bM.rest(hI:bM P B G st w)(nk:Nat):bM P B (G.rest nk) {st with objs:=fun k=>if k<nk then st.objs k else none,maps:=fun _=>none} w:=by
 have hle:=Le.rest G nk;have hobk:∀ {k b},(G.rest nk).ob k=some b->k<nk/\G.ob k=some b:=by
  intro k b h;simp only[Gh.rest]at h;split at h
  ·rename_i hk;exact⟨hk,h⟩
  ·cases h
 have hobj:∀ {k c},(if k<nk then st.objs k else none)=some c->k<nk/\st.objs k=some c:=by
  intro k c h;split at h
  ·rename_i hk;exact⟨hk,h⟩
  ·cases h
 refine⟨hI.com,hI.sh,hI.nx,hI.cnt,hI.live,hI.room,hI.apart,hI.priv,fun k c h=>?_,fun k b h=>hI.obs k b (hobk h).2,fun k l b h h'=>hI.obj k l b (hobk h).2 (hobk h').2,fun k h=>?_,fun k c h=>hI.npo k c (hobj h).2,hI.pvl,hI.xpl,hI.base,fun k b e sz h h'=>?_,
  fun k es h=>(by cases h),fun k b h=>(by cases h),fun k l b h=>(by cases h),fun k h=>rfl,fun k b h=>hI.obx k b (hobk h).2,hI.ful⟩
 ·obtain⟨hk,hc⟩:=hobj h;obtain⟨b,e,vs,hb,hh,hR⟩:=hI.objs k c hc;exact⟨b,e,vs,by simp only[Gh.rest,am hk];exact hb,hh,hR.le hle (hI.npo k c hc)⟩
 ·simp only[Gh.rest];split
  ·rename_i hk;simp only[am hk]at h;exact hI.nob k h
  ·rfl
 ·obtain⟨hk,h1⟩:=hobk h;simp only[Gh.rest,am hk]at h';exact hI.oes k b e sz h1 h'
def cQ.rest{G0:Gh}{w0:World}(hS:cQ G0 w0 G w)(nk:Nat):cQ G0 w0 (G.rest nk) w:=by
 refine⟨⟨hS.le.com,hS.le.sh,hS.le.xp⟩,hS.size,hS.kept,fun k b h=>?_,hS.nearT,hS.nearC,hS.nearS,hS.nearP,fun s b h=>(by cases h),hS.eff⟩;simp only[Gh.rest]at h;split at h
 ·exact hS.nearO k b h
 ·cases h
end
def Gh.shut(G:Gh)(l:List Nat):Gh:=
 {G with tk:=fun t=>(l[t]?).bind G.tk,nx:=l.length,pv:=fun b=>(G.pv b).bind (bi l)}
def GY(G:Gh)(l:List Nat):Rn (bi l) (fun _=>false) false G (G.shut l) where
 com b o v h _:=h
 sh b x h:=h
 tk k k' h _ hlt:=by
  have hg:=uQ h;refine⟨(bD.1 hg).1,fun x' hx'=>?_⟩;simp only[Gh.shut,hg,em]at hx';exact⟨x',hx',aP _,fun _=>rfl⟩
 pv b k' o v _ _ h:=by
  simp only[Gh.shut,bU]at h;obtain⟨k,h1,h2⟩:=h;exact .inl ⟨k,h1,h2⟩
 xp b o v _ _ h:= .inl h
section
variable {G:Gh} {st:St} {w:World}
def bM.shut(hI:bM P B G st w){ts:List (Nat×Nat)}(hts:At st ts)(hmaps:st.maps=fun _=>none){cs:List (List PV)}(hobj:∀ k,st.objs k=cs[k]?)(sw:Bool):
  bM P B (G.shut (ts.map (·.1))) (bV (ts.map (·.2)) (cs.map (bm (bi (ts.map (·.1))) sw))) w:=by
 generalize hl:ts.map (·.1)=l at*;have hJn:l.Nodup:=by rw[<-hl];exact hts.1
 have hlen:l.length=ts.length:=by rw[<-hl];simp
 have hJk:∀ {t k:Nat},l[t]? =some k->k<st.nx/\(ts.map (·.2)).getD t 0=st.cnt k/\st.fl<=k/\t<ts.length:=fun h=>zB hts (by rw[hl];exact h);have htk:∀ {t x},(G.shut l).tk t=some x->∃ k,l[t]? =some k/\G.tk k=some x:=by
  intro t x h;simpa only[Gh.shut,bU]using h
 have hobjR:∀ {k c},(bV (ts.map (·.2)) (cs.map (bm (bi l) sw))).objs k=some c->∃ c0,st.objs k=some c0/\c=bm (bi l) sw c0:=by
  intro k c h;simp only[bV,dB,av]at h;obtain⟨c0,h1,h2⟩:=h;exact⟨c0,by rw[hobj k,h1],h2.symm⟩
 refine⟨hI.com,hI.sh,by simp[Gh.shut,bV,hlen],fun t x h=>?_,fun t h=>?_,fun t r h=>?_,fun t u r q h1 h2 hb=>?_,fun t r h=>?_,fun k c h=>?_,hI.obs,hI.obj,fun k h=>?_,fun k c h=>?_,fun b k h=>?_,hI.xpl,fun b o v h=>?_,hI.oes,fun s es h=>(by cases h),fun s b h=>?_,hI.mbi,fun s _=>?_,fun s b h=>?_,fun t m h=>by obtain⟨k,hk,hx⟩:=htk h;exact hI.ful k m hx⟩
 ·obtain⟨k,hk,hx⟩:=htk h;obtain⟨h1,h2,_,h4⟩:=hJk hk;refine⟨by simpa [bV]using h4,?_⟩;simp only[bV];rw[h2,(hI.cnt k x hx).2]
 ·have hlt:t<l.length:=by simpa [bV,hlen]using h
  have hk:l[t]? =some l[t]:=aK hlt;obtain⟨x,hx⟩:=hI.live _ (hJk hk).1;exact⟨x,by simp only[Gh.shut,hk,em];exact hx⟩
 ·obtain⟨k,hk,hx⟩:=htk h;exact hI.room k r hx
 ·obtain⟨k,hk,hx⟩:=htk h1;obtain⟨k',hk',hy⟩:=htk h2;have:=hI.apart k k' r q hx hy hb;subst this;exact uJ hJn hk hk'
 ·obtain⟨k,hk,hx⟩:=htk h;have hp:=(hI.priv k r hx).1 (hJk hk).2.2.1;have hpi:(G.shut l).pv r.b=some t:=by simp only[Gh.shut,hp,em];exact Aa hJn hk
  rw[hpi];exact⟨fun _=>rfl,fun j hj=>(Option.some.inj hj).symm⟩
 ·obtain⟨c0,hc0,rfl⟩:=hobjR h;obtain⟨b,e,vs,hb,hh,hR⟩:=hI.objs k c0 hc0;exact⟨b,e,vs,hb,hh,hR.ren (GY G l) (hI.npo k c0 hc0) (k9 c0) (by simp)⟩
 ·simp only[bV,dB,fD]at h;exact hI.nob k (by rw[hobj k,h])
 ·obtain⟨c0,hc0,rfl⟩:=hobjR h;exact rQ (hI.npo k c0 hc0)
 ·simp only[Gh.shut,bU]at h;obtain⟨k',h1,_⟩:=h;exact hI.pvl b k' h1
 ·obtain⟨h1,h2,h3⟩:=hI.base b o v h;exact⟨h1,by simp[Gh.shut,h2],h3⟩
 ·exact hI.mbs s b h
 ·exact hI.nomb s (by rw[hmaps])
 ·obtain⟨h1,h2⟩:=hI.obx s b h;exact⟨by simp[Gh.shut,h1],h2⟩
def cQ.shut{G0:Gh}{w0:World}(hS:cQ G0 w0 G w)(l:List Nat):cQ G0 w0 (G.shut l) w:=by
 refine⟨⟨fun b o v h hp=>?_,hS.le.sh,hS.le.xp⟩,hS.size,hS.kept,hS.nearO,fun t r h=>?_,hS.nearC,hS.nearS,fun b k h=>?_,hS.nearM,hS.eff⟩
 ·obtain⟨h1,h2⟩:=hS.le.com b o v h hp;exact⟨h1,by simp[Gh.shut,h2]⟩
 ·simp only[Gh.shut,bU]at h;obtain⟨k,_,h2⟩:=h;exact hS.nearT k r h2
 ·simp only[Gh.shut,bU]at h;obtain⟨k',h1,_⟩:=h;exact hS.nearP b k' h1
end
def jP(cs:List (List PV)):List (Nat×Nat):=cs.flatMap aw
def lD(own:Bool)(st:St)(r:PV)(cs:List (List PV)):PV×List Nat×List (List PV):=
 if own && sG ((aB r++jP cs).map (·.1)) && (aB r++jP cs).all (uH st)then(ren (bi ((aB r++jP cs).map (·.1))) false r,(aB r++jP cs).map (·.2),cs.map (bm (bi ((aB r++jP cs).map (·.1))) false))
 else(aO r,[],cs.map aQ)
structure bw where
 nt:Nat
 nk:Nat
 body:CC
 res:List iG
 own:Bool
def fW:List PV->PV
 | [p]=>p
 |ps=> .tup ps
def im(F:bw)(n:Nat)(fr:Fr)(st:St):Option (PV×List Nat×List (List PV)):=
 match fG fr st F.res,dz st (List.range n)with
 |some vs,some cs=>if np (fW (dh F.nk vs st).1) && cs.all aX then some (lD F.own (dh F.nk vs st).2 (fW (dh F.nk vs st).1) cs)else none
 |_,_=>none
def eM(as:List PV):Fr:=fun t=>(as[t]?).getD .hole
def gr(cf:aJ)(N:Nat)(F:bw)(as:List PV)(ns:List Nat)(cs:List (List PV)):Option (PV×List Nat×List (List PV)):=
 if as.length<=F.nt/\cs.length<=F.nk then
  match ev cf N F.body (eM as,bV ns cs)with
  |some (.go,y)=>im F cs.length y.1 y.2
  |some (.ret,y)=>im F cs.length y.1 y.2
  |_=>none
 else none
def yM(P:Program):ResultVar->Option iG
 | .tmp t=>some (.tmp t)
 | .cell a t=>match gO P t,tn P t with
  |some sz,some ag=>some (.cell a sz ag)
  |_,_=>none
def kn(P:Program):List ResultVar->Option (List iG)
 | []=>some []
 |r::rs=>match yM P r,kn P rs with
  |some c,some cs=>some (c::cs)
  |_,_=>none
def sD(tmps:Array Value):ResultVar->Sem Value
 | .tmp t=>pure (tmps.getD t undef)
 | .cell a t=>do loadVar t (<-asAddr (tmps.getD a undef))
section
variable {G:Gh} {nt:Nat} {fr:Fr} {st:St} {w:World} {a:Act}
def In(hI:bM P B G st w)(hF:fu G nt fr a){r:ResultVar}{c:iG}(hc:yM P r=some c){p:PV}(hp:od fr st c=some p):∃ v,(sD a.tmps r).run P w= .ok v w/\R G p v/\cO p=true:=by
 cases r with
 |tmp t=>
  simp only[yM,bB]at hc;subst hc;simp only[od,bB]at hp;subst hp;exact⟨_,rfl,hF.2.1 t,hF.2.2 t⟩
 |cell x t=>
  simp only[yM]at hc;split at hc
  ·rename_i sz ag hs hg;simp only[bB]at hc;subst hc;have hR:=hF.2.1 x;have ht:=hF.2.2 x;simp only[od]at hp;generalize hv:a.tmps.getD x undef=xv at hR;split at hp
   ·rename_i s off e;rw[e]at hR;split at hp
    ·rename_i cs hcs;cases hR with
     |ptr _ _ b hb=>
     obtain⟨e',us,hh,hRs,hcell⟩:=hI.box hcs hb;obtain⟨v,hrun,hRv⟩:=sf (P:=P) (w:=w) (o:=0) hs hg hRs.1 hRs.2.1 hRs.2.2 hcell hp;rw[ar]at hrun;refine⟨v,?_,hRv,ga (tQ (hI.npo _ _ hcs) hp)⟩;simp only[sD,hv];simp[asAddr,hrun]
    ·cases hp
   ·rename_i cs off tk e;rw[e]at hR ht;cases hR with
    |iptr _ _ _ b o us hl hcm hr h1 _ _ _=>
    obtain⟨v,hrun,hRv⟩:=sf (P:=P) (w:=w) hs hg hl hr h1 (fun j u hu=>hI.com _ _ _ (hcm j u hu)) hp;refine⟨v,?_,hRv,ga (tQ (ur ht) hp)⟩;simp only[sD,hv];simp[asAddr,hrun]
   ·cases hp
  ·cases hc
def Es(hI:bM P B G st w)(hF:fu G nt fr a):∀ {rs:List ResultVar} {cs:List iG},kn P rs=some cs->∀ {ps:List PV},fG fr st cs=some ps->
  ∃ vs:List Value,(rs.mapM (sD a.tmps)).run P w= .ok vs w/\ps.length=vs.length/\∀ (j:Nat) p v,ps[j]? =some p->vs[j]? =some v->R G p v/\cO p=true
 | [],cs,hc,ps,hp=>by
  simp only[kn,bB]at hc;subst hc;simp only[fG,bB]at hp;subst hp;exact⟨[],rfl,rfl,fun j p v h=>by simp at h⟩
 |r::rs,cs,hc,ps,hp=>by
  simp only[kn]at hc;split at hc
  ·rename_i c cs' h1 h2;simp only[bB]at hc;subst hc;simp only[fG]at hp;split at hp
   ·rename_i p ps' h3 h4;simp only[bB]at hp;subst hp;obtain⟨v,hv,hR,ht⟩:=In hI hF h1 h3;obtain⟨vs,hvs,hl,hRs⟩:=Es hI hF h2 h4;refine⟨v::vs,?_,by simp[hl],fun j q u hq hu=>?_⟩
    ·simp[List.mapM_cons,hv,hvs]
    ·cases j with
     |zero=>simp at hq hu;subst hq;subst hu;exact⟨hR,ht⟩
     |succ j=>exact hRs j q u (by simpa using hq) (by simpa using hu)
   ·cases hp
  ·cases hc
def s7(fn:Func)(tmps:Array Value):results fn tmps=(do
  let vs<-fn.results.mapM (sD tmps)
  pure (if h:vs.size=1 then vs[0]else .tuple vs)):=by
 unfold results;congr 1
end
def vM(P:Program)(M:Nat->List Nat)(nk:Nat)(own:Bool)(f:Nat):Option bw:=
 match P.funcs[f]? with
 |some fn=>
  if fn.name= "runtime.NumGoroutine" then none else
  match fn.body with
  |some c=>match g8 P M fn.ntmps nk c,kn P fn.results.toList with
   |some b,some rs=>some {nt:=fn.ntmps,nk:=nk,body:=b,res:=rs,own:=own}
   |_,_=>none
  |none=>none
 |none=>none
def Dt{M:Nat->List Nat}{nk:Nat}{own:Bool}{f:Nat}{F:bw}(h:vM P M nk own f=some F):
  ∃ fn c,P.funcs[f]? =some fn/\fn.name≠ "runtime.NumGoroutine" /\fn.body=some c/\F.nt=fn.ntmps/\g8 P M F.nt F.nk c=some F.body/\kn P fn.results.toList=some F.res:=by
 unfold vM at h;split at h
 ·rename_i fn hfn;split at h
  ·cases h
  ·rename_i hname;split at h
   ·rename_i c hc;split at h
    ·rename_i b rs hb hrs;cases h;exact⟨fn,c,hfn,hname,hc,rfl,hb,hrs⟩
    ·cases h
   ·cases h
 ·cases h
def x5{st:St}{n:Nat}{cs:List (List PV)}(h:dz st (List.range n)=some cs):cs.length=n/\∀ k,k<n->st.objs k=cs[k]? :=by
 obtain⟨h1,h2⟩:=nE h;refine⟨by simpa using h1.symm,fun k hk=>h2 k k ?_⟩;simp[hk]
section
variable {cf:aJ}
def Hy{G:Gh}{nt:Nat}{as:List PV}{vs:List Value}(hl:as.length=vs.length)(hle:as.length<=nt)(hR:∀ (j:Nat) p v,as[j]? =some p->vs[j]? =some v->R G p v/\cO p=true):
  fu G nt (eM as) {tmps:=vs.toArray++Array.replicate (nt-vs.toArray.size) undef,defers:=[]}:=by
 refine⟨by simp;omega,fun t=>?_,fun t=>?_⟩
 ·rw[bT];unfold eM;by_cases ht:t<as.length
  ·have h1:as[t]? =some as[t]:=aK ht;have h2:vs[t]? =some (vs[t]'(by omega)):=aK (by omega);rw[nY (by simp;omega)];simp only[kg,h1,h2,Option.getD_some];exact(hR t _ _ h1 h2).1
  ·rw[cE (by omega),Array.getElem?_append_right (by simp;omega),lC];simp only[Option.getD_none];split<;>exact .hole
 ·unfold eM;cases h:as[t]? with
  |none=>rfl
  |some p=>
   have ht:=(bD.1 h).1;exact(hR t p _ h (aK (by omega))).2
def Gi(own:Bool)(st:St)(r:PV)(cs:List (List PV))(hr:np r=true)(hc:∀ c∈cs,aX c=true):np (lD own st r cs).1=true/\(lD own st r cs).2.2.length=cs.length/\∀ c∈(lD own st r cs).2.2,aX c=true:=by
 unfold lD;split
 ·refine⟨by simp only[np,gT];exact hr,by simp,fun c h=>?_⟩;obtain⟨c0,h0,rfl⟩:=cX.1 h;exact rQ (hc c0 h0)
 ·refine⟨by simp only[np,aO,gT];exact hr,by simp,fun c h=>?_⟩;obtain⟨c0,h0,rfl⟩:=cX.1 h;exact AR (hc c0 h0)
def x8{F:bw}{n:Nat}{fr:Fr}{st:St}{r:PV}{ns:List Nat}{cs':List (List PV)}(h:im F n fr st=some (r,ns,cs')):cs'.length=n/\np r=true/\∀ c∈cs',aX c=true:=by
 unfold im at h;split at h
 ·rename_i ps cs hps hcs;split at h
  ·rename_i hnp;simp only[aj]at hnp;obtain⟨hnp,hall⟩:=hnp;simp only[bB]at h;obtain⟨h1,h2,h3⟩:=Gi F.own (dh F.nk ps st).2 _ cs hnp (fun c hc=>(cw.1 hall) c hc);rw[h]at h1 h2 h3;exact⟨by rw[h2,(x5 hcs).1],h1,h3⟩
  ·cases h
 ·cases h
def x6{F:bw}{fn:Func}(hres:kn P fn.results.toList=some F.res){G0 G:Gh}{ns0:List Nat}{cs0:List (List PV)}{st:St}{w0 w:World}{fr:Fr}{a:Act}(hcs0:cs0.length<=F.nk)(hI0:bM P B G0 (bV ns0 cs0) w0)
  (hI:bM P B G st w) (hS:cQ G0 w0 G w) (hF:fu G F.nt fr a) (hk:∀ s,F.nk<=s\/G.bx s=G0.bx s) {r:PV} {ns:List Nat} {cs':List (List PV)} (h:im F cs0.length fr st=some (r,ns,cs')):
  ∃ v G',(results fn a.tmps).run P w= .ok v w/\R G' r v/\bM P B G' (bV ns cs') w/\cQ G0 w0 G' w/\G'.ob=G0.ob/\∀ k,k<cs0.length->G'.oe k=G0.oe k:=by
 unfold im at h;split at h
 ·rename_i ps cs hps hcs;split at h
  ·rename_i hnp;simp only[aj]at hnp;obtain⟨hnp,_⟩:=hnp;simp only[bB]at h;obtain⟨vs,hvs,hlv,hRv⟩:=Es hI hF hres hps;obtain⟨hlc,hgc⟩:=x5 hcs;have h0:∀ b o v,G0.com b o=some v->b<w0.heap.size:=fun b o v h=>by
    have:=World.block_lt_of_cell? w0 _ (hI0.com b o v h);simpa using this
   have hob0:∀ k,cs0.length<=k->G0.ob k=none:=fun k hk=>hI0.nob k (by simp only[bV];exact cE hk);have hpast:∀ s b,F.nk<=s->G.ob s=some b->w0.heap.size<=b:=by
    intro s b hs hsb;rcases hS.nearO s b hsb with⟨u,hu⟩|h
    ·exfalso;have hulen:u<cs0.length:=by
      rcases Nat.lt_or_ge u cs0.length with h|h
      ·exact h
      ·rw[hob0 u h]at hu;cases hu
     have hGu:G.ob u=some b:=by
      rcases hk u with h|h
      ·omega
      ·rw[mH h,hu]
     have:=hI.obj s u b hsb hGu;omega
    ·exact h
   obtain⟨G1,hI1,hL1,hS1,hb1,ho1,_,hl1,hR1⟩:=L6 h0 F.nk ps.length rfl hI hS hpast hlv hRv;generalize hm:dh F.nk ps st=m at*;obtain⟨qs,st1⟩:=m;simp only at h hnp hI1 ho1 hl1 hR1;have hI2:=hI1.rest F.nk;have hL2:=Le.rest G1 F.nk;have hS2:=hS1.rest F.nk;generalize hq:fW qs=q at h hnp;have hval:∃ v,(results fn a.tmps).run P w= .ok v w/\R (G1.rest F.nk) q v:=by
    have hrun:(fn.results.mapM (sD a.tmps)).run P w= .ok vs.toArray w:=by
     rw[Array.mapM_eq_mapM_toList];simp[hvs]
    have hR':∀ (j:Nat) p v,qs[j]? =some p->vs[j]? =some v->np p=true->R (G1.rest F.nk) p v:=fun j p v hp hv hn=>
     (hR1 j p v hp hv hn).le hL2 (fun _=>true) (fun s h=>by cases h) hn
    cases qs with
    |nil=>
     have hv0:vs=[]:=cq (by simpa using hl1.symm);subst hv0;simp only[fW]at hq;subst hq;exact⟨.tuple #[],by rw[s7];simp[hrun],.tup [] [] rfl fun j p u hp=>by simp at hp⟩
    |cons p qs=>
     cases qs with
     |nil=>
      obtain⟨v,rfl⟩:∃ v,vs=[v]:=by
       cases vs with
       |nil=>simp at hl1
       |cons v vs=>cases vs with
        |nil=>exact⟨v,rfl⟩
        |cons u vs=>simp at hl1
      simp only[fW]at hq;subst hq;exact⟨v,by rw[s7];simp[hrun],hR' 0 _ _ rfl rfl hnp⟩
     |cons p' qs=>
      have hq':q= .tup (p::p'::qs):=hq.symm;subst hq';have hnps:aX (p::p'::qs)=true:=by simpa [np,off,aX]using hnp
      refine⟨.tuple vs.toArray,?_,.tup _ vs hl1 fun j q' u hq' hu=>hR' j q' u hq' hu (j7 hnps hq')⟩;rw[s7];have:¬vs.length=1:=by simp at hl1;omega
      simp[hrun,this]
   obtain⟨v,hrunv,hRq⟩:=hval;have hobj:∀ k,(if k<F.nk then st1.objs k else none)=cs[k]? :=by
    intro k;by_cases hkn:k<cs0.length
    ·rw[am (by omega),ho1 k (by omega)];exact hgc k hkn
    ·rw[cE (by omega)];split
     ·rename_i hk1;rw[ho1 k hk1];have h0:G0.ob k=none:=hob0 k (by omega);have h1:G.ob k=none:=by
       rcases hk k with h|h
       ·omega
       ·rw[mH h,h0]
      cases hso:st.objs k with
      |none=>rfl
      |some c=>
       obtain⟨b,_,_,hb,_⟩:=hI.objs k c hso;rw[h1]at hb;cases hb
     ·rfl
   have hobF:∀ l,((G1.rest F.nk).shut l).ob=G0.ob/\∀ k,k<cs0.length->((G1.rest F.nk).shut l).oe k=G0.oe k:=by
    intro l;have key:∀ k,k<F.nk->G1.bx k=G0.bx k:=fun k hlt=>by
     rw[hb1 k hlt];rcases hk k with h|h
     ·omega
     ·exact h
    refine⟨funext fun k=>?_,fun k hkc=>?_⟩
    ·show(if k<F.nk then G1.ob k else none)=G0.ob k;split
     ·rename_i hlt;exact mH (key k hlt)
     ·exact(hob0 k (by omega)).symm
    ·show(if k<F.nk then G1.oe k else none)=G0.oe k;rw[am (by omega)];exact Bz (key k (by omega))
   have finishG:∀ (ts:List (Nat×Nat)),At st1 ts->∀ sw,R ((G1.rest F.nk).shut (ts.map (·.1))) (ren (bi (ts.map (·.1))) sw q) v/\bM P B ((G1.rest F.nk).shut (ts.map (·.1))) (bV (ts.map (·.2)) (cs.map (bm (bi (ts.map (·.1))) sw))) w/\cQ G0 w0 ((G1.rest F.nk).shut (ts.map (·.1))) w:=by
    intro ts h1 sw;exact⟨hRq.ren (GY _ _) (fun _=>true) (fun s hs=>by cases hs) hnp (oa q) (by simp),hI2.shut h1 rfl hobj sw,hS2.shut _⟩
   unfold lD at h;split at h
   ·rename_i hb;simp only[aj]at hb;obtain⟨⟨_,hb1⟩,hb2⟩:=hb;simp only[cL]at h;obtain⟨rfl,rfl,rfl⟩:=h;obtain⟨f1,f2,f3⟩:=finishG (aB q++jP cs) (GO hb1 hb2) false;exact⟨v,_,hrunv,f1,f2,f3,(hobF _).1,(hobF _).2⟩
   ·simp only[cL]at h;obtain⟨rfl,rfl,rfl⟩:=h;obtain⟨f1,f2,f3⟩:=finishG [] ⟨pE,fun x hx=>by cases hx⟩ true;exact⟨v,_,hrunv,f1,f2,f3,(hobF _).1,(hobF _).2⟩
  ·cases h
 ·cases h
def Rv(P:Program)(B:Nat->Nat->Option Value)(f:Nat)(T:List PV->List Nat->List (List PV)->Option (PV×List Nat×List (List PV))):Prop:=∀ as ns cs r rs cs',T as ns cs=some (r,rs,cs')->
 mg P f/\cs'.length=cs.length/\np r=true/\(∀ c∈cs',aX c=true)/\
 ∀ G w (vs:List Value),bM P B G (bV ns cs) w->as.length=vs.length->(∀ (j:Nat) p v,as[j]? =some p->vs[j]? =some v->R G p v/\cO p=true)->
  Calls P f vs.toArray w fun e w'=>∃ v G',e= .returned v/\R G' r v/\bM P B G' (bV rs cs') w'/\cQ G w G' w'/\G'.ob=G.ob/\∀ k,k<cs.length->G'.oe k=G.oe k
def Mj{M:Nat->List Nat}(hcf:jD P B cf)(hmix:P.follows .mixedOrders=true)(N:Nat){nk:Nat}{own:Bool}{f:Nat}{F:bw}(hc:vM P M nk own f=some F):Rv P B f (gr cf N F):=by
 obtain⟨fn,c,hfn,hname,hbody,hnt,hcode,hres⟩:=Dt hc;intro as ns0 cs r ns cs' h;have hE:mg P f:=⟨fn,hfn,hname,by rw[hbody];rfl⟩;unfold gr at h;split at h
 ·rename_i hb;obtain⟨hb1,hb2⟩:=hb;have key:∃ e y,ev cf N F.body (eM as,bV ns0 cs)=some (e,y)/\(e= .go\/e= .ret)/\im F cs.length y.1 y.2=some (r,ns,cs'):=by
   split at h
   ·rename_i y hy;exact⟨.go,y,hy,.inl rfl,h⟩
   ·rename_i y hy;exact⟨.ret,y,hy,.inr rfl,h⟩
   ·cases h
  obtain⟨e,y,hev,he,hfin⟩:=key;obtain⟨h1,h2,h3⟩:=x8 hfin;refine⟨hE,h1,h2,h3,fun G w vs hI hl hR=>?_⟩;refine calls_of_wp hfn hbody ?_;rw[<-hnt];refine Bw hcf hmix N c hcode hev hI (Hy hl hb1 hR) fun a' w' G' hI' hS' hF' hd' hk'=>?_;obtain⟨v,G2,hrun,hR2,hI2,hS2,hob2⟩:=x6 hres hb2 hI hI' hS' hF' hk' hfin;rcases he with rfl|rfl
  ·exact⟨hd'.1,v,hrun,v,G2,rfl,hR2,hI2,hS2,hob2⟩
  ·exact⟨hd'.1,v,hrun,v,G2,rfl,hR2,hI2,hS2,hob2⟩
 ·cases h
def yN(P:Program)(M:Nat->List Nat)(f:Nat):Option bw:=
 match vM P M 0 true f with
 |some F=>if sn M=true/\F.res.length=1/\f<1000000 then some {F with res:=F.res++[.tmp 0]}else none
 |none=>none
def xd:∀ {rs:List ResultVar} {cs:List iG},kn P rs=some cs->kn P (rs++[.tmp 0])=some (cs++[.tmp 0])/\rs.length=cs.length
 | [],cs,h=>by simp only[kn,bB]at h;subst h;exact⟨rfl,rfl⟩
 |r::rs,cs,h=>by
  simp only[kn]at h;split at h
  ·rename_i c cs' h1 h2;simp only[bB]at h;subst h;obtain⟨h3,h4⟩:=xd h2;exact⟨by simp only[bo,kn,h1,h3],by simp[h4]⟩
  ·cases h
def Ez{fn:Func}(h1:fn.results.size=1){tmps:Array Value}{w:World}{v:Value}(h:(results {fn with results:=fn.results.push (.tmp 0)} tmps).run P w= .ok v w):
  ∃ u,(results fn tmps).run P w= .ok u w/\v= .tuple #[u,tmps.getD 0 undef]:=by
 obtain⟨r0,hr0⟩:∃ r0,fn.results= #[r0]:=by
  cases hl:fn.results with
  |mk l=>
   rw[hl]at h1
   match l,h1 with
   | [r0],_=>exact⟨r0,rfl⟩
 rw[s7]at h ⊢;simp only[hr0]at h ⊢;rw[Array.mapM_eq_mapM_toList]at h ⊢;have h00:sD tmps (.tmp 0)=pure (tmps.getD 0 undef):=rfl;simp only[List.push_toArray,List.mapM_cons,List.mapM_nil,bo,aU,h00]at h ⊢;generalize sD tmps r0=X at h ⊢;cases hr:X.run P w with
 |ok u w1=>
  simp[hr]at h ⊢;obtain⟨h2,h3⟩:=h;subst h3;exact⟨u,by simp,h2.symm⟩
 |_=>simp[hr]at h
def Kp{M:Nat->List Nat}(hcf:jD P B cf)(hmix:P.follows .mixedOrders=true)(N:Nat){f:Nat}{F:bw}(hc:yN P M f=some F){as:List PV}{ns0:List Nat}{cs:List (List PV)}{r:PV}{ns:List Nat}{cs':List (List PV)}(h:gr cf N F as ns0 cs=some (r,ns,cs')):
  mg P (sS (mI f))/\cs'.length=cs.length/\np r=true/\(∀ c∈cs',aX c=true)/\
  ∀ G w (vs:List Value),bM P B G (bV ns0 cs) w->as.length=vs.length->(∀ (j:Nat) p v,as[j]? =some p->vs[j]? =some v->R G p v/\cO p=true)->
   Calls P (sS (mI f)) vs.toArray w fun e w'=>∃ v G',rG (mI f) vs v e/\R G' r v/\bM P B G' (bV ns cs') w'/\cQ G w G' w'/\G'.ob=G.ob/\∀ k,k<cs.length->G'.oe k=G.oe k:=by
 unfold yN at hc;split at hc
 ·rename_i F0 hc0;split at hc
  ·rename_i hk;obtain⟨hkp,hr1,hf6⟩:=hk;cases hc;obtain⟨fn,c,hfn,hname,hbody,hnt,hcode,hres⟩:=Dt hc0;obtain⟨hresp,hlen⟩:=xd hres;have hE:mg P f:=⟨fn,hfn,hname,by rw[hbody];rfl⟩;rw[Dn hf6];unfold gr at h;split at h
   ·rename_i hb;obtain⟨hb1,hb2⟩:=hb;have key:∃ e y,ev cf N F0.body (eM as,bV ns0 cs)=some (e,y)/\(e= .go\/e= .ret)/\im {F0 with res:=F0.res++[.tmp 0]} cs.length y.1 y.2=some (r,ns,cs'):=by
     split at h
     ·rename_i y hy;exact⟨.go,y,hy,.inl rfl,h⟩
     ·rename_i y hy;exact⟨.ret,y,hy,.inr rfl,h⟩
     ·cases h
    obtain⟨e,y,hev,he,hfin⟩:=key;obtain⟨h1,h2,h3⟩:=x8 hfin;refine⟨hE,h1,h2,h3,fun G w vs hI hl hR=>?_⟩;refine calls_of_wp hfn hbody ?_;rw[<-hnt];refine Bw hcf hmix N c hcode hev hI (Hy hl hb1 hR) fun a' w' G' hI' hS' hF' hd' hk'=>?_;obtain⟨v,G2,hrun,hR2,hI2,hS2,hob2⟩:=x6 (fn:={fn with results:=fn.results.push (.tmp 0)}) (F:={F0 with res:=F0.res++[.tmp 0]}) (by simpa using hresp) hb2 hI hI' hS' hF' hk' hfin;obtain⟨u,hu,hv⟩:=Ez (by rw[<-fh,hlen];exact hr1) hrun;have h0:a'.tmps.getD 0 undef=vs.getD 0 undef:=by
     rw[hd'.2 hkp];cases vs with
     |nil=>
      simp only[List.getD_nil];rw[bT];simp only[ky,a6,Nat.sub_zero,Array.empty_append,lC];split<;>rfl
     |cons v0 vs=>
      rw[bT,nY (by simp)];simp
    rw[h0]at hv;rcases he with rfl|rfl
    ·exact⟨hd'.1,u,hu,v,G2,wY.2 ⟨u,rfl,hv⟩,hR2,hI2,hS2,hob2⟩
    ·exact⟨hd'.1,u,hu,v,G2,wY.2 ⟨u,rfl,hv⟩,hR2,hI2,hS2,hob2⟩
   ·cases h
  ·cases hc
 ·cases hc
end
def AH{c c':aJ}(h:pI c c'){n n':Nat}(hn:n<=n'){F:bw}{as:List PV}{ns:List Nat}{cs:List (List PV)}{r}(hr:gr c n F as ns cs=some r):gr c' n' F as ns cs=some r:=by
 unfold gr at hr ⊢;split at hr
 ·rename_i hb;rw[am hb];split at hr
  ·rename_i y hy;rw[vK h hn _ hy];exact hr
  ·rename_i y hy;rw[vK h hn _ hy];exact hr
  ·cases hr
 ·cases hr
def Iq{c:Nat->aJ}{lim:aJ}(h:qd c lim){N:Nat}{F:bw}{as:List PV}{ns:List Nat}{cs:List (List PV)}{r}(hr:gr lim N F as ns cs=some r):∃ n,gr (c n) N F as ns cs=some r:=by
 unfold gr at hr ⊢;split at hr
 ·rename_i hb;split at hr
  ·rename_i y hy;obtain⟨n,hn⟩:=HA h N _ hy;exact⟨n,by rw[am hb,hn];exact hr⟩
  ·rename_i y hy;obtain⟨n,hn⟩:=HA h N _ hy;exact⟨n,by rw[am hb,hn];exact hr⟩
  ·cases hr
 ·cases hr
section
variable (T:Nat->Option bw) (pr:aJ)
def mG:Nat->aJ
 |0=>pr
 |n+1=>fun f as ns cs=>match pr f as ns cs with
  |some r=>some r
  |none=>match T f with
   |some F=>gr (mG n) n F as ns cs
   |none=>none
def Fw{n:Nat}{f:Nat}{as:List PV}{ns:List Nat}{cs:List (List PV)}{r}(h:pr f as ns cs=some r):mG T pr n f as ns cs=some r:=by
 cases n with
 |zero=>exact h
 |succ n=>simp only[mG,h]
def Ad:∀ (n:Nat),pI (mG T pr n) (mG T pr (n+1))
 |0=>fun f as ns cs r h=>Fw T pr h
 |n+1=>fun f as ns cs r h=>by
  simp only[mG]at h;cases hp:pr f as ns cs with
  |some q=>
   rw[hp]at h;cases h;exact Fw T pr hp
  |none=>
   rw[hp]at h;rw[mG];simp only[hp];cases ht:T f with
   |none=>rw[ht]at h;cases h
   |some F=>
    rw[ht]at h;simp only at h ⊢;exact AH (Ad n) (Nat.le_succ n) h
def Af{n m:Nat}(h:n<=m):pI (mG T pr n) (mG T pr m):=by
 induction h with
 |refl=>exact pI.refl _
 |step _ ih=>exact ih.trans (Ad T pr _)
noncomputable def uY:aJ:=fun f as ns cs=>open Classical in if h:∃ r n,mG T pr n f as ns cs=some r then some h.choose else none
def uX{f:Nat}{as:List PV}{ns:List Nat}{cs:List (List PV)}{r}:uY T pr f as ns cs=some r↔∃ n,mG T pr n f as ns cs=some r:=by
 unfold uY;constructor
 ·intro h;split at h
  ·rename_i hx;cases h;exact hx.choose_spec
  ·cases h
 ·rintro⟨n,hn⟩;have hx:∃ r n,mG T pr n f as ns cs=some r:=⟨r,n,hn⟩;rw[dif_pos hx];obtain⟨m,hm⟩:=hx.choose_spec;have h1:=Af T pr (jv n m) _ _ _ _ _ hn;have h2:=Af T pr (lx n m) _ _ _ _ _ hm;rw[h1]at h2;rw[h2]
def Pk:qd (mG T pr) (uY T pr):=⟨Ad T pr,fun _ _ _ _ _ h=>(uX T pr).1 h⟩
def Mz{f:Nat}{F:bw}(ht:T f=some F){as:List PV}{ns:List Nat}{cs:List (List PV)}{r}(hp:pr f as ns cs=none)(N:Nat)(h:gr (uY T pr) N F as ns cs=some r):uY T pr f as ns cs=some r:=by
 obtain⟨n,hn⟩:=Iq (Pk T pr) h;refine(uX T pr).2 ⟨max n N+1,?_⟩;simp only[mG,hp,ht];exact AH (Af T pr (jv n N)) (lx n N) hn
def uh{f:Nat}{as:List PV}{ns:List Nat}{cs:List (List PV)}{r}(h:pr f as ns cs=some r):uY T pr f as ns cs=some r:=(uX T pr).2 ⟨0,h⟩
def Cv(P:Program):Prop:=∀ f F,T f=some F->(f<1000000/\∃ M nk own,vM P M nk own f=some F)\/∃ M f0,f=mI f0/\yN P M f0=some F
def Ae(hmix:P.follows .mixedOrders=true)(hT:Cv T P)(hpr:jD P B pr):∀ n,jD P B (mG T pr n)
 |0=>hpr
 |n+1=>by
  intro f as ns cs r rs cs' h;simp only[mG]at h;cases hp:pr f as ns cs with
  |some q=>
   rw[hp]at h;cases h;exact hpr f as ns cs r rs cs' hp
  |none=>
   rw[hp]at h;simp only at h;cases ht:T f with
   |none=>rw[ht]at h;cases h
   |some F=>
    rw[ht]at h;rcases hT f F ht with⟨hf,M,nk,own,hF⟩|⟨M,f0,hf,hF⟩
    ·have hs:=Mj (Ae hmix hT hpr n) hmix n hF as ns cs r rs cs' h;rw[pq hf];exact⟨hs.1,hs.2.1,hs.2.2.1,hs.2.2.2.1,fun G w vs h1 h2 h3=>(hs.2.2.2.2 G w vs h1 h2 h3).mono fun e w' hx=>hx.elim fun v hx=>hx.elim fun G' hx=>⟨v,G',(oZ hf).2 hx.1,hx.2⟩⟩
    ·subst hf;exact Kp (Ae hmix hT hpr n) hmix n hF h
def My(hmix:P.follows .mixedOrders=true)(hT:Cv T P)(hpr:jD P B pr):jD P B (uY T pr):=by
 intro f as ns cs r rs cs' h;obtain⟨n,hn⟩:=(uX T pr).1 h;exact Ae T pr hmix hT hpr n f as ns cs r rs cs' hn
end
end Go.PM
namespace Go.PM
def Wp(cf:aJ)(N:Nat)(c:CC)(x:Fr×St)(Q:Ex->Fr×St->Prop):Prop:=∃ e y,ev cf N c x=some (e,y)/\Q e y
def WO(cf:aJ)(os:List cW)(x:Fr×St)(K:Fr×St->Prop):Prop:=∃ y,jl cf os x=some y/\K y
def mh(c A B:Prop):Prop:=(c->A)/\(¬c->B)
def eG{α:Type}(f:α->Prop)(x:α):Prop:=f x
def M8{α:Type}{f:α->Prop}{x:α}{B:Prop}:mh True (eG f x) B↔f x:=by simp[mh,eG]
def Lj{α:Type}{f:α->Prop}{x:α}{A:Prop}:mh False A (eG f x)↔f x:=by simp[mh,eG]
def af{α β:Type}{f:α->Prop}{x:α}{g:β->Prop}{y:β}{c:Prop}(h:c->f x)(k:¬c->g y):mh c (eG f x) (eG g y):=⟨h,k⟩
def OO{c A B:Prop}:mh (¬c) A B↔mh c B A:=by
 by_cases h:c<;>simp[mh,h]
def later{α:Type}{f:α->Prop}{x:α}(h:f x):eG f x:=h
def sB(A:Fr×St->Prop)(Q:Ex->Fr×St->Prop):Ex->Fr×St->Prop
 | .go,y=>A y
 |e,y=>Q e y
def mY(id:Nat)(Q:Ex->Fr×St->Prop):Ex->Fr×St->Prop
 | .exit i,y=>mh (i=id) (eG (Q .go) y) (eG (Q (.exit i)) y)
 |e,y=>Q e y
def Np(p:PV)(A B:Prop):Prop:=match p with
 | .bool b=>mh (b=true) A B
 |_=>False
def DF(p:PV)(b:Bool)(A B:Prop):Prop:=match p with
 | .bool b'=>mh (b'=b) A B
 | .hole=>B
 |_=>False
def dj(o:Option (PV×St))(mk:PV->St->Fr×St)(A:Fr×St->Prop):Prop:=∃ v st,o=some (v,st)/\A (mk v st)
def fg{v:PV}{st:St}{mk:PV->St->Fr×St}{A:Fr×St->Prop}:dj (some (v,st)) mk A↔A (mk v st):=⟨fun⟨_,_,h,k⟩=>by cases h;exact k,fun h=>⟨_,_,rfl,h⟩⟩
section
variable {cf:aJ} {N:Nat} {fr:Fr} {st:St}
def OH{Q:Ex->Fr×St->Prop}:Wp cf N .skip (fr,st) Q↔Q .go (fr,st):=⟨fun⟨_,_,h,hq⟩=>by cases h;exact hq,fun h=>⟨_,_,rfl,h⟩⟩
def OL{id:Nat}{Q:Ex->Fr×St->Prop}:Wp cf N (.exit id) (fr,st) Q↔Q (.exit id) (fr,st):=⟨fun⟨_,_,h,hq⟩=>by cases h;exact hq,fun h=>⟨_,_,rfl,h⟩⟩
def Qb{Q:Ex->Fr×St->Prop}:Wp cf N .ret (fr,st) Q↔Q .ret (fr,st):=⟨fun⟨_,_,h,hq⟩=>by cases h;exact hq,fun h=>⟨_,_,rfl,h⟩⟩
def OI{a b:CC}{x:Fr×St}{Q:Ex->Fr×St->Prop}:Wp cf N (.seq a b) x Q↔Wp cf N a x (sB (fun y=>Wp cf N b y Q) Q):=by
 unfold Wp;simp only[ev];constructor
 ·rintro⟨e,y,h,hq⟩;split at h
  ·rename_i z hz;exact⟨.go,z,hz,e,y,h,hq⟩
  ·rename_i hne;refine⟨e,y,h,?_⟩;cases e with
   |go=>exact absurd h (hne y)
   |exit i=>exact hq
   |ret=>exact hq
 ·rintro⟨e,y,h,hq⟩;rw[h];cases e with
  |go=>exact hq
  |exit i=>exact⟨_,_,rfl,hq⟩
  |ret=>exact⟨_,_,rfl,hq⟩
def Qa{a b:CC}{Q:Ex->Fr×St->Prop}:Wp cf N (.seq a b) (fr,st) Q↔Wp cf N a (fr,st) (sB (fun y=>Wp cf N b y Q) Q):=OI
def Qc{os:List cW}{Q:Ex->Fr×St->Prop}:Wp cf N (.reg os []) (fr,st) Q↔WO cf os (fr,st) (Q .go):=by
 unfold Wp WO;simp only[ev,tN];constructor
 ·rintro⟨e,y,h,hq⟩;simp only[av,cL]at h;obtain⟨z,hz,rfl,rfl⟩:=h;exact⟨z,hz,hq⟩
 ·rintro⟨y,h,hq⟩;exact⟨.go,y,by rw[h];rfl,hq⟩
def OM{c:CX}{a b:CC}{Q:Ex->Fr×St->Prop}:Wp cf N (.cond c a b) (fr,st) Q↔Np (c.ev fr) (eG (fun y=>Wp cf N a y Q) (fr,st)) (eG (fun y=>Wp cf N b y Q) (fr,st)):=by
 unfold Wp Np;simp only[ev];generalize c.ev fr=p;have no:∀ {o:Option (Ex×Fr×St)},o=none->¬ ∃ e y,o=some (e,y)/\Q e y:=by
  rintro o rfl ⟨e,y,h,_⟩;cases h
 cases p with
 |bool b=>
  cases b with
  |true=>exact⟨fun h=>⟨fun _=>h,fun h=>absurd rfl h⟩,fun h=>h.1 rfl⟩
  |false=>exact⟨fun h=>⟨fun h=>(by cases h),fun _=>h⟩,fun h=>h.2 (by simp)⟩
 |_=>exact⟨fun h=>absurd h (no rfl),fun h=>h.elim⟩
def Lc{id:Nat}{c:CC}{x:Fr×St}{Q:Ex->Fr×St->Prop}:Wp cf N (.block id c) x Q↔Wp cf N c x (mY id Q):=by
 unfold Wp;simp only[ev];constructor
 ·rintro⟨e,y,h,hq⟩;split at h
  ·rename_i i z hz;refine⟨.exit i,z,hz,?_⟩;simp only[mY,mh];split at h
   ·rename_i hi;cases h;exact⟨fun _=>hq,fun h=>absurd hi h⟩
   ·rename_i hi;cases h;exact⟨fun h=>absurd h hi,fun _=>hq⟩
  ·rename_i hne;refine⟨e,y,h,?_⟩;cases e with
   |go=>exact hq
   |exit i=>exact absurd h (hne i y)
   |ret=>exact hq
 ·rintro⟨e,y,h,hq⟩;rw[h];cases e with
  |go=>exact⟨_,_,rfl,hq⟩
  |ret=>exact⟨_,_,rfl,hq⟩
  |exit i=>
   simp only[mY,mh]at hq;simp only;split
   ·rename_i hi;exact⟨_,_,rfl,hq.1 hi⟩
   ·rename_i hi;exact⟨_,_,rfl,hq.2 hi⟩
def M0{id:Nat}{c:CC}{Q:Ex->Fr×St->Prop}:Wp cf N (.block id c) (fr,st) Q↔Wp cf N c (fr,st) (mY id Q):=Lc
def OK{c:CC}{Q:Ex->Fr×St->Prop}(I:Nat->Fr×St->Prop)(hs:∀ k fr st,I k (fr,st)->Wp cf N c (fr,st) (sB (fun y=>∃ j,j<k/\I j y) Q)):
  ∀ (k:Nat) (x:Fr×St),k<N->I k x->Wp cf N (.loop c) x Q:=by
 have key:∀ (n k:Nat) (x:Fr×St),k<n->I k x->∃ e y,qm (ev cf N c) n x=some (e,y)/\Q e y:=by
  intro n
  induction n with
  |zero=>intro k x h;omega
  |succ n ih=>
   intro k x hk hx;obtain⟨fr,st⟩:=x;obtain⟨e,y,h,hq⟩:=hs k fr st hx;simp only[qm,h];cases e with
   |go=>
    obtain⟨j,hj,hy⟩:=hq;exact ih j y (by omega) hy
   |exit i=>exact⟨_,_,rfl,hq⟩
   |ret=>exact⟨_,_,rfl,hq⟩
 intro k x hk hx;exact key N k x hk hx
def a7{c:CC}{Q:Ex->Fr×St->Prop}(I:Nat->Fr->St->Prop)(k:Nat){fr:Fr}{st:St}(hk:k<N)(h0:I k fr st)(hs:∀ k fr st,I k fr st->Wp cf N c (fr,st) (sB (fun y=>∃ j,j<k/\I j y.1 y.2) Q)):
  Wp cf N (.loop c) (fr,st) Q:=
 OK (fun k x=>I k x.1 x.2) (fun k fr st h=>hs k fr st h) k (fr,st) hk h0
def Qd{K:Fr×St->Prop}:WO cf [] (fr,st) K↔K (fr,st):=by simp[WO,jl]
def Cu{d:Option Nat}{op:eV}{os:List cW}{K:Fr×St->Prop}:
  WO cf (⟨none,d,op⟩::os) (fr,st) K↔dj (aC cf fr st d op) (fun v st'=>(put (de cf op d st fr) d v,st')) (fun y=>WO cf os y K):=by
 unfold WO dj;simp only[jl,dF,eZ];constructor
 ·rintro⟨y,h,hk⟩;split at h
  ·rename_i z hz;split at hz
   ·rename_i v st' hr;cases hz;exact⟨v,st',hr,y,h,hk⟩
   ·cases hz
  ·cases h
 ·rintro⟨v,st',hr,y,h,hk⟩;exact⟨y,by rw[hr];exact h,hk⟩
def M1{s:Nat}{b:Bool}{d:Option Nat}{op:eV}{os:List cW}{K:Fr×St->Prop}:
  WO cf (⟨some (s,b),d,op⟩::os) (fr,st) K↔DF (fr s) b (eG (fun y=>WO cf (⟨none,d,op⟩::os) y K) (fr,st)) (eG (fun y=>WO cf os y K) (put fr d .hole,st)):=by
 simp only[eG,Cu];unfold WO dj DF;simp only[jl,dF,eZ];generalize fr s=p;have run:∀ {o:Option (PV×St)},(∃ y,(match (match o with|some (v,st')=>some (put (de cf op d st fr) d v,st')|none=>none)with|some y=>jl cf os y|none=>none)=some y/\K y)↔
   ∃ v st',o=some (v,st')/\∃ y,jl cf os (put (de cf op d st fr) d v,st')=some y/\K y:=by
  intro o;cases o with
  |none=>exact⟨fun⟨_,h,_⟩=>(by cases h),fun⟨_,_,h,_⟩=>(by cases h)⟩
  |some q=>exact⟨fun⟨y,h,hk⟩=>⟨q.1,q.2,rfl,y,h,hk⟩,fun⟨v,st',h,y,hy,hk⟩=>by cases h;exact⟨y,hy,hk⟩⟩
 cases p with
 |bool b'=>
  cases b<;>cases b'
  ·exact⟨fun h=>⟨fun _=>run.1 h,fun h=>absurd rfl h⟩,fun h=>run.2 (h.1 rfl)⟩
  ·exact⟨fun h=>⟨fun h=>(by cases h),fun _=>h⟩,fun h=>h.2 (by simp)⟩
  ·exact⟨fun h=>⟨fun h=>(by cases h),fun _=>h⟩,fun h=>h.2 (by simp)⟩
  ·exact⟨fun h=>⟨fun _=>run.1 h,fun h=>absurd rfl h⟩,fun h=>run.2 (h.1 rfl)⟩
 |hole=>exact Iff.rfl
 |_=>exact⟨fun⟨_,h,_⟩=>(by cases h),fun h=>h.elim⟩
end
def A8(s:Nat)(f:Fr):Fr:=fun t=>dZ s (f t)
def cA(st:St)(s:Nat)(c:List PV):St:={st with objs:=fun k=>if k=s then some c else st.objs k}
section
variable {cf:aJ} {fr:Fr} {st:St} {d:Option Nat}
end
@[reducible] def S (l:List UInt8):PV:= .str ⟨l.toArray⟩
@[reducible] def I (n:Int):PV:= .int .i64 n
@[reducible] def U (n:Int):PV:= .int .u8 n
def rL(l:List UInt8):(⟨l.toArray⟩:ByteArray).size=l.length:=by simp[ByteArray.size]
def yZ(s:ByteArray):∀ (n i:Nat) (acc:List UInt8),s.size-i=n->ByteArray.toList.loop s i acc=acc.reverse++s.data.toList.drop i
 |0,i,acc,h=>by
  unfold ByteArray.toList.loop;rw[ai (by omega),gX (by simp only[fh];change s.size<=i;omega)];simp
 |n+1,i,acc,h=>by
  unfold ByteArray.toList.loop;rw[am (by omega),yZ s n (i+1) _ (by omega)];have hi:i<s.data.toList.length:=by simp only[fh];change i<s.size;omega
  rw[bj hi];have:s.get! i=s.data.toList[i]:=by
   simp only[Array.getElem_toList];change s.data[i]! =_;rw[getElem!_pos]
  simp[this]
def Ge(s:ByteArray):s.toList=s.data.toList:=by
 unfold ByteArray.toList;rw[yZ s _ 0 [] rfl];simp
def qC(l:List UInt8):(⟨l.toArray⟩:ByteArray).toList=l:=by rw[Ge]
def dV{α:Type}(v:α):qK (pure v:Sem α)=some v:=rfl
def tC{α:Type}[DecidableEq α][BEq α][LawfulBEq α](a b:α):(a==b)=decide (a=b):=by
 rw[oy];simp
def d4:List UInt8->List UInt8->Bool:=Op.bytesLess
section
variable {a b:Int} {k:IntKind} {s t:List UInt8}
def QR:eq .lss (.int k a) (.int k b)=some (.bool (decide (a<b))):=by simp[eq,gp,binOp,Op.intCmp,dV,iJ]
def QS:eq .leq (.int k a) (.int k b)=some (.bool (decide (a<=b))):=by simp[eq,gp,binOp,Op.intCmp,dV,iJ]
def QT:eq .gtr (.int k a) (.int k b)=some (.bool (decide (b<a))):=by simp[eq,gp,binOp,Op.intCmp,dV,iJ]
def QU:eq .geq (.int k a) (.int k b)=some (.bool (decide (b<=a))):=by simp[eq,gp,binOp,Op.intCmp,dV,iJ]
def QV:eq .eql (.int k a) (.int k b)=some (.bool (decide (a=b))):=by simp[eq,gp,binOp,Op.intCmp,dV,iJ,tC]
def QP:eq .neq (.int k a) (.int k b)=some (.bool (decide (a≠b))):=by simp[eq,gp,binOp,Op.intCmp,dV,iJ,bne,tC]
def QW:eq .add (.int k a) (.int k b)=some (.int k (k.wrap (a+b))):=by simp[eq,gp,binOp,Op.intArith,dV,iJ]
def QO:eq .sub (.int k a) (.int k b)=some (.int k (k.wrap (a-b))):=by simp[eq,gp,binOp,Op.intArith,dV,iJ]
def QQ:eq .mul (.int k a) (.int k b)=some (.int k (k.wrap (a*b))):=by simp[eq,gp,binOp,Op.intArith,dV,iJ]
def Qw(h:s.length+t.length<=9223372036854775807):eq .add (S s) (S t)=some (S (s++t)):=by
 have h1:¬ ((9223372036854775807:Int)<((⟨s.toArray⟩:ByteArray).size:Int)+((⟨t.toArray⟩:ByteArray).size:Int)):=by
  rw[rL,rL];omega
 have h2:(⟨s.toArray⟩:ByteArray)++(⟨t.toArray⟩:ByteArray)=⟨(s++t).toArray⟩:=by
  apply ByteArray.ext;simp
 simp[eq,gp,binOp,Op.stringOp,h1,h2,dV,iJ]
def Qv:eq .eql (S s) (S t)=some (.bool (decide (s=t))):=by simp[eq,gp,binOp,Op.stringOp,qC,dV,iJ,tC]
def Qq:eq .neq (S s) (S t)=some (.bool (decide (s≠t))):=by simp[eq,gp,binOp,Op.stringOp,qC,dV,iJ,tC]
def Qr:eq .lss (S s) (S t)=some (.bool (d4 s t)):=by simp[eq,gp,binOp,Op.stringOp,qC,dV,iJ,d4]
def Qs:eq .leq (S s) (S t)=some (.bool (d4 s t||decide (s=t))):=by simp[eq,gp,binOp,Op.stringOp,qC,dV,iJ,d4,tC]
def Qt:eq .gtr (S s) (S t)=some (.bool !(d4 s t||decide (s=t))):=by simp[eq,gp,binOp,Op.stringOp,qC,dV,iJ,d4,tC]
def Qu:eq .geq (S s) (S t)=some (.bool !(d4 s t)):=by simp[eq,gp,binOp,Op.stringOp,qC,dV,iJ,d4]
def Qk{x:Bool}:w6 .not (.bool x)=some (.bool !x):=by simp[w6,gp,Op.unary,dV,iJ]
def Ql:w6 .neg (.int k a)=some (.int k (k.wrap (-a))):=by simp[w6,gp,Op.unary,Op.intArith,dV,iJ]
def wrap_i64(h1: -9223372036854775808<=a)(h2:a<=9223372036854775807):IntKind.i64.wrap a=a:=by
 have e1:IntKind.i64.bits=64:=rfl;have e2:IntKind.i64.signed=true:=rfl;simp only[IntKind.wrap,e1,e2,cH];split
 ·rename_i h;simp only[decide_eq_true_eq]at h;omega
 ·rename_i h;simp only[decide_eq_true_eq]at h;omega
def GL(h1:0<=a)(h2:a<=255):IntKind.u8.wrap a=a:=by
 have e1:IntKind.u8.bits=8:=rfl;have e2:IntKind.u8.signed=false:=rfl;simp only[IntKind.wrap,e1,e2,dO];simp;omega
end
def Q3:
  (∀ {cf:aJ} {N:Nat} {fr:Fr} {st:St} {Q:Ex->Fr×St->Prop},Wp cf N .skip (fr,st) Q↔Q .go (fr,st))/\
  (∀ {cf:aJ} {N:Nat} {fr:Fr} {st:St} {id:Nat} {Q:Ex->Fr×St->Prop},Wp cf N (.exit id) (fr,st) Q↔Q (.exit id) (fr,st))/\
  (∀ {cf:aJ} {N:Nat} {fr:Fr} {st:St} {Q:Ex->Fr×St->Prop},Wp cf N .ret (fr,st) Q↔Q .ret (fr,st))/\
  (∀ {cf:aJ} {N:Nat} {fr:Fr} {st:St} {a b:CC} {Q:Ex->Fr×St->Prop},Wp cf N (.seq a b) (fr,st) Q↔Wp cf N a (fr,st) (sB (fun y=>Wp cf N b y Q) Q))/\
  (∀ {cf:aJ} {N:Nat} {fr:Fr} {st:St} {os:List cW} {Q:Ex->Fr×St->Prop},Wp cf N (.reg os []) (fr,st) Q↔WO cf os (fr,st) (Q .go))/\
  (∀ {cf:aJ} {N:Nat} {fr:Fr} {st:St} {c:CX} {a b:CC} {Q:Ex->Fr×St->Prop},Wp cf N (.cond c a b) (fr,st) Q↔Np (c.ev fr) (eG (fun y=>Wp cf N a y Q) (fr,st)) (eG (fun y=>Wp cf N b y Q) (fr,st)))/\
  (∀ {cf:aJ} {N:Nat} {fr:Fr} {st:St} {id:Nat} {c:CC} {Q:Ex->Fr×St->Prop},Wp cf N (.block id c) (fr,st) Q↔Wp cf N c (fr,st) (mY id Q))/\
  (∀ {cf:aJ} {fr:Fr} {st:St} {K:Fr×St->Prop},WO cf [] (fr,st) K↔K (fr,st))/\
  (∀ {cf:aJ} {fr:Fr} {st:St} {d:Option Nat} {op:eV} {os:List cW} {K:Fr×St->Prop},WO cf (⟨none,d,op⟩::os) (fr,st) K↔dj (aC cf fr st d op) (fun v st'=>(put (de cf op d st fr) d v,st')) (fun y=>WO cf os y K))/\
  (∀ {cf:aJ} {fr:Fr} {st:St} {s:Nat} {b:Bool} {d:Option Nat} {op:eV} {os:List cW} {K:Fr×St->Prop},WO cf (⟨some (s,b),d,op⟩::os) (fr,st) K↔DF (fr s) b (eG (fun y=>WO cf (⟨none,d,op⟩::os) y K) (fr,st)) (eG (fun y=>WO cf os y K) (put fr d .hole,st)))/\
  (∀ {A:Fr×St->Prop} {Q:Ex->Fr×St->Prop} {y:Fr×St},sB A Q .go y↔A y)/\
  (∀ {A:Fr×St->Prop} {Q:Ex->Fr×St->Prop} {i:Nat} {y:Fr×St},sB A Q (.exit i) y↔Q (.exit i) y)/\
  (∀ {A:Fr×St->Prop} {Q:Ex->Fr×St->Prop} {y:Fr×St},sB A Q .ret y↔Q .ret y)/\
  (∀ {id:Nat} {Q:Ex->Fr×St->Prop} {y:Fr×St},mY id Q .go y↔Q .go y)/\
  (∀ {id:Nat} {Q:Ex->Fr×St->Prop} {y:Fr×St},mY id Q .ret y↔Q .ret y)/\
  (∀ {id i:Nat} {Q:Ex->Fr×St->Prop} {y:Fr×St},mY id Q (.exit i) y↔mh (i=id) (eG (Q .go) y) (eG (Q (.exit i)) y))/\
  (∀ {v:PV} {st:St} {mk:PV->St->Fr×St} {A:Fr×St->Prop},dj (some (v,st)) mk A↔A (mk v st))/\
  (∀ {b:Bool} {A B:Prop},Np (.bool b) A B↔mh (b=true) A B)/\
  (∀ {b b':Bool} {A B:Prop},DF (.bool b') b A B↔mh (b'=b) A B)/\
  (∀ {f:Fr×St->Prop} {x:Fr×St} {b:Bool} {A:Prop},DF .hole b A (eG f x)↔f x)/\
  (∀ {f:Fr×St->Prop} {x:Fr×St} {B:Prop},mh True (eG f x) B↔f x)/\
  (∀ {f:Fr×St->Prop} {x:Fr×St} {A:Prop},mh False A (eG f x)↔f x)/\
  (∀ {c A B:Prop},mh (¬c) A B↔mh c B A)/\
  (∀ {fr:Fr} {n:Nat},CX.ev fr (.sl n)=fr n)/\
  (∀ {fr:Fr} {p:PV},CX.ev fr (.k p)=p)/\
  (∀ {f:Fr} {d:Nat} {v:PV},put f (some d) v=yY f d v)/\
  (∀ {f:Fr} {v:PV},put f none v=f)/\
  (∀ {f:Fr} {d:Nat} {v:PV} {t:Nat},yY f d v t=if t=d then v else f t)/\
  (∀ {s:Nat} {f:Fr} {t:Nat},A8 s f t=dZ s (f t))/\
  (∀ {p:PV} {ps:List PV},eM (p::ps) 0=p)/\
  (∀ {p:PV} {ps:List PV} {n:Nat},eM (p::ps) (n+1)=eM ps n):=
 ⟨OH,OL,Qb,Qa,Qc,OM,M0,Qd,Cu,M1,Iff.rfl,Iff.rfl,Iff.rfl,Iff.rfl,Iff.rfl,Iff.rfl,fg,Iff.rfl,Iff.rfl,Iff.rfl,M8,Lj,OO,rfl,rfl,rfl,rfl,rfl,rfl,rfl,rfl⟩
def Q8:
  (∀ {cf:aJ} {st:St} {fr:Fr} {d:Option Nat} {x:CX},de cf (.mv x) d st fr=fr)/\(∀ {cf:aJ} {st:St} {fr:Fr} {d:Option Nat} {a b c:CX},de cf (.pick a b c) d st fr=fr)/\(∀ {cf:aJ} {st:St} {fr:Fr} {zs:List PV} {s:Nat},de cf (.alloc zs) (some s) st fr=A8 s fr)/\(∀ {cf:aJ} {st:St} {fr:Fr} {n s:Nat} {x:CX},de cf (.box n x) (some s) st fr=A8 s fr)/\
  (∀ {cf:aJ} {st:St} {fr:Fr} {d:Option Nat} {zs:List PV} {ps:List (Nat×Nat×CX)},de cf (.build zs ps) d st fr=fr)/\(∀ {cf:aJ} {st:St} {fr:Fr} {d:Option Nat} {e sz n:Nat} {zs:List PV} {ps:List (Nat×Nat×CX)},de cf (.bsl e sz zs n ps) d st fr=fr)/\(∀ {cf:aJ} {st:St} {fr:Fr} {d:Option Nat} {sz:Nat} {ag:Bool} {x:CX},de cf (.load sz ag x) d st fr=fr)/\
  (∀ {cf:aJ} {st:St} {fr:Fr} {d:Option Nat} {sz:Nat} {a x:CX},de cf (.store sz a x) d st fr=fr)/\(∀ {cf:aJ} {st:St} {fr:Fr} {d:Option Nat} {x:CX},de cf (.nck x) d st fr=fr)/\(∀ {cf:aJ} {st:St} {fr:Fr} {d:Option Nat} {op:BinOp} {x y:CX},de cf (.bin op x y) d st fr=fr)/\(∀ {cf:aJ} {st:St} {fr:Fr} {d:Option Nat} {b:Bool} {x:CX},de cf (.isnil b x) d st fr=fr)/\(∀ {cf:aJ} {st:St} {fr:Fr} {d:Option Nat} {b:Bool} {x y:CX},de cf (.beq b x y) d st fr=fr)/\
  (∀ {cf:aJ} {st:St} {fr:Fr} {d:Option Nat} {op:UnOp} {x:CX},de cf (.un op x) d st fr=fr)/\(∀ {cf:aJ} {st:St} {fr:Fr} {d:Option Nat} {k:IntKind} {x:CX},de cf (.toInt k x) d st fr=fr)/\(∀ {cf:aJ} {st:St} {fr:Fr} {d:Option Nat} {x:CX},de cf (.s2s x) d st fr=fr)/\(∀ {cf:aJ} {st:St} {fr:Fr} {d:Option Nat} {x:CX} {i:Nat},de cf (.ext x i) d st fr=fr)/\(∀ {cf:aJ} {st:St} {fr:Fr} {d:Option Nat} {x:CX} {i:Nat},de cf (.fad i x) d st fr=fr)/\
  (∀ {cf:aJ} {st:St} {fr:Fr} {d:Option Nat} {o sz:Nat} {ag:Bool} {x:CX},de cf (.fld o sz ag x) d st fr=fr)/\(∀ {cf:aJ} {st:St} {fr:Fr} {d:Option Nat} {sz:Nat} {x i:CX},de cf (.iad sz x i) d st fr=fr)/\(∀ {cf:aJ} {st:St} {fr:Fr} {d:Option Nat} {x i:CX},de cf (.sidx x i) d st fr=fr)/\(∀ {cf:aJ} {st:St} {fr:Fr} {d:Option Nat} {x:CX} {l h:Option CX},de cf (.ssl x l h) d st fr=fr)/\(∀ {cf:aJ} {st:St} {fr:Fr} {d:Option Nat} {sz:Nat} {x:CX} {l h:Option CX},de cf (.slc sz x l h) d st fr=fr)/\
  (∀ {cf:aJ} {st:St} {fr:Fr} {e sz b s:Nat} {zs:List PV} {n c:CX},de cf (.mks e sz b zs n c) (some s) st fr=A8 s fr)/\(∀ {cf:aJ} {st:St} {fr:Fr} {d:Option Nat} {e sz b:Nat} {n c:CX},de cf (.mk0 e sz b n c) d st fr=fr)/\(∀ {cf:aJ} {st:St} {fr:Fr} {d:Option Nat} {x:CX},de cf (.slen x) d st fr=fr)/\(∀ {cf:aJ} {st:St} {fr:Fr} {d:Option Nat} {x:CX},de cf (.len x) d st fr=fr)/\(∀ {cf:aJ} {st:St} {fr:Fr} {d:Option Nat} {e sz b:Nat} {x y:CX},de cf (.app e sz b x y) d st fr=fr)/\
  (∀ {cf:aJ} {st:St} {fr:Fr} {d:Option Nat} {x:CX},de cf (.b2s x) d st fr=fr)/\(∀ {cf:aJ} {st:St} {fr:Fr} {d:Option Nat} {f:Nat} {as:List CX},de cf (.mkfn f as) d st fr=fr)/\(∀ {cf:aJ} {st:St} {fr:Fr} {s:Nat},de cf .mkmap (some s) st fr=A8 s fr)/\(∀ {cf:aJ} {st:St} {fr:Fr} {d:Option Nat} {kk:Nat} {m k v:CX},de cf (.mpset kk m k v) d st fr=fr)/\(∀ {cf:aJ} {st:St} {fr:Fr} {d:Option Nat} {b:Bool} {z:PV} {kk:Nat} {m k:CX},de cf (.mpget b z kk m k) d st fr=fr)/\(∀ {cf:aJ} {st:St} {fr:Fr} {d:Option Nat} {m:CX},de cf (.mplen m) d st fr=fr)/\
  (∀ {cf:aJ} {st:St} {fr:Fr} {d:Option Nat} {f:Nat} {as:List CX},de cf (.call f as []) d st fr=fr)/\(∀ {cf:aJ} {st:St} {fr:Fr} {d:Option Nat} {f:CX} {as:List CX},de cf (.cval f as) d st fr=fr):=by
 refine⟨?_,?_,?_,?_,?_,?_,?_,?_,?_,?_,?_,?_,?_,?_,?_,?_,?_,?_,?_,?_,?_,?_,?_,?_,?_,?_,?_,?_,?_,?_,?_,?_,?_,?_,?_⟩<;>intros<;>first|rfl|(rename_i d _;cases d<;>rfl)|(rename_i d _ _;cases d<;>rfl)|(rename_i d _ _ _;cases d<;>rfl)|(rename_i d _ _ _ _;cases d<;>rfl)|(rename_i d _ _ _ _ _;cases d<;>rfl)
def Q5:(∀ {s:Nat} {k:IntKind} {n:Int},dZ s (.int k n)= .int k n)/\(∀ {s:Nat} {b:Bool},dZ s (.bool b)= .bool b)/\(∀ {s:Nat} {t:ByteArray},dZ s (.str t)= .str t)/\(∀ {s:Nat} {n:Nat} {cs:List PV} {t:aF},dZ s (.list n cs t)= .list n cs t)/\(∀ {s:Nat} {cs:List PV},dZ s (.agg cs)= .agg cs)/\(∀ {s:Nat} {cs:List PV},dZ s (.tup cs)= .tup cs)/\
  (∀ {s:Nat} {cs:List PV} {n:Nat} {t:aF},dZ s (.iptr cs n t)= .iptr cs n t)/\(∀ {s:Nat} {k o:Nat},dZ s (.ptr k o)=if k=s then .any else .ptr k o)/\(∀ {s:Nat} {e sz k n:Nat},dZ s (.osl e sz k n)=if k=s then .any else .osl e sz k n)/\(∀ {s:Nat} {k:Nat},dZ s (.mp k)=if k=s then .any else .mp k)/\
  (∀ {s:Nat},dZ s .hole= .hole)/\(∀ {s:Nat},dZ s .any= .any)/\(∀ {s:Nat},dZ s .nili= .nili)/\(∀ {s:Nat},dZ s .err= .err)/\(∀ {s:Nat},dZ s .nilp= .nilp)/\(∀ {s:Nat} {f:Nat},dZ s (.fn f [])= .fn f []):=
 ⟨rfl,rfl,rfl,rfl,rfl,rfl,rfl,rfl,rfl,rfl,rfl,rfl,rfl,rfl,rfl,rfl⟩
def Q6:
  (∀ {cf:aJ} {fr:Fr} {st:St} {d:Option Nat} {x:CX},aC cf fr st d (.mv x)=some (x.ev fr,st))/\
  (∀ {cf:aJ} {fr:Fr} {st:St} {zs:List PV} {s:Nat},aC cf fr st (some s) (.alloc zs)=some (.ptr s 0,cA st s zs))/\
  (∀ {cf:aJ} {fr:Fr} {st:St} {d:Option Nat} {op:BinOp} {x y:CX},aC cf fr st d (.bin op x y)=(eq op (x.ev fr) (y.ev fr)).map fun p=>(p,st))/\
  (∀ {cf:aJ} {fr:Fr} {st:St} {d:Option Nat} {op:UnOp} {x:CX},aC cf fr st d (.un op x)=(w6 op (x.ev fr)).map fun p=>(p,st))/\
  (∀ {cf:aJ} {fr:Fr} {st:St} {d:Option Nat} {f:Nat} {as:List CX} {mv:List Nat},aC cf fr st d (.call f as mv)=az cf f (as.map (·.ev fr)) mv st)/\
  (∀ {cf:aJ} {fr:Fr} {st:St} {n s:Nat} {x:CX},aC cf fr st (some s) (.box n x)=match cellsOf (x.ev fr)with|some cs=>if cs.length=n then some (.ptr s 0,cA st s cs)else none|none=>none):=
 ⟨rfl,rfl,rfl,rfl,rfl,by intros;simp only[aC];cases cellsOf _<;>rfl⟩
def bF(p:PV):Bool:=np p && match p with| .ptr .. =>false|_=>true
def eY:∀ {as:List PV},as.all bF=true->dw as=some []
 | [],_=>rfl
 |a::as,h=>by
  simp only[cT,aj]at h;have ih:=eY h.2;have hn:np a=true:=by have:=h.1;simp only[bF,aj]at this;exact this.1
  cases a with
  |ptr s o=>simp[bF]at h
  |_=>simp only[dw,hn,ih,if_true]
def jT:∀ {as:List PV} (i n:Nat),as.all bF=true->fe [] [] i n as=as.map aO
 | [],_,_,_=>rfl
 |a::as,i,n,h=>by
  simp only[cT,aj]at h;cases a with
  |ptr s o=>simp[bF]at h
  |_=>simp[fe,jT (i+1) n h.2]
def p4{cf:aJ}{f:Nat}{as:List PV}{st:St}(h:as.all bF=true){r:PV}{ns:List Nat}(hc:cf f (as.map aO) [] []=some (r,ns,[])):
  az cf f as [] st=some (ren (fun k=>some (st.nx+k)) false r,{st.more ns with fl:=if fU r||(nU f && as.all (tf fun _=>true))then st.fl else st.nx}):=by
 have hf:oo f as []=(nU f && as.all (tf fun _=>true)):=by simp[oo]
 simp only[az,eY h,dz,jT 0 0 h,cJ,hc,a6,if_true,fx,dd,bv,hf];congr 2;cases ns<;>rfl
def KJ{cf:aJ}{f:Nat}{as as':List PV}{st:St}(h:as.all bF=true)(ha:as.map aO=as'){r:PV}(hc:cf f as' [] []=some (r,[],[]))(hr:ren (fun k=>some (st.nx+k)) false r=r)(hcl:fU r=true):
  az cf f as [] st=some (r,st):=by
 rw[p4 h (by rw[ha];exact hc),hr,hcl];rfl
def cI(l:List UInt8)(i:Nat):Int:=(l.getD i 0).toNat
def DY(x i:PV)(st:St):Option (PV×St):=match x,i with
 | .str s,.int _ j=>if h:0<=j/\j.toNat<s.size then some (.int .u8 (s[j.toNat]'h.2).toNat,st)else none
 |_,_=>none
def Lq{l:List UInt8}{j:Int}{st:St}(h0:0<=j)(h1:j.toNat<l.length):DY (S l) (I j) st=some (U (cI l j.toNat),st):=by
 simp only[DY];rw[dif_pos ⟨h0,by rw[rL];exact h1⟩];simp[cI,h1];rfl
def rJ(x:PV)(lo hi:Option PV)(st:St):Option (PV×St):=match x with
 | .str s=>match (match (match hi with|some x=>kx x s.size|none=>some s.size)with
   |none=>none
   |some h=>match (match lo with|some x=>kx x h|none=>some 0)with
    |none=>none
    |some l=>some (l,h))with
  |some (l,h)=>some (.str (s.extract l h),st)
  |none=>none
 |_=>none
def u4{k:IntKind}{j:Int}{n:Nat}(h0:0<=j)(h1:j<=(n:Int)):kx (.int k j) n=some j.toNat:=by simp[kx,h0,h1]
def wC(l:List UInt8)(a b:Nat):(⟨l.toArray⟩:ByteArray).extract a b=⟨((l.take b).drop a).toArray⟩:=by
 apply ByteArray.ext;simp[ByteArray.data_extract,List.drop_take]
def Nz{l:List UInt8}{j:Int}{st:St}(h0:0<=j)(h1:j<=(l.length:Int)):rJ (S l) (some (I j)) none st=some (S (l.drop j.toNat),st):=by
 simp only[rJ,rL,u4 h0 h1,wC,ly]
def NA{l:List UInt8}{j:Int}{st:St}(h0:0<=j)(h1:j<=(l.length:Int)):rJ (S l) none (some (I j)) st=some (S (l.take j.toNat),st):=by
 simp only[rJ,rL,u4 h0 h1,wC,pF]
def Jy{l:List UInt8}{a b:Int}{st:St}(h0:0<=a)(h1:a<=b)(h2:b<=(l.length:Int)):rJ (S l) (some (I a)) (some (I b)) st=some (S ((l.take b.toNat).drop a.toNat),st):=by
 have h3:a<=(b.toNat:Int):=by omega
 simp only[rJ,rL,u4 (show 0<=b by omega) h2,u4 h0 h3,wC]
def AX(sz:Nat)(ag:Bool)(a:PV)(st:St):Option (PV×St):=match a with
 | .ptr s off=>match st.objs s with
  |some cs=>(bL cs off sz ag).map fun p=>(p,st)
  |none=>none
 | .iptr cs off _=>(bL cs off sz ag).map fun p=>(p,st)
 |_=>none
def AC(sz:Nat)(a x:PV)(st:St):Option (PV×St):=match a,cellsOf x with
 | .ptr s off,some vs=>match st.objs s with
  |some cs=>if vs.length=sz/\off+sz<=cs.length then some (.hole,cA st s (bS cs off vs))else none
  |none=>none
 |_,_=>none
def JY{cs:List PV}{off:Nat}{p:PV}(h:cs[off]? =some p):bL cs off 1 false=some p:=by
 have:=(bD.1 h).1;simp[bL,h];omega
def uG{cs:List PV}{sz:Nat}(h:cs.length=sz):bL cs 0 sz true=some (.agg cs):=by
 subst h;unfold bL;rw[am (by omega),am rfl,pF,ly]
def ww(sz:Nat)(x i:PV)(st:St):Option (PV×St):=match x,i with
 | .list n cs t,.int _ j=>if 0<=j/\j<(n:Int)/\cs.length=n*sz then some (.iptr cs (j.toNat*sz) (t.elt n),st)else none
 | .osl _ _ s n,.int _ j=>if 0<=j/\j<(n:Int)then some (.ptr s (j.toNat*sz),st)else none
 |_,_=>none
def Km{sz n:Nat}{cs:List PV}{t:aF}{j:Int}{st:St}(h0:0<=j)(h1:j<(n:Int))(h2:cs.length=n*sz):ww sz (.list n cs t) (I j) st=some (.iptr cs (j.toNat*sz) (t.elt n),st):=by
 simp[ww,h0,h1,h2]
def Mi{sz e sz' s n:Nat}{j:Int}{st:St}(h0:0<=j)(h1:j<(n:Int)):ww sz (.osl e sz' s n) (I j) st=some (.ptr s (j.toNat*sz),st):=by
 simp[ww,h0,h1]
def Ma(x:PV)(st:St):Option (PV×St):=match x with
 | .list n _ _=>some (I n,st)
 | .osl _ _ _ n=>some (I n,st)
 |_=>none
def DX(x:PV)(st:St):Option (PV×St):=match x with
 | .str s=>some (I s.size,st)
 |_=>none
def Lp{l:List UInt8}{st:St}:DX (S l) st=some (I l.length,st):=by simp only[DX,rL]
def we(c a b:PV)(st:St):Option (PV×St):=match c with
 | .bool true=>some (a,st)
 | .bool false=>some (b,st)
 |_=>none
def LO{a b:Bool}{st:St}:we (.bool a) (.bool true) (.bool b) st=some (.bool (a||b),st):=by cases a<;>rfl
def JV{a b:Bool}{st:St}:we (.bool a) (.bool b) (.bool false) st=some (.bool (a && b),st):=by cases a<;>rfl
def Mo(off:Nat)(x:PV)(st:St):Option (PV×St):=match x with
 | .ptr s o=>some (.ptr s (o+off),st)
 | .iptr cs o t=>some (.iptr cs (o+off) t,st)
 |_=>none
def Pf(off sz:Nat)(ag:Bool)(x:PV)(st:St):Option (PV×St):=match x with
 | .agg cs=>(bL cs off sz ag).map fun p=>(p,st)
 |_=>none
def Iy(x:PV)(st:St):Option (PV×St):=match x with
 | .ptr s off=>some (.ptr s off,st)
 | .iptr cs off t=>some (.iptr cs off t,st)
 | .fn f cs=>some (.fn f cs,st)
 |_=>none
def Pg(x:PV)(i:Nat)(st:St):Option (PV×St):=match x with
 | .tup vs=>(vs[i]?).map fun p=>(p,st)
 |_=>none
def EY(neg:Bool)(x:PV)(st:St):Option (PV×St):=match x with
 | .err=>some (.bool neg,st)
 | .nili=>some (.bool (!neg),st)
 |_=>none
def Jq(k:IntKind)(x:PV)(st:St):Option (PV×St):=match x with
 | .int _ n=>some (.int k (k.wrap n),st)
 |_=>none
def PZ(neg:Bool)(x y:PV)(st:St):Option (PV×St):=match x,y with
 | .bool a,.bool b=>some (.bool (if neg then !(a==b)else a==b),st)
 |_,_=>none
def D4(cf:aJ)(f:PV)(as:List PV)(st:St):Option (PV×St):=match f with
 | .fn g cap=>if g<1000000 then az cf g (as++cap) [] st else none
 |_=>none
def OV:
  (∀ {cf:aJ} {fr:Fr} {st:St} {d:Option Nat} {x i:CX},aC cf fr st d (.sidx x i)=DY (x.ev fr) (i.ev fr) st)/\
  (∀ {cf:aJ} {fr:Fr} {st:St} {d:Option Nat} {x:CX},aC cf fr st d (.ssl x none none)=rJ (x.ev fr) none none st)/\
  (∀ {cf:aJ} {fr:Fr} {st:St} {d:Option Nat} {x a:CX},aC cf fr st d (.ssl x (some a) none)=rJ (x.ev fr) (some (a.ev fr)) none st)/\
  (∀ {cf:aJ} {fr:Fr} {st:St} {d:Option Nat} {x b:CX},aC cf fr st d (.ssl x none (some b))=rJ (x.ev fr) none (some (b.ev fr)) st)/\
  (∀ {cf:aJ} {fr:Fr} {st:St} {d:Option Nat} {x a b:CX},aC cf fr st d (.ssl x (some a) (some b))=rJ (x.ev fr) (some (a.ev fr)) (some (b.ev fr)) st)/\
  (∀ {cf:aJ} {fr:Fr} {st:St} {d:Option Nat} {sz:Nat} {ag:Bool} {x:CX},aC cf fr st d (.load sz ag x)=AX sz ag (x.ev fr) st)/\
  (∀ {cf:aJ} {fr:Fr} {st:St} {d:Option Nat} {sz:Nat} {a x:CX},aC cf fr st d (.store sz a x)=AC sz (a.ev fr) (x.ev fr) st)/\
  (∀ {cf:aJ} {fr:Fr} {st:St} {d:Option Nat} {sz:Nat} {x i:CX},aC cf fr st d (.iad sz x i)=ww sz (x.ev fr) (i.ev fr) st)/\
  (∀ {cf:aJ} {fr:Fr} {st:St} {d:Option Nat} {x:CX},aC cf fr st d (.len x)=Ma (x.ev fr) st)/\
  (∀ {cf:aJ} {fr:Fr} {st:St} {d:Option Nat} {x:CX},aC cf fr st d (.slen x)=DX (x.ev fr) st)/\
  (∀ {cf:aJ} {fr:Fr} {st:St} {d:Option Nat} {c a b:CX},aC cf fr st d (.pick c a b)=we (c.ev fr) (a.ev fr) (b.ev fr) st)/\
  (∀ {cf:aJ} {fr:Fr} {st:St} {d:Option Nat} {off:Nat} {x:CX},aC cf fr st d (.fad off x)=Mo off (x.ev fr) st)/\
  (∀ {cf:aJ} {fr:Fr} {st:St} {d:Option Nat} {off sz:Nat} {ag:Bool} {x:CX},aC cf fr st d (.fld off sz ag x)=Pf off sz ag (x.ev fr) st)/\
  (∀ {cf:aJ} {fr:Fr} {st:St} {d:Option Nat} {x:CX},aC cf fr st d (.nck x)=Iy (x.ev fr) st)/\
  (∀ {cf:aJ} {fr:Fr} {st:St} {d:Option Nat} {x:CX} {i:Nat},aC cf fr st d (.ext x i)=Pg (x.ev fr) i st)/\
  (∀ {cf:aJ} {fr:Fr} {st:St} {d:Option Nat} {b:Bool} {x:CX},aC cf fr st d (.isnil b x)=EY b (x.ev fr) st)/\
  (∀ {cf:aJ} {fr:Fr} {st:St} {d:Option Nat} {b:Bool} {x y:CX},aC cf fr st d (.beq b x y)=PZ b (x.ev fr) (y.ev fr) st)/\
  (∀ {cf:aJ} {fr:Fr} {st:St} {d:Option Nat} {k:IntKind} {x:CX},aC cf fr st d (.toInt k x)=Jq k (x.ev fr) st)/\
  (∀ {cf:aJ} {fr:Fr} {st:St} {d:Option Nat} {f:CX} {as:List CX},aC cf fr st d (.cval f as)=D4 cf (f.ev fr) (as.map (·.ev fr)) st):=by
 refine⟨?_,?_,?_,?_,?_,?_,?_,?_,?_,?_,?_,?_,?_,?_,?_,?_,?_,?_,?_⟩<;>intros<;>rfl
def Q2:
  (∀ {l:List UInt8} {st:St},DX (S l) st=some (I l.length,st))/\
  (∀ {n:Nat} {cs:List PV} {t:aF} {st:St},Ma (.list n cs t) st=some (I n,st))/\
  (∀ {e sz s n:Nat} {st:St},Ma (.osl e sz s n) st=some (I n,st))/\
  (∀ {cs:List PV} {off sz:Nat} {ag:Bool} {t:aF} {st:St},AX sz ag (.iptr cs off t) st=(bL cs off sz ag).map fun p=>(p,st))/\
  (∀ {s o off:Nat} {st:St},Mo off (.ptr s o) st=some (.ptr s (o+off),st))/\
  (∀ {cs:List PV} {o off:Nat} {t:aF} {st:St},Mo off (.iptr cs o t) st=some (.iptr cs (o+off) t,st))/\
  (∀ {cs:List PV} {off sz:Nat} {ag:Bool} {st:St},Pf off sz ag (.agg cs) st=(bL cs off sz ag).map fun p=>(p,st))/\
  (∀ {s o:Nat} {st:St},Iy (.ptr s o) st=some (.ptr s o,st))/\
  (∀ {cs:List PV} {o:Nat} {t:aF} {st:St},Iy (.iptr cs o t) st=some (.iptr cs o t,st))/\
  (∀ {f:Nat} {cs:List PV} {st:St},Iy (.fn f cs) st=some (.fn f cs,st))/\
  (∀ {vs:List PV} {i:Nat} {st:St},Pg (.tup vs) i st=(vs[i]?).map fun p=>(p,st))/\
  (∀ {b:Bool} {st:St},EY b .err st=some (.bool b,st))/\
  (∀ {b:Bool} {st:St},EY b .nili st=some (.bool (!b),st))/\
  (∀ {k j:IntKind} {n:Int} {st:St},Jq k (.int j n) st=some (.int k (k.wrap n),st))/\
  (∀ {a b:Bool} {st:St},we (.bool a) (.bool true) (.bool b) st=some (.bool (a||b),st))/\
  (∀ {a b:Bool} {st:St},we (.bool a) (.bool b) (.bool false) st=some (.bool (a && b),st))/\
  (∀ {a b:PV} {st:St},we (.bool true) a b st=some (a,st))/\
  (∀ {a b:PV} {st:St},we (.bool false) a b st=some (b,st))/\
  (∀ {f:Nat} {cf:aJ} {as:List PV} {st:St},f<1000000->D4 cf (.fn f []) as st=az cf f as [] st):=by
 refine⟨Lp,rfl,rfl,rfl,rfl,rfl,rfl,rfl,rfl,rfl,rfl,rfl,rfl,rfl,LO,JV,rfl,rfl,?_⟩;intro f cf as st h;simp[D4,h]
def Q9:
  (∀ {st:St} {s k:Nat} {c:List PV},(cA st s c).objs k=if k=s then some c else st.objs k)/\
  (∀ {st:St} {s:Nat} {c:List PV},(cA st s c).nx=st.nx)/\
  (∀ {st:St} {s:Nat} {c:List PV},(cA st s c).cnt=st.cnt)/\
  (∀ {st:St} {s:Nat} {c:List PV},(cA st s c).fl=st.fl)/\
  (∀ {st:St} {s:Nat} {c:List PV},(cA st s c).maps=st.maps):=⟨rfl,rfl,rfl,rfl,rfl⟩
def Q4:
  (decide True=true)/\(decide False=false)/\(∀ {p:Prop} [Decidable p],(decide p=true)=p)/\(∀ {p:Prop} [Decidable p],(decide p=false)=¬p)/\(∀ {p:Prop} [Decidable p],(!decide p)=decide (¬p))/\
  ((¬True)=False)/\((¬False)=True)/\(∀ {b:Bool},(false||b)=b)/\(∀ {b:Bool},(b||false)=b)/\(∀ {b:Bool},(true||b)=true)/\(∀ {b:Bool},(b||true)=true)/\
  (∀ {b:Bool},(false && b)=false)/\(∀ {b:Bool},(b && false)=false)/\(∀ {b:Bool},(true && b)=b)/\(∀ {b:Bool},(b && true)=b)/\((!true)=false)/\((!false)=true)/\(∀ {b:Bool},(!!b)=b)/\
  (∀ {b:Bool},((!b)=true)=(b=false))/\(∀ {b:Bool},((!b)=false)=(b=true))/\(∀ {b:Bool},(b=false)=¬(b=true))/\((true=true)=True)/\((false=true)=False)/\
  (∀ {a b:Bool},((a||b)=true)=(a=true\/b=true))/\(∀ {a b:Bool},((a && b)=true)=(a=true/\b=true))/\(∀ {p:Prop},(¬¬p)=p)/\
  (∀ {p:Prop},(True/\p)=p)/\(∀ {p:Prop},(p/\True)=p)/\(∀ {p:Prop},(False/\p)=False)/\(∀ {p:Prop},(p/\False)=False)/\(∀ {p:Prop},(True\/p)=True)/\(∀ {p:Prop},(p\/True)=True)/\(∀ {p:Prop},(False\/p)=p)/\(∀ {p:Prop},(p\/False)=p)/\
  (∀ {n:Nat},((n:Int)).toNat=n)/\((0:Int).toNat=0)/\(∀ {α β:Type} {f:α->β} {x:α},Option.map f (some x)=some (f x))/\(∀ {α β:Type} {f:α->β},List.map f []=[])/\(∀ {α β:Type} {f:α->β} {x:α} {xs:List α},List.map f (x::xs)=f x::List.map f xs):=by
 simp
def Jk(cf:aJ)(f:Nat)(F:bw):Prop:=∀ N as ns cs r,gr cf N F as ns cs=some r->cf f as ns cs=some r
def kD:Ex->Prop
 | .exit _=>False
 |_=>True
def oL:kD .ret↔True:=Iff.rfl
def rE(p:PV):Prop:=np p=true/\aO p=p/\fU p=true/\(∀ f s,ren f s p=p)/\(match p with| .osl .. =>False| .ptr .. =>False|_=>True)
def su(ps:List PV):Prop:=aX ps=true/\aQ ps=ps/\fT ps=true/\∀ f s,bm f s ps=ps
def d6(k:IntKind)(n:Int):rE (.int k n):=⟨rfl,rfl,rfl,fun _ _=>rfl,trivial⟩
def ct(b:Bool):rE (.bool b):=⟨rfl,rfl,rfl,fun _ _=>rfl,trivial⟩
def nK(s:ByteArray):rE (.str s):=⟨rfl,rfl,rfl,fun _ _=>rfl,trivial⟩
def K8:rE .nili:=⟨rfl,rfl,rfl,fun _ _=>rfl,trivial⟩
def FP:rE .err:=⟨rfl,rfl,rfl,fun _ _=>rfl,trivial⟩
def qX:su []:=⟨rfl,rfl,rfl,fun _ _=>rfl⟩
def jp{p:PV}{ps:List PV}(h:rE p)(k:su ps):su (p::ps):=by
 obtain⟨h1,h2,h3,h4,_⟩:=h;obtain⟨k1,k2,k3,k4⟩:=k;refine⟨?_,?_,?_,fun f s=>?_⟩
 ·have h1':off (fun _=>true) p=true:=h1;have k1':dS (fun _=>true) ps=true:=k1;simp only[aX,dS,h1',k1',ay]
 ·have h2':ren (fun _=>none) true p=p:=h2;have k2':bm (fun _=>none) true ps=ps:=k2;simp only[aQ,bm,h2',k2']
 ·simp only[fT,h3,k3,ay]
 ·simp only[bm,h4,k4]
def Aq{cs:List PV}(h:su cs):rE (.tup cs):=by
 obtain⟨h1,h2,h3,h4⟩:=h;refine⟨h1,?_,h3,fun f s=>?_,trivial⟩
 ·have h2':bm (fun _=>none) true cs=cs:=h2;simp only[aO,ren,h2']
 ·simp only[ren,h4]
def dq(p:PV):Prop:=np p=true/\aO p=p/\(∀ f s,ren f s p=p)/\(match p with| .osl .. =>False| .ptr .. =>False|_=>True)
def cZ(ps:List PV):Prop:=aX ps=true/\aQ ps=ps/\∀ f s,bm f s ps=ps
def rE.plain{p:PV}(h:rE p):dq p:=⟨h.1,h.2.1,h.2.2.2.1,h.2.2.2.2⟩
def su.plain{ps:List PV}(h:su ps):cZ ps:=⟨h.1,h.2.1,h.2.2.2⟩
def eC:cZ []:=qX.plain
def bQ{p:PV}{ps:List PV}(h:dq p)(k:cZ ps):cZ (p::ps):=by
 obtain⟨h1,h2,h4,_⟩:=h;obtain⟨k1,k2,k4⟩:=k;refine⟨?_,?_,fun f s=>?_⟩
 ·have h1':off (fun _=>true) p=true:=h1;have k1':dS (fun _=>true) ps=true:=k1;simp only[aX,dS,h1',k1',ay]
 ·have h2':ren (fun _=>none) true p=p:=h2;have k2':bm (fun _=>none) true ps=ps:=k2;simp only[aQ,bm,h2',k2']
 ·simp only[bm,h4,k4]
def kW{ps qs:List PV}(h:cZ ps)(k:cZ qs):cZ (ps++qs):=by
 obtain⟨h1,h2,h4⟩:=h;obtain⟨k1,k2,k4⟩:=k;have hr:∀ f s,bm f s (ps++qs)=ps++qs:=by
  intro f s;have:∀ (xs ys:List PV),bm f s (xs++ys)=bm f s xs++bm f s ys:=by
   intro xs ys
   induction xs with
   |nil=>rfl
   |cons x xs ih=>simp only[bo,bm,ih]
  rw[this,h4,k4]
 exact⟨iz h1 k1,hr _ _,hr⟩
def gd{cs:List PV}(h:cZ cs):dq (.agg cs):=by
 obtain⟨h1,h2,h4⟩:=h;refine⟨h1,?_,fun f s=>?_,trivial⟩
 ·have h2':bm (fun _=>none) true cs=cs:=h2;simp only[aO,ren,h2']
 ·simp only[ren,h4]
def gk{n:Nat}{cs:List PV}(h:cZ cs):dq (.list n cs .no):=by
 obtain⟨h1,h2,h4⟩:=h;refine⟨h1,?_,fun f s=>?_,trivial⟩
 ·have h2':bm (fun _=>none) true cs=cs:=h2;simp only[aO,ren,h2',aF.ren]
 ·simp only[ren,h4,aF.ren]
def bh(k:IntKind)(n:Int):dq (.int k n):=(d6 k n).plain
def vn(b:Bool):dq (.bool b):=(ct b).plain
def bR(s:ByteArray):dq (.str s):=(nK s).plain
def dD{ps:List PV}(h:∀ p∈ps,dq p):ps.all bF=true/\ps.map aO=ps:=by
 refine⟨cw.2 fun p hp=>?_,?_⟩
 ·have:=h p hp;unfold bF;rw[this.1,cH];have h4:=this.2.2.2;cases p<;>first|rfl|exact h4.elim
 ·induction ps with
  |nil=>rfl
  |cons p ps ih=>
   simp only[bg,(h p (by simp)).2.1];rw[ih fun q hq=>h q (by simp[hq])]
def DR(nk:Nat){p:PV}{st:St}(h:match p with| .osl .. =>False| .ptr .. =>False|_=>True):dh nk [p] st=([p],st):=by
 cases p<;>first|exact h.elim|(rw[dh,dh];intros;simp_all)
section
variable {cf:aJ} {f:Nat} {F:bw} {as:List PV} {r:PV} {t t2 N:Nat} {st:St}
def wA(hres:F.res=[.tmp t])(hown:F.own=false){fr:Fr}{cs:List (List PV)}(hcs:dz st (List.range cs.length)=some cs)(hc:∀ c∈cs,cZ c)(hr:dq r)(h:fr t=r):im F cs.length fr st=some (r,[],cs):=by
 have hn:np r=true:=hr.1;have hcs':cs.map aQ=cs:=by
  have:∀ (l:List (List PV)),(∀ c∈l,cZ c)->l.map aQ=l:=by
   intro l
   induction l with
   |nil=>intro _;rfl
   |cons c l ih=>intro hl;simp only[bg,(hl c (by simp)).2.1];rw[ih fun d hd=>hl d (by simp[hd])]
  exact this cs hc
 have hall:cs.all aX=true:=cw.2 fun c h=>(hc c h).1;simp only[im,hres,fG,od,h,hcs,DR F.nk hr.2.2.2,fW,hn,hall,ay,if_true,lD,hown,dO,cz,if_false,hr.2.1,hcs']
def xy{Q:Ex->Fr×St->Prop}{cs:List (List PV)}{ns:List Nat}{x}(h:Wp cf N F.body (eM as,bV ns cs) Q)(hnt:as.length<=F.nt)(hnk:cs.length<=F.nk)(hQ:∀ e y,Q e y->kD e/\im F cs.length y.1 y.2=some x):gr cf N F as ns cs=some x:=by
 obtain⟨e,y,hev,hq⟩:=h;obtain⟨he,hf⟩:=hQ e y hq;unfold gr;rw[am ⟨hnt,hnk⟩,hev];cases e with
 |go=>exact hf
 |ret=>exact hf
 |exit i=>exact he.elim
def Pd(K:Jk cf f F)(hres:F.res=[.tmp t])(hown:F.own=false)(hnt:as.length<=F.nt)(hr:dq r)(N:Nat)(h:Wp cf N F.body (eM as,bV [] []) (fun e y=>kD e/\y.1 t=r)):cf f as [] []=some (r,[],[]):=
 K N as [] [] _ (xy h hnt (aW _) fun e y hq=>⟨hq.1,wA (cs:=[]) hres hown rfl (by simp) hr hq.2⟩)
def sM(has:∀ p∈as,dq p)(hr:rE r)(h:cf f as [] []=some (r,[],[])):az cf f as [] st=some (r,st):=by
 obtain⟨h1,h2⟩:=dD has;exact KJ h1 h2 h (hr.2.2.2.1 _ _) hr.2.2.1
def Mx{s:Nat}{c c':List PV}(hs:st.objs s=some c)(hc:cZ c)(hc':su c')(has:∀ p∈as,dq p)(hr:rE r)(h:cf f (.ptr 0 0::as) [] [c]=some (r,[],[c'])):
  az cf f (.ptr s 0::as) [] st=some (r,cA st s c'):=by
 obtain⟨h1,h2⟩:=dD has;have hk:dw (.ptr s 0::as)=some [s]:=by
  simp only[dw,eY h1];simp
 have hh:∀ (l:List PV) (i n:Nat),l.all bF=true->fe [] [] i n l=l.map aO:=fun l i n hl=>jT i n hl;have hon:fe [] [] 0 0 (.ptr s 0::as)= .ptr 0 0::as:=by
  simp only[fe,hh as _ _ h1,h2]
 simp only[az,hk,dz,hs,hon,bg,cJ,hc.2.1,h,aA,a6,if_true];congr 1;refine Prod.ext (hr.2.2.2.1 _ _) ?_;simp only[hc'.2.2.2,hr.2.2.1,hc'.2.2.1,cT,dd,ay];rfl
def Pe(K:Jk cf f F)(hres:F.res=[.tmp t])(hown:F.own=false)(hnt:as.length+1<=F.nt)(hnk:1<=F.nk)(hr:dq r){c c':List PV}(hc':cZ c')(N:Nat)
  (h:Wp cf N F.body (eM (.ptr 0 0::as),bV [] [c]) (fun e y=>kD e/\y.1 t=r/\y.2.objs 0=some c')):cf f (.ptr 0 0::as) [] [c]=some (r,[],[c']):=
 K N _ [] [c] _ (xy h (by simpa using hnt) hnk fun e y hq=>⟨hq.1,wA (cs:=[c']) hres hown (by
  have:List.range [c'].length=[0]:=rfl;rw[this];simp only[dz,hq.2.2]) (by simpa using hc') hr hq.2.1⟩)
end
def qN:PV:=.list 0 [] .nil
abbrev RO:=Nat->CX
abbrev WC:=Nat->List CX
abbrev Vs:=Nat->List (Nat×Nat×CX)
abbrev WT:=Nat->Option CX
abbrev RU:=Nat->eV
abbrev QC:=Option (Nat×Bool)->Nat->List cW
def SW(n:Nat):RO:=fun _=>.sl n
def Wg(n:Nat):RO:=fun d=>.sl (d-n)
def SR(n:Int):RO:=fun _=>.k (.int .i64 n)
def Sn(p:PV):RO:=fun _=>.k p
def WI:WC:=fun _=>[]
def Wi(x:RO)(l:WC):WC:=fun d=>x d::l d
def Us:Vs:=fun _=>[]
def Vr(o s:Nat)(x:RO)(l:Vs):Vs:=fun d=>(o,s,x d)::l d
def Wl:WT:=fun _=>none
def Wt(x:RO):WT:=fun d=>some (x d)
def RZ(p:RU)(k:QC)(g:Option (Nat×Bool))(d:Nat):List cW:=⟨g,some d,p d⟩::k g (d+1)
def TT(v:Nat)(p:RU)(k:QC)(g:Option (Nat×Bool))(d:Nat):List cW:=⟨g,some v,p d⟩::k g d
def WN(p:RU)(k:QC)(g:Option (Nat×Bool))(d:Nat):List cW:=⟨g,none,p d⟩::k g d
def WB(s:Nat)(b:Bool)(k:QC)(_:Option (Nat×Bool))(d:Nat):List cW:=k (some (s,b)) d
def W3(s:Nat)(b:Bool)(k:QC)(_:Option (Nat×Bool))(d:Nat):List cW:=k (some (d-s,b)) d
def V7(k:QC)(_:Option (Nat×Bool)):Nat->List cW:=k none
def RL(_:Option (Nat×Bool))(_:Nat):List cW:=[]
def js(d:Nat)(k:QC):CC:=.reg (k none d) []
def Wr(d:Nat)(k:QC)(l:List (Nat×Nat)):CC:=.reg (k none d) l
def TN(a b:CC):CC:=.seq a b
def TL(n:Nat)(a b:CC):CC:=.cond (.sl n) a b
def mA(n:Nat)(a:CC):CC:=.block n a
def RF(a:CC):CC:=.loop a
def P9(n:Nat):CC:=.exit n
def iq:CC:=.ret
def Lb:CC:=.skip
def Ur(a:Nat)(b:RO):RU:=fun d=>.box a (b d)
def VZ(a:List PV):RU:=fun d=>.alloc a
def TS(a:Nat)(b:RO):RU:=fun d=>.fad a (b d)
def V6(a:Nat)(b:Bool)(c:RO):RU:=fun d=>.load a b (c d)
def W2(a:Nat)(b:WC)(c:List Nat):RU:=fun d=>.call a (b d) c
def WU(a:Nat)(b:RO)(c:RO):RU:=fun d=>.store a (b d) (c d)
def W4(a:RO):RU:=fun d=>.mv (a d)
def TK(a:RO):RU:=fun d=>.len (a d)
def WH(a:Nat)(b:Nat)(c:Nat)(e:List PV)(f:RO)(h:RO):RU:=fun d=>.mks a b c e (f d) (h d)
def VU(a:BinOp)(b:RO)(c:RO):RU:=fun d=>.bin a (b d) (c d)
def SV(a:Nat)(b:RO)(c:RO):RU:=fun d=>.iad a (b d) (c d)
def WQ(a:Nat)(b:Nat)(c:Nat)(e:RO)(f:RO):RU:=fun d=>.mk0 a b c (e d) (f d)
def W7(a:Nat)(b:Nat)(c:Nat)(e:RO)(f:RO):RU:=fun d=>.app a b c (e d) (f d)
def WY(a:UnOp)(b:RO):RU:=fun d=>.un a (b d)
def VY(a:IntKind)(b:RO):RU:=fun d=>.toInt a (b d)
def Vq(a:Nat)(b:Nat)(c:List PV)(e:Nat)(f:Vs):RU:=fun d=>.bsl a b c e (f d)
def Wz(a:RO):RU:=fun d=>.b2s (a d)
def WZ(a:RO):RU:=fun d=>.slen (a d)
def Ws(a:RO)(b:RO)(c:RO):RU:=fun d=>.pick (a d) (b d) (c d)
def UL(a:List PV)(b:Vs):RU:=fun d=>.build a (b d)
def WM(a:RO)(b:RO):RU:=fun d=>.sidx (a d) (b d)
def UI(a:RO):RU:=fun d=>.nck (a d)
def Vp(a:RO)(b:WT)(c:WT):RU:=fun d=>.ssl (a d) (b d) (c d)
def WW:RU:=fun _=>.mkmap
def WV(a:Nat)(b:RO)(c:RO)(e:RO):RU:=fun d=>.mpset a (b d) (c d) (e d)
def WP(a:Bool)(b:PV)(c:Nat)(e:RO)(f:RO):RU:=fun d=>.mpget a b c (e d) (f d)
def Vd(a:RO)(b:Nat):RU:=fun d=>.ext (a d) b
def Vh(a:RO)(b:WC):RU:=fun d=>.cval (a d) (b d)
def WX(a:Bool)(b:RO):RU:=fun d=>.isnil a (b d)
def Wy(a:Nat)(b:RO)(c:RO):RU:=fun d=>.stx a (b d) (c d)
def Vi(a:Nat)(b:WC):RU:=fun d=>.callU a (b d)
def W0(a:Nat)(b:WC):RU:=fun d=>.mkfn a (b d)
def W6(a:Bool)(b:RO)(c:RO):RU:=fun d=>.beq a (b d) (c d)
def Wj(a:Nat)(b:RO)(c:WT)(e:WT):RU:=fun d=>.slc a (b d) (c d) (e d)
def WR(a:Nat)(b:Nat)(c:Nat)(e:RO)(f:RO):RU:=fun d=>.apc a b c (e d) (f d)
def W5(a:Nat)(b:Nat)(c:Bool)(e:RO):RU:=fun d=>.fld a b c (e d)
def WA(a:RO)(b:QC):QC:=RZ (W4 a) b
def RI:RO:=Wg 1
def SM(a:Nat)(b:QC)(c:CC):CC:=TN (js a b) c
def RW(a:Nat)(b:QC):QC:=WA (SW a) b
def Se(a b:RU)(c:QC):QC:=RZ a<|RZ b c
def Tq:RO:=Sn (.bool false)
def Wm(a:Nat)(b:RO)(c:QC):QC:=TT a (W4 b) c
def UM(a:Nat)(b:RO)(c:QC)(d:CC):CC:=SM a (WA b c) d
def Uf:RU:=VZ [.int .i64 0,.int .i64 0,.int .i64 0,.str ⟨#[]⟩,.list 0 [] .nil,.list 0 [] .nil]
def Vw(a b c:Nat)(d:Vs):RU:=Vq a b [.int .i64 0,.int .i64 0,.list 0 [] .nil,.list 0 [] .nil,.int .i64 0,.str ⟨#[]⟩,.int .i64 0,.int .i64 0,.list 0 [] .nil,.str ⟨#[]⟩,.str ⟨#[]⟩,.str ⟨#[]⟩] c d
def Vv(a:Vs):RU:=UL [.int .i64 0,.int .i64 0,.int .i64 0,.str ⟨#[]⟩,.list 0 [] .nil,.list 0 [] .nil] a
def Vg(a:BinOp)(b c:RO)(d:QC):QC:=RZ (VU a b c) d
def R1(a b:Nat)(c:QC)(d:CC):CC:=SM a (RW b c) d
def VX(a:Nat)(b:RO)(c:WC)(d:List Nat):RU:=W2 a (Wi b c) d
def Sf:RO:=Sn (.bool true)
def Wb(a:Vs):RU:=UL [.int .i64 0,.int .i64 0,.list 0 [] .nil,.list 0 [] .nil,.int .i64 0,.str ⟨#[]⟩,.int .i64 0,.int .i64 0,.list 0 [] .nil,.str ⟨#[]⟩,.str ⟨#[]⟩,.str ⟨#[]⟩] a
def Uu(a:RU)(b:Nat)(c:RO)(d:QC):QC:=Se a (TS b c) d
def Vu(a:Nat)(b:RO):QC:=Wm a b RL
def RM(a:Nat):QC:=Vu a RI
def V4(a:Nat)(b:RO)(c:Nat)(d:QC):QC:=Se (TS a b) (V6 c false RI) d
def Tb(a:Nat)(b:RO):RU:=V6 a true b
def VW(a:Nat)(b:RO)(c:WC):RU:=VX a b c []
def V3(a:Nat)(b c:RO)(d:QC):QC:=WN (WU a b c) d
def Vt(a:Nat)(b:RO)(c:CC):CC:=UM a b RL c
def Wx(a:RU)(b:BinOp)(c d:RO)(e:QC):QC:=Se a (VU b c d) e
def RJ:RO:=Wg 2
def RQ(a:Nat)(b:QC):QC:=WA (Wg a) b
def Sj(a b:Nat)(c:QC)(d:CC):CC:=UM a (Wg b) c d
def Ta(a:Nat)(b:Int)(c:CC):CC:=Vt a (SR b) c
def Sy(a:Nat)(b:RU)(c:QC)(d:CC):CC:=SM a (RZ b c) d
def RV(a:Nat)(b:CC):CC:=TL a b Lb
def Wa:RU:=VZ [.int .i64 0,.str ⟨#[]⟩,.int .i64 0,.int .i64 0,.list 0 [] .nil]
def Ut(a:Nat)(b c:RO)(d:QC):QC:=RZ (Ws (Wg a) b c) d
def TM(a:BinOp)(b:Int)(c:QC):QC:=Vg a RI (SR b) c
def RK:RO:=Wg 3
def R5(a:Nat):RU:=VW a RI WI
def So:RU:=V6 1 false RI
def V9(a b:Nat)(c:QC)(d e:CC):CC:=TN (Sj a b c d) e
def WS:RU:=VZ [.int .i64 0,.int .i64 0,.list 0 [] .nil,.list 0 [] .nil,.int .i64 0,.str ⟨#[]⟩,.int .i64 0,.int .i64 0,.list 0 [] .nil,.str ⟨#[]⟩,.str ⟨#[]⟩,.str ⟨#[]⟩]
def Vj(a:RO)(b:Nat)(c:QC):QC:=Uu (UI a) b RI c
def Uj(a b:Nat)(c:QC)(d e:CC):CC:=TN (R1 a b c d) e
def Ww(a b c:Nat)(d:Vs):RU:=Vq a b [.int .i64 0,.str ⟨#[]⟩,.int .i64 0,.int .i64 0,.list 0 [] .nil] c d
def UK:WC:=Wi RI WI
def RY(a:Nat)(b c:RU)(d:QC):QC:=RW a<|Se b c d
def Wk:RU:=VZ [.int .i64 0,.list 0 [] .nil,.list 0 [] .nil]
def Ts(a:Nat)(b:QC):QC:=Vj RI a b
def V2:RU:=VZ [.list 0 [] .nil,.list 0 [] .nil]
def Wv(a:Vs):RU:=UL [.int .i64 0,.int .i64 0,.list 0 [] .nil,.list 0 [] .nil] a
def Sm(a:RU)(b:Nat):QC:=RZ a<|RM b
def V1(a:Nat)(b c:RO)(d:Nat)(e:RO)(f:QC):QC:=Uu (SV a b c) d e f
def WJ(a b c:Nat)(d:Vs):RU:=Vq a b [.int .i64 0,.int .i64 0,.int .i64 0,.str ⟨#[]⟩,.list 0 [] .nil,.list 0 [] .nil] c d
def Su(a b:Nat):RU:=Tb a<|SW b
def Sc(a b:Nat)(c:QC)(d:Nat)(e f:CC):CC:=Uj a b c (RV d e) f
def Ui(a:Int)(b:QC):QC:=TM .lss a b
def V0(a:Int)(b:Nat):QC:=TM .add a<|RM b
def Wq(a:Nat)(b:CC):CC:=mA a<|RF b
def Wo(a:Nat)(b c:RU)(d:QC)(e:CC):CC:=SM a (Se b c d) e
def Wh:RO:=Sn (.str ⟨#[110,117,108,108]⟩)
def Wu(a b c:Nat)(d:Vs):RU:=Vq a b [.int .i64 0,.list 0 [] .nil,.list 0 [] .nil] c d
def Vf(a:Nat)(b:CC)(c:Nat)(d:QC):CC:=TN (mA a b)<|js c d
def Tp(a:RU)(b:QC):QC:=Se So a b
def V8(a:Nat)(b:RO):CC:=Vt a b iq
def VV(a:Nat)(b:RO):RU:=VW a b UK
def R4(a:Nat)(b:QC):QC:=RZ (R5 a) b
def R2(a b:Nat)(c:QC)(d:Nat)(e f:CC):CC:=V9 a b c (RV d e) f
def SS(a b:Nat):CC:=TL a Lb<|P9 b
def UJ(a:QC):QC:=RZ So a
def Uh(a:Nat)(b:RO):QC:=V3 a b RI RL
def Sg(a b:Nat)(c:QC):QC:=V4 a (SW b) 1 c
def Ve(a b:Nat):Vs:=Vr a b RI Us
def VK(a:RU)(b c:Nat)(d:QC):QC:=Uu a b (SW c) d
def Ug(a b:Nat)(c:QC):CC:=R1 a b c iq
def Tr:RU:=WY .not RI
def RN:RO:=Wg 4
def WG:RU:=VZ [.int .i64 0,.int .i64 0,.list 0 [] .nil,.list 0 [] .nil]
def VJ(a:Nat)(b:QC)(c d:CC):CC:=TN (SM a b c) d
def VT(a:RO):QC:=WA a RL
def UH:RO:=Sn (.str ⟨#[]⟩)
def VS(a:Nat)(b:RU)(c:QC):CC:=Sy a b c iq
def UG(a:Nat)(b:RO):RU:=VW a RI<|Wi b WI
def Ss(a b:Nat):QC:=Uh a<|SW b
def UF(a b:RO)(c:QC):QC:=Vg .lss a b c
def VI(a:BinOp)(b:RO)(c:Int)(d:Nat):QC:=Vg a b (SR c)<|RM d
def VO(a b:Nat)(c d:RO)(e:Nat)(f:QC):QC:=RW a<|V1 b c d e RI f
def SL(a:Nat):CC:=V8 a Tq
def U0(a:Nat)(b:RO):QC:=V3 a RI b RL
def WF(a:Vs):RU:=UL [.int .i64 0,.list 0 [] .nil,.list 0 [] .nil] a
def SQ(a:Nat)(b:QC):QC:=V7<|Ut a RI Tq b
def RP:RO:=Wg 5
def Sb(a b c:Nat)(d:QC):CC:=VS a (Su b c) d
def Ue(a b:RO)(c:QC):QC:=Vg .eql a b c
def S9(a:Nat)(b:QC):QC:=RW 0<|Ts a b
def R0:RO:=SR 0
def RS(a:Nat)(b:QC)(c:CC):CC:=R1 a 0 b c
def Vc(a:Nat)(b:RO):RU:=SV a b RI
def R3(a:QC):QC:=WA RI<|W3 1 true a
def VH(a:Nat)(b:QC):QC:=V7<|Ut a Sf RI b
def R7(a b:Nat)(c:QC):CC:=js a<|RW b c
def RT(a b c:Nat)(d:QC):QC:=VO a b RJ RI c d
def R6(a:QC):QC:=WA RI<|W3 1 false a
def Sl(a b c:Nat)(d:RO):RU:=W7 a b c d RI
def Wn:RU:=VZ [.str ⟨#[]⟩,.str ⟨#[]⟩]
def SA(a:RU)(b:BinOp)(c:RO)(d:QC):QC:=Wx a b c RI d
def VN(a:CC)(b:Nat)(c:CC)(d:Nat)(e:QC):CC:=TN a<|Vf b c d e
def Ud(a b:Nat)(c:RO)(d:QC)(e:CC):CC:=Sy a (Ur b c) d e
def VG(a b c:Nat):CC:=Ug a b<|RM c
def RR:RO:=Wg 6
def VF(a:RO):QC:=Wx (TK RI) .lss a RI RL
def Wf(a b:RO)(c:QC):QC:=Vg .neq a b c
def Uq(a b:Nat):QC:=RQ a<|V0 1 b
def VM(a b:Nat):CC:=RV a<|SL b
def Ty(a:Nat)(b:QC):QC:=R6<|RW a b
def Sa(a b:Nat)(c:QC):QC:=V4 a (Wg b) 1 c
def Sx(a:Nat)(b:RO)(c:QC):QC:=RZ (TS a b) c
def We(a:RO)(b:QC):QC:=RZ (TK a) b
def Wd(a b:Nat)(c:QC)(d:Nat)(e:CC):CC:=V9 a b c (SS d 0) e
def TR(a:Nat)(b:RU)(c:QC):QC:=S9 a<|Tp b c
def RX(a:QC):QC:=RW 1 a
def To(a:RU)(b:BinOp)(c:RO)(d:QC):QC:=Wx a b RI c d
def Tn(a:Nat):RU:=VV a RJ
def SK(a:Nat)(b:RU)(c:QC):QC:=Se (R5 a) b c
def SJ(a:Nat)(b:RO)(c:QC):QC:=Tp (VV a b) c
def UZ(a:Nat)(b:QC):QC:=S9 a<|UJ b
def SF(a:Nat):Vs:=Ve 0 a
def Si:RU:=WZ RI
def V5(a:RU)(b:BinOp)(c:Int)(d:QC):QC:=To a b (SR c) d
def R9(a:QC):QC:=RW 0 a
def Sk:QC:=VT Tq
def Vb:QC:=VT R0
def VE(a:Nat)(b:RU)(c:Nat)(d:QC)(e:CC):CC:=Wo a b (Tb c RI) d e
def SP(a b:Nat)(c:Int)(d:Nat)(e f:CC):CC:=Sc a b (Ui c RL) d e f
def SU(a b c:Nat)(d:RO)(e:Nat):QC:=Sm (Sl a b c d) e
def Tx(a:QC):QC:=RZ Tr a
def Sp:QC:=U0 1 RJ
def SI(a:Nat)(b:QC):QC:=Ts a<|UJ b
def Tm(a b c:Nat)(d:CC):CC:=R1 a b (V0 1 c) d
def WE(a:Vs):RU:=UL [.str ⟨#[]⟩,.str ⟨#[]⟩] a
def TJ(a b:Nat):QC:=Sm (Tn a) b
def TQ(a:BinOp)(b:Int):RU:=VU a RI<|SR b
def SZ(a b c:Nat)(d:QC)(e f:CC):CC:=VJ a (Sg b c d) e f
def Wc(a b c:Nat)(d:Vs):RU:=Vq a b [.int .u8 0] c d
def Tw(a:Nat)(b:QC)(c:List (Nat×Nat))(d:CC):CC:=TN (Wr a b c) d
def UY(a:RO):RU:=WM a RI
def Tl(a b:Nat)(c:RO)(d:RU)(e:QC)(f:CC):CC:=Wo a (Ur b c) d e f
def R8:CC:=Ta 4 (-1) iq
def Tk(a:PV):RU:=UG 210<|Sn a
def SH(a b:Nat)(c d:CC):CC:=TN (Ta a 0<|Wq b c) d
def Uc(a:Int)(b:QC):QC:=TM .gtr a b
def Sw(a:Nat):QC:=VH a RL
def SY(a b c d:Nat)(e:QC)(f:Nat)(g h:CC):CC:=SH a b (Wd c d e f g) h
def ST(a b:RU)(c:Nat):QC:=Se a b<|RM c
def TP(a:RO)(b:PV)(c:QC):QC:=Ue a (Sn b) c
def TI(a b c:Nat)(d:QC)(e:CC):CC:=SM a (Sa b c d) e
def Sd:RO:=Wg 7
def Sv(a:Nat)(b:CC):CC:=Vt a Tq b
def TH(a b c d:Nat)(e:QC):QC:=VK (Su a b) c d e
def Ub(a:RU)(b:Nat)(c:QC):QC:=Se a (Tb b RI) c
def Sr(a b c:Nat)(d:QC):QC:=RY a (Vc b RJ) (Tb c RI) d
def SE(a:Nat):CC:=V8 a Sf
def Tj(a b:Nat)(c:QC):QC:=R3<|Sg a b c
def SO(a:QC):QC:=RQ 11 a
def UX(a:BinOp)(b c:RO)(d:QC):QC:=Wx (TK RI) a b c d
def TG(a b:Nat):QC:=SQ a<|RM b
def Ua(a:Int)(b:CC):CC:=Ta 4 a b
def UE(a b:RO)(c:QC):QC:=Vg .geq a b c
def UD(a:RU)(b:Int)(c:QC):QC:=V5 a .add b c
def VR(a:Nat)(b c:RO):QC:=WN (Wy a b c) RL
def UC(a:Nat)(b:Int)(c:Nat):QC:=VI .eql (SW a) b c
def UW(a:Int)(b:QC):QC:=TM .eql a b
def Ti(a:QC):QC:=RW 5 a
def SD(a:RU)(b:BinOp)(c:QC):QC:=SA a b RK c
def Th(a:Nat)(b:QC)(c:Nat)(d e:CC):CC:=SM a b<|TL c d e
def Up(a:PV):RU:=UG 226<|Sn a
def Uo(a b:Nat)(c:RO)(d:QC)(e:CC):CC:=SM a (V4 b c 1 d) e
def UV(a:Nat)(b:Int)(c:Nat):QC:=VI .add (SW a) b c
def Un(a b c:Nat)(d:RO)(e:QC):QC:=Uu (TS a<|SW b) c d e
def TF:RO:=Wg 10
def UB(a:Nat)(b:RU)(c:Nat)(d:CC):CC:=RS a (Sm b c) d
def Tv:QC:=We RI Vb
def Va(a:Nat)(b:QC):QC:=Tp (R5 a) b
def Tg(a:Nat):QC:=RQ a<|VF RK
def Tf(a:RU):QC:=Se a Tr RL
def Te(a:RO):QC:=Wf a RI RL
def WD:RO:=Sn (.int .u8 48)
def TE(a:Nat)(b:CC)(c d e:Nat):CC:=Vf a b c<|Uq d e
def SX(a:Nat)(b:QC):QC:=V4 a RI 1 b
def UU(a:BinOp)(b:RO)(c:Int)(d:QC):QC:=UX a b (SR c) d
def SC:RO:=Wg 9
def U9(a:Nat)(b:Vs)(c:QC):CC:=VS a (Vv b) c
def TD(a:Nat)(b:RO)(c:QC):QC:=V3 6 (SW a) b c
def Tu(a:RO):WC:=Wi a UK
def Sq(a:Nat)(b:QC):QC:=Sg 0 a b
def UT(a:Nat)(b:BinOp)(c:Int)(d:RU)(e:QC):QC:=RY a (TQ b c) d e
def Um(a b:Nat)(c:Int):Vs:=Vr a b (SR c) Us
def US(a b:Nat)(c:CC)(d:Nat)(e:QC):CC:=VN (SS a 0) b c d e
def VQ(a:Nat)(b:QC):QC:=WB a false b
def U8(a:Nat)(b c:RO)(d:QC):QC:=RZ (Ws (SW a) b c) d
def TC(a:Nat):QC:=SQ a RL
def Ul(a:Nat)(b:Int)(c:Vs):Vs:=Vr a 1 (SR b) c
def TZ:WT:=Wt RI
def TB(a:Int):CC:=Ua a iq
def Vo(a:Nat)(b c:CC):CC:=TN (mA a<|RF b) c
def Vn(a:Nat)(b:QC)(c:CC):CC:=RS a (Ti b) c
def SN(a b:Nat)(c:CC):CC:=Wq a<|SM b (UF RI RJ RL) c
def Sz(a:Nat)(b:QC):CC:=Ug a 0 b
def TY:QC:=VR 1 RI RK
def UR(a b:Nat)(c:RO)(d:Nat)(e:RO)(f:CC):CC:=Ud a b c (Vu d e) f
def UQ(a b c:Nat)(d:QC)(e f:CC):CC:=VJ a (Sa b c d) e f
def U7(a:QC):QC:=UJ<|RX a
def UA(a b:Nat)(c:QC):QC:=VH a<|Ty b c
def Uk:QC:=U0 1 RK
def Uz(a:Nat)(b:RO)(c:Nat):QC:=Wm a b<|RM c
def SG(a:Nat):CC:=VM a 4
def Uy(a b:Nat)(c:QC):QC:=UZ a<|TR b (UY RP) c
def UP:RO:=Wg 11
def Vm(a:Nat)(b:RO)(c:Nat)(d:QC):QC:=Se (Vc a b) (V6 c false RI) d
def VL(a:Int)(b:QC):QC:=TM .geq a b
def SB(a b:Nat):CC:=VG a b 4
def TW(a:Nat):RU:=VV a RK
def Ux(a:Nat)(b:RO)(c:QC)(d e:Nat)(f:CC)(g:Nat)(h:QC):CC:=VN (UM a b c<|SS d 0) e f g h
def Td:QC:=Ss 6 4
def U6(a b:Nat):QC:=RW a<|V0 1 b
def Vl(a:QC):QC:=R3<|R9 a
def Uw(a:Nat)(b:RU)(c:Nat)(d:RO):QC:=TT a b<|Uh c d
def TV(a:Nat)(b:RO)(c:Nat)(d:RO)(e:Nat)(f:QC):QC:=Wm a RI<|Se (Vd b c) (Vd d e) f
def U5(a:Nat)(b:RO):QC:=TD a RI<|Vu 5 b
def Uv(a b:Nat)(c d:RO):QC:=WN (Wy a (SW b) c)<|Vu 5 d
def U4:RO:=Wg 12
def TA(a b:Nat)(c:QC):CC:=Sj a b c iq
def Tt:QC:=Ui 0 RL
def U3:RU:=R5 59
def U2(a b:Nat)(c:Vs):RU:=Vq 133 a [.str ⟨#[]⟩,.str ⟨#[]⟩] b c
def WL:RO:=Sn (.int .u8 45)
def Tz(a b:Nat)(c:QC):QC:=VK So a b c
def Tc(a:Nat)(b:CC):CC:=Vt a (Sn qN) b
def UO:QC:=VF RN
def VD(a b:Nat)(c:RO)(d:QC):CC:=VS a (Tb b c) d
def VC(a:Nat)(b:RU)(c:Nat)(d:CC):CC:=Sy a b (RM c) d
def UN(a:Nat)(b:Int)(c d:Nat):Vs:=Ul a b<|Ve c d
def TO:RO:=Wg 8
def U1:QC:=Tx RL
def Vk(a b:Nat)(c:RO)(d:Nat)(e:QC)(f:CC):CC:=VE a (SV b RN c) d e f
def Vz(a b c:Nat)(d:QC)(e:CC):CC:=SM a (Sg b c d) e
def TU:Vs:=SF 1
def Vy(a:Nat)(b:RU)(c:Nat)(d:QC)(e:CC):CC:=Wo a b (R5 c) d e
def VP(a:RO)(b:Int)(c:Nat):QC:=VI .eql a b c
def Vx:Vs:=SF 12
def qU:=And.intro (And.intro (And.intro (And.intro (And.intro (And.intro (And.intro (And.intro @SW.eq_1 @Wg.eq_1) (And.intro @SR.eq_1 @Sn.eq_1)) (And.intro (And.intro @WI.eq_1 @Wi.eq_1) (And.intro @Us.eq_1 (And.intro @Vr.eq_1 @Wl.eq_1)))) (And.intro (And.intro (And.intro @Wt.eq_1 @RZ.eq_1) (And.intro @TT.eq_1 (And.intro @WN.eq_1 @WB.eq_1))) (And.intro (And.intro @W3.eq_1 @V7.eq_1) (And.intro @RL.eq_1 (And.intro @js.eq_1 @Wr.eq_1))))) (And.intro (And.intro (And.intro (And.intro @TN.eq_1 @TL.eq_1) (And.intro @mA.eq_1 @RF.eq_1)) (And.intro (And.intro @P9.eq_1 @iq.eq_1) (And.intro @Lb.eq_1 (And.intro @Ur.eq_1 @VZ.eq_1)))) (And.intro (And.intro (And.intro @TS.eq_1 @V6.eq_1) (And.intro @W2.eq_1 (And.intro @WU.eq_1 @W4.eq_1))) (And.intro (And.intro @TK.eq_1 @WH.eq_1) (And.intro @VU.eq_1 (And.intro @SV.eq_1 @WQ.eq_1)))))) (And.intro (And.intro (And.intro (And.intro (And.intro @W7.eq_1 @WY.eq_1) (And.intro @VY.eq_1 @Vq.eq_1)) (And.intro (And.intro @Wz.eq_1 @WZ.eq_1) (And.intro @Ws.eq_1 (And.intro @UL.eq_1 @WM.eq_1)))) (And.intro (And.intro (And.intro @UI.eq_1 @Vp.eq_1) (And.intro @WW.eq_1 (And.intro @WV.eq_1 @WP.eq_1))) (And.intro (And.intro @Vd.eq_1 @Vh.eq_1) (And.intro @WX.eq_1 (And.intro @Wy.eq_1 @Vi.eq_1))))) (And.intro (And.intro (And.intro (And.intro @W0.eq_1 @W6.eq_1) (And.intro @Wj.eq_1 (And.intro @WR.eq_1 @W5.eq_1))) (And.intro (And.intro @WA.eq_1 @RI.eq_1) (And.intro @SM.eq_1 (And.intro @RW.eq_1 @Se.eq_1)))) (And.intro (And.intro (And.intro @Tq.eq_1 @Wm.eq_1) (And.intro @UM.eq_1 (And.intro @Uf.eq_1 @Vw.eq_1))) (And.intro (And.intro @Vv.eq_1 @Vg.eq_1) (And.intro @R1.eq_1 (And.intro @VX.eq_1 @Sf.eq_1))))))) (And.intro (And.intro (And.intro (And.intro (And.intro (And.intro @Wb.eq_1 @Uu.eq_1) (And.intro @Vu.eq_1 @RM.eq_1)) (And.intro (And.intro @V4.eq_1 @Tb.eq_1) (And.intro @VW.eq_1 (And.intro @V3.eq_1 @Vt.eq_1)))) (And.intro (And.intro (And.intro @Wx.eq_1 @RJ.eq_1) (And.intro @RQ.eq_1 (And.intro @Sj.eq_1 @Ta.eq_1))) (And.intro (And.intro @Sy.eq_1 @RV.eq_1) (And.intro @Wa.eq_1 (And.intro @Ut.eq_1 @TM.eq_1))))) (And.intro (And.intro (And.intro (And.intro @RK.eq_1 @R5.eq_1) (And.intro @So.eq_1 (And.intro @V9.eq_1 @WS.eq_1))) (And.intro (And.intro @Vj.eq_1 @Uj.eq_1) (And.intro @Ww.eq_1 (And.intro @UK.eq_1 @RY.eq_1)))) (And.intro (And.intro (And.intro @Wk.eq_1 @Ts.eq_1) (And.intro @V2.eq_1 (And.intro @Wv.eq_1 @Sm.eq_1))) (And.intro (And.intro @V1.eq_1 @WJ.eq_1) (And.intro @Su.eq_1 (And.intro @Sc.eq_1 @Ui.eq_1)))))) (And.intro (And.intro (And.intro (And.intro (And.intro @V0.eq_1 @Wq.eq_1) (And.intro @Wo.eq_1 @Wh.eq_1)) (And.intro (And.intro @Wu.eq_1 @Vf.eq_1) (And.intro @Tp.eq_1 (And.intro @V8.eq_1 @VV.eq_1)))) (And.intro (And.intro (And.intro @R4.eq_1 @R2.eq_1) (And.intro @SS.eq_1 (And.intro @UJ.eq_1 @Uh.eq_1))) (And.intro (And.intro @Sg.eq_1 @Ve.eq_1) (And.intro @VK.eq_1 (And.intro @Ug.eq_1 @Tr.eq_1))))) (And.intro (And.intro (And.intro (And.intro @RN.eq_1 @WG.eq_1) (And.intro @VJ.eq_1 (And.intro @VT.eq_1 @UH.eq_1))) (And.intro (And.intro @VS.eq_1 @UG.eq_1) (And.intro @Ss.eq_1 (And.intro @UF.eq_1 @VI.eq_1)))) (And.intro (And.intro (And.intro @VO.eq_1 @SL.eq_1) (And.intro @U0.eq_1 (And.intro @WF.eq_1 @SQ.eq_1))) (And.intro (And.intro @RP.eq_1 @Sb.eq_1) (And.intro @Ue.eq_1 (And.intro @S9.eq_1 @R0.eq_1)))))))) (And.intro (And.intro (And.intro (And.intro (And.intro (And.intro (And.intro @RS.eq_1 @Vc.eq_1) (And.intro @R3.eq_1 @VH.eq_1)) (And.intro (And.intro @R7.eq_1 @RT.eq_1) (And.intro @R6.eq_1 (And.intro @Sl.eq_1 @Wn.eq_1)))) (And.intro (And.intro (And.intro @SA.eq_1 @VN.eq_1) (And.intro @Ud.eq_1 (And.intro @VG.eq_1 @RR.eq_1))) (And.intro (And.intro @VF.eq_1 @Wf.eq_1) (And.intro @Uq.eq_1 (And.intro @VM.eq_1 @Ty.eq_1))))) (And.intro (And.intro (And.intro (And.intro @Sa.eq_1 @Sx.eq_1) (And.intro @We.eq_1 @Wd.eq_1)) (And.intro (And.intro @TR.eq_1 @RX.eq_1) (And.intro @To.eq_1 (And.intro @Tn.eq_1 @SK.eq_1)))) (And.intro (And.intro (And.intro @SJ.eq_1 @UZ.eq_1) (And.intro @SF.eq_1 (And.intro @Si.eq_1 @V5.eq_1))) (And.intro (And.intro @R9.eq_1 @Sk.eq_1) (And.intro @Vb.eq_1 (And.intro @VE.eq_1 @SP.eq_1)))))) (And.intro (And.intro (And.intro (And.intro (And.intro @SU.eq_1 @Tx.eq_1) (And.intro @Sp.eq_1 @SI.eq_1)) (And.intro (And.intro @Tm.eq_1 @WE.eq_1) (And.intro @TJ.eq_1 (And.intro @TQ.eq_1 @SZ.eq_1)))) (And.intro (And.intro (And.intro @Wc.eq_1 @Tw.eq_1) (And.intro @UY.eq_1 (And.intro @Tl.eq_1 @R8.eq_1))) (And.intro (And.intro @Tk.eq_1 @SH.eq_1) (And.intro @Uc.eq_1 (And.intro @Sw.eq_1 @SY.eq_1))))) (And.intro (And.intro (And.intro (And.intro @ST.eq_1 @TP.eq_1) (And.intro @TI.eq_1 (And.intro @Sd.eq_1 @Sv.eq_1))) (And.intro (And.intro @TH.eq_1 @Ub.eq_1) (And.intro @Sr.eq_1 (And.intro @SE.eq_1 @Tj.eq_1)))) (And.intro (And.intro (And.intro @SO.eq_1 @UX.eq_1) (And.intro @TG.eq_1 (And.intro @Ua.eq_1 @UE.eq_1))) (And.intro (And.intro @UD.eq_1 @VR.eq_1) (And.intro @UC.eq_1 (And.intro @UW.eq_1 @Ti.eq_1))))))) (And.intro (And.intro (And.intro (And.intro (And.intro (And.intro @SD.eq_1 @Th.eq_1) (And.intro @Up.eq_1 @Uo.eq_1)) (And.intro (And.intro @UV.eq_1 @Un.eq_1) (And.intro @TF.eq_1 (And.intro @UB.eq_1 @Tv.eq_1)))) (And.intro (And.intro (And.intro @Va.eq_1 @Tg.eq_1) (And.intro @Tf.eq_1 (And.intro @Te.eq_1 @WD.eq_1))) (And.intro (And.intro @TE.eq_1 @SX.eq_1) (And.intro @UU.eq_1 (And.intro @SC.eq_1 @U9.eq_1))))) (And.intro (And.intro (And.intro (And.intro @TD.eq_1 @Tu.eq_1) (And.intro @Sq.eq_1 (And.intro @UT.eq_1 @Um.eq_1))) (And.intro (And.intro @US.eq_1 @VQ.eq_1) (And.intro @U8.eq_1 (And.intro @TC.eq_1 @Ul.eq_1)))) (And.intro (And.intro (And.intro @TZ.eq_1 @TB.eq_1) (And.intro @Vo.eq_1 (And.intro @Vn.eq_1 @SN.eq_1))) (And.intro (And.intro @Sz.eq_1 @TY.eq_1) (And.intro @UR.eq_1 (And.intro @UQ.eq_1 @U7.eq_1)))))) (And.intro (And.intro (And.intro (And.intro (And.intro @UA.eq_1 @Uk.eq_1) (And.intro @Uz.eq_1 @SG.eq_1)) (And.intro (And.intro @Uy.eq_1 @UP.eq_1) (And.intro @Vm.eq_1 (And.intro @VL.eq_1 @SB.eq_1)))) (And.intro (And.intro (And.intro @TW.eq_1 @Ux.eq_1) (And.intro @Td.eq_1 (And.intro @U6.eq_1 @Vl.eq_1))) (And.intro (And.intro @Uw.eq_1 @TV.eq_1) (And.intro @U5.eq_1 (And.intro @Uv.eq_1 @U4.eq_1))))) (And.intro (And.intro (And.intro (And.intro @TA.eq_1 @Tt.eq_1) (And.intro @U3.eq_1 (And.intro @U2.eq_1 @WL.eq_1))) (And.intro (And.intro @Tz.eq_1 @Tc.eq_1) (And.intro @UO.eq_1 (And.intro @VD.eq_1 @VC.eq_1)))) (And.intro (And.intro (And.intro @UN.eq_1 @TO.eq_1) (And.intro @U1.eq_1 (And.intro @Vk.eq_1 @Vz.eq_1))) (And.intro (And.intro @TU.eq_1 @Vy.eq_1) (And.intro @VP.eq_1 (And.intro @Vx.eq_1 @qN.eq_1))))))))
def F10:bw:=⟨13,0,(Tl 1 2 RI V2 RL<|Sy 3 V2 RL<|Uo 4 0 RK (Uu (R5 44) 0 RN Sp)<|TI 8 1 7 (Uu (R5 45) 1 TO Sp)<|VD 12 2 SC<|Uh 2 UP),[.cell 2 2 true],true⟩
def F44:bw:=⟨23,0,(Tc 2<|Sj 5 5 (ST (TK RI) (WH 72 3 56 [.int .i64 0,.list 0 [] .nil,.list 0 [] .nil] RI RI) 3)<|SY 4 0 8 4 (Tg 9) 11 (TE 1 (js 14<|SO<|SO<|R9<|Sr 4 3 3<|SK 86 (SV 3 Sd RR)<|U0 3 RJ) 12 8 4)<|VG 22 3 2),[.tmp 2],true⟩
def F45:bw:=⟨23,0,(Tc 2<|Sj 5 5 (ST (TK RI) (WH 68 5 64 [.int .i64 0,.str ⟨#[]⟩,.int .i64 0,.int .i64 0,.list 0 [] .nil] RI RI) 3)<|SY 4 0 8 4 (Tg 9) 11 (TE 1 (js 14<|SO<|SO<|R9<|Sr 4 5 5<|SK 87 (SV 5 Sd RR)<|U0 5 RJ) 12 8 4)<|VG 22 3 2),[.tmp 2],true⟩
def F86:bw:=⟨16,0,(Tl 1 3 RI Wk RL<|Sy 3 Wk RL<|Uo 4 0 RK (Sx 0 RK Sp)<|TI 7 1 6 (Uu (R5 122) 1 Sd Sp)<|TI 11 2 10 (Uu (R5 123) 2 UP Sp)<|VD 15 3 U4<|Ss 3 2),[.cell 2 3 true],true⟩
def F87:bw:=⟨21,0,(Tl 1 5 RI Wa RL<|Sy 3 Wa RL<|Uo 4 0 RK (Sx 0 RK Sp)<|TI 7 1 6 (Sx 1 RR Sp)<|TI 10 2 9 (Sx 2 SC Sp)<|TI 13 3 12 (Sx 3 U4 Sp)<|Vz 16 4 1 (VK (R5 123) 4 3 Sp)<|Sb 20 5 3<|Ss 5 2),[.cell 2 5 true],true⟩
def F122:bw:=⟨22,0,(Tc 2<|Sj 5 5 (ST (TK RI) (WH 9 1 16 [.str ⟨#[]⟩] RI RI) 3)<|SY 4 0 8 4 (Tg 9) 11 (TE 1 (js 14<|SO<|SO<|R9<|RW 4<|Vm 1 RJ 1<|RZ (SV 1 RR RP) Sp) 12 8 4)<|VG 21 3 2),[.tmp 2],true⟩
def F123:bw:=⟨23,0,(Tc 2<|Sj 5 5 (ST (TK RI) (WH 133 2 32 [.str ⟨#[]⟩,.str ⟨#[]⟩] RI RI) 3)<|SY 4 0 8 4 (Tg 9) 11 (TE 1 (js 14<|SO<|SO<|R9<|Sr 4 2 2<|SK 170 (SV 2 Sd RR)<|U0 2 RJ) 12 8 4)<|VG 22 3 2),[.tmp 2],true⟩
def F170:bw:=⟨11,0,(Tl 1 2 RI Wn RL<|Sy 3 Wn RL<|Uo 4 0 RK (Sx 0 RK Sp)<|TI 7 1 6 (Sx 1 RR Sp)<|VD 10 2 Sd<|Uh 2 SC),[.cell 2 2 true],true⟩
def F66:bw:=⟨12,0,(Tl 1 3 RI Wk RL<|Uo 3 1 RJ (Uu (R5 103) 1 RP Sp)<|TI 7 2 6 (Uu (R5 108) 2 SC Sp)<|VD 11 3 TF<|Uh 3 TF),[.cell 2 3 true],true⟩
def F68:bw:=⟨8,0,(Tl 1 5 RI Wa RL<|Uo 3 4 RJ (Uu (R5 108) 4 RP Sp)<|VD 7 5 RR<|Uh 5 RR),[.cell 2 5 true],true⟩
def F103:bw:=⟨11,0,(Tc 2<|R2 3 3 (UX .eql RI R0 RL) 5 (V8 2<|Sn qN)<|TA 6 6<|Se (TK RI) (WQ 9 1 16 R0 RI)<|RQ 9<|SU 9 1 16 RJ 2),[.tmp 2],true⟩
def F108:bw:=⟨11,0,(Tc 2<|R2 3 3 (UX .eql RI R0 RL) 5 (V8 2<|Sn qN)<|TA 6 6<|Se (TK RI) (WQ 133 2 32 R0 RI)<|RQ 9<|SU 133 2 32 RJ 2),[.tmp 2],true⟩
def F8:bw:=⟨18,0,(UR 2 2 RJ 4 R0<|Uo 5 0 RK (RQ 6<|TJ 38 1)<|R2 9 8 Tt 10 R8<|TI 11 1 9 (RQ 12<|TJ 39 1)<|SP 15 1 0 16 R8<|SB 17 1),[.tmp 4],false⟩
def F13:bw:=⟨17,0,(Tl 2 2 RJ (Ur 2 RJ) Sk<|VJ 5 (V4 0 RK 1<|Sa 0 4<|Tf<|TW 48) (SG 10)<|UQ 11 1 9 (Sa 1 10<|Tf<|TW 49) (SG 16)<|SE 4),[.tmp 4],false⟩
def F38:bw:=⟨27,0,(Ua 0<|Sj 6 5 (RQ 7<|UX .sub RK RI<|RM 1)<|R2 10 9 Tt 11 R8<|SY 5 0 12 7 (R9<|VF RK) 15 (TE 1 (RS 18 (Sr 5 3 3<|RX<|TJ 79 1)<|R1 24 1 Tt<|RV 25 R8) 16 11 5)<|SB 26 1),[.tmp 4],false⟩
def F39:bw:=⟨27,0,(Ua 0<|Sj 6 5 (RQ 7<|UX .sub RK RI<|RM 1)<|R2 10 9 Tt 11 R8<|SY 5 0 12 7 (R9<|VF RK) 15 (TE 1 (RS 18 (Sr 5 5 5<|RX<|TJ 80 1)<|R1 24 1 Tt<|RV 25 R8) 16 11 5)<|SB 26 1),[.tmp 4],false⟩
def F48:bw:=⟨27,0,(Sv 4<|R2 6 6 (We RI<|RQ 7<|UX .neq RK RI RL) 10 (SL 4)<|SY 5 0 11 6 (Tg 12) 14 (TE 1 (RS 17 (Sr 5 3 3<|RX<|Sr 5 3 3<|Tf<|VV 93 RP)<|SG 26) 15 10 5)<|SE 4),[.tmp 4],false⟩
def F49:bw:=⟨27,0,(Sv 4<|R2 6 6 (We RI<|RQ 7<|UX .neq RK RI RL) 10 (SL 4)<|SY 5 0 11 6 (Tg 12) 14 (TE 1 (RS 17 (Sr 5 5 5<|RX<|Sr 5 5 5<|Tf<|VV 94 RP)<|SG 26) 15 10 5)<|SE 4),[.tmp 4],false⟩
def F59:bw:=⟨20,0,(Vt 2 UH<|R2 4 4 (TM .leq 0 RL) 5 (V8 2<|Sn (.str ⟨#[109,48]⟩))<|Vt 3 UH<|Vo 0 (Wd 6 6 (Uc 0 RL) 7<|mA 1<|Sj 8 8 (SA (TQ .rem 10) .add (SR 48)<|Se (VY .u8 RI) (Wc 5 1 1 TU)<|RZ (Wz RI)<|SO<|Vg .add RJ RI<|RM 3)<|R7 16 0<|TM .quo 10<|RM 0)<|Ug 18 3<|Vg .add (Sn (.str ⟨#[109]⟩)) RI<|RM 2),[.tmp 2],false⟩
def F60:bw:=⟨22,0,(Ua 0<|SH 5 0 (Ux 6 RI (Tg 7) 9 1 (TN (Tw 12 (RQ 12<|RQ 8<|Vm 1 RJ 1<|RX<|SD U3 .neq RL) [(3,5)]<|RV 18 R8)<|R7 19 1<|V0 1 1) 10<|Uq 5 5)<|SB 21 1),[.tmp 4],false⟩
def F61:bw:=⟨33,0,(Ua 0<|SH 5 0 (Ux 6 RI (Tg 7) 9 1 (TN (Tw 12 (RQ 12<|RQ 8<|V1 2 RJ RI 0 RI<|U7<|SD U3 .neq RL) [(4,6)]<|RV 19 R8)<|Tm 20 1 1<|TN (Tw 22 (R9<|RT 5 2 1<|U7<|SD U3 .neq RL) [(4,6)]<|RV 29 R8)<|R7 30 1<|V0 1 1) 10<|Uq 5 5)<|SB 32 1),[.tmp 4],false⟩
def F79:bw:=⟨18,0,(UR 2 3 RJ 4 R0<|Uo 5 1 RK (RQ 6<|TJ 116 1)<|R2 9 8 Tt 10 R8<|TI 11 2 9 (RQ 12<|TJ 117 1)<|SP 15 1 0 16 R8<|SB 17 1),[.tmp 4],false⟩
def F80:bw:=⟨19,0,(UR 2 5 RJ 4 R0<|Sj 5 4 (Sa 1 4<|SA Si .sub RN<|RM 1)<|R2 10 9 Tt 11 R8<|TI 12 4 10 (RX<|TJ 117 1)<|SP 16 1 0 17 R8<|SB 18 1),[.tmp 4],false⟩
def F93:bw:=⟨22,0,(Tl 2 3 RJ (Ur 3 RJ) Sk<|VJ 5 (V4 0 RK 1<|Sa 0 4<|Te RK) (SG 9)<|UQ 10 1 8 (Sa 1 9<|Tf<|TW 129) (SG 15)<|SZ 16 2 2 (Sg 2 3<|Tf<|TW 130) (SG 21)<|SE 4),[.tmp 4],false⟩
def F94:bw:=⟨31,0,(Tl 2 5 RJ (Ur 5 RJ) Sk<|VJ 5 (V4 0 RK 1<|Sa 0 4<|Te RK) (SG 9)<|UQ 10 1 8 (Sa 1 9<|Te RK) (SG 14)<|SZ 15 2 2 (Sg 2 3<|Te RK) (SG 19)<|SZ 20 3 2 (Sg 3 3<|Te RK) (SG 24)<|SZ 25 4 2 (Sg 4 3<|Tf<|TW 130) (SG 30)<|SE 4),[.tmp 4],false⟩
def F116:bw:=⟨28,0,(Ua 0<|Sj 6 5 (RQ 7<|UX .sub RK RI<|RM 1)<|R2 10 9 Tt 11 R8<|SY 5 0 12 7 (R9<|VF RK) 15 (TE 1 (R1 18 1 (R9<|Ti<|Vm 1 RJ 1<|SA Si .sub RR<|RM 1)<|R1 25 1 Tt<|RV 26 R8) 16 11 5)<|SB 27 1),[.tmp 4],false⟩
def F117:bw:=⟨27,0,(Ua 0<|Sj 6 5 (RQ 7<|UX .sub RK RI<|RM 1)<|R2 10 9 Tt 11 R8<|SY 5 0 12 7 (R9<|VF RK) 15 (TE 1 (RS 18 (Sr 5 2 2<|RX<|TJ 165 1)<|R1 24 1 Tt<|RV 25 R8) 16 11 5)<|SB 26 1),[.tmp 4],false⟩
def F129:bw:=⟨26,0,(Sv 4<|R2 6 6 (We RI<|RQ 7<|UX .neq RK RI RL) 10 (SL 4)<|SY 5 0 11 6 (Tg 12) 14 (TE 1 (Vn 17 (Vm 1 RJ 1<|RX<|Ti<|Vm 1 RJ 1<|Te RP)<|SG 25) 15 10 5)<|SE 4),[.tmp 4],false⟩
def F130:bw:=⟨27,0,(Sv 4<|R2 6 6 (We RI<|RQ 7<|UX .neq RK RI RL) 10 (SL 4)<|SY 5 0 11 6 (Tg 12) 14 (TE 1 (RS 17 (Sr 5 2 2<|RX<|Sr 5 2 2<|Tf<|VV 176 RP)<|SG 26) 15 10 5)<|SE 4),[.tmp 4],false⟩
def F165:bw:=⟨20,0,(UR 2 2 RJ 4 R0<|Sj 5 4 (Sa 0 4<|SA Si .sub RN<|RM 1)<|R2 10 9 Tt 11 R8<|Sj 12 11 (Sa 1 11<|SA Si .sub RN<|RM 1)<|SP 17 1 0 18 R8<|SB 19 1),[.tmp 4],false⟩
def F176:bw:=⟨15,0,(Tl 2 2 RJ (Ur 2 RJ) Sk<|VJ 5 (V4 0 RK 1<|Sa 0 4<|Te RK) (SG 9)<|UQ 10 1 8 (Sa 1 9<|Te RK) (SG 14)<|SE 4),[.tmp 4],false⟩
def F40:bw:=⟨95,0,(Ud 1 2 RI Vb<|UQ 6 0 5 (UU .gtr RI 200<|R6<|Sa 1 10<|UU .gtr RI 400<|Sw 5) (RV 15<|Ta 2 1 iq)<|SH 3 0 (Uj 16 3 (Sq 1 UO) (SS 20 0)<|Vf 1 (SM 23 (Sq 1<|Sr 3 3 3<|SK 81 Tr<|Ty 3<|Uc 0<|Tj 0 1<|UT 3 .sub 1 (Vc 3 RK)<|SX 0<|Sq 1<|RT 3 3 0<|SA So .geq Sd<|VQ 30<|U8 33 RI Tq<|V7<|U8 30 Sf RI RL)<|RV 49<|Ta 2 1 iq) 21<|U6 3 3)<|SH 4 2 (Uj 50 4 (Sg 1 1 UO) (SS 54 2)<|Vf 3 (Vz 57 1 1 (Sr 4 5 5<|TT 5 Wa<|Ss 5 5)<|Vy 62 (Su 5 5) 82 (Tx<|Ty 4<|Uc 0<|Tj 1 1<|UT 4 .sub 1 (Vc 5 RK)<|SX 0<|Sq 5<|UE RK RI<|VQ 65<|Ut 11 RI Tq<|V7<|U8 65 Sf RI<|R6<|TH 2 1 2 5<|SJ 83 RK<|Ui 0<|VH 6<|R6<|TH 2 1 3 5<|SJ 83 RK<|Ui 0<|Sw 6)<|RV 94<|Ta 2 1 iq) 55<|U6 4 4)<|Ta 2 0 iq),[.tmp 2],false⟩
def F41:bw:=⟨8,0,(Tl 1 5 RI Wa RL<|Uo 3 4 RJ (Uu (R5 84) 4 RP Sp)<|VD 7 5 RR<|Uh 5 RR),[.cell 2 5 true],false⟩
def F42:bw:=⟨12,0,(Tl 1 3 RI Wk RL<|Tw 3 (V4 0 RJ 1<|Sa 1 4<|Uu (R5 85) 2 Sd<|Va 84<|RZ (WF<|Vr 0 1 Sd<|Vr 1 1 RN<|Ve 2 1)<|Uh 3 TF) [(1,4),(4,6),(1,7)] iq),[.cell 2 3 true],false⟩
def F43:bw:=⟨52,0,(UR 3 2 RK 6 (Sn qN)<|VC 9 (Vq 2 1 [.int .i64 0] 0 Us) 7<|SH 8 0 (Ux 10 RJ (Sa 1 8 UO) 14 1 (R1 17 2 (Tj 1 3<|RT 8 5 2<|U7<|Ue RJ RI<|SQ 9<|Ty 2<|Tx<|Tj 1 3<|RT 8 5 3<|U7<|Ue RJ RI<|VQ 28<|Ut 9 RI Tq<|V7<|U8 28 Sf RI RL)<|RV 41<|R7 42 7<|Sg 1 3<|RT 8 5 0<|Tp (Vq 2 1 [.int .i64 0] 1 TU)<|SU 2 1 8 TO 7) 15<|Uq 7 8)<|VG 51 7 6),[.tmp 6],false⟩
def F81:bw:=⟨16,0,(Ud 1 3 RI Sk<|Uo 3 0 RJ (R4 118<|R3<|Sa 1 6<|R4 119<|SQ 4<|R3<|Sa 2 11<|R4 120<|TG 4 2) iq),[.tmp 2],false⟩
def F82:bw:=⟨26,0,(Ud 1 5 RI Sk<|Uo 3 0 RJ (R4 118<|R3<|Sa 1 6<|R4 121<|SQ 4<|R3<|Sa 2 11<|R4 118<|SQ 4<|Tj 3 1<|R4 118<|SQ 4<|Tj 4 1<|R4 120<|TG 4 2) iq),[.tmp 2],false⟩
def F83:bw:=⟨22,0,(UR 2 2 RJ 4 R0<|SH 5 0 (Ux 6 RI (Sa 0 5 UO) 10 1 (TI 13 0 11 (RQ 10<|V1 3 RJ RI 0 RI<|U7<|Ue RJ RI RL)<|RV 20<|SB 21 5) 11<|Uq 6 5) R8),[.tmp 4],false⟩
def F84:bw:=⟨6,0,(Tc 2<|VS 3 (U2 2 0 Us)<|RQ 4<|SU 133 2 32 RJ 2),[.tmp 2],false⟩
def F85:bw:=⟨6,0,(Tc 2<|VS 3 (Vq 9 1 [.str ⟨#[]⟩] 0 Us)<|RQ 4<|SU 9 1 16 RJ 2),[.tmp 2],false⟩
def F118:bw:=⟨9,0,(Sv 2<|TA 3 3<|VL 1<|R3<|RQ 6<|TM .leq 1000000000000<|TG 3 2),[.tmp 2],false⟩
def F119:bw:=⟨24,0,(Sv 2<|R2 4 4 (UU .gtr RI 10<|R6<|RQ 8<|SK 166 Tr<|Sw 4) 11 (SL 2)<|SY 3 0 12 9 (R9<|VF RK) 15 (Vf 1 (RS 18 (RW 3<|Vm 1 RJ 1<|SK 121 Tr RL)<|VM 23 2) 16<|U6 3 3)<|SE 2),[.tmp 2],false⟩
def F120:bw:=⟨47,0,(Sv 2<|R2 4 4 (UU .gtr RI 20 RL) 6 (SL 2)<|SY 3 0 7 4 (Tg 8) 10 (TE 1 (RS 13 (SO<|V1 2 RJ RI 0 RI<|Va 121<|Tx<|Ty 3<|Uc 0<|Vl<|UT 3 .sub 1 (Vc 2 RK)<|SX 0<|R9<|RT 3 2 0<|SA So .geq RR<|VQ 20<|U8 23 RI Tq<|V7<|U8 20 Sf RI<|Ty 0<|RT 3 2 1<|Va 167<|Tx<|Sw 8)<|VM 46 2) 11 8 3)<|SE 2),[.tmp 2],false⟩
def F121:bw:=⟨42,0,(Sv 2<|R2 4 4 (V5 Si .lss 1<|R6<|RQ 8<|V5 Si .gtr 20<|VH 4<|R6<|RY 0 (WM RI R0) (R5 168)<|Tx<|Sw 5) 17 (SL 2)<|TN (Ta 3 1<|Wq 0<|Uj 18 3 (R9<|SD Si .lss RL) (SS 21 0)<|Vf 1 (RS 24 (RY 3 (UY RJ) (R5 168)<|Tx<|Vl<|RY 3 (UY RJ) (R5 169)<|Tx<|SQ 6<|Vl<|RW 3<|To (UY RJ) .neq (Sn (.int .u8 95))<|TC 5)<|VM 41 2) 22<|U6 3 3)<|SE 2),[.tmp 2],false⟩
def F166:bw:=⟨20,0,(Sv 2<|TN (Ta 3 1<|Wq 0<|Ux 4 RI (Tg 5) 7 1 (Sj 10 10 (RQ 8<|Se (TQ .sub 1) (Vc 1 RK)<|UJ<|R9<|RW 3<|Vm 1 RJ 1<|UE RP RI RL)<|VM 19 2) 8<|Uq 5 3)<|SE 2),[.tmp 2],false⟩
def F167:bw:=⟨13,0,(Sv 2<|Sj 4 4 (R4 186<|Uw 3 Uf 6 RK)<|Uo 6 0 RK (TM .neq 0<|R3<|Se (Tb 6 Sd) (R5 191)<|TG 3 2) iq),[.tmp 2],false⟩
def F168:bw:=⟨17,0,(Sv 2<|TA 3 3<|UE RI (Sn (.int .u8 97))<|R3<|RQ 6<|Vg .leq RI (Sn (.int .u8 122))<|SQ 3<|R6<|RQ 10<|UE RI (Sn (.int .u8 65))<|Vl<|Vg .leq RI (Sn (.int .u8 90))<|W3 6 false<|Ut 3 RI Tq<|VH 7<|RM 2),[.tmp 2],false⟩
def F169:bw:=⟨9,0,(Sv 2<|TA 3 3<|UE RI WD<|R3<|RQ 6<|Vg .leq RI (Sn (.int .u8 57))<|TG 3 2),[.tmp 2],false⟩
def F186:bw:=⟨29,0,(Sy 2 Uf RL<|R2 5 5 (V5 Si .gtr 2000 RL) 7 (U9 8 (Um 0 1 (-1))<|Uh 6 Sd)<|Sj 9 9 (ST (UL [.str ⟨#[]⟩,.int .i64 0,.bool false] TU) (Ur 3 RI) 3)<|Sj 12 9 (RZ (UG 200 R0)<|Uw 4 Uf 6 TF)<|R2 14 11 (SI 2<|R6<|RW 3<|Ts 1<|UJ<|R9<|SD Si .neq<|Sw 8) 26 (U9 27 (Um 0 1 (-1))<|Ss 6 2)<|Sb 28 6 4<|Ss 6 2),[.cell 2 6 true],false⟩
def F191:bw:=⟨35,0,(Ud 1 6 RI Sk<|VJ 4 (V4 0 RK 1<|Ui 0<|R6<|Sa 0 7<|VL 8<|Sw 4) (VM 11 2)<|SY 3 0 12 9 (Sa 4 12 UO) 16 (Vf 1 (Vz 19 4 1 (RT 3 6 0<|To So .neq R0<|Tj 4 1<|Sr 3 6 6<|SK 191 Tr<|TC 8)<|VM 34 2) 17<|U6 3 3)<|SE 2),[.tmp 2],false⟩
def F200:bw:=⟨135,1,(Sy 4 Uf RL<|R2 7 7 (SI 2<|R6<|RQ 12<|SI 1<|TR 0 Si<|UE RR RI<|Sw 11) 22 (Sz 23<|R4 209 Td)<|TN (mA 0<|UB 26 (UG 210 Wh) 25<|TL 25 (U9 28 Us Td)<|UB 30 (Tk (.str ⟨#[116,114,117,101]⟩)) 29<|TL 29 (U9 32 (Ul 0 1<|Um 1 1 1) Td)<|UB 34 (Tk (.str ⟨#[102,97,108,115,101]⟩)) 33<|TL 33 (U9 36 (Um 0 1 1) Td)<|UB 38 (Tk (.str ⟨#[34]⟩)) 37<|TL 37 (Sz 40<|SK 211 (Vv<|UN 0 3 3 1) Td)<|UB 44 (Tk (.str ⟨#[64]⟩)) 43<|TL 43 (Sz 46<|R4 212 Td)<|UB 49 (Tk (.str ⟨#[40]⟩)) 48<|TL 48 (UB 51 (R5 213) 5<|RS 53 (UZ 2<|R6<|RY 0 (Tk (.str ⟨#[32]⟩)) Tr<|V7<|Se (Ws RN Sf RI) (UI TF)<|Sx 2 RI Uk)<|UB 65 (R5 213) 6<|Sc 67 0 (SI 2<|R6<|RY 0 (Tk (.str ⟨#[41]⟩)) Tr<|UA 4 5<|Ui (-1000000)<|UA 3 5<|Uc 1000000<|UA 3 6<|Ui (-1000000)<|UA 3 6<|Uc 1000000<|Sw 3) 91 (Sz 92<|R4 209 Td)<|Ug 94 5<|RW 6<|RZ (Vv<|Ul 0 5<|Vr 1 1 RJ<|Ve 2 1) Td)<|UB 98 (Tk (.str ⟨#[110]⟩)) 97<|TL 97 (Sz 100<|RZ (UG 214<|SR 8) Td)<|UB 103 (Tk (.str ⟨#[101]⟩)) 102<|TL 102 (Sz 105<|RZ (UG 214<|SR 9) Td)<|UB 108 (Tk (.str ⟨#[60]⟩)) 107<|TL 107 (Sz 110<|R4 215 Td)<|R1 113 1 (Ui 5<|Vl<|RZ (Tk (.str ⟨#[91]⟩))<|TG 3 112)<|TL 112 (Sz 119<|RX<|RZ (Tn 216) Td)<|R1 123 1 (Ui 5<|Vl<|RZ (Tk (.str ⟨#[123]⟩))<|TG 3 122)<|RV 122<|Sz 129<|RX<|RZ (Tn 217) Td)<|Sz 132<|SK 213 (Vv<|UN 0 2 1 1) Td),[.cell 4 6 true],false⟩
def F209:bw:=⟨7,1,(Sy 2 Uf RL<|Sj 3 3 (Ts 2<|U0 1 Sf)<|U9 6 (Um 0 1 (-1))<|Uh 6 RP),[.cell 2 6 true],false⟩
def F210:bw:=⟨33,1,(Sv 4<|R2 5 5 (Ts 2<|Tp Tr<|R3<|SO<|SI 0<|TR 1 (Vp RP TZ Wl)<|RX<|RZ (Tn 231)<|TC 12) 22 (RS 23 (UZ 1<|RX<|SD Si .add<|Vj TO 1 Uk)<|SE 4)<|SL 4),[.tmp 4],false⟩
def F211:bw:=⟨122,1,(Vt 2 UH<|VC 5 (Wc 5 1 0 Us) 3<|Vo 0 (Wd 6 6 (SI 1<|RQ 10<|Ts 0<|Tp Si<|UF RR RI RL) 15<|mA 1<|RS 16 (SI 0<|TR 1 (UY RP)<|RM 4)<|RS 25 (S9 1<|UD So 1<|Vj RR 1 Uk)<|Vf 2 (R1 34 4 (TP RI (.int .u8 34)<|RM 33)<|TL 33 (Ug 36 3<|Sm (Wz RI) 2)<|R1 39 4 (UF RI (Sn (.int .u8 32))<|RM 38)<|TL 38 (RS 41 (Ts 2<|U0 1 Sf)<|V8 2 UH)<|R1 45 4 (TP RI (.int .u8 92)<|RM 44)<|RV 44<|Sc 47 0 (SI 1<|TR 0 Si<|UE RR RI<|R6<|Uy 0 1<|Wf RI (Sn (.int .u8 34))<|R3<|Uy 0 1<|Wf RI (Sn (.int .u8 92))<|VQ 57<|Ut 11 RI Tq<|R3<|Uy 0 1<|Wf RI (Sn (.int .u8 110))<|VQ 57<|Ut 11 RI Tq<|V7<|U8 57 Sf RI RL) 92 (RS 93 (Ts 2<|U0 1 Sf)<|V8 2 UH)<|RS 96 (SI 0<|TR 1 (UY RP)<|RM 4)<|Sc 105 4 (TP RI (.int .u8 110) RL) 106 (js 4<|VT<|Sn (.int .u8 10))<|R7 107 0<|S9 1<|UD So 1<|Vj RR 1 Uk) 115<|RW 3<|RY 4 (Wc 5 1 1 TU) (Sl 5 1 1 RK)<|RM 3)<|RS 119 (Ts 2<|U0 1 Sf)<|V8 2 UH),[.tmp 2],false⟩
def F212:bw:=⟨84,1,(Sy 2 Uf RL<|Sj 8 8 (Sm (UG 232<|SR 4) 3)<|Sj 10 10 (SO<|SI 2<|R6<|RY 0 (Tk (.str ⟨#[45]⟩)) Tr<|V7<|Se (Ws RN Sf RI) (UI TF)<|Sx 2 RI Uk)<|UB 22 (UG 232<|SR 2) 4<|RS 24 (UZ 2<|R6<|RY 0 (Tk (.str ⟨#[45]⟩)) Tr<|V7<|Se (Ws RN Sf RI) (UI TF)<|Sx 2 RI Uk)<|UB 36 (UG 232<|SR 2) 5<|Sc 38 0 (SI 2<|Ty 3<|Ui 1<|UA 3 4<|Ui 1<|UA 3 4<|Uc 12<|UA 3 5<|Ui 1<|UA 3 5<|RW 3<|RW 4<|SA (Tn 233) .gtr RN<|Sw 6) 64 (Sz 65<|R4 209<|Ss 6 2)<|R1 67 3 (R4 234<|Ti<|V5 (VU .add RJ RI) .sub 1<|RM 6)<|TN (Ta 7 1<|Wq 0<|Uj 72 7 (RW 4<|UF RJ RI RL) (SS 74 0)<|Vf 1 (R7 77 6<|RW 3<|RW 7<|SA (Tn 233) .add RN<|RM 6) 75<|U6 7 7)<|Ug 82 6<|RZ (Vv<|UN 0 4 1 1)<|Ss 6 2),[.cell 2 6 true],false⟩
def F213:bw:=⟨134,1,(Ta 2 0<|Sj 5 5 (Ts 1<|Sm So 3)<|R2 9 9 (SI 1<|TR 0 Si<|UF RR RI<|R3<|Uy 0 1<|TP RI (.int .u8 45)<|TC 11) 30 (R7 31 0<|S9 1<|UD So 1<|Vj RR 1 Uk)<|Ua 0<|Vo 0 (Uj 39 0 (SI 1<|TR 0 Si<|UF RR RI<|R3<|Uy 0 1<|R4 169<|TC 11) (SS 60 0)<|mA 1<|R1 61 4 (TM .mul 10<|Uy 0 1<|Se (VU .sub RI WD) (VY .i64 RI)<|Vg .add U4 RI<|RM 4)<|R7 75 0<|S9 1<|UD So 1<|Vj RR 1 Uk)<|Sc 83 3 (S9 1<|SA So .lss RP<|R3<|UZ 0<|RW 3<|To (UY RJ) .eql WL<|TC 8) 97 (R7 98 4<|Sm (WY .neg RI) 4)<|TN (Tw 100 (RW 3<|S9 1<|SA So .eql RP<|R6<|UZ 1<|RW 3<|V5 (VU .sub RJ RI) .gtr 20<|UA 8 4<|R4 98<|UZ 0<|RW 3<|TR 1 (Vp RR (Wt RP) TZ)<|Wf UP RI<|V7<|U8 115 Sf RI RL) [(17,21),(17,26)]<|RV 129<|js 130<|S9 2<|U0 1 Sf)<|VG 133 4 2),[.tmp 2],false⟩
def F214:bw:=⟨20,1,(Sy 4 Uf RL<|Sj 6 6 (Sm (R5 213) 5)<|R2 8 3 (Ui 1<|R6<|RQ 6<|Uc 1000000000000<|Sw 3) 13 (js 14<|S9 2<|U0 1 Sf)<|Ug 17 1<|Ti<|RZ (Vv<|Vr 0 1 RJ<|Ve 1 1) Td),[.cell 4 6 true],false⟩
def F215:bw:=⟨44,1,(Sy 2 Uf RL<|Sy 6 (Vv<|Um 0 1 10) (Uw 3 Uf 6 RN)<|Vo 0 (Wd 7 7 (Ts 2<|Tp Tr RL) 11<|mA 1<|Vt 4 (Sn (.str ⟨#[110]⟩))<|Ta 5 8<|UQ 12 4 9 (UU .rem RI 2<|UW 1 RL) (RV 16<|Vt 4 (Sn (.str ⟨#[101]⟩))<|js 5<|VT<|SR 9)<|Sc 17 0 (RY 4 (Tn 210) Tr RL) 20 (Sz 21<|R4 209<|Ss 6 2)<|Tw 23 (Sg 4 3<|R9<|RY 5 (Tn 214) (WJ 199 6 1<|SF 6)<|VK (Sl 199 6 88 RP) 4 3 Sp) [(1,4)]<|Sc 31 5 (UW 8<|Vl<|RZ (Tk (.str ⟨#[62]⟩))<|TC 3) 36 (Sb 37 6 3<|Ss 6 2)<|RS 38 (Tf<|Tk (.str ⟨#[32]⟩))<|RV 40<|Sz 41<|R4 209<|Ss 6 2)<|Sb 43 6 3<|Ss 6 2),[.cell 2 6 true],false⟩
def F216:bw:=⟨33,1,(Sy 4 Uf RL<|Sy 6 (Vv<|Um 0 1 6) (Uw 5 Uf 6 RJ)<|R2 7 7 (RZ (Tk (.str ⟨#[93]⟩)) RL) 8 (VD 9 6 RN<|Uh 6 RR)<|Vo 0 (Wd 10 10 (Ts 2<|Tp Tr RL) 14<|mA 1<|Tw 15 (Sa 4 10<|R9<|UT 1 .add 1 (TW 200)<|Se (WJ 199 6 1<|SF 6) (Sl 199 6 88 RR)<|Sx 4 (SW 5) Sp) [(1,5)]<|Sc 24 0 (RZ (Tk (.str ⟨#[93]⟩)) RL) 25 (Sb 26 6 5 Td)<|RS 27 (Tf<|Tk (.str ⟨#[44]⟩))<|RV 29<|Sz 30<|R4 209 Td)<|Sb 32 6 5 Td),[.cell 4 6 true],false⟩
def F217:bw:=⟨51,1,(Sy 4 Uf RL<|Sy 6 (Vv<|Um 0 1 7) (Uw 5 Uf 6 RJ)<|R2 7 7 (RZ (Tk (.str ⟨#[125]⟩)) RL) 8 (VD 9 6 RN<|Uh 6 RR)<|Vo 0 (Wd 10 10 (Ts 2<|Tp Tr RL) 14<|mA 1<|Tw 15 (Sa 5 10<|RY 0 (R5 235) (Vq 9 1 [.str ⟨#[]⟩] 1 TU)<|VK (Sl 9 1 16 RN) 5 5 Sp) [(1,3)]<|Sc 22 0 (Tf<|Tk (.str ⟨#[58]⟩)) 24 (Sz 25<|R4 209 Td)<|Tw 27 (Sg 4 5<|R9<|UT 1 .add 1 (TW 200)<|Se (WJ 199 6 1<|SF 6) (Sl 199 6 88 RR)<|Sx 4 (SW 5) Sp) [(1,5)]<|Sc 36 0 (RZ (Tk (.str ⟨#[125]⟩)) RL) 37 (SZ 38 5 5 (SK 166 Tr RL) (RV 41<|Sz 42<|R4 209 Td)<|Sb 44 6 5 Td)<|RS 45 (Tf<|Tk (.str ⟨#[44]⟩))<|RV 47<|Sz 48<|R4 209 Td)<|Sb 50 6 5 Td),[.cell 4 6 true],false⟩
def F231:bw:=⟨18,0,(Sv 4<|TA 5 5<|RZ Si<|RQ 6<|SD Si .geq<|R3<|SO<|SO<|Se Si (Vp RK Wl TZ)<|RX<|Ue RJ RI<|TG 7 4),[.tmp 4],false⟩
def F232:bw:=⟨61,1,(Ua 0<|Ta 5 0<|SH 6 0 (Ux 7 RI (RQ 7<|UF RJ RI RL) 9 1 (R2 12 12 (SI 1<|TR 0 Si<|UE RR RI<|R6<|Uy 0 1<|SK 169 Tr<|Sw 12) 34 (RS 35 (Ts 2<|U0 1 Sf)<|TB 0)<|R1 38 5 (TM .mul 10<|Uy 0 1<|Se (VU .sub RI WD) (VY .i64 RI)<|Vg .add U4 RI<|RM 5)<|R7 52 0<|S9 1<|UD So 1<|Vj RR 1 Uk) 10<|Uq 4 6)<|SB 60 5),[.tmp 4],false⟩
def F233:bw:=⟨16,0,(Ua 0<|R2 5 4 (UW 2<|R3<|RQ 8<|R4 244<|TC 3) 10 (TB 29)<|VS 11 (Vq 2 1 [.int .i64 0] 12<|Ul 0 31<|Ul 1 28<|Ul 2 31<|Ul 3 30<|Ul 4 31<|Ul 5 30<|Ul 6 31<|Ul 7 31<|Ul 8 30<|Ul 9 31<|Ul 10 30<|Um 11 1 31)<|SO<|Se (TQ .sub 1) (Vc 1 RK)<|Sm So 4),[.tmp 4],false⟩
def F234:bw:=⟨16,0,(Ta 2 0<|Sj 3 3 (TM .sub 1<|RM 0)<|TA 5 5<|TM .mul 365<|RQ 7<|SD (TQ .quo 4) .add<|RQ 10<|SD (TQ .quo 100) .sub<|R9<|SD (TQ .quo 400) .add<|RM 2),[.tmp 2],false⟩
def F235:bw:=⟨87,1,(Vt 2 UH<|Sj 4 4 (Ts 1<|Sm So 3)<|Vo 0 (Wd 8 8 (SI 1<|RQ 12<|Ts 0<|Tp Si<|UF RR RI<|R3<|Uy 0 1<|R4 168<|R6<|Uy 0 1<|R4 169<|WB 18 true<|Ut 11 Sf RI<|R6<|Uy 0 1<|TP RI (.int .u8 95)<|WB 18 true<|Ut 11 Sf RI<|V7<|U8 18 RI Tq RL) 53<|mA 1<|R7 54 0<|S9 1<|UD So 1<|Vj RR 1 Uk)<|Sc 62 0 (SI 0<|RW 3<|TR 1 (Vp RR (Wt RP) TZ)<|SK 121 Tr RL) 73 (js 74<|S9 2<|U0 1 Sf)<|Sz 77<|SI 0<|RW 3<|TR 1 (Vp RR (Wt RP) TZ)<|RM 2),[.tmp 2],false⟩
def F244:bw:=⟨16,0,(Sv 2<|TA 3 3<|To (TQ .rem 4) .eql R0<|R3<|RQ 7<|To (TQ .rem 100) .neq R0<|R6<|SO<|To (TQ .rem 400) .eql R0<|WB 6 true<|Ut 4 Sf RI<|TG 9 2),[.tmp 2],false⟩
def F98:bw:=⟨38,0,(Vt 2 UH<|R2 3 3 Tt 4 (R2 5 5 (Uc (-10) RL) 6 (TA 7 7<|Se (WY .neg RI) (R5 98)<|Vg .add (Sn (.str ⟨#[45]⟩)) RI<|RM 2)<|TA 11 11<|Se (TQ .quo 10) (R5 98)<|R9<|SA (TQ .rem 10) .sub (SR 48)<|Se (VY .u8 RI) (Wc 5 1 1 TU)<|SA (Wz RI) .add Sd<|RM 2)<|SP 21 0 10 22 (Sz 23<|Se (VU .add (SR 48) RI) (VY .u8 RI)<|ST (Wc 5 1 1 TU) (Wz RI) 2)<|Sz 28<|Se (TQ .quo 10) (R5 98)<|R9<|SA (TQ .rem 10) .add (SR 48)<|Se (VY .u8 RI) (Wc 5 1 1 TU)<|SA (Wz RI) .add Sd<|RM 2),[.tmp 2],false⟩
def F46:bw:=⟨92,0,(Ud 1 2 RI Sk<|UQ 8 0 7 (UU .gtr RI 200<|R6<|Sa 1 12<|UU .gtr RI 400<|Sw 5) (VM 17 2)<|VC 18 WW 3<|SZ 19 0 1 Tv (SN 0 23<|US 23 1 (UM 24 RJ (Ub (SV 3 RP RK) 3<|TT 5 Wk<|Wm 4 RK<|Ss 3 5)<|TN (Vy 27 (Su 3 5) 88 (Tx<|Ty 4<|Uc 0<|Tj 0 1<|UT 4 .sub 1 (Vc 3 RK)<|SX 0<|Sq 5<|UE RK RI<|VQ 30<|Ut 11 RI Tq<|V7<|U8 30 Sf RI RL)<|VM 45 2)<|R7 46 3<|Sq 5<|WN (WV 0 RK RI<|SR 1) RL) 49<|UV 22 1 22)<|SZ 50 1 1 Tv (SN 2 54<|VN (SS 54 2) 3 (UM 55 RJ (Ub (SV 5 RP RK) 5<|TT 7 Wa<|Wm 6 RK<|Ss 5 7)<|Vy 58 (Su 5 7) 89 (Tx<|Ty 6<|Uc 0<|Tj 1 1<|UT 6 .sub 1 (Vc 5 RK)<|SX 0<|Sq 7<|UE RK RI<|VQ 61<|Ut 11 RI Tq<|V7<|U8 61 Sf RI<|Ty 3<|Sg 2 7<|To (WP false (.int .i64 0) 0 RK RI) .eql R0<|UA 6 3<|Sg 3 7<|To (WP false (.int .i64 0) 0 RK RI) .eql R0<|Sw 6)<|VM 90 2) 91<|UV 53 1 53)<|SE 2),[.tmp 2],false⟩
def F88:bw:=⟨16,0,(Ud 1 3 RI Sk<|Uo 3 0 RJ (R4 124<|R3<|Sa 1 6<|RZ (UG 125<|SR 10)<|SQ 4<|R3<|Sa 2 11<|R4 126<|TG 4 2) iq),[.tmp 2],false⟩
def F89:bw:=⟨26,0,(Ud 1 5 RI Sk<|Uo 3 0 RJ (R4 124<|R3<|Sa 1 6<|R4 127<|SQ 4<|R3<|Sa 2 11<|R4 124<|SQ 4<|Tj 3 1<|R4 124<|SQ 4<|Tj 4 1<|R4 126<|TG 4 2) iq),[.tmp 2],false⟩
def F90:bw:=⟨21,0,(UR 2 2 RJ 4 R0<|UQ 7 0 5 Tv (SN 0 11<|US 11 1 (UM 12 RJ (Ub (SV 3 RP RK) 3<|TT 6 Wk<|Wm 5 RK<|Uh 3 SC)<|TI 15 0 9 (RX<|Ue RJ RI RL)<|RV 18<|SB 19 5) 20<|VI .add TF 1 10) R8),[.tmp 4],false⟩
def F124:bw:=⟨9,0,(Sv 2<|TA 3 3<|VL 1<|R3<|RQ 6<|TM .leq 1000000000000<|TG 3 2),[.tmp 2],false⟩
def F125:bw:=⟨35,0,(Sv 4<|R2 7 7 (We RI<|RQ 8<|Vg .gtr RJ RI RL) 10 (SL 4)<|V9 11 11 Tv (SN 0 14<|US 14 1 (UM 15 RJ (Se (SV 1 RP RK) (V6 1 false RI)<|Uz 5 RK 6)<|Sj 18 12 (SK 127 Tr<|Ty 5<|Uc 0<|Vl<|UT 5 .sub 1 (Vc 1 RK)<|UJ<|RW 6<|UE RJ RI<|VQ 21<|Ut 8 RI Tq<|Sw 12)<|SG 33) 34<|UV 13 1 13)<|SE 4),[.tmp 4],false⟩
def F126:bw:=⟨41,0,(Sv 2<|R2 5 5 (UU .gtr RI 20 RL) 7 (SL 2)<|V9 8 8 Tv (SN 0 11<|US 11 1 (UM 12 RJ (Ub (SV 2 RP RK) 2<|TT 4 Wn<|Wm 3 RK<|Uh 2 UP)<|TI 15 0 11 (SK 127 Tr<|Ty 3<|Uc 0<|Vl<|UT 3 .sub 1 (Vc 2 RK)<|SX 0<|Sq 4<|UE RK RI<|VQ 19<|Ut 10 RI Tq<|V7<|U8 19 Sf RI<|R6<|Sg 1 4<|SK 171 Tr<|Sw 5)<|VM 39 2) 40<|UV 10 1 10)<|SE 2),[.tmp 2],false⟩
def F127:bw:=⟨42,0,(Sv 2<|R2 4 4 (V5 Si .lss 1<|R6<|RQ 8<|V5 Si .gtr 20<|VH 4<|R6<|RY 0 (WM RI R0) (R5 172)<|Tx<|Sw 5) 17 (SL 2)<|Uj 18 0 (RZ Si Vb) (SN 0 21<|US 21 1 (UM 22 RJ (RM 3)<|RS 23 (RY 3 (UY RJ) (R5 172)<|Tx<|Vl<|RY 3 (UY RJ) (R5 173)<|Tx<|SQ 6<|Vl<|RW 3<|To (UY RJ) .neq (Sn (.int .u8 95))<|TC 5)<|VM 40 2) 41<|UV 20 1 20)<|SE 2),[.tmp 2],false⟩
def F171:bw:=⟨21,0,(Sv 2<|Sj 6 6 (R4 188<|TV 5 RK 0 RN 1<|TT 3 Uf<|V3 6 Sd RJ<|RM 4)<|TA 10 6<|R3<|Sa 0 9<|TM .neq 0<|SQ 4<|R3<|Se (Su 6 3) (R5 192)<|Tx<|TG 4 2),[.tmp 2],false⟩
def F172:bw:=⟨17,0,(Sv 2<|TA 3 3<|UE RI (Sn (.int .u8 97))<|R3<|RQ 6<|Vg .leq RI (Sn (.int .u8 122))<|SQ 3<|R6<|RQ 10<|UE RI (Sn (.int .u8 65))<|Vl<|Vg .leq RI (Sn (.int .u8 90))<|W3 6 false<|Ut 3 RI Tq<|VH 7<|RM 2),[.tmp 2],false⟩
def F173:bw:=⟨9,0,(Sv 2<|TA 3 3<|UE RI WD<|R3<|RQ 6<|Vg .leq RI (Sn (.int .u8 57))<|TG 3 2),[.tmp 2],false⟩
def F188:bw:=⟨30,0,(Sy 2 Uf Sk<|R2 7 7 (V5 Si .gtr 2000 RL) 9 (U9 10 Us<|V3 6 SC RI<|Vu 3 Tq)<|Sj 11 11 (ST (UL [.str ⟨#[]⟩,.int .i64 0] TU) (Ur 2 RI) 4)<|Sj 15 11 (RZ (UG 201 R0)<|TV 14 RK 0 RN 1<|TT 5 Uf<|TD 5 RJ<|RM 6)<|Tw 19 (RZ (Su 6 5)<|RW 6<|R3<|RW 4<|Ts 1<|UJ<|R9<|SD Si .eql<|SQ 8<|TD 2 UP<|RM 3) [(6,11)] iq),[.cell 2 6 true,.tmp 3],false⟩
def F192:bw:=⟨18,0,(Ud 1 6 RI Sk<|UQ 5 0 4 (VL 8 RL) (RV 7<|SE 2)<|UQ 8 5 7 Tv (SN 0 12<|US 12 1 (Vk 13 6 RJ 6 (Uw 4 Uf 6 UP)<|Vy 15 (Tb 6 UP) 192 RL<|RV 16<|SE 2) 17<|VI .add RR 1 11)<|SL 2),[.tmp 2],false⟩
def F201:bw:=⟨106,1,(Sy 4 Uf Sk<|Uj 13 0 (Sm (R5 218) 6) (mA 0<|Sj 16 10 (TP RI (.int .u8 34)<|RM 15)<|TL 15 (RS 19 (R4 219<|TV 18 RK 0 RN 1<|Uz 7 RJ 8)<|Ug 23 7<|RZ (Vv<|UN 0 3 3 1)<|RW 8<|TD 4 RJ<|RM 5)<|R1 27 6 (TP RI (.int .u8 64)<|RM 26)<|TL 26 (RS 30 (R4 220<|TV 29 RK 0 RN 1<|Uz 9 RJ 10)<|Ug 34 9<|RZ (Vv<|UN 0 4 1 1)<|RW 10<|TD 4 RJ<|RM 5)<|R1 38 6 (TP RI (.int .u8 45)<|Ty 6<|R4 173<|VH 3<|RM 37)<|TL 37 (RS 45 (R4 221<|TV 44 RK 0 RN 1<|Uz 11 RJ 12)<|Ug 49 11<|RZ (Vv<|UN 0 2 1 1)<|RW 12<|TD 4 RJ<|RM 5)<|R1 53 6 (TP RI (.int .u8 40)<|RM 52)<|TL 52 (Sz 55<|SK 222 (Vd RI 0)<|RZ (Vd RJ 1)<|TD 4 RJ<|RM 5)<|R1 60 6 (TP RI (.int .u8 91)<|RM 59)<|TL 59 (Sz 62<|RY 1 (Tn 223) (Vd RI 0)<|RZ (Vd RJ 1)<|TD 4 RJ<|RM 5)<|R1 68 6 (TP RI (.int .u8 123)<|RM 67)<|TL 67 (Sz 70<|RY 1 (Tn 224) (Vd RI 0)<|RZ (Vd RJ 1)<|TD 4 RJ<|RM 5)<|R1 76 6 (TP RI (.int .u8 60)<|RM 75)<|TL 75 (Sz 78<|SK 225 (Vd RI 0)<|RZ (Vd RJ 1)<|TD 4 RJ<|RM 5)<|UB 83 (UG 226 Wh) 82<|TL 82 (U9 85 Us<|U5 4 Sf)<|UB 87 (Up (.str ⟨#[116,114,117,101]⟩)) 86<|TL 86 (U9 89 (Ul 0 1<|Um 1 1 1)<|U5 4 Sf)<|UB 91 (Up (.str ⟨#[102,97,108,115,101]⟩)) 90<|TL 90 (U9 93 (Um 0 1 1)<|U5 4 Sf)<|R1 95 6 (TP RI (.int .u8 110)<|Ty 6<|TP RI (.int .u8 101)<|VH 3<|RM 94)<|RV 94<|Sz 101<|SK 227 (Vd RI 0)<|RZ (Vd RJ 1)<|TD 4 RJ<|RM 5)<|U9 105 Us<|U5 4 Tq),[.cell 4 6 true,.tmp 5],false⟩
def F218:bw:=⟨22,1,(Vt 2 (Sn (.int .u8 0))<|R2 3 3 (SI 1<|RQ 7<|Ts 0<|Tp Si<|UF RR RI RL) 12 (Sz 13<|SI 0<|TR 1 (UY RP)<|RM 2)<|V8 2<|Sn (.int .u8 0)),[.tmp 2],false⟩
def F219:bw:=⟨79,1,(UM 2 UH Sk<|R2 6 6 (Tf<|Up (.str ⟨#[34]⟩)) 8 (UM 2 UH Sk iq)<|Tc 4<|Vo 0 (Wd 9 9 (SI 1<|TR 0 Si<|UF RR RI RL) 18<|mA 1<|RS 19 (SI 0<|TR 1 (UY RP)<|RM 5)<|RS 28 (Ts 1<|UD So 1<|Vj RP 1 Uk)<|mA 2<|R1 40 5 (TP RI (.int .u8 34)<|RM 39)<|TL 39 (Ug 42 4<|RZ (Wz RI)<|Wm 2 RI<|Vu 3 Sf)<|R1 45 5 (TP RI (.int .u8 92)<|RM 44)<|TL 44 (Uj 47 0 (R4 218 RL) (mA 3<|VJ 50 (TP RJ (.int .u8 34)<|RM 49) (TL 49 Lb<|js 51<|TP RK (.int .u8 92)<|RM 49)<|TL 49 (R7 52 4<|Uy 0 1<|ST (Wc 5 1 1 TU) (Sl 5 1 1 UP) 4)<|Th 65 (TP (SW 48) (.int .u8 110)<|RM 64) 64 (js 66<|RY 4 (Wc 5 1 1<|Vr 0 1 (Sn (.int .u8 10)) Us) (Sl 5 1 1 RJ)<|RM 4)<|UM 2 UH Sk iq)<|js 69<|S9 1<|UD So 1<|Vj RP 1 Uk)<|R1 77 5 (UF RI (Sn (.int .u8 32))<|RM 76)<|TL 76 (UM 2 UH Sk iq)<|R7 35 4<|RY 5 (Wc 5 1 1 TU) (Sl 5 1 1 RK)<|RM 4)<|UM 2 UH Sk iq),[.tmp 2,.tmp 3],false⟩
def F220:bw:=⟨117,1,(UM 2 R0 Sk<|R2 9 9 (Ts 0<|Tp Si<|S9 1<|SA So .sub RP<|Ui 11<|R6<|Uy 0 1<|Wf RI (Sn (.int .u8 64))<|VH 11<|R6<|UZ 0<|S9 1<|UD So 5<|To (UY RR) .neq WL<|VH 12<|R6<|UZ 0<|S9 1<|UD So 8<|To (UY RR) .neq WL<|Sw 12) 57 (UM 2 R0 Sk iq)<|RS 58 (SI 0<|S9 1<|UD So 1<|S9 1<|UD So 11<|Sm (Vp UP (Wt RR) TZ) 4)<|RS 73 (Ts 1<|UD So 11<|Vj RP 1 Uk)<|Vt 5 (Sn (.fn 236 []))<|R1 80 5 (RY 4 (Vp RI Wl<|Wt<|SR 4) (Vh RK UK)<|Ti<|RY 4 (Vp RI (Wt<|SR 5)<|Wt<|SR 7) (Vh RK UK)<|Ti<|RY 4 (Vp RI (Wt<|SR 8) Wl) (Vh RK UK)<|Wm 6 SC<|Uz 7 RP 8)<|Sc 92 6 (Ui 1<|Ty 7<|Ui 1<|UA 3 7<|Uc 12<|UA 3 8<|Ui 1<|UA 3 8<|RW 6<|RW 7<|SA (Tn 237) .gtr RN<|Sw 6) 112 (UM 2 R0 Sk iq)<|Ug 113 6<|RW 7<|RW 8<|RZ (VW 238 RK<|Tu RJ)<|Wm 2 RI<|Vu 3 Sf),[.tmp 2,.tmp 3],false⟩
def F221:bw:=⟨75,1,(UM 2 R0 Sk<|Sj 8 8 (Ts 1<|Sm So 4)<|R2 12 12 (To (R5 218) .eql WL RL) 14 (js 15<|S9 1<|UD So 1<|Vj RP 1 Uk)<|Vo 0 (Uj 22 0 (SI 1<|TR 0 Si<|UF RR RI<|R3<|Uy 0 1<|R4 173<|TC 11) (SS 43 0)<|mA 1<|js 44<|S9 1<|UD So 1<|Vj RP 1 Uk)<|RS 51 (SI 0<|RW 4<|TR 1 (Vp RR (Wt RP) TZ)<|RM 5)<|R1 62 5 (RZ (VW 239 RI<|Wi (SR 10)<|Wi (SR 64) WI)<|TV 61 RK 0 RN 1<|Uz 6 RJ 7)<|Sc 66 7 (RZ (WX true RI)<|Ty 6<|RZ (UG 135<|SR 10)<|Ti<|Wf RJ RI<|Sw 5) 73 (UM 2 R0 Sk iq)<|SM 2 (Wm 74 (SW 6)<|RW 74<|VT Sf) iq),[.tmp 2,.tmp 3],false⟩
def F222:bw:=⟨59,1,(Sy 2 Uf Sk<|R2 9 9 (Tf<|Up (.str ⟨#[40]⟩)) 11 (U9 12 Us<|V3 6 UP RI<|Vu 3 Tq)<|RS 14 (R4 221<|TV 13 RK 0 RN 1<|Uz 4 RJ 5)<|UB 18 (Up (.str ⟨#[32]⟩)) 6<|Sc 20 5 (Tx<|Ty 6<|Tx<|Sw 3) 25 (U9 26 Us<|TD 2 RI<|Vu 3 Tq)<|RS 28 (R4 221<|TV 27 RK 0 RN 1<|Uz 7 RJ 8)<|Sc 32 8 (Tx<|R6<|RY 0 (Up (.str ⟨#[41]⟩)) Tr<|UA 4 4<|Ui (-1000000)<|UA 3 4<|Uc 1000000<|UA 3 7<|Ui (-1000000)<|UA 3 7<|Uc 1000000<|Sw 3) 54 (U9 55 Us<|TD 2 RI<|Vu 3 Tq)<|Ug 56 4<|RW 7<|RZ (Vv<|Ul 0 5<|Vr 1 1 RJ<|Ve 2 1)<|TD 2 RI<|Vu 3 Sf),[.cell 2 6 true,.tmp 3],false⟩
def F223:bw:=⟨44,1,(Sy 4 Uf Sk<|Sy 9 (Vv<|Um 0 1 6) (Uw 6 Uf 6 RN)<|R2 10 10 (Se (Up (.str ⟨#[91]⟩)) Tr<|Ty 1<|UW 5<|Sw 3) 16 (VD 17 6 UP<|U5 4 Tq)<|Sc 18 0 (RZ (Up (.str ⟨#[93]⟩)) RL) 19 (Sb 20 6 6<|U5 4 Sf)<|Wq 0<|mA 1<|RS 22 (UT 1 .add 1 (TW 201)<|TV 21 RP 0 RR 1<|TT 7 Uf<|TD 7 RJ<|RM 8)<|Sc 28 8 U1 29 (Sb 30 6 6<|U5 4 Tq)<|Vz 31 5 6 (Se (Su 6 7) (WJ 204 6 1<|SF 6)<|VK (Sl 204 6 88 RK) 5 6 Sp)<|Sc 37 0 (RZ (Up (.str ⟨#[93]⟩)) RL) 38 (Sb 39 6 6<|U5 4 Sf)<|RS 40 (Tf<|Up (.str ⟨#[44]⟩))<|RV 42<|Sb 43 6 6<|U5 4 Tq),[.cell 4 6 true,.tmp 5],false⟩
def F224:bw:=⟨82,1,(Sy 4 Uf Sk<|Sy 10 (Vv<|Um 0 1 7) (Uw 6 Uf 6 RP)<|R2 11 11 (Se (Up (.str ⟨#[123]⟩)) Tr<|Ty 1<|UW 5<|Sw 3) 17 (VD 18 6 U4<|U5 4 Tq)<|Sc 19 0 (RZ (Up (.str ⟨#[125]⟩)) RL) 20 (Sb 21 6 6<|U5 4 Sf)<|Wq 0<|mA 1<|RS 23 (R4 240<|TV 22 RK 0 RN 1<|Uz 7 RJ 8)<|Sc 27 8 (Tx<|R6<|RY 0 (Up (.str ⟨#[58]⟩)) Tr<|VH 4<|R6<|Sg 4 6<|UX .gtr RI R0<|Tj 4 6<|Sg 4 6<|UU .sub RI 1<|Vm 1 RP 1<|RW 7<|UE RJ RI<|VQ 34<|Ut 11 RI Tq<|V7<|U8 34 Sf RI RL) 51 (Sb 52 6 6<|U5 4 Tq)<|RS 54 (UT 1 .add 1 (TW 201)<|TV 53 RP 0 RR 1<|TT 9 Uf<|TD 9 RJ<|RM 8)<|Sc 60 8 U1 61 (Sb 62 6 6<|U5 4 Tq)<|Vz 63 4 6 (RY 7 (Vq 9 1 [.str ⟨#[]⟩] 1 TU) (Sl 9 1 16 RK)<|Sx 4 (SW 6) Sp)<|Vz 69 5 6 (Se (Su 6 9) (WJ 204 6 1<|SF 6)<|VK (Sl 204 6 88 RK) 5 6 Sp)<|Sc 75 0 (RZ (Up (.str ⟨#[125]⟩)) RL) 76 (Sb 77 6 6<|U5 4 Sf)<|RS 78 (Tf<|Up (.str ⟨#[44]⟩))<|RV 80<|Sb 81 6 6<|U5 4 Tq),[.cell 4 6 true,.tmp 5],false⟩
def F225:bw:=⟨46,1,(Sy 2 Uf Sk<|Sy 8 (Vv<|Um 0 1 10) (Uw 4 Uf 6 RP)<|R2 9 9 (Tf<|Up (.str ⟨#[60]⟩)) 11 (VD 12 6 TO<|V3 6 UP RI<|Vu 3 Tq)<|Ta 5 8<|Wq 0<|mA 1<|RS 14 (R4 227<|TV 13 RK 0 RN 1<|TT 6 Uf<|V3 6 U4 RJ<|RM 7)<|R2 18 11 (Tx<|R6<|Sq 6<|Ti<|Wf RJ RI<|Sw 5) 25 (Sb 26 6 4<|TD 2 RI<|Vu 3 Tq)<|Vz 27 5 4 (Se (Su 6 6) (WJ 204 6 1<|SF 6)<|VK (Sl 204 6 88 RK) 5 4 Sp)<|Sc 33 5 (UW 8<|Vl<|RZ (Up (.str ⟨#[62]⟩))<|TC 3) 38 (Sb 39 6 4<|TD 2 RI<|Vu 3 Sf)<|Sc 40 0 (Tf<|Up (.str ⟨#[32]⟩)) 42 (Sb 43 6 4<|TD 2 RI<|Vu 3 Tq)<|R7 44 5<|Vg .sub (SR 17) RI<|RM 5),[.cell 2 6 true,.tmp 3],false⟩
def F226:bw:=⟨25,1,(Sv 4<|R2 5 5 (SI 0<|RQ 9<|Ts 1<|Tp (Vp RP TZ Wl)<|RX<|RZ (Tn 241) RL) 15 (RS 16 (SI 1<|RX<|SD Si .add<|Vj Sd 1 Uk)<|SE 4)<|SL 4),[.tmp 4],false⟩
def F227:bw:=⟨30,1,(Sy 2 Uf Sk<|Ua 8<|V9 7 7 (To (R5 218) .eql (Sn (.int .u8 101)) RL) (TL 9 (js 4<|VT<|SR 9)<|Sj 10 10 (To (R5 218) .neq (Sn (.int .u8 110)) RL)<|RV 12<|U9 13 Us<|V3 6 U4 RI<|Vu 3 Tq)<|RS 14 (Ts 1<|UD So 1<|Vj RP 1 Uk)<|RS 22 (R4 242<|TV 21 RK 0 RN 1<|Uz 5 RJ 6)<|Ug 26 4<|Ti<|RZ (Vv<|Vr 0 1 RJ<|Ve 1 1)<|RW 6<|TD 2 RJ<|RM 3),[.cell 2 6 true,.tmp 3],false⟩
def F236:bw:=⟨25,0,(Ta 2 0<|Ta 3 0<|V9 5 5 (RZ Si Vb) (SN 0 8<|US 8 1 (UM 9 RJ (RM 4)<|R2 10 10 (RQ 7<|Se (UY RJ) (R5 173) U1) 14 (Ta 2 (-1) iq)<|js 15<|RQ 12<|TM .mul 10<|R9<|RW 4<|To (UY RJ) .sub WD<|SA (VY .i64 RI) .add RR<|RM 3) 23<|UV 7 1 7)<|VG 24 3 2),[.tmp 2],false⟩
def F237:bw:=⟨15,0,(Ua 0<|TN (Vt 5 RN<|mA 0<|Th 7 (VP RJ 2 6) 6 (R2 8 8 (R4 245 RL) 9 (TB 29)<|TB 28)<|VJ 11 (VP RR 4 10) (TL 10 Lb<|Th 12 (VP Sd 6 10) 10 Lb<|Th 13 (VP TO 9 10) 10 Lb<|js 14<|VP SC 11 10)<|RV 10<|TB 30)<|TB 31),[.tmp 4],false⟩
def F238:bw:=⟨37,0,(Ta 6 0<|Sj 10 10 (TM .sub 1<|RM 7)<|Sj 12 5 (TM .mul 365<|RQ 7<|SD (TQ .quo 4) .add<|RQ 10<|SD (TQ .quo 100) .sub<|RW 7<|SD (TQ .quo 400) .add<|RM 8)<|TN (Ta 9 1<|Wq 0<|Uj 23 9 (RX<|UF RJ RI RL) (SS 25 0)<|Vf 1 (R7 28 8<|R9<|RW 9<|SA (Tn 237) .add RN<|RM 8) 26<|U6 9 9)<|Ug 33 8<|RW 2<|V5 (VU .add RJ RI) .sub 1<|RM 6),[.tmp 6],false⟩
def F240:bw:=⟨83,1,(UM 2 UH Sk<|Sj 5 5 (Ts 1<|Sm So 4)<|Vo 0 (Wd 9 9 (SI 1<|TR 0 Si<|UF RR RI<|R3<|Uy 0 1<|R4 172<|R6<|Uy 0 1<|R4 173<|WB 19 true<|Ut 11 Sf RI<|R6<|Uy 0 1<|TP RI (.int .u8 95)<|WB 19 true<|Ut 11 Sf RI<|V7<|U8 19 RI Tq RL) 54<|mA 1<|js 55<|S9 1<|UD So 1<|Vj RP 1 Uk)<|Tw 62 (UZ 0<|RW 4<|TR 1 (Vp RR (Wt RP) TZ)<|UZ 0<|RW 4<|TR 1 (Vp RR (Wt RP) TZ)<|R4 127<|Uz 2 U4 3) [(3,20),(8,20)] iq),[.tmp 2,.tmp 3],false⟩
def F241:bw:=⟨8,0,(Sv 4<|TA 5 5<|RQ 5<|TJ 248 4),[.tmp 4],false⟩
def F242:bw:=⟨25,1,(UM 2 R0 Sk<|R2 6 6 (SK 218 (R5 173) U1) 9 (UM 2 R0 Sk iq)<|Sj 11 11 (R4 221<|TV 10 RK 0 RN 1<|Uz 4 RJ 5)<|TA 15 11<|SO<|R3<|RW 4<|VL 1<|SQ 3<|R3<|RW 4<|TM .leq 1000000000000<|SQ 3<|Uz 2 TF 3),[.tmp 2,.tmp 3],false⟩
def F245:bw:=⟨16,0,(Sv 2<|TA 3 3<|To (TQ .rem 4) .eql R0<|R3<|RQ 7<|To (TQ .rem 100) .neq R0<|R6<|SO<|To (TQ .rem 400) .eql R0<|WB 6 true<|Ut 4 Sf RI<|TG 9 2),[.tmp 2],false⟩
def F248:bw:=⟨18,0,(Sv 4<|TA 5 5<|RZ Si<|RQ 6<|SD Si .geq<|R3<|SO<|SO<|Se Si (Vp RK Wl TZ)<|RX<|Ue RJ RI<|TG 7 4),[.tmp 4],false⟩
def FB50:bw:=⟨34,0,(Ua 0<|SH 5 0 (Ux 6 RI (Tg 7) 9 1 (Sj 12 12 (RQ 8<|VO 1 3 RK RJ 0 TY)<|Tm 17 1 1<|RS 19 (RT 5 3 1<|U7<|Sm (Vi 57<|Tu RJ) 1)<|R7 26 0<|RT 5 3 2<|U7<|Sm (Vi 58<|Tu RJ) 1) 10<|Uq 5 5)<|SB 33 1),[.tmp 4,.tmp 0],true⟩
def FB51:bw:=⟨49,0,(Ua 0<|SH 5 0 (Ux 6 RI (Tg 7) 9 1 (Sj 12 12 (RQ 8<|VO 1 5 RK RJ 0 TY)<|Tm 17 1 1<|Vn 19 (RY 1 U3 (SV 5 RN RK)<|Sx 1 RI TY)<|Tm 25 1 1<|Vn 27 (VO 1 5 RK RJ 2 TY)<|Tm 32 1 1<|Vn 34 (VO 1 5 RK RJ 3 TY)<|Tm 39 1 1<|R7 41 0<|RT 5 5 4<|U7<|Sm (Vi 58<|Tu RJ) 1) 10<|Uq 5 5)<|SB 48 1),[.tmp 4,.tmp 0],true⟩
def FB57:bw:=⟨20,0,(Ua 0<|SH 5 0 (Ux 6 RI (Tg 7) 9 1 (Sj 12 12 (RQ 8<|RY 1 U3 (SV 1 RN RK)<|VR 1 RI RJ)<|R7 17 1<|V0 1 1) 10<|Uq 5 5)<|SB 19 1),[.tmp 4,.tmp 0],true⟩
def FB58:bw:=⟨29,0,(Ua 0<|SH 5 0 (Ux 6 RI (Tg 7) 9 1 (Sj 12 12 (RQ 8<|RY 1 U3 (SV 2 RN RK)<|Sx 0 RI TY)<|Tm 18 1 1<|Vn 20 (RY 1 U3 (SV 2 RN RK)<|Sx 1 RI TY)<|R7 26 1<|V0 1 1) 10<|Uq 5 5)<|SB 28 1),[.tmp 4,.tmp 0],true⟩
def F14:bw:=⟨14,0,(UR 2 2 RJ 4 R0<|Uo 5 0 RK (RQ 6<|Sm (Vi 50<|Tu RJ) 1)<|TI 9 1 7 (RQ 10<|Sm (Vi 51<|Tu RJ) 1)<|TA 13 12<|RM 4),[.tmp 4],false⟩
def FB20:bw:=⟨109,0,(Ua 0<|SH 5 0 (Ux 6 RI (Tg 7) 9 1 (Sj 12 12 (RQ 8<|VO 1 12 RK RJ 0 TY)<|Tm 17 1 1<|Vn 19 (VO 1 12 RK RJ 1<|Sx 0 RI<|VR 1 RI RN)<|Tm 25 1 1<|RS 27 (RT 5 12 1<|SX 1<|RX<|Sm (Vi 57<|Tu RJ) 1)<|RS 35 (RT 5 12 1<|SX 2<|RX<|Sm (Vi 58<|Tu RJ) 1)<|Vn 43 (VO 1 12 RK RJ 4<|Sx 0 RI<|VR 1 RI RN)<|Tm 49 1 1<|Vn 51 (RY 1 U3 (SV 12 RN RK)<|Uu (TS 4 RI) 1 RI<|VR 1 RI RN)<|Tm 58 1 1<|Vn 60 (VO 1 12 RK RJ 4<|Sx 2 RI<|VR 1 RI RN)<|Tm 66 1 1<|Vn 68 (VO 1 12 RK RJ 4<|Sx 3 RI<|VR 1 RI RN)<|Tm 74 1 1<|RS 76 (RT 5 12 4<|SX 4<|RX<|Sm (Vi 58<|Tu RJ) 1)<|Vn 84 (RY 1 U3 (SV 12 RN RK)<|Sx 9 RI TY)<|Tm 90 1 1<|Vn 92 (RY 1 U3 (SV 12 RN RK)<|Sx 10 RI TY)<|Tm 98 1 1<|Vn 100 (RY 1 U3 (SV 12 RN RK)<|Sx 11 RI TY)<|R7 106 1<|V0 1 1) 10<|Uq 5 5)<|SB 108 1),[.tmp 4,.tmp 0],true⟩
def F19:bw:=⟨27,0,(Sv 4<|R2 6 6 (We RI<|RQ 7<|UX .neq RK RI RL) 10 (SL 4)<|SY 5 0 11 6 (Tg 12) 14 (TE 1 (RS 17 (Sr 5 12 12<|RX<|Sr 5 12 12<|Tf<|VV 56 RP)<|SG 26) 15 10 5)<|SE 4),[.tmp 4],false⟩
def F21:bw:=⟨133,0,(Ua 0<|SH 5 0 (Ux 6 RI (Tg 7) 9 1 (R2 12 12 (RQ 8<|V1 12 RJ RI 0 RI<|U7<|Te RJ) 18 R8<|Tm 19 1 1<|Sc 21 0 (RT 5 12 1<|SX 0<|RX<|Te RJ) 28 R8<|Tm 29 1 1<|RS 31 (RT 5 12 1<|SX 1<|RX<|TJ 60 1)<|SP 39 1 0 40 R8<|RS 41 (RT 5 12 1<|SX 2<|RX<|TJ 61 1)<|SP 49 1 0 50 R8<|Sc 51 0 (RT 5 12 4<|SX 0<|RX<|Te RJ) 58 R8<|Tm 59 1 1<|TN (Tw 61 (R9<|RT 5 12 4<|SX 1<|RX<|SD U3 .neq RL) [(5,7)]<|RV 69 R8)<|Tm 70 1 1<|Sc 72 0 (RT 5 12 4<|SX 2<|RX<|Te RJ) 79 R8<|Tm 80 1 1<|Sc 82 0 (RT 5 12 4<|SX 3<|RX<|Te RJ) 89 R8<|Tm 90 1 1<|RS 92 (RT 5 12 4<|SX 4<|RX<|TJ 61 1)<|SP 100 1 0 101 R8<|TN (Tw 102 (R9<|RT 5 12 9<|U7<|SD U3 .neq RL) [(4,6)]<|RV 109 R8)<|Tm 110 1 1<|TN (Tw 112 (R9<|RT 5 12 10<|U7<|SD U3 .neq RL) [(4,6)]<|RV 119 R8)<|Tm 120 1 1<|TN (Tw 122 (R9<|RT 5 12 11<|U7<|SD U3 .neq RL) [(4,6)]<|RV 129 R8)<|R7 130 1<|V0 1 1) 10<|Uq 5 5)<|SB 132 1),[.tmp 4],false⟩
def F54:bw:=⟨235,0,(Tl 2 2 RJ (Ur 2 RJ) (VT<|Sn qN)<|VC 13 (Vw 85 12 0 Us) 5<|SY 6 0 14 8 (Sg 1 2 UO) 18 (Vf 1 (SM 21 (TH 2 3 1 2<|UJ<|Sr 6 5 5<|Tf<|VV 95 RR)<|RV 28<|R7 29 5<|Sg 1 2<|RT 6 5 0<|Tp (UL [.int .i64 0,.str ⟨#[]⟩,.int .i64 0,.int .i64 0,.list 0 [] .nil] TU)<|Se (Wb<|UN 0 4 4 5) (Vw 85 12 1 Vx)<|SU 85 12 176 TF 5) 19<|U6 6 6)<|SH 7 2 (Uj 40 7 (Sq 2 UO) (SS 44 2)<|Vf 3 (SM 47 (TH 2 3 0 2<|UJ<|RT 7 3 0<|SJ 83 Sd Tt)<|RV 55<|R7 56 5<|Sq 2<|RT 7 3 0<|Tp (WF TU)<|Se (Wb<|UN 0 2 1 3) (Vw 85 12 1 Vx)<|SU 85 12 176 TF 5) 45<|U6 7 7)<|SH 8 4 (Uj 67 8 (Sq 3 UO) (SS 71 4)<|Vf 5 (SM 74 (TH 2 2 0 3<|UJ<|RT 8 3 0<|SJ 83 Sd Tt)<|RV 82<|R7 83 5<|Sq 3<|Sr 8 3 3<|SK 42 (Wb<|UN 0 1 1 3)<|ST (Vw 85 12 1 Vx) (Sl 85 12 176 SC) 5) 72<|U6 8 8)<|SH 9 6 (Uj 93 9 (Sg 1 3 UO) (SS 97 6)<|Vf 7 (SM 100 (TH 2 2 1 3<|UJ<|Sr 9 5 5<|Tf<|VV 95 RR)<|RV 107<|R7 108 5<|Sg 1 3<|Sr 9 5 5<|SK 41 (Wb<|UN 0 3 4 5)<|ST (Vw 85 12 1 Vx) (Sl 85 12 176 SC) 5) 98<|U6 9 9)<|SH 10 8 (Uj 118 10 (Sq 2 UO) (SS 122 8)<|Vf 9 (SM 125 (TH 2 3 0 2<|UJ<|RT 10 3 0<|SJ 83 Sd<|RM 11)<|SP 133 11 0 134 (P9 9)<|SZ 135 0 2 (RT 10 3 1<|Tz 0 3<|UJ<|RT 11 3 1<|SJ 96 Sd U1) (RV 148<|Wr 149 (Ti<|Sq 2<|RT 10 3 0<|Tz 0 3<|UJ<|RT 11 3 1<|Va 85<|Se (WF<|Vr 0 1 TO<|Ve 1 1) (Wb<|UN 0 5 1 3)<|ST (Vw 85 12 1 Vx) (Sl 85 12 176<|SW 149) 5) [(2,13),(6,13)])<|Wr 167 (Ti<|Sq 2<|RT 10 3 0<|Va 98<|VK (VU .add (Sn (.str ⟨#[110]⟩)) RI) 0 2<|UJ<|RT 10 3 2<|Tz 0 3<|UJ<|RT 11 3 2<|Tp (VW 97 (SW 175)<|Tu Sd)<|SU 85 12 176 (SW 167) 5) [(7,10),(7,14),(7,16),(7,20)]) 123<|U6 10 10)<|SH 12 10 (Uj 190 12 (Sg 1 2 UO) (SS 194 10)<|Vf 11 (SM 197 (TH 2 3 1 2<|UJ<|Sr 12 5 5<|RZ (VV 95 RR) RL)<|RV 203<|Wr 204 (Ti<|Sg 1 2<|RT 12 5 0<|Va 98<|VK (VU .add (Sn (.str ⟨#[101]⟩)) RI) 1 2<|UJ<|RT 12 5 4<|Tz 1 3<|Tp (Su 2 3)<|Sg 1 2<|RT 12 5 0<|SJ 99 Sd<|V1 5 SC RI 4 RI<|Tp (VW 97 (SW 212)<|Tu<|SW 218)<|SU 85 12 176 (SW 204) 5) [(7,10),(7,14),(7,16),(7,17),(7,19),(7,23),(10,24),(14,24),(16,24)]) 195<|U6 12 12)<|SB 234 5),[.tmp 4],false⟩
def F55:bw:=⟨200,0,(Tl 2 2 RJ (Ur 2 RJ) (VT<|Sn qN)<|Tc 5<|VC 22 (W0 100<|Wi (SW 3) WI) 6<|SZ 23 1 2 Tv (SN 0 27<|US 27 1 (Vk 28 5 RJ 5 (TT 8 Wa<|Ss 5 8)<|R1 30 6 (Se (Su 5 8) (Vh RJ UK) Tt)<|RV 33<|R7 34 5<|Sq 8<|Se (UL [.int .i64 0,.str ⟨#[]⟩,.int .i64 0,.int .i64 0,.list 0 [] .nil] TU) (Wb<|UN 0 4 4 5)<|ST (Vw 85 12 1 Vx) (Sl 85 12 176 RR) 5) 41<|UV 26 1 26)<|SZ 42 0 2 Tv (SN 2 46<|VN (SS 46 2) 3 (Vk 47 3 RJ 3 (TT 10 Wk<|Ss 3 10)<|SM 49 (TH 2 3 0 10<|SJ 90 RK Tt)<|RV 53<|R7 54 5<|Sq 10<|Se (WF TU) (Wb<|UN 0 2 1 3)<|ST (Vw 85 12 1 Vx) (Sl 85 12 176 RR) 5) 61<|UV 45 1 45)<|SZ 62 0 3 Tv (SN 4 66<|VN (SS 66 4) 5 (Vk 67 3 RJ 3 (TT 12 Wk<|Ss 3 12)<|SM 69 (TH 2 2 0 12<|SJ 90 RK Tt)<|RV 73<|js 74<|RY 5 (Su 3 12) (R5 66)<|Se (Wb<|UN 0 1 1 3) (Vw 85 12 1 Vx)<|SU 85 12 176 RP 5) 80<|UV 65 1 65)<|SZ 81 1 3 Tv (SN 6 85<|VN (SS 85 6) 7 (Vk 86 5 RJ 5 (TT 14 Wa<|Ss 5 14)<|SM 88 (TH 2 2 0 14<|SJ 101 RK<|RM 15)<|R1 92 15 (Ui 0<|Ty 6<|Sg 1 2<|Sr 15 5 5<|To (Vh RR UK) .lss R0<|Sw 9)<|RV 103<|js 104<|RY 5 (Su 5 14) (R5 68)<|Se (Wb<|UN 0 3 4 5) (Vw 85 12 1 Vx)<|SU 85 12 176 RP 5) 110<|UV 84 1 84)<|SZ 111 0 3 Tv (SN 8 115<|VN (SS 115 8) 9 (Vk 116 3 RJ 3 (TT 17 Wk<|Ss 3 17)<|SM 118 (TH 2 2 0 17<|SJ 90 RK<|RM 18)<|SP 122 18 0 123 (P9 9)<|SZ 124 0 2 (RT 18 3 1<|Tz 1 17<|SJ 102 RK U1) (RV 133<|Wr 134 (Ti<|Sq 17<|Sg 1 17<|SK 103 (WF<|Vr 0 1 RN<|Ve 1 1)<|Se (Wb<|UN 0 5 1 3) (Vw 85 12 1 Vx)<|SU 85 12 176 SC 5) [(2,5)])<|Wr 144 (Ti<|Sq 17<|SA (R5 105) .add (Sn (.str ⟨#[110]⟩))<|Sq 2<|RT 18 3 2<|Tz 2 17<|Tp (VW 104 SC<|Tu RK)<|SU 85 12 176 (SW 144) 5) [(3,6),(3,10),(3,12)]) 159<|UV 114 1 114)<|SZ 160 1 3 Tv (SN 10 164<|VN (SS 164 10) 11 (Vk 165 5 RJ 5 (TT 20 Wa<|Ss 5 20)<|SM 167 (TH 2 2 0 20<|SJ 101 RK<|RM 21)<|R1 171 21 (VL 0<|R3<|RW 6<|Sg 1 2<|Sr 21 5 5<|To (Vh RR UK) .geq R0<|TC 9)<|RV 182<|Wr 183 (Ti<|Sq 20<|SA (R5 105) .add (Sn (.str ⟨#[101]⟩))<|Sg 1 2<|RT 21 5 4<|Tz 4 20<|Tp (VW 104 SC<|Tu RK)<|SU 85 12 176 (SW 183) 5) [(3,6),(3,10),(3,12)]) 198<|UV 163 1 163)<|SB 199 5),[.tmp 4],true⟩
def F56:bw:=⟨37,0,(Tl 2 12 RJ (Ur 12 RJ) Sk<|VJ 5 (V4 0 RK 1<|Sa 0 4<|Te RK) (SG 9)<|TN (VE 10 (TS 1 TO) 3 (Ub (TS 1 SC) 3<|Tf<|TW 93)<|SG 15)<|TN (VE 16 (TS 4<|SW 2) 5 (Ub (TS 4<|SW 3) 5<|Tf<|TW 94)<|SG 21)<|SZ 22 9 2 (Sg 9 3<|Te RK) (SG 26)<|SZ 27 10 2 (Sg 10 3<|Te RK) (SG 31)<|SZ 32 11 2 (Sg 11 3<|Te RK) (SG 36)<|SE 4),[.tmp 4],false⟩
def F95:bw:=⟨45,0,(Tl 2 2 RJ (Ur 5 RJ) Sk<|SM 6 (Uu (Tb 2 RN) 0 RN<|SJ 99 RK<|RM 5)<|TA 10 5<|VL 0<|R3<|Sa 1 11<|RQ 10<|V1 5 RJ RI 1 RI<|Tz 1 3<|SD So .eql<|SQ 10<|Tj 1 2<|RT 5 5 2<|Tz 2 3<|SD So .eql<|SQ 10<|Tj 1 2<|RT 5 5 3<|Tz 3 3<|SD So .eql<|TG 10 4),[.tmp 4],false⟩
def F96:bw:=⟨26,0,(Sv 4<|R2 6 6 (We RI<|RQ 7<|UX .neq RK RI RL) 10 (SL 4)<|SY 5 0 11 6 (Tg 12) 14 (TE 1 (Vn 17 (Vm 1 RJ 1<|RX<|Ti<|Vm 1 RJ 1<|Te RP)<|SG 25) 15 10 5)<|SE 4),[.tmp 4],false⟩
def F97:bw:=⟨103,0,(Tc 6<|VC 15 (U2 2 0 Us) 7<|SY 8 0 16 8 (RX<|VF RK) 19 (TE 1 (R7 22 7<|RX<|RT 8 2 0<|Tp (WE TU)<|ST (U2 2 1<|SF 2) (Sl 133 2 32 TO) 7) 20 12 8)<|SH 9 2 (Uj 31 9 (RW 2<|VF RK) (SS 34 2)<|Vf 3 (R1 37 1 (RW 2<|RT 9 2 0<|SJ 131 RR<|Ue RI Wh RL)<|RV 44<|R7 45 7<|RW 2<|RT 9 2 0<|Tp (WE TU)<|ST (U2 2 1<|SF 2) (Sl 133 2 32 TO) 7) 35<|U6 9 9)<|R1 54 7 (Sm (R5 132) 7)<|VC 56 (Vw 85 12 0 Us) 10<|VC 57 (Vw 85 12 0 Us) 11<|SH 12 4 (Uj 58 12 (RW 7<|VF RK) (SS 61 4)<|Vf 5 (R1 64 2 (RW 7<|RT 12 2 0<|SJ 131 RR<|RM 13)<|RS 71 (RW 7<|RT 12 2 0<|UJ<|RW 13<|RZ (Wb<|Ul 0 6<|Vr 9 1 Sd<|Vr 10 1 RJ<|Ve 11 1)<|TT 14 WS<|Ss 12 14)<|mA 6<|R1 80 13 (Ue RI Wh<|RM 79)<|TL 79 (js 82<|RY 10 (Su 12 14) (Vw 85 12 1 Vx)<|SU 85 12 176 RK 10)<|R1 87 13 (RX<|RW 7<|RT 12 2 0<|SJ 131 RR<|Wf TO RI<|RM 86)<|RV 86<|js 96<|RY 11 (Su 12 14) (Vw 85 12 1 Vx)<|SU 85 12 176 RK 11) 62<|U6 12 12)<|Ug 100 10<|RW 11<|SU 85 12 176 RJ 6),[.tmp 6],false⟩
def F99:bw:=⟨22,0,(UR 2 2 RJ 4 R0<|SH 5 0 (Ux 6 RI (Sa 1 5 UO) 10 1 (TI 13 1 11 (RQ 10<|V1 5 RJ RI 0 RI<|U7<|Ue RJ RI RL)<|RV 20<|SB 21 5) 11<|Uq 6 5) R8),[.tmp 4],false⟩
def F100:bw:=⟨45,1,(Ud 2 5 RJ Vb<|SM 5 (Uu (Tb 2 RN) 0 RN<|SJ 101 RK<|RM 4)<|R2 9 5 (VL 0<|R3<|Sa 1 11<|RQ 10<|V1 5 RJ RI 1 RI<|Tz 1 2<|SD So .eql<|SQ 10<|Tj 1 1<|RT 4 5 2<|Tz 2 2<|SD So .eql<|SQ 10<|Tj 1 1<|RT 4 5 3<|Tz 3 2<|SD So .eql<|TC 10) 43 (VG 44 4 3)<|Ta 3 (-1) iq),[.tmp 3],false⟩
def F101:bw:=⟨21,0,(UR 2 2 RJ 4 R0<|UQ 7 1 5 Tv (SN 0 11<|US 11 1 (UM 12 RJ (Ub (SV 5 RP RK) 5<|TT 6 Wa<|Wm 5 RK<|Uh 5 SC)<|TI 15 0 9 (RX<|Ue RJ RI RL)<|RV 18<|SB 19 5) 20<|VI .add TF 1 10) R8),[.tmp 4],false⟩
def F102:bw:=⟨26,0,(Sv 4<|R2 6 6 (We RI<|RQ 7<|UX .neq RK RI RL) 10 (SL 4)<|V9 11 11 Tv (SN 0 14<|US 14 1 (UM 15 RJ (RM 5)<|RS 16 (RQ 12<|Vm 1 RJ 1<|RX<|Ti<|Vm 1 RJ 1<|Te RP)<|SG 24) 25<|VI .add U4 1 13)<|SE 4),[.tmp 4],false⟩
def F104:bw:=⟨76,0,(Tc 6<|Tc 7<|Uj 18 1 Tv (SN 0 21<|US 21 1 (Vk 22 2 RJ 2 (TT 9 Wn<|Ss 2 9)<|R7 24 7<|Sq 9<|Sm (TW 133) 7) 28<|VI .add TO 1 20)<|Uj 29 2 Tv (SN 2 32<|VN (SS 32 2) 3 (Vk 33 2 RJ 2 (TT 11 Wn<|Ss 2 11)<|R7 35 7<|Sq 11<|Sm (TW 133) 7) 39<|VI .add TO 1 31)<|Tc 12<|TN (Wo 40 (Vq 4 1 [.bool false] 2<|Vr 0 1 Sf<|Vr 1 1 Tq Us) (TK RI) Vb<|SN 4 43<|VN (SS 43 4) 5 (SM 44 (Se (SV 1 RN RJ) (V6 1 false RI)<|RM 14)<|R1 46 7 Tv<|SN 6 49<|VN (SS 49 6) 7 (SM 50 (Se (SV 1 RN RJ) (V6 1 false RI)<|RM 16)<|R1 52 2 (RW 16<|TJ 134 17)<|R1 55 17 (RX<|RW 16<|SA (Tn 134) .neq RN<|R3<|RW 17<|Ue RI Wh<|RW 14<|RZ (W6 false RJ RI)<|TC 5)<|RV 65<|R7 66 12<|R9<|RW 16<|RY 17 (Wb<|Ul 0 6<|Vr 9 1 RK<|Vr 10 1 RJ<|Ve 11 1) (Vw 85 12 1 Vx)<|SU 85 12 176 RR 12) 73<|UV 48 1 48) 74<|UV 42 1 42)<|VG 75 12 6),[.tmp 6],true⟩
def F105:bw:=⟨5,0,(Vt 2 UH<|TA 3 3<|Sm (UG 135<|SR 10) 2),[.tmp 2],false⟩
def F131:bw:=⟨24,0,(Vt 4 UH<|SH 5 0 (Ux 6 RI (Tg 7) 9 1 (Sj 12 12 (RQ 8<|V1 2 RJ RI 0 RI<|U7<|Ue RJ RI RL)<|RV 18<|Sz 19<|RT 5 2 1<|Sm So 4) 10<|Uq 5 5)<|V8 4 Wh),[.tmp 4],false⟩
def F132:bw:=⟨51,0,(Tc 2<|VC 7 (U2 2 0 Us) 3<|SY 4 0 8 4 (Tg 9) 11 (TE 1 (Sj 14 11 (Sm (TK RI) 5)<|Vo 2 (V9 16 11 (Uc 0<|R3<|RW 3<|UT 5 .sub 1 (Vc 2 RK)<|SX 0<|R9<|RT 4 2 0<|SA So .gtr RR<|V7<|U8 18 RI Tq RL) (SS 31 2)<|mA 3<|R7 32 5<|TM .sub 1<|RM 5)<|Sy 34 (U2 2 0 Us) (RW 3<|RY 5 (Wj 2 RJ TZ Wl) (WR 133 2 32 RN RI)<|RM 6)<|R7 39 3<|Ti<|RZ (Wj 2 RJ Wl TZ)<|R9<|Sr 4 2 2<|Se (U2 2 1<|SF 2) (WR 133 2 32 RR RI)<|RW 6<|Sm (WR 133 2 32 RJ RI) 3) 12 8 4)<|VG 50 3 2),[.tmp 2],false⟩
def F133:bw:=⟨52,0,(Tc 4<|Ta 5 0<|Vo 0 (TN (UM 7 RJ (RQ 8<|Wx (TK RI) .lss RK RI<|R3<|RQ 12<|RQ 8<|Vm 1 RJ 1<|RX<|UF RJ RI<|TC 7)<|SS 18 0)<|mA 1<|R7 19 5<|V0 1 5)<|Sc 21 5 (R9<|Wx (TK RI) .lss RK RI<|Vl<|Ti<|Vm 1 RJ 1<|RX<|Ue RJ RI<|TC 7) 32 (SB 33 0)<|RS 34 (UU .add RI 1<|Sm (WQ 9 1 16 R0 RI) 6)<|R1 38 6 (R9<|RY 5 (Wj 1 RJ Wl TZ) (Sl 9 1 16 RN)<|RM 6)<|R1 43 6 (RY 1 (Vq 9 1 [.str ⟨#[]⟩] 1 TU) (Sl 9 1 16 RK)<|RM 6)<|Ug 47 6<|R9<|RY 5 (Wj 1 RJ TZ Wl) (Sl 9 1 16 RN)<|RM 4),[.tmp 4],false⟩
def F134:bw:=⟨20,0,(Vt 4 UH<|V9 7 7 Tv (SN 0 10<|US 10 1 (Vk 11 2 RJ 2 (Uw 6 Wn 2 Sd)<|TI 13 0 7 (RX<|Ue RJ RI RL)<|RV 16<|TI 17 1 11 (RM 4) iq) 19<|VI .add TF 1 9)<|V8 4 Wh),[.tmp 4],false⟩
def F29:bw:=⟨27,0,(Ua 0<|Sj 6 5 (RQ 7<|UX .sub RK RI<|RM 1)<|R2 10 9 Tt 11 R8<|SY 5 0 12 7 (R9<|VF RK) 15 (TE 1 (RS 18 (Sr 5 12 12<|RX<|TJ 75 1)<|R1 24 1 Tt<|RV 25 R8) 16 11 5)<|SB 26 1),[.tmp 4],false⟩
def F30:bw:=⟨30,0,(Ud 2 2 RJ (TT 4 WG RL)<|R2 8 7 (UU .gtr RI 1000 RL) 10 (VS 11 (Wv<|Um 0 1 2)<|Uh 4 TO)<|TN (Vy 12 (Tb 2 TF) 40 (TM .neq 0 RL)<|RV 14<|VS 15 (Wv<|Um 0 1 1)<|Uh 4 U4)<|Sy 17 (Su 2 2) (RX<|RZ (Tn 76)<|TV 16 RN 0 RP 1<|RZ (Vd RR 2)<|TT 5 V2<|V3 2 (SW 5) RK<|Uz 6 RJ 7)<|Sc 23 7 (TM .neq 0 RL) 24 (Ug 25 7<|RW 6<|RZ (Wv<|Vr 0 1 RJ<|Ve 1 1)<|Ss 4 4)<|Wo 28 (Su 2 5) (Wv<|Ve 2 2) (Ss 4 4) iq),[.cell 4 4 true],false⟩
def F31:bw:=⟨23,0,(Tc 2<|Sj 5 5 (ST (TK RI) (WH 85 12 176 [.int .i64 0,.int .i64 0,.list 0 [] .nil,.list 0 [] .nil,.int .i64 0,.str ⟨#[]⟩,.int .i64 0,.int .i64 0,.list 0 [] .nil,.str ⟨#[]⟩,.str ⟨#[]⟩,.str ⟨#[]⟩] RI RI) 3)<|SY 4 0 8 4 (Tg 9) 11 (TE 1 (js 14<|SO<|SO<|R9<|Sr 4 12 12<|SK 77 (SV 12 Sd RR)<|U0 12 RJ) 12 8 4)<|VG 22 3 2),[.tmp 2],true⟩
def F32:bw:=⟨16,0,(Ud 2 2 RJ (TT 4 WG RL)<|R2 5 4 (UU .gtr RI 1000 RL) 7 (VS 8 (Wv<|Um 0 1 2)<|Uh 4 RP)<|TN (Vy 9 (Tb 2 Sd) 46 U1<|RV 11<|VS 12 (Wv<|Um 0 1 1)<|Uh 4 SC)<|VD 13 2 UP<|RX<|RZ (Tn 78)<|Uh 4 U4),[.cell 4 4 true],true⟩
def F63:bw:=⟨50,0,(Tl 2 2 RJ (Ur 3 RJ) (RZ V2 RL)<|VC 8 (Wu 72 3 0 Us) 5<|Sv 6<|SH 7 0 (Ux 9 RJ (Sa 0 8 UO) 13 1 (R2 16 10 (Tx<|Tj 0 2<|RT 7 3 0<|Tz 0 3<|SD So .gtr<|TC 10) 28 (R1 29 5 (Se (Su 3 3) (Wu 72 3 1<|SF 3)<|SU 72 3 56 RK 5)<|js 6<|VT Sf)<|R7 33 5<|Sq 2<|Sr 7 3 3<|ST (Wu 72 3 1<|SF 3) (Sl 72 3 56 Sd) 5) 14<|Uq 7 7)<|Sc 41 6 U1 42 (js 43<|RY 5 (Su 3 3) (Wu 72 3 1<|SF 3)<|SU 72 3 56 RK 5)<|R1 47 5 (Sx 0 (SW 2) Sp)<|Sb 49 2 2<|Ss 2 4),[.cell 4 2 true],true⟩
def F64:bw:=⟨50,0,(Tl 2 2 RJ (Ur 5 RJ) (RZ V2 RL)<|VC 8 (Ww 68 5 0 Us) 5<|Sv 6<|SH 7 0 (Ux 9 RJ (Sa 1 8 UO) 13 1 (R2 16 10 (Tx<|Tj 1 2<|RT 7 5 0<|Tz 0 3<|SD So .gtr<|TC 10) 28 (R1 29 5 (Se (Su 5 3) (Ww 68 5 1<|SF 5)<|SU 68 5 64 RK 5)<|js 6<|VT Sf)<|R7 33 5<|Sg 1 2<|Sr 7 5 5<|ST (Ww 68 5 1<|SF 5) (Sl 68 5 64 Sd) 5) 14<|Uq 7 7)<|Sc 41 6 U1 42 (js 43<|RY 5 (Su 5 3) (Ww 68 5 1<|SF 5)<|SU 68 5 64 RK 5)<|R1 47 5 (Sx 1 (SW 2) Sp)<|Sb 49 2 2<|Ss 2 4),[.cell 4 2 true],true⟩
def F67:bw:=⟨22,0,(Tc 4<|Tc 5<|V9 8 8 Tv (SN 0 11<|US 11 1 (Vk 12 5 RJ 5 (Uw 7 Wa 5 Sd)<|js 14<|RQ 9<|RY 1 (Tb 5 SC) (Vh RJ UK)<|ST (Ww 68 5 1<|SF 5) (Sl 68 5 64 RP) 5) 20<|VI .add TF 1 10)<|SB 21 5),[.tmp 4],true⟩
def F75:bw:=⟨39,0,(UR 2 12 RJ 4 R0<|VE 5 (TS 1 RK) 3 (RQ 6<|TJ 79 1)<|R2 9 8 Tt 10 R8<|VE 11 (TS 4 SC) 5 (RQ 12<|TJ 80 1)<|SP 15 1 0 16 R8<|R1 17 1 (Sg 9 2<|SA Si .sub RN<|RM 1)<|SP 22 1 0 23 R8<|R1 24 1 (Sg 10 2<|SA Si .sub RN<|RM 1)<|SP 29 1 0 30 R8<|R1 31 1 (Sg 11 2<|SA Si .sub RN<|RM 1)<|SP 36 1 0 37 R8<|SB 38 1),[.tmp 4],false⟩
def F76:bw:=⟨32,0,(SM 4 (TT 2 (Ur 2 RN)<|RZ V2<|WA R0 Vb)<|Vy 9 (Tb 2 Sd) 112 (Uh 2 SC)<|Ta 7 0<|SY 8 0 11 3 (SO<|VF RK) 14 (TE 1 (Sy 18 (Su 2 2) (RX<|RQ 12<|Ub (Vc 12 RJ) 12<|RZ (VX 113 RP UK [0])<|TV 17 Sd 0 TO 1<|V3 2 (SW 2) RJ<|RM 7)<|R1 26 7 (TM .neq 0 RL)<|RV 27<|Sb 28 2 2<|RW 8<|RW 7<|V3 2 (SW 4) RK<|Uz 5 RJ 6) 15 7 8)<|SM 5 (TT 31 (Tb 2 RK)<|V3 2 RI (SW 31)<|WA R0 Vb) iq),[.cell 4 2 true,.tmp 5,.tmp 6],false⟩
def F77:bw:=⟨25,0,(Tl 1 12 RI WS RL<|Sy 3 WS RL<|Uo 4 0 RK (Sx 0 RK Sp)<|VE 7 (TS 1 RR) 3 (Uu (R5 86) 1 Sd<|U0 3 RJ)<|VE 11 (TS 4 TF) 5 (Uu (R5 87) 4 UP<|U0 5 RJ)<|Vz 15 9 1 (Sx 9 (SW 3) Sp)<|Vz 18 10 1 (Sx 10 (SW 3) Sp)<|Vz 21 11 1 (Sx 11 (SW 3) Sp)<|Sb 24 12 3<|Ss 12 2),[.cell 2 12 true],true⟩
def F78:bw:=⟨28,0,(Ud 2 2 RJ (TT 4 WG RL)<|Vy 9 (Tb 2 Sd) 114 (Uw 5 V2 2 RR)<|V9 11 10 Tv (SN 0 14<|US 14 1 (UM 15 RJ (Ub (SV 12 RP RK) 12<|TT 7 WS<|Wm 6 RK<|Uh 12 UP)<|Wo 18 (Tb 12 UP) (VX 115 (SW 5) UK [0]) (RM 8)<|Sj 20 12 (TM .neq 0 RL)<|RV 21<|Ug 22 8<|RW 6<|RZ (Wv<|Vr 0 1 RJ<|Ve 1 1)<|Ss 4 4) 25<|VI .add U4 1 13)<|Wo 26 (Su 2 5) (Wv<|Ve 2 2) (Ss 4 4) iq),[.cell 4 4 true],true⟩
def F91:bw:=⟨31,0,(UR 4 3 RK 6 (Sn qN)<|Ta 7 0<|Vo 0 (TN (Tw 8 (WA RI<|RQ 9<|Wx (TK RI) .lss RK RI<|R3<|SO<|R9<|RQ 8<|Ub (Vc 3 RJ) 3<|RZ (Vh RP UK)<|RY 2 (Su 3 4) (Vh RJ UK)<|UF RN RI<|TC 11) [(10,12)]<|SS 23 0)<|mA 1<|R7 24 7<|V0 1 7)<|Sz 26<|RY 7 (Su 3 4) (Wu 72 3 1<|SF 3)<|Sm (VX 128 RN (Tu RK) [0,2]) 6),[.tmp 6],true⟩
def F112:bw:=⟨44,0,(Tl 1 2 RI V2 RL<|Sy 6 (UL [.list 0 [] .nil,.list 0 [] .nil] Us) (Uw 3 V2 2 RN)<|SY 4 0 7 3 (Sa 0 7 UO) 11 (TE 1 (Wr 14 (Sa 0 11<|Sq 1<|Sr 4 3 3<|SK 42 (Wu 72 3 1<|SF 3)<|VK (Sl 72 3 56 TO) 0 3 Sp) [(1,7)]) 12 8 4)<|SH 5 2 (Uj 25 5 (Sg 1 1 UO) (SS 29 2)<|Vf 3 (Wr 32 (Sg 1 3<|Sg 1 1<|Sr 5 5 5<|SK 41 (Ww 68 5 1<|SF 5)<|VK (Sl 68 5 64 TO) 1 3 Sp) [(1,7)]) 30<|Ti<|V0 1 5)<|Sb 43 2 3<|Ss 2 2),[.cell 2 2 true],true⟩
def F113:bw:=⟨144,0,(Tl 2 2 RJ (Ur 12 RJ) (RZ V2 Vb)<|TN (Vy 8 (Tb 12 RP) 155 U1<|RV 10<|VD 11 2 SC<|WN (Wy 2 TO RI)<|Vu 5<|SR 1)<|SM 12 (Uu (Tb 2 TF) 1 TF<|SX 0<|Sm (VV 83 RN) 6)<|SM 17 (TH 2 2 4 3<|SX 0<|Sm (VV 99 RN) 7)<|SZ 22 0 3 RL (mA 0<|Th 25 (VP RJ 1 24) 24 (Sc 26 6 (VL 0 RL) 27 (Sb 28 2 2<|Uv 2 4 RI<|SR 9)<|SZ 29 0 2 (UU .eql RI 200 RL) (RV 32<|Sb 33 2 2<|Uv 2 4 RI<|SR 4)<|Tw 34 (TH 2 2 1 3<|Se (Tb 3 RI) (R5 42)<|RZ (VX 63 RN UK [0])<|Uv 2 4 RI R0) [(0,3)] iq)<|Th 40 (UC 23 2 39) 39 (SP 41 6 0 42 (Sb 43 2 2<|Uv 2 4 RI<|SR 5)<|VJ 44 (TH 2 2 1 3<|SX 0<|Se (VW 43 RN<|Wi RI<|Wi Sf WI) (TK RI)<|Uc 0<|R6<|TH 2 2 1 3<|SX 0<|Se (VW 43 RN<|Wi RI<|Wi Tq WI) (TK RI)<|Uc 0<|Sw 8) (RV 59<|Sb 60 2 2<|Uv 2 4 RI<|SR 6)<|SM 61 (VK (Wu 72 3 0 Us) 0 2<|UJ<|RY 6 (Wj 3 RJ Wl TZ) (Sl 72 3 56 RP)<|Sq 2<|UT 6 .add 1 (Wj 3 RK TZ Wl)<|VK (Sl 72 3 56 RR) 0 2<|VR 1 RI RJ)<|Sb 74 2 2<|Uv 2 4 RI R0)<|Th 76 (UC 23 3 75) 75 (Sc 77 7 (VL 0 RL) 78 (Sb 79 2 2<|Uv 2 4 RI<|SR 9)<|VJ 80 (TH 2 2 4 3<|SX 2<|To (VV 83 RN) .lss R0<|R6<|TH 2 2 4 3<|SX 3<|To (VV 83 RN) .lss R0<|Sw 7) (RV 93<|Sb 94 2 2<|Uv 2 4 RI<|SR 5)<|SZ 95 1 2 (UU .eql RI 400 RL) (RV 98<|Sb 99 2 2<|Uv 2 4 RI<|SR 4)<|Tw 100 (TH 2 2 4 3<|Se (Tb 5 RI) (R5 41)<|RZ (VX 64 RN UK [0])<|Uv 2 4 RI R0) [(0,3)] iq)<|Th 106 (UC 23 4 105) 105 (SP 107 7 0 108 (Sb 109 2 2<|Uv 2 4 RI<|SR 5)<|SM 110 (VK (Ww 68 5 0 Us) 1 2<|UJ<|RY 7 (Wj 5 RJ Wl TZ) (Sl 68 5 64 RP)<|Sg 1 2<|UT 7 .add 1 (Wj 5 RK TZ Wl)<|VK (Sl 68 5 64 RR) 1 2<|VR 1 RI RJ)<|Sb 123 2 2<|Uv 2 4 RI R0)<|SM 125 (UC 23 5 124)<|RV 124<|SP 126 6 0 127 (Sb 128 2 2<|Uv 2 4 RI<|SR 5)<|Tw 129 (Sq 2<|RW 6<|Un 1 3 1 RI<|Va 85<|V1 3 RR RP 1 RI TY) [(1,6)]<|Sb 138 2 2<|Uv 2 4 RI R0)<|Wo 139 (Su 2 2) (Su 12 3) (Se (VX 156 RJ UK [0]) (Vd RI 0)<|RZ (Vd RJ 1)<|WN (Wy 2 (SW 4) RJ)<|RM 5) iq),[.cell 4 2 true,.tmp 5],true⟩
def F114:bw:=⟨10,0,(Tl 1 2 RI V2 RL<|Tw 3 (V4 0 RJ 1<|Uu (UG 157<|Sn (.fn 66 [])) 1 RP<|Tp (UG 67<|Sn (.fn 68 []))<|RZ (UL [.list 0 [] .nil,.list 0 [] .nil]<|Vr 0 1 RN<|Ve 1 1)<|Uh 2 TO) [(2,4)] iq),[.cell 2 2 true],true⟩
def F115:bw:=⟨182,1,(Ud 3 12 RJ Vb<|TN (Vy 10 (Tb 12 Sd) 158 U1<|RV 12<|TB 1)<|UQ 13 0 10 RL (mA 0<|Th 16 (VP RJ 1 15) 15 (Sc 17 0 (Ub (UI RI) 2<|Un 1 3 0 RI<|SJ 90 RN<|VL 0 RL) 24 (TB 9)<|Sc 25 0 (Ts 0<|Tp (TK RI)<|UW 200 RL) 30 (TB 4)<|Wr 31 (R9<|S9 0<|Tz 1 3<|Se (Tb 3 RI) (R5 66)<|Se (VX 91 RN (Wi RI<|Wi (Sn (.fn 159 [])) WI) [0,1]) (UI SC)<|Sx 0 RI TY) [(4,7)])<|Th 43 (UC 14 2 42) 42 (RS 44 (Ub (UI RI) 2<|Un 1 3 0 RI<|SJ 90 RN<|RM 5)<|SP 51 5 0 52 (TB 5)<|Uj 53 0 (Ts 1<|Tp (TK RI) Vb) (SN 1 59<|VN (SS 59 1) 2 (Vk 60 5 RJ 5 (TT 7 Wa<|WN (Wy 5 (SW 7) RI) RL)<|Vz 62 2 7 (Un 1 3 0 RI<|SA So .eql RN<|R6<|Sg 3 7<|Un 1 3 0 RI<|SA So .eql RN<|Sw 7)<|RV 75<|TB 6) 76<|UV 58 1 58)<|R7 77 0<|UZ 0<|Ti<|UT 5 .add 1 (VX 160 RN (Tu RK) [0])<|Vj SC 0 TY)<|Th 89 (UC 14 3 88) 88 (Sc 90 0 (Ub (UI RI) 2<|Un 4 3 0 RI<|SJ 101 RN<|VL 0 RL) 97 (TB 9)<|Sc 98 0 (Ub (UI RI) 2<|Un 4 3 2 RI<|SJ 90 RN<|Ui 0<|R6<|RY 0 (UI RI) (Tb 2 RI)<|Un 4 3 3 RI<|SJ 90 RN<|Ui 0<|Sw 9) 115 (TB 5)<|Sc 116 0 (Ts 1<|Tp (TK RI)<|UW 400 RL) 121 (TB 4)<|Wr 122 (R9<|S9 1<|Tz 4 3<|Se (Tb 5 RI) (R5 68)<|Se (VX 161 RN (Wi RI<|Wi (Sn (.fn 162 [])) WI) [0,1]) (UI SC)<|Sx 1 RI TY) [(4,7)])<|Th 134 (UC 14 4 133) 133 (RS 135 (Ub (UI RI) 2<|Un 4 3 0 RI<|SJ 101 RN<|RM 8)<|SP 142 8 0 143 (TB 5)<|R7 144 0<|UZ 1<|RW 8<|UT 8 .add 1 (VX 163 RN (Tu RK) [0])<|Vj SC 1 TY)<|Th 156 (UC 14 5 155) 155 (RS 157 (Ub (UI RI) 2<|Un 1 3 0 RI<|SJ 90 RN<|RM 9)<|SP 164 9 0 165 (TB 5)<|Wr 166 (UZ 0<|RW 9<|Un 1 3 1 RI<|Va 103<|V1 3 RR RP 1 RI TY) [(3,8)])<|SM 178 (UC 14 6 177)<|RV 177<|Sz 179<|ST (Su 12 3) (VX 164 RJ UK [0]) 4)<|TB 0),[.tmp 4],true⟩
def F155:bw:=⟨67,0,(Ud 1 12 RI Sk<|VJ 4 (V4 0 RK 1 RL) (mA 0<|Th 7 (VP RJ 1 6) 6 (VE 8 (TS 1 Sd) 3 (Sm (R5 81) 2) iq)<|Th 12 (VP Sd 2 11) 11 (SM 13 (Uu (TS 1 U4) 0 RI<|Va 118<|RM 2) iq)<|Th 18 (UC 5 3 17) 17 (VE 19 (TS 4<|SW 1) 5 (Sm (R5 82) 2) iq)<|Th 23 (UC 5 4 22) 22 (SM 24 (Un 4 1 0 RI<|Va 118<|RM 2) iq)<|Th 29 (UC 5 5 28) 28 (SM 30 (Un 1 1 0 RI<|Va 118<|R3<|Un 1 1 1 RI<|Va 119<|TG 5 2) iq)<|SM 41 (UC 5 6 40)<|RV 40<|Vz 42 9 1 (SK 186 (W5 0 1 false RI)<|RM 3)<|Ug 46 3<|UW 8<|Ty 3<|UW 9<|VH 3<|Tj 10 1<|R4 121<|SQ 4<|Tj 11 1<|Ue RI Wh<|R6<|Sg 11 1<|R4 167<|WB 57 true<|Ut 4 Sf RI<|TG 9 2)<|SL 2),[.tmp 2],false⟩
def F156:bw:=⟨72,0,(Tl 2 2 RJ (Ur 12 RJ) (RZ V2 Vb)<|TI 9 9 6 (R4 186<|TT 6 Uf<|VR 6 RR RI)<|SM 12 (Uu (Tb 2 TF) 1 Sd<|SJ 83 RK<|RM 7)<|UQ 16 0 10 (UW 9 RL) (RV 18<|js 19<|TH 2 2 1 6<|SJ 99 RK<|RM 7)<|SP 23 7 0 24 (Sb 25 2 2<|Uv 2 4 RI<|SR 5)<|VC 26 (U2 2 0 Us) 8<|SZ 27 0 6 (UW 9 RL) (TL 29 (js 30<|Sg 1 2<|RT 7 5 4<|Tz 10 3<|Tz 11 3<|Tp (VW 187 RP<|Tu RK)<|RM 8)<|js 41<|Sq 2<|RT 7 3 2<|Tz 10 3<|Tz 11 3<|Tp (VW 187 RP<|Tu RK)<|RM 8)<|Sc 52 8 (UU .gtr RI 20 RL) 54 (Sb 55 2 2<|Uv 2 4 RI<|SR 4)<|SZ 56 0 6 (UW 9 RL) (TL 58 (js 59<|Sg 1 2<|RW 7<|VO 8 5 RK RJ 4 TY)<|js 65<|Sq 2<|RW 7<|VO 8 3 RK RJ 2 TY)<|Sb 71 2 2<|Uv 2 4 RI R0),[.cell 4 2 true,.tmp 5],true⟩
def F157:bw:=⟨22,0,(Tc 4<|Tc 5<|V9 8 8 Tv (SN 0 11<|US 11 1 (Vk 12 3 RJ 3 (Uw 7 Wk 3 Sd)<|js 14<|RQ 9<|RY 1 (Tb 3 SC) (Vh RJ UK)<|ST (Wu 72 3 1<|SF 3) (Sl 72 3 56 RP) 5) 20<|VI .add TF 1 10)<|SB 21 5),[.tmp 4],true⟩
def F158:bw:=⟨75,0,(Ud 1 12 RI Sk<|UQ 5 0 4 RL (mA 0<|Th 8 (VP RJ 1 7) 7 (VE 9 (TS 1 TO) 3 (Sm (R5 88) 2) iq)<|Th 13 (VP Sd 2 12) 12 (SM 14 (Un 1 1 0 RI<|Va 124<|RM 2) iq)<|Th 19 (UC 6 3 18) 18 (VE 20 (TS 4<|SW 1) 5 (Sm (R5 89) 2) iq)<|Th 24 (UC 6 4 23) 23 (SM 25 (Un 4 1 0 RI<|Va 124<|RM 2) iq)<|Th 30 (UC 6 5 29) 29 (SM 31 (Un 1 1 0 RI<|Va 124<|R3<|Un 1 1 1 RI<|Tp (UG 125<|SR 10)<|TG 5 2) iq)<|SM 42 (UC 6 6 41)<|RV 41<|Vz 44 9 1 (R4 188<|TV 43 RN 0 RP 1<|TT 3 Uf<|TD 3 RJ<|RM 4)<|Ug 49 4<|Tj 0 3<|UW 8<|R6<|Sq 3<|UW 9<|WB 50 true<|Ut 4 Sf RI<|SQ 9<|Tj 10 1<|R4 127<|SQ 4<|Tj 11 1<|Ue RI Wh<|R6<|Sg 11 1<|R4 171<|WB 65 true<|Ut 4 Sf RI<|TG 9 2)<|SL 2),[.tmp 2],false⟩
def F159:bw:=⟨5,0,(Ud 1 3 RI Vb<|Uo 3 0 RJ (RM 2) iq),[.tmp 2],false⟩
def F161:bw:=⟨31,0,(UR 4 5 RK 6 (Sn qN)<|Ta 7 0<|Vo 0 (TN (Tw 8 (WA RI<|RQ 9<|Wx (TK RI) .lss RK RI<|R3<|SO<|R9<|RQ 8<|Ub (Vc 5 RJ) 5<|RZ (Vh RP UK)<|RY 2 (Su 5 4) (Vh RJ UK)<|UF RN RI<|TC 11) [(10,12)]<|SS 23 0)<|mA 1<|R7 24 7<|V0 1 7)<|Sz 26<|RY 7 (Su 5 4) (Ww 68 5 1<|SF 5)<|Sm (VX 189 RN (Tu RK) [0,2]) 6),[.tmp 6],true⟩
def F162:bw:=⟨5,0,(Ud 1 5 RI Vb<|Uo 3 0 RJ (RM 2) iq),[.tmp 2],false⟩
def F164:bw:=⟨69,1,(Ud 3 12 RJ Vb<|TI 13 9 10 (R4 188<|TV 12 RN 0 RP 1<|TT 5 Uf<|WN (Wy 6 (SW 5) RJ)<|RM 6)<|Wo 18 (U2 2 0 Us) (Ur 1 RI) (RM 7)<|SZ 20 0 5 (UW 8 RL) (TL 22 (RS 23 (Ub (UI RI) 2<|Sg 1 5<|Sm (TW 90) 8)<|SP 29 8 0 30 (TB 5)<|js 31<|UZ 0<|RT 8 3 2<|RM 7)<|RS 38 (Ub (UI RI) 2<|Sg 1 5<|Sm (TW 101) 9)<|SP 44 9 0 45 (TB 5)<|js 46<|UZ 1<|RT 9 5 4<|RM 7)<|R1 54 7 (Se (UI RI) (V6 1 false RI)<|Sg 10 3<|Sg 11 3<|RZ (VW 190 RP<|Tu RK)<|TV 53 SC 0 TF 1<|Uz 10 RJ 11)<|Sc 64 11 U1 65 (TB 4)<|R1 66 7 (RW 10<|RZ (UI RJ)<|VR 1 RI RJ)<|TB 0),[.tmp 4],true⟩
def F187:bw:=⟨40,0,(Tc 6<|VC 9 (U2 2 0 Us) 7<|SH 8 0 (Ux 10 RJ (SO<|VF RK) 13 1 (RS 16 (RQ 9<|V1 2 RJ RI 0 RI<|U7<|Te RJ)<|RV 22<|R7 23 7<|R9<|Sr 8 2 2<|ST (U2 2 1<|SF 2) (Sl 133 2 32 RR) 7) 14<|Uq 6 8)<|Sc 30 2 (Ue RI Wh RL) 31 (VG 32 7 6)<|Ug 33 7<|RX<|RY 2 (WE<|Vr 0 1 RJ<|Ve 1 1) (U2 2 1<|SF 2)<|ST (Sl 133 2 32 RP) (R5 132) 6),[.tmp 6],false⟩
def F190:bw:=⟨55,0,(UM 6 (Sn qN) Sk<|Tc 8<|Sj 12 10 (Ue RI Wh<|RM 9)<|Uj 14 0 Tv (SN 0 17<|US 17 1 (Vk 18 2 RJ 2 (Uw 11 Wn 2 SC)<|R2 20 11 (Tx<|R3<|Sa 0 12<|RX<|UE RJ RI<|TC 5) 27 (R1 28 8 (RX<|RY 2 (WE<|Vr 0 1 RJ<|Ve 1 1) (U2 2 1<|SF 2)<|SU 133 2 32 RP 8)<|js 9<|VT Sf)<|SM 34 (Sq 11<|RX<|Te RJ)<|RV 37<|js 38<|RY 8 (Su 2 11) (U2 2 1<|SF 2)<|SU 133 2 32 RK 8) 42<|UV 16 1 16)<|Sc 43 9 U1 44 (R7 45 8<|RX<|RY 2 (WE<|Vr 0 1 RJ<|Ve 1 1) (U2 2 1<|SF 2)<|SU 133 2 32 RP 8)<|Ug 51 8<|RW 8<|UU .leq RI 20<|Uz 6 RN 7),[.tmp 6,.tmp 7],true⟩
def F7:bw:=⟨92,0,(UR 2 2 RJ 4 Tq<|Ta 5 1048576<|Sy 14 (Tb 2 U4) (RQ 10<|TJ 8 5)<|R2 17 12 Tt 18 (SE 4)<|R1 19 1 (Ti<|TJ 29 5)<|SP 22 5 0 23 (SE 4)<|Vy 24 (Su 2 2) 10 (RY 1 (R5 31) (TW 36)<|RM 6)<|Vy 29 (Su 2 2) 10 (TT 7 V2<|Ss 2 7)<|R1 31 1 (Sm (R5 31) 8)<|Sy 33 (Su 2 7) (RW 8<|TJ 37 9)<|Sc 36 9 (RY 6 (Tn 19) Tr RL) 39 (SL 4)<|TN (Tw 40 (Se (Su 2 7) (Su 2 2)<|SK 10 (TW 13) U1) [(0,2)]<|SG 44)<|Sc 45 8 (RY 1 (R5 31) (TW 19) U1) 49 (SL 4)<|Ta 10 1<|Sy 50 (Su 2 7) (RW 10<|Sm (VX 14 RJ UK [0]) 10)<|R1 53 8 (RW 10<|Sm (Vi 20<|Tu RJ) 10)<|Sc 56 10 (Ui 0<|Ty 9<|RY 6 (Tn 19) Tr<|Sw 5) 63 (SL 4)<|Ta 11 1<|R1 64 9 (RW 11<|Sm (Vi 20<|Tu RJ) 11)<|Ta 12 1<|R1 67 9 (RW 12<|TJ 21 12)<|SP 70 12 0 71 (SL 4)<|Sc 72 12 (RW 11<|Te RJ) 74 (SL 4)<|Vy 75 (Su 2 2) 10 (RY 1 (R5 31) (TW 37)<|RM 13)<|Sc 80 13 (RY 6 (Tn 19) Tr RL) 83 (SL 4)<|Ta 12 1<|R1 84 9 (RW 12<|TJ 21 12)<|SP 87 12 0 88 (SL 4)<|Sc 89 12 (RW 11<|Te RJ) 91 (SL 4)<|SE 4),[.tmp 4],false⟩
def F36:bw:=⟨17,0,(UR 2 2 RJ 4 (Sn qN)<|Sy 6 (Tb 2 RN) (RQ 6<|RZ (Tn 30)<|Uw 5 WG 4 RN)<|UQ 9 0 4 (TM .neq 0 RL) (RV 11<|VS 12 (Vw 85 12 0 Us)<|RM 4)<|VE 13 (TS 2 TO) 2 (ST (Su 2 2) (Tn 54) 4) iq),[.tmp 4],false⟩
def F37:bw:=⟨16,0,(UR 2 2 RJ 4 (Sn qN)<|Sy 6 (Tb 2 RN) (RQ 6<|RZ (Tn 32)<|Uw 5 WG 4 RN)<|UQ 9 0 4 (TM .neq 0 RL) (RV 11<|V8 4<|Sn qN)<|VE 12 (TS 2 Sd) 2 (ST (Tb 2 U4) (Tn 55) 4) iq),[.tmp 4],true⟩
def T:Nat->Option bw
 |7=>some F7
 |36=>some F36
 |37=>some F37
 |29=>some F29
 |30=>some F30
 |31=>some F31
 |32=>some F32
 |63=>some F63
 |64=>some F64
 |67=>some F67
 |75=>some F75
 |76=>some F76
 |77=>some F77
 |78=>some F78
 |112=>some F112
 |113=>some F113
 |114=>some F114
 |115=>some F115
 |155=>some F155
 |156=>some F156
 |157=>some F157
 |158=>some F158
 |159=>some F159
 |161=>some F161
 |162=>some F162
 |164=>some F164
 |187=>some F187
 |190=>some F190
 |8=>some F8
 |10=>some F10
 |13=>some F13
 |14=>some F14
 |38=>some F38
 |39=>some F39
 |40=>some F40
 |41=>some F41
 |42=>some F42
 |43=>some F43
 |44=>some F44
 |45=>some F45
 |46=>some F46
 |48=>some F48
 |49=>some F49
 |59=>some F59
 |60=>some F60
 |61=>some F61
 |66=>some F66
 |68=>some F68
 |79=>some F79
 |80=>some F80
 |81=>some F81
 |82=>some F82
 |83=>some F83
 |84=>some F84
 |85=>some F85
 |86=>some F86
 |87=>some F87
 |88=>some F88
 |89=>some F89
 |90=>some F90
 |91=>some F91
 |93=>some F93
 |94=>some F94
 |98=>some F98
 |103=>some F103
 |108=>some F108
 |116=>some F116
 |117=>some F117
 |118=>some F118
 |119=>some F119
 |120=>some F120
 |121=>some F121
 |122=>some F122
 |123=>some F123
 |124=>some F124
 |125=>some F125
 |126=>some F126
 |127=>some F127
 |129=>some F129
 |130=>some F130
 |165=>some F165
 |166=>some F166
 |167=>some F167
 |168=>some F168
 |169=>some F169
 |170=>some F170
 |171=>some F171
 |172=>some F172
 |173=>some F173
 |176=>some F176
 |186=>some F186
 |188=>some F188
 |191=>some F191
 |192=>some F192
 |200=>some F200
 |201=>some F201
 |209=>some F209
 |210=>some F210
 |211=>some F211
 |212=>some F212
 |213=>some F213
 |214=>some F214
 |215=>some F215
 |216=>some F216
 |217=>some F217
 |218=>some F218
 |219=>some F219
 |220=>some F220
 |221=>some F221
 |222=>some F222
 |223=>some F223
 |224=>some F224
 |225=>some F225
 |226=>some F226
 |227=>some F227
 |231=>some F231
 |232=>some F232
 |233=>some F233
 |234=>some F234
 |235=>some F235
 |236=>some F236
 |237=>some F237
 |238=>some F238
 |240=>some F240
 |241=>some F241
 |242=>some F242
 |244=>some F244
 |245=>some F245
 |248=>some F248
 |1000050=>some FB50
 |1000051=>some FB51
 |1000057=>some FB57
 |1000058=>some FB58
 |1000020=>some FB20
 |19=>some F19
 |21=>some F21
 |54=>some F54
 |55=>some F55
 |56=>some F56
 |95=>some F95
 |96=>some F96
 |97=>some F97
 |99=>some F99
 |100=>some F100
 |101=>some F101
 |102=>some F102
 |104=>some F104
 |105=>some F105
 |131=>some F131
 |132=>some F132
 |133=>some F133
 |134=>some F134
 |_=>none
def jj(cf:aJ):Prop:=∀ f F,T f=some F->Jk cf f F
def Q7:
  (∀ {k:IntKind} {a b:Int},eq .lss (.int k a) (.int k b)=some (.bool (decide (a<b))))/\(∀ {k:IntKind} {a b:Int},eq .leq (.int k a) (.int k b)=some (.bool (decide (a<=b))))/\
  (∀ {k:IntKind} {a b:Int},eq .gtr (.int k a) (.int k b)=some (.bool (decide (b<a))))/\(∀ {k:IntKind} {a b:Int},eq .geq (.int k a) (.int k b)=some (.bool (decide (b<=a))))/\
  (∀ {k:IntKind} {a b:Int},eq .eql (.int k a) (.int k b)=some (.bool (decide (a=b))))/\(∀ {k:IntKind} {a b:Int},eq .neq (.int k a) (.int k b)=some (.bool (decide (a≠b))))/\
  (∀ {k:IntKind} {a b:Int},eq .add (.int k a) (.int k b)=some (.int k (k.wrap (a+b))))/\(∀ {k:IntKind} {a b:Int},eq .sub (.int k a) (.int k b)=some (.int k (k.wrap (a-b))))/\(∀ {k:IntKind} {a b:Int},eq .mul (.int k a) (.int k b)=some (.int k (k.wrap (a*b))))/\
  (∀ {s t:List UInt8},eq .eql (S s) (S t)=some (.bool (decide (s=t))))/\(∀ {s t:List UInt8},eq .neq (S s) (S t)=some (.bool (decide (s≠t))))/\(∀ {s t:List UInt8},eq .lss (S s) (S t)=some (.bool (d4 s t)))/\
  (∀ {s t:List UInt8},eq .geq (S s) (S t)=some (.bool !(d4 s t)))/\(∀ {s t:List UInt8},eq .gtr (S s) (S t)=some (.bool !(d4 s t||decide (s=t))))/\(∀ {s t:List UInt8},eq .leq (S s) (S t)=some (.bool (d4 s t||decide (s=t))))/\
  (∀ {s t:List UInt8},s.length+t.length<=9223372036854775807->eq .add (S s) (S t)=some (S (s++t)))/\
  (∀ {x:Bool},w6 .not (.bool x)=some (.bool !x))/\(∀ {k:IntKind} {a:Int},w6 .neg (.int k a)=some (.int k (k.wrap (-a))))/\
  (∀ {a:Int},-9223372036854775808<=a->a<=9223372036854775807->IntKind.i64.wrap a=a)/\(∀ {a:Int},0<=a->a<=255->IntKind.u8.wrap a=a)/\
  (∀ {l:List UInt8} {j:Int} {st:St},0<=j->j.toNat<l.length->DY (S l) (I j) st=some (U (cI l j.toNat),st))/\
  (∀ {l:List UInt8} {j:Int} {st:St},0<=j->j<=(l.length:Int)->rJ (S l) (some (I j)) none st=some (S (l.drop j.toNat),st))/\
  (∀ {l:List UInt8} {j:Int} {st:St},0<=j->j<=(l.length:Int)->rJ (S l) none (some (I j)) st=some (S (l.take j.toNat),st))/\
  (∀ {l:List UInt8} {a b:Int} {st:St},0<=a->a<=b->b<=(l.length:Int)->rJ (S l) (some (I a)) (some (I b)) st=some (S ((l.take b.toNat).drop a.toNat),st))/\
  (∀ {sz n:Nat} {cs:List PV} {t:aF} {j:Int} {st:St},0<=j->j<(n:Int)->cs.length=n*sz->ww sz (.list n cs t) (I j) st=some (.iptr cs (j.toNat*sz) (t.elt n),st))/\
  (∀ {sz e sz' s n:Nat} {j:Int} {st:St},0<=j->j<(n:Int)->ww sz (.osl e sz' s n) (I j) st=some (.ptr s (j.toNat*sz),st))/\
  (kD .ret↔True)/\(kD .go↔True)/\
  (∀ {ns:List Nat} {c:List PV} {cs:List (List PV)},(bV ns (c::cs)).objs 0=some c)/\(∀ {n:Nat},aF.elt n .no= .no):=
 ⟨QR,QS,QT,QU,QV,QP,QW,QO,QQ,Qv,Qq,Qr,Qu,Qt,Qs,Qw,Qk,Ql,wrap_i64,GL,Lq,Nz,NA,Jy,Km,Mi,Iff.rfl,Iff.rfl,rfl,rfl⟩
def pa:type_of% (And.intro Q3 (And.intro Q8 (And.intro Q6 OV))):=And.intro Q3 (And.intro Q8 (And.intro Q6 OV))
def pb:type_of% (And.intro Q2 (And.intro Q5 (And.intro Q4 (And.intro Q9 Q7)))):=And.intro Q2 (And.intro Q5 (And.intro Q4 (And.intro Q9 Q7)))
section
variable {cf:aJ} {f:Nat} {F:bw} {as:List PV} {r q:PV} {t t2:Nat} {st:St}
def df(K:jj cf)(hT:T f=some F)(hres:F.res=[.tmp t])(hown:F.own=false)(hnt:as.length<=F.nt)(has:∀ p∈as,dq p)(hr:rE r)(N:Nat)(h:Wp cf N F.body (eM as,bV [] []) (fun e y=>kD e/\y.1 t=r)):az cf f as [] st=some (r,st):=
 sM has hr (Pd (K f F hT) hres hown hnt hr.plain N h)
def Bx(K:jj cf)(hT:T f=some F)(hres:F.res=[.tmp t])(hown:F.own=false)(hnt:as.length+1<=F.nt)(hnk:1<=F.nk)(has:∀ p∈as,dq p)(hr:rE r){s:Nat}{c c':List PV}(hs:st.objs s=some c)(hc:cZ c)(hc':su c')(N:Nat)
  (h:Wp cf N F.body (eM (.ptr 0 0::as),bV [] [c]) (fun e y=>kD e/\y.1 t=r/\y.2.objs 0=some c')):az cf f (.ptr s 0::as) [] st=some (r,cA st s c'):=
 Mx hs hc hc' has hr (Pe (K f F hT) hres hown hnt hnk hr.plain hc'.plain N h)
end
mutual
theorem uB(f:Nat->Option Nat)(s:Bool):∀ p:PV,ren f s (ren (fun _=>none) true p)=ren (fun _=>none) true p
 | .list n cs t=>by
  simp only[ren,kM f s cs];cases t<;>rfl
 | .iptr cs o t=>by
  simp only[ren,kM f s cs];cases t<;>rfl
 | .agg cs=>by simp only[ren,kM f s cs]
 | .tup cs=>by simp only[ren,kM f s cs]
 | .fn g cs=>by simp only[ren,kM f s cs]
 | .any| .hole| .int _ _| .bool _| .str _| .nilp| .nili| .err| .ptr _ _| .osl _ _ _ _| .mp _=>rfl
theorem kM(f:Nat->Option Nat)(s:Bool):∀ ps:List PV,bm f s (bm (fun _=>none) true ps)=bm (fun _=>none) true ps
 | []=>rfl
 |p::ps=>by simp only[bm,uB f s p,kM f s ps]
end
def LX(p:PV):np (aO p)=np p:=by simp only[np,aO,gT]
def li:PV->Bool
 | .osl .. =>false
 | .ptr .. =>false
 |_=>true
def oc(nk:Nat)(st:St):∀ (ps:List PV),(∀ p∈ps,li p=true)->dh nk ps st=(ps,st)
 | [],_=>by rw[dh]
 |p::ps,h=>by
  have ih:=oc nk st ps fun q hq=>h q (by simp[hq]);have hp:=h p (by simp);cases p<;>first|exact absurd hp Bool.false_ne_true|(rw[dh,ih];intros;simp_all)
def ft:List PV->Bool
 | []=>true
 |p::ps=>np p && li p && ft ps
def sq:∀ {ps:List PV},ft ps=true->(∀ p∈ps,li p=true)/\aX ps=true
 | [],_=>⟨by simp,rfl⟩
 |p::ps,h=>by
  simp only[ft,aj]at h;obtain⟨h1,h2⟩:=sq h.2;refine⟨fun q hq=>?_,?_⟩
  ·rcases aZ.1 hq with rfl|hq
   ·exact h.1.2
   ·exact h1 q hq
  have a:off (fun _=>true) p=true:=h.1.1;have b:dS (fun _=>true) ps=true:=h2;simp only[aX,dS,a,b,ay]
def tY{ps:List PV}(h:ft ps=true):np (fW ps)=true:=by
 have h2:=(sq h).2
 match ps with
 | []=>rfl
 | [p]=>simp only[ft,aj]at h;exact h.1.1
 |p::q::ps=>exact h2
def wB{F:bw}{n:Nat}{fr:Fr}{st:St}{ps0:List PV}{cs0:List (List PV)}(hown:F.own=false)(h:fG fr st F.res=some ps0)(hp:ft ps0=true)(hcs:dz st (List.range n)=some cs0)(hc:cs0.all aX=true):
  im F n fr st=some (aO (fW ps0),[],cs0.map aQ):=by
 simp only[im,h,hcs,oc F.nk st ps0 (sq hp).1,tY hp,hc,ay,if_true,lD,hown,dO,cz,if_false]
def wG:Option PV->Option (List PV)->Option (List PV)
 |some p,some ps=>some (p::ps)
 |_,_=>none
def xO(cs:Option (List PV))(off sz:Nat)(ag:Bool):Option PV:=match cs with
 |some cs=>bL cs off sz ag
 |none=>none
def wJ(p:PV)(sz:Nat)(ag:Bool)(st:St):Option PV:=match p with
 | .ptr s off=>xO (st.objs s) off sz ag
 | .iptr cs off _=>bL cs off sz ag
 |_=>none
def zO(Q:PV->List PV->Prop):Option (List PV)->Option (List PV)->Prop
 |some ps,some c=>ft ps=true/\aX c=true/\Q (aO (fW ps)) (aQ c)
 |_,_=>False
def Jn(rs:List iG)(Q:PV->List PV->Prop)(e:Ex)(y:Fr×St):Prop:=kD e/\zO Q (fG y.1 y.2 rs) (y.2.objs 0)
def BG(rs:List iG)(Q:PV->Prop)(e:Ex)(y:Fr×St):Prop:=kD e/\zO (fun p _=>Q p) (fG y.1 y.2 rs) (some [])
def db(st:St)(v:Nat):St:={st with fl:=v}
section
variable {cf:aJ} {f:Nat} {F:bw} {as:List PV} {st:St} {rs:List iG}
def wt{s:Nat}(h:as.all bF=true):dw (.ptr s 0::as)=some [s]:=by
 simp only[dw,eY h];simp
def IM{s:Nat}(h:as.all bF=true):fe [] [] 0 0 (.ptr s 0::as)= .ptr 0 0::as.map aO:=by
 simp only[fe,jT _ _ h]
def hU(K:jj cf)(hT:T f=some F)(hres:F.res=rs)(hown:F.own=false)(hnt:as.length+1<=F.nt)(hnk:1<=F.nk)(has:∀ p∈as,dq p){s:Nat}{c:List PV}(hs:st.objs s=some c)(hc:cZ c)(N:Nat){Q:PV->List PV->Prop}
  (h:Wp cf N F.body (eM (.ptr 0 0::as),bV [] [c]) (Jn rs Q)):∃ r c',Q r c'/\∃ fl,az cf f (.ptr s 0::as) [] st=some (r,db (cA st s c') fl):=by
 obtain⟨e,⟨fr,s1⟩,hev,he,ho⟩:=h;obtain⟨h1,h2⟩:=dD has;subst hres;revert ho;generalize hps:fG fr s1 F.res=o1;generalize hcc:s1.objs 0=o2;intro ho
 match o1,o2,ho with
 |some ps0,some c1,ho=>
  obtain⟨hp,hn,hQ⟩:=ho;have hcs:dz s1 (List.range [c].length)=some [c1]:=by
   have:List.range [c].length=[0]:=rfl;rw[this];simp only[dz,hcc]
  have hf:=wB (n:=[c].length) hown hps hp hcs (by simp[hn]);have hrun:gr cf N F (.ptr 0 0::as) [] [c]=some (aO (fW ps0),[],[aQ c1]):=by
   unfold gr;rw[am ⟨by simpa using hnt,by simpa using hnk⟩,hev];cases e with
   |go=>exact hf
   |ret=>exact hf
   |exit i=>exact he.elim
  have hcf:=K f F hT N _ _ _ _ hrun;refine⟨_,_,hQ,(if(fU (aO (fW ps0)) && [aQ c1].all fT)||oo f (.ptr s 0::as) [c]then st.fl else st.nx),?_⟩
  ·simp only[az,wt h1,dz,hs,IM h1,h2,bg,cJ,hc.2.1,hcf,aA,a6,if_true];congr 1;refine Prod.ext (uB _ _ _) ?_;have hr:bm (fun k=>some (st.nx+k)) false (aQ c1)=aQ c1:=kM _ _ _;simp only[hr];rfl
def Gu{a:PV}{s:Nat}(h:bF a=true):dw [a,.ptr s 0]=some [s]:=by
 simp only[bF,aj]at h;cases a<;>simp_all [dw]
def Gx{a:PV}{s:Nat}(h:bF a=true):fe [] [] 0 0 [a,.ptr s 0]=[aO a,.ptr 0 0]:=by
 cases a<;>first|(simp[bF]at h;done)|simp[fe]
mutual
theorem BO:∀ (p:PV),aO p=p->tf (fun _=>true) p=true
 | .list n cs t,h=>by
  simp only[aO,gx]at h;injection h with _ h1 h2;have:=oA cs h1;cases t<;>simp_all [tf,aF.free,aF.of,aF.ren]
 | .iptr cs o t,h=>by
  simp only[aO,tM]at h;injection h with h1 _ h2;have:=oA cs h1;cases t<;>simp_all [tf,aF.free,aF.of,aF.ren]
 | .agg cs,h=>by
  simp only[aO,ren]at h;injection h with h1;simp[tf,oA cs h1]
 | .tup cs,h=>by
  simp only[aO,ren]at h;injection h with h1;simp[tf,oA cs h1]
 | .fn g cs,h=>by
  simp only[aO,ren]at h;injection h with _ h1;simp[tf,oA cs h1]
 | .ptr _ _,_=>rfl
 | .osl _ _ _ _,_=>rfl
 | .mp _,_=>rfl
 | .any,_=>rfl
 | .hole,_=>rfl
 | .int _ _,_=>rfl
 | .bool _,_=>rfl
 | .str _,_=>rfl
 | .nilp,_=>rfl
 | .nili,_=>rfl
 | .err,_=>rfl
theorem oA:∀ (ps:List PV),aQ ps=ps->dN (fun _=>true) ps=true
 | [],_=>rfl
 |p::ps,h=>by
  simp only[aQ,bm]at h;injection h with h1 h2;simp[dN,BO p h1,oA ps h2]
end
def Py{t:Nat}(K:jj cf)(hT:T f=some F)(hres:F.res=[.tmp t])(hown:F.own=false)(hnt:2<=F.nt)(hnk:1<=F.nk){a r:PV}(ha:dq a)(hr:rE r){s:Nat}{c:List PV}(hs:st.objs s=some c)(hc:cZ c)(N:Nat)
  (h:Wp cf N F.body (eM [a,.ptr 0 0],bV [] [c]) (fun e y=>kD e/\y.1 t=r/\y.2.objs 0=some c)):az cf f [a,.ptr s 0] [] st=some (r,st):=by
 obtain⟨p1,p2⟩:=dD (ps:=[a]) (by simpa using ha);have p1:bF a=true:=by simpa using p1
 have p2:aO a=a:=by simpa using p2
 have hcf:cf f [a,.ptr 0 0] [] [c]=some (r,[],[c]):=K f F hT N _ [] [c] _ (xy h (by simpa using hnt) hnk fun e y hq=>⟨hq.1,wA (cs:=[c]) hres hown (by
  have:List.range [c].length=[0]:=rfl;rw[this];simp only[dz,hq.2.2]) (by simpa using hc) ⟨hr.1,hr.2.1,hr.2.2.2.1,hr.2.2.2.2⟩ hq.2.1⟩)
 have hfree:oo f [a,.ptr s 0] [c]=true:=by
  simp only[oo,cT,dd,tf,BO a p2,oA c hc.2.1,List.isEmpty_cons,Bool.not_false,ay,lB]
 simp only[az,Gu p1,dz,hs,Gx p1,p2,bg,cJ,hc.2.1,hcf,aA,a6,if_true,hfree,lB];congr 1;refine Prod.ext (hr.2.2.2.1 _ _) ?_
 ·have hrr:bm (fun k=>some (st.nx+k)) false c=c:=by
   exact hc.2.2 _ _
  simp only[hrr,fx];have ho:(fun k=>if k=s then some c else st.objs k)=st.objs:=by
   funext k;split
   ·rename_i e;rw[e,hs]
   ·rfl
  rw[ho];rfl
def lu(K:jj cf)(hT:T f=some F)(hres:F.res=rs)(hown:F.own=false)(hnt:as.length<=F.nt)(has:∀ p∈as,dq p)(N:Nat){Q:PV->Prop}
  (h:Wp cf N F.body (eM as,bV [] []) (BG rs Q)):∃ r,Q r/\∃ fl,az cf f as [] st=some (r,db st fl):=by
 obtain⟨e,⟨fr,s1⟩,hev,he,ho⟩:=h;obtain⟨h1,h2⟩:=dD has;subst hres;revert ho;generalize hps:fG fr s1 F.res=o1;intro ho
 match o1,ho with
 |some ps0,ho=>
  obtain⟨hp,-,hQ⟩:=ho;have hf:=wB (n:=0) (cs0:=[]) hown hps hp rfl rfl;have hrun:gr cf N F as [] []=some (aO (fW ps0),[],[]):=by
   unfold gr;rw[am ⟨hnt,aW _⟩,hev];cases e with
   |go=>exact hf
   |ret=>exact hf
   |exit i=>exact he.elim
  have hcf:=K f F hT N _ _ _ _ hrun;refine⟨_,hQ,(if fU (aO (fW ps0))||(nU f && as.all (tf fun _=>true))then st.fl else st.nx),?_⟩
  ·rw[p4 h1 (by rw[h2];exact hcf)];congr 1;refine Prod.ext (uB _ _ _) rfl
def M3{o:Option (PV×St)}{mk:PV->St->Fr×St}{A:Fr×St->Prop}{Q:PV->List PV->Prop}{m:List PV->Nat->St}(h:∃ r c',Q r c'/\∃ fl,o=some (r,m c' fl))(k:∀ r c' fl,Q r c'->A (mk r (m c' fl))):dj o mk A:=by
 obtain⟨r,c',hQ,fl,rfl⟩:=h;exact⟨_,_,rfl,k r c' fl hQ⟩
def yr{o:Option (PV×St)}{mk:PV->St->Fr×St}{A:Fr×St->Prop}{Q:PV->Prop}{m:Nat->St}(h:∃ r,Q r/\∃ fl,o=some (r,m fl))(k:∀ r fl,Q r->A (mk r (m fl))):dj o mk A:=by
 obtain⟨r,hQ,fl,rfl⟩:=h;exact⟨_,_,rfl,k r fl hQ⟩
end
def Gr(e nx:Nat)(cnt:Nat->Nat)(n:Nat):aF->Prop
 | .nil=>n=0
 | .full e'=>e'=e/\n=0
 | .own k e'=>k<nx/\cnt k=n/\e'=e
 |_=>False
def cS(e:Nat)(t:aF)(st:St):aF:=match t with
 | .own k _=> .own k e
 |_=> .own st.nx e
def cV(t:aF)(st:St)(n:Nat):St:=match t with
 | .own k _=>st.count k n
 |_=>st.more [n]
def r7(e sz bytes:Nat)(x y:PV)(st:St):Option (PV×St):=match x,y with
 | .list n cs t,.list m ds _=>
  if iQ st n t=true/\cs.length=n*sz/\ds.length=m*sz/\(n+m) *bytes<=dL/\n+m<=dL/\0<sz then
   match t with
   | .own k e'=>if e'=e then some (.list (n+m) (cs++ds) (.own k e),st.count k (n+m))else none
   | .full e'=>if e'=e/\(0<m\/n=0)then some (.list (n+m) (cs++ds) (.own st.nx e),st.more [n+m])else none
   |_=>some (.list (n+m) (cs++ds) (.own st.nx e),st.more [n+m])
  else none
 |_,_=>none
def tD{e sz bytes n m:Nat}{cs ds:List PV}{t u:aF}{st:St}(h:Gr e st.nx st.cnt n t)(h1:cs.length=n*sz)(h2:ds.length=m*sz)(h3:(n+m) *bytes<=140737488355328)(h4:n+m<=140737488355328)(h5:0<sz):
  r7 e sz bytes (.list n cs t) (.list m ds u) st=some (.list (n+m) (cs++ds) (cS e t st),cV t st (n+m)):=by
 have hb:dL=140737488355328:=rfl;cases t with
 |no=>exact h.elim
 |sub k=>exact h.elim
 |el k e n=>exact h.elim
 |nil=>
  have h:n=0:=h;subst h;simp[r7,iQ,h1,h2,hb,h5,cS,cV];exact⟨by simpa using h3,by simpa using h4⟩
 |full e'=>
  obtain⟨h,hn⟩:e'=e/\n=0:=h;subst h;subst hn;simp[r7,iQ,h1,h2,hb,h5,cS,cV];exact⟨by simpa using h3,by simpa using h4⟩
 |own k e'=>
  obtain⟨ha,hb',rfl⟩:k<st.nx/\st.cnt k=n/\e'=e:=h;simp[r7,iQ,h1,h2,hb,h3,h4,h5,ha,hb',cS,cV]
def cD{e n m:Nat}{t:aF}{st:St}(h:Gr e st.nx st.cnt n t):Gr e (cV t st (n+m)).nx (cV t st (n+m)).cnt (n+m) (cS e t st):=by
 cases t with
 |no=>exact h.elim
 |sub k=>exact h.elim
 |el k e n=>exact h.elim
 |nil=>exact⟨by simp[cV,St.more],by simp[cV,St.more],rfl⟩
 |full e'=>exact⟨by simp[cV,St.more],by simp[cV,St.more],rfl⟩
 |own k e'=>
  obtain⟨ha,hb',rfl⟩:k<st.nx/\st.cnt k=n/\e'=e:=h;exact⟨by simpa [cV,St.count]using ha,by simp[cV,St.count],rfl⟩
def gV{e nx:Nat}{cnt:Nat->Nat}:Gr e nx cnt 0 (.full e):=⟨rfl,rfl⟩
def jX{t:aF}{st:St}{n:Nat}:(cV t st n).objs=st.objs:=by cases t<;>rfl
def K9{t:aF}{st:St}{n:Nat}:(cV t st n).maps=st.maps:=by cases t<;>rfl
def jr:aF->aF->Prop
 | .own k _,.own j _=>k≠j
 |_,_=>True
def io{e e2 n n2 m:Nat}{t u:aF}{st:St}(h:Gr e st.nx st.cnt n t)(k:Gr e2 st.nx st.cnt n2 u)(ha:jr t u):Gr e2 (cV t st m).nx (cV t st m).cnt n2 u/\jr (cS e t st) u:=by
 have go:∀ (t:aF),(match t with| .own _ _=>False|_=>True)->cV t st m=st.more [m]->cS e t st= .own st.nx e->Gr e2 (cV t st m).nx (cV t st m).cnt n2 u/\jr (cS e t st) u:=by
  intro t _ h1 h2;rw[h1,h2];cases u with
  |own j e'=>
   obtain⟨ka,kb,rfl⟩:j<st.nx/\st.cnt j=n2/\e'=e2:=k;refine⟨⟨by simp[St.more];omega,by simp[St.more,ka,kb],rfl⟩,?_⟩
   show st.nx≠j;omega
  |no=>exact k.elim
  |sub k'=>exact k.elim
  |el k' e' n'=>exact k.elim
  |nil=>exact⟨k,trivial⟩
  |full e'=>exact⟨k,trivial⟩
 cases t with
 |no=>exact h.elim
 |sub k=>exact h.elim
 |el k e n=>exact h.elim
 |nil=>exact go .nil trivial rfl rfl
 |full e'=>exact go (.full e') trivial rfl rfl
 |own i e'=>
  cases u with
  |own j e''=>
   obtain⟨ka,kb,rfl⟩:j<st.nx/\st.cnt j=n2/\e''=e2:=k;have ha:i≠j:=ha;refine⟨⟨by simpa [cV,St.count]using ka,?_,rfl⟩,ha⟩;simp only[cV,St.count];rw[ai (fun h=>ha h.symm)];exact kb
  |no=>exact k.elim
  |sub k'=>exact k.elim
  |el k' e' n'=>exact k.elim
  |nil=>exact⟨k,trivial⟩
  |full e''=>exact⟨k,trivial⟩
end Go.PM
