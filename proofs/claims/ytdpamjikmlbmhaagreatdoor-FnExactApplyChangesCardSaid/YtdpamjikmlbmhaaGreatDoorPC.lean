/- A part of the proof. Conditions: none. -/
import Derived.Test.YtdpamjikmlbmhaaGreatDoorPB
set_option linter.all false
namespace Go.PM
def nW(c c':aA):Prop:=∀ f as ns cs r,c f as ns cs=some r->c' f as ns cs=some r
def vf{c c':aA}(h:nW c c'){f:Nat}{as:List PV}{mv:List Nat}{st:St}{r:PV×St}(hr:av c f as mv st=some r):av c' f as mv st=some r:=by
 unfold av at hr ⊢;cases hks:cX as with
 |none=>rw[hks]at hr;cases hr
 |some ks=>
  rw[hks]at hr;simp only at hr ⊢;cases hcs:dl st ks with
  |none=>rw[hcs]at hr;cases hr
  |some cs=>
   rw[hcs]at hr;simp only at hr ⊢;cases mv with
   |nil=>
    simp only at hr ⊢;cases hc:c f (eX [] [] 0 0 as) [] (cs.map aF)with
    |none=>rw[hc]at hr;cases hr
    |some q=>rw[hc]at hr;rw[h _ _ _ _ _ hc];exact hr
   |cons m mv=>
    simp only at hr ⊢;split at hr
    ·rename_i hb;rw[ak hb];cases hc:c f (eX ((dJ (m::mv) as cs).map (·.1)) (m::mv) 0 0 as) ((dJ (m::mv) as cs).map (·.2)) (lh ((dJ (m::mv) as cs).map (·.1)) (jx (m::mv) 0 as) cs)with
     |none=>rw[hc]at hr;cases hr
     |some q=>rw[hc]at hr;rw[h _ _ _ _ _ hc];exact hr
    ·cases hr
def Et{c c':aA}(h:nW c c'){f:Nat}{as:List PV}{st:St}{r:PV×PV×St}(hr:uP c f as st=some r):uP c' f as st=some r:=by
 unfold uP at hr ⊢;cases hq:av c (kF f) as [0] st with
 |none=>rw[hq]at hr;cases hr
 |some q=>rw[hq]at hr;rw[vf h hq];exact hr
def uU{c c':aA}{fr:Fr}{st:St}{d:Option Nat}{o:ew}(h:∀ f as,o= .callU f as->uP c f (as.map (·.ev fr)) st=uP c' f (as.map (·.ev fr)) st):cJ c o d st fr=cJ c' o d st fr:=by
 cases o with
 |callU f as=>simp only[cJ,h f as rfl]
 |call f as mv=>cases mv<;>cases d<;>rfl
 |_=>cases d<;>rfl
def Gn{c c':aA}(h:nW c c'){fr:Fr}{st:St}{d:Option Nat}{o:ew}{r:PV×St}(hr:aw c fr st d o=some r):cJ c o d st fr=cJ c' o d st fr:=by
 refine uU fun f as e=>?_;subst e;simp only[aw]at hr;cases hq:uP c f (as.map (·.ev fr)) st with
 |none=>rw[hq]at hr;cases hr
 |some q=>rw[Et h hq]
def FY{c c':aA}(h:nW c c'){fr:Fr}{st:St}{d:Option Nat}{o:ew}{r:PV×St}(hr:aw c fr st d o=some r):aw c' fr st d o=some r:=by
 cases o with
 |call f as mv=>exact vf h hr
 |cval f as=>
  simp only[aw]at hr ⊢;cases hf:f.ev fr with
  |fn g cap=>
   rw[hf]at hr;simp only at hr ⊢;split at hr
   ·rename_i hg;rw[ak hg];exact vf h hr
   ·cases hr
  |_=>rw[hf]at hr;cases hr
 |callU f as=>
  simp only[aw]at hr ⊢;cases hq:uP c f (as.map (·.ev fr)) st with
  |none=>rw[hq]at hr;cases hr
  |some q=>rw[hq]at hr;rw[Et h hq];exact hr
 |_=>exact hr
def pA{c c':aA}(h:nW c c'){o:bS}{x y:Fr×St}(hr:dk c o x=some y):dk c' o x=some y:=by
 unfold dk at hr ⊢;cases hw:eE x.1 o.g with
 |none=>rw[hw]at hr;cases hr
 |some b=>
  rw[hw]at hr;cases b with
  |false=>exact hr
  |true=>
   simp only at hr ⊢;cases hq:aw c x.1 x.2 o.d o.op with
   |none=>rw[hq]at hr;cases hr
   |some q=>rw[hq]at hr;rw[FY h hq,<-Gn h hq];exact hr
def tI{c c':aA}(h:nW c c'):∀ {os:List bS} {x y:Fr×St},iI c os x=some y->iI c' os x=some y
 | [],_,_,hr=>hr
 |o::os,x,y,hr=>by
  simp only[iI]at hr ⊢;split at hr
  ·rename_i z hz;rw[pA h hz];exact tI h hr
  ·cases hr
def sx{c c':aA}(h:nW c c'):∀ {os:List bS} {x:Fr×St} {y},iA c os x=some y->iA c' os x=some y
 | [],_,_,hr=>hr
 |o::os,x,y,hr=>by
  simp only[iA]at hr ⊢;split at hr
  ·rename_i z hz;rw[pA h hz];simp only;split at hr
   ·rename_i hk;rw[sx h hk];exact hr
   ·cases hr
  ·cases hr
def Ht{c c':aA}(h:nW c c'){os:List bS}{chk:List (Nat×Nat)}{x y:Fr×St}(hr:sj c os chk x=some y):sj c' os chk x=some y:=by
 cases chk with
 |nil=>exact tI h hr
 |cons q chk=>
  simp only[sj]at hr ⊢;split at hr
  ·rename_i hk;rw[sx h hk];exact hr
  ·cases hr
def wh{b b':Fr×St->Option (Ex×Fr×St)}(h:∀ x r,b x=some r->b' x=some r):∀ {n n':Nat} {x:Fr×St} {r},n<=n'->oJ b n x=some r->oJ b' n' x=some r
 |0,_,_,_,_,hr=>by simp[oJ]at hr
 |n+1,0,_,_,hn,_=>by omega
 |n+1,n'+1,x,r,hn,hr=>by
  simp only[oJ]at hr ⊢;split at hr
  ·rename_i y hy;rw[h _ _ hy];exact wh h (by omega) hr
  ·rename_i hne;rw[h _ _ hr];obtain⟨e,y⟩:=r;cases e with
   |go=>exact absurd hr (hne y)
   |exit i=>rfl
   |ret=>rfl
def uc{c c':aA}(h:nW c c'){n n':Nat}(hn:n<=n'):∀ (cc:CC) {x:Fr×St} {r},ev c n cc x=some r->ev c' n' cc x=some r:=by
 intro cc
 induction cc with
 |skip=>intro x r hr;exact hr
 |exit id=>intro x r hr;exact hr
 |ret=>intro x r hr;exact hr
 |reg os chk=>
  intro x r hr;simp only[ev,am]at hr ⊢;obtain⟨y,hy,rfl⟩:=hr;exact⟨y,Ht h hy,rfl⟩
 |seq a b iha ihb=>
  intro x r hr;simp only[ev]at hr ⊢;split at hr
  ·rename_i y hy;rw[iha hy];exact ihb hr
  ·rename_i hne;rw[iha hr];obtain⟨e,y⟩:=r;cases e with
   |go=>exact absurd hr (hne y)
   |exit i=>rfl
   |ret=>rfl
 |cond cx a b iha ihb=>
  intro x r hr;simp only[ev]at hr ⊢;split at hr
  ·rename_i hc;exact iha hr
  ·rename_i hc;exact ihb hr
  ·cases hr
 |block id a iha=>
  intro x r hr;simp only[ev]at hr ⊢;split at hr
  ·rename_i i y hy;rw[iha hy];exact hr
  ·rename_i hne;rw[iha hr];obtain⟨e,y⟩:=r;cases e with
   |go=>rfl
   |exit i=>exact absurd hr (hne i y)
   |ret=>rfl
 |loop a iha=>
  intro x r hr;simp only[ev]at hr ⊢;exact wh (fun x r h=>iha h) hn hr
structure oC (c:Nat->aA) (lim:aA):Prop where
 up:∀ n,nW (c n) (c (n+1))
 lim:∀ f as ns cs r,lim f as ns cs=some r->∃ n,c n f as ns cs=some r
def nW.refl(c:aA):nW c c:=fun _ _ _ _ _ h=>h
def nW.trans{a b c:aA}(h:nW a b)(k:nW b c):nW a c:=fun f as ns cs r x=>k f as ns cs r (h f as ns cs r x)
section
variable {c:Nat->aA} {lim:aA}
def oC.le(h:oC c lim){n m:Nat}(hnm:n<=m):nW (c n) (c m):=by
 induction hnm with
 |refl=>exact nW.refl _
 |step _ ih=>exact ih.trans (h.up _)
def vh(h:oC c lim){f:Nat}{as:List PV}{mv:List Nat}{st:St}{r:PV×St}(hr:av lim f as mv st=some r):∃ n,av (c n) f as mv st=some r:=by
 unfold av at hr ⊢;cases hks:cX as with
 |none=>rw[hks]at hr;cases hr
 |some ks=>
  rw[hks]at hr;simp only at hr ⊢;cases hcs:dl st ks with
  |none=>rw[hcs]at hr;cases hr
  |some cs=>
   rw[hcs]at hr;simp only at hr ⊢;cases mv with
   |nil=>
    simp only at hr ⊢;cases hc:lim f (eX [] [] 0 0 as) [] (cs.map aF)with
    |none=>rw[hc]at hr;cases hr
    |some q=>
     rw[hc]at hr;obtain⟨n,hn⟩:=h.lim _ _ _ _ _ hc;exact⟨n,by rw[hn];exact hr⟩
   |cons m mv=>
    simp only at hr ⊢;split at hr
    ·rename_i hb;cases hc:lim f (eX ((dJ (m::mv) as cs).map (·.1)) (m::mv) 0 0 as) ((dJ (m::mv) as cs).map (·.2)) (lh ((dJ (m::mv) as cs).map (·.1)) (jx (m::mv) 0 as) cs)with
     |none=>rw[hc]at hr;cases hr
     |some q=>
      rw[hc]at hr;obtain⟨n,hn⟩:=h.lim _ _ _ _ _ hc;exact⟨n,by rw[ak hb,hn];exact hr⟩
    ·cases hr
def Eu(h:oC c lim){f:Nat}{as:List PV}{st:St}{r:PV×PV×St}(hr:uP lim f as st=some r):∃ n,uP (c n) f as st=some r:=by
 unfold uP at hr ⊢;cases hq:av lim (kF f) as [0] st with
 |none=>rw[hq]at hr;cases hr
 |some q=>
  rw[hq]at hr;obtain⟨n,hn⟩:=vh h hq;exact⟨n,by rw[hn];exact hr⟩
def FZ(h:oC c lim){fr:Fr}{st:St}{d:Option Nat}{o:ew}{r:PV×St}(hr:aw lim fr st d o=some r):∃ n,aw (c n) fr st d o=some r:=by
 cases o with
 |call f as mv=>exact vh h hr
 |cval f as=>
  simp only[aw]at hr ⊢;cases hf:f.ev fr with
  |fn g cap=>
   rw[hf]at hr;simp only at hr ⊢;split at hr
   ·rename_i hg;obtain⟨n,hn⟩:=vh h hr;exact⟨n,by rw[ak hg];exact hn⟩
   ·cases hr
  |_=>rw[hf]at hr;cases hr
 |callU f as=>
  simp only[aw]at hr ⊢;cases hq:uP lim f (as.map (·.ev fr)) st with
  |none=>rw[hq]at hr;cases hr
  |some q=>
   rw[hq]at hr;obtain⟨n,hn⟩:=Eu h hq;exact⟨n,by rw[hn];exact hr⟩
 |_=>exact⟨0,hr⟩
def vP(h:oC c lim){o:bS}{x y:Fr×St}(hr:dk lim o x=some y):∃ n,dk (c n) o x=some y:=by
 unfold dk at hr ⊢;cases hw:eE x.1 o.g with
 |none=>rw[hw]at hr;cases hr
 |some b=>
  rw[hw]at hr;cases b with
  |false=>exact⟨0,hr⟩
  |true=>
   simp only at hr ⊢;cases hq:aw lim x.1 x.2 o.d o.op with
   |none=>rw[hq]at hr;cases hr
   |some q=>
    rw[hq]at hr;obtain⟨n,hn,hk⟩:∃ n,aw (c n) x.1 x.2 o.d o.op=some q/\cJ (c n) o.op o.d x.2 x.1=cJ lim o.op o.d x.2 x.1:=by
     by_cases hu:∃ f as,o.op= .callU f as
     ·obtain⟨f,as,he⟩:=hu;rw[he]at hq ⊢;simp only[aw]at hq ⊢;cases hv:uP lim f (as.map (·.ev x.1)) x.2 with
      |none=>rw[hv]at hq;cases hq
      |some z=>
       rw[hv]at hq;obtain⟨n,hn⟩:=Eu h hv;exact⟨n,by rw[hn];exact hq,uU fun f' as' e=>by cases e;rw[hn,hv]⟩
     ·obtain⟨n,hn⟩:=FZ h hq;exact⟨n,hn,uU fun f as e=>absurd ⟨f,as,e⟩ hu⟩
    exact⟨n,by rw[hn,hk];exact hr⟩
def xx(h:oC c lim):∀ {os:List bS} {x y:Fr×St},iI lim os x=some y->∃ n,iI (c n) os x=some y
 | [],_,_,hr=>⟨0,hr⟩
 |o::os,x,y,hr=>by
  simp only[iI]at hr ⊢;split at hr
  ·rename_i z hz;obtain⟨n,hn⟩:=vP h hz;obtain⟨m,hm⟩:=xx h hr;refine⟨max n m,?_⟩;rw[pA (h.le (iS n m)) hn];exact tI (h.le (ky n m)) hm
  ·cases hr
def wg(h:oC c lim):∀ {os:List bS} {x:Fr×St} {y},iA lim os x=some y->∃ n,iA (c n) os x=some y
 | [],_,_,hr=>⟨0,hr⟩
 |o::os,x,y,hr=>by
  simp only[iA]at hr ⊢;split at hr
  ·rename_i z hz;split at hr
   ·rename_i hk;obtain⟨n,hn⟩:=vP h hz;obtain⟨m,hm⟩:=wg h hk;refine⟨max n m,?_⟩;rw[pA (h.le (iS n m)) hn];simp only;rw[sx (h.le (ky n m)) hm];exact hr
   ·cases hr
  ·cases hr
def Hu(h:oC c lim){os:List bS}{chk:List (Nat×Nat)}{x y:Fr×St}(hr:sj lim os chk x=some y):∃ n,sj (c n) os chk x=some y:=by
 cases chk with
 |nil=>exact xx h hr
 |cons q chk=>
  simp only[sj]at hr ⊢;split at hr
  ·rename_i hk;obtain⟨n,hn⟩:=wg h hk;exact⟨n,by rw[hn];exact hr⟩
  ·cases hr
def Bc{b:Nat->Fr×St->Option (Ex×Fr×St)}{l:Fr×St->Option (Ex×Fr×St)}(up:∀ n m x r,n<=m->b n x=some r->b m x=some r)(hl:∀ x r,l x=some r->∃ n,b n x=some r):
  ∀ {N:Nat} {x:Fr×St} {r},oJ l N x=some r->∃ n,oJ (b n) N x=some r
 |0,_,_,hr=>by simp[oJ]at hr
 |N+1,x,r,hr=>by
  simp only[oJ]at hr ⊢;split at hr
  ·rename_i y hy;obtain⟨n,hn⟩:=hl _ _ hy;obtain⟨m,hm⟩:=Bc up hl hr;refine⟨max n m,?_⟩;rw[up _ _ _ _ (iS n m) hn];exact wh (fun x r h=>up _ _ _ _ (ky n m) h) (aE _) hm
  ·rename_i hne;obtain⟨n,hn⟩:=hl _ _ hr;refine⟨n,?_⟩;rw[hn];obtain⟨e,y⟩:=r;cases e with
   |go=>exact absurd hr (hne y)
   |exit i=>rfl
   |ret=>rfl
def E8(h:oC c lim)(N:Nat):∀ (cc:CC) {x:Fr×St} {r},ev lim N cc x=some r->∃ n,ev (c n) N cc x=some r:=by
 intro cc
 induction cc with
 |skip=>intro x r hr;exact⟨0,hr⟩
 |exit id=>intro x r hr;exact⟨0,hr⟩
 |ret=>intro x r hr;exact⟨0,hr⟩
 |reg os chk=>
  intro x r hr;simp only[ev,am]at hr ⊢;obtain⟨y,hy,rfl⟩:=hr;obtain⟨n,hn⟩:=Hu h hy;exact⟨n,y,hn,rfl⟩
 |seq a b iha ihb=>
  intro x r hr;simp only[ev]at hr ⊢;split at hr
  ·rename_i y hy;obtain⟨n,hn⟩:=iha hy;obtain⟨m,hm⟩:=ihb hr;refine⟨max n m,?_⟩;rw[uc (h.le (iS n m)) (aE N) a hn];exact uc (h.le (ky n m)) (aE N) b hm
  ·rename_i hne;obtain⟨n,hn⟩:=iha hr;refine⟨n,?_⟩;rw[hn];obtain⟨e,y⟩:=r;cases e with
   |go=>exact absurd hr (hne y)
   |exit i=>rfl
   |ret=>rfl
 |cond cx a b iha ihb=>
  intro x r hr;simp only[ev]at hr ⊢;split at hr
  ·exact iha hr
  ·exact ihb hr
  ·cases hr
 |block id a iha=>
  intro x r hr;simp only[ev]at hr ⊢;split at hr
  ·rename_i i y hy;obtain⟨n,hn⟩:=iha hy;exact⟨n,by rw[hn];exact hr⟩
  ·rename_i hne;obtain⟨n,hn⟩:=iha hr;refine⟨n,?_⟩;rw[hn];obtain⟨e,y⟩:=r;cases e with
   |go=>rfl
   |exit i=>exact absurd hr (hne i y)
   |ret=>rfl
 |loop a iha=>
  intro x r hr;simp only[ev]at hr ⊢;exact Bc (b:=fun n=>ev (c n) N a) (l:=ev lim N a) (fun n m x r hnm hx=>uc (h.le hnm) (aE N) a hx) (fun x r hx=>iha hx) hr
end
end Go.PM
namespace Go.PM
variable {P:Program} {B:Nat->Nat->Option Value}
inductive hZ where
 |tmp (t:Nat)
 |cell (a sz:Nat) (ag:Bool)
def mR(fr:Fr)(st:St):hZ->Option PV
 | .tmp t=>some (fr t)
 | .cell a sz ag=>match fr a with
  | .ptr s off=>match st.objs s with
   |some cs=>bI cs off sz ag
   |none=>none
  | .iptr cs off _=>bI cs off sz ag
  |_=>none
def ff(fr:Fr)(st:St):List hZ->Option (List PV)
 | []=>some []
 |r::rs=>match mR fr st r,ff fr st rs with
  |some p,some ps=>some (p::ps)
  |_,_=>none
def cL(nk:Nat):List PV->St->List PV×St
 | [],st=>([],st)
 | .osl e sz s n::ps,st=>match st.objs s with
  |some cs=>if nk<=s/\cs.length=n*sz/\n<=dB then
    match cL nk (ps.map (eA s)) {st.more [n]with objs:=fun k=>if k=s then none else st.objs k}with
    |(qs,st')=>(.list n cs (.own st.nx e)::qs,st')
   else match cL nk ps st with
    |(qs,st')=>(.any::qs,st')
  |none=>match cL nk ps st with
   |(qs,st')=>(.any::qs,st')
 |p::ps,st=>match cL nk ps st with
  |(qs,st')=>(p::qs,st')
termination_by ps _=>ps.length
def Gh.melt(G:Gh)(s b e sz n:Nat)(us:List Value):Gh where
 com b' o:=if b'=b then us[o]? else G.com b' o
 sh b':=if b'=b then some (e,us.length)else G.sh b'
 tk t:=if t=G.nx then some (mi.room (oR.mk b n sz e n))else G.tk t
 nx:=G.nx+1
 pv b':=if b'=b then some G.nx else G.pv b'
 ob k:=if k=s then none else G.ob k
 oe k:=if k=s then none else G.oe k
 xp:=G.xp
 mb:=G.mb
section
variable {G:Gh} {st:St} {w:World}
def Le.melt(hI:bz P B G st w){s b e sz n:Nat}{us:List Value}(hb:G.ob s=some b):Le G (G.melt s b e sz n us):=by
 obtain⟨_,h2,h3⟩:=hI.obs s b hb;refine⟨fun b' o v h=>?_,fun b' x h=>?_,fun t x' ht h=>?_,Nat.le_succ G.nx,fun b' k o v h hp=>?_,rfl⟩
 ·have hne:b'≠b:=by rintro rfl;rw[h2 o]at h;cases h
  simp only[Gh.melt,ad hne];exact h
 ·have hne:b'≠b:=by rintro rfl;rw[h3]at h;cases h
  simp only[Gh.melt,ad hne];exact h
 ·have hne:t≠G.nx:=by omega
  simp only[Gh.melt,ad hne]at h;exact⟨x',h,aE _,fun _=>rfl⟩
 ·have hne:b'≠b:=by rintro rfl;rw[h2 o]at h;cases h
  simp only[Gh.melt,ad hne]at hp;exact hp
def bz.melt(hI:bz P B G st w){s b e sz n:Nat}{cs:List PV}{us:List Value}(hb:G.ob s=some b)(hs:st.objs s=some cs)(hh:w.heap[b]? =some (.cells us.toArray e (0,0)))(hul:us.length=n*sz)(hn:n<=dB)(hsz:fK P e=some sz):
  bz P B (G.melt s b e sz n us) {st.more [n]with objs:=fun k=>if k=s then none else st.objs k} w:=by
 have hle:=Le.melt (e:=e) (sz:=sz) (n:=n) (us:=us) hI hb;have hnx:=hI.nx;obtain⟨h1,h2,h3⟩:=hI.obs s b hb;have hml:dB<=maxLen:=by decide
 have hobk:∀ {k b'},(G.melt s b e sz n us).ob k=some b'->k≠s/\G.ob k=some b':=by
  intro k b' h;simp only[Gh.melt]at h;split at h
  ·cases h
  ·rename_i hk;exact⟨hk,h⟩
 have hbne:∀ {k b'},k≠s->G.ob k=some b'->b'≠b:=by
  rintro k b' hk h rfl;exact hk (hI.obj k s _ h hb)
 have hrne:∀ {t r},G.tk t=some (.room r)->r.b≠b:=by
  rintro t r h rfl;have:=(hI.room t r h).1;rw[h3]at this;cases this
 have hroom:∀ {t r},(G.melt s b e sz n us).tk t=some (.room r)->(t=G.nx/\r={b:=b,cap:=n,sz:=sz,e:=e,m:=n})\/(t≠G.nx/\G.tk t=some (.room r)):=by
  intro t r h;simp only[Gh.melt]at h;split at h
  ·rename_i ht;cases h;exact .inl ⟨ht,rfl⟩
  ·rename_i ht;exact .inr ⟨ht,h⟩
 refine⟨fun b' o v h=>?_,fun b' e' k h=>?_,by simp[Gh.melt,St.more,hnx],fun t x h=>?_,fun t ht=>?_,fun t r h=>?_,fun t u r q h h' hb'=>?_,fun t r h=>?_,fun k c h=>?_,fun k b' h=>?_,fun k l b' h h'=>hI.obj k l b' (hobk h).2 (hobk h').2,fun k h=>?_,fun k c h=>?_,fun b' k h=>?_,hI.xpl,fun b' o v h=>?_,fun k b' e' sz' h h'=>?_,fun k es h=>?_,hI.mbs,hI.mbi,hI.nomb,fun k b' h=>?_,fun t m h=>by
  simp only[Gh.melt]at h;split at h
  ·cases h
  ·exact hI.ful t m h⟩
 ·simp only[Gh.melt]at h;split at h
  ·rename_i hbb;subst hbb;simp[World.cell?,hh,h]
  ·exact hI.com b' o v h
 ·simp only[Gh.melt]at h;split at h
  ·rename_i hbb;subst hbb;cases h;exact⟨_,hh,by simp⟩
  ·exact hI.sh b' e' k h
 ·simp only[Gh.melt]at h;split at h
  ·rename_i ht;cases h;refine⟨by simp[St.more];omega,?_⟩;simp[St.more,ht,hnx,mi.cnt]
  ·obtain⟨h4,h5⟩:=hI.cnt t x h;exact⟨by simp only[St.more];omega,by simp only[St.more,ak h4];exact h5⟩
 ·by_cases h:t=G.nx
  ·exact⟨.room {b:=b,cap:=n,sz:=sz,e:=e,m:=n},by simp only[Gh.melt,ak h]⟩
  ·obtain⟨x,hx⟩:=hI.live t (by simp[St.more]at ht;omega);exact⟨x,by simp only[Gh.melt,ad h];exact hx⟩
 ·rcases hroom h with⟨rfl,rfl⟩|⟨ht,h⟩
  ·refine⟨by simp[Gh.melt,hul],by show n<=maxLen;omega,aE _,hsz,fun o ho=>?_,?_⟩
   ·simp only[Gh.melt,if_true];exact bB (by simp only at ho;omega)
   ·exact(hI.obx s b hb).2
  ·obtain⟨h4,h5,h6,h7,h8,h9⟩:=hI.room t r h;have:=hrne h;refine⟨by simp only[Gh.melt,ad this];exact h4,h5,h6,h7,fun o ho=>by simp only[Gh.melt,ad this];exact h8 o ho,h9⟩
 ·rcases hroom h with⟨rfl,rfl⟩|⟨ht,h⟩<;>rcases hroom h' with⟨rfl,rfl⟩|⟨hu,h'⟩
  ·rfl
  ·exact absurd hb'.symm (hrne h')
  ·exact absurd hb' (hrne h)
  ·exact hI.apart t u r q h h' hb'
 ·rcases hroom h with⟨rfl,rfl⟩|⟨ht,h⟩
  ·simp only[Gh.melt,if_true];exact⟨fun _=>trivial,fun j hj=>(Option.some.inj hj).symm⟩
  ·simp only[Gh.melt,ad (hrne h)];exact hI.priv t r h
 ·have h':(if k=s then none else st.objs k)=some c:=h;split at h'
  ·cases h'
  ·rename_i hk;obtain⟨b',e',vs,h4,h5,h6⟩:=hI.objs k c h';exact⟨b',e',vs,by simp only[Gh.melt,ad hk];exact h4,h5,h6.le hle (hI.npo k c h')⟩
 ·obtain⟨hk,h'⟩:=hobk h;obtain⟨h4,h5,h6⟩:=hI.obs k b' h';have:=hbne hk h';exact⟨h4,fun o=>by simp only[Gh.melt,ad this];exact h5 o,by simp only[Gh.melt,ad this];exact h6⟩
 ·have h':(if k=s then none else st.objs k)=none:=h;simp only[Gh.melt];split
  ·rfl
  ·rename_i hk;rw[ad hk]at h';exact hI.nob k h'
 ·have h':(if k=s then none else st.objs k)=some c:=h;split at h'
  ·cases h'
  ·exact hI.npo k c h'
 ·simp only[Gh.melt]at h;split at h
  ·rename_i hbb;subst hbb;exact h1
  ·exact hI.pvl b' k h
 ·obtain⟨h4,h5⟩:=hI.base b' o v h;have hne:b'≠b:=by rintro rfl;rw[h2 o]at h4;cases h4
  simp only[Gh.melt,ad hne];exact⟨h4,h5⟩
 ·obtain⟨hk,h4⟩:=hobk h;simp only[Gh.melt,ad hk]at h';exact hI.oes k b' e' sz' h4 h'
 ·obtain⟨b',vs,clk,h4,h5,h6,h7⟩:=hI.mobj k es h;exact⟨b',vs,clk,h4,h5,h6.le hle h7,h7⟩
 ·obtain⟨hk,h'⟩:=hobk h;obtain⟨h4,h5⟩:=hI.obx k b' h';simp only[Gh.melt,ad (hbne hk h')];exact⟨h4,h5⟩
def cu.melt{G0:Gh}{w0:World}(hI:bz P B G st w)(hS:cu G0 w0 G w){s b e sz n:Nat}{us:List Value}(hb:G.ob s=some b)(hp:w0.heap.size<=b)(h0:∀ b o v,G0.com b o=some v->b<w0.heap.size):cu G0 w0 (G.melt s b e sz n us) w:=by
 have hle:=Le.melt (e:=e) (sz:=sz) (n:=n) (us:=us) hI hb;refine⟨⟨fun b' o v h hpn=>?_,fun b' x h=>hle.sh b' x (hS.le.sh b' x h),hS.le.xp⟩,hS.size,hS.kept,fun k b' h=>?_,fun t r h=>?_,fun b' o v h=>?_,fun b' x h=>?_,fun b' k h=>?_,hS.nearM,hS.eff⟩
 ·obtain⟨h1,h2⟩:=hS.le.com b' o v h hpn;have hne:b'≠b:=by rintro rfl;have:=h0 _ _ _ h;omega
  exact⟨hle.com b' o v h1,by simp only[Gh.melt,ad hne];exact h2⟩
 ·simp only[Gh.melt]at h;split at h
  ·cases h
  ·exact hS.nearO k b' h
 ·simp only[Gh.melt]at h;split at h
  ·cases h;exact .inr hp
  ·exact hS.nearT t r h
 ·simp only[Gh.melt]at h;split at h
  ·rename_i hbb;subst hbb;exact .inr (.inr hp)
  ·exact hS.nearC b' o v h
 ·simp only[Gh.melt]at h;split at h
  ·rename_i hbb;subst hbb;exact .inr hp
  ·exact hS.nearS b' x h
 ·simp only[Gh.melt]at h;split at h
  ·rename_i hbb;subst hbb;exact .inr hp
  ·exact hS.nearP b' k h
def JS{G0:Gh}{w0:World}(h0:∀ b o v,G0.com b o=some v->b<w0.heap.size)(nk:Nat):∀ (k:Nat) {ps:List PV} {vs:List Value} {G:Gh} {st:St},ps.length=k->bz P B G st w->cu G0 w0 G w->(∀ s b,nk<=s->G.ob s=some b->w0.heap.size<=b)->ps.length=vs.length->(∀ (j:Nat) p v,ps[j]? =some p->vs[j]? =some v->R G p v/\cz p=true)->
  ∃ G',bz P B G' (cL nk ps st).2 w/\Le G G'/\cu G0 w0 G' w/\(∀ s,s<nk->G'.bx s=G.bx s)/\(∀ s,s<nk->(cL nk ps st).2.objs s=st.objs s)/\(∀ s b,nk<=s->G'.ob s=some b->w0.heap.size<=b)/\
   (cL nk ps st).1.length=vs.length/\∀ (j:Nat) p v,(cL nk ps st).1[j]? =some p->vs[j]? =some v->np p=true->R G' p v:=by
 intro k
 induction k with
 |zero=>
  intro ps vs G st hk hI hS hob hl hR;have:ps=[]:=bF hk;subst this;rw[cL];exact⟨G,hI,Le.refl G,hS,fun _ _=>rfl,fun _ _=>rfl,hob,hl,fun j p v h=>by simp at h⟩
 |succ k ih=>
  intro ps vs G st hk hI hS hob hl hR;cases ps with
  |nil=>simp at hk
  |cons p ps=>
   cases vs with
   |nil=>simp at hl
   |cons v vs=>
    have hRp:=hR 0 p v rfl rfl;have hRt:∀ (j:Nat) p v,ps[j]? =some p->vs[j]? =some v->R G p v/\cz p=true:=fun j p v h1 h2=>hR (j+1) p v (by simpa using h1) (by simpa using h2);have hk':ps.length=k:=by simpa using hk
    have hl':ps.length=vs.length:=by simpa using hl
    have keep:∀ q,(∀ G',Le G G'->np q=true->R G' q v)->∃ G',bz P B G' (cL nk ps st).2 w/\Le G G'/\cu G0 w0 G' w/\(∀ s,s<nk->G'.bx s=G.bx s)/\(∀ s,s<nk->(cL nk ps st).2.objs s=st.objs s)/\(∀ s b,nk<=s->G'.ob s=some b->w0.heap.size<=b)/\
      (q::(cL nk ps st).1).length=(v::vs).length/\∀ (j:Nat) p u,(q::(cL nk ps st).1)[j]? =some p->(v::vs)[j]? =some u->np p=true->R G' p u:=by
     intro q hq;obtain⟨G',h1,h2,h3,h4,h5,h6,h7,h8⟩:=ih hk' hI hS hob hl' hRt;refine⟨G',h1,h2,h3,h4,h5,h6,by simp[h7],fun j p u hp hu hn=>?_⟩;cases j with
     |zero=>simp at hp hu;subst hp;subst hu;exact hq G' h2 hn
     |succ j=>exact h8 j p u (by simpa using hp) (by simpa using hu) hn
    have plain:∃ G',bz P B G' (cL nk ps st).2 w/\Le G G'/\cu G0 w0 G' w/\(∀ s,s<nk->G'.bx s=G.bx s)/\(∀ s,s<nk->(cL nk ps st).2.objs s=st.objs s)/\(∀ s b,nk<=s->G'.ob s=some b->w0.heap.size<=b)/\
      (p::(cL nk ps st).1).length=(v::vs).length/\∀ (j:Nat) q u,(p::(cL nk ps st).1)[j]? =some q->(v::vs)[j]? =some u->np q=true->R G' q u:=
     keep p fun G' hL hn=>hRp.1.le hL (fun _=>true) (fun s h=>by cases h) hn
    cases p with
    |osl e sz s n=>
     rw[cL];split
     ·rename_i cs hcs;split
      ·rename_i hc;obtain⟨hs,hlen,hnb⟩:=hc;cases hRp.1 with
       |osl _ _ _ _ b hb he=>
       obtain⟨e',us,hh,hRs,_⟩:=hI.box hcs hb;obtain⟨hsz,cur,hcur⟩:=hI.oes s b e sz hb he;rw[hh]at hcur;cases hcur;have hul:us.length=n*sz:=by rw[<-hRs.1];exact hlen
       have hle:=Le.melt (e:=e) (sz:=sz) (n:=n) (us:=us) hI hb;have hpb:=hob s b hs hb;have hI1:=hI.melt hb hcs hh hul hnb hsz;have hS1:=cu.melt (e:=e) (sz:=sz) (n:=n) (us:=us) hI hS hb hpb h0;obtain⟨G',h1,h2,h3,h4,h5,h6,h7,h8⟩:=ih (ps:=ps.map (eA s)) (vs:=vs) (by simpa using hk') hI1 hS1 (fun k b' hk hb'=>by
        simp only[Gh.melt]at hb';split at hb'
        ·cases hb'
        ·exact hob k b' hk hb') (by simpa using hl') (fun j q u hq hu=>by
        rw[de,am]at hq;obtain⟨q0,hq0,rfl⟩:=hq;obtain⟨h1,h2⟩:=hRt j q0 u hq0 hu;exact⟨(Ba s h1).le hle (fun k=>decide (k=s)) (fun k hk=>by
         have hk:k≠s:=by simpa using hk
         simp[Gh.bx,Gh.melt,hk]) (CP s q0 h2),A9 s h2⟩)
       refine⟨G',h1,hle.trans h2,h3,fun k hk=>?_,fun k hk=>?_,h6,by simp[h7],fun j q u hq hu hn=>?_⟩
       ·rw[h4 k hk];simp[Gh.bx,Gh.melt,show k≠s by omega]
       ·rw[h5 k hk];simp[show k≠s by omega]
       ·cases j with
        |zero=>
         simp at hq hu;subst hq;subst hu;have hRs1:=hRs.le hle (hI.npo s cs hcs);have hR1:R (G.melt s b e sz n us) (.list n cs (.own G.nx e)) (.slice (some ⟨b,0,none⟩) n n):=by
          refine .list n cs _ b 0 n us (aE _) hRs1.1 (fun j u hu=>?_) hRs1.2.1 hRs1.2.2 ⟨by simp[Gh.melt],fun x hx=>?_⟩ (fun k _ hk=>?_) (fun _ _=>(hI.obx s b hb).2)
          ·simp only[Gh.melt,aq,if_true];exact hu
          ·simp only[Gh.melt,if_true]at hx;cases hx;exact⟨aE _,fun _=>⟨rfl,rfl,rfl,rfl,hul⟩⟩
          ·simp only[Gh.melt,if_true]at hk;exact hk
         rw[hI.nx]at hR1;exact hR1.le h2 (fun _=>true) (fun s h=>by cases h) hn
        |succ j=>exact h8 j q u (by simpa using hq) (by simpa using hu) hn
      ·exact keep .any fun G' _ _=> .any v
     ·exact keep .any fun G' _ _=> .any v
    |any=>rw[cL];exact plain;all_goals (intros;simp_all)
    |hole=>rw[cL];exact plain;all_goals (intros;simp_all)
    |int _ _=>rw[cL];exact plain;all_goals (intros;simp_all)
    |bool _=>rw[cL];exact plain;all_goals (intros;simp_all)
    |str _=>rw[cL];exact plain;all_goals (intros;simp_all)
    |nilp=>rw[cL];exact plain;all_goals (intros;simp_all)
    |nili=>rw[cL];exact plain;all_goals (intros;simp_all)
    |err=>rw[cL];exact plain;all_goals (intros;simp_all)
    |agg _=>rw[cL];exact plain;all_goals (intros;simp_all)
    |tup _=>rw[cL];exact plain;all_goals (intros;simp_all)
    |list _ _ _=>rw[cL];exact plain;all_goals (intros;simp_all)
    |ptr _ _=>rw[cL];exact plain;all_goals (intros;simp_all)
    |mp _=>rw[cL];exact plain;all_goals (intros;simp_all)
    |iptr _ _ _=>rw[cL];exact plain;all_goals (intros;simp_all)
    |fn _ _=>rw[cL];exact plain;all_goals (intros;simp_all)
def Gh.rest(G:Gh)(nk:Nat):Gh:={G with ob:=fun k=>if k<nk then G.ob k else none,oe:=fun k=>if k<nk then G.oe k else none,mb:=fun _=>none}
def Le.rest(G:Gh)(nk:Nat):Le G (G.rest nk):=⟨fun _ _ _ h=>h,fun _ _ h=>h,fun _ x' _ h=>⟨x',h,aE _,fun _=>rfl⟩,aE _,fun _ _ _ _ _ h=>h,rfl⟩
def bz.rest(hI:bz P B G st w)(nk:Nat):bz P B (G.rest nk) {st with objs:=fun k=>if k<nk then st.objs k else none,maps:=fun _=>none} w:=by
 have hle:=Le.rest G nk;have hobk:∀ {k b},(G.rest nk).ob k=some b->k<nk/\G.ob k=some b:=by
  intro k b h;simp only[Gh.rest]at h;split at h
  ·rename_i hk;exact⟨hk,h⟩
  ·cases h
 have hobj:∀ {k c},(if k<nk then st.objs k else none)=some c->k<nk/\st.objs k=some c:=by
  intro k c h;split at h
  ·rename_i hk;exact⟨hk,h⟩
  ·cases h
 refine⟨hI.com,hI.sh,hI.nx,hI.cnt,hI.live,hI.room,hI.apart,hI.priv,fun k c h=>?_,fun k b h=>hI.obs k b (hobk h).2,fun k l b h h'=>hI.obj k l b (hobk h).2 (hobk h').2,fun k h=>?_,fun k c h=>hI.npo k c (hobj h).2,hI.pvl,hI.xpl,hI.base,fun k b e sz h h'=>?_,
  fun k es h=>(by cases h),fun k b h=>(by cases h),fun k l b h=>(by cases h),fun k h=>rfl,fun k b h=>hI.obx k b (hobk h).2,hI.ful⟩
 ·obtain⟨hk,hc⟩:=hobj h;obtain⟨b,e,vs,hb,hh,hR⟩:=hI.objs k c hc;exact⟨b,e,vs,by simp only[Gh.rest,ak hk];exact hb,hh,hR.le hle (hI.npo k c hc)⟩
 ·simp only[Gh.rest];split
  ·rename_i hk;simp only[ak hk]at h;exact hI.nob k h
  ·rfl
 ·obtain⟨hk,h1⟩:=hobk h;simp only[Gh.rest,ak hk]at h';exact hI.oes k b e sz h1 h'
def cu.rest{G0:Gh}{w0:World}(hS:cu G0 w0 G w)(nk:Nat):cu G0 w0 (G.rest nk) w:=by
 refine⟨⟨hS.le.com,hS.le.sh,hS.le.xp⟩,hS.size,hS.kept,fun k b h=>?_,hS.nearT,hS.nearC,hS.nearS,hS.nearP,fun s b h=>(by cases h),hS.eff⟩;simp only[Gh.rest]at h;split at h
 ·exact hS.nearO k b h
 ·cases h
end
def Gh.shut(G:Gh)(l:List Nat):Gh:=
 {G with tk:=fun t=>(l[t]?).bind G.tk,nx:=l.length,pv:=fun b=>(G.pv b).bind (aT l)}
def EH(G:Gh)(l:List Nat):Rn (aT l) (fun _=>false) false G (G.shut l) where
 com b o v h _:=h
 sh b x h:=h
 tk k k' h _ hlt:=by
  have hg:=th h;refine⟨(br.1 hg).1,fun x' hx'=>?_⟩;simp only[Gh.shut,hg,dP]at hx';exact⟨x',hx',aE _,fun _=>rfl⟩
 pv b k' o v _ _ h:=by
  simp only[Gh.shut,bK]at h;obtain⟨k,h1,h2⟩:=h;exact .inl ⟨k,h1,h2⟩
 xp b o v _ _ h:= .inl h
section
variable {G:Gh} {st:St} {w:World}
def bz.shut(hI:bz P B G st w){ts:List (Nat×Nat)}(hts:yM st ts)(hmaps:st.maps=fun _=>none){cs:List (List PV)}(hobj:∀ k,st.objs k=cs[k]?)(sw:Bool):
  bz P B (G.shut (ts.map (·.1))) (bn (ts.map (·.2)) (cs.map (aZ (aT (ts.map (·.1))) sw))) w:=by
 generalize hl:ts.map (·.1)=l at*;have hJn:l.Nodup:=by rw[<-hl];exact hts.1
 have hlen:l.length=ts.length:=by rw[<-hl];simp
 have hJk:∀ {t k:Nat},l[t]? =some k->k<st.nx/\(ts.map (·.2)).getD t 0=st.cnt k/\st.fl<=k/\t<ts.length:=fun h=>xT hts (by rw[hl];exact h);have htk:∀ {t x},(G.shut l).tk t=some x->∃ k,l[t]? =some k/\G.tk k=some x:=by
  intro t x h;simpa only[Gh.shut,bK]using h
 have hobjR:∀ {k c},(bn (ts.map (·.2)) (cs.map (aZ (aT l) sw))).objs k=some c->∃ c0,st.objs k=some c0/\c=aZ (aT l) sw c0:=by
  intro k c h;simp only[bn,de,am]at h;obtain⟨c0,h1,h2⟩:=h;exact⟨c0,by rw[hobj k,h1],h2.symm⟩
 refine⟨hI.com,hI.sh,by simp[Gh.shut,bn,hlen],fun t x h=>?_,fun t h=>?_,fun t r h=>?_,fun t u r q h1 h2 hb=>?_,fun t r h=>?_,fun k c h=>?_,hI.obs,hI.obj,fun k h=>?_,fun k c h=>?_,fun b k h=>?_,hI.xpl,fun b o v h=>?_,hI.oes,fun s es h=>(by cases h),fun s b h=>?_,hI.mbi,fun s _=>?_,fun s b h=>?_,fun t m h=>by obtain⟨k,hk,hx⟩:=htk h;exact hI.ful k m hx⟩
 ·obtain⟨k,hk,hx⟩:=htk h;obtain⟨h1,h2,_,h4⟩:=hJk hk;refine⟨by simpa [bn]using h4,?_⟩;simp only[bn];rw[h2,(hI.cnt k x hx).2]
 ·have hlt:t<l.length:=by simpa [bn,hlen]using h
  have hk:l[t]? =some l[t]:=ax hlt;obtain⟨x,hx⟩:=hI.live _ (hJk hk).1;exact⟨x,by simp only[Gh.shut,hk,dP];exact hx⟩
 ·obtain⟨k,hk,hx⟩:=htk h;exact hI.room k r hx
 ·obtain⟨k,hk,hx⟩:=htk h1;obtain⟨k',hk',hy⟩:=htk h2;have:=hI.apart k k' r q hx hy hb;subst this;exact s7 hJn hk hk'
 ·obtain⟨k,hk,hx⟩:=htk h;have hp:=(hI.priv k r hx).1 (hJk hk).2.2.1;have hpi:(G.shut l).pv r.b=some t:=by simp only[Gh.shut,hp,dP];exact yn hJn hk
  rw[hpi];exact⟨fun _=>rfl,fun j hj=>(Option.some.inj hj).symm⟩
 ·obtain⟨c0,hc0,rfl⟩:=hobjR h;obtain⟨b,e,vs,hb,hh,hR⟩:=hI.objs k c0 hc0;exact⟨b,e,vs,hb,hh,hR.ren (EH G l) (hI.npo k c0 hc0) (j9 c0) (by simp)⟩
 ·simp only[bn,de,eZ]at h;exact hI.nob k (by rw[hobj k,h])
 ·obtain⟨c0,hc0,rfl⟩:=hobjR h;exact qz (hI.npo k c0 hc0)
 ·simp only[Gh.shut,bK]at h;obtain⟨k',h1,_⟩:=h;exact hI.pvl b k' h1
 ·obtain⟨h1,h2,h3⟩:=hI.base b o v h;exact⟨h1,by simp[Gh.shut,h2],h3⟩
 ·exact hI.mbs s b h
 ·exact hI.nomb s (by rw[hmaps])
 ·obtain⟨h1,h2⟩:=hI.obx s b h;exact⟨by simp[Gh.shut,h1],h2⟩
def cu.shut{G0:Gh}{w0:World}(hS:cu G0 w0 G w)(l:List Nat):cu G0 w0 (G.shut l) w:=by
 refine⟨⟨fun b o v h hp=>?_,hS.le.sh,hS.le.xp⟩,hS.size,hS.kept,hS.nearO,fun t r h=>?_,hS.nearC,hS.nearS,fun b k h=>?_,hS.nearM,hS.eff⟩
 ·obtain⟨h1,h2⟩:=hS.le.com b o v h hp;exact⟨h1,by simp[Gh.shut,h2]⟩
 ·simp only[Gh.shut,bK]at h;obtain⟨k,_,h2⟩:=h;exact hS.nearT k r h2
 ·simp only[Gh.shut,bK]at h;obtain⟨k',h1,_⟩:=h;exact hS.nearP b k' h1
end
def ji(cs:List (List PV)):List (Nat×Nat):=cs.flatMap al
def kB(own:Bool)(st:St)(r:PV)(cs:List (List PV)):PV×List Nat×List (List PV):=
 if own && rm ((ar r++ji cs).map (·.1)) && (ar r++ji cs).all (sZ st)then(ren (aT ((ar r++ji cs).map (·.1))) false r,(ar r++ji cs).map (·.2),cs.map (aZ (aT ((ar r++ji cs).map (·.1))) false))
 else(aC r,[],cs.map aF)
structure bp where
 nt:Nat
 nk:Nat
 body:CC
 res:List hZ
 own:Bool
def fw:List PV->PV
 | [p]=>p
 |ps=> .tup ps
def gN(F:bp)(n:Nat)(fr:Fr)(st:St):Option (PV×List Nat×List (List PV)):=
 match ff fr st F.res,dl st (List.range n)with
 |some vs,some cs=>if np (fw (cL F.nk vs st).1) && cs.all aI then some (kB F.own (cL F.nk vs st).2 (fw (cL F.nk vs st).1) cs)else none
 |_,_=>none
def eu(as:List PV):Fr:=fun t=>(as[t]?).getD .hole
def fO(cf:aA)(N:Nat)(F:bp)(as:List PV)(ns:List Nat)(cs:List (List PV)):Option (PV×List Nat×List (List PV)):=
 if as.length<=F.nt/\cs.length<=F.nk then
  match ev cf N F.body (eu as,bn ns cs)with
  |some (.go,y)=>gN F cs.length y.1 y.2
  |some (.ret,y)=>gN F cs.length y.1 y.2
  |_=>none
 else none
def w9(P:Program):ResultVar->Option hZ
 | .tmp t=>some (.tmp t)
 | .cell a t=>match fK P t,rP P t with
  |some sz,some ag=>some (.cell a sz ag)
  |_,_=>none
def jD(P:Program):List ResultVar->Option (List hZ)
 | []=>some []
 |r::rs=>match w9 P r,jD P rs with
  |some c,some cs=>some (c::cs)
  |_,_=>none
def ri(tmps:Array Value):ResultVar->Sem Value
 | .tmp t=>pure (tmps.getD t undef)
 | .cell a t=>do loadVar t (<-asAddr (tmps.getD a undef))
section
variable {G:Gh} {nt:Nat} {fr:Fr} {st:St} {w:World} {a:Act}
def FW(hI:bz P B G st w)(hF:eT G nt fr a){r:ResultVar}{c:hZ}(hc:w9 P r=some c){p:PV}(hp:mR fr st c=some p):∃ v,(ri a.tmps r).run P w= .ok v w/\R G p v/\cz p=true:=by
 cases r with
 |tmp t=>
  simp only[w9,bo]at hc;subst hc;simp only[mR,bo]at hp;subst hp;exact⟨_,rfl,hF.2.1 t,hF.2.2 t⟩
 |cell x t=>
  simp only[w9]at hc;split at hc
  ·rename_i sz ag hs hg;simp only[bo]at hc;subst hc;have hR:=hF.2.1 x;have ht:=hF.2.2 x;simp only[mR]at hp;generalize hv:a.tmps.getD x undef=xv at hR;split at hp
   ·rename_i s off e;rw[e]at hR;split at hp
    ·rename_i cs hcs;cases hR with
     |ptr _ _ b hb=>
     obtain⟨e',us,hh,hRs,hcell⟩:=hI.box hcs hb;obtain⟨v,hrun,hRv⟩:=qM (P:=P) (w:=w) (o:=0) hs hg hRs.1 hRs.2.1 hRs.2.2 hcell hp;rw[aq]at hrun;refine⟨v,?_,hRv,fy (sn (hI.npo _ _ hcs) hp)⟩;simp only[ri,hv];simp[asAddr,hrun]
    ·cases hp
   ·rename_i cs off tk e;rw[e]at hR ht;cases hR with
    |iptr _ _ _ b o us hl hcm hr h1 _ _ _=>
    obtain⟨v,hrun,hRv⟩:=qM (P:=P) (w:=w) hs hg hl hr h1 (fun j u hu=>hI.com _ _ _ (hcm j u hu)) hp;refine⟨v,?_,hRv,fy (sn (sM ht) hp)⟩;simp only[ri,hv];simp[asAddr,hrun]
   ·cases hp
  ·cases hc
def Cm(hI:bz P B G st w)(hF:eT G nt fr a):∀ {rs:List ResultVar} {cs:List hZ},jD P rs=some cs->∀ {ps:List PV},ff fr st cs=some ps->
  ∃ vs:List Value,(rs.mapM (ri a.tmps)).run P w= .ok vs w/\ps.length=vs.length/\∀ (j:Nat) p v,ps[j]? =some p->vs[j]? =some v->R G p v/\cz p=true
 | [],cs,hc,ps,hp=>by
  simp only[jD,bo]at hc;subst hc;simp only[ff,bo]at hp;subst hp;exact⟨[],rfl,rfl,fun j p v h=>by simp at h⟩
 |r::rs,cs,hc,ps,hp=>by
  simp only[jD]at hc;split at hc
  ·rename_i c cs' h1 h2;simp only[bo]at hc;subst hc;simp only[ff]at hp;split at hp
   ·rename_i p ps' h3 h4;simp only[bo]at hp;subst hp;obtain⟨v,hv,hR,ht⟩:=FW hI hF h1 h3;obtain⟨vs,hvs,hl,hRs⟩:=Cm hI hF h2 h4;refine⟨v::vs,?_,by simp[hl],fun j q u hq hu=>?_⟩
    ·simp[List.mapM_cons,hv,hvs]
    ·cases j with
     |zero=>simp at hq hu;subst hq;subst hu;exact⟨hR,ht⟩
     |succ j=>exact hRs j q u (by simpa using hq) (by simpa using hu)
   ·cases hp
  ·cases hc
def rF(fn:Func)(tmps:Array Value):results fn tmps=(do
  let vs<-fn.results.mapM (ri tmps)
  pure (if h:vs.size=1 then vs[0]else .tuple vs)):=by
 unfold results;congr 1
end
def ue(P:Program)(M:Nat->List Nat)(nk:Nat)(own:Bool)(f:Nat):Option bp:=
 match P.funcs[f]? with
 |some fn=>
  if fn.name= "runtime.NumGoroutine" then none else
  match fn.body with
  |some c=>match gw P M fn.ntmps nk c,jD P fn.results.toList with
   |some b,some rs=>some {nt:=fn.ntmps,nk:=nk,body:=b,res:=rs,own:=own}
   |_,_=>none
  |none=>none
 |none=>none
def Bv{M:Nat->List Nat}{nk:Nat}{own:Bool}{f:Nat}{F:bp}(h:ue P M nk own f=some F):
  ∃ fn c,P.funcs[f]? =some fn/\fn.name≠ "runtime.NumGoroutine" /\fn.body=some c/\F.nt=fn.ntmps/\gw P M F.nt F.nk c=some F.body/\jD P fn.results.toList=some F.res:=by
 unfold ue at h;split at h
 ·rename_i fn hfn;split at h
  ·cases h
  ·rename_i hname;split at h
   ·rename_i c hc;split at h
    ·rename_i b rs hb hrs;cases h;exact⟨fn,c,hfn,hname,hc,rfl,hb,hrs⟩
    ·cases h
   ·cases h
 ·cases h
def wq{st:St}{n:Nat}{cs:List (List PV)}(h:dl st (List.range n)=some cs):cs.length=n/\∀ k,k<n->st.objs k=cs[k]? :=by
 obtain⟨h1,h2⟩:=mA h;refine⟨by simpa using h1.symm,fun k hk=>h2 k k ?_⟩;simp[hk]
section
variable {cf:aA}
def E7{G:Gh}{nt:Nat}{as:List PV}{vs:List Value}(hl:as.length=vs.length)(hle:as.length<=nt)(hR:∀ (j:Nat) p v,as[j]? =some p->vs[j]? =some v->R G p v/\cz p=true):
  eT G nt (eu as) {tmps:=vs.toArray++Array.replicate (nt-vs.toArray.size) undef,defers:=[]}:=by
 refine⟨by simp;omega,fun t=>?_,fun t=>?_⟩
 ·rw[bH];unfold eu;by_cases ht:t<as.length
  ·have h1:as[t]? =some as[t]:=ax ht;have h2:vs[t]? =some (vs[t]'(by omega)):=ax (by omega);rw[mN (by simp;omega)];simp only[jA,h1,h2,Option.getD_some];exact(hR t _ _ h1 h2).1
  ·rw[bB (by omega),Array.getElem?_append_right (by simp;omega),kA];simp only[Option.getD_none];split<;>exact .hole
 ·unfold eu;cases h:as[t]? with
  |none=>rfl
  |some p=>
   have ht:=(br.1 h).1;exact(hR t p _ h (ax (by omega))).2
def D0(own:Bool)(st:St)(r:PV)(cs:List (List PV))(hr:np r=true)(hc:∀ c∈cs,aI c=true):np (kB own st r cs).1=true/\(kB own st r cs).2.2.length=cs.length/\∀ c∈(kB own st r cs).2.2,aI c=true:=by
 unfold kB;split
 ·refine⟨by simp only[np,gn];exact hr,by simp,fun c h=>?_⟩;obtain⟨c0,h0,rfl⟩:=cA.1 h;exact qz (hc c0 h0)
 ·refine⟨by simp only[np,aC,gn];exact hr,by simp,fun c h=>?_⟩;obtain⟨c0,h0,rfl⟩:=cA.1 h;exact zg (hc c0 h0)
def wt{F:bp}{n:Nat}{fr:Fr}{st:St}{r:PV}{ns:List Nat}{cs':List (List PV)}(h:gN F n fr st=some (r,ns,cs')):cs'.length=n/\np r=true/\∀ c∈cs',aI c=true:=by
 unfold gN at h;split at h
 ·rename_i ps cs hps hcs;split at h
  ·rename_i hnp;simp only[ae]at hnp;obtain⟨hnp,hall⟩:=hnp;simp only[bo]at h;obtain⟨h1,h2,h3⟩:=D0 F.own (cL F.nk ps st).2 _ cs hnp (fun c hc=>(bX.1 hall) c hc);rw[h]at h1 h2 h3;exact⟨by rw[h2,(wq hcs).1],h1,h3⟩
  ·cases h
 ·cases h
def wr{F:bp}{fn:Func}(hres:jD P fn.results.toList=some F.res){G0 G:Gh}{ns0:List Nat}{cs0:List (List PV)}{st:St}{w0 w:World}{fr:Fr}{a:Act}(hcs0:cs0.length<=F.nk)(hI0:bz P B G0 (bn ns0 cs0) w0)
  (hI:bz P B G st w) (hS:cu G0 w0 G w) (hF:eT G F.nt fr a) (hk:∀ s,F.nk<=s\/G.bx s=G0.bx s) {r:PV} {ns:List Nat} {cs':List (List PV)} (h:gN F cs0.length fr st=some (r,ns,cs')):
  ∃ v G',(results fn a.tmps).run P w= .ok v w/\R G' r v/\bz P B G' (bn ns cs') w/\cu G0 w0 G' w/\G'.ob=G0.ob/\∀ k,k<cs0.length->G'.oe k=G0.oe k:=by
 unfold gN at h;split at h
 ·rename_i ps cs hps hcs;split at h
  ·rename_i hnp;simp only[ae]at hnp;obtain⟨hnp,_⟩:=hnp;simp only[bo]at h;obtain⟨vs,hvs,hlv,hRv⟩:=Cm hI hF hres hps;obtain⟨hlc,hgc⟩:=wq hcs;have h0:∀ b o v,G0.com b o=some v->b<w0.heap.size:=fun b o v h=>by
    have:=World.block_lt_of_cell? w0 _ (hI0.com b o v h);simpa using this
   have hob0:∀ k,cs0.length<=k->G0.ob k=none:=fun k hk=>hI0.nob k (by simp only[bn];exact bB hk);have hpast:∀ s b,F.nk<=s->G.ob s=some b->w0.heap.size<=b:=by
    intro s b hs hsb;rcases hS.nearO s b hsb with⟨u,hu⟩|h
    ·exfalso;have hulen:u<cs0.length:=by
      rcases Nat.lt_or_ge u cs0.length with h|h
      ·exact h
      ·rw[hob0 u h]at hu;cases hu
     have hGu:G.ob u=some b:=by
      rcases hk u with h|h
      ·omega
      ·rw[lL h,hu]
     have:=hI.obj s u b hsb hGu;omega
    ·exact h
   obtain⟨G1,hI1,hL1,hS1,hb1,ho1,_,hl1,hR1⟩:=JS h0 F.nk ps.length rfl hI hS hpast hlv hRv;generalize hm:cL F.nk ps st=m at*;obtain⟨qs,st1⟩:=m;simp only at h hnp hI1 ho1 hl1 hR1;have hI2:=hI1.rest F.nk;have hL2:=Le.rest G1 F.nk;have hS2:=hS1.rest F.nk;generalize hq:fw qs=q at h hnp;have hval:∃ v,(results fn a.tmps).run P w= .ok v w/\R (G1.rest F.nk) q v:=by
    have hrun:(fn.results.mapM (ri a.tmps)).run P w= .ok vs.toArray w:=by
     rw[Array.mapM_eq_mapM_toList];simp[hvs]
    have hR':∀ (j:Nat) p v,qs[j]? =some p->vs[j]? =some v->np p=true->R (G1.rest F.nk) p v:=fun j p v hp hv hn=>
     (hR1 j p v hp hv hn).le hL2 (fun _=>true) (fun s h=>by cases h) hn
    cases qs with
    |nil=>
     have hv0:vs=[]:=bF (by simpa using hl1.symm);subst hv0;simp only[fw]at hq;subst hq;exact⟨.tuple #[],by rw[rF];simp[hrun],.tup [] [] rfl fun j p u hp=>by simp at hp⟩
    |cons p qs=>
     cases qs with
     |nil=>
      obtain⟨v,rfl⟩:∃ v,vs=[v]:=by
       cases vs with
       |nil=>simp at hl1
       |cons v vs=>cases vs with
        |nil=>exact⟨v,rfl⟩
        |cons u vs=>simp at hl1
      simp only[fw]at hq;subst hq;exact⟨v,by rw[rF];simp[hrun],hR' 0 _ _ rfl rfl hnp⟩
     |cons p' qs=>
      have hq':q= .tup (p::p'::qs):=hq.symm;subst hq';have hnps:aI (p::p'::qs)=true:=by simpa [np,off,aI]using hnp
      refine⟨.tuple vs.toArray,?_,.tup _ vs hl1 fun j q' u hq' hu=>hR' j q' u hq' hu (ju hnps hq')⟩;rw[rF];have:¬vs.length=1:=by simp at hl1;omega
      simp[hrun,this]
   obtain⟨v,hrunv,hRq⟩:=hval;have hobj:∀ k,(if k<F.nk then st1.objs k else none)=cs[k]? :=by
    intro k;by_cases hkn:k<cs0.length
    ·rw[ak (by omega),ho1 k (by omega)];exact hgc k hkn
    ·rw[bB (by omega)];split
     ·rename_i hk1;rw[ho1 k hk1];have h0:G0.ob k=none:=hob0 k (by omega);have h1:G.ob k=none:=by
       rcases hk k with h|h
       ·omega
       ·rw[lL h,h0]
      cases hso:st.objs k with
      |none=>rfl
      |some c=>
       obtain⟨b,_,_,hb,_⟩:=hI.objs k c hso;rw[h1]at hb;cases hb
     ·rfl
   have hobF:∀ l,((G1.rest F.nk).shut l).ob=G0.ob/\∀ k,k<cs0.length->((G1.rest F.nk).shut l).oe k=G0.oe k:=by
    intro l;have key:∀ k,k<F.nk->G1.bx k=G0.bx k:=fun k hlt=>by
     rw[hb1 k hlt];rcases hk k with h|h
     ·omega
     ·exact h
    refine⟨funext fun k=>?_,fun k hkc=>?_⟩
    ·show(if k<F.nk then G1.ob k else none)=G0.ob k;split
     ·rename_i hlt;exact lL (key k hlt)
     ·exact(hob0 k (by omega)).symm
    ·show(if k<F.nk then G1.oe k else none)=G0.oe k;rw[ak (by omega)];exact zN (key k (by omega))
   have finishG:∀ (ts:List (Nat×Nat)),yM st1 ts->∀ sw,R ((G1.rest F.nk).shut (ts.map (·.1))) (ren (aT (ts.map (·.1))) sw q) v/\bz P B ((G1.rest F.nk).shut (ts.map (·.1))) (bn (ts.map (·.2)) (cs.map (aZ (aT (ts.map (·.1))) sw))) w/\cu G0 w0 ((G1.rest F.nk).shut (ts.map (·.1))) w:=by
    intro ts h1 sw;exact⟨hRq.ren (EH _ _) (fun _=>true) (fun s hs=>by cases hs) hnp (mP q) (by simp),hI2.shut h1 rfl hobj sw,hS2.shut _⟩
   unfold kB at h;split at h
   ·rename_i hb;simp only[ae]at hb;obtain⟨⟨_,hb1⟩,hb2⟩:=hb;simp only[cn]at h;obtain⟨rfl,rfl,rfl⟩:=h;obtain⟨f1,f2,f3⟩:=finishG (ar q++ji cs) (Ew hb1 hb2) false;exact⟨v,_,hrunv,f1,f2,f3,(hobF _).1,(hobF _).2⟩
   ·simp only[cn]at h;obtain⟨rfl,rfl,rfl⟩:=h;obtain⟨f1,f2,f3⟩:=finishG [] ⟨nS,fun x hx=>by cases hx⟩ true;exact⟨v,_,hrunv,f1,f2,f3,(hobF _).1,(hobF _).2⟩
  ·cases h
 ·cases h
def O0(P:Program)(B:Nat->Nat->Option Value)(f:Nat)(T:List PV->List Nat->List (List PV)->Option (PV×List Nat×List (List PV))):Prop:=∀ as ns cs r rs cs',T as ns cs=some (r,rs,cs')->
 lj P f/\cs'.length=cs.length/\np r=true/\(∀ c∈cs',aI c=true)/\
 ∀ G w (vs:List Value),bz P B G (bn ns cs) w->as.length=vs.length->(∀ (j:Nat) p v,as[j]? =some p->vs[j]? =some v->R G p v/\cz p=true)->
  Calls P f vs.toArray w fun e w'=>∃ v G',e= .returned v/\R G' r v/\bz P B G' (bn rs cs') w'/\cu G w G' w'/\G'.ob=G.ob/\∀ k,k<cs.length->G'.oe k=G.oe k
def Ka{M:Nat->List Nat}(hcf:ja P B cf)(hmix:P.follows .mixedOrders=true)(N:Nat){nk:Nat}{own:Bool}{f:Nat}{F:bp}(hc:ue P M nk own f=some F):O0 P B f (fO cf N F):=by
 obtain⟨fn,c,hfn,hname,hbody,hnt,hcode,hres⟩:=Bv hc;intro as ns0 cs r ns cs' h;have hE:lj P f:=⟨fn,hfn,hname,by rw[hbody];rfl⟩;unfold fO at h;split at h
 ·rename_i hb;obtain⟨hb1,hb2⟩:=hb;have key:∃ e y,ev cf N F.body (eu as,bn ns0 cs)=some (e,y)/\(e= .go\/e= .ret)/\gN F cs.length y.1 y.2=some (r,ns,cs'):=by
   split at h
   ·rename_i y hy;exact⟨.go,y,hy,.inl rfl,h⟩
   ·rename_i y hy;exact⟨.ret,y,hy,.inr rfl,h⟩
   ·cases h
  obtain⟨e,y,hev,he,hfin⟩:=key;obtain⟨h1,h2,h3⟩:=wt hfin;refine⟨hE,h1,h2,h3,fun G w vs hI hl hR=>?_⟩;refine calls_of_wp hfn hbody ?_;rw[<-hnt];refine zJ hcf hmix N c hcode hev hI (E7 hl hb1 hR) fun a' w' G' hI' hS' hF' hd' hk'=>?_;obtain⟨v,G2,hrun,hR2,hI2,hS2,hob2⟩:=wr hres hb2 hI hI' hS' hF' hk' hfin;rcases he with rfl|rfl
  ·exact⟨hd'.1,v,hrun,v,G2,rfl,hR2,hI2,hS2,hob2⟩
  ·exact⟨hd'.1,v,hrun,v,G2,rfl,hR2,hI2,hS2,hob2⟩
 ·cases h
def xa(P:Program)(M:Nat->List Nat)(f:Nat):Option bp:=
 match ue P M 0 true f with
 |some F=>if qT M=true/\F.res.length=1/\f<1000000 then some {F with res:=F.res++[.tmp 0]}else none
 |none=>none
def vy:∀ {rs:List ResultVar} {cs:List hZ},jD P rs=some cs->jD P (rs++[.tmp 0])=some (cs++[.tmp 0])/\rs.length=cs.length
 | [],cs,h=>by simp only[jD,bo]at h;subst h;exact⟨rfl,rfl⟩
 |r::rs,cs,h=>by
  simp only[jD]at h;split at h
  ·rename_i c cs' h1 h2;simp only[bo]at h;subst h;obtain⟨h3,h4⟩:=vy h2;exact⟨by simp only[a8,jD,h1,h3],by simp[h4]⟩
  ·cases h
def Ct{fn:Func}(h1:fn.results.size=1){tmps:Array Value}{w:World}{v:Value}(h:(results {fn with results:=fn.results.push (.tmp 0)} tmps).run P w= .ok v w):
  ∃ u,(results fn tmps).run P w= .ok u w/\v= .tuple #[u,tmps.getD 0 undef]:=by
 obtain⟨r0,hr0⟩:∃ r0,fn.results= #[r0]:=by
  cases hl:fn.results with
  |mk l=>
   rw[hl]at h1
   match l,h1 with
   | [r0],_=>exact⟨r0,rfl⟩
 rw[rF]at h ⊢;simp only[hr0]at h ⊢;rw[Array.mapM_eq_mapM_toList]at h ⊢;have h00:ri tmps (.tmp 0)=pure (tmps.getD 0 undef):=rfl;simp only[List.push_toArray,List.mapM_cons,List.mapM_nil,a8,aN,h00]at h ⊢;generalize ri tmps r0=X at h ⊢;cases hr:X.run P w with
 |ok u w1=>
  simp[hr]at h ⊢;obtain⟨h2,h3⟩:=h;subst h3;exact⟨u,by simp,h2.symm⟩
 |_=>simp[hr]at h
def Ig{M:Nat->List Nat}(hcf:ja P B cf)(hmix:P.follows .mixedOrders=true)(N:Nat){f:Nat}{F:bp}(hc:xa P M f=some F){as:List PV}{ns0:List Nat}{cs:List (List PV)}{r:PV}{ns:List Nat}{cs':List (List PV)}(h:fO cf N F as ns0 cs=some (r,ns,cs')):
  lj P (rA (kF f))/\cs'.length=cs.length/\np r=true/\(∀ c∈cs',aI c=true)/\
  ∀ G w (vs:List Value),bz P B G (bn ns0 cs) w->as.length=vs.length->(∀ (j:Nat) p v,as[j]? =some p->vs[j]? =some v->R G p v/\cz p=true)->
   Calls P (rA (kF f)) vs.toArray w fun e w'=>∃ v G',pW (kF f) vs v e/\R G' r v/\bz P B G' (bn ns cs') w'/\cu G w G' w'/\G'.ob=G.ob/\∀ k,k<cs.length->G'.oe k=G.oe k:=by
 unfold xa at hc;split at hc
 ·rename_i F0 hc0;split at hc
  ·rename_i hk;obtain⟨hkp,hr1,hf6⟩:=hk;cases hc;obtain⟨fn,c,hfn,hname,hbody,hnt,hcode,hres⟩:=Bv hc0;obtain⟨hresp,hlen⟩:=vy hres;have hE:lj P f:=⟨fn,hfn,hname,by rw[hbody];rfl⟩;rw[Bp hf6];unfold fO at h;split at h
   ·rename_i hb;obtain⟨hb1,hb2⟩:=hb;have key:∃ e y,ev cf N F0.body (eu as,bn ns0 cs)=some (e,y)/\(e= .go\/e= .ret)/\gN {F0 with res:=F0.res++[.tmp 0]} cs.length y.1 y.2=some (r,ns,cs'):=by
     split at h
     ·rename_i y hy;exact⟨.go,y,hy,.inl rfl,h⟩
     ·rename_i y hy;exact⟨.ret,y,hy,.inr rfl,h⟩
     ·cases h
    obtain⟨e,y,hev,he,hfin⟩:=key;obtain⟨h1,h2,h3⟩:=wt hfin;refine⟨hE,h1,h2,h3,fun G w vs hI hl hR=>?_⟩;refine calls_of_wp hfn hbody ?_;rw[<-hnt];refine zJ hcf hmix N c hcode hev hI (E7 hl hb1 hR) fun a' w' G' hI' hS' hF' hd' hk'=>?_;obtain⟨v,G2,hrun,hR2,hI2,hS2,hob2⟩:=wr (fn:={fn with results:=fn.results.push (.tmp 0)}) (F:={F0 with res:=F0.res++[.tmp 0]}) (by simpa using hresp) hb2 hI hI' hS' hF' hk' hfin;obtain⟨u,hu,hv⟩:=Ct (by rw[<-ep,hlen];exact hr1) hrun;have h0:a'.tmps.getD 0 undef=vs.getD 0 undef:=by
     rw[hd'.2 hkp];cases vs with
     |nil=>
      simp only[List.getD_nil];rw[bH];simp only[jH,aO,Nat.sub_zero,Array.empty_append,kA];split<;>rfl
     |cons v0 vs=>
      rw[bH,mN (by simp)];simp
    rw[h0]at hv;rcases he with rfl|rfl
    ·exact⟨hd'.1,u,hu,v,G2,vo.2 ⟨u,rfl,hv⟩,hR2,hI2,hS2,hob2⟩
    ·exact⟨hd'.1,u,hu,v,G2,vo.2 ⟨u,rfl,hv⟩,hR2,hI2,hS2,hob2⟩
   ·cases h
  ·cases hc
 ·cases hc
end
def yW{c c':aA}(h:nW c c'){n n':Nat}(hn:n<=n'){F:bp}{as:List PV}{ns:List Nat}{cs:List (List PV)}{r}(hr:fO c n F as ns cs=some r):fO c' n' F as ns cs=some r:=by
 unfold fO at hr ⊢;split at hr
 ·rename_i hb;rw[ak hb];split at hr
  ·rename_i y hy;rw[uc h hn _ hy];exact hr
  ·rename_i y hy;rw[uc h hn _ hy];exact hr
  ·cases hr
 ·cases hr
def F1{c:Nat->aA}{lim:aA}(h:oC c lim){N:Nat}{F:bp}{as:List PV}{ns:List Nat}{cs:List (List PV)}{r}(hr:fO lim N F as ns cs=some r):∃ n,fO (c n) N F as ns cs=some r:=by
 unfold fO at hr ⊢;split at hr
 ·rename_i hb;split at hr
  ·rename_i y hy;obtain⟨n,hn⟩:=E8 h N _ hy;exact⟨n,by rw[ak hb,hn];exact hr⟩
  ·rename_i y hy;obtain⟨n,hn⟩:=E8 h N _ hy;exact⟨n,by rw[ak hb,hn];exact hr⟩
  ·cases hr
 ·cases hr
section
variable (T:Nat->Option bp) (pr:aA)
def lK:Nat->aA
 |0=>pr
 |n+1=>fun f as ns cs=>match pr f as ns cs with
  |some r=>some r
  |none=>match T f with
   |some F=>fO (lK n) n F as ns cs
   |none=>none
def Dj{n:Nat}{f:Nat}{as:List PV}{ns:List Nat}{cs:List (List PV)}{r}(h:pr f as ns cs=some r):lK T pr n f as ns cs=some r:=by
 cases n with
 |zero=>exact h
 |succ n=>simp only[lK,h]
def yy:∀ (n:Nat),nW (lK T pr n) (lK T pr (n+1))
 |0=>fun f as ns cs r h=>Dj T pr h
 |n+1=>fun f as ns cs r h=>by
  simp only[lK]at h;cases hp:pr f as ns cs with
  |some q=>
   rw[hp]at h;cases h;exact Dj T pr hp
  |none=>
   rw[hp]at h;rw[lK];simp only[hp];cases ht:T f with
   |none=>rw[ht]at h;cases h
   |some F=>
    rw[ht]at h;simp only at h ⊢;exact yW (yy n) (Nat.le_succ n) h
def yA{n m:Nat}(h:n<=m):nW (lK T pr n) (lK T pr m):=by
 induction h with
 |refl=>exact nW.refl _
 |step _ ih=>exact ih.trans (yy T pr _)
noncomputable def tt:aA:=fun f as ns cs=>open Classical in if h:∃ r n,lK T pr n f as ns cs=some r then some h.choose else none
def tq{f:Nat}{as:List PV}{ns:List Nat}{cs:List (List PV)}{r}:tt T pr f as ns cs=some r↔∃ n,lK T pr n f as ns cs=some r:=by
 unfold tt;constructor
 ·intro h;split at h
  ·rename_i hx;cases h;exact hx.choose_spec
  ·cases h
 ·rintro⟨n,hn⟩;have hx:∃ r n,lK T pr n f as ns cs=some r:=⟨r,n,hn⟩;rw[dif_pos hx];obtain⟨m,hm⟩:=hx.choose_spec;have h1:=yA T pr (iS n m) _ _ _ _ _ hn;have h2:=yA T pr (ky n m) _ _ _ _ _ hm;rw[h1]at h2;rw[h2]
def MZ:oC (lK T pr) (tt T pr):=⟨yy T pr,fun _ _ _ _ _ h=>(tq T pr).1 h⟩
def Kn{f:Nat}{F:bp}(ht:T f=some F){as:List PV}{ns:List Nat}{cs:List (List PV)}{r}(hp:pr f as ns cs=none)(N:Nat)(h:fO (tt T pr) N F as ns cs=some r):tt T pr f as ns cs=some r:=by
 obtain⟨n,hn⟩:=F1 (MZ T pr) h;refine(tq T pr).2 ⟨max n N+1,?_⟩;simp only[lK,hp,ht];exact yW (yA T pr (iS n N)) (ky n N) hn
def sG{f:Nat}{as:List PV}{ns:List Nat}{cs:List (List PV)}{r}(h:pr f as ns cs=some r):tt T pr f as ns cs=some r:=(tq T pr).2 ⟨0,h⟩
def AG(P:Program):Prop:=∀ f F,T f=some F->(f<1000000/\∃ M nk own,ue P M nk own f=some F)\/∃ M f0,f=kF f0/\xa P M f0=some F
def yz(hmix:P.follows .mixedOrders=true)(hT:AG T P)(hpr:ja P B pr):∀ n,ja P B (lK T pr n)
 |0=>hpr
 |n+1=>by
  intro f as ns cs r rs cs' h;simp only[lK]at h;cases hp:pr f as ns cs with
  |some q=>
   rw[hp]at h;cases h;exact hpr f as ns cs r rs cs' hp
  |none=>
   rw[hp]at h;simp only at h;cases ht:T f with
   |none=>rw[ht]at h;cases h
   |some F=>
    rw[ht]at h;rcases hT f F ht with⟨hf,M,nk,own,hF⟩|⟨M,f0,hf,hF⟩
    ·have hs:=Ka (yz hmix hT hpr n) hmix n hF as ns cs r rs cs' h;rw[nJ hf];exact⟨hs.1,hs.2.1,hs.2.2.1,hs.2.2.2.1,fun G w vs h1 h2 h3=>(hs.2.2.2.2 G w vs h1 h2 h3).mono fun e w' hx=>hx.elim fun v hx=>hx.elim fun G' hx=>⟨v,G',(nz hf).2 hx.1,hx.2⟩⟩
    ·subst hf;exact Ig (yz hmix hT hpr n) hmix n hF h
def Km(hmix:P.follows .mixedOrders=true)(hT:AG T P)(hpr:ja P B pr):ja P B (tt T pr):=by
 intro f as ns cs r rs cs' h;obtain⟨n,hn⟩:=(tq T pr).1 h;exact yz T pr hmix hT hpr n f as ns cs r rs cs' hn
end
end Go.PM
namespace Go.PM
def Wp(cf:aA)(N:Nat)(c:CC)(x:Fr×St)(Q:Ex->Fr×St->Prop):Prop:=∃ e y,ev cf N c x=some (e,y)/\Q e y
def WO(cf:aA)(os:List bS)(x:Fr×St)(K:Fr×St->Prop):Prop:=∃ y,iI cf os x=some y/\K y
def lk(c A B:Prop):Prop:=(c->A)/\(¬c->B)
def ek{α:Type}(f:α->Prop)(x:α):Prop:=f x
def KY{α:Type}{f:α->Prop}{x:α}{B:Prop}:lk True (ek f x) B↔f x:=by simp[lk,ek]
def I6{α:Type}{f:α->Prop}{x:α}{A:Prop}:lk False A (ek f x)↔f x:=by simp[lk,ek]
def aa{α β:Type}{f:α->Prop}{x:α}{g:β->Prop}{y:β}{c:Prop}(h:c->f x)(k:¬c->g y):lk c (ek f x) (ek g y):=⟨h,k⟩
def My{c A B:Prop}:lk (¬c) A B↔lk c B A:=by
 by_cases h:c<;>simp[lk,h]
def later{α:Type}{f:α->Prop}{x:α}(h:f x):ek f x:=h
def re(A:Fr×St->Prop)(Q:Ex->Fr×St->Prop):Ex->Fr×St->Prop
 | .go,y=>A y
 |e,y=>Q e y
def l9(id:Nat)(Q:Ex->Fr×St->Prop):Ex->Fr×St->Prop
 | .exit i,y=>lk (i=id) (ek (Q .go) y) (ek (Q (.exit i)) y)
 |e,y=>Q e y
def Lg(p:PV)(A B:Prop):Prop:=match p with
 | .bool b=>lk (b=true) A B
 |_=>False
def BI(p:PV)(b:Bool)(A B:Prop):Prop:=match p with
 | .bool b'=>lk (b'=b) A B
 | .hole=>B
 |_=>False
def cP(o:Option (PV×St))(mk:PV->St->Fr×St)(A:Fr×St->Prop):Prop:=∃ v st,o=some (v,st)/\A (mk v st)
def eH{v:PV}{st:St}{mk:PV->St->Fr×St}{A:Fr×St->Prop}:cP (some (v,st)) mk A↔A (mk v st):=⟨fun⟨_,_,h,k⟩=>by cases h;exact k,fun h=>⟨_,_,rfl,h⟩⟩
section
variable {cf:aA} {N:Nat} {fr:Fr} {st:St}
def Mr{Q:Ex->Fr×St->Prop}:Wp cf N .skip (fr,st) Q↔Q .go (fr,st):=⟨fun⟨_,_,h,hq⟩=>by cases h;exact hq,fun h=>⟨_,_,rfl,h⟩⟩
def Mv{id:Nat}{Q:Ex->Fr×St->Prop}:Wp cf N (.exit id) (fr,st) Q↔Q (.exit id) (fr,st):=⟨fun⟨_,_,h,hq⟩=>by cases h;exact hq,fun h=>⟨_,_,rfl,h⟩⟩
def NC{Q:Ex->Fr×St->Prop}:Wp cf N .ret (fr,st) Q↔Q .ret (fr,st):=⟨fun⟨_,_,h,hq⟩=>by cases h;exact hq,fun h=>⟨_,_,rfl,h⟩⟩
def Ms{a b:CC}{x:Fr×St}{Q:Ex->Fr×St->Prop}:Wp cf N (.seq a b) x Q↔Wp cf N a x (re (fun y=>Wp cf N b y Q) Q):=by
 unfold Wp;simp only[ev];constructor
 ·rintro⟨e,y,h,hq⟩;split at h
  ·rename_i z hz;exact⟨.go,z,hz,e,y,h,hq⟩
  ·rename_i hne;refine⟨e,y,h,?_⟩;cases e with
   |go=>exact absurd h (hne y)
   |exit i=>exact hq
   |ret=>exact hq
 ·rintro⟨e,y,h,hq⟩;rw[h];cases e with
  |go=>exact hq
  |exit i=>exact⟨_,_,rfl,hq⟩
  |ret=>exact⟨_,_,rfl,hq⟩
def NB{a b:CC}{Q:Ex->Fr×St->Prop}:Wp cf N (.seq a b) (fr,st) Q↔Wp cf N a (fr,st) (re (fun y=>Wp cf N b y Q) Q):=Ms
def ND{os:List bS}{Q:Ex->Fr×St->Prop}:Wp cf N (.reg os []) (fr,st) Q↔WO cf os (fr,st) (Q .go):=by
 unfold Wp WO;simp only[ev,sj];constructor
 ·rintro⟨e,y,h,hq⟩;simp only[am,cn]at h;obtain⟨z,hz,rfl,rfl⟩:=h;exact⟨z,hz,hq⟩
 ·rintro⟨y,h,hq⟩;exact⟨.go,y,by rw[h];rfl,hq⟩
def Mw{c:CX}{a b:CC}{Q:Ex->Fr×St->Prop}:Wp cf N (.cond c a b) (fr,st) Q↔Lg (c.ev fr) (ek (fun y=>Wp cf N a y Q) (fr,st)) (ek (fun y=>Wp cf N b y Q) (fr,st)):=by
 unfold Wp Lg;simp only[ev];generalize c.ev fr=p;have no:∀ {o:Option (Ex×Fr×St)},o=none->¬ ∃ e y,o=some (e,y)/\Q e y:=by
  rintro o rfl ⟨e,y,h,_⟩;cases h
 cases p with
 |bool b=>
  cases b with
  |true=>exact⟨fun h=>⟨fun _=>h,fun h=>absurd rfl h⟩,fun h=>h.1 rfl⟩
  |false=>exact⟨fun h=>⟨fun h=>(by cases h),fun _=>h⟩,fun h=>h.2 (by simp)⟩
 |_=>exact⟨fun h=>absurd h (no rfl),fun h=>h.elim⟩
def I0{id:Nat}{c:CC}{x:Fr×St}{Q:Ex->Fr×St->Prop}:Wp cf N (.block id c) x Q↔Wp cf N c x (l9 id Q):=by
 unfold Wp;simp only[ev];constructor
 ·rintro⟨e,y,h,hq⟩;split at h
  ·rename_i i z hz;refine⟨.exit i,z,hz,?_⟩;simp only[l9,lk];split at h
   ·rename_i hi;cases h;exact⟨fun _=>hq,fun h=>absurd hi h⟩
   ·rename_i hi;cases h;exact⟨fun h=>absurd h hi,fun _=>hq⟩
  ·rename_i hne;refine⟨e,y,h,?_⟩;cases e with
   |go=>exact hq
   |exit i=>exact absurd h (hne i y)
   |ret=>exact hq
 ·rintro⟨e,y,h,hq⟩;rw[h];cases e with
  |go=>exact⟨_,_,rfl,hq⟩
  |ret=>exact⟨_,_,rfl,hq⟩
  |exit i=>
   simp only[l9,lk]at hq;simp only;split
   ·rename_i hi;exact⟨_,_,rfl,hq.1 hi⟩
   ·rename_i hi;exact⟨_,_,rfl,hq.2 hi⟩
def KQ{id:Nat}{c:CC}{Q:Ex->Fr×St->Prop}:Wp cf N (.block id c) (fr,st) Q↔Wp cf N c (fr,st) (l9 id Q):=I0
def Mu{c:CC}{Q:Ex->Fr×St->Prop}(I:Nat->Fr×St->Prop)(hs:∀ k fr st,I k (fr,st)->Wp cf N c (fr,st) (re (fun y=>∃ j,j<k/\I j y) Q)):
  ∀ (k:Nat) (x:Fr×St),k<N->I k x->Wp cf N (.loop c) x Q:=by
 have key:∀ (n k:Nat) (x:Fr×St),k<n->I k x->∃ e y,oJ (ev cf N c) n x=some (e,y)/\Q e y:=by
  intro n
  induction n with
  |zero=>intro k x h;omega
  |succ n ih=>
   intro k x hk hx;obtain⟨fr,st⟩:=x;obtain⟨e,y,h,hq⟩:=hs k fr st hx;simp only[oJ,h];cases e with
   |go=>
    obtain⟨j,hj,hy⟩:=hq;exact ih j y (by omega) hy
   |exit i=>exact⟨_,_,rfl,hq⟩
   |ret=>exact⟨_,_,rfl,hq⟩
 intro k x hk hx;exact key N k x hk hx
def be{c:CC}{Q:Ex->Fr×St->Prop}(I:Nat->Fr->St->Prop)(k:Nat){fr:Fr}{st:St}(hk:k<N)(h0:I k fr st)(hs:∀ k fr st,I k fr st->Wp cf N c (fr,st) (re (fun y=>∃ j,j<k/\I j y.1 y.2) Q)):
  Wp cf N (.loop c) (fr,st) Q:=
 Mu (fun k x=>I k x.1 x.2) (fun k fr st h=>hs k fr st h) k (fr,st) hk h0
def NE{K:Fr×St->Prop}:WO cf [] (fr,st) K↔K (fr,st):=by simp[WO,iI]
def AF{d:Option Nat}{op:ew}{os:List bS}{K:Fr×St->Prop}:
  WO cf (⟨none,d,op⟩::os) (fr,st) K↔cP (aw cf fr st d op) (fun v st'=>(put (cJ cf op d st fr) d v,st')) (fun y=>WO cf os y K):=by
 unfold WO cP;simp only[iI,dk,eE];constructor
 ·rintro⟨y,h,hk⟩;split at h
  ·rename_i z hz;split at hz
   ·rename_i v st' hr;cases hz;exact⟨v,st',hr,y,h,hk⟩
   ·cases hz
  ·cases h
 ·rintro⟨v,st',hr,y,h,hk⟩;exact⟨y,by rw[hr];exact h,hk⟩
def KR{s:Nat}{b:Bool}{d:Option Nat}{op:ew}{os:List bS}{K:Fr×St->Prop}:
  WO cf (⟨some (s,b),d,op⟩::os) (fr,st) K↔BI (fr s) b (ek (fun y=>WO cf (⟨none,d,op⟩::os) y K) (fr,st)) (ek (fun y=>WO cf os y K) (put fr d .hole,st)):=by
 simp only[ek,AF];unfold WO cP BI;simp only[iI,dk,eE];generalize fr s=p;have run:∀ {o:Option (PV×St)},(∃ y,(match (match o with|some (v,st')=>some (put (cJ cf op d st fr) d v,st')|none=>none)with|some y=>iI cf os y|none=>none)=some y/\K y)↔
   ∃ v st',o=some (v,st')/\∃ y,iI cf os (put (cJ cf op d st fr) d v,st')=some y/\K y:=by
  intro o;cases o with
  |none=>exact⟨fun⟨_,h,_⟩=>(by cases h),fun⟨_,_,h,_⟩=>(by cases h)⟩
  |some q=>exact⟨fun⟨y,h,hk⟩=>⟨q.1,q.2,rfl,y,h,hk⟩,fun⟨v,st',h,y,hy,hk⟩=>by cases h;exact⟨y,hy,hk⟩⟩
 cases p with
 |bool b'=>
  cases b<;>cases b'
  ·exact⟨fun h=>⟨fun _=>run.1 h,fun h=>absurd rfl h⟩,fun h=>run.2 (h.1 rfl)⟩
  ·exact⟨fun h=>⟨fun h=>(by cases h),fun _=>h⟩,fun h=>h.2 (by simp)⟩
  ·exact⟨fun h=>⟨fun h=>(by cases h),fun _=>h⟩,fun h=>h.2 (by simp)⟩
  ·exact⟨fun h=>⟨fun _=>run.1 h,fun h=>absurd rfl h⟩,fun h=>run.2 (h.1 rfl)⟩
 |hole=>exact Iff.rfl
 |_=>exact⟨fun⟨_,h,_⟩=>(by cases h),fun h=>h.elim⟩
end
def zq(s:Nat)(f:Fr):Fr:=fun t=>eA s (f t)
def bP(st:St)(s:Nat)(c:List PV):St:={st with objs:=fun k=>if k=s then some c else st.objs k}
section
variable {cf:aA} {fr:Fr} {st:St} {d:Option Nat}
end
@[reducible] def S (l:List UInt8):PV:= .str ⟨l.toArray⟩
@[reducible] def I (n:Int):PV:= .int .i64 n
@[reducible] def U (n:Int):PV:= .int .u8 n
def qh(l:List UInt8):(⟨l.toArray⟩:ByteArray).size=l.length:=by simp[ByteArray.size]
def xr(s:ByteArray):∀ (n i:Nat) (acc:List UInt8),s.size-i=n->ByteArray.toList.loop s i acc=acc.reverse++s.data.toList.drop i
 |0,i,acc,h=>by
  unfold ByteArray.toList.loop;rw[ad (by omega),fG (by simp only[ep];change s.size<=i;omega)];simp
 |n+1,i,acc,h=>by
  unfold ByteArray.toList.loop;rw[ak (by omega),xr s n (i+1) _ (by omega)];have hi:i<s.data.toList.length:=by simp only[ep];change i<s.size;omega
  rw[a6 hi];have:s.get! i=s.data.toList[i]:=by
   simp only[Array.getElem_toList];change s.data[i]! =_;rw[getElem!_pos]
  simp[this]
def DX(s:ByteArray):s.toList=s.data.toList:=by
 unfold ByteArray.toList;rw[xr s _ 0 [] rfl];simp
def oV(l:List UInt8):(⟨l.toArray⟩:ByteArray).toList=l:=by rw[DX]
def dG{α:Type}(v:α):pf (pure v:Sem α)=some v:=rfl
def rY{α:Type}[DecidableEq α][BEq α][LawfulBEq α](a b:α):(a==b)=decide (a=b):=by
 rw[m5];simp
def eq:List UInt8->List UInt8->Bool:=Op.bytesLess
section
variable {a b:Int} {k:IntKind} {s t:List UInt8}
def Oi:dS .lss (.int k a) (.int k b)=some (.bool (decide (a<b))):=by simp[dS,fN,binOp,Op.intCmp,dG,ib]
def Oj:dS .leq (.int k a) (.int k b)=some (.bool (decide (a<=b))):=by simp[dS,fN,binOp,Op.intCmp,dG,ib]
def Ol:dS .gtr (.int k a) (.int k b)=some (.bool (decide (b<a))):=by simp[dS,fN,binOp,Op.intCmp,dG,ib]
def Om:dS .geq (.int k a) (.int k b)=some (.bool (decide (b<=a))):=by simp[dS,fN,binOp,Op.intCmp,dG,ib]
def On:dS .eql (.int k a) (.int k b)=some (.bool (decide (a=b))):=by simp[dS,fN,binOp,Op.intCmp,dG,ib,rY]
def Og:dS .neq (.int k a) (.int k b)=some (.bool (decide (a≠b))):=by simp[dS,fN,binOp,Op.intCmp,dG,ib,bne,rY]
def Oo:dS .add (.int k a) (.int k b)=some (.int k (k.wrap (a+b))):=by simp[dS,fN,binOp,Op.intArith,dG,ib]
def Of:dS .sub (.int k a) (.int k b)=some (.int k (k.wrap (a-b))):=by simp[dS,fN,binOp,Op.intArith,dG,ib]
def Oh:dS .mul (.int k a) (.int k b)=some (.int k (k.wrap (a*b))):=by simp[dS,fN,binOp,Op.intArith,dG,ib]
def NY(h:s.length+t.length<=9223372036854775807):dS .add (S s) (S t)=some (S (s++t)):=by
 have h1:¬ ((9223372036854775807:Int)<((⟨s.toArray⟩:ByteArray).size:Int)+((⟨t.toArray⟩:ByteArray).size:Int)):=by
  rw[qh,qh];omega
 have h2:(⟨s.toArray⟩:ByteArray)++(⟨t.toArray⟩:ByteArray)=⟨(s++t).toArray⟩:=by
  apply ByteArray.ext;simp
 simp[dS,fN,binOp,Op.stringOp,h1,h2,dG,ib]
def NW:dS .eql (S s) (S t)=some (.bool (decide (s=t))):=by simp[dS,fN,binOp,Op.stringOp,oV,dG,ib,rY]
def NR:dS .neq (S s) (S t)=some (.bool (decide (s≠t))):=by simp[dS,fN,binOp,Op.stringOp,oV,dG,ib,rY]
def NS:dS .lss (S s) (S t)=some (.bool (eq s t)):=by simp[dS,fN,binOp,Op.stringOp,oV,dG,ib,eq]
def NT:dS .leq (S s) (S t)=some (.bool (eq s t||decide (s=t))):=by simp[dS,fN,binOp,Op.stringOp,oV,dG,ib,eq,rY]
def NU:dS .gtr (S s) (S t)=some (.bool !(eq s t||decide (s=t))):=by simp[dS,fN,binOp,Op.stringOp,oV,dG,ib,eq,rY]
def NV:dS .geq (S s) (S t)=some (.bool !(eq s t)):=by simp[dS,fN,binOp,Op.stringOp,oV,dG,ib,eq]
def NL{x:Bool}:vr .not (.bool x)=some (.bool !x):=by simp[vr,fN,Op.unary,dG,ib]
def NM:vr .neg (.int k a)=some (.int k (k.wrap (-a))):=by simp[vr,fN,Op.unary,Op.intArith,dG,ib]
def wrap_i64(h1: -9223372036854775808<=a)(h2:a<=9223372036854775807):IntKind.i64.wrap a=a:=by
 have e1:IntKind.i64.bits=64:=rfl;have e2:IntKind.i64.signed=true:=rfl;simp only[IntKind.wrap,e1,e2,dj];split
 ·rename_i h;simp only[decide_eq_true_eq]at h;omega
 ·rename_i h;simp only[decide_eq_true_eq]at h;omega
def Es(h1:0<=a)(h2:a<=255):IntKind.u8.wrap a=a:=by
 have e1:IntKind.u8.bits=8:=rfl;have e2:IntKind.u8.signed=false:=rfl;simp only[IntKind.wrap,e1,e2,g8];simp;omega
end
def Ox:
  (∀ {cf:aA} {N:Nat} {fr:Fr} {st:St} {Q:Ex->Fr×St->Prop},Wp cf N .skip (fr,st) Q↔Q .go (fr,st))/\
  (∀ {cf:aA} {N:Nat} {fr:Fr} {st:St} {id:Nat} {Q:Ex->Fr×St->Prop},Wp cf N (.exit id) (fr,st) Q↔Q (.exit id) (fr,st))/\
  (∀ {cf:aA} {N:Nat} {fr:Fr} {st:St} {Q:Ex->Fr×St->Prop},Wp cf N .ret (fr,st) Q↔Q .ret (fr,st))/\
  (∀ {cf:aA} {N:Nat} {fr:Fr} {st:St} {a b:CC} {Q:Ex->Fr×St->Prop},Wp cf N (.seq a b) (fr,st) Q↔Wp cf N a (fr,st) (re (fun y=>Wp cf N b y Q) Q))/\
  (∀ {cf:aA} {N:Nat} {fr:Fr} {st:St} {os:List bS} {Q:Ex->Fr×St->Prop},Wp cf N (.reg os []) (fr,st) Q↔WO cf os (fr,st) (Q .go))/\
  (∀ {cf:aA} {N:Nat} {fr:Fr} {st:St} {c:CX} {a b:CC} {Q:Ex->Fr×St->Prop},Wp cf N (.cond c a b) (fr,st) Q↔Lg (c.ev fr) (ek (fun y=>Wp cf N a y Q) (fr,st)) (ek (fun y=>Wp cf N b y Q) (fr,st)))/\
  (∀ {cf:aA} {N:Nat} {fr:Fr} {st:St} {id:Nat} {c:CC} {Q:Ex->Fr×St->Prop},Wp cf N (.block id c) (fr,st) Q↔Wp cf N c (fr,st) (l9 id Q))/\
  (∀ {cf:aA} {fr:Fr} {st:St} {K:Fr×St->Prop},WO cf [] (fr,st) K↔K (fr,st))/\
  (∀ {cf:aA} {fr:Fr} {st:St} {d:Option Nat} {op:ew} {os:List bS} {K:Fr×St->Prop},WO cf (⟨none,d,op⟩::os) (fr,st) K↔cP (aw cf fr st d op) (fun v st'=>(put (cJ cf op d st fr) d v,st')) (fun y=>WO cf os y K))/\
  (∀ {cf:aA} {fr:Fr} {st:St} {s:Nat} {b:Bool} {d:Option Nat} {op:ew} {os:List bS} {K:Fr×St->Prop},WO cf (⟨some (s,b),d,op⟩::os) (fr,st) K↔BI (fr s) b (ek (fun y=>WO cf (⟨none,d,op⟩::os) y K) (fr,st)) (ek (fun y=>WO cf os y K) (put fr d .hole,st)))/\
  (∀ {A:Fr×St->Prop} {Q:Ex->Fr×St->Prop} {y:Fr×St},re A Q .go y↔A y)/\
  (∀ {A:Fr×St->Prop} {Q:Ex->Fr×St->Prop} {i:Nat} {y:Fr×St},re A Q (.exit i) y↔Q (.exit i) y)/\
  (∀ {A:Fr×St->Prop} {Q:Ex->Fr×St->Prop} {y:Fr×St},re A Q .ret y↔Q .ret y)/\
  (∀ {id:Nat} {Q:Ex->Fr×St->Prop} {y:Fr×St},l9 id Q .go y↔Q .go y)/\
  (∀ {id:Nat} {Q:Ex->Fr×St->Prop} {y:Fr×St},l9 id Q .ret y↔Q .ret y)/\
  (∀ {id i:Nat} {Q:Ex->Fr×St->Prop} {y:Fr×St},l9 id Q (.exit i) y↔lk (i=id) (ek (Q .go) y) (ek (Q (.exit i)) y))/\
  (∀ {v:PV} {st:St} {mk:PV->St->Fr×St} {A:Fr×St->Prop},cP (some (v,st)) mk A↔A (mk v st))/\
  (∀ {b:Bool} {A B:Prop},Lg (.bool b) A B↔lk (b=true) A B)/\
  (∀ {b b':Bool} {A B:Prop},BI (.bool b') b A B↔lk (b'=b) A B)/\
  (∀ {f:Fr×St->Prop} {x:Fr×St} {b:Bool} {A:Prop},BI .hole b A (ek f x)↔f x)/\
  (∀ {f:Fr×St->Prop} {x:Fr×St} {B:Prop},lk True (ek f x) B↔f x)/\
  (∀ {f:Fr×St->Prop} {x:Fr×St} {A:Prop},lk False A (ek f x)↔f x)/\
  (∀ {c A B:Prop},lk (¬c) A B↔lk c B A)/\
  (∀ {fr:Fr} {n:Nat},CX.ev fr (.sl n)=fr n)/\
  (∀ {fr:Fr} {p:PV},CX.ev fr (.k p)=p)/\
  (∀ {f:Fr} {d:Nat} {v:PV},put f (some d) v=xq f d v)/\
  (∀ {f:Fr} {v:PV},put f none v=f)/\
  (∀ {f:Fr} {d:Nat} {v:PV} {t:Nat},xq f d v t=if t=d then v else f t)/\
  (∀ {s:Nat} {f:Fr} {t:Nat},zq s f t=eA s (f t))/\
  (∀ {p:PV} {ps:List PV},eu (p::ps) 0=p)/\
  (∀ {p:PV} {ps:List PV} {n:Nat},eu (p::ps) (n+1)=eu ps n):=
 ⟨Mr,Mv,NC,NB,ND,Mw,KQ,NE,AF,KR,Iff.rfl,Iff.rfl,Iff.rfl,Iff.rfl,Iff.rfl,Iff.rfl,eH,Iff.rfl,Iff.rfl,Iff.rfl,KY,I6,My,rfl,rfl,rfl,rfl,rfl,rfl,rfl,rfl⟩
def OC:
  (∀ {cf:aA} {st:St} {fr:Fr} {d:Option Nat} {x:CX},cJ cf (.mv x) d st fr=fr)/\(∀ {cf:aA} {st:St} {fr:Fr} {d:Option Nat} {a b c:CX},cJ cf (.pick a b c) d st fr=fr)/\(∀ {cf:aA} {st:St} {fr:Fr} {zs:List PV} {s:Nat},cJ cf (.alloc zs) (some s) st fr=zq s fr)/\(∀ {cf:aA} {st:St} {fr:Fr} {n s:Nat} {x:CX},cJ cf (.box n x) (some s) st fr=zq s fr)/\
  (∀ {cf:aA} {st:St} {fr:Fr} {d:Option Nat} {zs:List PV} {ps:List (Nat×Nat×CX)},cJ cf (.build zs ps) d st fr=fr)/\(∀ {cf:aA} {st:St} {fr:Fr} {d:Option Nat} {e sz n:Nat} {zs:List PV} {ps:List (Nat×Nat×CX)},cJ cf (.bsl e sz zs n ps) d st fr=fr)/\(∀ {cf:aA} {st:St} {fr:Fr} {d:Option Nat} {sz:Nat} {ag:Bool} {x:CX},cJ cf (.load sz ag x) d st fr=fr)/\
  (∀ {cf:aA} {st:St} {fr:Fr} {d:Option Nat} {sz:Nat} {a x:CX},cJ cf (.store sz a x) d st fr=fr)/\(∀ {cf:aA} {st:St} {fr:Fr} {d:Option Nat} {x:CX},cJ cf (.nck x) d st fr=fr)/\(∀ {cf:aA} {st:St} {fr:Fr} {d:Option Nat} {op:BinOp} {x y:CX},cJ cf (.bin op x y) d st fr=fr)/\(∀ {cf:aA} {st:St} {fr:Fr} {d:Option Nat} {b:Bool} {x:CX},cJ cf (.isnil b x) d st fr=fr)/\(∀ {cf:aA} {st:St} {fr:Fr} {d:Option Nat} {b:Bool} {x y:CX},cJ cf (.beq b x y) d st fr=fr)/\
  (∀ {cf:aA} {st:St} {fr:Fr} {d:Option Nat} {op:UnOp} {x:CX},cJ cf (.un op x) d st fr=fr)/\(∀ {cf:aA} {st:St} {fr:Fr} {d:Option Nat} {k:IntKind} {x:CX},cJ cf (.toInt k x) d st fr=fr)/\(∀ {cf:aA} {st:St} {fr:Fr} {d:Option Nat} {x:CX},cJ cf (.s2s x) d st fr=fr)/\(∀ {cf:aA} {st:St} {fr:Fr} {d:Option Nat} {x:CX} {i:Nat},cJ cf (.ext x i) d st fr=fr)/\(∀ {cf:aA} {st:St} {fr:Fr} {d:Option Nat} {x:CX} {i:Nat},cJ cf (.fad i x) d st fr=fr)/\
  (∀ {cf:aA} {st:St} {fr:Fr} {d:Option Nat} {o sz:Nat} {ag:Bool} {x:CX},cJ cf (.fld o sz ag x) d st fr=fr)/\(∀ {cf:aA} {st:St} {fr:Fr} {d:Option Nat} {sz:Nat} {x i:CX},cJ cf (.iad sz x i) d st fr=fr)/\(∀ {cf:aA} {st:St} {fr:Fr} {d:Option Nat} {x i:CX},cJ cf (.sidx x i) d st fr=fr)/\(∀ {cf:aA} {st:St} {fr:Fr} {d:Option Nat} {x:CX} {l h:Option CX},cJ cf (.ssl x l h) d st fr=fr)/\(∀ {cf:aA} {st:St} {fr:Fr} {d:Option Nat} {sz:Nat} {x:CX} {l h:Option CX},cJ cf (.slc sz x l h) d st fr=fr)/\
  (∀ {cf:aA} {st:St} {fr:Fr} {e sz b s:Nat} {zs:List PV} {n c:CX},cJ cf (.mks e sz b zs n c) (some s) st fr=zq s fr)/\(∀ {cf:aA} {st:St} {fr:Fr} {d:Option Nat} {e sz b:Nat} {n c:CX},cJ cf (.mk0 e sz b n c) d st fr=fr)/\(∀ {cf:aA} {st:St} {fr:Fr} {d:Option Nat} {x:CX},cJ cf (.slen x) d st fr=fr)/\(∀ {cf:aA} {st:St} {fr:Fr} {d:Option Nat} {x:CX},cJ cf (.len x) d st fr=fr)/\(∀ {cf:aA} {st:St} {fr:Fr} {d:Option Nat} {e sz b:Nat} {x y:CX},cJ cf (.app e sz b x y) d st fr=fr)/\
  (∀ {cf:aA} {st:St} {fr:Fr} {d:Option Nat} {x:CX},cJ cf (.b2s x) d st fr=fr)/\(∀ {cf:aA} {st:St} {fr:Fr} {d:Option Nat} {f:Nat} {as:List CX},cJ cf (.mkfn f as) d st fr=fr)/\(∀ {cf:aA} {st:St} {fr:Fr} {s:Nat},cJ cf .mkmap (some s) st fr=zq s fr)/\(∀ {cf:aA} {st:St} {fr:Fr} {d:Option Nat} {kk:Nat} {m k v:CX},cJ cf (.mpset kk m k v) d st fr=fr)/\(∀ {cf:aA} {st:St} {fr:Fr} {d:Option Nat} {b:Bool} {z:PV} {kk:Nat} {m k:CX},cJ cf (.mpget b z kk m k) d st fr=fr)/\(∀ {cf:aA} {st:St} {fr:Fr} {d:Option Nat} {m:CX},cJ cf (.mplen m) d st fr=fr)/\
  (∀ {cf:aA} {st:St} {fr:Fr} {d:Option Nat} {f:Nat} {as:List CX},cJ cf (.call f as []) d st fr=fr)/\(∀ {cf:aA} {st:St} {fr:Fr} {d:Option Nat} {f:CX} {as:List CX},cJ cf (.cval f as) d st fr=fr):=by
 refine⟨?_,?_,?_,?_,?_,?_,?_,?_,?_,?_,?_,?_,?_,?_,?_,?_,?_,?_,?_,?_,?_,?_,?_,?_,?_,?_,?_,?_,?_,?_,?_,?_,?_,?_,?_⟩<;>intros<;>first|rfl|(rename_i d _;cases d<;>rfl)|(rename_i d _ _;cases d<;>rfl)|(rename_i d _ _ _;cases d<;>rfl)|(rename_i d _ _ _ _;cases d<;>rfl)|(rename_i d _ _ _ _ _;cases d<;>rfl)
def Oz:(∀ {s:Nat} {k:IntKind} {n:Int},eA s (.int k n)= .int k n)/\(∀ {s:Nat} {b:Bool},eA s (.bool b)= .bool b)/\(∀ {s:Nat} {t:ByteArray},eA s (.str t)= .str t)/\(∀ {s:Nat} {n:Nat} {cs:List PV} {t:aB},eA s (.list n cs t)= .list n cs t)/\(∀ {s:Nat} {cs:List PV},eA s (.agg cs)= .agg cs)/\(∀ {s:Nat} {cs:List PV},eA s (.tup cs)= .tup cs)/\
  (∀ {s:Nat} {cs:List PV} {n:Nat} {t:aB},eA s (.iptr cs n t)= .iptr cs n t)/\(∀ {s:Nat} {k o:Nat},eA s (.ptr k o)=if k=s then .any else .ptr k o)/\(∀ {s:Nat} {e sz k n:Nat},eA s (.osl e sz k n)=if k=s then .any else .osl e sz k n)/\(∀ {s:Nat} {k:Nat},eA s (.mp k)=if k=s then .any else .mp k)/\
  (∀ {s:Nat},eA s .hole= .hole)/\(∀ {s:Nat},eA s .any= .any)/\(∀ {s:Nat},eA s .nili= .nili)/\(∀ {s:Nat},eA s .err= .err)/\(∀ {s:Nat},eA s .nilp= .nilp)/\(∀ {s:Nat} {f:Nat},eA s (.fn f [])= .fn f []):=
 ⟨rfl,rfl,rfl,rfl,rfl,rfl,rfl,rfl,rfl,rfl,rfl,rfl,rfl,rfl,rfl,rfl⟩
def OA:
  (∀ {cf:aA} {fr:Fr} {st:St} {d:Option Nat} {x:CX},aw cf fr st d (.mv x)=some (x.ev fr,st))/\
  (∀ {cf:aA} {fr:Fr} {st:St} {zs:List PV} {s:Nat},aw cf fr st (some s) (.alloc zs)=some (.ptr s 0,bP st s zs))/\
  (∀ {cf:aA} {fr:Fr} {st:St} {d:Option Nat} {op:BinOp} {x y:CX},aw cf fr st d (.bin op x y)=(dS op (x.ev fr) (y.ev fr)).map fun p=>(p,st))/\
  (∀ {cf:aA} {fr:Fr} {st:St} {d:Option Nat} {op:UnOp} {x:CX},aw cf fr st d (.un op x)=(vr op (x.ev fr)).map fun p=>(p,st))/\
  (∀ {cf:aA} {fr:Fr} {st:St} {d:Option Nat} {f:Nat} {as:List CX} {mv:List Nat},aw cf fr st d (.call f as mv)=av cf f (as.map (·.ev fr)) mv st)/\
  (∀ {cf:aA} {fr:Fr} {st:St} {n s:Nat} {x:CX},aw cf fr st (some s) (.box n x)=match cellsOf (x.ev fr)with|some cs=>if cs.length=n then some (.ptr s 0,bP st s cs)else none|none=>none):=
 ⟨rfl,rfl,rfl,rfl,rfl,by intros;simp only[aw];cases cellsOf _<;>rfl⟩
def bR(p:PV):Bool:=np p && match p with| .ptr .. =>false|_=>true
def fj:∀ {as:List PV},as.all bR=true->cX as=some []
 | [],_=>rfl
 |a::as,h=>by
  simp only[cN,ae]at h;have ih:=fj h.2;have hn:np a=true:=by have:=h.1;simp only[bR,ae]at this;exact this.1
  cases a with
  |ptr s o=>simp[bR]at h
  |_=>simp only[cX,hn,ih,if_true]
def jl:∀ {as:List PV} (i n:Nat),as.all bR=true->eX [] [] i n as=as.map aC
 | [],_,_,_=>rfl
 |a::as,i,n,h=>by
  simp only[cN,ae]at h;cases a with
  |ptr s o=>simp[bR]at h
  |_=>simp[eX,jl (i+1) n h.2]
def ot{cf:aA}{f:Nat}{as:List PV}{st:St}(h:as.all bR=true){r:PV}{ns:List Nat}(hc:cf f (as.map aC) [] []=some (r,ns,[])):
  av cf f as [] st=some (ren (fun k=>some (st.nx+k)) false r,{st.more ns with fl:=if ft r||(nj f && as.all (tf fun _=>true))then st.fl else st.nx}):=by
 have hf:oy f as []=(nj f && as.all (tf fun _=>true)):=by simp[oy]
 simp only[av,fj h,dl,jl 0 0 h,bM,hc,aO,if_true,fi,cU,bg,hf];congr 2;cases ns<;>rfl
def Iz{cf:aA}{f:Nat}{as as':List PV}{st:St}(h:as.all bR=true)(ha:as.map aC=as'){r:PV}(hc:cf f as' [] []=some (r,[],[]))(hr:ren (fun k=>some (st.nx+k)) false r=r)(hcl:ft r=true):
  av cf f as [] st=some (r,st):=by
 rw[ot h (by rw[ha];exact hc),hr,hcl];rfl
def cI(l:List UInt8)(i:Nat):Int:=(l.getD i 0).toNat
def B1(x i:PV)(st:St):Option (PV×St):=match x,i with
 | .str s,.int _ j=>if h:0<=j/\j.toNat<s.size then some (.int .u8 (s[j.toNat]'h.2).toNat,st)else none
 |_,_=>none
def Je{l:List UInt8}{j:Int}{st:St}(h0:0<=j)(h1:j.toNat<l.length):B1 (S l) (I j) st=some (U (cI l j.toNat),st):=by
 simp only[B1];rw[dif_pos ⟨h0,by rw[qh];exact h1⟩];simp[cI,h1];rfl
def p4(x:PV)(lo hi:Option PV)(st:St):Option (PV×St):=match x with
 | .str s=>match (match (match hi with|some x=>jG x s.size|none=>some s.size)with
   |none=>none
   |some h=>match (match lo with|some x=>jG x h|none=>some 0)with
    |none=>none
    |some l=>some (l,h))with
  |some (l,h)=>some (.str (s.extract l h),st)
  |none=>none
 |_=>none
def tu{k:IntKind}{j:Int}{n:Nat}(h0:0<=j)(h1:j<=(n:Int)):jG (.int k j) n=some j.toNat:=by simp[jG,h0,h1]
def u4(l:List UInt8)(a b:Nat):(⟨l.toArray⟩:ByteArray).extract a b=⟨((l.take b).drop a).toArray⟩:=by
 apply ByteArray.ext;simp[ByteArray.data_extract,List.drop_take]
def Lo{l:List UInt8}{j:Int}{st:St}(h0:0<=j)(h1:j<=(l.length:Int)):p4 (S l) (some (I j)) none st=some (S (l.drop j.toNat),st):=by
 simp only[p4,qh,tu h0 h1,u4,kz]
def Lp{l:List UInt8}{j:Int}{st:St}(h0:0<=j)(h1:j<=(l.length:Int)):p4 (S l) none (some (I j)) st=some (S (l.take j.toNat),st):=by
 simp only[p4,qh,tu h0 h1,u4,nT]
def Hi{l:List UInt8}{a b:Int}{st:St}(h0:0<=a)(h1:a<=b)(h2:b<=(l.length:Int)):p4 (S l) (some (I a)) (some (I b)) st=some (S ((l.take b.toNat).drop a.toNat),st):=by
 have h3:a<=(b.toNat:Int):=by omega
 simp only[p4,qh,tu (show 0<=b by omega) h2,tu h0 h3,u4]
def zm(sz:Nat)(ag:Bool)(a:PV)(st:St):Option (PV×St):=match a with
 | .ptr s off=>match st.objs s with
  |some cs=>(bI cs off sz ag).map fun p=>(p,st)
  |none=>none
 | .iptr cs off _=>(bI cs off sz ag).map fun p=>(p,st)
 |_=>none
def yS(sz:Nat)(a x:PV)(st:St):Option (PV×St):=match a,cellsOf x with
 | .ptr s off,some vs=>match st.objs s with
  |some cs=>if vs.length=sz/\off+sz<=cs.length then some (.hole,bP st s (bD cs off vs))else none
  |none=>none
 |_,_=>none
def HG{cs:List PV}{off:Nat}{p:PV}(h:cs[off]? =some p):bI cs off 1 false=some p:=by
 have:=(br.1 h).1;simp[bI,h];omega
def sY{cs:List PV}{sz:Nat}(h:cs.length=sz):bI cs 0 sz true=some (.agg cs):=by
 subst h;unfold bI;rw[ak (by omega),ak rfl,nT,kz]
def uX(sz:Nat)(x i:PV)(st:St):Option (PV×St):=match x,i with
 | .list n cs t,.int _ j=>if 0<=j/\j<(n:Int)/\cs.length=n*sz then some (.iptr cs (j.toNat*sz) (t.elt n),st)else none
 | .osl _ _ s n,.int _ j=>if 0<=j/\j<(n:Int)then some (.ptr s (j.toNat*sz),st)else none
 |_,_=>none
def If{sz n:Nat}{cs:List PV}{t:aB}{j:Int}{st:St}(h0:0<=j)(h1:j<(n:Int))(h2:cs.length=n*sz):uX sz (.list n cs t) (I j) st=some (.iptr cs (j.toNat*sz) (t.elt n),st):=by
 simp[uX,h0,h1,h2]
def J8{sz e sz' s n:Nat}{j:Int}{st:St}(h0:0<=j)(h1:j<(n:Int)):uX sz (.osl e sz' s n) (I j) st=some (.ptr s (j.toNat*sz),st):=by
 simp[uX,h0,h1]
def JW(x:PV)(st:St):Option (PV×St):=match x with
 | .list n _ _=>some (I n,st)
 | .osl _ _ _ n=>some (I n,st)
 |_=>none
def B0(x:PV)(st:St):Option (PV×St):=match x with
 | .str s=>some (I s.size,st)
 |_=>none
def Jd{l:List UInt8}{st:St}:B0 (S l) st=some (I l.length,st):=by simp only[B0,qh]
def uG(c a b:PV)(st:St):Option (PV×St):=match c with
 | .bool true=>some (a,st)
 | .bool false=>some (b,st)
 |_=>none
def JB{a b:Bool}{st:St}:uG (.bool a) (.bool true) (.bool b) st=some (.bool (a||b),st):=by cases a<;>rfl
def HD{a b:Bool}{st:St}:uG (.bool a) (.bool b) (.bool false) st=some (.bool (a && b),st):=by cases a<;>rfl
def Ke(off:Nat)(x:PV)(st:St):Option (PV×St):=match x with
 | .ptr s o=>some (.ptr s (o+off),st)
 | .iptr cs o t=>some (.iptr cs (o+off) t,st)
 |_=>none
def MW(off sz:Nat)(ag:Bool)(x:PV)(st:St):Option (PV×St):=match x with
 | .agg cs=>(bI cs off sz ag).map fun p=>(p,st)
 |_=>none
def Ge(x:PV)(st:St):Option (PV×St):=match x with
 | .ptr s off=>some (.ptr s off,st)
 | .iptr cs off t=>some (.iptr cs off t,st)
 | .fn f cs=>some (.fn f cs,st)
 |_=>none
def MX(x:PV)(i:Nat)(st:St):Option (PV×St):=match x with
 | .tup vs=>(vs[i]?).map fun p=>(p,st)
 |_=>none
def CS(neg:Bool)(x:PV)(st:St):Option (PV×St):=match x with
 | .err=>some (.bool neg,st)
 | .nili=>some (.bool (!neg),st)
 |_=>none
def Ha(k:IntKind)(x:PV)(st:St):Option (PV×St):=match x with
 | .int _ n=>some (.int k (k.wrap n),st)
 |_=>none
def OX(neg:Bool)(x y:PV)(st:St):Option (PV×St):=match x,y with
 | .bool a,.bool b=>some (.bool (if neg then !(a==b)else a==b),st)
 |_,_=>none
def GK(cf:aA)(f:PV)(as:List PV)(st:St):Option (PV×St):=match f with
 | .fn g cap=>if g<1000000 then av cf g (as++cap) [] st else none
 |_=>none
def MG:
  (∀ {cf:aA} {fr:Fr} {st:St} {d:Option Nat} {x i:CX},aw cf fr st d (.sidx x i)=B1 (x.ev fr) (i.ev fr) st)/\
  (∀ {cf:aA} {fr:Fr} {st:St} {d:Option Nat} {x:CX},aw cf fr st d (.ssl x none none)=p4 (x.ev fr) none none st)/\
  (∀ {cf:aA} {fr:Fr} {st:St} {d:Option Nat} {x a:CX},aw cf fr st d (.ssl x (some a) none)=p4 (x.ev fr) (some (a.ev fr)) none st)/\
  (∀ {cf:aA} {fr:Fr} {st:St} {d:Option Nat} {x b:CX},aw cf fr st d (.ssl x none (some b))=p4 (x.ev fr) none (some (b.ev fr)) st)/\
  (∀ {cf:aA} {fr:Fr} {st:St} {d:Option Nat} {x a b:CX},aw cf fr st d (.ssl x (some a) (some b))=p4 (x.ev fr) (some (a.ev fr)) (some (b.ev fr)) st)/\
  (∀ {cf:aA} {fr:Fr} {st:St} {d:Option Nat} {sz:Nat} {ag:Bool} {x:CX},aw cf fr st d (.load sz ag x)=zm sz ag (x.ev fr) st)/\
  (∀ {cf:aA} {fr:Fr} {st:St} {d:Option Nat} {sz:Nat} {a x:CX},aw cf fr st d (.store sz a x)=yS sz (a.ev fr) (x.ev fr) st)/\
  (∀ {cf:aA} {fr:Fr} {st:St} {d:Option Nat} {sz:Nat} {x i:CX},aw cf fr st d (.iad sz x i)=uX sz (x.ev fr) (i.ev fr) st)/\
  (∀ {cf:aA} {fr:Fr} {st:St} {d:Option Nat} {x:CX},aw cf fr st d (.len x)=JW (x.ev fr) st)/\
  (∀ {cf:aA} {fr:Fr} {st:St} {d:Option Nat} {x:CX},aw cf fr st d (.slen x)=B0 (x.ev fr) st)/\
  (∀ {cf:aA} {fr:Fr} {st:St} {d:Option Nat} {c a b:CX},aw cf fr st d (.pick c a b)=uG (c.ev fr) (a.ev fr) (b.ev fr) st)/\
  (∀ {cf:aA} {fr:Fr} {st:St} {d:Option Nat} {off:Nat} {x:CX},aw cf fr st d (.fad off x)=Ke off (x.ev fr) st)/\
  (∀ {cf:aA} {fr:Fr} {st:St} {d:Option Nat} {off sz:Nat} {ag:Bool} {x:CX},aw cf fr st d (.fld off sz ag x)=MW off sz ag (x.ev fr) st)/\
  (∀ {cf:aA} {fr:Fr} {st:St} {d:Option Nat} {x:CX},aw cf fr st d (.nck x)=Ge (x.ev fr) st)/\
  (∀ {cf:aA} {fr:Fr} {st:St} {d:Option Nat} {x:CX} {i:Nat},aw cf fr st d (.ext x i)=MX (x.ev fr) i st)/\
  (∀ {cf:aA} {fr:Fr} {st:St} {d:Option Nat} {b:Bool} {x:CX},aw cf fr st d (.isnil b x)=CS b (x.ev fr) st)/\
  (∀ {cf:aA} {fr:Fr} {st:St} {d:Option Nat} {b:Bool} {x y:CX},aw cf fr st d (.beq b x y)=OX b (x.ev fr) (y.ev fr) st)/\
  (∀ {cf:aA} {fr:Fr} {st:St} {d:Option Nat} {k:IntKind} {x:CX},aw cf fr st d (.toInt k x)=Ha k (x.ev fr) st)/\
  (∀ {cf:aA} {fr:Fr} {st:St} {d:Option Nat} {f:CX} {as:List CX},aw cf fr st d (.cval f as)=GK cf (f.ev fr) (as.map (·.ev fr)) st):=by
 refine⟨?_,?_,?_,?_,?_,?_,?_,?_,?_,?_,?_,?_,?_,?_,?_,?_,?_,?_,?_⟩<;>intros<;>rfl
def Ow:
  (∀ {l:List UInt8} {st:St},B0 (S l) st=some (I l.length,st))/\
  (∀ {n:Nat} {cs:List PV} {t:aB} {st:St},JW (.list n cs t) st=some (I n,st))/\
  (∀ {e sz s n:Nat} {st:St},JW (.osl e sz s n) st=some (I n,st))/\
  (∀ {cs:List PV} {off sz:Nat} {ag:Bool} {t:aB} {st:St},zm sz ag (.iptr cs off t) st=(bI cs off sz ag).map fun p=>(p,st))/\
  (∀ {s o off:Nat} {st:St},Ke off (.ptr s o) st=some (.ptr s (o+off),st))/\
  (∀ {cs:List PV} {o off:Nat} {t:aB} {st:St},Ke off (.iptr cs o t) st=some (.iptr cs (o+off) t,st))/\
  (∀ {cs:List PV} {off sz:Nat} {ag:Bool} {st:St},MW off sz ag (.agg cs) st=(bI cs off sz ag).map fun p=>(p,st))/\
  (∀ {s o:Nat} {st:St},Ge (.ptr s o) st=some (.ptr s o,st))/\
  (∀ {cs:List PV} {o:Nat} {t:aB} {st:St},Ge (.iptr cs o t) st=some (.iptr cs o t,st))/\
  (∀ {f:Nat} {cs:List PV} {st:St},Ge (.fn f cs) st=some (.fn f cs,st))/\
  (∀ {vs:List PV} {i:Nat} {st:St},MX (.tup vs) i st=(vs[i]?).map fun p=>(p,st))/\
  (∀ {b:Bool} {st:St},CS b .err st=some (.bool b,st))/\
  (∀ {b:Bool} {st:St},CS b .nili st=some (.bool (!b),st))/\
  (∀ {k j:IntKind} {n:Int} {st:St},Ha k (.int j n) st=some (.int k (k.wrap n),st))/\
  (∀ {a b:Bool} {st:St},uG (.bool a) (.bool true) (.bool b) st=some (.bool (a||b),st))/\
  (∀ {a b:Bool} {st:St},uG (.bool a) (.bool b) (.bool false) st=some (.bool (a && b),st))/\
  (∀ {a b:PV} {st:St},uG (.bool true) a b st=some (a,st))/\
  (∀ {a b:PV} {st:St},uG (.bool false) a b st=some (b,st))/\
  (∀ {f:Nat} {cf:aA} {as:List PV} {st:St},f<1000000->GK cf (.fn f []) as st=av cf f as [] st):=by
 refine⟨Jd,rfl,rfl,rfl,rfl,rfl,rfl,rfl,rfl,rfl,rfl,rfl,rfl,rfl,JB,HD,rfl,rfl,?_⟩;intro f cf as st h;simp[GK,h]
def OD:
  (∀ {st:St} {s k:Nat} {c:List PV},(bP st s c).objs k=if k=s then some c else st.objs k)/\
  (∀ {st:St} {s:Nat} {c:List PV},(bP st s c).nx=st.nx)/\
  (∀ {st:St} {s:Nat} {c:List PV},(bP st s c).cnt=st.cnt)/\
  (∀ {st:St} {s:Nat} {c:List PV},(bP st s c).fl=st.fl)/\
  (∀ {st:St} {s:Nat} {c:List PV},(bP st s c).maps=st.maps):=⟨rfl,rfl,rfl,rfl,rfl⟩
def Oy:
  (decide True=true)/\(decide False=false)/\(∀ {p:Prop} [Decidable p],(decide p=true)=p)/\(∀ {p:Prop} [Decidable p],(decide p=false)=¬p)/\(∀ {p:Prop} [Decidable p],(!decide p)=decide (¬p))/\
  ((¬True)=False)/\((¬False)=True)/\(∀ {b:Bool},(false||b)=b)/\(∀ {b:Bool},(b||false)=b)/\(∀ {b:Bool},(true||b)=true)/\(∀ {b:Bool},(b||true)=true)/\
  (∀ {b:Bool},(false && b)=false)/\(∀ {b:Bool},(b && false)=false)/\(∀ {b:Bool},(true && b)=b)/\(∀ {b:Bool},(b && true)=b)/\((!true)=false)/\((!false)=true)/\(∀ {b:Bool},(!!b)=b)/\
  (∀ {b:Bool},((!b)=true)=(b=false))/\(∀ {b:Bool},((!b)=false)=(b=true))/\(∀ {b:Bool},(b=false)=¬(b=true))/\((true=true)=True)/\((false=true)=False)/\
  (∀ {a b:Bool},((a||b)=true)=(a=true\/b=true))/\(∀ {a b:Bool},((a && b)=true)=(a=true/\b=true))/\(∀ {p:Prop},(¬¬p)=p)/\
  (∀ {p:Prop},(True/\p)=p)/\(∀ {p:Prop},(p/\True)=p)/\(∀ {p:Prop},(False/\p)=False)/\(∀ {p:Prop},(p/\False)=False)/\(∀ {p:Prop},(True\/p)=True)/\(∀ {p:Prop},(p\/True)=True)/\(∀ {p:Prop},(False\/p)=p)/\(∀ {p:Prop},(p\/False)=p)/\
  (∀ {n:Nat},((n:Int)).toNat=n)/\((0:Int).toNat=0)/\(∀ {α β:Type} {f:α->β} {x:α},Option.map f (some x)=some (f x))/\(∀ {α β:Type} {f:α->β},List.map f []=[])/\(∀ {α β:Type} {f:α->β} {x:α} {xs:List α},List.map f (x::xs)=f x::List.map f xs):=by
 simp
def G4(cf:aA)(f:Nat)(F:bp):Prop:=∀ N as ns cs r,fO cf N F as ns cs=some r->cf f as ns cs=some r
def kE:Ex->Prop
 | .exit _=>False
 |_=>True
def nn:kE .ret↔True:=Iff.rfl
def qJ(p:PV):Prop:=np p=true/\aC p=p/\ft p=true/\(∀ f s,ren f s p=p)/\(match p with| .osl .. =>False| .ptr .. =>False|_=>True)
def qY(ps:List PV):Prop:=aI ps=true/\aF ps=ps/\fo ps=true/\∀ f s,aZ f s ps=ps
def dD(k:IntKind)(n:Int):qJ (.int k n):=⟨rfl,rfl,rfl,fun _ _=>rfl,trivial⟩
def ce(b:Bool):qJ (.bool b):=⟨rfl,rfl,rfl,fun _ _=>rfl,trivial⟩
def qI(s:ByteArray):qJ (.str s):=⟨rfl,rfl,rfl,fun _ _=>rfl,trivial⟩
def IW:qJ .nili:=⟨rfl,rfl,rfl,fun _ _=>rfl,trivial⟩
def Dz:qJ .err:=⟨rfl,rfl,rfl,fun _ _=>rfl,trivial⟩
def pq:qY []:=⟨rfl,rfl,rfl,fun _ _=>rfl⟩
def iP{p:PV}{ps:List PV}(h:qJ p)(k:qY ps):qY (p::ps):=by
 obtain⟨h1,h2,h3,h4,_⟩:=h;obtain⟨k1,k2,k3,k4⟩:=k;refine⟨?_,?_,?_,fun f s=>?_⟩
 ·have h1':off (fun _=>true) p=true:=h1;have k1':dh (fun _=>true) ps=true:=k1;simp only[aI,dh,h1',k1',ap]
 ·have h2':ren (fun _=>none) true p=p:=h2;have k2':aZ (fun _=>none) true ps=ps:=k2;simp only[aF,aZ,h2',k2']
 ·simp only[fo,h3,k3,ap]
 ·simp only[aZ,h4,k4]
def yJ{cs:List PV}(h:qY cs):qJ (.tup cs):=by
 obtain⟨h1,h2,h3,h4⟩:=h;refine⟨h1,?_,h3,fun f s=>?_,trivial⟩
 ·have h2':aZ (fun _=>none) true cs=cs:=h2;simp only[aC,ren,h2']
 ·simp only[ren,h4]
def cT(p:PV):Prop:=np p=true/\aC p=p/\(∀ f s,ren f s p=p)/\(match p with| .osl .. =>False| .ptr .. =>False|_=>True)
def cK(ps:List PV):Prop:=aI ps=true/\aF ps=ps/\∀ f s,aZ f s ps=ps
def qJ.plain{p:PV}(h:qJ p):cT p:=⟨h.1,h.2.1,h.2.2.2.1,h.2.2.2.2⟩
def qY.plain{ps:List PV}(h:qY ps):cK ps:=⟨h.1,h.2.1,h.2.2.2⟩
def dL:cK []:=pq.plain
def bu{p:PV}{ps:List PV}(h:cT p)(k:cK ps):cK (p::ps):=by
 obtain⟨h1,h2,h4,_⟩:=h;obtain⟨k1,k2,k4⟩:=k;refine⟨?_,?_,fun f s=>?_⟩
 ·have h1':off (fun _=>true) p=true:=h1;have k1':dh (fun _=>true) ps=true:=k1;simp only[aI,dh,h1',k1',ap]
 ·have h2':ren (fun _=>none) true p=p:=h2;have k2':aZ (fun _=>none) true ps=ps:=k2;simp only[aF,aZ,h2',k2']
 ·simp only[aZ,h4,k4]
def jY{ps qs:List PV}(h:cK ps)(k:cK qs):cK (ps++qs):=by
 obtain⟨h1,h2,h4⟩:=h;obtain⟨k1,k2,k4⟩:=k;have hr:∀ f s,aZ f s (ps++qs)=ps++qs:=by
  intro f s;have:∀ (xs ys:List PV),aZ f s (xs++ys)=aZ f s xs++aZ f s ys:=by
   intro xs ys
   induction xs with
   |nil=>rfl
   |cons x xs ih=>simp only[a8,aZ,ih]
  rw[this,h4,k4]
 exact⟨io h1 k1,hr _ _,hr⟩
def ej{cs:List PV}(h:cK cs):cT (.agg cs):=by
 obtain⟨h1,h2,h4⟩:=h;refine⟨h1,?_,fun f s=>?_,trivial⟩
 ·have h2':aZ (fun _=>none) true cs=cs:=h2;simp only[aC,ren,h2']
 ·simp only[ren,h4]
def fE{n:Nat}{cs:List PV}(h:cK cs):cT (.list n cs .no):=by
 obtain⟨h1,h2,h4⟩:=h;refine⟨h1,?_,fun f s=>?_,trivial⟩
 ·have h2':aZ (fun _=>none) true cs=cs:=h2;simp only[aC,ren,h2',aB.ren]
 ·simp only[ren,h4,aB.ren]
def aQ(k:IntKind)(n:Int):cT (.int k n):=(dD k n).plain
def tM(b:Bool):cT (.bool b):=(ce b).plain
def bZ(s:ByteArray):cT (.str s):=(qI s).plain
def dE{ps:List PV}(h:∀ p∈ps,cT p):ps.all bR=true/\ps.map aC=ps:=by
 refine⟨bX.2 fun p hp=>?_,?_⟩
 ·have:=h p hp;unfold bR;rw[this.1,dj];have h4:=this.2.2.2;cases p<;>first|rfl|exact h4.elim
 ·induction ps with
  |nil=>rfl
  |cons p ps ih=>
   simp only[aH,(h p (by simp)).2.1];rw[ih fun q hq=>h q (by simp[hq])]
def BU(nk:Nat){p:PV}{st:St}(h:match p with| .osl .. =>False| .ptr .. =>False|_=>True):cL nk [p] st=([p],st):=by
 cases p<;>first|exact h.elim|(rw[cL,cL];intros;simp_all)
section
variable {cf:aA} {f:Nat} {F:bp} {as:List PV} {r:PV} {t t2 N:Nat} {st:St}
def zF(hres:F.res=[.tmp t])(hown:F.own=false){fr:Fr}{cs:List (List PV)}(hcs:dl st (List.range cs.length)=some cs)(hc:∀ c∈cs,cK c)(hr:cT r)(h:fr t=r):gN F cs.length fr st=some (r,[],cs):=by
 have hn:np r=true:=hr.1;have hcs':cs.map aF=cs:=by
  have:∀ (l:List (List PV)),(∀ c∈l,cK c)->l.map aF=l:=by
   intro l
   induction l with
   |nil=>intro _;rfl
   |cons c l ih=>intro hl;simp only[aH,(hl c (by simp)).2.1];rw[ih fun d hd=>hl d (by simp[hd])]
  exact this cs hc
 have hall:cs.all aI=true:=bX.2 fun c h=>(hc c h).1;simp only[gN,hres,ff,mR,h,hcs,BU F.nk hr.2.2.2,fw,hn,hall,ap,if_true,kB,hown,g8,bG,if_false,hr.2.1,hcs']
def AO{Q:Ex->Fr×St->Prop}{cs:List (List PV)}{ns:List Nat}{x}(h:Wp cf N F.body (eu as,bn ns cs) Q)(hnt:as.length<=F.nt)(hnk:cs.length<=F.nk)(hQ:∀ e y,Q e y->kE e/\gN F cs.length y.1 y.2=some x):fO cf N F as ns cs=some x:=by
 obtain⟨e,y,hev,hq⟩:=h;obtain⟨he,hf⟩:=hQ e y hq;unfold fO;rw[ak ⟨hnt,hnk⟩,hev];cases e with
 |go=>exact hf
 |ret=>exact hf
 |exit i=>exact he.elim
def MU(K:G4 cf f F)(hres:F.res=[.tmp t])(hown:F.own=false)(hnt:as.length<=F.nt)(hr:cT r)(N:Nat)(h:Wp cf N F.body (eu as,bn [] []) (fun e y=>kE e/\y.1 t=r)):cf f as [] []=some (r,[],[]):=
 K N as [] [] _ (AO h hnt (aM _) fun e y hq=>⟨hq.1,zF (cs:=[]) hres hown rfl (by simp) hr hq.2⟩)
def rv(has:∀ p∈as,cT p)(hr:qJ r)(h:cf f as [] []=some (r,[],[])):av cf f as [] st=some (r,st):=by
 obtain⟨h1,h2⟩:=dE has;exact Iz h1 h2 h (hr.2.2.2.1 _ _) hr.2.2.1
def Kl{s:Nat}{c c':List PV}(hs:st.objs s=some c)(hc:cK c)(hc':qY c')(has:∀ p∈as,cT p)(hr:qJ r)(h:cf f (.ptr 0 0::as) [] [c]=some (r,[],[c'])):
  av cf f (.ptr s 0::as) [] st=some (r,bP st s c'):=by
 obtain⟨h1,h2⟩:=dE has;have hk:cX (.ptr s 0::as)=some [s]:=by
  simp only[cX,fj h1];simp
 have hh:∀ (l:List PV) (i n:Nat),l.all bR=true->eX [] [] i n l=l.map aC:=fun l i n hl=>jl i n hl;have hon:eX [] [] 0 0 (.ptr s 0::as)= .ptr 0 0::as:=by
  simp only[eX,hh as _ _ h1,h2]
 simp only[av,hk,dl,hs,hon,aH,bM,hc.2.1,h,au,aO,if_true];congr 1;refine Prod.ext (hr.2.2.2.1 _ _) ?_;simp only[hc'.2.2.2,hr.2.2.1,hc'.2.2.1,cN,cU,ap];rfl
def MV(K:G4 cf f F)(hres:F.res=[.tmp t])(hown:F.own=false)(hnt:as.length+1<=F.nt)(hnk:1<=F.nk)(hr:cT r){c c':List PV}(hc':cK c')(N:Nat)
  (h:Wp cf N F.body (eu (.ptr 0 0::as),bn [] [c]) (fun e y=>kE e/\y.1 t=r/\y.2.objs 0=some c')):cf f (.ptr 0 0::as) [] [c]=some (r,[],[c']):=
 K N _ [] [c] _ (AO h (by simpa using hnt) hnk fun e y hq=>⟨hq.1,zF (cs:=[c']) hres hown (by
  have:List.range [c'].length=[0]:=rfl;rw[this];simp only[dl,hq.2.2]) (by simpa using hc') hr hq.2.1⟩)
end
end Go.PM
