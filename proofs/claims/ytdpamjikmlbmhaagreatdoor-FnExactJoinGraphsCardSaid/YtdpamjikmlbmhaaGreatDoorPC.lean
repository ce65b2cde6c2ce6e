/- A part of the proof: texts PmX, PmY, PmZ, PnA, PnB, PnC, PnD, PnE, PoA, PoB, PoC, PoD, PoE, joined. Conditions: none. -/
import Derived.Test.YtdpamjikmlbmhaaGreatDoorPB
set_option linter.all false
namespace Go.PM
variable {P:Program} {B:Nat→Nat→Option Value}
def Ex.of:Ex→Exit
 | .go=> .normal
 | .exit i=> .exit i
 | .ret=> .ret
def BN(P:Program)(B:Nat→Nat→Option Value)(nt nk:Nat)(kp:Bool)(G:Gh)(w:World)(a:Act)(e:Ex)(y:Fr×St)(Q:Exit→Act→World→Prop):Prop:=
 ∀ a' w' G',bt P B G' y.2 w'→bV G w G' w'→dZ G' nt y.1 a'→mC kp a' a→(∀ s,nk≤s∨G'.bx s=G.bx s)→Q e.of a' w'
section
variable {M:Nat→List Nat} {nt nk:Nat} {cf:au}
theorem xi{c:Code}{body:Fr×St→Option (Ex×Fr×St)}(hb:∀ {x:Fr×St} {e:Ex} {y:Fr×St} {G:Gh} {w:World} {a:Act} {Q:Exit→Act→World→Prop},body x=some (e,y)→bt P B G x.2 w→dZ G nt x.1 a→BN P B nt nk (oA M) G w a e y Q→c.wp P Q a w):
  ∀ {n:Nat} {x:Fr×St} {e:Ex} {y:Fr×St} {G:Gh} {w:World} {a:Act} {Q:Exit→Act→World→Prop},mJ body n x=some (e,y)→bt P B G x.2 w→dZ G nt x.1 a→BN P B nt nk (oA M) G w a e y Q→Code.rounds P c Q n a w
 |0,x,e,y,G,w,a,Q,h,_,_,_=>by simp[mJ]at h
 |n+1,x,e,y,G,w,a,Q,h,hI,hF,hn=>by
  rw[rounds_succ]
  simp only[mJ]at h
  split at h
  ·rename_i z hz
   refine hb hz hI hF fun a1 w1 G1 hI1 hS1 hF1 hd1 hk1=>?_
   refine xi hb h hI1 hF1 fun a2 w2 G2 hI2 hS2 hF2 hd2 hk2=>hn a2 w2 G2 hI2 (hS1.trans hS2) hF2 (hd2.trans hd1) fun s=>?_
   rcases hk1 s with h1|h1
   ·exact .inl h1
   ·rcases hk2 s with h2|h2
    ·exact .inl h2
    ·exact .inr (h2.trans h1)
  ·rename_i hne
   refine hb h hI hF fun a1 w1 G1 hI1 hS1 hF1 hd1 hk1=>?_
   have:=hn a1 w1 G1 hI1 hS1 hF1 hd1 hk1
   cases e with
   |go=>exact absurd h (hne y)
   |exit i=>exact this
   |ret=>exact this
theorem xC(hcf:gU P B cf)(hmix:P.follows .mixedOrders=true)(N:Nat):∀ (c:Code) {cc:CC},ft P M nt nk c=some cc→∀ {x:Fr×St} {e:Ex} {y:Fr×St} {G:Gh} {w:World} {a:Act} {Q:Exit→Act→World→Prop},
  ev cf N cc x=some (e,y)→bt P B G x.2 w→dZ G nt x.1 a→BN P B nt nk (oA M) G w a e y Q→c.wp P Q a w:=by
 intro c
 induction c with
 |skip=>
  intro cc hc x e y G w a Q h hI hF hn
  simp only[ft,aZ]at hc
  subst hc
  cases h
  exact wp_skip (hn a w G hI (bV.refl G w) hF .refl fun _=> .inr rfl)
 |exit id=>
  intro cc hc x e y G w a Q h hI hF hn
  simp only[ft,aZ]at hc
  subst hc
  cases h
  exact wp_exit (hn a w G hI (bV.refl G w) hF .refl fun _=> .inr rfl)
 |ret=>
  intro cc hc x e y G w a Q h hI hF hn
  simp only[ft,aZ]at hc
  subst hc
  cases h
  exact wp_ret (hn a w G hI (bV.refl G w) hF .refl fun _=> .inr rfl)
 |region id ops draw=>
  intro cc hc x e y G w a Q h hI hF hn
  simp only[ft]at hc
  split at hc
  ·rename_i cs hcs
   cases draw with
   |false=>
    simp only[aZ]at hc
    subst hc
    simp only[ev,ae,bE]at h
    obtain⟨z,hz,rfl,rfl⟩:=h
    exact yC hcf hmix (draw:=false) (chk:=[]) hcs rfl hI hF hz hn
   |true=>
    simp only[ae]at hc
    obtain⟨chk,hchk,rfl⟩:=hc
    simp only[ev,ae,bE]at h
    obtain⟨z,hz,rfl,rfl⟩:=h
    exact yC hcf hmix (draw:=true) hcs hchk hI hF hz hn
  ·cases hc
 |seq c d ihc ihd=>
  intro cc hc x e y G w a Q h hI hF hn
  simp only[ft]at hc
  split at hc
  ·rename_i c1 d1 hc1 hd1
   simp only[aZ]at hc
   subst hc
   simp only[ev]at h
   refine wp_seq ?_
   split at h
   ·rename_i z hz
    refine ihc hc1 hz hI hF fun a1 w1 G1 hI1 hS1 hF1 hdf1 hk1=>?_
    refine ihd hd1 h hI1 hF1 fun a2 w2 G2 hI2 hS2 hF2 hdf2 hk2=>hn a2 w2 G2 hI2 (hS1.trans hS2) hF2 (hdf2.trans hdf1) fun s=>?_
    rcases hk1 s with h1|h1
    ·exact .inl h1
    ·rcases hk2 s with h2|h2
     ·exact .inl h2
     ·exact .inr (h2.trans h1)
   ·rename_i hne
    refine ihc hc1 h hI hF fun a1 w1 G1 hI1 hS1 hF1 hdf1 hk1=>?_
    have:=hn a1 w1 G1 hI1 hS1 hF1 hdf1 hk1
    cases e with
    |go=>exact absurd h (hne y)
    |exit i=>exact this
    |ret=>exact this
  ·cases hc
 |cond cnd c d ihc ihd=>
  intro cc hc x e y G w a Q h hI hF hn
  simp only[ft]at hc
  split at hc
  ·rename_i cx c1 d1 hcx hc1 hd1
   simp only[aZ]at hc
   subst hc
   have hR:=bQ hF hcx
   simp only[ev]at h
   split at h
   ·rename_i hb
    rw[hb]at hR
    generalize hv:a.eval cnd=v at hR
    cases hR
    exact wp_cond_true hv (ihc hc1 h hI hF hn)
   ·rename_i hb
    rw[hb]at hR
    generalize hv:a.eval cnd=v at hR
    cases hR
    exact wp_cond_false hv (ihd hd1 h hI hF hn)
   ·cases h
  ·cases hc
 |block id c ihc=>
  intro cc hc x e y G w a Q h hI hF hn
  simp only[ft,ae]at hc
  obtain⟨c1,hc1,rfl⟩:=hc
  simp only[ev]at h
  refine wp_block ?_
  split at h
  ·rename_i i z hz
   split at h
   ·rename_i hid
    cases h
    refine ihc hc1 hz hI hF fun a1 w1 G1 hI1 hS1 hF1 hdf1 hk1=>?_
    have:=hn a1 w1 G1 hI1 hS1 hF1 hdf1 hk1
    simp only[Ex.of,Exit.inBlock,hid,if_true]
    exact this
   ·rename_i hid
    cases h
    refine ihc hc1 hz hI hF fun a1 w1 G1 hI1 hS1 hF1 hdf1 hk1=>?_
    have:=hn a1 w1 G1 hI1 hS1 hF1 hdf1 hk1
    simp only[Ex.of,Exit.inBlock,ad hid]
    exact this
  ·rename_i hne
   refine ihc hc1 h hI hF fun a1 w1 G1 hI1 hS1 hF1 hdf1 hk1=>?_
   have:=hn a1 w1 G1 hI1 hS1 hF1 hdf1 hk1
   cases e with
   |go=>exact this
   |exit i=>exact absurd h (hne i y)
   |ret=>exact this
 |loop c ihc=>
  intro cc hc x e y G w a Q h hI hF hn
  simp only[ft,ae]at hc
  obtain⟨c1,hc1,rfl⟩:=hc
  simp only[ev]at h
  exact wp_loop_rounds N (xi (fun h1 h2 h3 h4=>ihc hc1 h1 h2 h3 h4) h hI hF hn)
 |_=>intro cc hc;simp[ft]at hc
end
end Go.PM
namespace Go.PM
def lK(c c':au):Prop:=∀ f as ns cs r,c f as ns cs=some r→c' f as ns cs=some r
theorem EB{c c':au}(h:lK c c'){f:Nat}{as:List PV}{st:St}{r:PV×St}(hr:jV c f as st=some r):jV c' f as st=some r:=by
 unfold jV at hr ⊢
 split at hr
 ·split at hr
  ·rename_i hn
   rw[ai hn]
   split at hr
   ·rename_i hc
    simp only[]
    split at hr
    ·rename_i hq
     rw[h _ _ _ _ _ hq];exact hr
    ·cases hr
   ·cases hr
  ·cases hr
 ·cases hr
theorem sK{c c':au}(h:lK c c'){f:Nat}{as:List PV}{mv:List Nat}{st:St}{r:PV×St}(hr:ar c f as mv st=some r):ar c' f as mv st=some r:=by
 unfold ar at hr ⊢
 cases hks:ch as with
 |none=>
  rw[hks]at hr
  cases mv with
  |nil=>exact EB h hr
  |cons m mv=>cases hr
 |some ks=>
  rw[hks]at hr
  simp only at hr ⊢
  cases hcs:cE st ks with
  |none=>rw[hcs]at hr;cases hr
  |some cs=>
   rw[hcs]at hr
   simp only at hr ⊢
   cases mv with
   |nil=>
    simp only at hr ⊢
    cases hc:c f (d9 [] [] 0 0 as) [] (cs.map aB)with
    |none=>rw[hc]at hr;cases hr
    |some q=>rw[hc]at hr;rw[h _ _ _ _ _ hc];exact hr
   |cons m mv=>
    simp only at hr ⊢
    split at hr
    ·rename_i hb
     rw[ai hb]
     cases hc:c f (d9 ((dy (m::mv) as cs).map (·.1)) (m::mv) 0 0 as) ((dy (m::mv) as cs).map (·.2)) (jX ((dy (m::mv) as cs).map (·.1)) (jA (m::mv) 0 as) cs)with
     |none=>rw[hc]at hr;cases hr
     |some q=>rw[hc]at hr;rw[h _ _ _ _ _ hc];exact hr
    ·cases hr
theorem Ck{c c':au}(h:lK c c'){f:Nat}{as:List PV}{st:St}{r:PV×PV×St}(hr:uP c f as st=some r):uP c' f as st=some r:=by
 unfold uP at hr ⊢
 cases hq:ar c (gx f) as [0] st with
 |none=>rw[hq]at hr;cases hr
 |some q=>rw[hq]at hr;rw[sK h hq];exact hr
theorem ss{c c':au}{fr:Fr}{st:St}{d:Option Nat}{o:dG}(h:∀ f as,o= .callU f as→uP c f (as.map (·.ev fr)) st=uP c' f (as.map (·.ev fr)) st):cn c o d st fr=cn c' o d st fr:=by
 cases o with
 |callU f as=>simp only[cn,h f as rfl]
 |call f as mv=>cases mv<;>cases d<;>rfl
 |_=>cases d<;>rfl
theorem D6{c c':au}(h:lK c c'){fr:Fr}{st:St}{d:Option Nat}{o:dG}{r:PV×St}(hr:ap c fr st d o=some r):cn c o d st fr=cn c' o d st fr:=by
 refine ss fun f as e=>?_
 subst e
 simp only[ap]at hr
 cases hq:uP c f (as.map (·.ev fr)) st with
 |none=>rw[hq]at hr;cases hr
 |some q=>rw[Ck h hq]
theorem DO{c c':au}(h:lK c c'){fr:Fr}{st:St}{d:Option Nat}{o:dG}{r:PV×St}(hr:ap c fr st d o=some r):ap c' fr st d o=some r:=by
 cases o with
 |call f as mv=>exact sK h hr
 |cval f as=>
  simp only[ap]at hr ⊢
  cases hf:f.ev fr with
  |fn g cap=>
   rw[hf]at hr
   simp only at hr ⊢
   split at hr
   ·rename_i hg;rw[ai hg];exact sK h hr
   ·cases hr
  |_=>rw[hf]at hr;cases hr
 |callU f as=>
  simp only[ap]at hr ⊢
  cases hq:uP c f (as.map (·.ev fr)) st with
  |none=>rw[hq]at hr;cases hr
  |some q=>rw[hq]at hr;rw[Ck h hq];exact hr
 |_=>exact hr
theorem nz{c c':au}(h:lK c c'){o:bz}{x y:Fr×St}(hr:cG c o x=some y):cG c' o x=some y:=by
 unfold cG at hr ⊢
 cases hw:dQ x.1 o.g with
 |none=>rw[hw]at hr;cases hr
 |some b=>
  rw[hw]at hr
  cases b with
  |false=>exact hr
  |true=>
   simp only at hr ⊢
   cases hq:ap c x.1 x.2 o.d o.op with
   |none=>rw[hq]at hr;cases hr
   |some q=>rw[hq]at hr;rw[DO h hq,←D6 h hq];exact hr
theorem rq{c c':au}(h:lK c c'):∀ {os:List bz} {x y:Fr×St},gD c os x=some y→gD c' os x=some y
 | [],_,_,hr=>hr
 |o::os,x,y,hr=>by
  simp only[gD]at hr ⊢
  split at hr
  ·rename_i z hz
   rw[nz h hz]
   exact rq h hr
  ·cases hr
theorem p9{c c':au}(h:lK c c'):∀ {os:List bz} {x:Fr×St} {y},gt c os x=some y→gt c' os x=some y
 | [],_,_,hr=>hr
 |o::os,x,y,hr=>by
  simp only[gt]at hr ⊢
  split at hr
  ·rename_i z hz
   rw[nz h hz]
   simp only
   split at hr
   ·rename_i hk
    rw[p9 h hk]
    exact hr
   ·cases hr
  ·cases hr
theorem Ff{c c':au}(h:lK c c'){os:List bz}{chk:List (Nat×Nat)}{x y:Fr×St}(hr:pV c os chk x=some y):pV c' os chk x=some y:=by
 cases chk with
 |nil=>exact rq h hr
 |cons q chk=>
  simp only[pV]at hr ⊢
  split at hr
  ·rename_i hk
   rw[p9 h hk]
   exact hr
  ·cases hr
theorem tQ{b b':Fr×St→Option (Ex×Fr×St)}(h:∀ x r,b x=some r→b' x=some r):∀ {n n':Nat} {x:Fr×St} {r},n≤n'→mJ b n x=some r→mJ b' n' x=some r
 |0,_,_,_,_,hr=>by simp[mJ]at hr
 |n+1,0,_,_,hn,_=>by omega
 |n+1,n'+1,x,r,hn,hr=>by
  simp only[mJ]at hr ⊢
  split at hr
  ·rename_i y hy
   rw[h _ _ hy]
   exact tQ h (by omega) hr
  ·rename_i hne
   rw[h _ _ hr]
   obtain⟨e,y⟩:=r
   cases e with
   |go=>exact absurd hr (hne y)
   |exit i=>rfl
   |ret=>rfl
theorem rI{c c':au}(h:lK c c'){n n':Nat}(hn:n≤n'):∀ (cc:CC) {x:Fr×St} {r},ev c n cc x=some r→ev c' n' cc x=some r:=by
 intro cc
 induction cc with
 |skip=>intro x r hr;exact hr
 |exit id=>intro x r hr;exact hr
 |ret=>intro x r hr;exact hr
 |reg os chk=>
  intro x r hr
  simp only[ev,ae]at hr ⊢
  obtain⟨y,hy,rfl⟩:=hr
  exact⟨y,Ff h hy,rfl⟩
 |seq a b iha ihb=>
  intro x r hr
  simp only[ev]at hr ⊢
  split at hr
  ·rename_i y hy
   rw[iha hy]
   exact ihb hr
  ·rename_i hne
   rw[iha hr]
   obtain⟨e,y⟩:=r
   cases e with
   |go=>exact absurd hr (hne y)
   |exit i=>rfl
   |ret=>rfl
 |cond cx a b iha ihb=>
  intro x r hr
  simp only[ev]at hr ⊢
  split at hr
  ·rename_i hc;exact iha hr
  ·rename_i hc;exact ihb hr
  ·cases hr
 |block id a iha=>
  intro x r hr
  simp only[ev]at hr ⊢
  split at hr
  ·rename_i i y hy
   rw[iha hy]
   exact hr
  ·rename_i hne
   rw[iha hr]
   obtain⟨e,y⟩:=r
   cases e with
   |go=>rfl
   |exit i=>exact absurd hr (hne i y)
   |ret=>rfl
 |loop a iha=>
  intro x r hr
  simp only[ev]at hr ⊢
  exact tQ (fun x r h=>iha h) hn hr
structure lY (c:Nat→au) (lim:au):Prop where
 up:∀ n,lK (c n) (c (n+1))
 lim:∀ f as ns cs r,lim f as ns cs=some r→∃ n,c n f as ns cs=some r
theorem lK.refl(c:au):lK c c:=fun _ _ _ _ _ h=>h
theorem lK.trans{a b c:au}(h:lK a b)(k:lK b c):lK a c:=fun f as ns cs r x=>k f as ns cs r (h f as ns cs r x)
section
variable {c:Nat→au} {lim:au}
theorem lY.le(h:lY c lim){n m:Nat}(hnm:n≤m):lK (c n) (c m):=by
 induction hnm with
 |refl=>exact lK.refl _
 |step _ ih=>exact ih.trans (h.up _)
theorem EC(h:lY c lim){f:Nat}{as:List PV}{st:St}{r:PV×St}(hr:jV lim f as st=some r):∃ n,jV (c n) f as st=some r:=by
 unfold jV at hr ⊢
 split at hr
 ·split at hr
  ·rename_i hn
   split at hr
   ·rename_i hc
    split at hr
    ·rename_i hq
     obtain⟨n,hn2⟩:=h.lim _ _ _ _ _ hq
     exact⟨n,by simp only[ai hn,hn2];exact hr⟩
    ·cases hr
   ·cases hr
  ·cases hr
 ·cases hr
theorem sL(h:lY c lim){f:Nat}{as:List PV}{mv:List Nat}{st:St}{r:PV×St}(hr:ar lim f as mv st=some r):∃ n,ar (c n) f as mv st=some r:=by
 unfold ar at hr ⊢
 cases hks:ch as with
 |none=>
  rw[hks]at hr
  cases mv with
  |nil=>obtain⟨n,hn⟩:=EC h hr;exact⟨n,hn⟩
  |cons m mv=>cases hr
 |some ks=>
  rw[hks]at hr
  simp only at hr ⊢
  cases hcs:cE st ks with
  |none=>rw[hcs]at hr;cases hr
  |some cs=>
   rw[hcs]at hr
   simp only at hr ⊢
   cases mv with
   |nil=>
    simp only at hr ⊢
    cases hc:lim f (d9 [] [] 0 0 as) [] (cs.map aB)with
    |none=>rw[hc]at hr;cases hr
    |some q=>
     rw[hc]at hr
     obtain⟨n,hn⟩:=h.lim _ _ _ _ _ hc
     exact⟨n,by rw[hn];exact hr⟩
   |cons m mv=>
    simp only at hr ⊢
    split at hr
    ·rename_i hb
     cases hc:lim f (d9 ((dy (m::mv) as cs).map (·.1)) (m::mv) 0 0 as) ((dy (m::mv) as cs).map (·.2)) (jX ((dy (m::mv) as cs).map (·.1)) (jA (m::mv) 0 as) cs)with
     |none=>rw[hc]at hr;cases hr
     |some q=>
      rw[hc]at hr
      obtain⟨n,hn⟩:=h.lim _ _ _ _ _ hc
      exact⟨n,by rw[ai hb,hn];exact hr⟩
    ·cases hr
theorem Cl(h:lY c lim){f:Nat}{as:List PV}{st:St}{r:PV×PV×St}(hr:uP lim f as st=some r):∃ n,uP (c n) f as st=some r:=by
 unfold uP at hr ⊢
 cases hq:ar lim (gx f) as [0] st with
 |none=>rw[hq]at hr;cases hr
 |some q=>
  rw[hq]at hr
  obtain⟨n,hn⟩:=sL h hq
  exact⟨n,by rw[hn];exact hr⟩
theorem DP(h:lY c lim){fr:Fr}{st:St}{d:Option Nat}{o:dG}{r:PV×St}(hr:ap lim fr st d o=some r):∃ n,ap (c n) fr st d o=some r:=by
 cases o with
 |call f as mv=>exact sL h hr
 |cval f as=>
  simp only[ap]at hr ⊢
  cases hf:f.ev fr with
  |fn g cap=>
   rw[hf]at hr
   simp only at hr ⊢
   split at hr
   ·rename_i hg
    obtain⟨n,hn⟩:=sL h hr
    exact⟨n,by rw[ai hg];exact hn⟩
   ·cases hr
  |_=>rw[hf]at hr;cases hr
 |callU f as=>
  simp only[ap]at hr ⊢
  cases hq:uP lim f (as.map (·.ev fr)) st with
  |none=>rw[hq]at hr;cases hr
  |some q=>
   rw[hq]at hr
   obtain⟨n,hn⟩:=Cl h hq
   exact⟨n,by rw[hn];exact hr⟩
 |_=>exact⟨0,hr⟩
theorem tt(h:lY c lim){o:bz}{x y:Fr×St}(hr:cG lim o x=some y):∃ n,cG (c n) o x=some y:=by
 unfold cG at hr ⊢
 cases hw:dQ x.1 o.g with
 |none=>rw[hw]at hr;cases hr
 |some b=>
  rw[hw]at hr
  cases b with
  |false=>exact⟨0,hr⟩
  |true=>
   simp only at hr ⊢
   cases hq:ap lim x.1 x.2 o.d o.op with
   |none=>rw[hq]at hr;cases hr
   |some q=>
    rw[hq]at hr
    obtain⟨n,hn,hk⟩:∃ n,ap (c n) x.1 x.2 o.d o.op=some q∧cn (c n) o.op o.d x.2 x.1=cn lim o.op o.d x.2 x.1:=by
     by_cases hu:∃ f as,o.op= .callU f as
     ·obtain⟨f,as,he⟩:=hu
      rw[he]at hq ⊢
      simp only[ap]at hq ⊢
      cases hv:uP lim f (as.map (·.ev x.1)) x.2 with
      |none=>rw[hv]at hq;cases hq
      |some z=>
       rw[hv]at hq
       obtain⟨n,hn⟩:=Cl h hv
       exact⟨n,by rw[hn];exact hq,ss fun f' as' e=>by cases e;rw[hn,hv]⟩
     ·obtain⟨n,hn⟩:=DP h hq
      exact⟨n,hn,ss fun f as e=>absurd ⟨f,as,e⟩ hu⟩
    exact⟨n,by rw[hn,hk];exact hr⟩
theorem u5(h:lY c lim):∀ {os:List bz} {x y:Fr×St},gD lim os x=some y→∃ n,gD (c n) os x=some y
 | [],_,_,hr=>⟨0,hr⟩
 |o::os,x,y,hr=>by
  simp only[gD]at hr ⊢
  split at hr
  ·rename_i z hz
   obtain⟨n,hn⟩:=tt h hz
   obtain⟨m,hm⟩:=u5 h hr
   refine⟨max n m,?_⟩
   rw[nz (h.le (gJ n m)) hn]
   exact rq (h.le (jc n m)) hm
  ·cases hr
theorem tM(h:lY c lim):∀ {os:List bz} {x:Fr×St} {y},gt lim os x=some y→∃ n,gt (c n) os x=some y
 | [],_,_,hr=>⟨0,hr⟩
 |o::os,x,y,hr=>by
  simp only[gt]at hr ⊢
  split at hr
  ·rename_i z hz
   split at hr
   ·rename_i hk
    obtain⟨n,hn⟩:=tt h hz
    obtain⟨m,hm⟩:=tM h hk
    refine⟨max n m,?_⟩
    rw[nz (h.le (gJ n m)) hn]
    simp only
    rw[p9 (h.le (jc n m)) hm]
    exact hr
   ·cases hr
  ·cases hr
theorem Fg(h:lY c lim){os:List bz}{chk:List (Nat×Nat)}{x y:Fr×St}(hr:pV lim os chk x=some y):∃ n,pV (c n) os chk x=some y:=by
 cases chk with
 |nil=>exact u5 h hr
 |cons q chk=>
  simp only[pV]at hr ⊢
  split at hr
  ·rename_i hk
   obtain⟨n,hn⟩:=tM h hk
   exact⟨n,by rw[hn];exact hr⟩
  ·cases hr
theorem yW{b:Nat→Fr×St→Option (Ex×Fr×St)}{l:Fr×St→Option (Ex×Fr×St)}(up:∀ n m x r,n≤m→b n x=some r→b m x=some r)(hl:∀ x r,l x=some r→∃ n,b n x=some r):
  ∀ {N:Nat} {x:Fr×St} {r},mJ l N x=some r→∃ n,mJ (b n) N x=some r
 |0,_,_,hr=>by simp[mJ]at hr
 |N+1,x,r,hr=>by
  simp only[mJ]at hr ⊢
  split at hr
  ·rename_i y hy
   obtain⟨n,hn⟩:=hl _ _ hy
   obtain⟨m,hm⟩:=yW up hl hr
   refine⟨max n m,?_⟩
   rw[up _ _ _ _ (gJ n m) hn]
   exact tQ (fun x r h=>up _ _ _ _ (jc n m) h) (aD _) hm
  ·rename_i hne
   obtain⟨n,hn⟩:=hl _ _ hr
   refine⟨n,?_⟩
   rw[hn]
   obtain⟨e,y⟩:=r
   cases e with
   |go=>exact absurd hr (hne y)
   |exit i=>rfl
   |ret=>rfl
theorem CU(h:lY c lim)(N:Nat):∀ (cc:CC) {x:Fr×St} {r},ev lim N cc x=some r→∃ n,ev (c n) N cc x=some r:=by
 intro cc
 induction cc with
 |skip=>intro x r hr;exact⟨0,hr⟩
 |exit id=>intro x r hr;exact⟨0,hr⟩
 |ret=>intro x r hr;exact⟨0,hr⟩
 |reg os chk=>
  intro x r hr
  simp only[ev,ae]at hr ⊢
  obtain⟨y,hy,rfl⟩:=hr
  obtain⟨n,hn⟩:=Fg h hy
  exact⟨n,y,hn,rfl⟩
 |seq a b iha ihb=>
  intro x r hr
  simp only[ev]at hr ⊢
  split at hr
  ·rename_i y hy
   obtain⟨n,hn⟩:=iha hy
   obtain⟨m,hm⟩:=ihb hr
   refine⟨max n m,?_⟩
   rw[rI (h.le (gJ n m)) (aD N) a hn]
   exact rI (h.le (jc n m)) (aD N) b hm
  ·rename_i hne
   obtain⟨n,hn⟩:=iha hr
   refine⟨n,?_⟩
   rw[hn]
   obtain⟨e,y⟩:=r
   cases e with
   |go=>exact absurd hr (hne y)
   |exit i=>rfl
   |ret=>rfl
 |cond cx a b iha ihb=>
  intro x r hr
  simp only[ev]at hr ⊢
  split at hr
  ·exact iha hr
  ·exact ihb hr
  ·cases hr
 |block id a iha=>
  intro x r hr
  simp only[ev]at hr ⊢
  split at hr
  ·rename_i i y hy
   obtain⟨n,hn⟩:=iha hy
   exact⟨n,by rw[hn];exact hr⟩
  ·rename_i hne
   obtain⟨n,hn⟩:=iha hr
   refine⟨n,?_⟩
   rw[hn]
   obtain⟨e,y⟩:=r
   cases e with
   |go=>rfl
   |exit i=>exact absurd hr (hne i y)
   |ret=>rfl
 |loop a iha=>
  intro x r hr
  simp only[ev]at hr ⊢
  exact yW (b:=fun n=>ev (c n) N a) (l:=ev lim N a) (fun n m x r hnm hx=>rI (h.le hnm) (aD N) a hx) (fun x r hx=>iha hx) hr
end
end Go.PM
namespace Go.PM
variable {P:Program} {B:Nat→Nat→Option Value}
inductive gr where
 |tmp (t:Nat)
 |cell (a sz:Nat) (ag:Bool)
def lw(fr:Fr)(st:St):gr→Option PV
 | .tmp t=>some (fr t)
 | .cell a sz ag=>match fr a with
  | .ptr s al=>match st.objs s with
   |some cs=>bT cs al sz ag
   |none=>none
  | .iptr cs al _=>bT cs al sz ag
  |_=>none
def ei(fr:Fr)(st:St):List gr→Option (List PV)
 | []=>some []
 |r::rs=>match lw fr st r,ei fr st rs with
  |some p,some ps=>some (p::ps)
  |_,_=>none
def b9(nk:Nat):List PV→St→List PV×St
 | [],st=>([],st)
 | .osl e sz s n::ps,st=>match st.objs s with
  |some cs=>if nk≤s∧cs.length=n*sz∧n≤dh then
    match b9 nk (ps.map (dL s)) {st.more [n]with objs:=fun k=>if k=s then none else st.objs k}with
    |(qs,st')=>(.list n cs (.own st.nx e)::qs,st')
   else match b9 nk ps st with
    |(qs,st')=>(.any::qs,st')
  |none=>match b9 nk ps st with
   |(qs,st')=>(.any::qs,st')
 |p::ps,st=>match b9 nk ps st with
  |(qs,st')=>(p::qs,st')
termination_by ps _=>ps.length
def Gh.melt(G:Gh)(s b e sz n:Nat)(us:List Value):Gh where
 com b' o:=if b'=b then us[o]? else G.com b' o
 sh b':=if b'=b then some (e,us.length)else G.sh b'
 tk t:=if t=G.nx then some (nj.room (qF.mk b n sz e n))else G.tk t
 nx:=G.nx+1
 pv b':=if b'=b then some G.nx else G.pv b'
 ob k:=if k=s then none else G.ob k
 oe k:=if k=s then none else G.oe k
 xp:=G.xp
 mb:=G.mb
section
variable {G:Gh} {st:St} {w:World}
theorem Le.melt(hI:bt P B G st w){s b e sz n:Nat}{us:List Value}(hb:G.ob s=some b):Le G (G.melt s b e sz n us):=by
 obtain⟨_,h2,h3⟩:=hI.obs s b hb
 refine⟨fun b' o v h=>?_,fun b' x h=>?_,fun t x' ht h=>?_,Nat.le_succ G.nx,fun b' k o v h hp=>?_,rfl⟩
 ·have hne:b'≠b:=by rintro rfl;rw[h2 o]at h;cases h
  simp only[Gh.melt,ad hne];exact h
 ·have hne:b'≠b:=by rintro rfl;rw[h3]at h;cases h
  simp only[Gh.melt,ad hne];exact h
 ·have hne:t≠G.nx:=by omega
  simp only[Gh.melt,ad hne]at h
  exact⟨x',h,aD _,fun _=>rfl⟩
 ·have hne:b'≠b:=by rintro rfl;rw[h2 o]at h;cases h
  simp only[Gh.melt,ad hne]at hp;exact hp
theorem bt.melt(hI:bt P B G st w){s b e sz n:Nat}{cs:List PV}{us:List Value}(hb:G.ob s=some b)(hs:st.objs s=some cs)(hh:w.heap[b]? =some (.cells us.toArray e (0,0)))(hul:us.length=n*sz)(hn:n≤dh)(hsz:fJ P e=some sz):
  bt P B (G.melt s b e sz n us) {st.more [n]with objs:=fun k=>if k=s then none else st.objs k} w:=by
 have hle:=Le.melt (e:=e) (sz:=sz) (n:=n) (us:=us) hI hb
 have hnx:=hI.nx
 obtain⟨h1,h2,h3⟩:=hI.obs s b hb
 have hml:dh≤maxLen:=by decide
 have hobk:∀ {k b'},(G.melt s b e sz n us).ob k=some b'→k≠s∧G.ob k=some b':=by
  intro k b' h
  simp only[Gh.melt]at h
  split at h
  ·cases h
  ·rename_i hk;exact⟨hk,h⟩
 have hbne:∀ {k b'},k≠s→G.ob k=some b'→b'≠b:=by
  rintro k b' hk h rfl
  exact hk (hI.obj k s _ h hb)
 have hrne:∀ {t r},G.tk t=some (.room r)→r.b≠b:=by
  rintro t r h rfl
  have:=(hI.room t r h).1
  rw[h3]at this;cases this
 have hroom:∀ {t r},(G.melt s b e sz n us).tk t=some (.room r)→(t=G.nx∧r={b:=b,cap:=n,sz:=sz,e:=e,m:=n})∨(t≠G.nx∧G.tk t=some (.room r)):=by
  intro t r h
  simp only[Gh.melt]at h
  split at h
  ·rename_i ht;cases h;exact .inl ⟨ht,rfl⟩
  ·rename_i ht;exact .inr ⟨ht,h⟩
 refine⟨fun b' o v h=>?_,fun b' e' k h=>?_,by simp[Gh.melt,St.more,hnx],fun t x h=>?_,fun t ht=>?_,fun t r h=>?_,fun t u r q h h' hb'=>?_,fun t r h=>?_,fun k c h=>?_,fun k b' h=>?_,fun k l b' h h'=>hI.obj k l b' (hobk h).2 (hobk h').2,fun k h=>?_,fun k c h=>?_,fun b' k h=>?_,hI.xpl,fun b' o v h=>?_,fun k b' e' sz' h h'=>?_,fun k es h=>?_,hI.mbs,hI.mbi,hI.nomb,fun k b' h=>?_,fun t m h=>by
  simp only[Gh.melt]at h
  split at h
  ·cases h
  ·exact hI.ful t m h⟩
 ·simp only[Gh.melt]at h
  split at h
  ·rename_i hbb;subst hbb;simp[World.cell?,hh,h]
  ·exact hI.com b' o v h
 ·simp only[Gh.melt]at h
  split at h
  ·rename_i hbb;subst hbb;cases h;exact⟨_,hh,by simp⟩
  ·exact hI.sh b' e' k h
 ·simp only[Gh.melt]at h
  split at h
  ·rename_i ht;cases h
   refine⟨by simp[St.more];omega,?_⟩
   simp[St.more,ht,hnx,nj.cnt]
  ·obtain⟨h4,h5⟩:=hI.cnt t x h
   exact⟨by simp only[St.more];omega,by simp only[St.more,ai h4];exact h5⟩
 ·by_cases h:t=G.nx
  ·exact⟨.room {b:=b,cap:=n,sz:=sz,e:=e,m:=n},by simp only[Gh.melt,ai h]⟩
  ·obtain⟨x,hx⟩:=hI.live t (by simp[St.more]at ht;omega)
   exact⟨x,by simp only[Gh.melt,ad h];exact hx⟩
 ·rcases hroom h with⟨rfl,rfl⟩|⟨ht,h⟩
  ·refine⟨by simp[Gh.melt,hul],by show n≤maxLen;omega,aD _,hsz,fun o ho=>?_,?_⟩
   ·simp only[Gh.melt,if_true]
    exact cU (by simp only at ho;omega)
   ·exact(hI.obx s b hb).2
  ·obtain⟨h4,h5,h6,h7,h8,h9⟩:=hI.room t r h
   have:=hrne h
   refine⟨by simp only[Gh.melt,ad this];exact h4,h5,h6,h7,fun o ho=>by simp only[Gh.melt,ad this];exact h8 o ho,h9⟩
 ·rcases hroom h with⟨rfl,rfl⟩|⟨ht,h⟩<;>rcases hroom h' with⟨rfl,rfl⟩|⟨hu,h'⟩
  ·rfl
  ·exact absurd hb'.symm (hrne h')
  ·exact absurd hb' (hrne h)
  ·exact hI.apart t u r q h h' hb'
 ·rcases hroom h with⟨rfl,rfl⟩|⟨ht,h⟩
  ·simp only[Gh.melt,if_true]
   exact⟨fun _=>trivial,fun j hj=>(Option.some.inj hj).symm⟩
  ·simp only[Gh.melt,ad (hrne h)]
   exact hI.priv t r h
 ·have h':(if k=s then none else st.objs k)=some c:=h
  split at h'
  ·cases h'
  ·rename_i hk
   obtain⟨b',e',vs,h4,h5,h6⟩:=hI.objs k c h'
   exact⟨b',e',vs,by simp only[Gh.melt,ad hk];exact h4,h5,h6.le hle (hI.npo k c h')⟩
 ·obtain⟨hk,h'⟩:=hobk h
  obtain⟨h4,h5,h6⟩:=hI.obs k b' h'
  have:=hbne hk h'
  exact⟨h4,fun o=>by simp only[Gh.melt,ad this];exact h5 o,by simp only[Gh.melt,ad this];exact h6⟩
 ·have h':(if k=s then none else st.objs k)=none:=h
  simp only[Gh.melt]
  split
  ·rfl
  ·rename_i hk;rw[ad hk]at h';exact hI.nob k h'
 ·have h':(if k=s then none else st.objs k)=some c:=h
  split at h'
  ·cases h'
  ·exact hI.npo k c h'
 ·simp only[Gh.melt]at h
  split at h
  ·rename_i hbb;subst hbb;exact h1
  ·exact hI.pvl b' k h
 ·obtain⟨h4,h5⟩:=hI.base b' o v h
  have hne:b'≠b:=by rintro rfl;rw[h2 o]at h4;cases h4
  simp only[Gh.melt,ad hne]
  exact⟨h4,h5⟩
 ·obtain⟨hk,h4⟩:=hobk h
  simp only[Gh.melt,ad hk]at h'
  exact hI.oes k b' e' sz' h4 h'
 ·obtain⟨b',vs,clk,h4,h5,h6,h7⟩:=hI.mobj k es h
  exact⟨b',vs,clk,h4,h5,h6.le hle h7,h7⟩
 ·obtain⟨hk,h'⟩:=hobk h
  obtain⟨h4,h5⟩:=hI.obx k b' h'
  simp only[Gh.melt,ad (hbne hk h')]
  exact⟨h4,h5⟩
theorem bV.melt{G0:Gh}{w0:World}(hI:bt P B G st w)(hS:bV G0 w0 G w){s b e sz n:Nat}{us:List Value}(hb:G.ob s=some b)(hp:w0.heap.size≤b)(h0:∀ b o v,G0.com b o=some v→b<w0.heap.size):bV G0 w0 (G.melt s b e sz n us) w:=by
 have hle:=Le.melt (e:=e) (sz:=sz) (n:=n) (us:=us) hI hb
 refine⟨⟨fun b' o v h hpn=>?_,fun b' x h=>hle.sh b' x (hS.le.sh b' x h),hS.le.xp⟩,hS.size,hS.kept,fun k b' h=>?_,fun t r h=>?_,fun b' o v h=>?_,fun b' x h=>?_,fun b' k h=>?_,hS.nearM,hS.eff⟩
 ·obtain⟨h1,h2⟩:=hS.le.com b' o v h hpn
  have hne:b'≠b:=by rintro rfl;have:=h0 _ _ _ h;omega
  exact⟨hle.com b' o v h1,by simp only[Gh.melt,ad hne];exact h2⟩
 ·simp only[Gh.melt]at h
  split at h
  ·cases h
  ·exact hS.nearO k b' h
 ·simp only[Gh.melt]at h
  split at h
  ·cases h;exact .inr hp
  ·exact hS.nearT t r h
 ·simp only[Gh.melt]at h
  split at h
  ·rename_i hbb;subst hbb;exact .inr (.inr hp)
  ·exact hS.nearC b' o v h
 ·simp only[Gh.melt]at h
  split at h
  ·rename_i hbb;subst hbb;exact .inr hp
  ·exact hS.nearS b' x h
 ·simp only[Gh.melt]at h
  split at h
  ·rename_i hbb;subst hbb;exact .inr hp
  ·exact hS.nearP b' k h
theorem HJ{G0:Gh}{w0:World}(h0:∀ b o v,G0.com b o=some v→b<w0.heap.size)(nk:Nat):∀ (k:Nat) {ps:List PV} {vs:List Value} {G:Gh} {st:St},ps.length=k→bt P B G st w→bV G0 w0 G w→(∀ s b,nk≤s→G.ob s=some b→w0.heap.size≤b)→ps.length=vs.length→(∀ (j:Nat) p v,ps[j]? =some p→vs[j]? =some v→R G p v∧bN p=true)→
  ∃ G',bt P B G' (b9 nk ps st).2 w∧Le G G'∧bV G0 w0 G' w∧(∀ s,s<nk→G'.bx s=G.bx s)∧(∀ s,s<nk→(b9 nk ps st).2.objs s=st.objs s)∧(∀ s b,nk≤s→G'.ob s=some b→w0.heap.size≤b)∧
   (b9 nk ps st).1.length=vs.length∧∀ (j:Nat) p v,(b9 nk ps st).1[j]? =some p→vs[j]? =some v→np p=true→R G' p v:=by
 intro k
 induction k with
 |zero=>
  intro ps vs G st hk hI hS hob hl hR
  have:ps=[]:=aP hk
  subst this
  rw[b9]
  exact⟨G,hI,Le.refl G,hS,fun _ _=>rfl,fun _ _=>rfl,hob,hl,fun j p v h=>by simp at h⟩
 |succ k ih=>
  intro ps vs G st hk hI hS hob hl hR
  cases ps with
  |nil=>simp at hk
  |cons p ps=>
   cases vs with
   |nil=>simp at hl
   |cons v vs=>
    have hRp:=hR 0 p v rfl rfl
    have hRt:∀ (j:Nat) p v,ps[j]? =some p→vs[j]? =some v→R G p v∧bN p=true:=fun j p v h1 h2=>hR (j+1) p v (by simpa using h1) (by simpa using h2)
    have hk':ps.length=k:=by simpa using hk
    have hl':ps.length=vs.length:=by simpa using hl
    have keep:∀ q,(∀ G',Le G G'→np q=true→R G' q v)→∃ G',bt P B G' (b9 nk ps st).2 w∧Le G G'∧bV G0 w0 G' w∧(∀ s,s<nk→G'.bx s=G.bx s)∧(∀ s,s<nk→(b9 nk ps st).2.objs s=st.objs s)∧(∀ s b,nk≤s→G'.ob s=some b→w0.heap.size≤b)∧
      (q::(b9 nk ps st).1).length=(v::vs).length∧∀ (j:Nat) p u,(q::(b9 nk ps st).1)[j]? =some p→(v::vs)[j]? =some u→np p=true→R G' p u:=by
     intro q hq
     obtain⟨G',h1,h2,h3,h4,h5,h6,h7,h8⟩:=ih hk' hI hS hob hl' hRt
     refine⟨G',h1,h2,h3,h4,h5,h6,by simp[h7],fun j p u hp hu hn=>?_⟩
     cases j with
     |zero=>simp at hp hu;subst hp;subst hu;exact hq G' h2 hn
     |succ j=>exact h8 j p u (by simpa using hp) (by simpa using hu) hn
    have plain:∃ G',bt P B G' (b9 nk ps st).2 w∧Le G G'∧bV G0 w0 G' w∧(∀ s,s<nk→G'.bx s=G.bx s)∧(∀ s,s<nk→(b9 nk ps st).2.objs s=st.objs s)∧(∀ s b,nk≤s→G'.ob s=some b→w0.heap.size≤b)∧
      (p::(b9 nk ps st).1).length=(v::vs).length∧∀ (j:Nat) q u,(p::(b9 nk ps st).1)[j]? =some q→(v::vs)[j]? =some u→np q=true→R G' q u:=
     keep p fun G' hL hn=>hRp.1.le hL (fun _=>true) (fun s h=>by cases h) hn
    cases p with
    |osl e sz s n=>
     rw[b9]
     split
     ·rename_i cs hcs
      split
      ·rename_i hc
       obtain⟨hs,hlen,hnb⟩:=hc
       cases hRp.1 with
       |osl _ _ _ _ b hb he=>
       obtain⟨e',us,hh,hRs,_⟩:=hI.box hcs hb
       obtain⟨hsz,cur,hcur⟩:=hI.oes s b e sz hb he
       rw[hh]at hcur
       cases hcur
       have hul:us.length=n*sz:=by rw[←hRs.1];exact hlen
       have hle:=Le.melt (e:=e) (sz:=sz) (n:=n) (us:=us) hI hb
       have hpb:=hob s b hs hb
       have hI1:=hI.melt hb hcs hh hul hnb hsz
       have hS1:=bV.melt (e:=e) (sz:=sz) (n:=n) (us:=us) hI hS hb hpb h0
       obtain⟨G',h1,h2,h3,h4,h5,h6,h7,h8⟩:=ih (ps:=ps.map (dL s)) (vs:=vs) (by simpa using hk') hI1 hS1 (fun k b' hk hb'=>by
        simp only[Gh.melt]at hb'
        split at hb'
        ·cases hb'
        ·exact hob k b' hk hb') (by simpa using hl') (fun j q u hq hu=>by
        rw[b7,ae]at hq
        obtain⟨q0,hq0,rfl⟩:=hq
        obtain⟨h1,h2⟩:=hRt j q0 u hq0 hu
        exact⟨(yT s h1).le hle (fun k=>decide (k=s)) (fun k hk=>by
         have hk:k≠s:=by simpa using hk
         simp[Gh.bx,Gh.melt,hk]) (AU s q0 h2),yS s h2⟩)
       refine⟨G',h1,hle.trans h2,h3,fun k hk=>?_,fun k hk=>?_,h6,by simp[h7],fun j q u hq hu hn=>?_⟩
       ·rw[h4 k hk]
        simp[Gh.bx,Gh.melt,show k≠s by omega]
       ·rw[h5 k hk]
        simp[show k≠s by omega]
       ·cases j with
        |zero=>
         simp at hq hu;subst hq;subst hu
         have hRs1:=hRs.le hle (hI.npo s cs hcs)
         have hR1:R (G.melt s b e sz n us) (.list n cs (.own G.nx e)) (.slice (some ⟨b,0,none⟩) n n):=by
          refine .list n cs _ b 0 n us (aD _) hRs1.1 (fun j u hu=>?_) hRs1.2.1 hRs1.2.2 ⟨by simp[Gh.melt],fun x hx=>?_⟩ (fun k _ hk=>?_) (fun _ _=>(hI.obx s b hb).2)
          ·simp only[Gh.melt,bg,if_true];exact hu
          ·simp only[Gh.melt,if_true]at hx
           cases hx
           exact⟨aD _,fun _=>⟨rfl,rfl,rfl,rfl,hul⟩⟩
          ·simp only[Gh.melt,if_true]at hk
           exact hk
         rw[hI.nx]at hR1
         exact hR1.le h2 (fun _=>true) (fun s h=>by cases h) hn
        |succ j=>exact h8 j q u (by simpa using hq) (by simpa using hu) hn
      ·exact keep .any fun G' _ _=> .any v
     ·exact keep .any fun G' _ _=> .any v
    |any=>rw[b9];exact plain;all_goals (intros;simp_all)
    |hole=>rw[b9];exact plain;all_goals (intros;simp_all)
    |int _ _=>rw[b9];exact plain;all_goals (intros;simp_all)
    |bool _=>rw[b9];exact plain;all_goals (intros;simp_all)
    |str _=>rw[b9];exact plain;all_goals (intros;simp_all)
    |nilp=>rw[b9];exact plain;all_goals (intros;simp_all)
    |nili=>rw[b9];exact plain;all_goals (intros;simp_all)
    |err=>rw[b9];exact plain;all_goals (intros;simp_all)
    |agg _=>rw[b9];exact plain;all_goals (intros;simp_all)
    |tup _=>rw[b9];exact plain;all_goals (intros;simp_all)
    |list _ _ _=>rw[b9];exact plain;all_goals (intros;simp_all)
    |ptr _ _=>rw[b9];exact plain;all_goals (intros;simp_all)
    |mp _=>rw[b9];exact plain;all_goals (intros;simp_all)
    |iptr _ _ _=>rw[b9];exact plain;all_goals (intros;simp_all)
    |fn _ _=>rw[b9];exact plain;all_goals (intros;simp_all)
def Gh.rest(G:Gh)(nk:Nat):Gh:={G with ob:=fun k=>if k<nk then G.ob k else none,oe:=fun k=>if k<nk then G.oe k else none,mb:=fun _=>none}
theorem Le.rest(G:Gh)(nk:Nat):Le G (G.rest nk):=⟨fun _ _ _ h=>h,fun _ _ h=>h,fun _ x' _ h=>⟨x',h,aD _,fun _=>rfl⟩,aD _,fun _ _ _ _ _ h=>h,rfl⟩
theorem bt.rest(hI:bt P B G st w)(nk:Nat):bt P B (G.rest nk) {st with objs:=fun k=>if k<nk then st.objs k else none,maps:=fun _=>none} w:=by
 have hle:=Le.rest G nk
 have hobk:∀ {k b},(G.rest nk).ob k=some b→k<nk∧G.ob k=some b:=by
  intro k b h
  simp only[Gh.rest]at h
  split at h
  ·rename_i hk;exact⟨hk,h⟩
  ·cases h
 have hobj:∀ {k c},(if k<nk then st.objs k else none)=some c→k<nk∧st.objs k=some c:=by
  intro k c h
  split at h
  ·rename_i hk;exact⟨hk,h⟩
  ·cases h
 refine⟨hI.com,hI.sh,hI.nx,hI.cnt,hI.live,hI.room,hI.apart,hI.priv,fun k c h=>?_,fun k b h=>hI.obs k b (hobk h).2,fun k l b h h'=>hI.obj k l b (hobk h).2 (hobk h').2,fun k h=>?_,fun k c h=>hI.npo k c (hobj h).2,hI.pvl,hI.xpl,hI.base,fun k b e sz h h'=>?_,
  fun k es h=>(by cases h),fun k b h=>(by cases h),fun k l b h=>(by cases h),fun k h=>rfl,fun k b h=>hI.obx k b (hobk h).2,hI.ful⟩
 ·obtain⟨hk,hc⟩:=hobj h
  obtain⟨b,e,vs,hb,hh,hR⟩:=hI.objs k c hc
  exact⟨b,e,vs,by simp only[Gh.rest,ai hk];exact hb,hh,hR.le hle (hI.npo k c hc)⟩
 ·simp only[Gh.rest]
  split
  ·rename_i hk
   simp only[ai hk]at h
   exact hI.nob k h
  ·rfl
 ·obtain⟨hk,h1⟩:=hobk h
  simp only[Gh.rest,ai hk]at h'
  exact hI.oes k b e sz h1 h'
theorem bV.rest{G0:Gh}{w0:World}(hS:bV G0 w0 G w)(nk:Nat):bV G0 w0 (G.rest nk) w:=by
 refine⟨⟨hS.le.com,hS.le.sh,hS.le.xp⟩,hS.size,hS.kept,fun k b h=>?_,hS.nearT,hS.nearC,hS.nearS,hS.nearP,fun s b h=>(by cases h),hS.eff⟩
 simp only[Gh.rest]at h
 split at h
 ·exact hS.nearO k b h
 ·cases h
end
def Gh.shut(G:Gh)(l:List Nat):Gh:=
 {G with tk:=fun t=>(l[t]?).bind G.tk,nx:=l.length,pv:=fun b=>(G.pv b).bind (bG l)}
theorem Cw(G:Gh)(l:List Nat):Rn (bG l) (fun _=>false) false G (G.shut l) where
 com b o v h _:=h
 sh b x h:=h
 tk k k' h _ hlt:=by
  have hg:=rc h
  refine⟨(a8.1 hg).1,fun x' hx'=>?_⟩
  simp only[Gh.shut,hg,dr]at hx'
  exact⟨x',hx',aD _,fun _=>rfl⟩
 pv b k' o v _ _ h:=by
  simp only[Gh.shut,bp]at h
  obtain⟨k,h1,h2⟩:=h
  exact .inl ⟨k,h1,h2⟩
 xp b o v _ _ h:= .inl h
section
variable {G:Gh} {st:St} {w:World}
theorem bt.shut(hI:bt P B G st w){ts:List (Nat×Nat)}(hts:wt st ts)(hmaps:st.maps=fun _=>none){cs:List (List PV)}(hobj:∀ k,st.objs k=cs[k]?)(sw:Bool):
  bt P B (G.shut (ts.map (·.1))) (cF (ts.map (·.2)) (cs.map (bB (bG (ts.map (·.1))) sw))) w:=by
 generalize hl:ts.map (·.1)=l at*
 have hJn:l.Nodup:=by rw[←hl];exact hts.1
 have hlen:l.length=ts.length:=by rw[←hl];simp
 have hJk:∀ {t k:Nat},l[t]? =some k→k<st.nx∧(ts.map (·.2)).getD t 0=st.cnt k∧st.fl≤k∧t<ts.length:=fun h=>vA hts (by rw[hl];exact h)
 have htk:∀ {t x},(G.shut l).tk t=some x→∃ k,l[t]? =some k∧G.tk k=some x:=by
  intro t x h
  simpa only[Gh.shut,bp]using h
 have hobjR:∀ {k c},(cF (ts.map (·.2)) (cs.map (bB (bG l) sw))).objs k=some c→∃ c0,st.objs k=some c0∧c=bB (bG l) sw c0:=by
  intro k c h
  simp only[cF,b7,ae]at h
  obtain⟨c0,h1,h2⟩:=h
  exact⟨c0,by rw[hobj k,h1],h2.symm⟩
 refine⟨hI.com,hI.sh,by simp[Gh.shut,cF,hlen],fun t x h=>?_,fun t h=>?_,fun t r h=>?_,fun t u r q h1 h2 hb=>?_,fun t r h=>?_,fun k c h=>?_,hI.obs,hI.obj,fun k h=>?_,fun k c h=>?_,fun b k h=>?_,hI.xpl,fun b o v h=>?_,hI.oes,fun s es h=>(by cases h),fun s b h=>?_,hI.mbi,fun s _=>?_,fun s b h=>?_,fun t m h=>by obtain⟨k,hk,hx⟩:=htk h;exact hI.ful k m hx⟩
 ·obtain⟨k,hk,hx⟩:=htk h
  obtain⟨h1,h2,_,h4⟩:=hJk hk
  refine⟨by simpa [cF]using h4,?_⟩
  simp only[cF]
  rw[h2,(hI.cnt k x hx).2]
 ·have hlt:t<l.length:=by simpa [cF,hlen]using h
  have hk:l[t]? =some l[t]:=az hlt
  obtain⟨x,hx⟩:=hI.live _ (hJk hk).1
  exact⟨x,by simp only[Gh.shut,hk,dr];exact hx⟩
 ·obtain⟨k,hk,hx⟩:=htk h
  exact hI.room k r hx
 ·obtain⟨k,hk,hx⟩:=htk h1
  obtain⟨k',hk',hy⟩:=htk h2
  have:=hI.apart k k' r q hx hy hb
  subst this
  exact q7 hJn hk hk'
 ·obtain⟨k,hk,hx⟩:=htk h
  have hp:=(hI.priv k r hx).1 (hJk hk).2.2.1
  have hpi:(G.shut l).pv r.b=some t:=by simp only[Gh.shut,hp,dr];exact v7 hJn hk
  rw[hpi]
  exact⟨fun _=>rfl,fun j hj=>(Option.some.inj hj).symm⟩
 ·obtain⟨c0,hc0,rfl⟩:=hobjR h
  obtain⟨b,e,vs,hb,hh,hR⟩:=hI.objs k c0 hc0
  exact⟨b,e,vs,hb,hh,hR.ren (Cw G l) (hI.npo k c0 hc0) (io c0) (by simp)⟩
 ·simp only[cF,b7,dN]at h
  exact hI.nob k (by rw[hobj k,h])
 ·obtain⟨c0,hc0,rfl⟩:=hobjR h
  exact n7 (hI.npo k c0 hc0)
 ·simp only[Gh.shut,bp]at h
  obtain⟨k',h1,_⟩:=h
  exact hI.pvl b k' h1
 ·obtain⟨h1,h2,h3⟩:=hI.base b o v h
  exact⟨h1,by simp[Gh.shut,h2],h3⟩
 ·exact hI.mbs s b h
 ·exact hI.nomb s (by rw[hmaps])
 ·obtain⟨h1,h2⟩:=hI.obx s b h
  exact⟨by simp[Gh.shut,h1],h2⟩
theorem bV.shut{G0:Gh}{w0:World}(hS:bV G0 w0 G w)(l:List Nat):bV G0 w0 (G.shut l) w:=by
 refine⟨⟨fun b o v h hp=>?_,hS.le.sh,hS.le.xp⟩,hS.size,hS.kept,hS.nearO,fun t r h=>?_,hS.nearC,hS.nearS,fun b k h=>?_,hS.nearM,hS.eff⟩
 ·obtain⟨h1,h2⟩:=hS.le.com b o v h hp
  exact⟨h1,by simp[Gh.shut,h2]⟩
 ·simp only[Gh.shut,bp]at h
  obtain⟨k,_,h2⟩:=h
  exact hS.nearT k r h2
 ·simp only[Gh.shut,bp]at h
  obtain⟨k',h1,_⟩:=h
  exact hS.nearP b k' h1
end
def iU(cs:List (List PV)):List (Nat×Nat):=cs.flatMap aw
def jr(own:Bool)(st:St)(r:PV)(cs:List (List PV)):PV×List Nat×List (List PV):=
 if own && oP ((aq r++iU cs).map (·.1)) && (aq r++iU cs).all (qZ st)then(ren (bG ((aq r++iU cs).map (·.1))) false r,(aq r++iU cs).map (·.2),cs.map (bB (bG ((aq r++iU cs).map (·.1))) false))
 else(aA r,[],cs.map aB)
structure bn where
 nt:Nat
 nk:Nat
 body:CC
 res:List gr
 own:Bool
def eq:List PV→PV
 | [p]=>p
 |ps=> .tup ps
def ge(F:bn)(n:Nat)(fr:Fr)(st:St):Option (PV×List Nat×List (List PV)):=
 match ei fr st F.res,cE st (List.range n)with
 |some vs,some cs=>if np (eq (b9 F.nk vs st).1) && cs.all aG then some (jr F.own (b9 F.nk vs st).2 (eq (b9 F.nk vs st).1) cs)else none
 |_,_=>none
def eP(as:List PV):Fr:=fun t=>(as[t]?).getD .hole
def ff(cf:au)(N:Nat)(F:bn)(as:List PV)(ns:List Nat)(cs:List (List PV)):Option (PV×List Nat×List (List PV)):=
 if as.length≤F.nt∧cs.length≤F.nk then
  match ev cf N F.body (eP as,cF ns cs)with
  |some (.go,y)=>ge F cs.length y.1 y.2
  |some (.ret,y)=>ge F cs.length y.1 y.2
  |_=>none
 else none
def uK(P:Program):ResultVar→Option gr
 | .tmp t=>some (.tmp t)
 | .cell a t=>match fJ P t,pB P t with
  |some sz,some ag=>some (.cell a sz ag)
  |_,_=>none
def ip(P:Program):List ResultVar→Option (List gr)
 | []=>some []
 |r::rs=>match uK P r,ip P rs with
  |some c,some cs=>some (c::cs)
  |_,_=>none
def oM(tmps:Array Value):ResultVar→Sem Value
 | .tmp t=>pure (tmps.getD t undef)
 | .cell a t=>do loadVar t (←asAddr (tmps.getD a undef))
section
variable {G:Gh} {nt:Nat} {fr:Fr} {st:St} {w:World} {a:Act}
theorem DN(hI:bt P B G st w)(hF:dZ G nt fr a){r:ResultVar}{c:gr}(hc:uK P r=some c){p:PV}(hp:lw fr st c=some p):∃ v,(oM a.tmps r).run P w= .ok v w∧R G p v∧bN p=true:=by
 cases r with
 |tmp t=>
  simp only[uK,aZ]at hc
  subst hc
  simp only[lw,aZ]at hp
  subst hp
  exact⟨_,rfl,hF.2.1 t,hF.2.2 t⟩
 |cell x t=>
  simp only[uK]at hc
  split at hc
  ·rename_i sz ag hs hg
   simp only[aZ]at hc
   subst hc
   have hR:=hF.2.1 x
   have ht:=hF.2.2 x
   simp only[lw]at hp
   generalize hv:a.tmps.getD x undef=xv at hR
   split at hp
   ·rename_i s al e
    rw[e]at hR
    split at hp
    ·rename_i cs hcs
     cases hR with
     |ptr _ _ b hb=>
     obtain⟨e',us,hh,hRs,hcell⟩:=hI.box hcs hb
     obtain⟨v,hrun,hRv⟩:=ou (P:=P) (w:=w) (o:=0) hs hg hRs.1 hRs.2.1 hRs.2.2 hcell hp
     rw[bg]at hrun
     refine⟨v,?_,hRv,ek (pX (hI.npo _ _ hcs) hp)⟩
     simp only[oM,hv]
     simp[asAddr,hrun]
    ·cases hp
   ·rename_i cs al tk e
    rw[e]at hR ht
    cases hR with
    |iptr _ _ _ b o us hl hcm hr h1 _ _ _=>
    obtain⟨v,hrun,hRv⟩:=ou (P:=P) (w:=w) hs hg hl hr h1 (fun j u hu=>hI.com _ _ _ (hcm j u hu)) hp
    refine⟨v,?_,hRv,ek (pX (qK ht) hp)⟩
    simp only[oM,hv]
    simp[asAddr,hrun]
   ·cases hp
  ·cases hc
theorem Ao(hI:bt P B G st w)(hF:dZ G nt fr a):∀ {rs:List ResultVar} {cs:List gr},ip P rs=some cs→∀ {ps:List PV},ei fr st cs=some ps→
  ∃ vs:List Value,(rs.mapM (oM a.tmps)).run P w= .ok vs w∧ps.length=vs.length∧∀ (j:Nat) p v,ps[j]? =some p→vs[j]? =some v→R G p v∧bN p=true
 | [],cs,hc,ps,hp=>by
  simp only[ip,aZ]at hc
  subst hc
  simp only[ei,aZ]at hp
  subst hp
  exact⟨[],rfl,rfl,fun j p v h=>by simp at h⟩
 |r::rs,cs,hc,ps,hp=>by
  simp only[ip]at hc
  split at hc
  ·rename_i c cs' h1 h2
   simp only[aZ]at hc
   subst hc
   simp only[ei]at hp
   split at hp
   ·rename_i p ps' h3 h4
    simp only[aZ]at hp
    subst hp
    obtain⟨v,hv,hR,ht⟩:=DN hI hF h1 h3
    obtain⟨vs,hvs,hl,hRs⟩:=Ao hI hF h2 h4
    refine⟨v::vs,?_,by simp[hl],fun j q u hq hu=>?_⟩
    ·simp[List.mapM_cons,hv,hvs]
    ·cases j with
     |zero=>simp at hq hu;subst hq;subst hu;exact⟨hR,ht⟩
     |succ j=>exact hRs j q u (by simpa using hq) (by simpa using hu)
   ·cases hp
  ·cases hc
theorem pf(fn:Func)(tmps:Array Value):results fn tmps=(do
  let vs←fn.results.mapM (oM tmps)
  pure (if h:vs.size=1 then vs[0]else .tuple vs)):=by
 unfold results
 congr 1
end
def rL(P:Program)(M:Nat→List Nat)(nk:Nat)(own:Bool)(f:Nat):Option bn:=
 match P.funcs[f]? with
 |some fn=>
  if fn.name= "runtime.NumGoroutine" then none else
  match fn.body with
  |some c=>match ft P M fn.ntmps nk c,ip P fn.results.toList with
   |some b,some rs=>some {nt:=fn.ntmps,nk:=nk,body:=b,res:=rs,own:=own}
   |_,_=>none
  |none=>none
 |none=>none
theorem zo{M:Nat→List Nat}{nk:Nat}{own:Bool}{f:Nat}{F:bn}(h:rL P M nk own f=some F):
  ∃ fn c,P.funcs[f]? =some fn∧fn.name≠ "runtime.NumGoroutine" ∧fn.body=some c∧F.nt=fn.ntmps∧ft P M F.nt F.nk c=some F.body∧ip P fn.results.toList=some F.res:=by
 unfold rL at h
 split at h
 ·rename_i fn hfn
  split at h
  ·cases h
  ·rename_i hname
   split at h
   ·rename_i c hc
    split at h
    ·rename_i b rs hb hrs
     cases h
     exact⟨fn,c,hfn,hname,hc,rfl,hb,hrs⟩
    ·cases h
   ·cases h
 ·cases h
theorem tZ{st:St}{n:Nat}{cs:List (List PV)}(h:cE st (List.range n)=some cs):cs.length=n∧∀ k,k<n→st.objs k=cs[k]? :=by
 obtain⟨h1,h2⟩:=kL h
 refine⟨by simpa using h1.symm,fun k hk=>h2 k k ?_⟩
 simp[hk]
section
variable {cf:au}
theorem CS{G:Gh}{nt:Nat}{as:List PV}{vs:List Value}(hl:as.length=vs.length)(hle:as.length≤nt)(hR:∀ (j:Nat) p v,as[j]? =some p→vs[j]? =some v→R G p v∧bN p=true):
  dZ G nt (eP as) {tmps:=vs.toArray++Array.replicate (nt-vs.toArray.size) undef,defers:=[]}:=by
 refine⟨by simp;omega,fun t=>?_,fun t=>?_⟩
 ·rw[bo]
  unfold eP
  by_cases ht:t<as.length
  ·have h1:as[t]? =some as[t]:=az ht
   have h2:vs[t]? =some (vs[t]'(by omega)):=az (by omega)
   rw[ir (by simp;omega)]
   simp only[gw,h1,h2,Option.getD_some]
   exact(hR t _ _ h1 h2).1
  ·rw[cU (by omega),Array.getElem?_append_right (by simp;omega),jf]
   simp only[Option.getD_none]
   split<;>exact .hole
 ·unfold eP
  cases h:as[t]? with
  |none=>rfl
  |some p=>
   have ht:=(a8.1 h).1
   exact(hR t p _ h (az (by omega))).2
theorem BT(own:Bool)(st:St)(r:PV)(cs:List (List PV))(hr:np r=true)(hc:∀ c∈cs,aG c=true):np (jr own st r cs).1=true∧(jr own st r cs).2.2.length=cs.length∧∀ c∈(jr own st r cs).2.2,aG c=true:=by
 unfold jr
 split
 ·refine⟨by simp only[np,fC];exact hr,by simp,fun c h=>?_⟩
  obtain⟨c0,h0,rfl⟩:=cq.1 h
  exact n7 (hc c0 h0)
 ·refine⟨by simp only[np,aA,fC];exact hr,by simp,fun c h=>?_⟩
  obtain⟨c0,h0,rfl⟩:=cq.1 h
  exact wZ (hc c0 h0)
theorem t7{F:bn}{n:Nat}{fr:Fr}{st:St}{r:PV}{ns:List Nat}{cs':List (List PV)}(h:ge F n fr st=some (r,ns,cs')):cs'.length=n∧np r=true∧∀ c∈cs',aG c=true:=by
 unfold ge at h
 split at h
 ·rename_i ps cs hps hcs
  split at h
  ·rename_i hnp
   simp only[aa]at hnp
   obtain⟨hnp,hall⟩:=hnp
   simp only[aZ]at h
   obtain⟨h1,h2,h3⟩:=BT F.own (b9 F.nk ps st).2 _ cs hnp (fun c hc=>(aU.1 hall) c hc)
   rw[h]at h1 h2 h3
   exact⟨by rw[h2,(tZ hcs).1],h1,h3⟩
  ·cases h
 ·cases h
theorem t6{F:bn}{fn:Func}(hres:ip P fn.results.toList=some F.res){G0 G:Gh}{ns0:List Nat}{cs0:List (List PV)}{st:St}{w0 w:World}{fr:Fr}{a:Act}(hcs0:cs0.length≤F.nk)(hI0:bt P B G0 (cF ns0 cs0) w0)
  (hI:bt P B G st w) (hS:bV G0 w0 G w) (hF:dZ G F.nt fr a) (hk:∀ s,F.nk≤s∨G.bx s=G0.bx s) {r:PV} {ns:List Nat} {cs':List (List PV)} (h:ge F cs0.length fr st=some (r,ns,cs')):
  ∃ v G',(results fn a.tmps).run P w= .ok v w∧R G' r v∧bt P B G' (cF ns cs') w∧bV G0 w0 G' w∧G'.ob=G0.ob∧∀ k,k<cs0.length→G'.oe k=G0.oe k:=by
 unfold ge at h
 split at h
 ·rename_i ps cs hps hcs
  split at h
  ·rename_i hnp
   simp only[aa]at hnp
   obtain⟨hnp,_⟩:=hnp
   simp only[aZ]at h
   obtain⟨vs,hvs,hlv,hRv⟩:=Ao hI hF hres hps
   obtain⟨hlc,hgc⟩:=tZ hcs
   have h0:∀ b o v,G0.com b o=some v→b<w0.heap.size:=fun b o v h=>by
    have:=World.block_lt_of_cell? w0 _ (hI0.com b o v h);simpa using this
   have hob0:∀ k,cs0.length≤k→G0.ob k=none:=fun k hk=>hI0.nob k (by simp only[cF];exact cU hk)
   have hpast:∀ s b,F.nk≤s→G.ob s=some b→w0.heap.size≤b:=by
    intro s b hs hsb
    rcases hS.nearO s b hsb with⟨u,hu⟩|h
    ·exfalso
     have hulen:u<cs0.length:=by
      rcases Nat.lt_or_ge u cs0.length with h|h
      ·exact h
      ·rw[hob0 u h]at hu;cases hu
     have hGu:G.ob u=some b:=by
      rcases hk u with h|h
      ·omega
      ·rw[jW h,hu]
     have:=hI.obj s u b hsb hGu
     omega
    ·exact h
   obtain⟨G1,hI1,hL1,hS1,hb1,ho1,_,hl1,hR1⟩:=HJ h0 F.nk ps.length rfl hI hS hpast hlv hRv
   generalize hm:b9 F.nk ps st=m at*
   obtain⟨qs,st1⟩:=m
   simp only at h hnp hI1 ho1 hl1 hR1
   have hI2:=hI1.rest F.nk
   have hL2:=Le.rest G1 F.nk
   have hS2:=hS1.rest F.nk
   generalize hq:eq qs=q at h hnp
   have hval:∃ v,(results fn a.tmps).run P w= .ok v w∧R (G1.rest F.nk) q v:=by
    have hrun:(fn.results.mapM (oM a.tmps)).run P w= .ok vs.toArray w:=by
     rw[Array.mapM_eq_mapM_toList]
     simp[hvs]
    have hR':∀ (j:Nat) p v,qs[j]? =some p→vs[j]? =some v→np p=true→R (G1.rest F.nk) p v:=fun j p v hp hv hn=>
     (hR1 j p v hp hv hn).le hL2 (fun _=>true) (fun s h=>by cases h) hn
    cases qs with
    |nil=>
     have hv0:vs=[]:=aP (by simpa using hl1.symm)
     subst hv0
     simp only[eq]at hq
     subst hq
     exact⟨.tuple #[],by rw[pf];simp[hrun],.tup [] [] rfl fun j p u hp=>by simp at hp⟩
    |cons p qs=>
     cases qs with
     |nil=>
      obtain⟨v,rfl⟩:∃ v,vs=[v]:=by
       cases vs with
       |nil=>simp at hl1
       |cons v vs=>cases vs with
        |nil=>exact⟨v,rfl⟩
        |cons u vs=>simp at hl1
      simp only[eq]at hq
      subst hq
      exact⟨v,by rw[pf];simp[hrun],hR' 0 _ _ rfl rfl hnp⟩
     |cons p' qs=>
      have hq':q= .tup (p::p'::qs):=hq.symm
      subst hq'
      have hnps:aG (p::p'::qs)=true:=by simpa [np,al,aG]using hnp
      refine⟨.tuple vs.toArray,?_,.tup _ vs hl1 fun j q' u hq' hu=>hR' j q' u hq' hu (gX hnps hq')⟩
      rw[pf]
      have:¬vs.length=1:=by simp at hl1;omega
      simp[hrun,this]
   obtain⟨v,hrunv,hRq⟩:=hval
   have hobj:∀ k,(if k<F.nk then st1.objs k else none)=cs[k]? :=by
    intro k
    by_cases hkn:k<cs0.length
    ·rw[ai (by omega),ho1 k (by omega)];exact hgc k hkn
    ·rw[cU (by omega)]
     split
     ·rename_i hk1
      rw[ho1 k hk1]
      have h0:G0.ob k=none:=hob0 k (by omega)
      have h1:G.ob k=none:=by
       rcases hk k with h|h
       ·omega
       ·rw[jW h,h0]
      cases hso:st.objs k with
      |none=>rfl
      |some c=>
       obtain⟨b,_,_,hb,_⟩:=hI.objs k c hso
       rw[h1]at hb;cases hb
     ·rfl
   have hobF:∀ l,((G1.rest F.nk).shut l).ob=G0.ob∧∀ k,k<cs0.length→((G1.rest F.nk).shut l).oe k=G0.oe k:=by
    intro l
    have key:∀ k,k<F.nk→G1.bx k=G0.bx k:=fun k hlt=>by
     rw[hb1 k hlt]
     rcases hk k with h|h
     ·omega
     ·exact h
    refine⟨funext fun k=>?_,fun k hkc=>?_⟩
    ·show(if k<F.nk then G1.ob k else none)=G0.ob k
     split
     ·rename_i hlt;exact jW (key k hlt)
     ·exact(hob0 k (by omega)).symm
    ·show(if k<F.nk then G1.oe k else none)=G0.oe k
     rw[ai (by omega)]
     exact xK (key k (by omega))
   have finishG:∀ (ts:List (Nat×Nat)),wt st1 ts→∀ sw,R ((G1.rest F.nk).shut (ts.map (·.1))) (ren (bG (ts.map (·.1))) sw q) v∧bt P B ((G1.rest F.nk).shut (ts.map (·.1))) (cF (ts.map (·.2)) (cs.map (bB (bG (ts.map (·.1))) sw))) w∧bV G0 w0 ((G1.rest F.nk).shut (ts.map (·.1))) w:=by
    intro ts h1 sw
    exact⟨hRq.ren (Cw _ _) (fun _=>true) (fun s hs=>by cases hs) hnp (j9 q) (by simp),hI2.shut h1 rfl hobj sw,hS2.shut _⟩
   unfold jr at h
   split at h
   ·rename_i hb
    simp only[aa]at hb
    obtain⟨⟨_,hb1⟩,hb2⟩:=hb
    simp only[bE]at h
    obtain⟨rfl,rfl,rfl⟩:=h
    obtain⟨f1,f2,f3⟩:=finishG (aq q++iU cs) (Cm hb1 hb2) false
    exact⟨v,_,hrunv,f1,f2,f3,(hobF _).1,(hobF _).2⟩
   ·simp only[bE]at h
    obtain⟨rfl,rfl,rfl⟩:=h
    obtain⟨f1,f2,f3⟩:=finishG [] ⟨iR,fun x hx=>by cases hx⟩ true
    exact⟨v,_,hrunv,f1,f2,f3,(hobF _).1,(hobF _).2⟩
  ·cases h
 ·cases h
def M2(P:Program)(B:Nat→Nat→Option Value)(f:Nat)(T:List PV→List Nat→List (List PV)→Option (PV×List Nat×List (List PV))):Prop:=∀ as ns cs r rs cs',T as ns cs=some (r,rs,cs')→
 kZ P f∧cs'.length=cs.length∧np r=true∧(∀ c∈cs',aG c=true)∧
 ∀ G w (vs:List Value),bt P B G (cF ns cs) w→as.length=vs.length→(∀ (j:Nat) p v,as[j]? =some p→vs[j]? =some v→R G p v∧bN p=true)→
  Calls P f vs.toArray w fun e w'=>∃ v G',e= .returned v∧R G' r v∧bt P B G' (cF rs cs') w'∧bV G w G' w'∧G'.ob=G.ob∧∀ k,k<cs.length→G'.oe k=G.oe k
theorem H5{M:Nat→List Nat}(hcf:gU P B cf)(hmix:P.follows .mixedOrders=true)(N:Nat){nk:Nat}{own:Bool}{f:Nat}{F:bn}(hc:rL P M nk own f=some F):M2 P B f (ff cf N F):=by
 obtain⟨fn,c,hfn,hname,hbody,hnt,hcode,hres⟩:=zo hc
 intro as ns0 cs r ns cs' h
 have hE:kZ P f:=⟨fn,hfn,hname,by rw[hbody];rfl⟩
 unfold ff at h
 split at h
 ·rename_i hb
  obtain⟨hb1,hb2⟩:=hb
  have key:∃ e y,ev cf N F.body (eP as,cF ns0 cs)=some (e,y)∧(e= .go∨e= .ret)∧ge F cs.length y.1 y.2=some (r,ns,cs'):=by
   split at h
   ·rename_i y hy;exact⟨.go,y,hy,.inl rfl,h⟩
   ·rename_i y hy;exact⟨.ret,y,hy,.inr rfl,h⟩
   ·cases h
  obtain⟨e,y,hev,he,hfin⟩:=key
  obtain⟨h1,h2,h3⟩:=t7 hfin
  refine⟨hE,h1,h2,h3,fun G w vs hI hl hR=>?_⟩
  refine calls_of_wp hfn hbody ?_
  rw[←hnt]
  refine xC hcf hmix N c hcode hev hI (CS hl hb1 hR) fun a' w' G' hI' hS' hF' hd' hk'=>?_
  obtain⟨v,G2,hrun,hR2,hI2,hS2,hob2⟩:=t6 hres hb2 hI hI' hS' hF' hk' hfin
  rcases he with rfl|rfl
  ·exact⟨hd'.1,v,hrun,v,G2,rfl,hR2,hI2,hS2,hob2⟩
  ·exact⟨hd'.1,v,hrun,v,G2,rfl,hR2,hI2,hS2,hob2⟩
 ·cases h
def uL(P:Program)(M:Nat→List Nat)(f:Nat):Option bn:=
 match rL P M 0 true f with
 |some F=>if oA M=true∧F.res.length=1∧f<1000000 then some {F with res:=F.res++[.tmp 0]}else none
 |none=>none
theorem sZ:∀ {rs:List ResultVar} {cs:List gr},ip P rs=some cs→ip P (rs++[.tmp 0])=some (cs++[.tmp 0])∧rs.length=cs.length
 | [],cs,h=>by simp only[ip,aZ]at h;subst h;exact⟨rfl,rfl⟩
 |r::rs,cs,h=>by
  simp only[ip]at h
  split at h
  ·rename_i c cs' h1 h2
   simp only[aZ]at h
   subst h
   obtain⟨h3,h4⟩:=sZ h2
   exact⟨by simp only[aM,ip,h1,h3],by simp[h4]⟩
  ·cases h
theorem Aw{fn:Func}(h1:fn.results.size=1){tmps:Array Value}{w:World}{v:Value}(h:(results {fn with results:=fn.results.push (.tmp 0)} tmps).run P w= .ok v w):
  ∃ u,(results fn tmps).run P w= .ok u w∧v= .tuple #[u,tmps.getD 0 undef]:=by
 obtain⟨r0,hr0⟩:∃ r0,fn.results= #[r0]:=by
  cases hl:fn.results with
  |mk l=>
   rw[hl]at h1
   match l,h1 with
   | [r0],_=>exact⟨r0,rfl⟩
 rw[pf]at h ⊢
 simp only[hr0]at h ⊢
 rw[Array.mapM_eq_mapM_toList]at h ⊢
 have h00:oM tmps (.tmp 0)=pure (tmps.getD 0 undef):=rfl
 simp only[List.push_toArray,List.mapM_cons,List.mapM_nil,aM,bf,h00]at h ⊢
 generalize oM tmps r0=X at h ⊢
 cases hr:X.run P w with
 |ok u w1=>
  simp[hr]at h ⊢
  obtain⟨h2,h3⟩:=h
  subst h3
  exact⟨u,by simp,h2.symm⟩
 |_=>simp[hr]at h
theorem FZ{M:Nat→List Nat}(hcf:gU P B cf)(hmix:P.follows .mixedOrders=true)(N:Nat){f:Nat}{F:bn}(hc:uL P M f=some F){as:List PV}{ns0:List Nat}{cs:List (List PV)}{r:PV}{ns:List Nat}{cs':List (List PV)}(h:ff cf N F as ns0 cs=some (r,ns,cs')):
  kZ P (nH (gx f))∧cs'.length=cs.length∧np r=true∧(∀ c∈cs',aG c=true)∧
  ∀ G w (vs:List Value),bt P B G (cF ns0 cs) w→as.length=vs.length→(∀ (j:Nat) p v,as[j]? =some p→vs[j]? =some v→R G p v∧bN p=true)→
   Calls P (nH (gx f)) vs.toArray w fun e w'=>∃ v G',nP (gx f) vs v e∧R G' r v∧bt P B G' (cF ns cs') w'∧bV G w G' w'∧G'.ob=G.ob∧∀ k,k<cs.length→G'.oe k=G.oe k:=by
 unfold uL at hc
 split at hc
 ·rename_i F0 hc0
  split at hc
  ·rename_i hk
   obtain⟨hkp,hr1,hf6⟩:=hk
   cases hc
   obtain⟨fn,c,hfn,hname,hbody,hnt,hcode,hres⟩:=zo hc0
   obtain⟨hresp,hlen⟩:=sZ hres
   have hE:kZ P f:=⟨fn,hfn,hname,by rw[hbody];rfl⟩
   rw[zf hf6]
   unfold ff at h
   split at h
   ·rename_i hb
    obtain⟨hb1,hb2⟩:=hb
    have key:∃ e y,ev cf N F0.body (eP as,cF ns0 cs)=some (e,y)∧(e= .go∨e= .ret)∧ge {F0 with res:=F0.res++[.tmp 0]} cs.length y.1 y.2=some (r,ns,cs'):=by
     split at h
     ·rename_i y hy;exact⟨.go,y,hy,.inl rfl,h⟩
     ·rename_i y hy;exact⟨.ret,y,hy,.inr rfl,h⟩
     ·cases h
    obtain⟨e,y,hev,he,hfin⟩:=key
    obtain⟨h1,h2,h3⟩:=t7 hfin
    refine⟨hE,h1,h2,h3,fun G w vs hI hl hR=>?_⟩
    refine calls_of_wp hfn hbody ?_
    rw[←hnt]
    refine xC hcf hmix N c hcode hev hI (CS hl hb1 hR) fun a' w' G' hI' hS' hF' hd' hk'=>?_
    obtain⟨v,G2,hrun,hR2,hI2,hS2,hob2⟩:=t6 (fn:={fn with results:=fn.results.push (.tmp 0)}) (F:={F0 with res:=F0.res++[.tmp 0]}) (by simpa using hresp) hb2 hI hI' hS' hF' hk' hfin
    obtain⟨u,hu,hv⟩:=Aw (by rw[←cC,hlen];exact hr1) hrun
    have h0:a'.tmps.getD 0 undef=vs.getD 0 undef:=by
     rw[hd'.2 hkp]
     cases vs with
     |nil=>
      simp only[List.getD_nil]
      rw[bo]
      simp only[md,aV,Nat.sub_zero,Array.empty_append,jf]
      split<;>rfl
     |cons v0 vs=>
      rw[bo,ir (by simp)]
      simp
    rw[h0]at hv
    rcases he with rfl|rfl
    ·exact⟨hd'.1,u,hu,v,G2,nO.2 ⟨u,rfl,hv⟩,hR2,hI2,hS2,hob2⟩
    ·exact⟨hd'.1,u,hu,v,G2,nO.2 ⟨u,rfl,hv⟩,hR2,hI2,hS2,hob2⟩
   ·cases h
  ·cases hc
 ·cases hc
end
theorem wK{c c':au}(h:lK c c'){n n':Nat}(hn:n≤n'){F:bn}{as:List PV}{ns:List Nat}{cs:List (List PV)}{r}(hr:ff c n F as ns cs=some r):ff c' n' F as ns cs=some r:=by
 unfold ff at hr ⊢
 split at hr
 ·rename_i hb
  rw[ai hb]
  split at hr
  ·rename_i y hy;rw[rI h hn _ hy];exact hr
  ·rename_i y hy;rw[rI h hn _ hy];exact hr
  ·cases hr
 ·cases hr
theorem DQ{c:Nat→au}{lim:au}(h:lY c lim){N:Nat}{F:bn}{as:List PV}{ns:List Nat}{cs:List (List PV)}{r}(hr:ff lim N F as ns cs=some r):∃ n,ff (c n) N F as ns cs=some r:=by
 unfold ff at hr ⊢
 split at hr
 ·rename_i hb
  split at hr
  ·rename_i y hy
   obtain⟨n,hn⟩:=CU h N _ hy
   exact⟨n,by rw[ai hb,hn];exact hr⟩
  ·rename_i y hy
   obtain⟨n,hn⟩:=CU h N _ hy
   exact⟨n,by rw[ai hb,hn];exact hr⟩
  ·cases hr
 ·cases hr
section
variable (T:Nat→Option bn) (pr:au)
def jU:Nat→au
 |0=>pr
 |n+1=>fun f as ns cs=>match pr f as ns cs with
  |some r=>some r
  |none=>match T f with
   |some F=>ff (jU n) n F as ns cs
   |none=>none
theorem Bm{n:Nat}{f:Nat}{as:List PV}{ns:List Nat}{cs:List (List PV)}{r}(h:pr f as ns cs=some r):jU T pr n f as ns cs=some r:=by
 cases n with
 |zero=>exact h
 |succ n=>simp only[jU,h]
theorem wf:∀ (n:Nat),lK (jU T pr n) (jU T pr (n+1))
 |0=>fun f as ns cs r h=>Bm T pr h
 |n+1=>fun f as ns cs r h=>by
  simp only[jU]at h
  cases hp:pr f as ns cs with
  |some q=>
   rw[hp]at h
   cases h
   exact Bm T pr hp
  |none=>
   rw[hp]at h
   rw[jU]
   simp only[hp]
   cases ht:T f with
   |none=>rw[ht]at h;cases h
   |some F=>
    rw[ht]at h
    simp only at h ⊢
    exact wK (wf n) (Nat.le_succ n) h
theorem wh{n m:Nat}(h:n≤m):lK (jU T pr n) (jU T pr m):=by
 induction h with
 |refl=>exact lK.refl _
 |step _ ih=>exact ih.trans (wf T pr _)
noncomputable def rl:au:=fun f as ns cs=>open Classical in if h:∃ r n,jU T pr n f as ns cs=some r then some h.choose else none
theorem rk{f:Nat}{as:List PV}{ns:List Nat}{cs:List (List PV)}{r}:rl T pr f as ns cs=some r↔∃ n,jU T pr n f as ns cs=some r:=by
 unfold rl
 constructor
 ·intro h
  split at h
  ·rename_i hx
   cases h
   exact hx.choose_spec
  ·cases h
 ·rintro⟨n,hn⟩
  have hx:∃ r n,jU T pr n f as ns cs=some r:=⟨r,n,hn⟩
  rw[dif_pos hx]
  obtain⟨m,hm⟩:=hx.choose_spec
  have h1:=wh T pr (gJ n m) _ _ _ _ _ hn
  have h2:=wh T pr (jc n m) _ _ _ _ _ hm
  rw[h1]at h2
  rw[h2]
theorem Lc:lY (jU T pr) (rl T pr):=⟨wf T pr,fun _ _ _ _ _ h=>(rk T pr).1 h⟩
theorem Il{f:Nat}{F:bn}(ht:T f=some F){as:List PV}{ns:List Nat}{cs:List (List PV)}{r}(hp:pr f as ns cs=none)(N:Nat)(h:ff (rl T pr) N F as ns cs=some r):rl T pr f as ns cs=some r:=by
 obtain⟨n,hn⟩:=DQ (Lc T pr) h
 refine(rk T pr).2 ⟨max n N+1,?_⟩
 simp only[jU,hp,ht]
 exact wK (wh T pr (gJ n N)) (jc n N) hn
theorem sJ{f:Nat}{as:List PV}{ns:List Nat}{cs:List (List PV)}{r}(h:pr f as ns cs=some r):rl T pr f as ns cs=some r:=(rk T pr).2 ⟨0,h⟩
def yr(P:Program):Prop:=∀ f F,T f=some F→(f<1000000∧∃ M nk own,rL P M nk own f=some F)∨∃ M f0,f=gx f0∧uL P M f0=some F
theorem wg(hmix:P.follows .mixedOrders=true)(hT:yr T P)(hpr:gU P B pr):∀ n,gU P B (jU T pr n)
 |0=>hpr
 |n+1=>by
  intro f as ns cs r rs cs' h
  simp only[jU]at h
  cases hp:pr f as ns cs with
  |some q=>
   rw[hp]at h
   cases h
   exact hpr f as ns cs r rs cs' hp
  |none=>
   rw[hp]at h
   simp only at h
   cases ht:T f with
   |none=>rw[ht]at h;cases h
   |some F=>
    rw[ht]at h
    rcases hT f F ht with⟨hf,M,nk,own,hF⟩|⟨M,f0,hf,hF⟩
    ·have hs:=H5 (wg hmix hT hpr n) hmix n hF as ns cs r rs cs' h
     rw[rH hf]
     exact⟨hs.1,hs.2.1,hs.2.2.1,hs.2.2.2.1,fun G w vs h1 h2 h3=>(hs.2.2.2.2 G w vs h1 h2 h3).mono fun e w' hx=>hx.elim fun v hx=>hx.elim fun G' hx=>⟨v,G',(qG hf).2 hx.1,hx.2⟩⟩
    ·subst hf
     exact FZ (wg hmix hT hpr n) hmix n hF h
theorem Ik(hmix:P.follows .mixedOrders=true)(hT:yr T P)(hpr:gU P B pr):gU P B (rl T pr):=by
 intro f as ns cs r rs cs' h
 obtain⟨n,hn⟩:=(rk T pr).1 h
 exact wg T pr hmix hT hpr n f as ns cs r rs cs' hn
end
end Go.PM
namespace Go.PM
def Wp(cf:au)(N:Nat)(c:CC)(x:Fr×St)(Q:Ex→Fr×St→Prop):Prop:=∃ e y,ev cf N c x=some (e,y)∧Q e y
def WO(cf:au)(os:List bz)(x:Fr×St)(K:Fr×St→Prop):Prop:=∃ y,gD cf os x=some y∧K y
def jD(c A B:Prop):Prop:=(c→A)∧(¬c→B)
def dC{α:Type}(f:α→Prop)(x:α):Prop:=f x
theorem IU{α:Type}{f:α→Prop}{x:α}{B:Prop}:jD True (dC f x) B↔f x:=by simp[jD,dC]
theorem GO{α:Type}{f:α→Prop}{x:α}{A:Prop}:jD False A (dC f x)↔f x:=by simp[jD,dC]
theorem ab{α β:Type}{f:α→Prop}{x:α}{g:β→Prop}{y:β}{c:Prop}(h:c→f x)(k:¬c→g y):jD c (dC f x) (dC g y):=⟨h,k⟩
theorem KH{c A B:Prop}:jD (¬c) A B↔jD c B A:=by
 by_cases h:c<;>simp[jD,h]
theorem later{α:Type}{f:α→Prop}{x:α}(h:f x):dC f x:=h
def oH(A:Fr×St→Prop)(Q:Ex→Fr×St→Prop):Ex→Fr×St→Prop
 | .go,y=>A y
 |e,y=>Q e y
def kn(id:Nat)(Q:Ex→Fr×St→Prop):Ex→Fr×St→Prop
 | .exit i,y=>jD (i=id) (dC (Q .go) y) (dC (Q (.exit i)) y)
 |e,y=>Q e y
def Jd(p:PV)(A B:Prop):Prop:=match p with
 | .bool b=>jD (b=true) A B
 |_=>False
def zx(p:PV)(b:Bool)(A B:Prop):Prop:=match p with
 | .bool b'=>jD (b'=b) A B
 | .hole=>B
 |_=>False
def cT(o:Option (PV×St))(mk:PV→St→Fr×St)(A:Fr×St→Prop):Prop:=∃ v st,o=some (v,st)∧A (mk v st)
theorem fj{v:PV}{st:St}{mk:PV→St→Fr×St}{A:Fr×St→Prop}:cT (some (v,st)) mk A↔A (mk v st):=⟨fun⟨_,_,h,k⟩=>by cases h;exact k,fun h=>⟨_,_,rfl,h⟩⟩
section
variable {cf:au} {N:Nat} {fr:Fr} {st:St}
theorem KA{Q:Ex→Fr×St→Prop}:Wp cf N .skip (fr,st) Q↔Q .go (fr,st):=⟨fun⟨_,_,h,hq⟩=>by cases h;exact hq,fun h=>⟨_,_,rfl,h⟩⟩
theorem KE{id:Nat}{Q:Ex→Fr×St→Prop}:Wp cf N (.exit id) (fr,st) Q↔Q (.exit id) (fr,st):=⟨fun⟨_,_,h,hq⟩=>by cases h;exact hq,fun h=>⟨_,_,rfl,h⟩⟩
theorem LQ{Q:Ex→Fr×St→Prop}:Wp cf N .ret (fr,st) Q↔Q .ret (fr,st):=⟨fun⟨_,_,h,hq⟩=>by cases h;exact hq,fun h=>⟨_,_,rfl,h⟩⟩
theorem KB{a b:CC}{x:Fr×St}{Q:Ex→Fr×St→Prop}:Wp cf N (.seq a b) x Q↔Wp cf N a x (oH (fun y=>Wp cf N b y Q) Q):=by
 unfold Wp
 simp only[ev]
 constructor
 ·rintro⟨e,y,h,hq⟩
  split at h
  ·rename_i z hz
   exact⟨.go,z,hz,e,y,h,hq⟩
  ·rename_i hne
   refine⟨e,y,h,?_⟩
   cases e with
   |go=>exact absurd h (hne y)
   |exit i=>exact hq
   |ret=>exact hq
 ·rintro⟨e,y,h,hq⟩
  rw[h]
  cases e with
  |go=>exact hq
  |exit i=>exact⟨_,_,rfl,hq⟩
  |ret=>exact⟨_,_,rfl,hq⟩
theorem LP{a b:CC}{Q:Ex→Fr×St→Prop}:Wp cf N (.seq a b) (fr,st) Q↔Wp cf N a (fr,st) (oH (fun y=>Wp cf N b y Q) Q):=KB
theorem LR{os:List bz}{Q:Ex→Fr×St→Prop}:Wp cf N (.reg os []) (fr,st) Q↔WO cf os (fr,st) (Q .go):=by
 unfold Wp WO
 simp only[ev,pV]
 constructor
 ·rintro⟨e,y,h,hq⟩
  simp only[ae,bE]at h
  obtain⟨z,hz,rfl,rfl⟩:=h
  exact⟨z,hz,hq⟩
 ·rintro⟨y,h,hq⟩
  exact⟨.go,y,by rw[h];rfl,hq⟩
theorem KF{c:CX}{a b:CC}{Q:Ex→Fr×St→Prop}:Wp cf N (.cond c a b) (fr,st) Q↔Jd (c.ev fr) (dC (fun y=>Wp cf N a y Q) (fr,st)) (dC (fun y=>Wp cf N b y Q) (fr,st)):=by
 unfold Wp Jd
 simp only[ev]
 generalize c.ev fr=p
 have no:∀ {o:Option (Ex×Fr×St)},o=none→¬ ∃ e y,o=some (e,y)∧Q e y:=by
  rintro o rfl ⟨e,y,h,_⟩;cases h
 cases p with
 |bool b=>
  cases b with
  |true=>exact⟨fun h=>⟨fun _=>h,fun h=>absurd rfl h⟩,fun h=>h.1 rfl⟩
  |false=>exact⟨fun h=>⟨fun h=>(by cases h),fun _=>h⟩,fun h=>h.2 (by simp)⟩
 |_=>exact⟨fun h=>absurd h (no rfl),fun h=>h.elim⟩
theorem GH{id:Nat}{c:CC}{x:Fr×St}{Q:Ex→Fr×St→Prop}:Wp cf N (.block id c) x Q↔Wp cf N c x (kn id Q):=by
 unfold Wp
 simp only[ev]
 constructor
 ·rintro⟨e,y,h,hq⟩
  split at h
  ·rename_i i z hz
   refine⟨.exit i,z,hz,?_⟩
   simp only[kn,jD]
   split at h
   ·rename_i hi
    cases h
    exact⟨fun _=>hq,fun h=>absurd hi h⟩
   ·rename_i hi
    cases h
    exact⟨fun h=>absurd h hi,fun _=>hq⟩
  ·rename_i hne
   refine⟨e,y,h,?_⟩
   cases e with
   |go=>exact hq
   |exit i=>exact absurd h (hne i y)
   |ret=>exact hq
 ·rintro⟨e,y,h,hq⟩
  rw[h]
  cases e with
  |go=>exact⟨_,_,rfl,hq⟩
  |ret=>exact⟨_,_,rfl,hq⟩
  |exit i=>
   simp only[kn,jD]at hq
   simp only
   split
   ·rename_i hi;exact⟨_,_,rfl,hq.1 hi⟩
   ·rename_i hi;exact⟨_,_,rfl,hq.2 hi⟩
theorem IL{id:Nat}{c:CC}{Q:Ex→Fr×St→Prop}:Wp cf N (.block id c) (fr,st) Q↔Wp cf N c (fr,st) (kn id Q):=GH
theorem KD{c:CC}{Q:Ex→Fr×St→Prop}(I:Nat→Fr×St→Prop)(hs:∀ k fr st,I k (fr,st)→Wp cf N c (fr,st) (oH (fun y=>∃ j,j<k∧I j y) Q)):
  ∀ (k:Nat) (x:Fr×St),k<N→I k x→Wp cf N (.loop c) x Q:=by
 have key:∀ (n k:Nat) (x:Fr×St),k<n→I k x→∃ e y,mJ (ev cf N c) n x=some (e,y)∧Q e y:=by
  intro n
  induction n with
  |zero=>intro k x h;omega
  |succ n ih=>
   intro k x hk hx
   obtain⟨fr,st⟩:=x
   obtain⟨e,y,h,hq⟩:=hs k fr st hx
   simp only[mJ,h]
   cases e with
   |go=>
    obtain⟨j,hj,hy⟩:=hq
    exact ih j y (by omega) hy
   |exit i=>exact⟨_,_,rfl,hq⟩
   |ret=>exact⟨_,_,rfl,hq⟩
 intro k x hk hx
 exact key N k x hk hx
theorem aX{c:CC}{Q:Ex→Fr×St→Prop}(I:Nat→Fr→St→Prop)(k:Nat){fr:Fr}{st:St}(hk:k<N)(h0:I k fr st)(hs:∀ k fr st,I k fr st→Wp cf N c (fr,st) (oH (fun y=>∃ j,j<k∧I j y.1 y.2) Q)):
  Wp cf N (.loop c) (fr,st) Q:=
 KD (fun k x=>I k x.1 x.2) (fun k fr st h=>hs k fr st h) k (fr,st) hk h0
theorem LS{K:Fr×St→Prop}:WO cf [] (fr,st) K↔K (fr,st):=by simp[WO,gD]
theorem yq{d:Option Nat}{op:dG}{os:List bz}{K:Fr×St→Prop}:
  WO cf (⟨none,d,op⟩::os) (fr,st) K↔cT (ap cf fr st d op) (fun v st'=>(put (cn cf op d st fr) d v,st')) (fun y=>WO cf os y K):=by
 unfold WO cT
 simp only[gD,cG,dQ]
 constructor
 ·rintro⟨y,h,hk⟩
  split at h
  ·rename_i z hz
   split at hz
   ·rename_i v st' hr
    cases hz
    exact⟨v,st',hr,y,h,hk⟩
   ·cases hz
  ·cases h
 ·rintro⟨v,st',hr,y,h,hk⟩
  exact⟨y,by rw[hr];exact h,hk⟩
theorem IM{s:Nat}{b:Bool}{d:Option Nat}{op:dG}{os:List bz}{K:Fr×St→Prop}:
  WO cf (⟨some (s,b),d,op⟩::os) (fr,st) K↔zx (fr s) b (dC (fun y=>WO cf (⟨none,d,op⟩::os) y K) (fr,st)) (dC (fun y=>WO cf os y K) (put fr d .hole,st)):=by
 simp only[dC,yq]
 unfold WO cT zx
 simp only[gD,cG,dQ]
 generalize fr s=p
 have run:∀ {o:Option (PV×St)},(∃ y,(match (match o with|some (v,st')=>some (put (cn cf op d st fr) d v,st')|none=>none)with|some y=>gD cf os y|none=>none)=some y∧K y)↔
   ∃ v st',o=some (v,st')∧∃ y,gD cf os (put (cn cf op d st fr) d v,st')=some y∧K y:=by
  intro o
  cases o with
  |none=>exact⟨fun⟨_,h,_⟩=>(by cases h),fun⟨_,_,h,_⟩=>(by cases h)⟩
  |some q=>exact⟨fun⟨y,h,hk⟩=>⟨q.1,q.2,rfl,y,h,hk⟩,fun⟨v,st',h,y,hy,hk⟩=>by cases h;exact⟨y,hy,hk⟩⟩
 cases p with
 |bool b'=>
  cases b<;>cases b'
  ·exact⟨fun h=>⟨fun _=>run.1 h,fun h=>absurd rfl h⟩,fun h=>run.2 (h.1 rfl)⟩
  ·exact⟨fun h=>⟨fun h=>(by cases h),fun _=>h⟩,fun h=>h.2 (by simp)⟩
  ·exact⟨fun h=>⟨fun h=>(by cases h),fun _=>h⟩,fun h=>h.2 (by simp)⟩
  ·exact⟨fun h=>⟨fun _=>run.1 h,fun h=>absurd rfl h⟩,fun h=>run.2 (h.1 rfl)⟩
 |hole=>exact Iff.rfl
 |_=>exact⟨fun⟨_,h,_⟩=>(by cases h),fun h=>h.elim⟩
end
def xf(s:Nat)(f:Fr):Fr:=fun t=>dL s (f t)
def bU(st:St)(s:Nat)(c:List PV):St:={st with objs:=fun k=>if k=s then some c else st.objs k}
section
variable {cf:au} {fr:Fr} {st:St} {d:Option Nat}
end
@[reducible] def S (l:List UInt8):PV:= .str ⟨l.toArray⟩
@[reducible] def I (n:Int):PV:= .int .i64 n
@[reducible] def U (n:Int):PV:= .int .u8 n
theorem nW(l:List UInt8):(⟨l.toArray⟩:ByteArray).size=l.length:=by simp[ByteArray.size]
theorem uX(s:ByteArray):∀ (n i:Nat) (acc:List UInt8),s.size-i=n→ByteArray.toList.loop s i acc=acc.reverse++s.data.toList.drop i
 |0,i,acc,h=>by
  unfold ByteArray.toList.loop
  rw[ad (by omega),gf (by simp only[cC];change s.size≤i;omega)]
  simp
 |n+1,i,acc,h=>by
  unfold ByteArray.toList.loop
  rw[ai (by omega),uX s n (i+1) _ (by omega)]
  have hi:i<s.data.toList.length:=by simp only[cC];change i<s.size;omega
  rw[aK hi]
  have:s.get! i=s.data.toList[i]:=by
   simp only[gL]
   change s.data[i]! =_
   rw[getElem!_pos]
  simp[this]
theorem BO(s:ByteArray):s.toList=s.data.toList:=by
 unfold ByteArray.toList
 rw[uX s _ 0 [] rfl]
 simp
theorem mS(l:List UInt8):(⟨l.toArray⟩:ByteArray).toList=l:=by rw[BO]
theorem de{α:Type}(v:α):m1 (pure v:Sem α)=some v:=rfl
theorem pJ{α:Type}[DecidableEq α][BEq α][LawfulBEq α](a b:α):(a==b)=decide (a=b):=by
 rw[Bool.eq_iff_iff];simp
def ej:List UInt8→List UInt8→Bool:=Op.bytesLess
section
variable {a b:Int} {k:IntKind} {s t:List UInt8}
theorem Mu:dv .lss (.int k a) (.int k b)=some (.bool (decide (a<b))):=by simp[dv,eI,binOp,Op.intCmp,de,fX]
theorem Mv:dv .leq (.int k a) (.int k b)=some (.bool (decide (a≤b))):=by simp[dv,eI,binOp,Op.intCmp,de,fX]
theorem Mw:dv .gtr (.int k a) (.int k b)=some (.bool (decide (b<a))):=by simp[dv,eI,binOp,Op.intCmp,de,fX]
theorem Mx:dv .geq (.int k a) (.int k b)=some (.bool (decide (b≤a))):=by simp[dv,eI,binOp,Op.intCmp,de,fX]
theorem My:dv .eql (.int k a) (.int k b)=some (.bool (decide (a=b))):=by simp[dv,eI,binOp,Op.intCmp,de,fX,pJ]
theorem Ms:dv .neq (.int k a) (.int k b)=some (.bool (decide (a≠b))):=by simp[dv,eI,binOp,Op.intCmp,de,fX,bne,pJ]
theorem Mz:dv .add (.int k a) (.int k b)=some (.int k (k.wrap (a+b))):=by simp[dv,eI,binOp,Op.intArith,de,fX]
theorem Mr:dv .sub (.int k a) (.int k b)=some (.int k (k.wrap (a-b))):=by simp[dv,eI,binOp,Op.intArith,de,fX]
theorem Mt:dv .mul (.int k a) (.int k b)=some (.int k (k.wrap (a*b))):=by simp[dv,eI,binOp,Op.intArith,de,fX]
theorem Mb(h:s.length+t.length≤9223372036854775807):dv .add (S s) (S t)=some (S (s++t)):=by
 have h1:¬ ((9223372036854775807:Int)<((⟨s.toArray⟩:ByteArray).size:Int)+((⟨t.toArray⟩:ByteArray).size:Int)):=by
  rw[nW,nW]
  omega
 have h2:(⟨s.toArray⟩:ByteArray)++(⟨t.toArray⟩:ByteArray)=⟨(s++t).toArray⟩:=by
  apply ByteArray.ext
  simp
 simp[dv,eI,binOp,Op.stringOp,h1,h2,de,fX]
theorem Ma:dv .eql (S s) (S t)=some (.bool (decide (s=t))):=by simp[dv,eI,binOp,Op.stringOp,mS,de,fX,pJ]
theorem L5:dv .neq (S s) (S t)=some (.bool (decide (s≠t))):=by simp[dv,eI,binOp,Op.stringOp,mS,de,fX,pJ]
theorem L6:dv .lss (S s) (S t)=some (.bool (ej s t)):=by simp[dv,eI,binOp,Op.stringOp,mS,de,fX,ej]
theorem L7:dv .leq (S s) (S t)=some (.bool (ej s t||decide (s=t))):=by simp[dv,eI,binOp,Op.stringOp,mS,de,fX,ej,pJ]
theorem L8:dv .gtr (S s) (S t)=some (.bool !(ej s t||decide (s=t))):=by simp[dv,eI,binOp,Op.stringOp,mS,de,fX,ej,pJ]
theorem L9:dv .geq (S s) (S t)=some (.bool !(ej s t)):=by simp[dv,eI,binOp,Op.stringOp,mS,de,fX,ej]
theorem LX{x:Bool}:sV .not (.bool x)=some (.bool !x):=by simp[sV,eI,Op.unary,de,fX]
theorem LY:sV .neg (.int k a)=some (.int k (k.wrap (-a))):=by simp[sV,eI,Op.unary,Op.intArith,de,fX]
theorem wrap_i64(h1: -9223372036854775808≤a)(h2:a≤9223372036854775807):IntKind.i64.wrap a=a:=by
 have e1:IntKind.i64.bits=64:=rfl
 have e2:IntKind.i64.signed=true:=rfl
 simp only[IntKind.wrap,e1,e2,bX]
 split
 ·rename_i h
  simp only[decide_eq_true_eq]at h
  omega
 ·rename_i h
  simp only[decide_eq_true_eq]at h
  omega
theorem Cj(h1:0≤a)(h2:a≤255):IntKind.u8.wrap a=a:=by
 have e1:IntKind.u8.bits=8:=rfl
 have e2:IntKind.u8.signed=false:=rfl
 simp only[IntKind.wrap,e1,e2,fP]
 simp
 omega
end
theorem ME:
  (∀ {cf:au} {N:Nat} {fr:Fr} {st:St} {Q:Ex→Fr×St→Prop},Wp cf N .skip (fr,st) Q↔Q .go (fr,st))∧
  (∀ {cf:au} {N:Nat} {fr:Fr} {st:St} {id:Nat} {Q:Ex→Fr×St→Prop},Wp cf N (.exit id) (fr,st) Q↔Q (.exit id) (fr,st))∧
  (∀ {cf:au} {N:Nat} {fr:Fr} {st:St} {Q:Ex→Fr×St→Prop},Wp cf N .ret (fr,st) Q↔Q .ret (fr,st))∧
  (∀ {cf:au} {N:Nat} {fr:Fr} {st:St} {a b:CC} {Q:Ex→Fr×St→Prop},Wp cf N (.seq a b) (fr,st) Q↔Wp cf N a (fr,st) (oH (fun y=>Wp cf N b y Q) Q))∧
  (∀ {cf:au} {N:Nat} {fr:Fr} {st:St} {os:List bz} {Q:Ex→Fr×St→Prop},Wp cf N (.reg os []) (fr,st) Q↔WO cf os (fr,st) (Q .go))∧
  (∀ {cf:au} {N:Nat} {fr:Fr} {st:St} {c:CX} {a b:CC} {Q:Ex→Fr×St→Prop},Wp cf N (.cond c a b) (fr,st) Q↔Jd (c.ev fr) (dC (fun y=>Wp cf N a y Q) (fr,st)) (dC (fun y=>Wp cf N b y Q) (fr,st)))∧
  (∀ {cf:au} {N:Nat} {fr:Fr} {st:St} {id:Nat} {c:CC} {Q:Ex→Fr×St→Prop},Wp cf N (.block id c) (fr,st) Q↔Wp cf N c (fr,st) (kn id Q))∧
  (∀ {cf:au} {fr:Fr} {st:St} {K:Fr×St→Prop},WO cf [] (fr,st) K↔K (fr,st))∧
  (∀ {cf:au} {fr:Fr} {st:St} {d:Option Nat} {op:dG} {os:List bz} {K:Fr×St→Prop},WO cf (⟨none,d,op⟩::os) (fr,st) K↔cT (ap cf fr st d op) (fun v st'=>(put (cn cf op d st fr) d v,st')) (fun y=>WO cf os y K))∧
  (∀ {cf:au} {fr:Fr} {st:St} {s:Nat} {b:Bool} {d:Option Nat} {op:dG} {os:List bz} {K:Fr×St→Prop},WO cf (⟨some (s,b),d,op⟩::os) (fr,st) K↔zx (fr s) b (dC (fun y=>WO cf (⟨none,d,op⟩::os) y K) (fr,st)) (dC (fun y=>WO cf os y K) (put fr d .hole,st)))∧
  (∀ {A:Fr×St→Prop} {Q:Ex→Fr×St→Prop} {y:Fr×St},oH A Q .go y↔A y)∧
  (∀ {A:Fr×St→Prop} {Q:Ex→Fr×St→Prop} {i:Nat} {y:Fr×St},oH A Q (.exit i) y↔Q (.exit i) y)∧
  (∀ {A:Fr×St→Prop} {Q:Ex→Fr×St→Prop} {y:Fr×St},oH A Q .ret y↔Q .ret y)∧
  (∀ {id:Nat} {Q:Ex→Fr×St→Prop} {y:Fr×St},kn id Q .go y↔Q .go y)∧
  (∀ {id:Nat} {Q:Ex→Fr×St→Prop} {y:Fr×St},kn id Q .ret y↔Q .ret y)∧
  (∀ {id i:Nat} {Q:Ex→Fr×St→Prop} {y:Fr×St},kn id Q (.exit i) y↔jD (i=id) (dC (Q .go) y) (dC (Q (.exit i)) y))∧
  (∀ {v:PV} {st:St} {mk:PV→St→Fr×St} {A:Fr×St→Prop},cT (some (v,st)) mk A↔A (mk v st))∧
  (∀ {b:Bool} {A B:Prop},Jd (.bool b) A B↔jD (b=true) A B)∧
  (∀ {b b':Bool} {A B:Prop},zx (.bool b') b A B↔jD (b'=b) A B)∧
  (∀ {f:Fr×St→Prop} {x:Fr×St} {b:Bool} {A:Prop},zx .hole b A (dC f x)↔f x)∧
  (∀ {f:Fr×St→Prop} {x:Fr×St} {B:Prop},jD True (dC f x) B↔f x)∧
  (∀ {f:Fr×St→Prop} {x:Fr×St} {A:Prop},jD False A (dC f x)↔f x)∧
  (∀ {c A B:Prop},jD (¬c) A B↔jD c B A)∧
  (∀ {fr:Fr} {n:Nat},CX.ev fr (.sl n)=fr n)∧
  (∀ {fr:Fr} {p:PV},CX.ev fr (.k p)=p)∧
  (∀ {f:Fr} {d:Nat} {v:PV},put f (some d) v=uW f d v)∧
  (∀ {f:Fr} {v:PV},put f none v=f)∧
  (∀ {f:Fr} {d:Nat} {v:PV} {t:Nat},uW f d v t=if t=d then v else f t)∧
  (∀ {s:Nat} {f:Fr} {t:Nat},xf s f t=dL s (f t))∧
  (∀ {p:PV} {ps:List PV},eP (p::ps) 0=p)∧
  (∀ {p:PV} {ps:List PV} {n:Nat},eP (p::ps) (n+1)=eP ps n):=
 ⟨KA,KE,LQ,LP,LR,KF,IL,LS,yq,IM,Iff.rfl,Iff.rfl,Iff.rfl,Iff.rfl,Iff.rfl,Iff.rfl,fj,Iff.rfl,Iff.rfl,Iff.rfl,IU,GO,KH,rfl,rfl,rfl,rfl,rfl,rfl,rfl,rfl⟩
theorem MJ:
  (∀ {cf:au} {st:St} {fr:Fr} {d:Option Nat} {x:CX},cn cf (.mv x) d st fr=fr)∧(∀ {cf:au} {st:St} {fr:Fr} {d:Option Nat} {a b c:CX},cn cf (.pick a b c) d st fr=fr)∧(∀ {cf:au} {st:St} {fr:Fr} {zs:List PV} {s:Nat},cn cf (.alloc zs) (some s) st fr=xf s fr)∧(∀ {cf:au} {st:St} {fr:Fr} {n s:Nat} {x:CX},cn cf (.box n x) (some s) st fr=xf s fr)∧
  (∀ {cf:au} {st:St} {fr:Fr} {d:Option Nat} {zs:List PV} {ps:List (Nat×Nat×CX)},cn cf (.build zs ps) d st fr=fr)∧(∀ {cf:au} {st:St} {fr:Fr} {d:Option Nat} {e sz n:Nat} {zs:List PV} {ps:List (Nat×Nat×CX)},cn cf (.bsl e sz zs n ps) d st fr=fr)∧(∀ {cf:au} {st:St} {fr:Fr} {d:Option Nat} {sz:Nat} {ag:Bool} {x:CX},cn cf (.load sz ag x) d st fr=fr)∧
  (∀ {cf:au} {st:St} {fr:Fr} {d:Option Nat} {sz:Nat} {a x:CX},cn cf (.store sz a x) d st fr=fr)∧(∀ {cf:au} {st:St} {fr:Fr} {d:Option Nat} {x:CX},cn cf (.nck x) d st fr=fr)∧(∀ {cf:au} {st:St} {fr:Fr} {d:Option Nat} {op:BinOp} {x y:CX},cn cf (.bin op x y) d st fr=fr)∧(∀ {cf:au} {st:St} {fr:Fr} {d:Option Nat} {b:Bool} {x:CX},cn cf (.isnil b x) d st fr=fr)∧(∀ {cf:au} {st:St} {fr:Fr} {d:Option Nat} {b:Bool} {x y:CX},cn cf (.beq b x y) d st fr=fr)∧
  (∀ {cf:au} {st:St} {fr:Fr} {d:Option Nat} {op:UnOp} {x:CX},cn cf (.un op x) d st fr=fr)∧(∀ {cf:au} {st:St} {fr:Fr} {d:Option Nat} {k:IntKind} {x:CX},cn cf (.toInt k x) d st fr=fr)∧(∀ {cf:au} {st:St} {fr:Fr} {d:Option Nat} {x:CX},cn cf (.s2s x) d st fr=fr)∧(∀ {cf:au} {st:St} {fr:Fr} {d:Option Nat} {x:CX} {i:Nat},cn cf (.ext x i) d st fr=fr)∧(∀ {cf:au} {st:St} {fr:Fr} {d:Option Nat} {x:CX} {i:Nat},cn cf (.fad i x) d st fr=fr)∧
  (∀ {cf:au} {st:St} {fr:Fr} {d:Option Nat} {o sz:Nat} {ag:Bool} {x:CX},cn cf (.fld o sz ag x) d st fr=fr)∧(∀ {cf:au} {st:St} {fr:Fr} {d:Option Nat} {sz:Nat} {x i:CX},cn cf (.iad sz x i) d st fr=fr)∧(∀ {cf:au} {st:St} {fr:Fr} {d:Option Nat} {x i:CX},cn cf (.sidx x i) d st fr=fr)∧(∀ {cf:au} {st:St} {fr:Fr} {d:Option Nat} {x:CX} {l h:Option CX},cn cf (.ssl x l h) d st fr=fr)∧(∀ {cf:au} {st:St} {fr:Fr} {d:Option Nat} {sz:Nat} {x:CX} {l h:Option CX},cn cf (.slc sz x l h) d st fr=fr)∧
  (∀ {cf:au} {st:St} {fr:Fr} {e sz b s:Nat} {zs:List PV} {n c:CX},cn cf (.mks e sz b zs n c) (some s) st fr=xf s fr)∧(∀ {cf:au} {st:St} {fr:Fr} {d:Option Nat} {e sz b:Nat} {n c:CX},cn cf (.mk0 e sz b n c) d st fr=fr)∧(∀ {cf:au} {st:St} {fr:Fr} {d:Option Nat} {x:CX},cn cf (.slen x) d st fr=fr)∧(∀ {cf:au} {st:St} {fr:Fr} {d:Option Nat} {x:CX},cn cf (.len x) d st fr=fr)∧(∀ {cf:au} {st:St} {fr:Fr} {d:Option Nat} {e sz b:Nat} {x y:CX},cn cf (.app e sz b x y) d st fr=fr)∧
  (∀ {cf:au} {st:St} {fr:Fr} {d:Option Nat} {x:CX},cn cf (.b2s x) d st fr=fr)∧(∀ {cf:au} {st:St} {fr:Fr} {d:Option Nat} {f:Nat} {as:List CX},cn cf (.mkfn f as) d st fr=fr)∧(∀ {cf:au} {st:St} {fr:Fr} {s:Nat},cn cf .mkmap (some s) st fr=xf s fr)∧(∀ {cf:au} {st:St} {fr:Fr} {d:Option Nat} {kk:Nat} {m k v:CX},cn cf (.mpset kk m k v) d st fr=fr)∧(∀ {cf:au} {st:St} {fr:Fr} {d:Option Nat} {b:Bool} {z:PV} {kk:Nat} {m k:CX},cn cf (.mpget b z kk m k) d st fr=fr)∧(∀ {cf:au} {st:St} {fr:Fr} {d:Option Nat} {m:CX},cn cf (.mplen m) d st fr=fr)∧
  (∀ {cf:au} {st:St} {fr:Fr} {d:Option Nat} {f:Nat} {as:List CX},cn cf (.call f as []) d st fr=fr)∧(∀ {cf:au} {st:St} {fr:Fr} {d:Option Nat} {f:CX} {as:List CX},cn cf (.cval f as) d st fr=fr):=by
 refine⟨?_,?_,?_,?_,?_,?_,?_,?_,?_,?_,?_,?_,?_,?_,?_,?_,?_,?_,?_,?_,?_,?_,?_,?_,?_,?_,?_,?_,?_,?_,?_,?_,?_,?_,?_⟩<;>intros<;>first|rfl|(rename_i d _;cases d<;>rfl)|(rename_i d _ _;cases d<;>rfl)|(rename_i d _ _ _;cases d<;>rfl)|(rename_i d _ _ _ _;cases d<;>rfl)|(rename_i d _ _ _ _ _;cases d<;>rfl)
theorem MG:(∀ {s:Nat} {k:IntKind} {n:Int},dL s (.int k n)= .int k n)∧(∀ {s:Nat} {b:Bool},dL s (.bool b)= .bool b)∧(∀ {s:Nat} {t:ByteArray},dL s (.str t)= .str t)∧(∀ {s:Nat} {n:Nat} {cs:List PV} {t:ay},dL s (.list n cs t)= .list n cs t)∧(∀ {s:Nat} {cs:List PV},dL s (.agg cs)= .agg cs)∧(∀ {s:Nat} {cs:List PV},dL s (.tup cs)= .tup cs)∧
  (∀ {s:Nat} {cs:List PV} {n:Nat} {t:ay},dL s (.iptr cs n t)= .iptr cs n t)∧(∀ {s:Nat} {k o:Nat},dL s (.ptr k o)=if k=s then .any else .ptr k o)∧(∀ {s:Nat} {e sz k n:Nat},dL s (.osl e sz k n)=if k=s then .any else .osl e sz k n)∧(∀ {s:Nat} {k:Nat},dL s (.mp k)=if k=s then .any else .mp k)∧
  (∀ {s:Nat},dL s .hole= .hole)∧(∀ {s:Nat},dL s .any= .any)∧(∀ {s:Nat},dL s .nili= .nili)∧(∀ {s:Nat},dL s .err= .err)∧(∀ {s:Nat},dL s .nilp= .nilp)∧(∀ {s:Nat} {f:Nat},dL s (.fn f [])= .fn f []):=
 ⟨rfl,rfl,rfl,rfl,rfl,rfl,rfl,rfl,rfl,rfl,rfl,rfl,rfl,rfl,rfl,rfl⟩
theorem MH:
  (∀ {cf:au} {fr:Fr} {st:St} {d:Option Nat} {x:CX},ap cf fr st d (.mv x)=some (x.ev fr,st))∧
  (∀ {cf:au} {fr:Fr} {st:St} {zs:List PV} {s:Nat},ap cf fr st (some s) (.alloc zs)=some (.ptr s 0,bU st s zs))∧
  (∀ {cf:au} {fr:Fr} {st:St} {d:Option Nat} {op:BinOp} {x y:CX},ap cf fr st d (.bin op x y)=(dv op (x.ev fr) (y.ev fr)).map fun p=>(p,st))∧
  (∀ {cf:au} {fr:Fr} {st:St} {d:Option Nat} {op:UnOp} {x:CX},ap cf fr st d (.un op x)=(sV op (x.ev fr)).map fun p=>(p,st))∧
  (∀ {cf:au} {fr:Fr} {st:St} {d:Option Nat} {f:Nat} {as:List CX} {mv:List Nat},ap cf fr st d (.call f as mv)=ar cf f (as.map (·.ev fr)) mv st)∧
  (∀ {cf:au} {fr:Fr} {st:St} {n s:Nat} {x:CX},ap cf fr st (some s) (.box n x)=match cellsOf (x.ev fr)with|some cs=>if cs.length=n then some (.ptr s 0,bU st s cs)else none|none=>none):=
 ⟨rfl,rfl,rfl,rfl,rfl,by intros;simp only[ap];cases cellsOf _<;>rfl⟩
def bI(p:PV):Bool:=np p && match p with| .ptr .. =>false|_=>true
theorem dX:∀ {as:List PV},as.all bI=true→ch as=some []
 | [],_=>rfl
 |a::as,h=>by
  simp only[dc,aa]at h
  have ih:=dX h.2
  have hn:np a=true:=by have:=h.1;simp only[bI,aa]at this;exact this.1
  cases a with
  |ptr s o=>simp[bI]at h
  |_=>simp only[ch,hn,ih,if_true]
theorem ia:∀ {as:List PV} (i n:Nat),as.all bI=true→d9 [] [] i n as=as.map aA
 | [],_,_,_=>rfl
 |a::as,i,n,h=>by
  simp only[dc,aa]at h
  cases a with
  |ptr s o=>simp[bI]at h
  |_=>simp[d9,ia (i+1) n h.2]
theorem oF{cf:au}{f:Nat}{as:List PV}{st:St}(h:as.all bI=true){r:PV}{ns:List Nat}(hc:cf f (as.map aA) [] []=some (r,ns,[])):
  ar cf f as [] st=some (ren (fun k=>some (st.nx+k)) false r,{st.more ns with fl:=if ed r||(mn f && as.all (tf fun _=>true))then st.fl else st.nx}):=by
 have hf:lj f as []=(mn f && as.all (tf fun _=>true)):=by simp[lj]
 simp only[ar,dX h,cE,ia 0 0 h,bK,hc,aV,if_true,dw,du,cr,hf]
 congr 2
 cases ns<;>rfl
theorem Gk{cf:au}{f:Nat}{as as':List PV}{st:St}(h:as.all bI=true)(ha:as.map aA=as'){r:PV}(hc:cf f as' [] []=some (r,[],[]))(hr:ren (fun k=>some (st.nx+k)) false r=r)(hcl:ed r=true):
  ar cf f as [] st=some (r,st):=by
 rw[oF h (by rw[ha];exact hc),hr,hcl]
 rfl
def cI(l:List UInt8)(i:Nat):Int:=(l.getD i 0).toNat
def zS(x i:PV)(st:St):Option (PV×St):=match x,i with
 | .str s,.int _ j=>if h:0≤j∧j.toNat<s.size then some (.int .u8 (s[j.toNat]'h.2).toNat,st)else none
 |_,_=>none
theorem GY{l:List UInt8}{j:Int}{st:St}(h0:0≤j)(h1:j.toNat<l.length):zS (S l) (I j) st=some (U (cI l j.toNat),st):=by
 simp only[zS]
 rw[dif_pos ⟨h0,by rw[nW];exact h1⟩]
 simp[cI,h1]
 rfl
def nV(x:PV)(lo hi:Option PV)(st:St):Option (PV×St):=match x with
 | .str s=>match (match (match hi with|some x=>kj x s.size|none=>some s.size)with
   |none=>none
   |some h=>match (match lo with|some x=>kj x h|none=>some 0)with
    |none=>none
    |some l=>some (l,h))with
  |some (l,h)=>some (.str (s.extract l h),st)
  |none=>none
 |_=>none
theorem rm{k:IntKind}{j:Int}{n:Nat}(h0:0≤j)(h1:j≤(n:Int)):kj (.int k j) n=some j.toNat:=by simp[kj,h0,h1]
theorem sB(l:List UInt8)(a b:Nat):(⟨l.toArray⟩:ByteArray).extract a b=⟨((l.take b).drop a).toArray⟩:=by
 apply ByteArray.ext
 simp[ByteArray.data_extract,List.drop_take]
theorem Jr{l:List UInt8}{j:Int}{st:St}(h0:0≤j)(h1:j≤(l.length:Int)):nV (S l) (some (I j)) none st=some (S (l.drop j.toNat),st):=by
 simp only[nV,nW,rm h0 h1,sB,kQ]
theorem Js{l:List UInt8}{j:Int}{st:St}(h0:0≤j)(h1:j≤(l.length:Int)):nV (S l) none (some (I j)) st=some (S (l.take j.toNat),st):=by
 simp only[nV,nW,rm h0 h1,sB,lZ]
theorem E3{l:List UInt8}{a b:Int}{st:St}(h0:0≤a)(h1:a≤b)(h2:b≤(l.length:Int)):nV (S l) (some (I a)) (some (I b)) st=some (S ((l.take b.toNat).drop a.toNat),st):=by
 have h3:a≤(b.toNat:Int):=by omega
 simp only[nV,nW,rm (show 0≤b by omega) h2,rm h0 h3,sB]
def xa(sz:Nat)(ag:Bool)(a:PV)(st:St):Option (PV×St):=match a with
 | .ptr s al=>match st.objs s with
  |some cs=>(bT cs al sz ag).map fun p=>(p,st)
  |none=>none
 | .iptr cs al _=>(bT cs al sz ag).map fun p=>(p,st)
 |_=>none
def wz(sz:Nat)(a x:PV)(st:St):Option (PV×St):=match a,cellsOf x with
 | .ptr s al,some vs=>match st.objs s with
  |some cs=>if vs.length=sz∧al+sz≤cs.length then some (.hole,bU st s (putCells cs al vs))else none
  |none=>none
 |_,_=>none
theorem Fq{cs:List PV}{al:Nat}{p:PV}(h:cs[al]? =some p):bT cs al 1 false=some p:=by
 have:=(a8.1 h).1
 simp[bT,h];omega
theorem qX{cs:List PV}{sz:Nat}(h:cs.length=sz):bT cs 0 sz true=some (.agg cs):=by
 subst h
 unfold bT
 rw[ai (by omega),ai rfl,lZ,kQ]
def sv(sz:Nat)(x i:PV)(st:St):Option (PV×St):=match x,i with
 | .list n cs t,.int _ j=>if 0≤j∧j<(n:Int)∧cs.length=n*sz then some (.iptr cs (j.toNat*sz) (t.elt n),st)else none
 | .osl _ _ s n,.int _ j=>if 0≤j∧j<(n:Int)then some (.ptr s (j.toNat*sz),st)else none
 |_,_=>none
theorem FU{sz n:Nat}{cs:List PV}{t:ay}{j:Int}{st:St}(h0:0≤j)(h1:j<(n:Int))(h2:cs.length=n*sz):sv sz (.list n cs t) (I j) st=some (.iptr cs (j.toNat*sz) (t.elt n),st):=by
 simp[sv,h0,h1,h2]
theorem HZ{sz e sz' s n:Nat}{j:Int}{st:St}(h0:0≤j)(h1:j<(n:Int)):sv sz (.osl e sz' s n) (I j) st=some (.ptr s (j.toNat*sz),st):=by
 simp[sv,h0,h1]
def HN(x:PV)(st:St):Option (PV×St):=match x with
 | .list n _ _=>some (I n,st)
 | .osl _ _ _ n=>some (I n,st)
 |_=>none
def zR(x:PV)(st:St):Option (PV×St):=match x with
 | .str s=>some (I s.size,st)
 |_=>none
theorem GW{l:List UInt8}{st:St}:zR (S l) st=some (I l.length,st):=by simp only[zR,nW]
def se(c a b:PV)(st:St):Option (PV×St):=match c with
 | .bool true=>some (a,st)
 | .bool false=>some (b,st)
 |_=>none
theorem Hp{a b:Bool}{st:St}:se (.bool a) (.bool true) (.bool b) st=some (.bool (a||b),st):=by cases a<;>rfl
theorem Fn{a b:Bool}{st:St}:se (.bool a) (.bool b) (.bool false) st=some (.bool (a && b),st):=by cases a<;>rfl
def H9(al:Nat)(x:PV)(st:St):Option (PV×St):=match x with
 | .ptr s o=>some (.ptr s (o+al),st)
 | .iptr cs o t=>some (.iptr cs (o+al) t,st)
 |_=>none
def K9(al sz:Nat)(ag:Bool)(x:PV)(st:St):Option (PV×St):=match x with
 | .agg cs=>(bT cs al sz ag).map fun p=>(p,st)
 |_=>none
def D1(x:PV)(st:St):Option (PV×St):=match x with
 | .ptr s al=>some (.ptr s al,st)
 | .iptr cs al t=>some (.iptr cs al t,st)
 | .fn f cs=>some (.fn f cs,st)
 |_=>none
def La(x:PV)(i:Nat)(st:St):Option (PV×St):=match x with
 | .tup vs=>(vs[i]?).map fun p=>(p,st)
 |_=>none
def AW(neg:Bool)(x:PV)(st:St):Option (PV×St):=match x with
 | .err=>some (.bool neg,st)
 | .nili=>some (.bool (!neg),st)
 |_=>none
def EV(k:IntKind)(x:PV)(st:St):Option (PV×St):=match x with
 | .int _ n=>some (.int k (k.wrap n),st)
 |_=>none
def M0(neg:Bool)(x y:PV)(st:St):Option (PV×St):=match x,y with
 | .bool a,.bool b=>some (.bool (if neg then !(a==b)else a==b),st)
 |_,_=>none
def zY(cf:au)(f:PV)(as:List PV)(st:St):Option (PV×St):=match f with
 | .fn g cap=>if g<1000000 then ar cf g (as++cap) [] st else none
 |_=>none
theorem KR:
  (∀ {cf:au} {fr:Fr} {st:St} {d:Option Nat} {x i:CX},ap cf fr st d (.sidx x i)=zS (x.ev fr) (i.ev fr) st)∧
  (∀ {cf:au} {fr:Fr} {st:St} {d:Option Nat} {x:CX},ap cf fr st d (.ssl x none none)=nV (x.ev fr) none none st)∧
  (∀ {cf:au} {fr:Fr} {st:St} {d:Option Nat} {x a:CX},ap cf fr st d (.ssl x (some a) none)=nV (x.ev fr) (some (a.ev fr)) none st)∧
  (∀ {cf:au} {fr:Fr} {st:St} {d:Option Nat} {x b:CX},ap cf fr st d (.ssl x none (some b))=nV (x.ev fr) none (some (b.ev fr)) st)∧
  (∀ {cf:au} {fr:Fr} {st:St} {d:Option Nat} {x a b:CX},ap cf fr st d (.ssl x (some a) (some b))=nV (x.ev fr) (some (a.ev fr)) (some (b.ev fr)) st)∧
  (∀ {cf:au} {fr:Fr} {st:St} {d:Option Nat} {sz:Nat} {ag:Bool} {x:CX},ap cf fr st d (.load sz ag x)=xa sz ag (x.ev fr) st)∧
  (∀ {cf:au} {fr:Fr} {st:St} {d:Option Nat} {sz:Nat} {a x:CX},ap cf fr st d (.store sz a x)=wz sz (a.ev fr) (x.ev fr) st)∧
  (∀ {cf:au} {fr:Fr} {st:St} {d:Option Nat} {sz:Nat} {x i:CX},ap cf fr st d (.iad sz x i)=sv sz (x.ev fr) (i.ev fr) st)∧
  (∀ {cf:au} {fr:Fr} {st:St} {d:Option Nat} {x:CX},ap cf fr st d (.len x)=HN (x.ev fr) st)∧
  (∀ {cf:au} {fr:Fr} {st:St} {d:Option Nat} {x:CX},ap cf fr st d (.slen x)=zR (x.ev fr) st)∧
  (∀ {cf:au} {fr:Fr} {st:St} {d:Option Nat} {c a b:CX},ap cf fr st d (.pick c a b)=se (c.ev fr) (a.ev fr) (b.ev fr) st)∧
  (∀ {cf:au} {fr:Fr} {st:St} {d:Option Nat} {al:Nat} {x:CX},ap cf fr st d (.fad al x)=H9 al (x.ev fr) st)∧
  (∀ {cf:au} {fr:Fr} {st:St} {d:Option Nat} {al sz:Nat} {ag:Bool} {x:CX},ap cf fr st d (.fld al sz ag x)=K9 al sz ag (x.ev fr) st)∧
  (∀ {cf:au} {fr:Fr} {st:St} {d:Option Nat} {x:CX},ap cf fr st d (.nck x)=D1 (x.ev fr) st)∧
  (∀ {cf:au} {fr:Fr} {st:St} {d:Option Nat} {x:CX} {i:Nat},ap cf fr st d (.ext x i)=La (x.ev fr) i st)∧
  (∀ {cf:au} {fr:Fr} {st:St} {d:Option Nat} {b:Bool} {x:CX},ap cf fr st d (.isnil b x)=AW b (x.ev fr) st)∧
  (∀ {cf:au} {fr:Fr} {st:St} {d:Option Nat} {b:Bool} {x y:CX},ap cf fr st d (.beq b x y)=M0 b (x.ev fr) (y.ev fr) st)∧
  (∀ {cf:au} {fr:Fr} {st:St} {d:Option Nat} {k:IntKind} {x:CX},ap cf fr st d (.toInt k x)=EV k (x.ev fr) st)∧
  (∀ {cf:au} {fr:Fr} {st:St} {d:Option Nat} {f:CX} {as:List CX},ap cf fr st d (.cval f as)=zY cf (f.ev fr) (as.map (·.ev fr)) st):=by
 refine⟨?_,?_,?_,?_,?_,?_,?_,?_,?_,?_,?_,?_,?_,?_,?_,?_,?_,?_,?_⟩<;>intros<;>rfl
theorem MD:
  (∀ {l:List UInt8} {st:St},zR (S l) st=some (I l.length,st))∧
  (∀ {n:Nat} {cs:List PV} {t:ay} {st:St},HN (.list n cs t) st=some (I n,st))∧
  (∀ {e sz s n:Nat} {st:St},HN (.osl e sz s n) st=some (I n,st))∧
  (∀ {cs:List PV} {al sz:Nat} {ag:Bool} {t:ay} {st:St},xa sz ag (.iptr cs al t) st=(bT cs al sz ag).map fun p=>(p,st))∧
  (∀ {s o al:Nat} {st:St},H9 al (.ptr s o) st=some (.ptr s (o+al),st))∧
  (∀ {cs:List PV} {o al:Nat} {t:ay} {st:St},H9 al (.iptr cs o t) st=some (.iptr cs (o+al) t,st))∧
  (∀ {cs:List PV} {al sz:Nat} {ag:Bool} {st:St},K9 al sz ag (.agg cs) st=(bT cs al sz ag).map fun p=>(p,st))∧
  (∀ {s o:Nat} {st:St},D1 (.ptr s o) st=some (.ptr s o,st))∧
  (∀ {cs:List PV} {o:Nat} {t:ay} {st:St},D1 (.iptr cs o t) st=some (.iptr cs o t,st))∧
  (∀ {f:Nat} {cs:List PV} {st:St},D1 (.fn f cs) st=some (.fn f cs,st))∧
  (∀ {vs:List PV} {i:Nat} {st:St},La (.tup vs) i st=(vs[i]?).map fun p=>(p,st))∧
  (∀ {b:Bool} {st:St},AW b .err st=some (.bool b,st))∧
  (∀ {b:Bool} {st:St},AW b .nili st=some (.bool (!b),st))∧
  (∀ {k j:IntKind} {n:Int} {st:St},EV k (.int j n) st=some (.int k (k.wrap n),st))∧
  (∀ {a b:Bool} {st:St},se (.bool a) (.bool true) (.bool b) st=some (.bool (a||b),st))∧
  (∀ {a b:Bool} {st:St},se (.bool a) (.bool b) (.bool false) st=some (.bool (a && b),st))∧
  (∀ {a b:PV} {st:St},se (.bool true) a b st=some (a,st))∧
  (∀ {a b:PV} {st:St},se (.bool false) a b st=some (b,st))∧
  (∀ {f:Nat} {cf:au} {as:List PV} {st:St},f<1000000→zY cf (.fn f []) as st=ar cf f as [] st):=by
 refine⟨GW,rfl,rfl,rfl,rfl,rfl,rfl,rfl,rfl,rfl,rfl,rfl,rfl,rfl,Hp,Fn,rfl,rfl,?_⟩
 intro f cf as st h
 simp[zY,h]
theorem MK:
  (∀ {st:St} {s k:Nat} {c:List PV},(bU st s c).objs k=if k=s then some c else st.objs k)∧
  (∀ {st:St} {s:Nat} {c:List PV},(bU st s c).nx=st.nx)∧
  (∀ {st:St} {s:Nat} {c:List PV},(bU st s c).cnt=st.cnt)∧
  (∀ {st:St} {s:Nat} {c:List PV},(bU st s c).fl=st.fl)∧
  (∀ {st:St} {s:Nat} {c:List PV},(bU st s c).maps=st.maps):=⟨rfl,rfl,rfl,rfl,rfl⟩
theorem MF:
  (decide True=true)∧(decide False=false)∧(∀ {p:Prop} [Decidable p],(decide p=true)=p)∧(∀ {p:Prop} [Decidable p],(decide p=false)=¬p)∧(∀ {p:Prop} [Decidable p],(!decide p)=decide (¬p))∧
  ((¬True)=False)∧((¬False)=True)∧(∀ {b:Bool},(false||b)=b)∧(∀ {b:Bool},(b||false)=b)∧(∀ {b:Bool},(true||b)=true)∧(∀ {b:Bool},(b||true)=true)∧
  (∀ {b:Bool},(false && b)=false)∧(∀ {b:Bool},(b && false)=false)∧(∀ {b:Bool},(true && b)=b)∧(∀ {b:Bool},(b && true)=b)∧((!true)=false)∧((!false)=true)∧(∀ {b:Bool},(!!b)=b)∧
  (∀ {b:Bool},((!b)=true)=(b=false))∧(∀ {b:Bool},((!b)=false)=(b=true))∧(∀ {b:Bool},(b=false)=¬(b=true))∧((true=true)=True)∧((false=true)=False)∧
  (∀ {a b:Bool},((a||b)=true)=(a=true∨b=true))∧(∀ {a b:Bool},((a && b)=true)=(a=true∧b=true))∧(∀ {p:Prop},(¬¬p)=p)∧
  (∀ {p:Prop},(True∧p)=p)∧(∀ {p:Prop},(p∧True)=p)∧(∀ {p:Prop},(False∧p)=False)∧(∀ {p:Prop},(p∧False)=False)∧(∀ {p:Prop},(True∨p)=True)∧(∀ {p:Prop},(p∨True)=True)∧(∀ {p:Prop},(False∨p)=p)∧(∀ {p:Prop},(p∨False)=p)∧
  (∀ {n:Nat},((n:Int)).toNat=n)∧((0:Int).toNat=0)∧(∀ {α β:Type} {f:α→β} {x:α},Option.map f (some x)=some (f x))∧(∀ {α β:Type} {f:α→β},List.map f []=[])∧(∀ {α β:Type} {f:α→β} {x:α} {xs:List α},List.map f (x::xs)=f x::List.map f xs):=by
 simp
def EO(cf:au)(f:Nat)(F:bn):Prop:=∀ N as ns cs r,ff cf N F as ns cs=some r→cf f as ns cs=some r
def iA:Ex→Prop
 | .exit _=>False
 |_=>True
theorem m9:iA .ret↔True:=Iff.rfl
def mc(p:PV):Prop:=np p=true∧aA p=p∧ed p=true∧(∀ f s,ren f s p=p)∧(match p with| .osl .. =>False| .ptr .. =>False|_=>True)
def oG(ps:List PV):Prop:=aG ps=true∧aB ps=ps∧eg ps=true∧∀ f s,bB f s ps=ps
theorem dn(k:IntKind)(n:Int):mc (.int k n):=⟨rfl,rfl,rfl,fun _ _=>rfl,trivial⟩
theorem bD(b:Bool):mc (.bool b):=⟨rfl,rfl,rfl,fun _ _=>rfl,trivial⟩
theorem oq(s:ByteArray):mc (.str s):=⟨rfl,rfl,rfl,fun _ _=>rfl,trivial⟩
theorem GE:mc .nili:=⟨rfl,rfl,rfl,fun _ _=>rfl,trivial⟩
theorem Bw:mc .err:=⟨rfl,rfl,rfl,fun _ _=>rfl,trivial⟩
theorem nh:oG []:=⟨rfl,rfl,rfl,fun _ _=>rfl⟩
theorem gH{p:PV}{ps:List PV}(h:mc p)(k:oG ps):oG (p::ps):=by
 obtain⟨h1,h2,h3,h4,_⟩:=h
 obtain⟨k1,k2,k3,k4⟩:=k
 refine⟨?_,?_,?_,fun f s=>?_⟩
 ·have h1':al (fun _=>true) p=true:=h1
  have k1':cM (fun _=>true) ps=true:=k1
  simp only[aG,cM,h1',k1',am]
 ·have h2':ren (fun _=>none) true p=p:=h2
  have k2':bB (fun _=>none) true ps=ps:=k2
  simp only[aB,bB,h2',k2']
 ·simp only[eg,h3,k3,am]
 ·simp only[bB,h4,k4]
theorem wo{cs:List PV}(h:oG cs):mc (.tup cs):=by
 obtain⟨h1,h2,h3,h4⟩:=h
 refine⟨h1,?_,h3,fun f s=>?_,trivial⟩
 ·have h2':bB (fun _=>none) true cs=cs:=h2
  simp only[aA,ren,h2']
 ·simp only[ren,h4]
def cL(p:PV):Prop:=np p=true∧aA p=p∧(∀ f s,ren f s p=p)∧(match p with| .osl .. =>False| .ptr .. =>False|_=>True)
def b8(ps:List PV):Prop:=aG ps=true∧aB ps=ps∧∀ f s,bB f s ps=ps
theorem mc.plain{p:PV}(h:mc p):cL p:=⟨h.1,h.2.1,h.2.2.2.1,h.2.2.2.2⟩
theorem oG.plain{ps:List PV}(h:oG ps):b8 ps:=⟨h.1,h.2.1,h.2.2.2⟩
theorem dK:b8 []:=nh.plain
theorem bq{p:PV}{ps:List PV}(h:cL p)(k:b8 ps):b8 (p::ps):=by
 obtain⟨h1,h2,h4,_⟩:=h
 obtain⟨k1,k2,k4⟩:=k
 refine⟨?_,?_,fun f s=>?_⟩
 ·have h1':al (fun _=>true) p=true:=h1
  have k1':cM (fun _=>true) ps=true:=k1
  simp only[aG,cM,h1',k1',am]
 ·have h2':ren (fun _=>none) true p=p:=h2
  have k2':bB (fun _=>none) true ps=ps:=k2
  simp only[aB,bB,h2',k2']
 ·simp only[bB,h4,k4]
theorem lR{ps qs:List PV}(h:b8 ps)(k:b8 qs):b8 (ps++qs):=by
 obtain⟨h1,h2,h4⟩:=h
 obtain⟨k1,k2,k4⟩:=k
 have hr:∀ f s,bB f s (ps++qs)=ps++qs:=by
  intro f s
  have:∀ (xs ys:List PV),bB f s (xs++ys)=bB f s xs++bB f s ys:=by
   intro xs ys
   induction xs with
   |nil=>rfl
   |cons x xs ih=>simp only[aM,bB,ih]
  rw[this,h4,k4]
 exact⟨kF h1 k1,hr _ _,hr⟩
theorem fu{cs:List PV}(h:b8 cs):cL (.agg cs):=by
 obtain⟨h1,h2,h4⟩:=h
 refine⟨h1,?_,fun f s=>?_,trivial⟩
 ·have h2':bB (fun _=>none) true cs=cs:=h2
  simp only[aA,ren,h2']
 ·simp only[ren,h4]
theorem eB{n:Nat}{cs:List PV}(h:b8 cs):cL (.list n cs .no):=by
 obtain⟨h1,h2,h4⟩:=h
 refine⟨h1,?_,fun f s=>?_,trivial⟩
 ·have h2':bB (fun _=>none) true cs=cs:=h2
  simp only[aA,ren,h2',ay.ren]
 ·simp only[ren,h4,ay.ren]
theorem aQ(k:IntKind)(n:Int):cL (.int k n):=(dn k n).plain
theorem rx(b:Bool):cL (.bool b):=(bD b).plain
theorem cD(s:ByteArray):cL (.str s):=(oq s).plain
theorem dR{ps:List PV}(h:∀ p∈ps,cL p):ps.all bI=true∧ps.map aA=ps:=by
 refine⟨aU.2 fun p hp=>?_,?_⟩
 ·have:=h p hp
  unfold bI
  rw[this.1,bX]
  have h4:=this.2.2.2
  cases p<;>first|rfl|exact h4.elim
 ·induction ps with
  |nil=>rfl
  |cons p ps ih=>
   simp only[aF,(h p (by simp)).2.1]
   rw[ih fun q hq=>h q (by simp[hq])]
theorem zM(nk:Nat){p:PV}{st:St}(h:match p with| .osl .. =>False| .ptr .. =>False|_=>True):b9 nk [p] st=([p],st):=by
 cases p<;>first|exact h.elim|(rw[b9,b9];intros;simp_all)
section
variable {cf:au} {f:Nat} {F:bn} {as:List PV} {r:PV} {t t2 N:Nat} {st:St}
theorem pq(hres:F.res=[.tmp t])(hown:F.own=false){fr:Fr}{cs:List (List PV)}(hcs:cE st (List.range cs.length)=some cs)(hc:∀ c∈cs,b8 c)(hr:cL r)(h:fr t=r):ge F cs.length fr st=some (r,[],cs):=by
 have hn:np r=true:=hr.1
 have hcs':cs.map aB=cs:=by
  have:∀ (l:List (List PV)),(∀ c∈l,b8 c)→l.map aB=l:=by
   intro l
   induction l with
   |nil=>intro _;rfl
   |cons c l ih=>intro hl;simp only[aF,(hl c (by simp)).2.1];rw[ih fun d hd=>hl d (by simp[hd])]
  exact this cs hc
 have hall:cs.all aG=true:=aU.2 fun c h=>(hc c h).1
 simp only[ge,hres,ei,lw,h,hcs,zM F.nk hr.2.2.2,eq,hn,hall,am,if_true,jr,hown,fP,cA,if_false,hr.2.1,hcs']
theorem qP{Q:Ex→Fr×St→Prop}{cs:List (List PV)}{ns:List Nat}{x}(h:Wp cf N F.body (eP as,cF ns cs) Q)(hnt:as.length≤F.nt)(hnk:cs.length≤F.nk)(hQ:∀ e y,Q e y→iA e∧ge F cs.length y.1 y.2=some x):ff cf N F as ns cs=some x:=by
 obtain⟨e,y,hev,hq⟩:=h
 obtain⟨he,hf⟩:=hQ e y hq
 unfold ff
 rw[ai ⟨hnt,hnk⟩,hev]
 cases e with
 |go=>exact hf
 |ret=>exact hf
 |exit i=>exact he.elim
theorem K7(K:EO cf f F)(hres:F.res=[.tmp t])(hown:F.own=false)(hnt:as.length≤F.nt)(hr:cL r)(N:Nat)(h:Wp cf N F.body (eP as,cF [] []) (fun e y=>iA e∧y.1 t=r)):cf f as [] []=some (r,[],[]):=
 K N as [] [] _ (qP h hnt (aY _) fun e y hq=>⟨hq.1,pq (cs:=[]) hres hown rfl (by simp) hr hq.2⟩)
theorem oV(has:∀ p∈as,cL p)(hr:mc r)(h:cf f as [] []=some (r,[],[])):ar cf f as [] st=some (r,st):=by
 obtain⟨h1,h2⟩:=dR has
 exact Gk h1 h2 h (hr.2.2.2.1 _ _) hr.2.2.1
theorem Ij{s:Nat}{c c':List PV}(hs:st.objs s=some c)(hc:b8 c)(hc':oG c')(has:∀ p∈as,cL p)(hr:mc r)(h:cf f (.ptr 0 0::as) [] [c]=some (r,[],[c'])):
  ar cf f (.ptr s 0::as) [] st=some (r,bU st s c'):=by
 obtain⟨h1,h2⟩:=dR has
 have hk:ch (.ptr s 0::as)=some [s]:=by
  simp only[ch,dX h1]
  simp
 have hh:∀ (l:List PV) (i n:Nat),l.all bI=true→d9 [] [] i n l=l.map aA:=fun l i n hl=>ia i n hl
 have hon:d9 [] [] 0 0 (.ptr s 0::as)= .ptr 0 0::as:=by
  simp only[d9,hh as _ _ h1,h2]
 simp only[ar,hk,cE,hs,hon,aF,bK,hc.2.1,h,ao,aV,if_true]
 congr 1
 refine Prod.ext (hr.2.2.2.1 _ _) ?_
 simp only[hc'.2.2.2,hr.2.2.1,hc'.2.2.1,dc,du,am]
 rfl
theorem K8(K:EO cf f F)(hres:F.res=[.tmp t])(hown:F.own=false)(hnt:as.length+1≤F.nt)(hnk:1≤F.nk)(hr:cL r){c c':List PV}(hc':b8 c')(N:Nat)
  (h:Wp cf N F.body (eP (.ptr 0 0::as),cF [] [c]) (fun e y=>iA e∧y.1 t=r∧y.2.objs 0=some c')):cf f (.ptr 0 0::as) [] [c]=some (r,[],[c']):=
 K N _ [] [c] _ (qP h (by simpa using hnt) hnk fun e y hq=>⟨hq.1,pq (cs:=[c']) hres hown (by
  have:List.range [c'].length=[0]:=rfl
  rw[this];simp only[cE,hq.2.2]) (by simpa using hc') hr hq.2.1⟩)
end
end Go.PM
