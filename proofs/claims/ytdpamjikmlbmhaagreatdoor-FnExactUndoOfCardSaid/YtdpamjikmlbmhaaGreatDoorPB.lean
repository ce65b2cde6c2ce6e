/- A part of the proof: texts PmP, PmQ, PmRa, PmRb, PmR, PmS, PmT, PmU, PmV, PmW, PmX, joined. Conditions: none. -/
import Derived.Test.YtdpamjikmlbmhaaGreatDoorPA
import Derived.Orders
import Derived.LoopN
set_option linter.all false
namespace Go.PM
variable {P:Program} {B:Nat->Nat->Option Value}
def kQ{t e:Nat}(h:oM P t=some e):P.underlying t=some (.slice e):=by
 unfold oM at h;split at h
 ·cases h;assumption
 ·cases h
def NZ{t:Nat}(h:Me P t=true):P.underlying t=some (.int .u8):=by
 unfold Me at h;split at h
 ·assumption
 ·cases h
def Ds{G:Gh}{nt:Nat}{fr:Fr}{a:Act}(hF:fu G nt fr a):∀ {xs:List Operand} {cs:List CX},ry xs=some cs->
  cs.length=xs.length/\∀ (j:Nat) p v,(cs.map (·.ev fr))[j]? =some p->(xs.map a.eval)[j]? =some v->R G p v
 | [],cs,h=>by cases h;exact⟨rfl,fun j p v hp=>by simp at hp⟩
 |x::xs,cs,h=>by
  unfold ry at h;split at h
  ·rename_i c cs' hx hxs;cases h;obtain⟨hl,hr⟩:=Ds hF hxs;refine⟨by simp[hl],fun j p v hp hv=>?_⟩;cases j with
   |zero=>
    simp at hp hv;subst hp;subst hv;exact cR hF hx
   |succ j=>exact hr j p v (by simpa using hp) (by simpa using hv)
  ·cases h
def zZ{t:Nat}(h:Bd P t=true):P.underlying t=some .string:=by
 unfold Bd at h;split at h
 ·assumption
 ·cases h
section
variable {G:Gh} {nt:Nat} {fr:Fr} {st st':St} {w:World} {a:Act} {o:Oper} {d:Option Nat} {cf:aJ} {p:PV}
def LV(hI:bM P B G st w)(hF:fu G nt fr a){c:eV}(hc:lr P o.op=some c)(h:aC cf fr st d c=some (p,st')):
  xj P B G w (execOp a.eval o) d (kC c) p st'/\cO p=true:=by
 have npo:=hI.npo;have zn:∀ {t:Nat} {zs:List PV},gw P t=some zs->aX zs=true:=fun hz=>by
  obtain⟨_,_,_,_,_,h⟩:=qe (P:=P) (G:=G) hz;exact h
 generalize hop:o.op=q at hc;unfold lr at hc;split at hc
 ·
  rename_i x;simp only[av]at hc;obtain⟨cx,hx,rfl⟩:=hc;refine⟨eP hI (GT hF (.inl hop) hx h),iS h ?_ npo (by simp) (by simp) (by simp) (by simp) (by simp) (by simp)⟩;rintro x (h|⟨_,_,h⟩|⟨_,_,h⟩|⟨_,_,h⟩|h|⟨_,h⟩|⟨_,h⟩|⟨_,_,_,h⟩|⟨_,_,h⟩|⟨_,_,_,h⟩)<;>cases h<;>exact eT hF (by assumption)
 ·rename_i x;simp only[av]at hc;obtain⟨cx,hx,rfl⟩:=hc;refine⟨eP hI (GT hF (.inr hop) hx h),iS h ?_ npo (by simp) (by simp) (by simp) (by simp) (by simp) (by simp)⟩;rintro x (h|⟨_,_,h⟩|⟨_,_,h⟩|⟨_,_,h⟩|h|⟨_,h⟩|⟨_,h⟩|⟨_,_,_,h⟩|⟨_,_,h⟩|⟨_,_,_,h⟩)<;>cases h<;>exact eT hF (by assumption)
 ·
  split at hc
  ·cases hc;refine⟨eP hI (JE hF hop (by assumption) (by assumption) (by assumption) h),iS h ?_ npo (by simp) (by simp) (by simp) (by simp) (by simp) (by simp)⟩;rintro x (h|⟨_,_,h⟩|⟨_,_,h⟩|⟨_,_,h⟩|h|⟨_,h⟩|⟨_,h⟩|⟨_,_,_,h⟩|⟨_,_,h⟩|⟨_,_,_,h⟩)<;>cases h<;>exact eT hF (by assumption)
  ·cases hc
 ·
  split at hc
  ·rename_i zs pl hz hpl;split at hc
   ·rename_i cs hcs;cases hc;refine⟨eP hI (Il hF hop hz hpl hcs h),iS h ?_ npo (fun _ _ e cs hf=>by cases e;exact B6 hF hcs (zn hz) hf) (by simp) (by simp) (by simp) (by simp) (by simp)⟩;rintro x (h|⟨_,_,h⟩|⟨_,_,h⟩|⟨_,_,h⟩|h|⟨_,h⟩|⟨_,h⟩|⟨_,_,_,h⟩|⟨_,_,h⟩|⟨_,_,_,h⟩)<;>cases h
   ·cases hc
  ·cases hc
 ·
  split at hc
  ·rename_i sz ag cx hs hg hx;cases hc;refine⟨eP hI (JG hI hF hop hx hs hg h),iS h ?_ npo (by simp) (by simp) (by simp) (by simp) (by simp) (by simp)⟩;rintro x (h|⟨_,_,h⟩|⟨_,_,h⟩|⟨_,_,h⟩|h|⟨_,h⟩|⟨_,h⟩|⟨_,_,_,h⟩|⟨_,_,h⟩|⟨_,_,_,h⟩)<;>cases h<;>exact eT hF (by assumption)
  ·cases hc
 ·
  simp only[av]at hc;obtain⟨cx,hx,rfl⟩:=hc;refine⟨eP hI (Ly hF hop hx h),iS h ?_ npo (by simp) (by simp) (by simp) (by simp) (by simp) (by simp)⟩;rintro x (h|⟨_,_,h⟩|⟨_,_,h⟩|⟨_,_,h⟩|h|⟨_,h⟩|⟨_,h⟩|⟨_,_,_,h⟩|⟨_,_,h⟩|⟨_,_,_,h⟩)<;>cases h<;>exact eT hF (by assumption)
 ·
  split at hc
  ·rename_i cx cy hx hy;have other:∀ {op:BinOp},c= .bin op cx cy->(∃ t yt x y,o.op= .binOp op t x y yt/\bP x=some cx/\bP y=some cy)->xj P B G w (execOp a.eval o) d (kC c) p st'/\cO p=true:=by
    rintro op rfl ⟨t,yt,x,y,hop,hx,hy⟩;have h':=h;simp only[aC,av]at h';obtain⟨q,hq,hqe⟩:=h';cases hqe;exact⟨eP hI ⟨rfl,LE hF hop hx hy hq⟩,ga (HZ hq)⟩
   have fin:∀ {c':eV},c=c'->(∀ x,c'= .mv x\/(∃ a b,c'= .pick a x b)\/(∃ a b,c'= .pick a b x)\/(∃ sz ag,c'= .load sz ag x)\/c'= .nck x\/(∃ i,c'= .ext x i)\/(∃ n,c'= .fad n x)\/(∃ n sz ag,c'= .fld n sz ag x)\/
  (∃ sz i,c'= .iad sz x i)\/(∃ sz lo hi,c'= .slc sz x lo hi)->False)->True:=fun _ _=>trivial
   split at hc
   ·cases hc;refine⟨eP hI (AF hF hop hx (by assumption) (by assumption) (.inl ⟨rfl,rfl⟩) h),?_⟩;simp only[aC]at h;split at h<;>first|(cases h;rfl)|cases h
   ·cases hc;refine⟨eP hI (AF hF hop hx (by assumption) (by assumption) (.inr ⟨rfl,rfl⟩) h),?_⟩;simp only[aC]at h;split at h<;>first|(cases h;rfl)|cases h
   ·cases hc;refine⟨eP hI (Eo hF hop hx hy (by assumption) (.inl ⟨rfl,rfl⟩) h),?_⟩;simp only[aC]at h;split at h<;>first|(cases h;rfl)|cases h
   ·cases hc;refine⟨eP hI (Eo hF hop hx hy (by assumption) (.inr ⟨rfl,rfl⟩) h),?_⟩;simp only[aC]at h;split at h<;>first|(cases h;rfl)|cases h
   ·cases hc;exact other rfl ⟨_,_,_,_,hop,hx,hy⟩
   ·cases hc
  ·cases hc
 ·
  simp only[av]at hc;obtain⟨cx,hx,rfl⟩:=hc;have h':=h;simp only[aC,av]at h';obtain⟨q,hq,hqe⟩:=h';cases hqe;exact⟨eP hI ⟨rfl,NF hF hop hx hq⟩,ga (Jp hq)⟩
 ·
  split at hc
  ·cases hc;refine⟨eP hI (Ii hF hop (by assumption) (by assumption) (by assumption) h),?_⟩;simp only[aC]at h;split at h<;>first|(cases h;rfl)|cases h
  ·cases hc;refine⟨eP hI (Gj hF hop (by assumption) (by assumption) (by assumption) h),?_⟩;simp only[aC]at h;split at h<;>first|(cases h;rfl)|cases h
  ·split at hc
   ·rename_i hb;simp only[aj]at hb;cases hc;refine⟨eP hI (LF hI hF hop (by assumption) (by assumption) (NZ hb.1) (by assumption) h),?_⟩;simp only[aC]at h;split at h
    ·split at h
     ·split at h<;>first|(cases h;rfl)|cases h
     ·cases h
    ·cases h
   ·cases hc
  ·cases hc
 ·
  simp only[av]at hc;obtain⟨cs,hcs,rfl⟩:=hc;obtain⟨hl,hr⟩:=Ds hF hcs;refine⟨eP hI (JF hop hr hl h),?_⟩;simp only[aC]at h;split at h
  ·rename_i hb;cases h;exact hb
  ·cases h
 ·
  split at hc
  ·cases hc;refine⟨J2 hI hop h,?_⟩;simp only[aC]at h;split at h<;>first|(cases h;rfl)|cases h
  ·cases hc
 ·
  split at hc
  ·cases hc;refine⟨J1 hI hF hop (by assumption) (by assumption) (by assumption) (by assumption) h,?_⟩;simp only[aC]at h;split at h
   ·split at h
    ·split at h
     ·split at h<;>first|(cases h;rfl)|cases h
     ·cases h
    ·cases h
   ·cases h
  ·cases hc
 ·
  split at hc
  ·split at hc
   ·cases hc;obtain⟨h1,h2⟩:=Ik hI hF hop (by assumption) (by assumption) (by assumption) (by assumption) h;exact⟨eP hI h1,ga h2⟩
   ·cases hc
  ·cases hc
 ·
  simp only[av]at hc;obtain⟨cx,hx,rfl⟩:=hc;refine⟨eP hI (LD hF hop hx h),iS h ?_ npo (by simp) (by simp) (by simp) (by simp) (by simp) (by simp)⟩;rintro x (h|⟨_,_,h⟩|⟨_,_,h⟩|⟨_,_,h⟩|h|⟨_,h⟩|⟨_,h⟩|⟨_,_,_,h⟩|⟨_,_,h⟩|⟨_,_,_,h⟩)<;>cases h<;>exact eT hF (by assumption)
 ·
  split at hc
  ·split at hc
   ·rename_i fd hfd;split at hc
    ·cases hc;refine⟨eP hI (LC hF hop (by assumption) (by assumption) hfd (by assumption) h),iS h ?_ npo (by simp) (by simp) (by simp) (by simp) (by simp) (by simp)⟩;rintro x (h|⟨_,_,h⟩|⟨_,_,h⟩|⟨_,_,h⟩|h|⟨_,h⟩|⟨_,h⟩|⟨_,_,_,h⟩|⟨_,_,h⟩|⟨_,_,_,h⟩)<;>cases h<;>exact eT hF (by assumption)
    ·cases hc
   ·cases hc
  ·cases hc
 ·
  split at hc
  ·split at hc
   ·rename_i fd hfd;split at hc
    ·cases hc;refine⟨eP hI (LB hF hop (by assumption) (by assumption) hfd (by assumption) (by assumption) h),iS h ?_ npo (by simp) (by simp) (by simp) (by simp) (by simp) (by simp)⟩;rintro x (h|⟨_,_,h⟩|⟨_,_,h⟩|⟨_,_,h⟩|h|⟨_,h⟩|⟨_,h⟩|⟨_,_,_,h⟩|⟨_,_,h⟩|⟨_,_,_,h⟩)<;>cases h<;>exact eT hF (by assumption)
    ·cases hc
   ·cases hc
  ·cases hc
 ·
  split at hc
  ·rename_i e cx ci he hx hi;split at hc
   ·cases hc;refine⟨eP hI (LA hF hop hx hi (kQ he) (by assumption) h),iS h ?_ npo (by simp) (by simp) (by simp) (by simp) (by simp) (by simp)⟩;rintro x (h|⟨_,_,h⟩|⟨_,_,h⟩|⟨_,_,h⟩|h|⟨_,h⟩|⟨_,h⟩|⟨_,_,_,h⟩|⟨_,_,h⟩|⟨_,_,_,h⟩)<;>cases h<;>exact eT hF (by assumption)
   ·cases hc
  ·cases hc
 ·
  split at hc
  ·rename_i cx ci he hx hi;cases hc;refine⟨eP hI (JD hF hop hx hi (zZ he) h),?_⟩;simp only[aC]at h;split at h
   ·split at h<;>first|(cases h;rfl)|cases h
   ·cases h
  ·cases hc
 ·
  split at hc
  ·rename_i cx clo chi hx hlo hhi;split at hc
   ·rename_i hs;cases hc;refine⟨eP hI (Lw hF hop hx hlo hhi (zZ hs) h),?_⟩;simp only[aC]at h;split at h
    ·split at h<;>first|(cases h;rfl)|cases h
    ·cases h
   ·split at hc
    ·rename_i e he;split at hc
     ·cases hc;refine⟨eP hI (Lx hF hop hx hlo hhi (kQ he) (by assumption) h),iS h ?_ npo (by simp) (by simp) (by simp) (by simp) (by simp) (by simp)⟩;rintro x (h|⟨_,_,h⟩|⟨_,_,h⟩|⟨_,_,h⟩|h|⟨_,h⟩|⟨_,h⟩|⟨_,_,_,h⟩|⟨_,_,h⟩|⟨_,_,_,h⟩)<;>cases h<;>exact eT hF (by assumption)
     ·cases hc
    ·cases hc
  ·cases hc
 ·
  simp only[av]at hc;obtain⟨zs,hz,rfl⟩:=hc;refine⟨J3 hI hop hz h,?_⟩;simp only[aC]at h;split at h<;>first|(cases h;rfl)|cases h
 ·
  split at hc
  ·cases hc;refine⟨NO hI hF hop (by assumption) h,?_⟩;simp only[aC]at h;split at h
   ·split at h<;>first|(cases h;rfl)|cases h
   ·cases h
  ·cases hc
 ·
  split at hc
  ·cases hc;refine⟨C0 hI hF hop (by assumption) (by assumption) (by assumption) h,?_⟩;simp only[aC]at h;split at h
   ·split at h
    ·split at h<;>first|(cases h;rfl)|cases h
    ·cases h
   ·cases h
  ·cases hc
 ·
  split at hc
  ·rename_i e he;split at hc
   ·rename_i sz zs hs hz;split at hc
    ·rename_i cs hcs;split at hc
     ·rename_i h24;cases hc;refine⟨NN hI hF hop (kQ he) hs hz hcs h24 h,iS h ?_ npo (by simp) (fun _ _ _ _ _ e cs hf=>by cases e;exact B6 hF hcs (wh (zn hz) _) hf) (by simp) (by simp) (by simp) (by simp)⟩;rintro x (h|⟨_,_,h⟩|⟨_,_,h⟩|⟨_,_,h⟩|h|⟨_,h⟩|⟨_,h⟩|⟨_,_,_,h⟩|⟨_,_,h⟩|⟨_,_,_,h⟩)<;>cases h
     ·cases hc
    ·cases hc
   ·cases hc
  ·cases hc
 ·
  split at hc
  ·rename_i e he;split at hc
   ·rename_i i zs l c' hi hz hl hc';split at hc
    ·split at hc
     ·rename_i hzl;cases hc;refine⟨NM hI hF hop (kQ he) hl hc' hi hz hzl h,?_⟩;simp only[aC]at h;split at h
      ·split at h<;>first|(cases h;rfl)|cases h
      ·cases h
     ·cases hc
    ·cases hc;refine⟨NL hI hF hop (kQ he) hl hc' hi hz h,?_⟩;simp only[aC]at h;split at h
     ·split at h<;>first|(cases h;rfl)|cases h
     ·cases h
   ·cases hc
  ·cases hc
 ·
  split at hc
  ·rename_i e he;split at hc
   ·rename_i i zs cx cy hi hz hx hy;split at hc
    ·rename_i hb;obtain⟨rfl,hzl⟩:=hb;cases hc;exact NP hI hF hop (kQ he) hx hy hi hz hzl h
    ·cases hc
   ·cases hc
  ·cases hc
 ·
  split at hc
  ·rename_i cx hx;split at hc
   ·rename_i hs;cases hc;refine⟨eP hI (JC hF hop hx (zZ hs) h),?_⟩;simp only[aC]at h;split at h<;>first|(cases h;rfl)|cases h
   ·split at hc
    ·rename_i hs;obtain⟨e,he⟩:=cu.1 hs;cases hc;refine⟨eP hI (Lz hF hop hx (kQ he) h),?_⟩;simp only[aC]at h;split at h<;>first|(cases h;rfl)|cases h
    ·split at hc
     ·rename_i hs;obtain⟨⟨kk,e⟩,he⟩:=cu.1 hs;cases hc;refine⟨eP hI (Ij hI hF hop hx he h),?_⟩;simp only[aC]at h;split at h
      ·split at h<;>first|(cases h;rfl)|cases h
      ·cases h
     ·cases hc
  ·cases hc
 ·cases hc
end
def bV(ns:List Nat)(cs:List (List PV)):St:={nx:=ns.length,cnt:=fun t=>ns.getD t 0,fl:=0,objs:=fun k=>cs[k]?,maps:=fun _=>none}
def mg(P:Program)(f:FuncId):Prop:=∃ fn,P.funcs[f]? =some fn/\fn.name≠ "runtime.NumGoroutine" /\fn.body.isSome=true
def sS(f:Nat):Nat:=f % 1000000
def rG(f:Nat)(vs:List Value)(v:Value)(e:Ending):Prop:=if f / 1000000=0 then e= .returned v else ∃ u,e= .returned u/\v= .tuple #[u,vs.getD 0 undef]
def pq{f:Nat}(h:f<1000000):sS f=f:=by unfold sS;omega
def Dn{f:Nat}(h:f<1000000):sS (mI f)=f:=by unfold sS mI;omega
def oZ{f:Nat}(h:f<1000000){vs:List Value}{v:Value}{e:Ending}:rG f vs v e↔e= .returned v:=by
 unfold rG;rw[am (by omega)]
def wY{f:Nat}{vs:List Value}{v:Value}{e:Ending}:rG (mI f) vs v e↔∃ u,e= .returned u/\v= .tuple #[u,vs.getD 0 undef]:=by
 unfold rG mI;rw[ai (by omega)]
def jD(P:Program)(B:Nat->Nat->Option Value)(cf:aJ):Prop:=∀ f as ns cs r rs cs',cf f as ns cs=some (r,rs,cs')->
 mg P (sS f)/\cs'.length=cs.length/\np r=true/\(∀ c∈cs',aX c=true)/\
 ∀ G w (vs:List Value),bM P B G (bV ns cs) w->as.length=vs.length->(∀ (j:Nat) p v,as[j]? =some p->vs[j]? =some v->R G p v/\cO p=true)->
  Calls P (sS f) vs.toArray w fun e w'=>∃ v G',rG f vs v e/\R G' r v/\bM P B G' (bV rs cs') w'/\cQ G w G' w'/\G'.ob=G.ob/\∀ k,k<cs.length->G'.oe k=G.oe k
mutual
theorem gT(f:Nat->Option Nat)(s:Bool)(K:Nat->Bool):∀ (p:PV),off K (ren f s p)=off K p
 | .list n cs t=>by rw[gx];simp[off,ge f s K cs]
 | .iptr cs o t=>by rw[tM];simp[off,ge f s K cs]
 | .agg cs=>by simp[ren,off,ge f s K cs]
 | .tup cs=>by simp[ren,off,ge f s K cs]
 | .fn g cs=>by simp[ren,off,ge f s K cs]
 | .ptr _ _=>rfl
 | .osl _ _ _ _=>rfl
 | .mp _=>rfl
 | .any=>rfl
 | .hole=>rfl
 | .int _ _=>rfl
 | .bool _=>rfl
 | .str _=>rfl
 | .nilp=>rfl
 | .nili=>rfl
 | .err=>rfl
theorem ge(f:Nat->Option Nat)(s:Bool)(K:Nat->Bool):∀ (ps:List PV),dS K (bm f s ps)=dS K ps
 | []=>rfl
 |p::ps=>by simp[bm,dS,gT f s K p,ge f s K ps]
end
def rQ{f:Nat->Option Nat}{s:Bool}{cs:List PV}(h:aX cs=true):aX (bm f s cs)=true:=by
 simp only[aX,ge];exact h
def AR{cs:List PV}(h:aX cs=true):aX (aQ cs)=true:=rQ h
def uQ:∀ {l:List Nat} {k i:Nat},bi l k=some i->l[i]? =some k
 | [],k,i,h=>by cases h
 |x::xs,k,i,h=>by
  unfold bi at h;split at h
  ·rename_i e;cases h;simp[e]
  ·simp only[av]at h;obtain⟨j,hj,rfl⟩:=h;simpa using uQ hj
def Aa:∀ {l:List Nat} {k i:Nat},l.Nodup->l[i]? =some k->bi l k=some i
 | [],k,i,_,h=>by simp at h
 |x::xs,k,i,hn,h=>by
  simp only[ou]at hn;unfold bi;cases i with
  |zero=>simp at h;rw[am h]
  |succ i=>
   have h':xs[i]? =some k:=by simpa using h
   have hne:x≠k:=by rintro rfl;exact hn.1 (b8 h')
   rw[ai hne,Aa hn.2 h'];rfl
def xY{l:List Nat}{k:Nat}(h:l.contains k=false):bi l k=none:=by
 cases hx:bi l k with
 |none=>rfl
 |some i=>
  have:=b8 (uQ hx);rw[ff.2 this]at h;cases h
def zl:∀ {l:List Nat},sG l=true->l.Nodup
 | [],_=>pE
 |x::xs,h=>by
  simp only[sG,aj,mK]at h;refine ou.2 ⟨fun hm=>?_,zl h.2⟩;rw[ff.2 hm]at h;cases h.1
def qP(p:PV):bY [] p=p:=by
 have:tf (List.contains ([]:List Nat) ·) p=true:=oa p;simp only[bY,this,if_true]
def xP(objs:Nat->Option (List PV)):iZ [] objs=objs:=by
 funext s;simp only[iZ];cases objs s with
 |none=>rfl
 |some c=>simp[qP,List.map_id'']
def xQ(maps:Nat->Option (List (PV×PV))):lj [] maps=maps:=by
 funext s;simp only[lj];cases maps s with
 |none=>rfl
 |some c=>simp[qP]
def kz{objs:Nat->Option (List PV)}:∀ {ks:List Nat} {cs:List (List PV)} {s:Nat},s∉ks->fx objs ks cs s=objs s
 | [],_,_,_=>rfl
 |k::ks,[],_,_=>rfl
 |k::ks,c::cs,s,h=>by
  simp only[aZ,not_or]at h;simp only[fx];rw[kz h.2];simp[h.1]
def kL{objs:Nat->Option (List PV)}:∀ {ks:List Nat} {cs:List (List PV)} {i s:Nat},ks.Nodup->ks[i]? =some s->ks.length=cs.length->fx objs ks cs s=cs[i]?
 | [],_,i,s,_,h,_=>by simp at h
 |k::ks,[],_,_,_,_,hl=>by simp at hl
 |k::ks,c::cs,i,s,hn,h,hl=>by
  simp only[ou]at hn;simp only[fx];cases i with
  |zero=>
   simp at h;subst h;rw[kz hn.1];simp
  |succ i=>
   rw[kL hn.2 (by simpa using h) (by simpa using hl)];simp
def uJ:∀ {ks:List Nat} {i j s:Nat},ks.Nodup->ks[i]? =some s->ks[j]? =some s->i=j
 | [],i,j,s,_,h,_=>by simp at h
 |k::ks,i,j,s,hn,h,h'=>by
  simp only[ou]at hn;cases i<;>cases j
  ·rfl
  ·simp at h h';subst h;exact absurd (b8 h') hn.1
  ·simp at h h';subst h';exact absurd (b8 h) hn.1
  ·rename_i i j;have:=uJ (i:=i) (j:=j) (s:=s) hn.2 (by simpa using h) (by simpa using h');omega
def nE{st:St}:∀ {ks:List Nat} {cs:List (List PV)},dz st ks=some cs->ks.length=cs.length/\∀ (i s:Nat),ks[i]? =some s->st.objs s=cs[i]?
 | [],cs,h=>by cases h;exact⟨rfl,fun i s h=>by simp at h⟩
 |k::ks,cs,h=>by
  unfold dz at h;split at h
  ·rename_i c cs' h1 h2;cases h;obtain⟨hl,hg⟩:=nE h2;refine⟨by simp[hl],fun i s hi=>?_⟩;cases i with
   |zero=>simp at hi;subst hi;simpa using h1
   |succ i=>simpa using hg i s (by simpa using hi)
  ·cases h
def mR:∀ {as:List PV} {ks:List Nat},dw as=some ks->ks.Nodup
 | [],ks,h=>by cases h;exact pE
 |p::ps,ks,h=>by
  unfold dw at h;split at h
  ·rename_i e;cases e
  ·rename_i s off ps' e;cases e;split at h
   ·rename_i ks' hk;split at h
    ·rename_i hb;cases h;exact ou.2 ⟨by simpa using hb.2,mR hk⟩
    ·cases h
   ·cases h
  ·rename_i e;cases e;split at h
   ·exact mR h
   ·cases h
def p9(J mv:List Nat):∀ (as:List PV) (i n:Nat),(fe J mv i n as).length=as.length
 | [],_,_=>rfl
 |p::ps,i,n=>by
  cases p<;>simp[fe,p9 J mv ps]
def rt{J mv:List Nat}:∀ {as:List PV} {ks:List Nat} {i n j:Nat} {q:PV},dw as=some ks->(fe J mv i n as)[j]? =some q->
  (∃ t s,ks[t]? =some s/\as[j]? =some (.ptr s 0)/\q= .ptr (n+t) 0)\/∃ p,as[j]? =some p/\np p=true/\q=if mv.contains (i+j)then ren (bi J) false p else aO p
 | [],ks,i,n,j,q,h,hq=>by simp[fe]at hq
 |p::ps,ks,i,n,j,q,h,hq=>by
  unfold dw at h;split at h
  ·rename_i e;cases e
  ·rename_i s off ps' e;cases e;split at h
   ·rename_i ks' hk;split at h
    ·rename_i hb;cases h;obtain⟨rfl,_⟩:=hb;have hq':(PV.ptr n 0::fe J mv (i+1) (n+1) ps)[j]? =some q:=hq;cases j with
     |zero=>simp at hq';subst hq';exact .inl ⟨0,s,rfl,rfl,by simp⟩
     |succ j=>
      rcases rt hk (by simpa using hq')with⟨t,s',h1,h2,h3⟩|⟨p,h1,h2,h3⟩
      ·exact .inl ⟨t+1,s',by simpa using h1,by simpa using h2,by rw[h3];congr 1;omega⟩
      ·exact .inr ⟨p,by simpa using h1,h2,by rw[h3,show i+1+j=i+(j+1) by omega]⟩
    ·cases h
   ·cases h
  ·rename_i p' ps' hne e;cases e;split at h
   ·rename_i hp;have hq':((if mv.contains i then ren (bi J) false p else aO p)::fe J mv (i+1) n ps)[j]? =some q:=by
     cases p with
     |ptr s o=>simp[np,off]at hp
     |_=>exact hq
    cases j with
    |zero=>simp only[ad,bB]at hq';subst hq';exact .inr ⟨p,rfl,hp,rfl⟩
    |succ j=>
     rcases rt h (by simpa using hq')with⟨t,s',h1,h2,h3⟩|⟨p,h1,h2,h3⟩
     ·exact .inl ⟨t,s',h1,by simpa using h2,h3⟩
     ·exact .inr ⟨p,by simpa using h1,h2,by rw[h3,show i+1+j=i+(j+1) by omega]⟩
   ·cases h
def CJ{J mv:List Nat}:∀ {as:List PV} {i j:Nat} {p:PV},iu J mv i as=true->as[j]? =some p->mv.contains (i+j)=true\/tf (J.contains ·) p=true
 | [],i,j,p,_,h=>by simp at h
 |a::as,i,j,p,hs,h=>by
  simp only[iu,aj,cY]at hs;cases j with
  |zero=>simp at h;subst h;simpa using hs.1
  |succ j=>have:=CJ hs.2 (j:=j) (by simpa using h);rwa [show i+1+j=i+(j+1) by omega]at this
def DG{J:List Nat}:∀ {bs:List Bool} {cs:List (List PV)} {k:Nat} {c:List PV},nI J bs cs=true->(me J bs cs)[k]? =some c->
  ∃ c0,cs[k]? =some c0/\(c=bm (bi J) false c0\/(c=aQ c0/\dN (J.contains ·) c0=true))
 | [],[],k,c,_,h=>by simp[me]at h
 | [],_::_,k,c,hs,h=>by simp[nI]at hs
 |b::bs,[],k,c,_,h=>by simp[me]at h
 |b::bs,d::cs,k,c,hs,h=>by
  simp only[nI,aj,cY]at hs;simp only[me]at h;cases k with
  |zero=>
   simp only[ad,bB]at h;subst h;refine⟨d,rfl,?_⟩;cases b with
   |true=>exact .inl rfl
   |false=>exact .inr ⟨rfl,by simpa using hs.1⟩
  |succ k=>
   obtain⟨c0,h1,h2⟩:=DG hs.2 (k:=k) (by simpa using h);exact⟨c0,by simpa using h1,h2⟩
def yj{J:List Nat}:∀ {bs:List Bool} {cs:List (List PV)},(me J bs cs).length=cs.length
 | [],cs=>by simp[me]
 |b::bs,[]=>by simp[me]
 |b::bs,c::cs=>by simp[me,yj (bs:=bs) (cs:=cs)]
def Gh.hand(G:Gh)(ks J:List Nat):Gh:=
 {com:=G.com,sh:=G.sh,tk:=fun t=>(J[t]?).bind G.tk,ob:=fun k=>(ks[k]?).bind G.ob,nx:=J.length,pv:=fun b=>(G.pv b).bind (bi J),
  xp:=fun b=>(match G.pv b with|some k=>!J.contains k|none=>false)||G.xp b,oe:=fun k=>(ks[k]?).bind G.oe,mb:=fun _=>none}
def G3(G:Gh)(ks J:List Nat):Rn (bi J) (fun _=>false) false G (G.hand ks J) where
 com b o v h _:=h
 sh b x h:=h
 tk k k' h _ _:=by
  have hg:=uQ h;refine⟨(bD.1 hg).1,fun x' hx'=>?_⟩;simp only[Gh.hand,hg,em]at hx';exact⟨x',hx',aP _,fun _=>rfl⟩
 pv b k' o v _ _ h:=by
  simp only[Gh.hand,bU]at h;obtain⟨k,h1,h2⟩:=h;exact .inl ⟨k,h1,h2⟩
 xp b o v _ _ h:=by
  simp only[Gh.hand,cY]at h;rcases h with h|h
  ·split at h
   ·rename_i k hk;exact .inr ⟨k,hk,xY (by simpa using h)⟩
   ·cases h
  ·exact .inl h
def Ew(G:Gh)(ks J:List Nat):Rn (fun _=>none) (J.contains ·) false G (G.hand ks J) where
 com b o v h _:=h
 sh b x h:=h
 tk k k' h:=by cases h
 pv b k' o v _ hK h:=by
  simp only[Gh.hand,bU]at h;obtain⟨k,h1,h2⟩:=h;rw[xY (hK k h1)]at h2;cases h2
 xp b o v _ _ h:=by
  simp only[Gh.hand,cY]at h;rcases h with h|h
  ·split at h
   ·rename_i k hk;exact .inr ⟨k,hk,rfl⟩
   ·cases h
  ·exact .inl h
def Rs.ren{f:Nat->Option Nat}{K:Nat->Bool}{X:Bool}{G G':Gh}(h:Rn f K X G G'){sw:Bool}{cs:List PV}{vs:List Value}(hR:Rs G cs vs)(hn:aX cs=true)(hK:dN K cs=true)(hX:X=true->fT cs=true):Rs G' (bm f sw cs) vs:=by
 obtain⟨hl,hr,h1⟩:=hR;refine⟨by rw[gB];exact hl,fun j p u hp hu=>?_,h1⟩;rw[v8]at hp;cases hc:cs[j]? with
 |none=>rw[hc]at hp;simp at hp
 |some q=>
  rw[hc]at hp;simp at hp;subst hp;exact(hr j q u hc hu).ren h (fun _=>true) (fun s hs=>by cases hs) (j7 hn hc) (lO hK hc) (fun hx=>mu (hX hx) hc)
section
variable {G:Gh} {st st':St} {w:World}
def At(st:St)(ts:List (Nat×Nat)):Prop:=(ts.map (·.1)).Nodup/\∀ q∈ts,q.1<st.nx/\st.cnt q.1=q.2/\st.fl<=q.1
def GO{ts:List (Nat×Nat)}(h1:sG (ts.map (·.1))=true)(h2:ts.all (uH st)=true):At st ts:=by
 refine⟨zl h1,fun q hq=>?_⟩;have:=(cw.1 h2) q hq;simp only[uH,iQ,aj,decide_eq_true_eq,jO]at this;exact⟨this.1.1,this.1.2,this.2⟩
def zB{ts:List (Nat×Nat)}(h:At st ts){t k:Nat}(hk:(ts.map (·.1))[t]? =some k):k<st.nx/\(ts.map (·.2)).getD t 0=st.cnt k/\st.fl<=k/\t<ts.length:=by
 rw[dB,av]at hk;obtain⟨q,hq,rfl⟩:=hk;obtain⟨h1,h2,h3⟩:=h.2 q (b8 hq);exact⟨h1,by simp[gP,dB,hq,h2],h3,(bD.1 hq).1⟩
def H8(J:List Nat)(cs ds:List (List PV)):Prop:=∀ (k:Nat) c,ds[k]? =some c->∃ c0,cs[k]? =some c0/\(c=bm (bi J) false c0\/(c=aQ c0/\dN (J.contains ·) c0=true))
def bM.hand(hI:bM P B G st w){ks:List Nat}{cs ds:List (List PV)}(hn:ks.Nodup)(hg:dz st ks=some cs){ts:List (Nat×Nat)}(hts:At st ts)(hds:ds.length=cs.length)(hbx:H8 (ts.map (·.1)) cs ds):
  bM P B (G.hand ks (ts.map (·.1))) (bV (ts.map (·.2)) ds) w:=by
 obtain⟨hl,hget⟩:=nE hg;generalize hJ:ts.map (·.1)=J at*;have hJn:J.Nodup:=by rw[<-hJ];exact hts.1
 have hJl:J.length=ts.length:=by rw[<-hJ];simp
 have hJk:∀ {t k:Nat},J[t]? =some k->k<st.nx/\(ts.map (·.2)).getD t 0=st.cnt k/\st.fl<=k/\t<ts.length:=fun h=>zB hts (by rw[hJ];exact h);have htk:∀ {t x},(G.hand ks J).tk t=some x->∃ k,J[t]? =some k/\G.tk k=some x:=by
  intro t x h;simpa only[Gh.hand,bU]using h
 have hob:∀ {k b},(G.hand ks J).ob k=some b->∃ s,ks[k]? =some s/\G.ob s=some b:=by
  intro k b h;simpa only[Gh.hand,bU]using h
 refine⟨hI.com,hI.sh,by simp[Gh.hand,bV,hJl],fun t x h=>?_,fun t h=>?_,fun t r h=>?_,fun t u r q h1 h2 hb=>?_,fun t r h=>?_,?_,?_,?_,?_,?_,fun b k h=>?_,fun b h=>?_,fun b o v h=>?_,fun s b e sz h1 h2=>?_,fun s es h=>(by cases h),fun s b h=>(by cases h),fun s u b h=>(by cases h),fun s _=>rfl,fun k b h=>?_,fun t m h=>by obtain⟨k,hk,hx⟩:=htk h;exact hI.ful k m hx⟩
 ·obtain⟨k,hk,hx⟩:=htk h;obtain⟨h1,h2,_,h4⟩:=hJk hk;refine⟨by simpa [bV]using h4,?_⟩;simp only[bV];rw[h2,(hI.cnt k x hx).2]
 ·have hlt:t<J.length:=by simpa [bV,hJl]using h
  have hk:J[t]? =some J[t]:=aK hlt;obtain⟨x,hx⟩:=hI.live _ (hJk hk).1;exact⟨x,by simp only[Gh.hand,hk,em];exact hx⟩
 ·obtain⟨k,hk,hx⟩:=htk h;obtain⟨h1,h2,h3,h4,h5,h6⟩:=hI.room k r hx;refine⟨h1,h2,h3,h4,h5,?_⟩;have hp:=(hI.priv k r hx).1 (hJk hk).2.2.1;simp[Gh.hand,hp,h6,b8 hk]
 ·obtain⟨k,hk,hx⟩:=htk h1;obtain⟨l,hl',hy⟩:=htk h2;have:=hI.apart k l r q hx hy hb;subst this;exact uJ hJn hk hl'
 ·obtain⟨k,hk,hx⟩:=htk h;have hp:=(hI.priv k r hx).1 (hJk hk).2.2.1;have hpi:(G.hand ks J).pv r.b=some t:=by simp only[Gh.hand,hp,em];exact Aa hJn hk
  rw[hpi];exact⟨fun _=>rfl,fun j hj=>(Option.some.inj hj).symm⟩
 ·intro k c h;obtain⟨c0,h1,h2⟩:=hbx k c h;have hk:k<ks.length:=by have:=(bD.1 h1).1;omega
  have hks:ks[k]? =some ks[k]:=aK hk;have hs:st.objs ks[k]=some c0:=by rw[hget k _ hks,h1]
  obtain⟨b,e,vs,hb,hh,hR⟩:=hI.objs _ c0 hs;refine⟨b,e,vs,by simp only[Gh.hand,hks,em];exact hb,hh,?_⟩;rcases h2 with rfl|⟨rfl,h2⟩
  ·exact hR.ren (G3 G ks J) (hI.npo _ c0 hs) (k9 c0) (by simp)
  ·exact hR.ren (Ew G ks J) (hI.npo _ c0 hs) h2 (by simp)
 ·intro k b h;obtain⟨s,h1,h2⟩:=hob h;exact hI.obs s b h2
 ·intro k l b h h';obtain⟨s,h1,h2⟩:=hob h;obtain⟨u,h3,h4⟩:=hob h';have:=hI.obj s u b h2 h4;subst this;exact uJ hn h1 h3
 ·intro k h;have h':ds[k]? =none:=h;have:ks.length<=k:=by have:=ox.1 h';omega
  simp[Gh.hand,cE this]
 ·intro k c h;obtain⟨c0,h1,h2⟩:=hbx k c h;have hk:k<ks.length:=by have:=(bD.1 h1).1;omega
  have hs:st.objs ks[k]=some c0:=by rw[hget k _ (aK hk),h1]
  have:=hI.npo _ c0 hs;rcases h2 with rfl|⟨rfl,h2⟩
  ·exact rQ this
  ·exact AR this
 ·simp only[Gh.hand,bU]at h;obtain⟨k',h1,_⟩:=h;exact hI.pvl b k' h1
 ·simp only[Gh.hand,cY]at h;rcases h with h|h
  ·split at h
   ·rename_i k hk;exact hI.pvl b k hk
   ·cases h
  ·exact hI.xpl b h
 ·obtain⟨h1,h2,h3⟩:=hI.base b o v h;exact⟨h1,by simp[Gh.hand,h2],h3⟩
 ·simp only[Gh.hand,bU]at h1 h2;obtain⟨s1,h3,h4⟩:=h1;obtain⟨s2,h5,h6⟩:=h2;rw[h3]at h5;cases h5;exact hI.oes s1 b e sz h4 h6
 ·obtain⟨s,h1,h2⟩:=hob h;obtain⟨h3,h4⟩:=hI.obx s b h2;simp[Gh.hand,h3,h4]
def Gh.back(G G1:Gh)(J:List Nat)(m:Nat)(cl:Bool):Gh:=
 {com:=G1.com,sh:=G1.sh,tk:=fun t=>if t<G.nx then(if J.contains t then some (.full 0)else G.tk t)else G1.tk (t-G.nx),ob:=G.ob,nx:=G.nx+m,
  pv:=fun b=>match G1.pv b with
   |some k=>some (G.nx+k)
   |none=>if cl then(match G.pv b with|some k=>if J.contains k then none else some k|none=>none)else none,
  xp:=G.xp,oe:=G.oe,mb:=G.mb}
def G4{G G1:Gh}{ks J:List Nat}{m:Nat}{cl:Bool}(hxp:G1.xp=(G.hand ks J).xp)(hm:G1.nx=m):Rn (fun k=>some (G.nx+k)) (fun _=>false) cl G1 (G.back G1 J m cl) where
 com b o v h _:=h
 sh b x h:=h
 tk k k' h _ hlt:=by
  cases h;refine⟨by simp[Gh.back];omega,fun x' hx'=>?_⟩;simp only[Gh.back]at hx';rw[ai (by omega),Nat.add_sub_cancel_left]at hx';exact⟨x',hx',aP _,fun _=>rfl⟩
 pv b k' o v _ _ h:=by
  simp only[Gh.back]at h;split at h
  ·rename_i k hk;cases h;exact .inl ⟨k,hk,rfl⟩
  ·split at h
   ·rename_i hc;split at h
    ·rename_i k hk;split at h
     ·cases h
     ·rename_i hJ;refine .inr ⟨hc,?_⟩;rw[hxp];simp only[Gh.hand,hk,cY];exact .inl (by simpa using hJ)
    ·cases h
   ·cases h
 xp b o v _ _ h:=by
  simp only[Gh.back]at h;exact .inl (by rw[hxp];simp[Gh.hand,h])
def rq{G:Gh}{ks J:List Nat}{b:Nat}(h:∀ k,G.pv b=some k->J.contains k=false):(G.hand ks J).pv b=none:=by
 simp only[Gh.hand];cases hp:G.pv b with
 |none=>rfl
 |some k=>simp only[em];exact xY (h k hp)
def GX{G G1:Gh}{ks J:List Nat}{m:Nat}{cl:Bool}(hle:sZ (G.hand ks J) G1):Rn some (J.contains ·) false G (G.back G1 J m cl) where
 com b o v h hK:=(hle.com b o v h (rq hK)).1
 sh b x h:=hle.sh b x h
 tk k k' h hK hlt:=by
  cases h;refine⟨by simp[Gh.back];omega,fun x' hx'=>?_⟩;simp only[Gh.back,am hlt]at hx';rw[ai (by rw[hK];simp)]at hx';exact⟨x',hx',aP _,fun _=>rfl⟩
 pv b k' o v h hK hp:=by
  have h1:=(hle.com b o v h (rq hK)).2;simp only[Gh.back,h1]at hp;split at hp
  ·split at hp
   ·rename_i k hk;split at hp
    ·cases hp
    ·cases hp;exact .inl ⟨_,hk,rfl⟩
   ·cases hp
  ·cases hp
 xp b o v _ _ h:= .inl h
def R.stay{G G1:Gh}{ks J:List Nat}{m:Nat}{cl:Bool}(hle:sZ (G.hand ks J) G1){p:PV}{v:Value}(hR:R G p v):R (G.back G1 J m cl) (bY J p) v:=by
 unfold bY;split
 ·rename_i ht;have:=hR.ren (sw:=false) (GX (m:=m) (cl:=cl) hle) (fun _=>false) (fun s _=>rfl) (tX p) ht (by simp);rwa [ren_some]at this
 ·exact .any v
def zY{J:List Nat}{p:PV}(h:np p=true):np (bY J p)=true:=by
 unfold bY;split
 ·exact h
 ·rfl
def td{J:List Nat}{p:PV}(h:cO p=true):cO (bY J p)=true:=by
 unfold bY;split
 ·exact h
 ·rfl
def Rs.stay{G G1:Gh}{ks J:List Nat}{m:Nat}{cl:Bool}(hle:sZ (G.hand ks J) G1){cs:List PV}{vs:List Value}(hR:Rs G cs vs):Rs (G.back G1 J m cl) (cs.map (bY J)) vs:=by
 obtain⟨hl,hr,h1⟩:=hR;refine⟨by simpa using hl,fun j p u hp hu=>?_,h1⟩;rw[dB,av]at hp;obtain⟨q,hq,rfl⟩:=hp;exact(hr j q u hq hu).stay hle
def EL{J:List Nat}{cs:List PV}(h:aX cs=true):aX (cs.map (bY J))=true:=
 mP fun p hp=>by
  obtain⟨q,hq,rfl⟩:=cX.1 hp;exact zY (gm h hq)
def bM.back(hI:bM P B G st w){ks:List Nat}{cs cs':List (List PV)}{ns:List Nat}{cl:Bool}(hn:ks.Nodup)(hg:dz st ks=some cs)(hlen:cs'.length=cs.length){ts:List (Nat×Nat)}(hts:At st ts){G1:Gh}{w1:World}
  (hI1:bM P B G1 (bV ns cs') w1) (hS1:cQ (G.hand ks (ts.map (·.1))) w G1 w1) (hob1:G1.ob=(G.hand ks (ts.map (·.1))).ob) (hoe1:∀ k,k<cs.length->G1.oe k=(G.hand ks (ts.map (·.1))).oe k) (hcs:∀ c∈cs',aX c=true) (hcl:cl=true->∀ c∈cs',fT c=true):
  bM P B (G.back G1 (ts.map (·.1)) ns.length cl) {st.more ns with cnt:=(fun t=>if(ts.map (·.1)).contains t then 0 else(st.more ns).cnt t),objs:=fx (iZ (ts.map (·.1)) st.objs) ks (cs'.map (bm (fun k=>some (st.nx+k)) false)),maps:=lj (ts.map (·.1)) st.maps,fl:=if cl then st.fl else st.nx} w1/\
  cQ G w (G.back G1 (ts.map (·.1)) ns.length cl) w1:=by
 obtain⟨hl,hget⟩:=nE hg;generalize hJ:ts.map (·.1)=J at*;have hJn:J.Nodup:=by rw[<-hJ];exact hts.1
 have hJk:∀ {t k:Nat},J[t]? =some k->k<st.nx/\st.fl<=k:=fun h=>by
  have:=zB hts (by rw[hJ];exact h);exact⟨this.1,this.2.2.1⟩
 have hJlt:∀ {k:Nat},J.contains k=true->k<st.nx:=fun h=>by
  obtain⟨i,hi,e⟩:=d7 (ff.1 h);exact(hJk (by rw[<-e];exact aK hi)).1
 have hnx:=hI.nx;have hnx1:G1.nx=ns.length:=hI1.nx;have hxp:G1.xp=(G.hand ks J).xp:=hS1.le.xp;have hsz:=hS1.size;have old:∀ {t r},G.tk t=some (.room r)->r.b<w.heap.size:=by
  intro t r h;obtain⟨h1,_⟩:=hI.room t r h;obtain⟨cur,hc,_⟩:=hI.sh _ _ _ h1;exact(bf.1 hc).1
 have handT:∀ {t r},(G.hand ks J).tk t=some (.room r)->∃ k,J[t]? =some k/\G.tk k=some (.room r):=by
  intro t r h;simpa only[Gh.hand,bU]using h
 have newT:∀ {t r},G1.tk t=some (.room r)->(∃ k q,J.contains k=true/\G.tk k=some (.room q)/\q.b=r.b)\/w.heap.size<=r.b:=by
  intro t r h;rcases hS1.nearT t r h with⟨u,q,hu,hq⟩|h
  ·obtain⟨k,hk,hx⟩:=handT hu;exact .inl ⟨k,q,ff.2 (b8 hk),hx,hq⟩
  ·exact .inr h
 have comB:∀ {b o v},G1.com b o=some v->b<w.heap.size->G.com b o=some v\/∃ k q,J.contains k=true/\G.tk k=some (.room q)/\q.b=b:=by
  intro b o v h hb;rcases hS1.nearC b o v h with h|⟨t,r,hr,he⟩|h
  ·exact .inl h
  ·obtain⟨k,hk,hx⟩:=handT hr;exact .inr ⟨k,r,ff.2 (b8 hk),hx,he⟩
  ·omega
 have shB:∀ {b x},G1.sh b=some x->b<w.heap.size->G.sh b=some x:=by
  intro b x h hb;rcases hS1.nearS b x h with h|h
  ·exact h
  ·omega
 have pvB:∀ {b},b<w.heap.size->(∀ k,G.pv b=some k->J.contains k=false)->G1.pv b=none:=by
  intro b hb hK;cases h:G1.pv b with
  |none=>rfl
  |some k=>
   rcases hS1.nearP b k h with⟨k',hk'⟩|hle
   ·rw[rq hK]at hk';cases hk'
   ·omega
 have tkAt:∀ {t x},(G.back G1 J ns.length cl).tk t=some x->(t<G.nx/\J.contains t=true/\x= .full 0)\/(t<G.nx/\J.contains t=false/\G.tk t=some x)\/(G.nx<=t/\J.contains t=false/\G1.tk (t-G.nx)=some x):=by
  intro t x h;by_cases ht:t<G.nx
  ·simp only[Gh.back,am ht]at h;cases hj:J.contains t with
   |true=>rw[hj]at h;simp at h;exact .inl ⟨ht,rfl,h.symm⟩
   |false=>rw[hj]at h;exact .inr (.inl ⟨ht,rfl,by simpa using h⟩)
  ·simp only[Gh.back,ai ht]at h;refine .inr (.inr ⟨by omega,?_,h⟩);cases hj:J.contains t with
   |false=>rfl
   |true=>have:=hJlt hj;omega
 have nA:∀ {k b},G1.ob k=some b->∃ s,ks[k]? =some s/\G.ob s=some b:=by
  intro k b h;rw[hob1]at h;simpa only[Gh.hand,bU]using h
 have keyIn:∀ {s:Nat},s∈ks->∃ i:Nat,ks[i]? =some s:=fun h=>by
  obtain⟨i,hi,e⟩:=d7 h;exact⟨i,by rw[<-e];exact aK hi⟩
 have hmlen:ks.length=(cs'.map (bm (fun k=>some (st.nx+k)) false)).length:=by simp;omega
 have objAt:∀ {s c},fx (iZ J st.objs) ks (cs'.map (bm (fun k=>some (st.nx+k)) false)) s=some c->(∃ (i:Nat) (c0:List PV),ks[i]? =some s/\cs'[i]? =some c0/\c=bm (fun k=>some (st.nx+k)) false c0)\/(s∉ks/\∃ c0,st.objs s=some c0/\c=c0.map (bY J)):=by
  intro s c h;by_cases hs:s∈ks
  ·obtain⟨i,hi⟩:=keyIn hs;rw[kL hn hi hmlen,dB,av]at h;obtain⟨c0,h1,h2⟩:=h;exact .inl ⟨i,c0,hi,h1,h2.symm⟩
  ·rw[kz hs]at h;simp only[iZ,av]at h;obtain⟨c0,h1,h2⟩:=h;exact .inr ⟨hs,c0,h1,h2.symm⟩
 have boxCells:∀ {s b},G.ob s=some b->∃ c e,w.heap[b]? =some (.cells c e (0,0)):=by
  intro s b h;cases hs:st.objs s with
  |none=>rw[hI.nob s hs]at h;cases h
  |some c=>
   obtain⟨b',e,vs,h1,h2,_⟩:=hI.objs s c hs;rw[h]at h1;cases h1;exact⟨_,_,h2⟩
 have roomCells:∀ {t r},G.tk t=some (.room r)->∃ c e,w.heap[r.b]? =some (.cells c e (0,0)):=by
  intro t r h;obtain⟨h1,_⟩:=hI.room t r h;obtain⟨cur,hc,_⟩:=hI.sh _ _ _ h1;exact⟨_,_,hc⟩
 have noBoxRoom:∀ {s t b r},G.ob s=some b->G.tk t=some (.room r)->r.b≠b:=by
  rintro s t b r h1 h2 rfl;have:=(hI.obs s _ h1).2.2;rw[(hI.room t r h2).1]at this;cases this
 have hkept:∀ b,b<w.heap.size->(∀ s,s∈ks->G.ob s≠some b)->(∀ t r,G.tk t=some (.room r)->r.b≠b)->w1.heap[b]? =w.heap[b]? :=by
  intro b hb ho ht;refine hS1.kept b hb (fun k h=>?_) (fun t r h=>?_) (fun s h=>by cases h)
  ·simp only[Gh.hand,bU]at h;obtain⟨s,h1,h2⟩:=h;exact ho s (b8 h1) h2
  ·obtain⟨k,_,hx⟩:=handT h;exact ht k r hx
 have hmap:∀ {b:Nat} {vs:Array MapEntry} {clk:Nat},w.heap[b]? =some (.map vs clk)->w1.heap[b]? =some (.map vs clk):=by
  intro b vs clk h;rw[hkept b (bf.1 h).1 (fun s _ hs=>?_) (fun t r hr e=>?_)]
  ·exact h
  ·obtain⟨c,e,h2⟩:=boxCells hs;rw[h]at h2;cases h2
  ·obtain⟨c,e',h2⟩:=roomCells hr;rw[e,h]at h2;cases h2
 have hbox:∀ {s b:Nat},s∉ks->G.ob s=some b->w1.heap[b]? =w.heap[b]? :=by
  intro s b hs hb;refine hkept b (hI.obs s b hb).1 (fun u hu h=>?_) (fun t r hr=>noBoxRoom hb hr);have:=hI.obj u s b h hb;subst this;exact hs hu
 refine⟨⟨hI1.com,hI1.sh,?_,?_,?_,?_,?_,?_,?_,?_,hI.obj,?_,?_,?_,fun b h=>by have:=hI.xpl b h;omega,?_,?_,?_,?_,hI.mbi,?_,fun s b h=>?_,fun t m h=>by
  rcases tkAt h with⟨ht,hj,h⟩|⟨ht,hj,h⟩|⟨ht,hj,h⟩
  ·cases h;rfl
  ·exact hI.ful t m h
  ·exact hI1.ful _ m h⟩,⟨⟨fun b o v hc hp=>?_,hS1.le.sh,rfl⟩,hsz,fun b hb ho ht hm=>hkept b hb (fun s _=>ho s) ht,fun s b h=> .inl ⟨s,h⟩,?_,?_,hS1.nearS,?_,fun s b h=> .inl ⟨s,h⟩,hS1.eff⟩⟩
 ·simp[Gh.back,St.more_nx,hnx]
 ·intro t x h;rcases tkAt h with⟨ht,hj,rfl⟩|⟨ht,hj,h⟩|⟨ht,hj,h⟩
  ·refine⟨by simp only[St.more_nx];omega,?_⟩;simp only[hj,if_true];rfl
  ·obtain⟨h1,h2⟩:=hI.cnt t x h;refine⟨by simp only[St.more_nx];omega,?_⟩;simp only[hj,St.more_old st ns h1];exact h2
  ·obtain⟨h1,h2⟩:=hI1.cnt _ x h;simp only[bV]at h1 h2;refine⟨by simp only[St.more_nx];omega,?_⟩;simp only[hj,St.more_new st ns (show st.nx<=t by omega) (by omega)];rw[<-hnx];exact h2
 ·intro t ht;simp only[St.more_nx]at ht;by_cases h:t<G.nx
  ·cases hj:J.contains t with
   |true=>exact⟨.full 0,by simp only[Gh.back,am h,hj,if_true]⟩
   |false=>
    obtain⟨x,hx⟩:=hI.live t (by omega);exact⟨x,by simp only[Gh.back,am h,hj];exact hx⟩
  ·obtain⟨x,hx⟩:=hI1.live (t-G.nx) (by simp only[bV];omega);exact⟨x,by simp only[Gh.back,ai h];exact hx⟩
 ·intro t r h;rcases tkAt h with⟨ht,hj,h⟩|⟨ht,hj,h⟩|⟨ht,hj,h⟩
  ·cases h
  ·obtain⟨h1,h2,h3,h4,h5,h6⟩:=hI.room t r h;refine⟨hS1.le.sh _ _ h1,h2,h3,h4,fun o ho=>?_,h6⟩;cases hc:G1.com r.b o with
   |none=>exact hc
   |some v=>
    rcases comB hc (old h)with h'|⟨k,q,hk,hq,hb⟩
    ·rw[h5 o ho]at h';cases h'
    ·have:=hI.apart t k r q h hq hb.symm;subst this;rw[hj]at hk;cases hk
  ·obtain⟨h1,h2,h3,h4,h5,h6⟩:=hI1.room _ r h;refine⟨h1,h2,h3,h4,h5,?_⟩;rw[hxp]at h6;simp only[Gh.hand,kH]at h6;exact h6.2
 ·intro t u r q h1 h2 hb;rcases tkAt h1 with⟨ht,hj,h1⟩|⟨ht,hj,h1⟩|⟨ht,hj,h1⟩
  ·cases h1
  ·rcases tkAt h2 with⟨hu,hi,h2⟩|⟨hu,hi,h2⟩|⟨hu,hi,h2⟩
   ·cases h2
   ·exact hI.apart t u r q h1 h2 hb
   ·rcases newT h2 with⟨k,q',hk,hq',hb'⟩|hge
    ·have:=hI.apart t k r q' h1 hq' (by rw[hb,hb']);subst this;rw[hj]at hk;cases hk
    ·have:=old h1;omega
  ·rcases tkAt h2 with⟨hu,hi,h2⟩|⟨hu,hi,h2⟩|⟨hu,hi,h2⟩
   ·cases h2
   ·rcases newT h1 with⟨k,q',hk,hq',hb'⟩|hge
    ·have:=hI.apart u k q q' h2 hq' (by rw[<-hb,hb']);subst this;rw[hi]at hk;cases hk
    ·have:=old h2;omega
   ·have:=hI1.apart _ _ r q h1 h2 hb;omega
 ·intro t r h;rcases tkAt h with⟨ht,hj,h⟩|⟨ht,hj,h⟩|⟨ht,hj,h⟩
  ·cases h
  ·have hp:=hI.priv t r h;have hpb:G1.pv r.b=none:=pvB (old h) fun k hk=>by rw[hp.2 k hk];exact hj
   simp only[Gh.back,hpb];cases cl with
   |true=>
    simp only[if_true];refine⟨fun hf=>?_,fun j hjj=>?_⟩
    ·simp[hp.1 hf,show t∉J by simpa using hj]
    ·split at hjj
     ·rename_i k hk;split at hjj
      ·cases hjj
      ·cases hjj;exact hp.2 _ hk
     ·cases hjj
   |false=>simp;omega
  ·have hp:=hI1.priv _ r h;have h1:=hp.1 (by simp[bV]);simp only[Gh.back,h1];refine⟨fun _=>by simp;omega,fun j hj=>by simp at hj;omega⟩
 ·intro s c h;rcases objAt h with⟨i,c0,hi,hc,rfl⟩|⟨hs,c0,hc,rfl⟩
  ·obtain⟨b,e,vs,hb,hh,hR⟩:=hI1.objs i c0 hc;obtain⟨s',h1,h2⟩:=nA hb;rw[hi]at h1;cases h1;have hm:=b8 hc;have:=hR.ren (sw:=false) (G4 (m:=ns.length) (cl:=cl) hxp hnx1) (hcs c0 hm) (k9 c0) (fun hx=>hcl hx c0 hm);rw[hnx]at this;exact⟨b,e,vs,h2,hh,this⟩
  ·obtain⟨b,e,vs,hb,hh,hR⟩:=hI.objs s c0 hc;exact⟨b,e,vs,hb,by rw[hbox hs hb];exact hh,hR.stay hS1.le⟩
 ·intro s b h;obtain⟨h1,h2,h3⟩:=hI.obs s b h;refine⟨by omega,fun o=>?_,?_⟩
  ·cases hc:G1.com b o with
   |none=>exact hc
   |some v=>
    rcases comB hc h1 with h'|⟨k,q,hk,hq,hb⟩
    ·rw[h2 o]at h';cases h'
    ·exact absurd hb (noBoxRoom h hq)
  ·cases hc:G1.sh b with
   |none=>exact hc
   |some x=>have:=shB hc h1;rw[h3]at this;cases this
 ·intro s h;by_cases hs:s∈ks
  ·obtain⟨i,hi⟩:=keyIn hs;have h':fx (iZ J st.objs) ks (cs'.map (bm (fun k=>some (st.nx+k)) false)) s=none:=h;rw[kL hn hi hmlen]at h';have:=ox.1 h';have:=(bD.1 hi).1;omega
  ·have h':fx (iZ J st.objs) ks (cs'.map (bm (fun k=>some (st.nx+k)) false)) s=none:=h;rw[kz hs]at h';simp only[iZ,fD]at h';exact hI.nob s h'
 ·intro s c h;rcases objAt h with⟨i,c0,hi,hc,rfl⟩|⟨hs,c0,hc,rfl⟩
  ·exact rQ (hcs c0 (b8 hc))
  ·exact EL (hI.npo s c0 hc)
 ·intro b k h;simp only[Gh.back]at h;split at h
  ·rename_i k' hk';exact hI1.pvl b k' hk'
  ·split at h
   ·split at h
    ·rename_i k' hk';have:=hI.pvl b k' hk';omega
    ·cases h
   ·cases h
 ·intro b o v h;obtain⟨h1,h2,h4⟩:=hI1.base b o v h;have h3:=(hI.base b o v h).2.1;exact⟨h1,by simp[Gh.back,h2,h3],h4⟩
 ·intro s b e sz h1 h2;by_cases hs:s∈ks
  ·obtain⟨i,hi⟩:=keyIn hs;exact hI1.oes i b e sz (by rw[hob1];simp only[Gh.hand,hi,em];exact h1) (by rw[hoe1 i (by have:=(bD.1 hi).1;omega)];simp only[Gh.hand,hi,em];exact h2)
  ·obtain⟨h3,cur,h4⟩:=hI.oes s b e sz h1 h2;exact⟨h3,cur,by rw[hbox hs h1];exact h4⟩
 ·intro s es h;simp only[lj,av]at h;obtain⟨es0,h0,rfl⟩:=h;obtain⟨b,vs,clk,h1,h2,h3,h4⟩:=hI.mobj s es0 h0;refine⟨b,vs,clk,h1,hmap h2,⟨by simpa using h3.1,fun i q x hq hx=>?_⟩,fun q hq=>?_⟩
  ·rw[dB,av]at hq;obtain⟨q0,hq0,rfl⟩:=hq;obtain⟨h5,h6⟩:=h3.2 i q0 x hq0 hx;exact⟨h5,h6.stay hS1.le⟩
  ·obtain⟨q0,hq0,rfl⟩:=cX.1 hq;exact zY (h4 q0 hq0)
 ·intro s b h;obtain⟨vs,clk,h2⟩:=hI.mbs s b h;exact⟨vs,clk,hmap h2⟩
 ·intro s h;simp only[lj,fD]at h;exact hI.nomb s h
 ·obtain⟨h1,h2⟩:=hI.obx s b h;have h3:=pvB (hI.obs s b h).1 (fun k hk=>by rw[h1]at hk;cases hk);exact⟨by simp[Gh.back,h3,h1],h2⟩
 ·have h1:=hS1.le.com b o v hc (rq fun k hk=>by rw[hp]at hk;cases hk);exact⟨h1.1,by simp[Gh.back,h1.2,hp]⟩
 ·intro t r h;rcases tkAt h with⟨ht,hj,h⟩|⟨ht,hj,h⟩|⟨ht,hj,h⟩
  ·cases h
  ·exact .inl ⟨t,r,h,rfl⟩
  ·rcases newT h with⟨k,q,_,hq,hb⟩|hge
   ·exact .inl ⟨k,q,hq,hb⟩
   ·exact .inr hge
 ·intro b o v h;rcases hS1.nearC b o v h with h|⟨t,r,hr,he⟩|h
  ·exact .inl h
  ·obtain⟨k,_,hx⟩:=handT hr;exact .inr (.inl ⟨k,r,hx,he⟩)
  ·exact .inr (.inr h)
 ·intro b k h;simp only[Gh.back]at h;split at h
  ·rename_i k' hk';rcases hS1.nearP b k' hk' with⟨j,hj⟩|hge
   ·simp only[Gh.hand,bU]at hj;obtain⟨k2,hk2,_⟩:=hj;exact .inl ⟨k2,hk2⟩
   ·exact .inr hge
  ·split at h
   ·split at h
    ·rename_i k' hk';exact .inl ⟨k',hk'⟩
    ·cases h
   ·cases h
def yd{cf:aJ}(hcf:jD P B cf)(hI:bM P B G st w){f:Nat}{as as':List PV}{vs:List Value}(hl:as.length=vs.length)(hR:∀ (j:Nat) p v,as[j]? =some p->vs[j]? =some v->R G p v/\cO p=true)
  {ks:List Nat} (hks:dw as=some ks) {cs ds:List (List PV)} (hcs:dz st ks=some cs) {ts:List (Nat×Nat)} (hts:At st ts) (hds:ds.length=cs.length) (hbx:H8 (ts.map (·.1)) cs ds) (hl':as'.length=as.length)
  (has:∀ (j:Nat) q,as'[j]? =some q->(∃ t s,ks[t]? =some s/\as[j]? =some (.ptr s 0)/\q= .ptr t 0)\/∃ p,as[j]? =some p/\np p=true/\(q=ren (bi (ts.map (·.1))) false p\/(q=aO p/\tf ((ts.map (·.1)).contains ·) p=true)))
  {r:PV} {ns:List Nat} {cs':List (List PV)} (hcall:cf f as' (ts.map (·.2)) ds=some (r,ns,cs')) (hlen:cs'.length=cs.length):
  mg P (sS f)/\np r=true/\Calls P (sS f) vs.toArray w fun e w'=>∃ v G',rG f vs v e/\R G' (ren (fun k=>some (st.nx+k)) false r) v/\
   bM P B G' {st.more ns with cnt:=(fun t=>if(ts.map (·.1)).contains t then 0 else(st.more ns).cnt t),objs:=fx (iZ (ts.map (·.1)) st.objs) ks (cs'.map (bm (fun k=>some (st.nx+k)) false)),maps:=lj (ts.map (·.1)) st.maps,fl:=if fU r && cs'.all fT then st.fl else st.nx} w'/\
   cQ G w G' w'/\Rn some ((ts.map (·.1)).contains ·) false G G'/\G'.bx=G.bx/\∀ s b,G.ob s=some b->s∉ks->w'.heap[b]? =w.heap[b]? :=by
 obtain⟨hE,_,hnp,hcs',hC⟩:=hcf f _ _ _ r ns cs' hcall;have hnd:=mR hks;refine⟨hE,hnp,?_⟩;refine(hC (G.hand ks (ts.map (·.1))) w vs (hI.hand hnd hcs hts hds hbx) (by rw[hl'];exact hl) (fun j q v hq hv=>?_)).mono ?_
 ·rcases has j q hq with⟨t,s,h1,h2,rfl⟩|⟨p,h1,h2,h3⟩
  ·have:=(hR j _ v h2 hv).1;cases this with
   |ptr _ _ b hb=>exact⟨.ptr _ _ b (by simp[Gh.hand,h1,hb]),rfl⟩
  ·rcases h3 with rfl|⟨rfl,h3⟩
   ·refine⟨(hR j p v h1 hv).1.ren (G3 G ks _) (fun _=>true) (fun s hs=>by cases hs) h2 (oa p) (by simp),ga ?_⟩;simp only[np,gT];exact h2
   ·refine⟨(hR j p v h1 hv).1.ren (Ew G ks _) (fun _=>true) (fun s hs=>by cases hs) h2 h3 (by simp),ga ?_⟩;simp only[np,aO,gT];exact h2
 ·rintro e w1 ⟨v,G1,hret,hR1,hI1,hS1,hob1,hoe1⟩;generalize hclD:(fU r && cs'.all fT)=cl;have hcl1:cl=true->fU r=true/\∀ c∈cs',fT c=true:=by
   intro hc;rw[hc]at hclD;simp only[aj,cw]at hclD;exact hclD
  obtain⟨hI2,hS2⟩:=hI.back hnd hcs hlen hts hI1 hS1 hob1 (fun k hk=>hoe1 k (by omega)) hcs' (fun hc=>(hcl1 hc).2);refine⟨v,G.back G1 (ts.map (·.1)) ns.length cl,hret,?_,hI2,hS2,GX hS1.le,rfl,fun s b hb hs=>?_⟩;rotate_left
  ·refine hS1.kept b (hI.obs s b hb).1 (fun u hu=>?_) (fun t r hr e=>?_) (fun u hu=>?_)
   ·obtain⟨k,hk,hx⟩:∃ k,ks[u]? =some k/\G.ob k=some b:=by simpa only[Gh.hand,bU]using hu
    exact hs (hI.obj s k b hb hx▸b8 hk)
   ·obtain⟨k,hk,hx⟩:∃ k,(ts.map (·.1))[t]? =some k/\G.tk k=some (.room r):=by simpa only[Gh.hand,bU]using hr
    have h1:=(hI.obs s b hb).2.2;rw[<-e,(hI.room k r hx).1]at h1;cases h1
   ·cases hu
  rw[<-hI.nx];exact hR1.ren (G4 hS1.le.xp hI1.nx) (fun _=>true) (fun s hs=>by cases hs) hnp (oa r) (fun hc=>(hcl1 hc).1)
mutual
theorem zC(n:Nat):∀ (p:PV),tf (fun k=>decide (k<n)) (ren (fun k=>some (n+k)) false p)=true
 | .list m cs t=>by
  rw[gx];have h:=qD n cs;cases t<;>simp[tf,aF.ren,aF.free,aF.of,h]
 | .iptr cs o t=>by
  rw[tM];have h:=qD n cs;cases t<;>simp[tf,aF.ren,aF.free,aF.of,h]
 | .agg cs=>by simp[ren,tf,qD n cs]
 | .tup cs=>by simp[ren,tf,qD n cs]
 | .fn g cs=>by simp[ren,tf,qD n cs]
 | .ptr _ _=>rfl
 | .osl _ _ _ _=>rfl
 | .mp _=>rfl
 | .any=>rfl
 | .hole=>rfl
 | .int _ _=>rfl
 | .bool _=>rfl
 | .str _=>rfl
 | .nilp=>rfl
 | .nili=>rfl
 | .err=>rfl
theorem qD(n:Nat):∀ (ps:List PV),dN (fun k=>decide (k<n)) (bm (fun k=>some (n+k)) false ps)=true
 | []=>rfl
 |p::ps=>by simp[bm,dN,zC n p,qD n ps]
end
def Gh.mask(G:Gh)(ks:List Nat):Gh where
 com b o:=match G.pv b with
  |some _=>none
  |none=>G.com b o
 sh:=G.sh
 tk t:=match G.tk t with
  |some (.room r)=>if G.pv r.b=some t then some (.full 0)else some (.room r)
  |x=>x
 ob s:=if ks.contains s then G.ob s else none
 nx:=G.nx
 pv _:=none
 xp:=G.xp
 oe s:=if ks.contains s then G.oe s else none
 mb _:=none
def ku(G:Gh)(ks:List Nat)(st:St):St where
 nx:=st.nx
 cnt t:=match (G.mask ks).tk t with
  |some x=>x.cnt
  |none=>0
 fl:=st.nx
 objs s:=if ks.contains s then st.objs s else none
 maps _:=none
def ma{ks:List Nat}{t:Nat}{r:qv}(h:(G.mask ks).tk t=some (.room r)):G.tk t=some (.room r)/\G.pv r.b≠some t:=by
 simp only[Gh.mask]at h;split at h
 ·rename_i r' hr;split at h
  ·cases h
  ·rename_i hp;cases h;exact⟨hr,hp⟩
 ·rename_i h0;exact absurd h (h0 r)
def wl{ks:List Nat}{b o:Nat}{v:Value}(h:(G.mask ks).com b o=some v):G.com b o=some v/\G.pv b=none:=by
 simp only[Gh.mask]at h;split at h
 ·cases h
 ·rename_i hp;exact⟨h,hp⟩
def pU{ks:List Nat}{b o:Nat}{v:Value}(h:G.com b o=some v)(hp:G.pv b=none):(G.mask ks).com b o=some v:=by
 simp only[Gh.mask,hp];exact h
def GZ(ks:List Nat):Rn some (fun _=>true) false G (G.mask ks) where
 com b o v h hK:=pU h (by cases hp:G.pv b with|none=>rfl|some k=>cases hK k hp)
 sh b x h:=h
 tk k k' _ h:=by cases h
 pv b k' o v _ _ h:=by cases h
 xp b o v _ _ h:= .inl h
def bM.mask(hI:bM P B G st w){ks:List Nat}(hf:∀ s c,s∈ks->st.objs s=some c->dN (fun _=>true) c=true):bM P B (G.mask ks) (ku G ks st) w:=by
 have hin:∀ {s b},(G.mask ks).ob s=some b->s∈ks/\G.ob s=some b:=by
  intro s b h;simp only[Gh.mask]at h;split at h
  ·rename_i hs;exact⟨by simpa using hs,h⟩
  ·cases h
 have hmo:∀ {b o},G.com b o=none->(G.mask ks).com b o=none:=by
  intro b o h;simp only[Gh.mask];split
  ·rfl
  ·exact h
 have hlt:∀ {t x},(G.mask ks).tk t=some x->t<st.nx:=by
  intro t x h;simp only[Gh.mask]at h;split at h
  ·rename_i r hr;exact(hI.cnt t _ hr).1
  ·exact(hI.cnt t x h).1
 refine⟨fun b o v h=>hI.com b o v (wl h).1,hI.sh,hI.nx,fun t x h=>⟨hlt h,?_⟩,fun t ht=>?_,fun t r h=>?_,fun t u r q h1 h2 hb=>hI.apart t u r q (ma h1).1 (ma h2).1 hb,fun t r h=>⟨fun hf=>?_,fun j hj=>(by cases hj)⟩,fun s c h=>?_,fun s b h=>?_,fun s u b h1 h2=>hI.obj s u b (hin h1).2 (hin h2).2,fun s h=>?_,fun s c h=>?_,fun b k h=>(by cases h),hI.xpl,fun b o v h=>?_,fun s b e sz h1 h2=>?_,fun s es h=>(by cases h),fun s b h=>(by cases h),fun s u b h=>(by cases h),fun s h=>rfl,fun s b h=>⟨rfl,(hI.obx s b (hin h).2).2⟩,fun t m h=>?_⟩
 ·simp only[ku,h]
 ·obtain⟨x,hx⟩:=hI.live t ht;simp only[Gh.mask,hx];split
  ·split<;>exact⟨_,rfl⟩
  ·exact⟨_,rfl⟩
 ·obtain⟨h1,h2,h3,h4,h5,h6⟩:=hI.room t r (ma h).1;exact⟨h1,h2,h3,h4,fun o ho=>hmo (h5 o ho),h6⟩
 ·have:=(hI.cnt t _ (ma h).1).1;have hf:st.nx<=t:=hf;omega
 ·simp only[ku]at h;split at h
  ·rename_i hs;obtain⟨b,e,vs,h1,h2,h3⟩:=hI.objs s c h;refine⟨b,e,vs,by simp only[Gh.mask,hs,if_true];exact h1,h2,h3.1,fun j p u hp hu=>?_,h3.2.2⟩;have:=(h3.2.1 j p u hp hu).ren (sw:=false) (GZ ks) (fun _=>true) (fun s hs=>by cases hs) (j7 (hI.npo s c h) hp) (lO (hf s c (by simpa using hs) h) hp) (by simp);rwa [ren_some]at this
  ·cases h
 ·obtain⟨h1,h2,h3⟩:=hI.obs s b (hin h).2;exact⟨h1,fun o=>hmo (h2 o),h3⟩
 ·simp only[ku]at h;simp only[Gh.mask];split
  ·rename_i hs;rw[am hs]at h;exact hI.nob s h
  ·rfl
 ·simp only[ku]at h;split at h
  ·exact hI.npo s c h
  ·cases h
 ·obtain⟨h1,h2,h3⟩:=hI.base b o v h;exact⟨pU h1 h2,rfl,h3⟩
 ·obtain⟨hs,h3⟩:=hin h1;simp only[Gh.mask,show ks.contains s=true by simpa using hs,if_true]at h2;exact hI.oes s b e sz h3 h2
 ·simp only[Gh.mask]at h;split at h
  ·split at h
   ·cases h;rfl
   ·cases h
  ·exact hI.ful t m h
def Gh.unmask(G G1:Gh):Gh where
 com b o:=match G.pv b with
  |some _=>G.com b o
  |none=>G1.com b o
 sh:=G1.sh
 tk t:=if t<G.nx then G.tk t else G1.tk t
 ob:=G.ob
 nx:=G1.nx
 pv b:=match G.pv b with
  |some k=>some k
  |none=>G1.pv b
 xp:=G.xp
 oe:=G.oe
 mb:=G.mb
def bM.unmask(hI:bM P B G st w){ks:List Nat}{cs cs':List (List PV)}{ns:List Nat}(hn:ks.Nodup)(hg:dz st ks=some cs)(hlen:cs'.length=cs.length)(hcs:∀ c∈cs',aX c=true){G1:Gh}{w1:World}
  (hI1:bM P B G1 {(ku G ks st).more ns with objs:=fx (ku G ks st).objs ks (cs'.map (bm (fun k=>some (st.nx+k)) false)),maps:=fun _=>none,fl:=st.nx} w1)
  (hS1:cQ (G.mask ks) w G1 w1) (hrn1:Rn some (fun _=>false) false (G.mask ks) G1) (hbx:G1.bx=(G.mask ks).bx):
  bM P B (G.unmask G1) {st.more ns with objs:=fx st.objs ks (cs'.map (bm (fun k=>some (st.nx+k)) false)),fl:=st.fl} w1/\cQ G w (G.unmask G1) w1/\Rn some (fun _=>false) false G (G.unmask G1)/\
  Rn some (fun k=>decide (k<st.nx)) false G1 (G.unmask G1):=by
 obtain⟨hl,hget⟩:=nE hg;have hnx:=hI.nx;have hnx1:G1.nx=st.nx+ns.length:=by rw[hI1.nx];simp only[St.more_nx];rfl
 have hsz:=hS1.size;have hobm:∀ {s b},(G.mask ks).ob s=some b->s∈ks/\G.ob s=some b:=by
  intro s b h;simp only[Gh.mask]at h;split at h
  ·rename_i hs;exact⟨by simpa using hs,h⟩
  ·cases h
 have hob1:∀ {s b},G1.ob s=some b->s∈ks/\G.ob s=some b:=fun{s b} h=>by
  have:=congrFun hbx s;rw[mH this]at h;exact hobm h
 have old:∀ {t r},G.tk t=some (.room r)->r.b<w.heap.size:=by
  intro t r h;obtain⟨h1,_⟩:=hI.room t r h;obtain⟨cur,hc,_⟩:=hI.sh _ _ _ h1;exact(bf.1 hc).1
 have hcnt1:∀ {t x},G1.tk t=some x->t<st.nx->(ku G ks st).cnt t=x.cnt:=fun{t x} h ht=>by
  have:=(hI1.cnt t x h).2;simp only at this;rwa [St.more_old _ _ (show t<(ku G ks st).nx from ht)]at this
 have tkOld:∀ {t x},t<st.nx->(G.mask ks).tk t=some x->G1.tk t=some x:=by
  intro t x ht hx;obtain⟨x',hx'⟩:=hI1.live t (by simp only[St.more_nx];show t<st.nx+_;omega);obtain⟨_,h2⟩:=hrn1.tk t t rfl rfl (by show t<G.nx;omega);obtain⟨y,hy,hle,heq⟩:=h2 x' hx';rw[hx]at hy;cases hy;have:=hcnt1 hx' ht;simp only[ku,hx]at this;rw[heq this];exact hx'
 have roomNP:∀ {t r},G.tk t=some (.room r)->G.pv r.b≠some t->(G.mask ks).tk t=some (.room r):=by
  intro t r h hp;simp only[Gh.mask,h,ai hp]
 have com1:∀ {b o v},G1.com b o=some v->G.pv b=none:=by
  intro b o v h;cases hp:G.pv b with
  |none=>rfl
  |some k=>
   have hb:=hI.pvl b k hp;rcases hS1.nearC b o v h with h1|⟨t,r,hr,he⟩|h1
   ·rw[(wl h1).2]at hp;cases hp
   ·obtain⟨h2,h3⟩:=ma hr;have:=(hI.priv t r h2).2 k (by rw[he];exact hp);subst this;rw[he]at h3;exact absurd hp h3
   ·omega
 have noBoxRoom:∀ {s t b r},G.ob s=some b->G.tk t=some (.room r)->r.b≠b:=by
  rintro s t b r h1 h2 rfl;have:=(hI.obs s _ h1).2.2;rw[(hI.room t r h2).1]at this;cases this
 have hkept:∀ b,b<w.heap.size->(∀ s,s∈ks->G.ob s≠some b)->(∀ t r,G.tk t=some (.room r)->G.pv r.b≠some t->r.b≠b)->w1.heap[b]? =w.heap[b]? :=by
  intro b hb ho ht;refine hS1.kept b hb (fun k h=>?_) (fun t r h=>?_) (fun s h=>by cases h)
  ·obtain⟨h1,h2⟩:=hobm h;exact ho k h1 h2
  ·obtain⟨h1,h2⟩:=ma h;exact ht t r h1 h2
 have hkeptP:∀ {b k},G.pv b=some k->w1.heap[b]? =w.heap[b]? :=by
  intro b k hp;refine hkept b (hI.pvl b k hp) (fun s _ h=>?_) (fun t r h1 h2 he=>?_)
  ·rw[(hI.obx s b h).1]at hp;cases hp
  ·subst he;have:=(hI.priv t r h1).2 k hp;subst this;exact h2 hp
 have boxCells:∀ {s b},G.ob s=some b->∃ c e,w.heap[b]? =some (.cells c e (0,0)):=by
  intro s b h;cases hs:st.objs s with
  |none=>rw[hI.nob s hs]at h;cases h
  |some c=>
   obtain⟨b',e,vs,h1,h2,_⟩:=hI.objs s c hs;rw[h]at h1;cases h1;exact⟨_,_,h2⟩
 have roomCells:∀ {t r},G.tk t=some (.room r)->∃ c e,w.heap[r.b]? =some (.cells c e (0,0)):=by
  intro t r h;obtain⟨h1,_⟩:=hI.room t r h;obtain⟨cur,hc,_⟩:=hI.sh _ _ _ h1;exact⟨_,_,hc⟩
 have hmap:∀ {b:Nat} {vs:Array MapEntry} {clk:Nat},w.heap[b]? =some (.map vs clk)->w1.heap[b]? =some (.map vs clk):=by
  intro b vs clk h;rw[hkept b (bf.1 h).1 (fun s _ hs=>?_) (fun t r hr _ e=>?_)]
  ·exact h
  ·obtain⟨c,e,h2⟩:=boxCells hs;rw[h]at h2;cases h2
  ·obtain⟨c,e',h2⟩:=roomCells hr;rw[e,h]at h2;cases h2
 have hbox:∀ {s b:Nat},s∉ks->G.ob s=some b->w1.heap[b]? =w.heap[b]? :=by
  intro s b hs hb;refine hkept b (hI.obs s b hb).1 (fun u hu h=>?_) (fun t r hr _=>noBoxRoom hb hr);have:=hI.obj u s b h hb;subst this;exact hs hu
 have newB:∀ {t r},st.nx<=t->G1.tk t=some (.room r)->w.heap.size<=r.b:=by
  intro t r ht h;rcases hS1.nearT t r h with⟨u,q,hu,hb⟩|h
  ·have hul:u<st.nx:=(hI.cnt u _ (ma hu).1).1;have:=hI1.apart t u r q h (tkOld hul hu) hb.symm;omega
  ·exact h
 have pvOf:∀ {b},w.heap.size<=b->G.pv b=none:=by
  intro b hb;cases hp:G.pv b with
  |none=>rfl
  |some k=>have:=hI.pvl b k hp;omega
 have pv1:∀ {b},b<w.heap.size->G1.pv b=none:=by
  intro b hb;cases hp:G1.pv b with
  |none=>rfl
  |some k=>
   rcases hS1.nearP b k hp with⟨k',h⟩|h
   ·cases h
   ·omega
 have rnG:Rn some (fun _=>false) false G (G.unmask G1):=by
  refine⟨fun b o v h _=>?_,fun b x h=>hS1.le.sh b x h,fun k k' h _ hlt=>?_,fun b k' o v h _ hp=>?_,fun b o v _ _ h=> .inl h⟩
  ·simp only[Gh.unmask];split
   ·exact h
   ·rename_i hp;exact(hS1.le.com b o v (pU h hp) rfl).1
  ·cases h;refine⟨by simp only[Gh.unmask];omega,fun x' hx'=>⟨x',?_,aP _,fun _=>rfl⟩⟩;simp only[Gh.unmask,am hlt]at hx';exact hx'
  ·simp only[Gh.unmask]at hp;split at hp
   ·rename_i k hk;cases hp;exact .inl ⟨_,hk,rfl⟩
   ·rename_i hk;rw[(hS1.le.com b o v (pU h hk) rfl).2]at hp;cases hp
 have rn1:Rn some (fun k=>decide (k<st.nx)) false G1 (G.unmask G1):=by
  refine⟨fun b o v h _=>?_,fun b x h=>h,fun k k' h hK hlt=>?_,fun b k' o v h _ hp=>?_,fun b o v _ _ h=> .inl (by rw[hS1.le.xp];exact h)⟩
  ·simp only[Gh.unmask,com1 h];exact h
  ·cases h;have hge:st.nx<=k:=by simpa using hK
   refine⟨hlt,fun x' hx'=>⟨x',?_,aP _,fun _=>rfl⟩⟩;simp only[Gh.unmask]at hx';rwa [ai (by omega)]at hx'
  ·simp only[Gh.unmask,com1 h]at hp;exact .inl ⟨k',hp,rfl⟩
 have stay:∀ {p:PV} {v:Value},np p=true->R G p v->R (G.unmask G1) p v:=by
  intro p v hp hR;have:=hR.ren (sw:=false) rnG (fun _=>false) (fun s _=>rfl) (tX p) (oa p) (by simp);rwa [ren_some]at this
 have hmlen:ks.length=(cs'.map (bm (fun k=>some (st.nx+k)) false)).length:=by simp;omega
 have keyIn:∀ {s:Nat},s∈ks->∃ i:Nat,ks[i]? =some s:=fun h=>by
  obtain⟨i,hi,e⟩:=d7 h;exact⟨i,by rw[<-e];exact aK hi⟩
 have objSame:∀ {s},s∈ks->fx st.objs ks (cs'.map (bm (fun k=>some (st.nx+k)) false)) s=fx (ku G ks st).objs ks (cs'.map (bm (fun k=>some (st.nx+k)) false)) s:=by
  intro s hs;obtain⟨i,hi⟩:=keyIn hs;rw[kL hn hi hmlen,kL hn hi hmlen]
 have comNone:∀ {s b},G.ob s=some b->∀ o,G1.com b o=none:=by
  intro s b hb o;cases hc:G1.com b o with
  |none=>rfl
  |some v=>
   obtain⟨h1,h2,_⟩:=hI.obs s b hb;rcases hS1.nearC b o v hc with h3|⟨t,r,hr,he⟩|h3
   ·exact absurd (wl h3).1 (by rw[h2 o];simp)
   ·exact absurd he (noBoxRoom hb (ma hr).1)
   ·omega
 refine⟨⟨fun b o v h=>?_,hI1.sh,by simp only[Gh.unmask,St.more_nx];exact hnx1,fun t x h=>?_,fun t ht=>?_,fun t r h=>?_,fun t u r q h1 h2 hb=>?_,fun t r h=>?_,fun s c h=>?_,fun s b h=>?_,hI.obj,fun s h=>?_,fun s c h=>?_,fun b k h=>?_,fun b h=>by have:=hI.xpl b h;omega,fun b o v h=>?_,fun s b e sz h1 h2=>?_,fun s es h=>?_,fun s b h=>?_,hI.mbi,fun s h=>?_,fun s b h=>?_,fun t m h=>?_⟩,
  ⟨⟨fun b o v hc hp=>?_,hS1.le.sh,rfl⟩,hsz,fun b hb ho ht hm=>hkept b hb (fun s _=>ho s) (fun t r h _=>ht t r h),fun s b h=> .inl ⟨s,h⟩,fun t r h=>?_,fun b o v h=>?_,fun b x h=>hS1.nearS b x h,fun b k h=>?_,fun s b h=> .inl ⟨s,h⟩,hS1.eff⟩,rnG,rn1⟩
 ·simp only[Gh.unmask]at h;split at h
  ·rename_i k hk;have:=hI.com b o v h;simp only[World.cell?]at this ⊢;rw[hkeptP hk];exact this
  ·exact hI1.com b o v h
 ·simp only[Gh.unmask]at h;split at h
  ·obtain⟨h1,h2⟩:=hI.cnt t x h;exact⟨by simp only[St.more_nx];omega,by rw[St.more_old st ns h1];exact h2⟩
  ·rename_i hlt;obtain⟨h1,h2⟩:=hI1.cnt t x h;simp only[St.more_nx]at h1;have h1:t<st.nx+ns.length:=h1;refine⟨by simp only[St.more_nx];omega,?_⟩;rw[St.more_new st ns (by omega) h1];rw[St.more_new (ku G ks st) ns (show st.nx<=t by omega) h1]at h2;exact h2
 ·simp only[St.more_nx]at ht;by_cases h:t<G.nx
  ·obtain⟨x,hx⟩:=hI.live t (by omega);exact⟨x,by simp only[Gh.unmask,am h];exact hx⟩
  ·obtain⟨x,hx⟩:=hI1.live t (by simp only[St.more_nx];exact ht);exact⟨x,by simp only[Gh.unmask,ai h];exact hx⟩
 ·simp only[Gh.unmask]at h;split at h
  ·obtain⟨h1,h2,h3,h4,h5,h6⟩:=hI.room t r h;refine⟨hS1.le.sh _ _ h1,h2,h3,h4,fun o ho=>?_,h6⟩;simp only[Gh.unmask];split
   ·exact h5 o ho
   ·rename_i hp;have:=tkOld (hI.cnt t _ h).1 (roomNP h (by rw[hp];simp));exact(hI1.room t r this).2.2.2.2.1 o ho
  ·rename_i hlt;obtain⟨h1,h2,h3,h4,h5,h6⟩:=hI1.room t r h;refine⟨h1,h2,h3,h4,fun o ho=>?_,by rw[<-h6,hS1.le.xp];rfl⟩;simp only[Gh.unmask,pvOf (newB (by omega) h)];exact h5 o ho
 ·simp only[Gh.unmask]at h1 h2;split at h1<;>split at h2
  ·exact hI.apart t u r q h1 h2 hb
  ·have a:=old h1;have b:=newB (by omega) h2;omega
  ·have a:=old h2;have b:=newB (by omega) h1;omega
  ·exact hI1.apart t u r q h1 h2 hb
 ·simp only[Gh.unmask]at h;split at h
  ·have hp:=hI.priv t r h;refine⟨fun hf=>by simp only[Gh.unmask,hp.1 hf],fun j hj=>?_⟩;simp only[Gh.unmask]at hj;split at hj
   ·rename_i k hk;cases hj;exact hp.2 _ hk
   ·rw[pv1 (old h)]at hj;cases hj
  ·rename_i hlt;have hp:=hI1.priv t r h;have hn:=pvOf (newB (by omega) h);refine⟨fun _=>by simp only[Gh.unmask,hn];exact hp.1 (by show st.nx<=t;omega),fun j hj=>?_⟩;simp only[Gh.unmask,hn]at hj;exact hp.2 j hj
 ·by_cases hs:s∈ks
  ·have h':fx st.objs ks (cs'.map (bm (fun k=>some (st.nx+k)) false)) s=some c:=h;have h2:=h';rw[objSame hs]at h';obtain⟨b,e,vs,hb,hh,hR⟩:=hI1.objs s c h';obtain⟨i,hi⟩:=keyIn hs;rw[kL hn hi hmlen,dB,av]at h2;obtain⟨c0,hc0,rfl⟩:=h2;refine⟨b,e,vs,(hob1 hb).2,hh,hR.1,fun j p u hp hu=>?_,hR.2.2⟩;have hq:=hp;rw[v8,av]at hq;obtain⟨q,hq,rfl⟩:=hq;have:=(hR.2.1 j _ u hp hu).ren (sw:=false) rn1 (fun _=>true) (fun s hs=>by cases hs) (by simp only[gT];exact j7 (hcs c0 (b8 hc0)) hq) (zC st.nx q) (by simp);rwa [ren_some]at this
  ·have h':fx st.objs ks (cs'.map (bm (fun k=>some (st.nx+k)) false)) s=some c:=h;rw[kz hs]at h';obtain⟨b,e,vs,hb,hh,hR⟩:=hI.objs s c h';exact⟨b,e,vs,hb,by rw[hbox hs hb];exact hh,hR.1,fun j p u hp hu=>stay (j7 (hI.npo s c h') hp) (hR.2.1 j p u hp hu),hR.2.2⟩
 ·obtain⟨h1,h2,h3⟩:=hI.obs s b h;refine⟨by omega,fun o=>?_,?_⟩
  ·simp only[Gh.unmask,(hI.obx s b h).1];exact comNone h o
  ·cases hc:G1.sh b with
   |none=>exact hc
   |some x=>
    rcases hS1.nearS b x hc with h4|h4
    ·have h4:G.sh b=some x:=h4;rw[h3]at h4;cases h4
    ·omega
 ·by_cases hs:s∈ks
  ·obtain⟨i,hi⟩:=keyIn hs;have h':fx st.objs ks (cs'.map (bm (fun k=>some (st.nx+k)) false)) s=none:=h;rw[kL hn hi hmlen]at h';have:=ox.1 h';have:=(bD.1 hi).1;omega
  ·have h':fx st.objs ks (cs'.map (bm (fun k=>some (st.nx+k)) false)) s=none:=h;rw[kz hs]at h';exact hI.nob s h'
 ·by_cases hs:s∈ks
  ·obtain⟨i,hi⟩:=keyIn hs;have h':fx st.objs ks (cs'.map (bm (fun k=>some (st.nx+k)) false)) s=some c:=h;rw[kL hn hi hmlen,dB,av]at h';obtain⟨c0,h1,rfl⟩:=h';exact rQ (hcs c0 (b8 h1))
  ·have h':fx st.objs ks (cs'.map (bm (fun k=>some (st.nx+k)) false)) s=some c:=h;rw[kz hs]at h';exact hI.npo s c h'
 ·simp only[Gh.unmask]at h;split at h
  ·rename_i k' hk;have:=hI.pvl b k' hk;omega
  ·exact hI1.pvl b k h
 ·obtain⟨h1,h2,h4⟩:=hI1.base b o v h;have h3:=(hI.base b o v h).2.1;exact⟨by simp only[Gh.unmask,h3];exact h1,by simp only[Gh.unmask,h3];exact h2,h4⟩
 ·by_cases hs:s∈ks
  ·have hc:ks.contains s=true:=by simpa using hs
   have hb1:=congrFun hbx s;have e1:G1.ob s=some b:=by rw[mH hb1];simp only[Gh.mask,hc,if_true];exact h1
   have e2:G1.oe s=some (e,sz):=by rw[Bz hb1];simp only[Gh.mask,hc,if_true];exact h2
   exact hI1.oes s b e sz e1 e2
  ·obtain⟨h3,cur,h4⟩:=hI.oes s b e sz h1 h2;exact⟨h3,cur,by rw[hbox hs h1];exact h4⟩
 ·have h:st.maps s=some es:=by simpa only[St.more_maps]using h
  obtain⟨b,vs,clk,h1,h2,h3,h4⟩:=hI.mobj s es h;refine⟨b,vs,clk,h1,hmap h2,⟨h3.1,fun i q x hq hx=>?_⟩,h4⟩;obtain⟨h5,h6⟩:=h3.2 i q x hq hx;exact⟨h5,stay (h4 q (b8 hq)) h6⟩
 ·obtain⟨vs,clk,h2⟩:=hI.mbs s b h;exact⟨vs,clk,hmap h2⟩
 ·have h:st.maps s=none:=by simpa only[St.more_maps]using h
  exact hI.nomb s h
 ·obtain⟨h1,h2⟩:=hI.obx s b h;exact⟨by simp only[Gh.unmask,h1];exact pv1 (hI.obs s b h).1,h2⟩
 ·simp only[Gh.unmask]at h;split at h
  ·exact hI.ful t m h
  ·exact hI1.ful t m h
 ·have h1:=hS1.le.com b o v (pU hc hp) rfl;exact⟨by simp only[Gh.unmask,hp];exact h1.1,by simp only[Gh.unmask,hp];exact h1.2⟩
 ·simp only[Gh.unmask]at h;split at h
  ·exact .inl ⟨t,r,h,rfl⟩
  ·exact .inr (newB (by omega) h)
 ·simp only[Gh.unmask]at h;split at h
  ·exact .inl h
  ·rcases hS1.nearC b o v h with h|⟨t,r,hr,he⟩|h
   ·exact .inl (wl h).1
   ·exact .inr (.inl ⟨t,r,(ma hr).1,he⟩)
   ·exact .inr (.inr h)
 ·simp only[Gh.unmask]at h;split at h
  ·rename_i k' hk;exact .inl ⟨k',hk⟩
  ·rcases hS1.nearP b k h with⟨k',h⟩|h
   ·cases h
   ·exact .inr h
def A9:∀ {as:List PV} {ks:List Nat} {j:Nat} {p:PV},dw as=some ks->as[j]? =some p->(∃ s,p= .ptr s 0/\s∈ks)\/np p=true
 | [],_,_,_,_,h=>by simp at h
 |a::as,ks,j,p,hk,h=>by
  have tail:∀ {ks0:List Nat},dw as=some ks0->∀ {j:Nat},as[j]? =some p->(∀ s,s∈ks0->s∈ks)->(∃ s,p= .ptr s 0/\s∈ks)\/np p=true:=by
   intro ks0 h0 j hj hsub;rcases A9 h0 hj with⟨s,h1,h2⟩|h1
   ·exact .inl ⟨s,h1,hsub s h2⟩
   ·exact .inr h1
  cases a with
  |ptr s off=>
   simp only[dw]at hk;split at hk
   ·rename_i ks0 h0;split at hk
    ·rename_i hc;cases hk;cases j with
     |zero=>simp at h;subst h;rw[hc.1];exact .inl ⟨s,rfl,by simp⟩
     |succ j=>exact tail h0 (j:=j) (by simpa using h) (fun s hs=>ce _ hs)
    ·cases hk
   ·cases hk
  |_=>
   simp only[dw]at hk;split at hk
   ·rename_i hn;cases j with
    |zero=>simp at h;subst h;exact .inr hn
    |succ j=>exact tail hk (j:=j) (by simpa using h) (fun s hs=>hs)
   ·cases hk
def zu{st st2:St}:∀ {ks:List Nat} {cs:List (List PV)},dz st ks=some cs->(∀ s∈ks,st2.objs s=st.objs s)->dz st2 ks=some cs
 | [],_,h,_=>h
 |k::ks,cs,h,hs=>by
  simp only[dz]at h ⊢;rw[hs k List.mem_cons_self];split at h
  ·rename_i c cs0 h1 h2;rw[h1,zu h2 fun s hm=>hs s (ce _ hm)];exact h
  ·cases h
def ss{cf:aJ}(hcf:jD P B cf)(hI:bM P B G st w){f:Nat}{as:List PV}{mv:List Nat}{vs:List Value}(hl:as.length=vs.length)(hR:∀ (j:Nat) p v,as[j]? =some p->vs[j]? =some v->R G p v/\cO p=true)
  {p:PV} (h:az cf f as mv st=some (p,st')):
  mg P (sS f)/\np p=true/\Calls P (sS f) vs.toArray w fun e w'=>∃ v G',rG f vs v e/\R G' p v/\bM P B G' st' w'/\cQ G w G' w'/\Rn some ((dn as mv st).contains ·) false G G'/\G'.bx=G.bx/\(mv≠ []->dw as=some []->∀ s b,G.ob s=some b->w'.heap[b]? =w.heap[b]?):=by
 unfold az at h;split at h
 ·cases h
 ·rename_i ks hks;split at h
  ·cases h
  ·rename_i cs hcs;split at h
   ·split at h
    ·rename_i r ns cs' hcall;split at h
     ·rename_i hlen;simp only[bB,cL]at h;obtain⟨hp,hst⟩:=h;cases hfree:oo f as cs with
      |true=>
       have hfr:=hfree;simp only[oo,aj,cw]at hfr;obtain⟨-,hf1,hf2⟩:=hfr;have hnd:=mR hks;obtain⟨hgl,hget⟩:=nE hcs;have hIm:=hI.mask (ks:=ks) (fun s c hs hc=>by
        obtain⟨i,hi,e⟩:=d7 hs;have hi':ks[i]? =some s:=by rw[<-e];exact aK hi
        have:=hget i s hi';rw[hc]at this;exact hf2 c (b8 this.symm))
       have hRm:∀ (j:Nat) p v,as[j]? =some p->vs[j]? =some v->R (G.mask ks) p v/\cO p=true:=fun j p v hp hv=>by
        obtain⟨h1,h2⟩:=hR j p v hp hv;refine⟨?_,h2⟩;rcases A9 hks hp with⟨s,rfl,hs⟩|hnp
        ·cases h1 with
         |ptr _ _ b hb=>exact .ptr _ _ b (by simp only[Gh.mask,show ks.contains s=true by simpa using hs,if_true];exact hb)
        ·have:=h1.ren (sw:=false) (GZ ks) (fun _=>true) (fun s hs=>by cases hs) hnp (hf1 p (b8 hp)) (by simp);rwa [ren_some]at this
       have hcsm:dz (ku G ks st) ks=some cs:=zu hcs fun s hs=>by simp only[ku,show ks.contains s=true by simpa using hs,if_true]
       obtain⟨hE,hnp,hC⟩:=yd (ts:=[]) (ds:=cs.map aQ) hcf hIm hl hRm hks hcsm ⟨pE,fun q hq=>by cases hq⟩ (by simp) (fun k c hc=>by
        rw[dB,av]at hc;obtain⟨c0,h1,h2⟩:=hc;exact⟨c0,h1,.inr ⟨h2.symm,k9 c0⟩⟩) (p9 [] [] as 0 0) (fun j q hq=>by
        rcases rt hks hq with⟨t,s,h1,h2,h3⟩|⟨p,h1,h2,h3⟩
        ·exact .inl ⟨t,s,h1,h2,by simpa using h3⟩
        ·exact .inr ⟨p,h1,h2,.inr ⟨by simpa using h3,oa p⟩⟩) hcall hlen
       refine⟨hE,by rw[<-hp];simp only[np,gT];exact hnp,hC.mono ?_⟩;rintro e w1 ⟨v,G1,hret,h1,h2,h3,h4,h5,-⟩;obtain⟨_,_,_,hcs',_⟩:=hcf f _ _ _ r ns cs' hcall;have hfl:(if(fU r && cs'.all fT)=true then(ku G ks st).fl else(ku G ks st).nx)=st.nx:=by split<;>rfl
       simp only[cJ,xP,xQ,hfl]at h2;obtain⟨g1,g2,g3,g4⟩:=hI.unmask hnd hcs hlen hcs' h2 h3 h4 h5;refine⟨v,G.unmask G1,hret,?_,?_,g2,g3,rfl,fun h=>absurd rfl h⟩
       ·rw[<-hp];have:=h1.ren (sw:=false) g4 (fun _=>true) (fun s hs=>by cases hs) (by simp only[gT];exact hnp) (zC st.nx r) (by simp);rwa [ren_some]at this
       ·rw[<-hst,hfree,lB,am rfl];exact g1
      |false=>
      obtain⟨hE,hnp,hC⟩:=yd (ts:=[]) (ds:=cs.map aQ) hcf hI hl hR hks hcs ⟨pE,fun q hq=>by cases hq⟩ (by simp) (fun k c hc=>by
       rw[dB,av]at hc;obtain⟨c0,h1,h2⟩:=hc;exact⟨c0,h1,.inr ⟨h2.symm,k9 c0⟩⟩) (p9 [] [] as 0 0) (fun j q hq=>by
       rcases rt hks hq with⟨t,s,h1,h2,h3⟩|⟨p,h1,h2,h3⟩
       ·exact .inl ⟨t,s,h1,h2,by simpa using h3⟩
       ·exact .inr ⟨p,h1,h2,.inr ⟨by simpa using h3,oa p⟩⟩) hcall hlen
      refine⟨hE,by rw[<-hp];simp only[np,gT];exact hnp,hC.mono ?_⟩;rintro e w1 ⟨v,G',hret,h1,h2,h3,h4,h5,-⟩;refine⟨v,G',hret,by rw[<-hp];exact h1,?_,h3,h4,h5,fun h=>absurd rfl h⟩;rw[<-hst];simp only[cJ,xP,xQ]at h2;rw[St.more_maps,hfree,Bool.or_false];exact h2
     ·cases h
    ·cases h
   ·rename_i hmv;split at h
    ·rename_i hb;simp only[aj]at hb;obtain⟨⟨⟨hb1,hb2⟩,hb3⟩,hb4⟩:=hb;split at h
     ·rename_i r ns cs' hcall;split at h
      ·rename_i hlen;simp only[bB,cL]at h;obtain⟨hp,hst⟩:=h;have htk:dn as mv st=(d5 mv as cs).map (·.1):=by
        cases mv with
        |nil=>exact absurd rfl (hmv ·)
        |cons m mv=>simp only[dn,hks,hcs]
       obtain⟨hE,hnp,hC⟩:=yd (ts:=d5 mv as cs) (ds:=me ((d5 mv as cs).map (·.1)) (kc mv 0 as) cs) hcf hI hl hR hks hcs (GO hb1 hb2) yj (fun k c hc=>DG hb4 hc) (p9 _ mv as 0 0) (fun j q hq=>by
        rcases rt hks hq with⟨t,s,h1,h2,h3⟩|⟨p,h1,h2,h3⟩
        ·exact .inl ⟨t,s,h1,h2,by simpa using h3⟩
        ·refine .inr ⟨p,h1,h2,?_⟩;split at h3
         ·exact .inl h3
         ·rename_i hne;rcases CJ hb3 h1 with h4|h4
          ·exact absurd h4 hne
          ·exact .inr ⟨h3,h4⟩) hcall hlen
       refine⟨hE,by rw[<-hp];simp only[np,gT];exact hnp,hC.mono ?_⟩;rintro e w1 ⟨v,G',hret,h1,h2,h3,h4,h5,h6⟩;rw[htk];refine⟨v,G',hret,by rw[<-hp];exact h1,?_,h3,h4,h5,fun _ hk s b hb=>h6 s b hb (by rw[hk]at hks;cases hks;exact eo)⟩;rw[<-hst];exact h2
      ·cases h
     ·cases h
    ·cases h
def R.rn{J:List Nat}{G G':Gh}(h:Rn some (J.contains ·) false G G')(hbx:G'.bx=G.bx){p:PV}{v:Value}(hR:R G p v):R G' (bY J p) v:=by
 unfold bY;split
 ·rename_i ht;have:=hR.ren (sw:=false) h (fun _=>false) (fun s _=>by rw[hbx]) (tX p) ht (by simp);rwa [ren_some]at this
 ·exact .any v
end
def Gh.poke(G:Gh)(b off:Nat)(vs:List Value):Gh:={G with com:=fun b' o=>if b'=b/\off<=o/\o<off+vs.length then vs[o-off]? else G.com b' o}
def zf{us vs:List Value}{off j:Nat}(h:off+vs.length<=us.length):(bS us off vs)[j]? =if off<=j/\j<off+vs.length then vs[j-off]? else us[j]? :=by
 rw[<-yB vs us off h];have hl:(us.take off).length=off:=by rw[aL];omega
 by_cases h1:j<off
 ·rw[ai (by omega),bn,bW (by omega),dQ h1]
 ·by_cases h2:j<off+vs.length
  ·rw[am ⟨by omega,h2⟩,bn,cM (by omega),hl,bW (by omega)]
  ·rw[ai (by omega),cM (by simp;omega),ex,ae,hl];congr 1;omega
def Hf:∀ {vs cs:List PV} {off:Nat},aX vs=true->aX cs=true->aX (bS cs off vs)=true
 | [],cs,off,_,h=>h
 |v::vs,cs,off,h1,h2=>by
  have e1:aX vs=true:=mP fun q hq=>gm h1 (ce _ hq);have e2:aX (cs.set off v)=true:=mP fun q hq=>by
   rcases dK hq with h|h
   ·exact gm h2 h
   ·rw[h];exact gm h1 List.mem_cons_self
  exact Hf (vs:=vs) e1 e2
section
variable {G:Gh} {st:St} {w:World}
def Rm.bk{u:kS}{G G':Gh}(hst:∀ q v,R G q v->R G' (gn u q) v){es:List (PV×PV)}{vs:List MapEntry}(h:Rm G es vs):Rm G' (es.map fun q=>(q.1,gn u q.2)) vs:=by
 refine⟨by rw[bJ];exact h.1,fun i q x hq hx=>?_⟩;rw[dB,av]at hq;obtain⟨q0,hq0,rfl⟩:=hq;obtain⟨h1,h2⟩:=h.2 i q0 x hq0 hx;exact⟨h1,hst _ _ h2⟩
def bM.poke(hI:bM P B G st w){k e off:Nat}{r:qv}(hr:G.tk k=some (.room r))(hm:0<r.m)(he:r.e=e)(hfl:st.fl<=k){cs ds:List PV}{us vs:List Value}(hcs:Rs G cs us)(hds:Rs G ds vs)(hul:us.length=r.m*r.sz)
  (hcom:∀ (j:Nat) u,us[j]? =some u->G.com r.b j=some u) (hfit:off+vs.length<=us.length) (ht1:dN ([k].contains ·) cs=true) (ht2:dN ([k].contains ·) ds=true) (hn1:aX cs=true) (hn2:aX ds=true)
  {cur:Array Value} (hcur:w.heap[r.b]? =some (.cells cur r.e (0,0))):
  bM P B (G.poke r.b off vs) {st with objs:=rD (ir cs off k e r.m ds) st.objs,maps:=sP (ir cs off k e r.m ds) st.maps} (w.setRow r.b (cur.toList.take off++vs++cur.toList.drop (off+vs.length)).toArray)/\
  cQ G w (G.poke r.b off vs) (w.setRow r.b (cur.toList.take off++vs++cur.toList.drop (off+vs.length)).toArray)/\
  (∀ q v,R G q v->R (G.poke r.b off vs) (gn (ir cs off k e r.m ds) q) v)/\np (ir cs off k e r.m ds).p=true:=by
 obtain⟨hsh,hcm,hmc,hsz,hno,hxr⟩:=hI.room k r hr;have hklt:=(hI.cnt k _ hr).1;have hnx:=hI.nx;have hpv:G.pv r.b=some k:=(hI.priv k r hr).1 hfl;have hcs':cur.size=r.cap*r.sz:=by
  obtain⟨c,h1,h2⟩:=hI.sh _ _ _ hsh;rw[hcur]at h1;cases h1;exact h2
 have hule:us.length<=cur.size:=by rw[hul,hcs'];exact du _ hmc
 have hcomAt:∀ b o,(G.poke r.b off vs).com b o=if b=r.b/\off<=o/\o<off+vs.length then vs[o-off]? else G.com b o:=fun _ _=>rfl;have hne:∀ b,(∀ k',G.pv b=some k'->[k].contains k'=false)->b≠r.b:=by
  rintro b hK rfl;have:=hK k hpv;simp at this
 have hrn:Rn some ([k].contains ·) false G (G.poke r.b off vs):=by
  refine⟨fun b o v h hK=>?_,fun _ _ h=>h,fun j j' hj _ hlt=>?_,fun b j o v h _ hp=> .inl ⟨j,hp,rfl⟩,fun b o v _ _ h=> .inl h⟩
  ·rw[hcomAt,ai fun h=>hne b hK h.1];exact h
  ·cases hj;exact⟨hlt,fun x' hx=>⟨x',hx,aP _,fun _=>rfl⟩⟩
 have stay:∀ {cs:List PV} {us:List Value},Rs G cs us->dN ([k].contains ·) cs=true->Rs (G.poke r.b off vs) cs us:=by
  intro cs us h ht;refine⟨h.1,fun j p u hp hu=>?_,h.2.2⟩;have:=(h.2.1 j p u hp hu).rn hrn rfl;rwa [bY,am (lO ht hp)]at this
 have hnew:Rs (G.poke r.b off vs) (bS cs off ds) (bS us off vs):=(stay hcs ht1).put off (stay hds ht2);have hpl:(bS us off vs).length=us.length:=rf _ _ _;have hnp:np (ir cs off k e r.m ds).p=true:=by
  show np (.list _ (bS cs off ds) _)=true;have:=Hf (off:=off) hn2 hn1;simpa [np,PM.off,aX]using this
 have hst:∀ q v,R G q v->R (G.poke r.b off vs) (gn (ir cs off k e r.m ds) q) v:=by
  intro q v hq;refine R.bk (u:=ir cs off k e r.m ds) hrn (fun _=>rfl) (fun cs2 t v ht hR=>?_) hq;cases t with
  |own j e2=>
   simp only[aF.isOwn,jO]at ht;have ht:j=k:=ht;subst ht
   show R _ (.list r.m (bS cs off ds) (.own j e)) v;have hR:R G (.list r.m cs2 (.own j e2)) v:=hR;generalize hn0:r.m=n0 at hR;cases hR with
   |listN=>omega
   |list _ _ _ b o cap us2 hn hl hc hr2 h1 htr hp hx=>
   obtain⟨h3,h4⟩:=htr.2 _ hr;obtain⟨rfl,rfl,rfl,h7,h8⟩:=h4 hn0.symm;refine .list _ _ _ r.b 0 r.cap _ (by omega) hnew.1 (fun i x hx=>?_) hnew.2.1 hnew.2.2 ⟨by show j<G.nx;omega,fun x hx=>?_⟩ (fun i _ hi=>?_) (fun _ _=>hxr)
   ·rw[zf hfit]at hx;rw[hcomAt,ar];by_cases hi:off<=i/\i<off+vs.length
    ·rw[am hi]at hx;rw[am ⟨rfl,hi⟩];exact hx
    ·rw[ai hi]at hx;rw[ai fun h=>hi h.2];exact hcom i x hx
   ·have hx:G.tk j=some x:=hx;rw[hr]at hx;cases hx;exact⟨by simp only[ot.cnt];omega,fun _=>⟨rfl,rfl,rfl,he,by rw[hpl,hul,hn0]⟩⟩
   ·have hi:G.pv r.b=some i:=hi;rw[hpv]at hi;cases hi;rfl
  |_=>simp[aF.isOwn]at ht
 have hob:∀ s b,G.ob s=some b->b≠r.b:=by
  intro s b hb e;have:=(hI.obs s b hb).2.2;rw[e,hsh]at this;cases this
 have hother:∀ b,b≠r.b->(w.setRow r.b (cur.toList.take off++vs++cur.toList.drop (off+vs.length)).toArray).heap[b]? =w.heap[b]? :=fun b hb=>setRow_other w r.b b _ hb;have hrow:=setRow_heap w r.b cur (cur.toList.take off++vs++cur.toList.drop (off+vs.length)).toArray r.e (0,0) hcur;have hput:cur.toList.take off++vs++cur.toList.drop (off+vs.length)=bS cur.toList off vs:=yB vs cur.toList off (by simp;omega);have hmap:∀ {b':Nat} {vs:Array MapEntry} {clk:Nat},w.heap[b']? =some (.map vs clk)->b'≠r.b:=by
  rintro b' us clk h rfl;rw[hcur]at h;cases h
 have hbs:∀ {cs:List PV} {us:List Value},Rs G cs us->Rs (G.poke r.b off vs) (i7 (ir cs off k e r.m ds) cs) us->True:=fun _ _=>trivial;refine⟨⟨fun b o v h=>?_,fun b e' n h=>?_,hI.nx,hI.cnt,hI.live,fun t q h=>?_,hI.apart,hI.priv,fun s cs' h=>?_,fun s b h=>?_,hI.obj,fun s h=>?_,fun s cs' h=>?_,fun b j h=>by rw[ip];exact hI.pvl b j h,fun b h=>by rw[ip];exact hI.xpl b h,fun b o v h=>?_,fun s b e' z h1 h2=>?_,fun s es h=>?_,fun s b h=>?_,hI.mbi,fun s h=>?_,hI.obx,hI.ful⟩,
  ⟨⟨fun b o v h hp=>?_,fun _ _ h=>h,rfl⟩,by rw[ip];exact aP _,fun b _ _ ht _=>hother b (fun e=>ht k r hr e.symm),fun s b h=> .inl ⟨s,h⟩,fun t q h=> .inl ⟨t,q,h,rfl⟩,fun b o v h=>?_,fun _ _ h=> .inl h,fun _ j h=> .inl ⟨j,h⟩,fun s b h=> .inl ⟨s,h⟩,⟨rfl,rfl⟩⟩,hst,hnp⟩
 ·rw[hcomAt]at h;by_cases hb:b=r.b
  ·subst hb;rw[cell_setRow_same w r.b o cur _ r.e (0,0) hcur,hput];rw[kg,zf (by simp;omega)];by_cases ho:off<=o/\o<off+vs.length
   ·rw[am ⟨rfl,ho⟩]at h;rw[am ho];exact h
   ·rw[ai fun h=>ho h.2]at h;rw[ai ho];have hc:=hI.com _ _ _ h;simp only[World.cell?,hcur]at hc;simpa using hc
  ·rw[ai fun h=>hb h.1]at h;rw[cell_setRow_other w r.b _ _ hb];exact hI.com b o v h
 ·by_cases hb:b=r.b
  ·subst hb;have h':G.sh r.b=some (e',n):=h;rw[hsh]at h';cases h';refine⟨_,hrow,?_⟩;simp only[ky,ae,aL,bl,fh];omega
  ·obtain⟨c,h1,h2⟩:=hI.sh b e' n h;exact⟨c,by rw[hother b hb];exact h1,h2⟩
 ·obtain⟨h1,h2,h3,h4,h5,h6⟩:=hI.room t q h;refine⟨h1,h2,h3,h4,fun o ho=>?_,h6⟩;rw[hcomAt];by_cases hb:q.b=r.b
  ·have:=hI.apart t k q r h hr hb;subst this;have h:G.tk t=some (.room q):=h;rw[hr]at h;cases h;rw[ai (by omega)];exact h5 o ho
  ·rw[ai fun h=>hb h.1];exact h5 o ho
 ·simp only[rD,av]at h;obtain⟨c0,h1,rfl⟩:=h;obtain⟨b,e',us',h2,h3,h4⟩:=hI.objs s c0 h1;refine⟨b,e',us',h2,by rw[hother b (hob s b h2)];exact h3,by rw[mw];exact h4.1,fun j p u hp hu=>?_,h4.2.2⟩;rw[wN,av]at hp;obtain⟨q,hq,rfl⟩:=hp;exact hst _ _ (h4.2.1 j q u hq hu)
 ·obtain⟨h1,h2,h3⟩:=hI.obs s b h;refine⟨by rw[ip];exact h1,fun o=>?_,h3⟩;rw[hcomAt,ai fun h'=>hob s b h h'.1];exact h2 o
 ·simp only[rD,fD]at h;exact hI.nob s h
 ·simp only[rD,av]at h;obtain⟨c0,h1,rfl⟩:=h;exact PX hnp (hI.npo s c0 h1)
 ·obtain⟨h1,h2,h3⟩:=hI.base b o v h;have hb:b≠r.b:=by rintro rfl;rw[hpv]at h2;cases h2
  exact⟨by rw[hcomAt,ai fun h=>hb h.1];exact h1,h2,h3⟩
 ·obtain⟨h3,cur',h4⟩:=hI.oes s b e' z h1 h2;exact⟨h3,cur',by rw[hother b (hob s b h1)];exact h4⟩
 ·simp only[sP,av]at h;obtain⟨e0,h0,rfl⟩:=h;obtain⟨b,vs',clk,h1,h2,h3,h4⟩:=hI.mobj s e0 h0;refine⟨b,vs',clk,h1,by rw[hother b (hmap h2)];exact h2,h3.bk hst,fun q hq=>?_⟩;obtain⟨q0,hq0,rfl⟩:=cX.1 hq;exact yT hnp (h4 q0 hq0)
 ·obtain⟨vs',clk,h2⟩:=hI.mbs s b h;exact⟨vs',clk,by rw[hother b (hmap h2)];exact h2⟩
 ·simp only[sP,fD]at h;exact hI.nomb s h
 ·have hb:b≠r.b:=by rintro rfl;rw[hpv]at hp;cases hp
  exact⟨by rw[hcomAt,ai fun h=>hb h.1];exact h,hp⟩
 ·rw[hcomAt]at h;by_cases hb:b=r.b
  ·exact .inr (.inl ⟨k,r,hr,hb.symm⟩)
  ·rw[ai fun h=>hb h.1]at h;exact .inl h
end
section
variable {G:Gh} {nt:Nat} {fr:Fr} {st st':St} {w:World} {a:Act} {o:Oper} {d:Option Nat} {cf:aJ} {p:PV}
def NK(hI:bM P B G st w)(hF:fu G nt fr a){t:Nat}{x y:Operand}(hop:o.op= .store t x y){cx cy:CX}(hx:bP x=some cx)(hy:bP y=some cy){sz:Nat}(hs:gO P t=some sz)
  (h:aC cf fr st d (.stx sz cx cy)=some (p,st')):p= .hole/\∃ w' G',(execOp a.eval o).run P w= .ok .skip w'/\bM P B G' st' w'/\cQ G w G' w'/\(∀ s,G'.bx s=G.bx s)/\
   ∀ t,R G' (wq (cx.ev fr) (cellsOf (cy.ev fr)) fr t) (a.tmps.getD t undef)/\cO (wq (cx.ev fr) (cellsOf (cy.ev fr)) fr t)=true:=by
 have hR:=cR hF hx;have htx:=eT hF hx;have hRy:=cR hF hy;have hty:=eT hF hy;have h':=h;simp only[aC]at h;split at h
 ·rename_i s off vs e1 e2;have hst:aC cf fr st d (.store sz cx cy)=some (p,st'):=by
   simp only[aC,e1,e2];exact h
  obtain⟨y',v',w',G',hrun,hor,hRp,hI',hL',hS',hob⟩:=C0 hI hF hop hx hy hs hst;have hp:p= .hole:=by
   split at h
   ·split at h<;>first|(cases h;rfl)|cases h
   ·cases h
  have hk:wq (cx.ev fr) (cellsOf (cy.ev fr)) fr=fr:=by rw[e1];rfl
  rw[hk];have hbx:∀ s,G'.bx s=G.bx s:=fun s=>by
   rcases hob s with⟨h,_⟩|h
   ·cases h
   ·exact h
  refine⟨hp,w',G',?_,hI',hS',hbx,fun t=>⟨(hF.2.1 t).mono hL' hbx,hF.2.2 t⟩⟩;rcases hor with rfl|⟨rfl,_⟩
  ·exfalso;simp only[execOp,hop]at hrun;generalize a.eval x=xv at hrun hR;generalize a.eval y=yv at hrun hRy;simp only[Sem.run_bind]at hrun;revert hrun;cases (Instr.storeAt t xv yv).run P w with
   |ok v w=>simp
   |_=>simp
  ·exact hrun
 ·rename_i cs off k e n vs e1 e2;split at h
  ·rename_i hc;obtain⟨c1,c2,c3,c4,c5,c6,c7,c8⟩:=hc;cases h;refine⟨rfl,?_⟩;simp only[execOp,hop];generalize hax:a.eval x=xv at hR;generalize hay:a.eval y=yv at hRy;rw[e1]at hR htx;cases hR with
   |iptr _ _ _ b o' us hl hcm hr h1 htp hp hx'=>
   obtain⟨y0,hy0⟩:=hI.live k c5;obtain⟨hle,hm⟩:=htp.2 y0 hy0;have hcnt:=(hI.cnt k y0 hy0).2;rw[c4]at hcnt;cases y0 with
   |full m=>
    have:=hI.ful k m hy0;subst this;simp only[ot.cnt]at hcnt;omega
   |room r=>
   obtain⟨rfl,rfl,hre,hlen⟩:=hm hcnt;have hcnt:n=r.m:=hcnt;subst hcnt;have hRv:=tl hRy e2;have hn:=pZ hty e2;obtain⟨hsh,hcm',hmc,hsz,hno,hxr⟩:=hI.room k r hy0;obtain⟨cur,hcur,hcs'⟩:=hI.sh _ _ _ hsh;have hlv:yv.cells.toList.length=sz:=by rw[<-hRv.1];exact c1
   have hfit:off+yv.cells.toList.length<=us.length:=by rw[hlv,<-hl];exact c2
   have hule:us.length<=cur.size:=by rw[hlen,hcs'];exact du _ hmc
   obtain⟨hI',hS',hst,hnp⟩:=hI.poke hy0 c3 hre c6 ⟨hl,hr,h1⟩ hRv hlen (fun j u hu=>by have:=hcm j u hu;rwa [ar]at this) hfit c7 c8 (ur htx) hn hcur;refine⟨_,_,?_,hI',hS',fun _=>rfl,fun t=>?_⟩
   ·have hrun:=run_storeCells_at P r.b off r.e yv.cells.toList 0 cur w hcur (by omega) hRv.2.2;simp only[aI]at hrun;have hlen':yv.cells.size=sz:=by simpa using hlv
    rw[ar];simp only[Instr.storeAt,Instr.sureAddr,storeVar,Sem.run_bind,Sem.run_pure,dA,iw w hs,hlen',al,not_true_eq_false,if_false,hrun]
   ·rw[e1,e2];exact⟨hst _ _ (hF.2.1 t),HW hnp (hF.2.2 t)⟩
  ·cases h
 ·cases h
def I3{f:Nat}{as:List PV}{x:PV×St}(h:az cf f as [0] st=some x){n:Nat}{cs:List PV}{k e:Nat}{rest:List PV}(ha:as= .list n cs (.own k e)::rest):k<st.nx/\st.cnt k=n:=by
 unfold az at h;split at h
 ·cases h
 ·split at h
  ·cases h
  ·rename_i cs0 hcs;simp only at h;split at h
   ·rename_i hb;simp only[aj,cw]at hb;have:=hb.1.1.2 (k,n) (by rw[ha];simp[d5,gu,aB]);simp only[uH,iQ,aj,decide_eq_true_eq,jO]at this;exact this.1
   ·cases h
def GD{f:Nat}{as:List PV}{x:PV×St}(h:az cf f as [0] st=some x){cs:List PV}{rest:List PV}(ha:as= .agg cs::rest){q:Nat×Nat}(hq:q∈aw cs):q.1<st.nx/\st.cnt q.1=q.2:=by
 unfold az at h;split at h
 ·cases h
 ·split at h
  ·cases h
  ·rename_i cs0 hcs;simp only at h;split at h
   ·rename_i hb;simp only[aj,cw]at hb;have:=hb.1.1.2 q (by rw[ha];simp[d5,gu,aB,hq]);simp only[uH,iQ,aj,decide_eq_true_eq,jO]at this;exact this.1
   ·cases h
def mx(J:List Nat)(l:List (Nat×Nat×PV)):∀ cs:List PV,(nJ J l cs).length=cs.length
 | []=>rfl
 |c::cs=>by simp[nJ,mx J l cs]
def wO(J:List Nat)(l:List (Nat×Nat×PV)):∀ (cs:List PV) (j:Nat),(nJ J l cs)[j]? =(cs[j]?).map (mU J l)
 | [],j=>by simp[nJ]
 |c::cs,0=>by simp[nJ]
 |c::cs,j+1=>by simp only[nJ,aa];exact wO J l cs j
def R.bkSel{J:List Nat}{l:List (Nat×Nat×PV)}{G G':Gh}(h:Rn some (J.contains ·) false G G')(hbx:∀ s,G'.bx s=G.bx s)(hp:∀ n cs t p v,sQ l n t=some p->R G (.list n cs t) v->R G' p v){q:PV}{v:Value}(hr:R G q v):R G' (mU J l q) v:=by
 have get:∀ {cs:List PV} {j:Nat} {q:PV},(nJ J l cs)[j]? =some q->∃ q',cs[j]? =some q'/\mU J l q'=q:=by
  intro cs j q hq;rw[wO]at hq;cases hc:cs[j]? with
  |none=>rw[hc]at hq;simp at hq
  |some q'=>rw[hc]at hq;simp at hq;exact⟨q',rfl,hq⟩
 have first:∀ {us:List Value} {b o:Nat},us≠ []->(∀ (j:Nat) (u:Value),us[j]? =some u->G.com b (o+j)=some u)->∃ v,G.com b o=some v:=by
  intro us b o hne hc;cases us with
  |nil=>exact absurd rfl hne
  |cons u us=>exact⟨u,hc 0 u rfl⟩
 have frOk:∀ {us:List Value} {b:Nat} {t:aF},t.free (J.contains ·)=true->(∀ k,us≠ []->G.pv b=some k->t.of=some k)->us≠ []->∀ k,G.pv b=some k->J.contains k=false:=by
  intro us b t hf hp hne k hk';have:=hp k hne hk';simpa [aF.free,this]using hf
 have comOk:∀ {us:List Value} {b o:Nat} {t:aF},t.free (J.contains ·)=true->(∀ k,us≠ []->G.pv b=some k->t.of=some k)->(∀ (j:Nat) (u:Value),us[j]? =some u->G.com b (o+j)=some u)->∀ (j:Nat) (u:Value),us[j]? =some u->G'.com b (o+j)=some u:=by
  intro us b o t hf hp hc j w hu;have hne:us≠ []:=by intro e;subst e;simp at hu
  exact h.com _ _ _ (hc j w hu) (frOk hf hp hne)
 have xpOk:∀ {us:List Value} {b o:Nat} {t:aF},t.free (J.contains ·)=true->(∀ k,us≠ []->G.pv b=some k->t.of=some k)->(us≠ []->t≠ .no->G.xp b=false)->(∀ (j:Nat) (u:Value),us[j]? =some u->G.com b (o+j)=some u)->
   us≠ []->t≠ .no->G'.xp b=false:=by
  intro us b o t hf hp hx hc hne ht';cases hxb:G'.xp b with
  |false=>rfl
  |true=>
   obtain⟨v0,hv0⟩:=first hne hc
   rcases h.xp b _ v0 hv0 (frOk hf hp hne) hxb with h1|⟨k,h1,h2⟩
   ·rw[hx hne ht']at h1;cases h1
   ·cases h2
 have pvOk:∀ {us:List Value} {b o:Nat} {t:aF},t.free (J.contains ·)=true->(∀ k,us≠ []->G.pv b=some k->t.of=some k)->(∀ (j:Nat) (u:Value),us[j]? =some u->G.com b (o+j)=some u)->∀ k',us≠ []->G'.pv b=some k'->t.of=some k':=by
  intro us b o t hf hp hc k' hne hk';obtain⟨v0,hv0⟩:=first hne hc
  rcases h.pv b k' _ v0 hv0 (frOk hf hp hne) hk' with⟨k,hk1,hk2⟩|⟨hX',_⟩
  ·have:=Option.some.inj hk2;subst this;exact hp _ hne hk1
  ·cases hX'
 induction hr with
 |any v=>exact .any v
 |hole=>exact .hole
 |int k n=>exact .int k n
 |bool b=>exact .bool b
 |str s=>exact .str s
 |nilp=>exact .nilp
 |nili=>exact .nili
 |err t v=>exact .err t v
 |agg cs vs hl _ h1 ih=>
  simp only[mU];refine .agg _ vs (by rw[mx];exact hl) (fun j q w hq hu=>?_) h1;obtain⟨q',hq',rfl⟩:=get hq;exact ih j q' w hq' hu
 |tup cs vs hl _ ih=>
  simp only[mU];refine .tup _ vs (by rw[mx];exact hl) (fun j q w hq hu=>?_);obtain⟨q',hq',rfl⟩:=get hq;exact ih j q' w hq' hu
 |listN t htn=>
  simp only[mU];split
  ·rename_i p hc;exact hp _ _ _ p _ hc (.listN t htn)
  ·split
   ·rename_i hf;have:=htn.ren (s:=false) h hf;rw[aF.ren_some]at this;exact .listN t this
   ·exact .any _
 |listE a=>
  simp only[mU];split
  ·rename_i p hc;simp[sQ]at hc
  ·split
   ·exact .listE a
   ·exact .any _
 |list n cs t b o cap us hn hl hc hr0 h1 htr hpp hx ih=>
  simp only[mU];split
  ·rename_i p hcc;exact hp _ _ _ p _ hcc (.list n cs t b o cap us hn hl hc hr0 h1 htr hpp hx)
  ·split
   ·rename_i hf;have htr':=htr.ren (s:=false) h hf;rw[aF.ren_some]at htr';refine .list n _ t b o cap us hn (by rw[mx];exact hl) (comOk hf hpp hc) (fun j q w hq hu=>?_) h1 htr' (pvOk hf hpp hc) (xpOk hf hpp hx hc);obtain⟨q',hq',rfl⟩:=get hq;exact ih j q' w hq' hu
   ·exact .any _
 |ptr s off b hb=>exact .ptr s off b (by rw[mH (hbx s)];exact hb)
 |osl e sz s n b hb he=>exact .osl e sz s n b (by rw[mH (hbx s)];exact hb) (by rw[Bz (hbx s)];exact he)
 |mp s b hb=>exact .mp s b (by rw[I9 (hbx s)];exact hb)
 |iptr cs off t b o us hl hc _ h1 htp hpp hx ih=>
  simp only[mU];split
  ·rename_i hf;have htp':=htp.ren (s:=false) h hf;rw[aF.ren_some]at htp';refine .iptr _ off t b o us (by rw[mx];exact hl) (comOk hf hpp hc) (fun j q w hq hu=>?_) h1 htp' (pvOk hf hpp hc) (xpOk hf hpp hx hc);obtain⟨q',hq',rfl⟩:=get hq;exact ih j q' w hq' hu
  ·exact .any _
 |fn g cs vs hl _ ih=>
  simp only[mU];refine .fn g _ vs (by rw[mx];exact hl) (fun j q w hq hu=>?_);obtain⟨q',hq',rfl⟩:=get hq;exact ih j q' w hq' hu
mutual
theorem HY(J:List Nat)(l:List (Nat×Nat×PV))(K:Nat->Bool)(hp:∀ n t p,sQ l n t=some p->off K p=true):∀ p:PV,off K p=true->off K (mU J l p)=true
 | .list m cs t,h=>by
  have ih:=qq J l K hp cs (by simpa [off]using h);simp only[mU];split
  ·rename_i p hc;exact hp _ _ p hc
  ·split
   ·simpa [off]using ih
   ·rfl
 | .iptr cs o t,h=>by
  have ih:=qq J l K hp cs (by simpa [off]using h);simp only[mU];split
  ·simpa [off]using ih
  ·rfl
 | .agg cs,h=>by have ih:=qq J l K hp cs (by simpa [off]using h);simpa [mU,off]using ih
 | .tup cs,h=>by have ih:=qq J l K hp cs (by simpa [off]using h);simpa [mU,off]using ih
 | .fn g cs,h=>by have ih:=qq J l K hp cs (by simpa [off]using h);simpa [mU,off]using ih
 | .any,h| .hole,h| .int _ _,h| .bool _,h| .str _,h| .nilp,h| .nili,h| .err,h| .ptr _ _,h| .osl _ _ _ _,h| .mp _,h=>h
theorem qq(J:List Nat)(l:List (Nat×Nat×PV))(K:Nat->Bool)(hp:∀ n t p,sQ l n t=some p->off K p=true):∀ ps:List PV,dS K ps=true->dS K (nJ J l ps)=true
 | [],_=>rfl
 |p::ps,h=>by
  simp only[dS,aj]at h;simp only[nJ,dS,HY J l K hp p h.1,qq J l K hp ps h.2,ay]
end
def yk{J:List Nat}{l:List (Nat×Nat×PV)}(hp:∀ n t p,sQ l n t=some p->np p=true){p:PV}(h:np p=true):np (mU J l p)=true:=HY J l _ hp p h
def OC{J:List Nat}{l:List (Nat×Nat×PV)}(hp:∀ n t p,sQ l n t=some p->np p=true){ps:List PV}(h:aX ps=true):aX (nJ J l ps)=true:=qq J l _ hp ps h
def MS{J:List Nat}{l:List (Nat×Nat×PV)}(hp:∀ n t p,sQ l n t=some p->np p=true){p:PV}(h:cO p=true):cO (mU J l p)=true:=by
 have plain:∀ q:PV,np q=true->cO q=true:=by
  intro q hq;cases q with
  |fn g cs=>
   simp only[cO,cw,cY];intro c hc;obtain⟨j,hj⟩:=nQ hc;exact .inr (j7 (by simpa [np,off,aX]using hq) hj)
  |_=>simp only[cO,hq,lB]
 cases p with
 |fn g cs=>
  simp only[cO,cw,cY]at h;simp only[mU,cO,cw,cY];intro c hc;obtain⟨j,hj⟩:=nQ hc;rw[wO,av]at hj;obtain⟨d,hd,rfl⟩:=hj;rcases h d (b8 hd)with h1|h1
  ·left;cases d<;>simp[gQ]at h1<;>rfl
  ·exact .inr (yk hp h1)
 |list m cs t=>exact plain _ (yk hp (by simpa [cO,gQ]using h))
 |iptr cs o t=>exact plain _ (yk hp (by simpa [cO,gQ]using h))
 |agg cs=>exact plain _ (yk hp (by simpa [cO,gQ]using h))
 |tup cs=>exact plain _ (yk hp (by simpa [cO,gQ]using h))
 |_=>exact h
def v6{l:List (Nat×Nat×PV)}{n:Nat}{t:aF}{p:PV}(h:sQ l n t=some p):∃ k e,t= .own k e/\(k,n,p)∈l:=by
 unfold sQ at h;split at h
 ·rename_i k e;rw[av]at h;obtain⟨q,hq,rfl⟩:=h;have h1:=List.find?_some hq;have h2:=ov hq;simp only[aj,jO]at h1;obtain⟨a,b,c⟩:=q;obtain⟨rfl,rfl⟩:=h1;exact⟨a,e,rfl,h2⟩
 ·cases h
def uy:∀ {cs ds:List PV} {k n:Nat} {p:PV},(k,n,p)∈q6 cs ds->∃ (i:Nat) (c:List PV) (e:Nat) (d:PV),cs[i]? =some (PV.list n c (.own k e))/\ds[i]? =some d/\p=jb n d
 | [],ds,k,n,p,h=>by simp[q6]at h
 |c::cs,[],k,n,p,h=>by
  unfold q6 at h;split at h
  ·rename_i h1;cases h1
  ·rename_i h1;cases h1
  ·simp at h
 |c::cs,d::ds,k,n,p,h=>by
  have tail:(k,n,p)∈q6 cs ds->∃ (i:Nat) (c':List PV) (e:Nat) (d':PV),(c::cs)[i]? =some (PV.list n c' (.own k e))/\(d::ds)[i]? =some d'/\p=jb n d':=by
   intro h;obtain⟨i,c',e,d',h1,h2,h3⟩:=uy h;exact⟨i+1,c',e,d',h1,h2,h3⟩
  unfold q6 at h;split at h
  ·rename_i h1 h2;injection h1 with h1 h1';injection h2 with h2 h2';subst h1 h1' h2 h2';rcases aZ.mp h with h|h
   ·simp only[cL]at h;obtain⟨rfl,rfl,rfl⟩:=h;exact⟨0,_,_,d,rfl,rfl,rfl⟩
   ·exact tail h
  ·rename_i h1 h2;injection h1 with h1 h1';injection h2 with h2 h2';subst h1 h1' h2 h2';exact tail h
  ·simp at h
def C5:∀ {cs:List PV} {i n:Nat} {c:List PV} {k e:Nat},cs[i]? =some (PV.list n c (.own k e))->(k,n)∈aw cs
 |c::cs,0,n,c',k,e,h=>by
  simp only[ad,bB]at h;subst h;simp[aw,aB]
 |c::cs,i+1,n,c',k,e,h=>by
  simp only[aa]at h;simp only[aw,aG];exact .inr (C5 h)
def LT(hI:bM P B G st w){k n e e2:Nat}(h1:k<st.nx)(h2:st.cnt k=n)(hn:n≠0){cs cs2:List PV}{v v0:Value}(hv:R G (.list n cs2 (.own k e2)) v)(h0:R G (.list n cs (.own k e)) v0):v=v0:=by
 obtain⟨y0,hy0⟩:=hI.live k h1;have hcnt:=(hI.cnt k y0 hy0).2;rw[h2]at hcnt;cases y0 with
 |full m=>have:=hI.ful k m hy0;subst this;simp only[ot.cnt]at hcnt;omega
 |room rr=>
 cases hv with
 |listN=>omega
 |list _ _ _ b o cap us _ _ _ _ _ htr _ _=>
 cases h0 with
 |listN=>omega
 |list _ _ _ b2 o2 cap2 us2 _ _ _ _ _ htr2 _ _=>
 obtain⟨-,h1⟩:=htr.2 _ hy0;obtain⟨-,h2⟩:=htr2.2 _ hy0;obtain⟨rfl,rfl,rfl,-,-⟩:=h1 hcnt;obtain⟨rfl,rfl,rfl,-,-⟩:=h2 hcnt;rfl
def C6{G':Gh}(hI:bM P B G st w){k n e:Nat}(h1:k<st.nx)(h2:st.cnt k=n){cs:List PV}{v0:Value}(h0:R G (.list n cs (.own k e)) v0){p0:PV}(hp:R G' p0 v0){cs2:List PV}{t:aF}{v:Value}(hto:t.isOwn k=true)(hRv:R G (.list n cs2 t) v):R G' (jb n p0) v:=by
 simp only[jb];by_cases hn:n=0
 ·rw[am hn];subst hn;cases hRv with
  |listN=>exact .listN _ trivial
  |listE a=>exact .listE a
  |list _ _ _ b o cap us _ _ _ _ _ _ _ _=>exact .list 0 [] .no b o cap [] (aW _) rfl (by simp) (by simp) (by simp) trivial (fun _ h=>absurd rfl h) (fun h=>absurd rfl h)
 ·rw[ai hn];cases t with
  |own j e2=>
   simp only[aF.isOwn,jO]at hto;subst hto;rw[LT hI h1 h2 hn hRv h0];exact hp
  |_=>simp[aF.isOwn]at hto
def wm{n:Nat}{p:PV}(h:np p=true):np (jb n p)=true:=by
 unfold jb;split
 ·rfl
 ·exact h
def Mc{G':Gh}(hI:bM P B G st w){as:List PV}{f:Nat}{x:PV×St}(hcall:az cf (mI f) as [0] st=some x)(hm:rS as=true){v0:Value}{r0 p0:PV}{st0:St}(h0:∀ a0,as[0]? =some a0->R G a0 v0)(hRp:R G' p0 v0)(hnp:np p0=true)
  (hrn:Rn some ((dn as [0] st).contains ·) false G G') (hbx:G'.bx=G.bx) {q:PV} {u:Value} (hq:R G q u) (ht:cO q=true):R G' (kU (some (r0,p0,st0)) as st q) u/\cO (kU (some (r0,p0,st0)) as st q)=true:=by
 cases as with
 |nil=>simp[rS]at hm
 |cons a0 rest=>
 cases a0 with
 |list n cs tk=>
  cases tk with
  |own k e0=>
   have htk:=I3 hcall rfl;refine⟨R.bk (u:=⟨dn (.list n cs (.own k e0)::rest) [0] st,k,n,jb n p0⟩) hrn (fun s=>by rw[hbx]) (fun cs2 t v hto hRv=>C6 hI htk.1 htk.2 (h0 _ rfl) hRp hto hRv) hq,HW (u:=⟨dn (.list n cs (.own k e0)::rest) [0] st,k,n,jb n p0⟩) (wm hnp) ht⟩
  |_=>exact⟨hq.rn hrn hbx,td ht⟩
 |agg cs=>
  cases p0 with
  |agg ds=>
   have hv0:=h0 _ rfl;cases hv0 with
   |agg _ us hl hcs hsh=>
   cases hRp with
   |agg _ _ hl2 hds _=>
   have hnd:aX ds=true:=by simpa [np,off,aX]using hnp
   refine⟨R.bkSel (J:=dn (.agg cs::rest) [0] st) (l:=q6 cs ds) hrn (fun s=>by rw[hbx]) (fun n c t p v hs hRv=>?_) hq,MS (J:=dn (.agg cs::rest) [0] st) (l:=q6 cs ds) (fun n t p hs=>?_) ht⟩
   ·obtain⟨k,e,rfl,hm2⟩:=v6 hs;obtain⟨i,c',e',d,hc,hd,rfl⟩:=uy hm2;have htk:=GD hcall rfl (C5 hc);have hil:i<us.length:=by
     have:=(bD.mp hc).1;omega
    have hu:us[i]? =some us[i]:=aK hil;exact C6 hI htk.1 htk.2 (hcs i _ _ hc hu) (hds i d _ hd hu) (by simp[aF.isOwn]) hRv
   ·obtain⟨k,e,rfl,hm2⟩:=v6 hs;obtain⟨i,c',e',d,hc,hd,rfl⟩:=uy hm2;exact wm (j7 hnd hd)
  |_=>exact⟨hq.rn hrn hbx,td ht⟩
 |_=>simp[rS]at hm
def LI{f:Nat}{vs:List Value}{e:Ending}{K:Value->Gh->Prop}(h:∃ v G',rG (mI f) vs v e/\K v G'):∃ u G',e= .returned u/\K (.tuple #[u,vs.getD 0 undef]) G':=by
 refine h.elim fun v h=>h.elim fun G' h=>?_;refine((wY (f:=f) (vs:=vs) (v:=v) (e:=e)).mp (And.left h)).elim fun u hu=>?_;exact⟨u,G',hu.1,by rw[<-hu.2];exact And.right h⟩
def bM.boxes{objs:Nat->Option (List PV)}(hI:bM P B G st w)(h:∀ s c,objs s=some c->(∃ b e vs,G.ob s=some b/\w.heap[b]? =some (.cells (List.toArray vs) e (0,0))/\Rs G c vs)/\aX c=true)(hn:∀ s,objs s=none->G.ob s=none):bM P B G {st with objs:=objs} w:=
 ⟨hI.com,hI.sh,hI.nx,hI.cnt,hI.live,hI.room,hI.apart,hI.priv,fun s c hc=>(h s c hc).1,hI.obs,hI.obj,hn,fun s c hc=>(h s c hc).2,hI.pvl,hI.xpl,hI.base,hI.oes,hI.mobj,hI.mbs,hI.mbi,hI.nomb,hI.obx,hI.ful⟩
def GC(hcf:jD P B cf)(hI:bM P B G st w){f:Nat}(hf:f<1000000){as:List PV}{vs:List Value}(hl:as.length=vs.length)(hR:∀ (j:Nat) p v,as[j]? =some p->vs[j]? =some v->R G p v/\cO p=true)
  {r p':PV} (h:uP cf f as st=some (r,p',st')) (hm:rS as=true):
  mg P f/\np r=true/\Calls P f vs.toArray w fun e w'=>∃ v G',e= .returned v/\R G' r v/\bM P B G' (Nq p' as st st') w'/\cQ G w G' w'/\(∀ q u,R G q u->cO q=true->R G' (kU (some (r,p',st')) as st q) u/\cO (kU (some (r,p',st')) as st q)=true)/\G'.bx=G.bx:=by
 unfold uP at h;split at h
 ·rename_i r0 p0 st0 hcall;simp only[bB,cL]at h;obtain⟨rfl,rfl,rfl⟩:=h;obtain⟨hE,hnp,hC⟩:=ss hcf hI hl hR hcall;rw[Dn hf]at hE hC;have hnps:aX [r0,p0]=true:=hnp;refine⟨hE,gm hnps (by simp),hC.mono ?_⟩;intro e w' hx;obtain⟨u,G',rfl,hRt,hI',hS',hrn,hbx,hkb⟩:=LI hx;generalize hv2:(#[u,vs.getD 0 undef]:Array Value)=vv at hRt;cases hRt with
  |tup _ vs2 hl2 hr2=>
  have hvv:vs2=[u,vs.getD 0 undef]:=by
   have:=bX Array.toList hv2;simpa using this.symm
  subst hvv;have h0:∀ a0,as[0]? =some a0->R G a0 (vs.getD 0 undef):=fun a0 ha=>by
   cases vs with
   |nil=>
    cases as with
    |nil=>simp at ha
    |cons a as=>simp at hl
   |cons v0 vs=>exact(hR 0 a0 v0 ha rfl).1
  have hk:∀ q x,R G q x->cO q=true->R G' (kU (some (r0,p0,st0)) as st q) x/\cO (kU (some (r0,p0,st0)) as st q)=true:=fun q x hq ht=>Mc hI hcall hm h0 (hr2 1 p0 _ rfl rfl) (gm hnps (by simp)) hrn hbx hq ht;refine⟨u,G',rfl,hr2 0 r0 u rfl rfl,?_,hS',hk,hbx⟩;unfold Nq;split
  ·split
   ·rename_i cs rest ds hks;refine hI'.boxes (fun s c hc=>?_) (fun s hc=>?_)
    ·rw[av]at hc;obtain⟨c0,hc0,rfl⟩:=hc;obtain⟨b,e,ws,h1,h2,h3⟩:=hI.objs s c0 hc0;refine⟨⟨b,e,ws,by rw[mH (congrFun hbx s)];exact h1,by rw[hkb (by simp) hks s b h1];exact h2,by rw[mx];exact h3.1,fun j q v hq hv=>?_,h3.2.2⟩,OC (fun n t p hs=>?_) (hI.npo s c0 hc0)⟩
     ·rw[wO,av]at hq;obtain⟨q0,hq0,rfl⟩:=hq;exact(hk q0 v (h3.2.1 j q0 v hq0 hv) (ga (j7 (hI.npo s c0 hc0) hq0))).1
     ·obtain⟨k,e,rfl,hm2⟩:=v6 hs;obtain⟨i,c',e',d,hc,hd,rfl⟩:=uy hm2;have hnd:aX ds=true:=by simpa [np,off,aX]using gm hnps (p:= .agg ds) (by simp)
      exact wm (j7 hnd hd)
    ·rw[fD]at hc;rw[mH (congrFun hbx s)];exact hI.nob s hc
   ·exact hI'
  ·exact hI'
 ·cases h
end
def Gh.cut(G:Gh)(k h:Nat)(r:qv):Gh where
 com b o:=if b=r.b/\h*r.sz<=o then none else G.com b o
 sh:=G.sh
 tk t:=if t=k then some (.full 0)else if t=G.nx then some (.room (qv.mk r.b r.cap r.sz r.e h))else G.tk t
 ob:=G.ob
 nx:=G.nx+1
 pv b:=if b=r.b then some G.nx else G.pv b
 xp:=G.xp
 oe:=G.oe
 mb:=G.mb
section
variable {G:Gh} {st:St} {w:World}
def JK(hI:bM P B G st w){k h:Nat}{r:qv}(hr:G.tk k=some (.room r))(hfl:st.fl<=k):Rn some ([k].contains ·) false G (G.cut k h r):=by
 have hpv:G.pv r.b=some k:=(hI.priv k r hr).1 hfl;have hne:∀ b,(∀ k',G.pv b=some k'->[k].contains k'=false)->b≠r.b:=by
  rintro b hK rfl;have:=hK k hpv;simp at this
 refine⟨fun b o v h hK=>?_,fun _ _ h=>h,fun j j' hj hK hlt=>?_,fun b j o v h hK hp=>?_,fun b o v _ _ h=> .inl h⟩
 ·show(if b=r.b/\_ then none else G.com b o)=some v;rw[ai fun h=>hne b hK h.1];exact h
 ·cases hj;have hjk:j≠k:=by
   rintro rfl;simp at hK
  refine⟨Nat.lt_succ_of_lt hlt,fun x' hx=>⟨x',?_,aP _,fun _=>rfl⟩⟩;simp only[Gh.cut,ai hjk]at hx;rwa [ai (by omega)]at hx
 ·simp only[Gh.cut,ai (hne b hK)]at hp;exact .inl ⟨j,hp,rfl⟩
def bM.cut(hI:bM P B G st w){k h:Nat}{r:qv}(hr:G.tk k=some (.room r))(hfl:st.fl<=k)(hh:h<=r.cap):
  bM P B (G.cut k h r) (fY st k h) w/\cQ G w (G.cut k h r) w:=by
 obtain⟨hsh,hcm,hmc,hsz,hno,hxr⟩:=hI.room k r hr;have hklt:=(hI.cnt k _ hr).1;have hnx:=hI.nx;have hpv:G.pv r.b=some k:=(hI.priv k r hr).1 hfl;have hrn:=JK (h:=h) hI hr hfl;have hbl:r.b<w.heap.size:=hI.pvl _ _ hpv;have hcomAt:∀ {b o v},(G.cut k h r).com b o=some v->G.com b o=some v:=by
  intro b o v h;simp only[Gh.cut]at h;split at h
  ·cases h
  ·exact h
 have hroom:∀ {t q},(G.cut k h r).tk t=some (.room q)->(t=G.nx/\q={r with m:=h})\/(t≠k/\t≠G.nx/\G.tk t=some (.room q)/\q.b≠r.b):=by
  intro t q h;simp only[Gh.cut]at h;split at h
  ·cases h
  ·rename_i htk;split at h
   ·rename_i ht;cases h;exact .inl ⟨ht,rfl⟩
   ·rename_i ht;exact .inr ⟨htk,ht,h,fun e=>htk (hI.apart t k q r h hr e)⟩
 have hob:∀ s b,G.ob s=some b->b≠r.b:=by
  intro s b hb e;have:=(hI.obs s b hb).2.2;rw[e,hsh]at this;cases this
 have stay:∀ {p:PV} {v:Value},R G p v->R (G.cut k h r) (bY [k] p) v:=fun hR=>hR.rn hrn rfl;refine⟨⟨fun b o v h=>hI.com b o v (hcomAt h),fun b e n h=>hI.sh b e n h,by simp[Gh.cut,fY,St.more,hnx],fun t x hx=>?_,fun t ht=>?_,fun t q hq=>?_,fun t u q q' h1 h2 hb=>?_,fun t q hq=>?_,fun s cs h=>?_,fun s b h=>?_,hI.obj,fun s h=>?_,fun s cs h=>?_,fun b j h=>?_,hI.xpl,fun b o v h=>?_,hI.oes,fun s es h=>?_,hI.mbs,hI.mbi,fun s h=>?_,fun s b h=>?_,fun t m h=>?_⟩,
  ⟨⟨fun b o v h hp=>?_,fun _ _ h=>h,rfl⟩,aP _,fun _ _ _ _ _=>rfl,fun s b h=> .inl ⟨s,h⟩,fun t q hq=>?_,fun b o v h=> .inl (hcomAt h),fun _ _ h=> .inl h,fun b j h=>?_,fun s b h=> .inl ⟨s,h⟩,⟨rfl,rfl⟩⟩⟩
 ·simp only[Gh.cut]at hx;split at hx
  ·rename_i e;cases hx;subst e;exact⟨by simp[fY,St.more];omega,by simp[fY,ot.cnt]⟩
  ·rename_i htk;split at hx
   ·rename_i e;cases hx;subst e;refine⟨by simp[fY,St.more];omega,?_⟩;have:¬ (st.nx=k):=by omega
    simp[fY,St.more,this,hnx,ot.cnt]
   ·obtain⟨h1,h2⟩:=hI.cnt t x hx;refine⟨by simp[fY,St.more];omega,?_⟩;simp[fY,St.more,htk,h1,h2]
 ·by_cases e:t=k
  ·exact⟨.full 0,by simp[Gh.cut,e]⟩
  ·by_cases e':t=G.nx
   ·exact⟨.room {r with m:=h},by simp only[Gh.cut,ai e,am e']⟩
   ·obtain⟨x,hx⟩:=hI.live t (by simp[fY,St.more]at ht;omega);exact⟨x,by simp only[Gh.cut,ai e,ai e'];exact hx⟩
 ·rcases hroom hq with⟨rfl,rfl⟩|⟨h1,h2,h3,h4⟩
  ·exact⟨hsh,hcm,hh,hsz,fun o ho=>by simp only[Gh.cut];rw[am ⟨trivial,ho⟩],hxr⟩
  ·obtain⟨g1,g2,g3,g4,g5,g6⟩:=hI.room t q h3;exact⟨g1,g2,g3,g4,fun o ho=>by simp only[Gh.cut];rw[ai fun e=>h4 e.1];exact g5 o ho,g6⟩
 ·rcases hroom h1 with⟨rfl,rfl⟩|⟨a1,a2,a3,a4⟩<;>rcases hroom h2 with⟨rfl,rfl⟩|⟨b1,b2,b3,b4⟩
  ·rfl
  ·exact absurd hb.symm b4
  ·exact absurd hb a4
  ·exact hI.apart t u q q' a3 b3 hb
 ·rcases hroom hq with⟨rfl,rfl⟩|⟨h1,h2,h3,h4⟩
  ·refine⟨fun _=>by simp[Gh.cut],fun j hj=>?_⟩;simp[Gh.cut]at hj;exact hj.symm
  ·simp only[Gh.cut,ai h4];exact hI.priv t q h3
 ·simp only[fY,iZ,av]at h;obtain⟨c0,h1,rfl⟩:=h;obtain⟨b,e,us,h2,h3,h4⟩:=hI.objs s c0 h1;refine⟨b,e,us,h2,h3,by rw[bJ];exact h4.1,fun j p u hp hu=>?_,h4.2.2⟩;rw[dB,av]at hp;obtain⟨q,hq,rfl⟩:=hp;exact stay (h4.2.1 j q u hq hu)
 ·obtain⟨h1,h2,h3⟩:=hI.obs s b h;refine⟨h1,fun o=>?_,h3⟩;simp only[Gh.cut];rw[ai fun e=>hob s b h e.1];exact h2 o
 ·simp only[fY,iZ,fD]at h;exact hI.nob s h
 ·simp only[fY,iZ,av]at h;obtain⟨c0,h1,rfl⟩:=h;exact EL (hI.npo s c0 h1)
 ·simp only[Gh.cut]at h;split at h
  ·rename_i e;rw[e];exact hbl
  ·exact hI.pvl b j h
 ·obtain⟨h1,h2,h3⟩:=hI.base b o v h;have hb:b≠r.b:=by rintro rfl;rw[hpv]at h2;cases h2
  simp only[Gh.cut];exact⟨by rw[ai fun e=>hb e.1];exact h1,by rw[ai hb];exact h2,h3⟩
 ·simp only[fY,lj,av]at h;obtain⟨e0,h0,rfl⟩:=h;obtain⟨b,vs,clk,h1,h2,h3,h4⟩:=hI.mobj s e0 h0;refine⟨b,vs,clk,h1,h2,⟨by rw[bJ];exact h3.1,fun i q x hq hx=>?_⟩,fun q hq=>?_⟩
  ·rw[dB,av]at hq;obtain⟨q0,hq0,rfl⟩:=hq;obtain⟨g1,g2⟩:=h3.2 i q0 x hq0 hx;exact⟨g1,stay g2⟩
  ·obtain⟨q0,hq0,rfl⟩:=cX.1 hq;exact zY (h4 q0 hq0)
 ·simp only[fY,lj,fD]at h;exact hI.nomb s h
 ·obtain⟨h1,h2⟩:=hI.obx s b h;simp only[Gh.cut,ai (hob s b h)];exact⟨h1,h2⟩
 ·simp only[Gh.cut]at h;split at h
  ·cases h;rfl
  ·split at h
   ·cases h
   ·exact hI.ful t m h
 ·have hb:b≠r.b:=by rintro rfl;rw[hpv]at hp;cases hp
  simp only[Gh.cut];exact⟨by rw[ai fun e=>hb e.1];exact h,by rw[ai hb];exact hp⟩
 ·rcases hroom hq with⟨rfl,rfl⟩|⟨h1,h2,h3,h4⟩
  ·exact .inl ⟨k,r,hr,rfl⟩
  ·exact .inl ⟨t,q,h3,rfl⟩
 ·simp only[Gh.cut]at h;split at h
  ·rename_i e;exact .inl ⟨k,by rw[e];exact hpv⟩
  ·exact .inl ⟨j,h⟩
def H3(hI:bM P B G st w){st':St}{p x y:PV}{xv yv:Value}{t ty e:Nat}(hx:R G x xv)(hy:R G y yv)(htx:cO x=true)(hty:cO y=true)(hu:P.underlying t=some (.slice e))
  {i:TypeInfo} (hi:P.info? e=some i) {zs:List PV} (hz:gw P e=some zs) (hzl:zs.length=i.size)
  (h:FR e i.size i.bytes x y st=some (p,st')):∃ v w' G',(Builtin.append_ #[t,t] ty #[xv,yv]).run P w= .ok v w'/\R G' p v/\bM P B G' st' w'/\Le G G'/\cQ G w G' w'/\G'.bx=G.bx/\cO p=true:=by
 unfold FR at h;split at h
 ·rename_i n cs tk m ds ty';split at h
  ·rename_i hb;obtain⟨hc,hcs,hds,hby,hnm,h0⟩:=hb;have hres:p= .list (n+m) (cs++ds) (.own (ii st tk) e)/\st'=lG st (n+m) tk/\J6 e tk/\∀ e',tk= .full e'->0<m\/n=0:=by
    cases tk with
    |no=>simp[iQ]at hc
    |sub k=>simp[iQ]at hc
    |el k e n=>simp[iQ]at hc
    |nil=>cases h;exact⟨rfl,rfl,trivial,fun _ h=>by cases h⟩
    |full e'=>
     simp only at h;split at h
     ·rename_i he;cases h;exact⟨rfl,rfl,he.1,fun _ _=>he.2⟩
     ·cases h
    |own k e'=>
     simp only at h;split at h
     ·rename_i he;cases h;exact⟨rfl,rfl,he,fun _ h=>by cases h⟩
     ·cases h
   obtain⟨rfl,rfl,hex,hfu⟩:=hres;obtain⟨v,w',G',hrun,hR',hI',hL',hS',hob⟩:=yA (ty:=ty) hI hu hi hz hzl hx hy hc hex hcs hds hby hnm h0 hfu;refine⟨v,w',G',hrun,hR',hI',hL',hS',hob,ga ?_⟩;have h1:aX cs=true:=by simpa [cO,gQ,np,off,aX]using htx
   have h2:aX ds=true:=by simpa [cO,gQ,np,off,aX]using hty
   have:=iz h1 h2;simpa [np,off,aX]using this
  ·cases h
 ·cases h
end
section
variable {G:Gh} {nt:Nat} {fr:Fr} {st st':St} {w:World} {a:Act} {o:Oper} {d:Option Nat} {cf:aJ} {p:PV}
def NQ(hI:bM P B G st w)(hF:fu G nt fr a){t e:Nat}{x y:Operand}(hop:o.op= .call {callee:= .builtin .append,args:= #[x,y],argTypes:= #[t,t]})(hu:P.underlying t=some (.slice e))
  {cx cy:CX} (hx:bP x=some cx) (hy:bP y=some cy) {i:TypeInfo} (hi:P.info? e=some i) {zs:List PV} (hz:gw P e=some zs) (hzl:zs.length=i.size)
  (h:aC cf fr st d (.apc e i.size i.bytes cx cy)=some (p,st')):∃ v w' G',(execOp a.eval o).run P w= .ok (.value v) w'/\R G' p v/\cO p=true/\bM P B G' st' w'/\cQ G w G' w'/\(∀ s,G'.bx s=G.bx s)/\
   ∀ t,R G' (bY (mT (cx.ev fr) (cy.ev fr) st) (fr t)) (a.tmps.getD t undef)/\cO (bY (mT (cx.ev fr) (cy.ev fr) st) (fr t))=true:=by
 have hR:=cR hF hx;have hRy:=cR hF hy;have htx:=eT hF hx;have hty:=eT hF hy;simp only[aC]at h;simp only[execOp,hop,resolve,invoke,builtin];generalize hxe:a.eval x=xv at hR;generalize hye:a.eval y=yv at hRy;generalize cx.ev fr=px at*;generalize cy.ev fr=py at*;have plain:FR e i.size i.bytes px py st=some (p,st')->mT px py st=[]->∃ v w' G',(Builtin.append_ #[t,t] o.type #[xv,yv]).run P w= .ok v w'/\R G' p v/\cO p=true/\bM P B G' st' w'/\cQ G w G' w'/\(∀ s,G'.bx s=G.bx s)/\
   ∀ t,R G' (bY (mT px py st) (fr t)) (a.tmps.getD t undef)/\cO (bY (mT px py st) (fr t))=true:=by
  intro h1 h2;obtain⟨v,w',G',hrun,hR',hI',hL',hS',hob,ht⟩:=H3 (ty:=o.type) hI hR hRy htx hty hu hi hz hzl h1;refine⟨v,w',G',hrun,hR',ht,hI',hS',fun s=>by rw[hob],fun t=>?_⟩;rw[h2,qP];exact⟨(hF.2.1 t).mono hL' (fun _=>by rw[hob]),hF.2.2 t⟩
 have goal:∃ v w' G',(Builtin.append_ #[t,t] o.type #[xv,yv]).run P w= .ok v w'/\R G' p v/\cO p=true/\bM P B G' st' w'/\cQ G w G' w'/\(∀ s,G'.bx s=G.bx s)/\
   ∀ t,R G' (bY (mT px py st) (fr t)) (a.tmps.getD t undef)/\cO (bY (mT px py st) (fr t))=true:=by
  unfold Ar at h;cases px with
  |list n cs tk=>
   cases tk with
   |el k e' c=>
    by_cases hc:0<c/\k<st.nx/\st.cnt k=c/\st.fl<=k/\dN ([k].contains ·) cs=true/\tf ([k].contains ·) py=true
    ·have hJ:mT (.list n cs (.el k e' c)) py st=[k]:=by simp only[mT];rw[am hc]
     rw[hJ]at h;simp only at h;obtain⟨c1,c2,c3,c4,c5,c6⟩:=hc;obtain⟨y0,hy0⟩:=hI.live k c2;have hcnt:=(hI.cnt k y0 hy0).2;rw[c3]at hcnt;cases y0 with
     |full m=>
      have:=hI.ful k m hy0;subst this;simp only[ot.cnt]at hcnt;omega
     |room r=>
     cases hR with
     |listN _ ht=>
      have ht:c=0:=ht;omega
     |list _ _ _ b o' cap us hn hl hcm hr h1 ht hp hx'=>
      obtain⟨-,hm⟩:=ht.2 _ hy0;obtain⟨rfl,rfl,rfl,hre,hlen⟩:=hm hcnt;obtain⟨hI1,hS1⟩:=hI.cut hy0 c4 hn;have hrn:=JK (h:=n) hI hy0 c4;have hnx:=hI.nx;have hxr:=(hI.room k r hy0).2.2.2.2.2;have hks:∀ {q:PV} {v:Value},R G q v->R (G.cut k n r) (bY [k] q) v:=fun hq=>hq.rn hrn rfl;have hRx:R (G.cut k n r) (.list n cs (.own st.nx e')) (.slice (some ⟨r.b,0,none⟩) n r.cap):=by
       refine .list n cs _ r.b 0 r.cap us hn hl (fun j u hu=>?_) (fun j q u hq hu=>?_) h1 ⟨by show st.nx<G.nx+1;omega,fun x hx=>?_⟩ (fun j _ hj=>?_) (fun _ _=>hxr)
       ·have hlt:=(bD.1 hu).1;show(if r.b=r.b/\n*r.sz<=0+j then none else G.com r.b (0+j))=some u;rw[ai (by omega)];exact hcm j u hu
       ·have:=hks (hr j q u hq hu);rwa [bY,am (lO c5 hq)]at this
       ·have hne:st.nx≠k:=by omega
        simp only[Gh.cut,ai hne,hnx,if_true]at hx;cases hx;exact⟨aP _,fun _=>⟨rfl,rfl,rfl,hre,hlen⟩⟩
       ·simp[Gh.cut]at hj;rw[<-hj,hnx];rfl
      have hRy1:R (G.cut k n r) py yv:=by
       have:=hks hRy;rwa [bY,am c6]at this
      obtain⟨v,w',G',hrun,hR',hI',hL',hS',hob,htp⟩:=H3 (ty:=o.type) hI1 hRx hRy1 (show cO (.list n cs (.own st.nx e'))=true by simpa [cO,gQ,np,off,aX]using htx) hty hu hi hz hzl h;refine⟨v,w',G',hrun,hR',htp,hI',hS1.trans hS',fun s=>by rw[hob];rfl,fun t=>?_⟩;rw[hJ];exact⟨(hks (hF.2.1 t)).mono hL' (fun _=>by rw[hob]),td (hF.2.2 t)⟩
    ·have hJ:mT (.list n cs (.el k e' c)) py st=[]:=by simp only[mT];rw[ai hc]
     rw[hJ]at h;exact plain h hJ
   |_=>exact plain h rfl
  |_=>exact plain h rfl
 obtain⟨v,w',G',hrun,hrest⟩:=goal;exact⟨v,w',G',by simp[hxe,hye,hrun],hrest⟩
end
def DV(b:Bool):eV->eV
 | .store sz a x=>if b then .stx sz a x else .store sz a x
 |c=>c
def D9(b:Bool):eV->eV
 | .app e sz by' x y=>if b then .apc e sz by' x y else .app e sz by' x y
 |c=>c
def Cg(P:Program)(M:Nat->List Nat):Op->Option eV
 | .call {callee:= .value (.func f),args:=as,argTypes:=_}=>if f<1000000 then(if(M f).contains 1000 then(ry as.toList).map (.callU f ·)else(ry as.toList).map (.call f · (M f)))else none
 | .call {callee:= .value (.tmp t),args:=as,argTypes:=_}=>(ry as.toList).map (.cval (.sl t))
 |op=>(lr P op).map fun c=>D9 (!(M 1000003).isEmpty) (DV (!(M 1000002).isEmpty) c)
def x9(ops:Array Oper):Option (Nat×Bool)->Option (Option (Nat×Bool))
 |none=>some none
 |some (j,b)=>match (ops[j]?).bind (·.dst)with
  |some s=>some (some (s,b))
  |none=>none
def IV(nt nk:Nat)(c:eV):Option Nat->Bool
 |some d=>decide (d<nt) && (!kC c||decide (nk<=d))
 |none=>!kC c
def sn(M:Nat->List Nat):Bool:=!(M 1000001).isEmpty
def qc(kp:Bool)(a' a:Act):Prop:=a'.defers=a.defers/\(kp=true->a'.tmps.getD 0 undef=a.tmps.getD 0 undef)
def qc.refl{kp:Bool}{a:Act}:qc kp a a:=⟨rfl,fun _=>rfl⟩
def qc.trans{kp:Bool}{a b c:Act}(h:qc kp c b)(k:qc kp b a):qc kp c a:=⟨h.1.trans k.1,fun e=>(h.2 e).trans (k.2 e)⟩
def ug(P:Program)(M:Nat->List Nat)(nt nk:Nat)(ops:Array Oper)(o:Oper):Option cW:=
 match Cg P M o.op,x9 ops o.guard with
 |some c,some g=>
  if IV nt nk c o.dst && (!sn M||o.dst !=some 0)then some {g:=g,d:=o.dst,op:=c}else none
 |_,_=>none
def wH{G:Gh}{nt:Nat}{fr:Fr}{a:Act}(hF:fu G nt fr a):∀ {xs:List Operand} {cs:List CX},ry xs=some cs->
  cs.length=xs.length/\∀ (j:Nat) p v,(cs.map (·.ev fr))[j]? =some p->(xs.map a.eval)[j]? =some v->R G p v/\cO p=true
 | [],cs,h=>by cases h;exact⟨rfl,fun j p v hp=>by simp at hp⟩
 |x::xs,cs,h=>by
  unfold ry at h;split at h
  ·rename_i c cs' hx hxs;cases h;obtain⟨hl,hr⟩:=wH hF hxs;refine⟨by simp[hl],fun j p v hp hv=>?_⟩;cases j with
   |zero=>
    simp at hp hv;subst hp;subst hv;exact⟨cR hF hx,eT hF hx⟩
   |succ j=>exact hr j p v (by simpa using hp) (by simpa using hv)
  ·cases h
def C8(s:Nat){p:PV}(h:cO p=true):cO (dZ s p)=true:=by
 cases p with
 |ptr k o=>simp only[dZ];split<;>first|rfl|exact h
 |osl e sz k n=>simp only[dZ];split<;>first|rfl|exact h
 |mp k=>simp only[dZ];split<;>first|rfl|exact h
 |fn f cs=>simp only[dZ];split<;>first|rfl|exact h
 |_=>simp only[dZ];exact h
section
variable {G:Gh} {nt:Nat} {fr:Fr} {st st':St} {w:World} {a:Act} {o:Oper} {d:Option Nat} {cf:aJ} {p:PV}
def C9{G:Gh}(s:Nat){p:PV}{v:Value}(h:R G p v):R G (dZ s p) v:=by
 cases p with
 |ptr k o=>simp only[dZ];split<;>first|exact .any v|exact h
 |osl e sz k n=>simp only[dZ];split<;>first|exact .any v|exact h
 |mp k=>simp only[dZ];split<;>first|exact .any v|exact h
 |fn f cs=>simp only[dZ];split<;>first|exact .any v|exact h
 |_=>simp only[dZ];exact h
def fu.put(hF:fu G nt fr a){fr1:Fr}(hd:∀ s,d=some s->s<nt){G':Gh}(key:∀ t,R G' (fr1 t) (a.tmps.getD t undef)/\cO (fr1 t)=true){v:Value}(hR:R G' p v)(ht:cO p=true):
  fu G' nt (PM.put fr1 d p) (a.put d v):=by
 obtain⟨h1,h2,h3⟩:=hF;cases d with
 |none=>exact⟨h1,fun t=>(key t).1,fun t=>(key t).2⟩
 |some s=>
  have hs:=hd s rfl;refine⟨by simp[Act.put];exact h1,fun t=>?_,fun t=>?_⟩
  ·simp only[PM.put,yY,Act.put];by_cases htS:t=s
   ·subst htS;rw[am rfl];have hlt:t<a.tmps.size:=by omega
    rw[bT,jz hlt];exact hR
   ·rw[ai htS];have:=(key t).1;rw[bT]at this ⊢;rwa [ji (Ne.symm htS)]
  ·simp only[PM.put,yY];split
   ·exact ht
   ·exact(key t).2
def quiet(c:eV):Bool:=!kC c && (match c with| .call .. =>false| .callU .. =>false| .stx .. =>false| .apc .. =>false|_=>true)
def vp{c:eV}(h:quiet c=true)(d:Option Nat)(st:St)(fr:Fr):de cf c d st fr=fr:=by
 cases c<;>cases d<;>first|rfl|(simp[quiet,kC]at h)
def Gt{c:eV}(h:kC c=true)(s:Nat)(st:St)(fr:Fr):de cf c (some s) st fr=fun t=>dZ s (fr t):=by
 cases c<;>first|rfl|(simp[kC]at h)
def IH{c:eV}(h:kC c=true)(st:St)(fr:Fr):de cf c none st fr=fr:=by
 cases c<;>first|rfl|(simp[kC]at h)
def A5(f:Nat)(as:List CX)(mv:List Nat)(d:Option Nat)(st:St)(fr:Fr):de cf (.call f as mv) d st fr=fun t=>bY (dn (as.map (·.ev fr)) mv st) (fr t):=by
 cases mv with
 |nil=>funext t;simp only[de,dn,qP]
 |cons m mv=>rfl
def IT(hF:fu G nt fr a){c:eV}(hc:∀ f as mv,c≠ .call f as mv)(hc2:∀ f as,c≠ .callU f as)(hc3:∀ sz x y,c≠ .stx sz x y)(hc4:∀ e sz b x y,c≠ .apc e sz b x y){G':Gh}(hL:Le G G')(hob:∀ s,(kC c=true/\d=some s)\/G'.bx s=G.bx s)(st:St):
  ∀ t,R G' (de cf c d st fr t) (a.tmps.getD t undef)/\cO (de cf c d st fr t)=true:=by
 obtain⟨h1,h2,h3⟩:=hF;intro t;cases hm:kC c with
 |true=>
  cases d with
  |none=>
   rw[IH hm];exact⟨(h2 t).mono hL (fun k=>by
    rcases hob k with⟨_,h⟩|h
    ·cases h
    ·exact h),h3 t⟩
  |some s=>
   rw[Gt hm];refine⟨(C9 s (h2 t)).le hL (fun k=>decide (k=s)) (fun k hk=>?_) (EU s (fr t) (h3 t)),C8 s (h3 t)⟩;rcases hob k with⟨_,h⟩|h
   ·cases h;simp at hk
   ·exact h
 |false=>
  have hq:quiet c=true:=by
   unfold quiet;rw[hm];cases c<;>first|rfl|exact absurd rfl (hc _ _ _)|exact absurd rfl (hc2 _ _)|exact absurd rfl (hc3 _ _ _)|exact absurd rfl (hc4 _ _ _ _ _)
  rw[vp hq];refine⟨(h2 t).mono hL (fun k=>?_),h3 t⟩;rcases hob k with⟨hm',_⟩|h
  ·rw[hm]at hm';cases hm'
  ·exact h
def fu.skip(hF:fu G nt fr a)(hd:∀ s,d=some s->s<nt):fu G nt (PM.put fr d .hole) (a.put d undef):=by
 obtain⟨h1,h2,h3⟩:=hF;cases d with
 |none=>exact⟨h1,h2,h3⟩
 |some s=>
  have hs:=hd s rfl;refine⟨by simp[Act.put];exact h1,fun t=>?_,fun t=>?_⟩
  ·simp only[PM.put,yY,Act.put];by_cases htS:t=s
   ·subst htS;rw[am rfl];have hlt:t<a.tmps.size:=by omega
    rw[bT,jz hlt];exact .hole
   ·rw[ai htS];have:=h2 t;rw[bT]at this ⊢;rwa [ji (Ne.symm htS)]
  ·simp only[PM.put,yY];split
   ·rfl
   ·exact h3 t
def EC{kp:Bool}(a:Act){d:Option Nat}(v:Value)(h:kp=true->d≠some 0):qc kp (a.put d v) a:=by
 refine⟨by cases d<;>rfl,fun e=>?_⟩
 cases d with
 |none=>rfl
 |some s=>
  have hs:s≠0:=by rintro rfl;exact h e rfl
  simp only[Act.put];rw[bT,bT,ji hs]
def Fp{op:Op}{f:Nat}{as:List CX}(h:lr P op=some (.callU f as)):False:=by
 unfold lr at h;split at h
 all_goals repeat' (first|(cases h;done)|(simp only[av]at h;obtain⟨_,_,h⟩:=h;cases h;done)|(split at h))
def IZ{op:Op}{sz:Nat}{x y:CX}(h:lr P op=some (.stx sz x y)):False:=by
 unfold lr at h;split at h
 all_goals repeat' (first|(cases h;done)|(simp only[av]at h;obtain⟨_,_,h⟩:=h;cases h;done)|(split at h))
def I0{op:Op}{e sz by':Nat}{cx cy:CX}(h:lr P op=some (.app e sz by' cx cy)):∃ t x y i zs,op= .call {callee:= .builtin .append,args:= #[x,y],argTypes:= #[t,t]}/\P.underlying t=some (.slice e)/\bP x=some cx/\bP y=some cy/\P.info? e=some i/\gw P e=some zs/\zs.length=i.size/\sz=i.size/\by'=i.bytes:=by
 unfold lr at h;split at h
 all_goals repeat' (first|(cases h;done)|(simp only[av]at h;obtain⟨_,_,h⟩:=h;cases h;done)|(rename_i hb;obtain⟨rfl,hzl⟩:=hb;cases h;exact⟨_,_,_,_,_,rfl,kQ (by assumption),by assumption,by assumption,by assumption,by assumption,hzl,rfl,rfl⟩)|(split at h))
def I1{op:Op}{e sz b:Nat}{x y:CX}(h:lr P op=some (.apc e sz b x y)):False:=by
 unfold lr at h;split at h
 all_goals repeat' (first|(cases h;done)|(simp only[av]at h;obtain⟨_,_,h⟩:=h;cases h;done)|(split at h))
def Fo{op:Op}{sz:Nat}{cx cy:CX}(h:lr P op=some (.store sz cx cy)):∃ t x y,op= .store t x y/\bP x=some cx/\bP y=some cy/\gO P t=some sz:=by
 unfold lr at h;split at h
 all_goals repeat' (first|(cases h;done)|(simp only[av]at h;obtain⟨_,_,h⟩:=h;cases h;done)|(cases h;exact⟨_,_,_,rfl,by assumption,by assumption,by assumption⟩)|(split at h))
def GB{op:Op}{f:Nat}{as:List CX}{mv:List Nat}(h:lr P op=some (.call f as mv)):False:=by
 unfold lr at h;split at h
 all_goals repeat' (first|(cases h;done)|(simp only[av]at h;obtain⟨_,_,h⟩:=h;cases h;done)|(split at h))
def NR{M:Nat->List Nat}(hcf:jD P B cf)(hI:bM P B G st w)(hF:fu G nt fr a){c:eV}(hc:Cg P M o.op=some c)(hd:∀ s,o.dst=some s->s<nt)(h:aC cf fr st o.dst c=some (p,st')){next:Act->World->Prop}{Q:Exit->Act->World->Prop}
  (hn:∀ v w' G',bM P B G' st' w'->cQ G w G' w'->fu G' nt (PM.put (de cf c o.dst st fr) o.dst p) (a.put o.dst v)->(∀ s,(kC c=true/\o.dst=some s)\/G'.bx s=G.bx s)->next (a.put o.dst v) w'):o.wp P a w next Q:=by
 unfold Cg at hc;split at hc
 ·rename_i f as tys hop;split at hc
  ·rename_i hfl;have hargs:as.map a.eval=(as.toList.map a.eval).toArray:=by apply Array.ext';simp
   have hrun:∀ {fn:Func} {bd:Code},P.funcs[f]? =some fn->fn.name≠ "runtime.NumGoroutine" ->fn.body=some bd->(execOp a.eval o).run P w= .ok (.enter f (as.toList.map a.eval).toArray) w:=by
    intro fn bd hfn hname hb;rw[<-hargs];simp[execOp,hop,resolve,Act.eval,Deferred.ofValue,invoke,callFunc,go_sem,hfn,hname,hb]
   split at hc
   ·simp only[av]at hc;obtain⟨cs,hcs,rfl⟩:=hc;obtain⟨hl,hR⟩:=wH hF hcs;simp only[aC]at h;split at h
    ·rename_i r p' st1 hu;split at h
     ·rename_i hmk;simp only[bB,cL]at h;obtain⟨rfl,rfl⟩:=h;obtain⟨⟨fn,hfn,hname,hbody⟩,hnp,hC⟩:=GC hcf hI hfl (vs:=as.toList.map a.eval) (by simp[hl]) hR hu hmk;obtain⟨bd,hb⟩:=cu.1 hbody;unfold Oper.wp;rw[hrun hfn hname hb,Oper.upon_enter];refine hC.mono ?_;rintro e w' ⟨v,G',rfl,hR',hI',hS',hst,hob⟩;have hob':∀ s,(kC (.callU f cs)=true/\o.dst=some s)\/G'.bx s=G.bx s:=fun s=> .inr (by rw[hob]);refine hn v w' G' hI' hS' (hF.put hd (fun t=>?_) hR' (ga hnp)) hob';have:=hst _ _ (hF.2.1 t) (hF.2.2 t);rw[<-hu]at this;exact this
     ·cases h
    ·cases h
   ·simp only[av]at hc;obtain⟨cs,hcs,rfl⟩:=hc;obtain⟨hl,hR⟩:=wH hF hcs;simp only[aC]at h;obtain⟨hE,hnp,hC⟩:=ss hcf hI (vs:=as.toList.map a.eval) (by simp[hl]) hR h;rw[pq hfl]at hE hC;obtain⟨fn,hfn,hname,hbody⟩:=hE;obtain⟨bd,hb⟩:=cu.1 hbody;unfold Oper.wp;rw[hrun hfn hname hb,Oper.upon_enter];refine hC.mono ?_;rintro e w' ⟨v,G',hret,hR',hI',hS',hst,hob,-⟩;rw[oZ hfl]at hret;subst hret;have hob':∀ s,(kC (.call f cs (M f))=true/\o.dst=some s)\/G'.bx s=G.bx s:=fun s=> .inr (by rw[hob]);refine hn v w' G' hI' hS' (hF.put hd (fun t=>?_) hR' (ga hnp)) hob';rw[A5];exact⟨(hF.2.1 t).rn hst hob,td (hF.2.2 t)⟩
  ·cases hc
 ·rename_i t as tys hop;simp only[av]at hc;obtain⟨cs,hcs,rfl⟩:=hc;obtain⟨hl,hR⟩:=wH hF hcs;have hRf:R G (fr t) (a.eval (.tmp t)):=hF.2.1 t;have htf:=hF.2.2 t;simp only[aC,CX.ev]at h;generalize hfe:a.eval (.tmp t)=fv at hRf;split at h
  ·rename_i g cap e;rw[e]at hRf htf;split at h;rotate_left
   ·cases h
   rename_i hgl;cases hRf with
   |fn _ _ caps hlc hrc=>
   have hl':cs.length=as.size:=by simpa using hl
   have hcap:∀ (j:Nat) (q:PV),cap[j]? =some q->cO q=true:=by
    intro j q hq;simp only[cO,cw]at htf;have:=htf q (b8 hq);simp only[cY]at this;rcases this with h|h
    ·cases q<;>first|rfl|(simp[gQ]at h)
    ·exact ga h
   obtain⟨hE,hnp,hC⟩:=ss hcf hI (vs:=as.toList.map a.eval++caps) (by simp[hl,hlc]) (fun j q v hq hv=>by
    by_cases hj:j<cs.length
    ·rw[bW (by simpa using hj)]at hq;rw[bW (by simp;omega)]at hv;exact hR j q v hq hv
    ·rw[cM (by simp;omega)]at hq;rw[cM (by simp;omega)]at hv;simp only[bJ,fh,hl']at hq hv;exact⟨hrc _ q v hq hv,hcap _ q hq⟩) h
   rw[pq hgl]at hE hC;obtain⟨fn,hfn,hname,hbody⟩:=hE;obtain⟨bd,hb⟩:=cu.1 hbody;have hargs:as.map a.eval++caps.toArray=(as.toList.map a.eval++caps).toArray:=by
    apply Array.ext';simp
   have hrun:(execOp a.eval o).run P w= .ok (.enter g (as.toList.map a.eval++caps).toArray) w:=by
    rw[<-hargs];have hfe':a.tmps[t]?.getD undef= .func (.func g) #[] caps.toArray:=by rw[<-bT];exact hfe
    simp[execOp,hop,resolve,hfe',Deferred.ofValue,invoke,callFunc,go_sem,hfn,hname,hb]
   unfold Oper.wp;rw[hrun,Oper.upon_enter];refine hC.mono ?_;rintro e' w' ⟨v,G',hret,hR',hI',hS',hst,hob,-⟩;rw[oZ hgl]at hret;subst hret;have hob':∀ s,(kC (.cval (.sl t) cs)=true/\o.dst=some s)\/G'.bx s=G.bx s:=fun s=> .inr (by rw[hob]);refine hn v w' G' hI' hS' (hF.put hd (fun u=>?_) hR' (ga hnp)) hob';rw[vp rfl];have:=(hF.2.1 u).rn hst hob;simp only[dn,qP]at this;exact⟨this,hF.2.2 u⟩
  ·cases h
 ·simp only[av]at hc;obtain⟨c0,hc0,rfl⟩:=hc;have plain:D9 (!(M 1000003).isEmpty) (DV (!(M 1000002).isEmpty) c0)=c0->o.wp P a w next Q:=by
   intro hs;rw[hs]at h hn;obtain⟨⟨y,v,w',G',hrun,hy,hR',hI',hL',hS',hob⟩,ht⟩:=LV hI hF hc0 h;have hcc:∀ f as mv,c0≠ .call f as mv:=by
    rintro f as mv rfl;exact GB hc0
   have hcc2:∀ f as,c0≠ .callU f as:=by
    rintro f as rfl;exact Fp hc0
   have hcc3:∀ sz x y,c0≠ .stx sz x y:=by
    rintro sz x y rfl;exact IZ hc0
   have:=hn v w' G' hI' hS' (hF.put hd (IT hF hcc hcc2 hcc3 (by rintro e sz b x y rfl;exact I1 hc0) hL' hob st) hR' ht) hob;unfold Oper.wp;rw[hrun];rcases hy with rfl|⟨rfl,rfl⟩
   ·exact this
   ·exact this
  cases c0 with
  |store sz cx cy=>
   cases hb:(!(M 1000002).isEmpty)with
   |false=>exact plain (by rw[hb];rfl)
   |true=>
    rw[hb]at h hn;have hap:D9 (!(M 1000003).isEmpty) (DV true (.store sz cx cy))= .stx sz cx cy:=rfl;rw[hap]at h hn;obtain⟨t,x,y,hop,hx,hy,hs⟩:=Fo hc0;obtain⟨rfl,w',G',hrun,hI',hS',hob,hfr⟩:=NK hI hF hop hx hy hs h;have:=hn undef w' G' hI' hS' (hF.put hd (fun t=>hfr t) .hole rfl) (fun s=> .inr (hob s));unfold Oper.wp;rw[hrun];exact this
  |app e sz by' cx cy=>
   cases hb:(!(M 1000003).isEmpty)with
   |false=>exact plain (by rw[hb];rfl)
   |true=>
    rw[hb]at h hn;have hap:D9 true (DV (!(M 1000002).isEmpty) (.app e sz by' cx cy))= .apc e sz by' cx cy:=rfl;rw[hap]at h hn;obtain⟨t,x,y,i,zs,hop,hu,hx,hy,hi,hz,hzl,rfl,rfl⟩:=I0 hc0;obtain⟨v,w',G',hrun,hR',htp,hI',hS',hob,hfr⟩:=NQ hI hF hop hu hx hy hi hz hzl h;have:=hn v w' G' hI' hS' (hF.put hd (fun t=>hfr t) hR' htp) (fun s=> .inr (hob s));unfold Oper.wp;rw[hrun];exact this
  |_=>exact plain rfl
def xk(hF:fu G nt fr a){ops:Array Oper}{g:Option (Nat×Bool)}(hg:x9 ops o.guard=some g){b:Bool}(h:eZ fr g=some b):Region.wanted o (yielded ops a.tmps)=b:=by
 unfold Region.wanted;cases hog:o.guard with
 |none=>
  rw[hog]at hg;cases hg;simp only[eZ]at h;cases h;rfl
 |some jw=>
  obtain⟨j,want⟩:=jw;rw[hog]at hg;simp only[x9]at hg;split at hg
  ·rename_i s hs;cases hg;have hR:=hF.2.1 s;simp only[eZ]at h;simp only[yielded,hs,em];split at h
   ·rename_i b' e;rw[e]at hR;cases h;have:a.tmps[s]? =some (.bool b'):=by
     cases hx:a.tmps[s]? with
     |none=>rw[bT,hx]at hR;cases hR
     |some x=>rw[bT,hx]at hR;simp at hR;cases hR;rfl
    rw[this];cases want<;>cases b'<;>rfl
   ·rename_i e;rw[e]at hR;cases h;cases hx:a.tmps[s]? with
    |none=>rfl
    |some x=>rw[bT,hx]at hR;simp at hR;cases hR;rfl
   ·cases h
  ·cases hg
def C2{M:Nat->List Nat}(hcf:jD P B cf)(hI:bM P B G st w)(hF:fu G nt fr a){ops:Array Oper}{nk:Nat}{co:cW}(hc:ug P M nt nk ops o=some co){fr':Fr}(h:dF cf co (fr,st)=some (fr',st'))
  {K:Act->World->Prop} {Q:Exit->Act->World->Prop}
  (hn:∀ a' w' G',bM P B G' st' w'->cQ G w G' w'->fu G' nt fr' a'->qc (sn M) a' a->(∀ s,nk<=s\/G'.bx s=G.bx s)->K a' w'):
  if Region.wanted o (yielded ops a.tmps)then o.wp P a w K Q\/(o.asks P a w/\LetsOut Q)else K (a.put o.dst undef) w:=by
 unfold ug at hc;split at hc
 ·rename_i c g hcc hg;split at hc
  ·rename_i hchk0;cases hc;simp only[aj,cY,mK,bne_iff_ne,al]at hchk0;obtain⟨hchk,hkp⟩:=hchk0;have hkeep:sn M=true->o.dst≠some 0:=fun e=>by
    rcases hkp with h|h
    ·rw[e]at h;cases h
    ·exact h
   have hd:∀ s,o.dst=some s->s<nt:=fun s hs=>by
    rw[hs]at hchk;simp only[IV,aj,decide_eq_true_eq]at hchk;exact hchk.1
   have hk:∀ s,kC c=true->o.dst=some s->nk<=s:=fun s hm hs=>by
    rw[hs]at hchk;simp[IV,hm]at hchk;exact hchk.2
   simp only[dF]at h;split at h
   ·rename_i hw;rw[am (xk hF hg hw)];split at h
    ·rename_i v st1 hrun;cases h;refine .inl (NR hcf hI hF hcc hd hrun fun v w' G' hI' hS' hF' hob=>hn _ w' G' hI' hS' hF' (EC _ _ hkeep) fun s=>?_);rcases hob s with⟨hm,hs⟩|h
     ·exact .inl (hk s hm hs)
     ·exact .inr h
    ·cases h
   ·rename_i hw;rw[ai (by rw[xk hF hg hw];simp)];cases h;exact hn _ w G hI (cQ.refl G w) (hF.skip hd) (EC _ _ hkeep) fun _=> .inr rfl
   ·cases h
  ·cases hc
 ·cases hc
def oS(P:Program)(M:Nat->List Nat)(nt nk:Nat)(ops:Array Oper):List Oper->Option (List cW)
 | []=>some []
 |o::os=>match ug P M nt nk ops o,oS P M nt nk ops os with
  |some c,some cs=>some (c::cs)
  |_,_=>none
def ze{M:Nat->List Nat}(hcf:jD P B cf){ops:Array Oper}{nk:Nat}{Q:Exit->Act->World->Prop}:∀ {os:List Oper} {cs:List cW} {G:Gh} {fr fr':Fr} {st st':St} {w:World} {a:Act},bM P B G st w->fu G nt fr a->oS P M nt nk ops os=some cs->jl cf cs (fr,st)=some (fr',st')->
  (∀ a' w' G',bM P B G' st' w'->cQ G w G' w'->fu G' nt fr' a'->qc (sn M) a' a->(∀ s,nk<=s\/G'.bx s=G.bx s)->Q .normal a' w')->wpList P ops Q os a w
 | [],cs,G,fr,fr',st,st',w,a,hI,hF,hc,h,hn=>by
  cases hc;cases h;exact hn a w G hI (cQ.refl G w) hF .refl fun _=> .inr rfl
 |o::os,cs,G,fr,fr',st,st',w,a,hI,hF,hc,h,hn=>by
  unfold oS at hc;split at hc
  ·rename_i c cs' hco hcs;cases hc;simp only[jl]at h;split at h
   ·rename_i y hy;obtain⟨fr1,st1⟩:=y;refine C2 hcf hI hF hco hy fun a1 w1 G1 hI1 hS1 hF1 hd1 hk1=>?_;refine ze hcf hI1 hF1 hcs h fun a2 w2 G2 hI2 hS2 hF2 hd2 hk2=>?_;refine hn a2 w2 G2 hI2 (hS1.trans hS2) hF2 (hd2.trans hd1) fun s=>?_;rcases hk1 s with h1|h1
    ·exact .inl h1
    ·rcases hk2 s with h2|h2
     ·exact .inl h2
     ·exact .inr (h2.trans h1)
   ·cases h
  ·cases hc
end
end Go.PM
namespace Go.PM
def CX.slots:CX->List Nat
 | .sl n=>[n]
 | .k _=>[]
def rP:Option CX->List Nat
 |some x=>x.slots
 |none=>[]
def eV.slots:eV->List Nat
 | .mv x=>x.slots
 | .pick c a b=>c.slots++a.slots++b.slots
 | .alloc _=>[]
 | .box _ x=>x.slots
 | .build _ ps=>ps.flatMap fun q=>q.2.2.slots
 | .bsl _ _ _ _ ps=>ps.flatMap fun q=>q.2.2.slots
 | .load _ _ a=>a.slots
 | .store _ a x=>a.slots++x.slots
 | .stx _ a x=>a.slots++x.slots
 | .callU _ as=>as.flatMap CX.slots
 | .nck x=>x.slots
 | .bin _ x y=>x.slots++y.slots
 | .isnil _ x=>x.slots
 | .beq _ x y=>x.slots++y.slots
 | .un _ x=>x.slots
 | .toInt _ x=>x.slots
 | .s2s x=>x.slots
 | .ext x _=>x.slots
 | .fad _ x=>x.slots
 | .fld _ _ _ x=>x.slots
 | .iad _ x i=>x.slots++i.slots
 | .sidx x i=>x.slots++i.slots
 | .ssl x lo hi=>x.slots++rP lo++rP hi
 | .slc _ x lo hi=>x.slots++rP lo++rP hi
 | .mks _ _ _ _ n c=>n.slots++c.slots
 | .mk0 _ _ _ n c=>n.slots++c.slots
 | .slen x=>x.slots
 | .len x=>x.slots
 | .app _ _ _ x y=>x.slots++y.slots
 | .apc _ _ _ x y=>x.slots++y.slots
 | .b2s x=>x.slots
 | .mkfn _ as=>as.flatMap CX.slots
 | .mkmap=>[]
 | .mpset _ m k v=>m.slots++k.slots++v.slots
 | .mpget _ _ _ m k=>m.slots++k.slots
 | .mplen m=>m.slots
 | .call _ as _=>as.flatMap CX.slots
 | .cval f as=>f.slots++as.flatMap CX.slots
def bZ{x:CX}{fr fr2:Fr}(h:∀ t∈x.slots,fr t=fr2 t):x.ev fr=x.ev fr2:=by
 cases x with
 |sl n=>exact h n (by simp[CX.slots])
 |k p=>rfl
def vq{fr fr2:Fr}:∀ {ps:List (Nat×Nat×CX)} {zs:List PV},(∀ t∈ps.flatMap (fun q=>q.2.2.slots),fr t=fr2 t)->lF zs fr ps=lF zs fr2 ps
 | [],zs,_=>rfl
 |(o,s,x)::ps,zs,h=>by
  have h1:x.ev fr=x.ev fr2:=bZ fun t ht=>h t (by simp[ht]);simp only[lF,h1];split
  ·split
   ·exact vq fun t ht=>h t (by simp only[be,aG];exact .inr ht)
   ·rfl
  ·rfl
def Bv{fr fr2:Fr}{lo hi:Option CX}(h1:∀ t∈rP lo,fr t=fr2 t)(h2:∀ t∈rP hi,fr t=fr2 t)(n c:Nat):rY lo hi fr n c=rY lo hi fr2 n c:=by
 cases lo with
 |none=>cases hi with
  |none=>rfl
  |some y=>simp only[rY,bZ (x:=y) h2]
 |some x=>cases hi with
  |none=>simp only[rY,bZ (x:=x) h1]
  |some y=>simp only[rY,bZ (x:=x) h1,bZ (x:=y) h2]
def nj{fr fr2:Fr}:∀ {as:List CX},(∀ t∈as.flatMap CX.slots,fr t=fr2 t)->as.map (·.ev fr)=as.map (·.ev fr2)
 | [],_=>rfl
 |x::as,h=>by
  simp only[bg];rw[bZ (x:=x) fun t ht=>h t (by simp[ht]),nj (as:=as) fun t ht=>h t (by simp only[be,aG];exact .inr ht)]
def vk(cf:aJ){c:eV}{fr fr2:Fr}(h:∀ t∈c.slots,fr t=fr2 t)(st:St)(d:Option Nat):aC cf fr st d c=aC cf fr2 st d c:=by
 cases c with
 |build zs ps=>simp only[aC,vq (ps:=ps) h]
 |bsl e sz zs n ps=>simp only[aC,vq (ps:=ps) h]
 |call f as mv=>simp only[aC,nj (as:=as) h]
 |mkfn f as=>simp only[aC,nj (as:=as) h]
 |callU f as=>simp only[aC,nj (as:=as) h]
 |stx sz x y=>
  simp only[eV.slots,aG]at h;simp only[aC,bZ (x:=x) fun t ht=>h t (.inl ht),bZ (x:=y) fun t ht=>h t (.inr ht)]
 |mkmap=>rfl
 |b2s x=>simp only[aC,bZ (x:=x) h]
 |mplen x=>simp only[aC,bZ (x:=x) h]
 |mpset kk m k v=>
  simp only[eV.slots,aG]at h;simp only[aC,bZ (x:=m) fun t ht=>h t (.inl (.inl ht)),bZ (x:=k) fun t ht=>h t (.inl (.inr ht)),bZ (x:=v) fun t ht=>h t (.inr ht)]
 |mpget ok z kk m k=>
  simp only[eV.slots,aG]at h;simp only[aC,bZ (x:=m) fun t ht=>h t (.inl ht),bZ (x:=k) fun t ht=>h t (.inr ht)]
 |cval f as=>
  simp only[eV.slots,aG]at h;simp only[aC,bZ (x:=f) fun t ht=>h t (.inl ht),nj (as:=as) fun t ht=>h t (.inr ht)]
 |ssl x lo hi=>
  simp only[eV.slots,aG]at h;simp only[aC,bZ (x:=x) fun t ht=>h t (.inl (.inl ht)),Bv (lo:=lo) (hi:=hi) (fun t ht=>h t (.inl (.inr ht))) (fun t ht=>h t (.inr ht))]
 |slc sz x lo hi=>
  simp only[eV.slots,aG]at h;simp only[aC,bZ (x:=x) fun t ht=>h t (.inl (.inl ht)),Bv (lo:=lo) (hi:=hi) (fun t ht=>h t (.inl (.inr ht))) (fun t ht=>h t (.inr ht))]
 |pick c a b=>
  simp only[eV.slots,aG]at h;simp only[aC,bZ (x:=c) fun t ht=>h t (.inl (.inl ht)),bZ (x:=a) fun t ht=>h t (.inl (.inr ht)),bZ (x:=b) fun t ht=>h t (.inr ht)]
 |alloc zs=>rfl
 |mv x=>simp only[aC,bZ (x:=x) h]
 |box sz x=>simp only[aC,bZ (x:=x) h]
 |load sz ag x=>simp only[aC,bZ (x:=x) h]
 |nck x=>simp only[aC,bZ (x:=x) h]
 |isnil ng x=>simp only[aC,bZ (x:=x) h]
 |un op x=>simp only[aC,bZ (x:=x) h]
 |toInt k x=>simp only[aC,bZ (x:=x) h]
 |s2s x=>simp only[aC,bZ (x:=x) h]
 |ext x i=>simp only[aC,bZ (x:=x) h]
 |fad n x=>simp only[aC,bZ (x:=x) h]
 |fld n sz ag x=>simp only[aC,bZ (x:=x) h]
 |slen x=>simp only[aC,bZ (x:=x) h]
 |len x=>simp only[aC,bZ (x:=x) h]
 |store sz x y=>
  simp only[eV.slots,aG]at h;simp only[aC,bZ (x:=x) fun t ht=>h t (.inl ht),bZ (x:=y) fun t ht=>h t (.inr ht)]
 |bin op x y=>
  simp only[eV.slots,aG]at h;simp only[aC,bZ (x:=x) fun t ht=>h t (.inl ht),bZ (x:=y) fun t ht=>h t (.inr ht)]
 |beq ng x y=>
  simp only[eV.slots,aG]at h;simp only[aC,bZ (x:=x) fun t ht=>h t (.inl ht),bZ (x:=y) fun t ht=>h t (.inr ht)]
 |iad sz x y=>
  simp only[eV.slots,aG]at h;simp only[aC,bZ (x:=x) fun t ht=>h t (.inl ht),bZ (x:=y) fun t ht=>h t (.inr ht)]
 |sidx x y=>
  simp only[eV.slots,aG]at h;simp only[aC,bZ (x:=x) fun t ht=>h t (.inl ht),bZ (x:=y) fun t ht=>h t (.inr ht)]
 |mks e sz b zs x y=>
  simp only[eV.slots,aG]at h;simp only[aC,bZ (x:=x) fun t ht=>h t (.inl ht),bZ (x:=y) fun t ht=>h t (.inr ht)]
 |mk0 e sz b x y=>
  simp only[eV.slots,aG]at h;simp only[aC,bZ (x:=x) fun t ht=>h t (.inl ht),bZ (x:=y) fun t ht=>h t (.inr ht)]
 |apc e sz b x y=>
  simp only[eV.slots,aG]at h;simp only[aC,bZ (x:=x) fun t ht=>h t (.inl ht),bZ (x:=y) fun t ht=>h t (.inr ht)]
 |app e sz b x y=>
  simp only[eV.slots,aG]at h;simp only[aC,bZ (x:=x) fun t ht=>h t (.inl ht),bZ (x:=y) fun t ht=>h t (.inr ht)]
def eff:eV->Bool
 | .app .. =>true
 | .mk0 .. =>true
 | .call .. =>true
 | .cval .. =>true
 |_=>false
def Ef:eV->Bool
 | .store .. =>true
 | .call .. =>true
 | .cval .. =>true
 |_=>false
def nA:PV->List Nat
 | .ptr s _=>[s]
 |_=>[]
def br(fr:Fr):eV->List Nat
 | .load _ _ a=>nA (a.ev fr)
 | .store _ a _=>nA (a.ev fr)
 | .call _ as _=>(dw (as.map (·.ev fr))).getD []
 | .cval f as=>match f.ev fr with
  | .fn _ cap=>(dw (as.map (·.ev fr)++cap)).getD []
  |_=>[]
 |_=>[]
def rp{c:eV}{fr fr2:Fr}(h:∀ t∈c.slots,fr t=fr2 t):br fr c=br fr2 c:=by
 cases c with
 |load sz ag x=>simp only[br,bZ (x:=x) h]
 |store sz x y=>
  simp only[eV.slots,aG]at h;simp only[br,bZ (x:=x) fun t ht=>h t (.inl ht)]
 |call f as mv=>simp only[br,nj (as:=as) h]
 |cval f as=>
  simp only[eV.slots,aG]at h;simp only[br,bZ (x:=f) fun t ht=>h t (.inl ht),nj (as:=as) fun t ht=>h t (.inr ht)]
 |_=>rfl
structure mJ (st st2:St):Prop where
 nx:st.nx=st2.nx
 cnt:st.cnt=st2.cnt
 fl:st.fl=st2.fl
 maps:st.maps=st2.maps
def mJ.refl(st:St):mJ st st:=⟨rfl,rfl,rfl,rfl⟩
def mJ.symm{a b:St}(h:mJ a b):mJ b a:=⟨h.nx.symm,h.cnt.symm,h.fl.symm,h.maps.symm⟩
def mJ.trans{a b c:St}(h:mJ a b)(k:mJ b c):mJ a c:=⟨h.nx.trans k.nx,h.cnt.trans k.cnt,h.fl.trans k.fl,h.maps.trans k.maps⟩
def St.eq_of{a b:St}(h:mJ a b)(ho:∀ k,a.objs k=b.objs k):a=b:=by
 obtain⟨h1,h2,h3,h4⟩:=h;cases a;cases b;simp only at h1 h2 h3 h4 ho;subst h1 h2 h3 h4;congr;exact funext ho
structure lv (e w:Bool) (ks:List Nat) (run:St->Option (PV×St)):Prop where
 quiet:∀ {st v st1},run st=some (v,st1)->(e=false->mJ st1 st)/\(∀ k,k∉ks->st1.objs k=st.objs k)/\(w=false->∀ k,st1.objs k=st.objs k)
 move:∀ {st v st1 st2},run st=some (v,st1)->(e=true->mJ st st2)->(∀ k∈ks,st.objs k=st2.objs k)->
  ∃ st3,run st2=some (v,st3)/\(e=true->mJ st3 st1)/\(e=false->mJ st3 st2)/\(∀ k∈ks,st3.objs k=st1.objs k)/\∀ k,k∉ks->st3.objs k=st2.objs k
def lv.pure{ks:List Nat}{r:Option PV}{e w:Bool}:lv e w ks (fun st=>r.map fun v=>(v,st)):=by
 refine⟨fun h=>?_,fun h hC ho=>?_⟩
 ·cases r with
  |none=>cases h
  |some v=>cases h;exact⟨fun _=> .refl _,fun _ _=>rfl,fun _ _=>rfl⟩
 ·cases r with
  |none=>cases h
  |some v=>
   cases h;exact⟨_,rfl,fun h=>(hC h).symm,fun _=> .refl _,fun k hk=>(ho k hk).symm,fun _ _=>rfl⟩
def ER(cf:aJ)(f:Nat)(as:List PV):lv true true ((dw as).getD []) (fun st=>az cf f as [] st):=by
 have key:∀ {st v st1},az cf f as [] st=some (v,st1)->∃ ks cs r ns cs',dw as=some ks/\dz st ks=some cs/\cf f (fe [] [] 0 0 as) [] (cs.map aQ)=some (r,ns,cs')/\cs'.length=cs.length/\
   v=ren (fun k=>some (st.nx+k)) false r/\st1={st.more ns with objs:=fx st.objs ks (cs'.map (bm (fun k=>some (st.nx+k)) false)),fl:=if(fU r && cs'.all fT)||oo f as cs then st.fl else st.nx}:=by
  intro st v st1 h;unfold az at h;split at h
  ·cases h
  ·rename_i ks hks;split at h
   ·cases h
   ·rename_i cs hcs;simp only at h;split at h
    ·rename_i r ns cs' hcall;split at h
     ·rename_i hl;simp only[bB,cL]at h;exact⟨ks,cs,r,ns,cs',hks,hcs,hcall,by simpa using hl,h.1.symm,h.2.symm⟩
     ·cases h
    ·cases h
 have same:∀ {st st2:St} {ks:List Nat},(∀ k∈ks,st.objs k=st2.objs k)->dz st2 ks=dz st ks:=by
  intro st st2 ks
  induction ks with
  |nil=>intro _;rfl
  |cons k ks ih=>
   intro h;simp only[dz,h k (by simp),ih fun j hj=>h j (by simp[hj])]
 refine⟨fun h=>?_,fun{st v st1 st2} h hC ho=>?_⟩
 ·obtain⟨ks,cs,r,ns,cs',hks,hcs,hcall,hl,rfl,rfl⟩:=key h;refine⟨by simp,fun k hk=>?_,by simp⟩;rw[hks]at hk;exact kz hk
 ·obtain⟨ks,cs,r,ns,cs',hks,hcs,hcall,hl,rfl,rfl⟩:=key h;have hC:=hC rfl;rw[hks]at ho;have hcs2:dz st2 ks=dz st ks:=same ho;refine⟨{st2.more ns with objs:=fx st2.objs ks (cs'.map (bm (fun k=>some (st2.nx+k)) false)),fl:=if(fU r && cs'.all fT)||oo f as cs then st2.fl else st2.nx},?_,fun _=>⟨?_,?_,?_,?_⟩,by simp,?_,?_⟩
  ·simp only[az,hks,hcs2,hcs,hcall,hl,if_true,hC.nx]
  ·simp only[St.more_nx,hC.nx]
  ·cases ns<;>simp only[St.more,hC.nx,hC.cnt]
  ·simp only[hC.nx,hC.fl]
  ·simp only[St.more_maps,hC.maps]
  ·intro k hk;rw[hks]at hk;obtain⟨i,hi,e⟩:=d7 (show k∈ks from hk);have hi':ks[i]? =some k:=by rw[<-e];exact aK hi
   have hlen:ks.length=(cs'.map (bm (fun k=>some (st2.nx+k)) false)).length:=by simp only[bJ];rw[hl];exact(nE hcs).1
   show fx st2.objs ks _ k=fx st.objs ks _ k;rw[kL (mR hks) hi' hlen,kL (mR hks) hi' (by simpa using hlen),hC.nx]
  ·intro k hk;rw[hks]at hk;exact kz hk
def Mn{st st2:St}(h:mJ st st2)(t:aF)(n:Nat):mJ (lG st2 n t) (lG st n t):=by
 obtain⟨h1,h2,h3,h4⟩:=h;cases t with
 |own k e=>exact⟨h1.symm,by simp[lG,St.count,h2],h3.symm,h4.symm⟩
 |_=>exact⟨by simp[lG,St.more,h1],by simp[lG,St.more,h1,h2],h3.symm,h4.symm⟩
def uu(c:eV):Bool:=kC c||(match c with
 | .call _ _ (_::_)=>true
 | .callU .. =>true
 | .stx .. =>true
 | .apc .. =>true
 | .mpset .. =>true
 | .mpget .. =>true
 | .mplen .. =>true
 |_=>false)
def O5(cf:aJ)(fr:Fr)(d:Option Nat)(c:eV)(hm:uu c=false):lv (eff c) (Ef c) (br fr c) (fun st=>aC cf fr st d c):=by
 cases c with
 |alloc zs=>cases hm
 |box sz x=>cases hm
 |mks e sz b zs n c=>cases hm
 |mkmap=>cases hm
 |mpset kk m k v=>cases hm
 |mpget ok z kk m k=>cases hm
 |mplen m=>cases hm
 |stx sz x y=>cases hm
 |apc e sz b x y=>cases hm
 |callU f as=>cases hm
 |call f as mv=>
  cases mv with
  |nil=>exact ER cf f (as.map (·.ev fr))
  |cons m mv=>cases hm
 |b2s x=>
  simp only[aC];split
  ·split
   ·split<;>first|exact lv.pure (r:=some _)|exact⟨fun h=>(by cases h),fun h=>(by cases h)⟩
   ·exact⟨fun h=>(by cases h),fun h=>(by cases h)⟩
  ·exact⟨fun h=>(by cases h),fun h=>(by cases h)⟩
 |mkfn f as=>
  simp only[aC];split<;>first|exact lv.pure (r:=some _)|exact⟨fun h=>(by cases h),fun h=>(by cases h)⟩
 |cval f as=>
  simp only[aC,br];cases f.ev fr with
  |fn g cap=>
   by_cases hg:g<1000000
   ·simp only[am hg];exact ER cf g (as.map (·.ev fr)++cap)
   ·simp only[ai hg];exact⟨fun h=>(by cases h),fun h=>(by cases h)⟩
  |_=>exact⟨fun h=>(by cases h),fun h=>(by cases h)⟩
 |app e sz b x y=>
  have key:∀ {st v st1},aC cf fr st d (.app e sz b x y)=some (v,st1)->∃ n cs t m ds ty,x.ev fr= .list n cs t/\y.ev fr= .list m ds ty/\
    (iQ st n t=true/\cs.length=n*sz/\ds.length=m*sz/\(n+m) *b<=dL/\n+m<=dL/\0<sz)/\J6 e t/\v= .list (n+m) (cs++ds) (.own (ii st t) e)/\st1=lG st (n+m) t/\(∀ e',t= .full e'->0<m\/n=0):=by
   intro st v st1 h;simp only[aC]at h;split at h
   ·rename_i n cs t m ds ty e1 e2;split at h
    ·rename_i hb;refine⟨n,cs,t,m,ds,ty,e1,e2,hb,?_⟩;cases t with
     |no=>simp[iQ]at hb
     |sub k=>simp[iQ]at hb
     |el k e n=>simp[iQ]at hb
     |nil=>cases h;exact⟨trivial,rfl,rfl,fun _ h=>by cases h⟩
     |full e'=>
      simp only at h;split at h
      ·rename_i he;cases h;exact⟨he.1,rfl,rfl,fun _ _=>he.2⟩
      ·cases h
     |own k e'=>
      simp only at h;split at h
      ·rename_i he;cases h;exact⟨he,rfl,rfl,fun _ h=>by cases h⟩
      ·cases h
    ·cases h
   ·cases h
  refine⟨fun{st v st1} h=>?_,fun{st v st1 st2} h hC ho=>?_⟩
  ·obtain⟨n,cs,t,m,ds,ty,e1,e2,hb,he,rfl,rfl,hfu⟩:=key h;refine⟨by simp[eff],fun k _=>?_,fun _ k=>?_⟩<;>cases t<;>rfl
  ·obtain⟨n,cs,t,m,ds,ty,e1,e2,hb,he,rfl,rfl,hfu⟩:=key h;have hC:=hC rfl;have hcan:iQ st2 n t=iQ st n t:=by cases t<;>simp[iQ,hC.nx,hC.cnt]
   refine⟨lG st2 (n+m) t,?_,fun _=>?_,by simp[eff],fun k hk=>by simp[br]at hk,fun k _=>by cases t<;>rfl⟩
   ·simp only[aC,e1,e2,hcan,hb,lw,if_true];cases t with
    |full e'=>simp only[am (show e'=e/\(0<m\/n=0)from⟨he,hfu e' rfl⟩)];simp[ii,lG,hC.nx]
    |_=>simp[ii,lG,hC.nx]<;>first|(simp[iQ]at hb;done)|exact he
   ·exact Mn hC t (n+m)
 |mk0 e sz b x y=>
  have key:∀ {st v st1},aC cf fr st d (.mk0 e sz b x y)=some (v,st1)->v= .list 0 [] (.own st.nx e)/\st1=st.more [0]/\∀ st2,aC cf fr st2 d (.mk0 e sz b x y)=some (.list 0 [] (.own st2.nx e),st2.more [0]):=by
   intro st v st1 h;simp only[aC]at h;split at h
   ·rename_i nb e1 e2;split at h
    ·rename_i hb;cases h;exact⟨rfl,rfl,fun st2=>by simp only[aC,e1,e2,hb,lw,if_true]⟩
    ·cases h
   ·cases h
  refine⟨fun{st v st1} h=>?_,fun{st v st1 st2} h hC ho=>?_⟩
  ·obtain⟨rfl,rfl,_⟩:=key h;exact⟨by simp[eff],fun _ _=>rfl,fun _ _=>rfl⟩
  ·obtain⟨rfl,rfl,hk⟩:=key h;have hC:=hC rfl;refine⟨st2.more [0],?_,fun _=>⟨by simp[St.more,hC.nx],by simp[St.more,hC.nx,hC.cnt],by simp[St.more,hC.fl],by simp[St.more,hC.maps]⟩,by simp[eff],fun k hk=>by simp[br]at hk,fun _ _=>rfl⟩;rw[hC.nx];exact hk st2
 |load sz ag x=>
  simp only[aC,br];cases hx:x.ev fr with
  |ptr s off=>
   simp only[nA];refine⟨fun{st v st1} h=>?_,fun{st v st1 st2} h hC ho=>?_⟩
   ·split at h
    ·simp only[av]at h;obtain⟨q,hq,hqe⟩:=h;cases hqe;exact⟨fun _=> .refl _,fun _ _=>rfl,fun _ _=>rfl⟩
    ·cases h
   ·split at h
    ·rename_i cs hcs;simp only[av]at h;obtain⟨q,hq,hqe⟩:=h;cases hqe;have:=ho s (by simp);refine⟨st2,by simp only[<-this,hcs,hq,eO],by simp[eff],fun _=> .refl _,fun k hk=>(ho k hk).symm,fun _ _=>rfl⟩
    ·cases h
  |iptr cs off t=>exact lv.pure
  |_=>exact⟨fun h=>(by cases h),fun h=>(by cases h)⟩
 |store sz x y=>
  have key:∀ {st v st1},aC cf fr st d (.store sz x y)=some (v,st1)->∃ s off vs cs,x.ev fr= .ptr s off/\cellsOf (y.ev fr)=some vs/\st.objs s=some cs/\(vs.length=sz/\off+sz<=cs.length)/\v= .hole/\st1={st with objs:=fun k=>if k=s then some (bS cs off vs)else st.objs k}:=by
   intro st v st1 h;simp only[aC]at h;split at h
   ·rename_i s off vs e1 e2;split at h
    ·rename_i cs hcs;split at h
     ·rename_i hb;cases h;exact⟨s,off,vs,cs,e1,e2,hcs,hb,rfl,rfl⟩
     ·cases h
    ·cases h
   ·cases h
  refine⟨fun{st v st1} h=>?_,fun{st v st1 st2} h hC ho=>?_⟩
  ·obtain⟨s,off,vs,cs,e1,e2,hcs,hb,rfl,rfl⟩:=key h;refine⟨fun _=>⟨rfl,rfl,rfl,rfl⟩,fun k hk=>?_,by simp[Ef]⟩;simp only[br,e1,nA,dM]at hk;simp[hk]
  ·obtain⟨s,off,vs,cs,e1,e2,hcs,hb,rfl,rfl⟩:=key h;have hs:=ho s (by simp[br,e1,nA]);refine⟨{st2 with objs:=fun k=>if k=s then some (bS cs off vs)else st2.objs k},?_,by simp[eff],fun _=>⟨rfl,rfl,rfl,rfl⟩,fun k hk=>?_,fun k hk=>?_⟩
   ·simp only[aC,e1,e2,<-hs,hcs,hb,lw,if_true]
   ·simp only[br,e1,nA,dM]at hk;simp[hk]
   ·simp only[br,e1,nA,dM]at hk;simp[hk]
 |mv x=>exact lv.pure (r:=some (x.ev fr))
 |pick c a b=>
  simp only[aC];split
  ·exact lv.pure (r:=some _)
  ·exact lv.pure (r:=some _)
  ·exact⟨fun h=>(by cases h),fun h=>(by cases h)⟩
 |build zs ps=>
  simp only[aC];split
  ·exact lv.pure (r:=some _)
  ·exact⟨fun h=>(by cases h),fun h=>(by cases h)⟩
 |bsl e sz zs n ps=>
  simp only[aC];split
  ·split
   ·exact lv.pure (r:=some _)
   ·exact⟨fun h=>(by cases h),fun h=>(by cases h)⟩
  ·exact⟨fun h=>(by cases h),fun h=>(by cases h)⟩
 |nck x=>
  simp only[aC];split<;>first|exact lv.pure (r:=some _)|exact⟨fun h=>(by cases h),fun h=>(by cases h)⟩
 |bin op x y=>exact lv.pure
 |isnil neg x=>
  simp only[aC];split<;>first|exact lv.pure (r:=some _)|exact⟨fun h=>(by cases h),fun h=>(by cases h)⟩
 |beq neg x y=>
  simp only[aC];split<;>first|exact lv.pure (r:=some _)|exact⟨fun h=>(by cases h),fun h=>(by cases h)⟩
 |un op x=>exact lv.pure
 |toInt k x=>
  simp only[aC];split<;>first|exact lv.pure (r:=some _)|exact⟨fun h=>(by cases h),fun h=>(by cases h)⟩
 |s2s x=>
  simp only[aC];split<;>first|exact lv.pure (r:=some _)|exact⟨fun h=>(by cases h),fun h=>(by cases h)⟩
 |ext x i=>
  simp only[aC];split<;>first|exact lv.pure|exact⟨fun h=>(by cases h),fun h=>(by cases h)⟩
 |fad n x=>
  simp only[aC];split<;>first|exact lv.pure (r:=some _)|exact⟨fun h=>(by cases h),fun h=>(by cases h)⟩
 |fld n sz ag x=>
  simp only[aC];split<;>first|exact lv.pure|exact⟨fun h=>(by cases h),fun h=>(by cases h)⟩
 |iad sz x i=>
  simp only[aC];split
  ·split<;>first|exact lv.pure (r:=some _)|exact⟨fun h=>(by cases h),fun h=>(by cases h)⟩
  ·split<;>first|exact lv.pure (r:=some _)|exact⟨fun h=>(by cases h),fun h=>(by cases h)⟩
  ·exact⟨fun h=>(by cases h),fun h=>(by cases h)⟩
 |sidx x i=>
  simp only[aC];split
  ·split<;>first|exact lv.pure (r:=some _)|exact⟨fun h=>(by cases h),fun h=>(by cases h)⟩
  ·exact⟨fun h=>(by cases h),fun h=>(by cases h)⟩
 |ssl x lo hi=>
  simp only[aC];split
  ·split<;>first|exact lv.pure (r:=some _)|exact⟨fun h=>(by cases h),fun h=>(by cases h)⟩
  ·exact⟨fun h=>(by cases h),fun h=>(by cases h)⟩
 |slc sz x lo hi=>
  simp only[aC];split
  ·split
   ·split<;>first|exact lv.pure (r:=some _)|exact⟨fun h=>(by cases h),fun h=>(by cases h)⟩
   ·exact⟨fun h=>(by cases h),fun h=>(by cases h)⟩
  ·exact⟨fun h=>(by cases h),fun h=>(by cases h)⟩
 |slen x=>
  simp only[aC];split<;>first|exact lv.pure (r:=some _)|exact⟨fun h=>(by cases h),fun h=>(by cases h)⟩
 |len x=>
  simp only[aC];split<;>first|exact lv.pure (r:=some _)|exact⟨fun h=>(by cases h),fun h=>(by cases h)⟩
def cW.reads(o:cW):List Nat:=o.op.slots++(match o.g with|some (s,_)=>[s]|none=>[])
def Er:eV->Bool
 | .load .. =>true
 | .store .. =>true
 | .call .. =>true
 | .cval .. =>true
 |_=>false
def nv(o p:cW):Bool:=
 (match o.d with|some d=>!(p.reads).contains d && p.d !=some d|none=>true) && (match p.d with|some d=>!(o.reads).contains d|none=>true)
def Ek(o p:cW):Bool:=!uu o.op && !uu p.op && !(eff o.op && eff p.op) && nv o p
def EZ:eV->Bool
 | .mv (.sl _)=>true
 |_=>false
def xT:eV->Bool
 | .call _ _ (_::_)=>true
 | .apc .. =>true
 |_=>false
def DW(o p:cW):Bool:=Ek o p||(EZ o.op && xT p.op && nv o p)||(xT o.op && EZ p.op && nv o p)
def yH(o p:cW):Bool:=(Ef o.op && Er p.op)||(Ef p.op && Er o.op)
def zq{fr:Fr}{c:eV}(h:Er c=false):br fr c=[]:=by
 cases c<;>first|rfl|cases h
def act(cf:aJ)(fr:Fr)(o:cW)(st:St):Option (PV×St):=match eZ fr o.g with
 |some true=>aC cf fr st o.d o.op
 |some false=>some (.hole,st)
 |none=>none
def Gs{cf:aJ}{c:eV}(h:uu c=false)(d:Option Nat)(st:St)(fr:Fr):de cf c d st fr=fr:=by
 cases c with
 |call f as mv=>cases mv with
  |nil=>rfl
  |cons m mv=>simp[uu]at h
 |_=>cases d<;>first|rfl|(simp[uu,kC]at h)
def si(cf:aJ){o:cW}(hm:uu o.op=false)(fr:Fr)(st:St):dF cf o (fr,st)=(act cf fr o st).map fun q=>(put fr o.d q.1,q.2):=by
 unfold dF act;have hk:de cf o.op o.d st fr=fr:=Gs hm _ _ _;cases hw:eZ fr o.g with
 |none=>simp only[];rfl
 |some b=>cases b with
  |false=>simp only[];rfl
  |true=>
   simp only[];cases hr:aC cf fr st o.d o.op with
   |none=>rfl
   |some q=>simp[hk]
def Hp(cf:aJ)(fr:Fr){o:cW}(hm:uu o.op=false):lv (eff o.op) (Ef o.op) (br fr o.op) (act cf fr o):=by
 have h:=O5 cf fr o.d o.op hm;cases hw:eZ fr o.g with
 |none=>
  have:act cf fr o=fun _=>none:=by funext st;simp only[act,hw]
  rw[this];exact⟨fun h=>(by cases h),fun h=>(by cases h)⟩
 |some b=>cases b with
  |false=>
   have:act cf fr o=fun st=>(some PV.hole).map fun v=>(v,st):=by funext st;simp only[act,hw,eO]
   rw[this];exact lv.pure
  |true=>
   have:act cf fr o=fun st=>aC cf fr st o.d o.op:=by funext st;simp only[act,hw]
   rw[this];exact h
def DM(cf:aJ){o:cW}{fr fr2:Fr}(h:∀ t∈o.reads,fr t=fr2 t)(st:St):act cf fr o st=act cf fr2 o st:=by
 have h1:∀ t∈o.op.slots,fr t=fr2 t:=fun t ht=>h t (by simp[cW.reads,ht]);have h2:eZ fr o.g=eZ fr2 o.g:=by
  cases hg:o.g with
  |none=>rfl
  |some q=>
   obtain⟨s,b⟩:=q;have:fr s=fr2 s:=h s (by simp[cW.reads,hg]);simp only[eZ,this]
 simp only[act,h2,vk cf h1]
def gE{fr:Fr}{d:Option Nat}{v:PV}{l:List Nat}(h:∀ s,d=some s->s∉l):∀ t∈l,put fr d v t=fr t:=by
 intro t ht;cases d with
 |none=>rfl
 |some s=>
  have hne:t≠s:=by rintro rfl;exact h t rfl ht
  simp[put,yY,hne]
def qh{fr:Fr}{d e:Option Nat}{u v:PV}(h:∀ s,d=some s->e≠some s):put (put fr d u) e v=put (put fr e v) d u:=by
 cases d with
 |none=>rfl
 |some s=>
  cases e with
  |none=>rfl
  |some t=>
   have hne:s≠t:=by rintro rfl;exact h s rfl rfl
   funext x;simp only[put,yY];by_cases h1:x=t<;>by_cases h2:x=s<;>simp[h1,h2]
   ·exact absurd (h2.symm.trans h1) hne
   ·intro hc;exact absurd hc.symm hne
   ·intro hc;exact absurd hc hne
def q5{o p:cW}(h:nv o p=true):(∀ s,o.d=some s->s∉p.reads)/\(∀ s,o.d=some s->p.d≠some s)/\(∀ s,p.d=some s->s∉o.reads):=by
 refine⟨fun s hs=>?_,fun s hs=>?_,fun s hs=>?_⟩<;>simp[nv,hs]at h
 ·exact h.1.1
 ·exact h.1.2
 ·exact h.2
def Qp(cf:aJ){o p:cW}(hs:Ek o p=true){fr fr1 fr2:Fr}{st st1 st2:St}(hk:yH o p=true->∀ k∈br fr o.op,k∉br fr1 p.op)
  (h1:dF cf o (fr,st)=some (fr1,st1)) (h2:dF cf p (fr1,st1)=some (fr2,st2)):
  ∃ fr' st',dF cf p (fr,st)=some (fr',st')/\dF cf o (fr',st')=some (fr2,st2)/\br fr' o.op=br fr o.op/\br fr p.op=br fr1 p.op:=by
 simp only[Ek,aj,mK]at hs;obtain⟨⟨⟨hmo,hmp⟩,heff⟩,hap⟩:=hs;obtain⟨a1,a2,a3⟩:=q5 hap;rw[si cf hmo]at h1;rw[si cf hmp]at h2;simp only[av]at h1 h2;obtain⟨⟨v,s1⟩,ho,e1⟩:=h1;obtain⟨⟨u,s2⟩,hp,e2⟩:=h2;simp only[cL]at e1 e2;obtain⟨rfl,rfl⟩:=e1;obtain⟨rfl,rfl⟩:=e2;have hsub:∀ {q:cW} {t:Nat},t∈q.op.slots->t∈q.reads:=fun h=>by simp[cW.reads,h]
 have kp:br (put fr o.d v) p.op=br fr p.op:=rp fun t ht=>gE a1 t (hsub ht);have ko:br (put fr p.d u) o.op=br fr o.op:=rp fun t ht=>gE a3 t (hsub ht);rw[kp]at hk;rw[DM cf (gE a1)]at hp;have lo:=Hp cf fr hmo;have lp:=Hp cf fr hmp;obtain⟨q1,q2,q3⟩:=lo.quiet ho;obtain⟨r1,r2,r3⟩:=lp.quiet hp;have both:∀ k,k∈br fr o.op->k∈br fr p.op->Ef o.op=false/\Ef p.op=false:=by
  intro k h1 h2;have hro:Er o.op=true:=by
   cases h:Er o.op with
   |true=>rfl
   |false=>rw[zq h]at h1;cases h1
  have hrp:Er p.op=true:=by
   cases h:Er p.op with
   |true=>rfl
   |false=>rw[zq h]at h2;cases h2
  cases hkd:yH o p with
  |true=>exact absurd h2 (hk hkd k h1)
  |false=>
   simp only[yH,hro,hrp,bv,kH]at hkd;exact hkd
 have ef:eff o.op=true->eff p.op=false:=fun h=>by
  cases hp:eff p.op with
  |false=>rfl
  |true=>rw[h,hp]at heff;cases heff
 obtain⟨s3,hp',b1,b2,b3,b4⟩:=lp.move (st2:=st) hp (fun h=>q1 (by
  cases ho:eff o.op with
  |false=>rfl
  |true=>rw[ef ho]at h;cases h)) (fun k hk'=>by
   by_cases hko:k∈br fr o.op
   ·exact q3 (both k hko hk').1 k
   ·exact q2 k hko)
 obtain⟨s4,ho',c1,c2,c3,c4⟩:=lo.move (st2:=s3) ho (fun h=>(b2 (ef h)).symm) (fun k hk'=>by
  by_cases hkp:k∈br fr p.op
  ·obtain⟨w1,w2⟩:=both k hk' hkp;rw[b3 k hkp,r3 w2 k,q3 w1 k]
  ·exact(b4 k hkp).symm)
 have hfin:s4=s2:=by
  refine St.eq_of ?_ fun k=>?_
  ·cases heo:eff o.op with
   |true=>exact(c1 heo).trans (r1 (ef heo)).symm
   |false=>
    cases hep:eff p.op with
    |true=>exact(c2 heo).trans (b1 hep)
    |false=>exact(c2 heo).trans ((b2 hep).trans ((q1 heo).symm.trans (r1 hep).symm))
  ·by_cases hko:k∈br fr o.op
   ·rw[c3 k hko];by_cases hkp:k∈br fr p.op
    ·rw[r3 (both k hko hkp).2 k]
    ·rw[r2 k hkp]
   ·rw[c4 k hko];by_cases hkp:k∈br fr p.op
    ·rw[b3 k hkp]
    ·rw[b4 k hkp,r2 k hkp,q2 k hko]
 refine⟨put fr p.d u,s3,?_,?_,ko,kp.symm⟩
 ·rw[si cf hmp,hp'];rfl
 ·rw[si cf hmo,DM cf (gE a3),ho',hfin];simp only[eO];rw[qh fun s hs=>a2 s hs]
def AA{fr:Fr}{J:List Nat}(g:Option (Nat×Bool)){b:Bool}(h:eZ fr g=some b):eZ (fun t=>bY J (fr t)) g=some b:=by
 cases g with
 |none=>exact h
 |some q=>
  obtain⟨s,c⟩:=q;simp only[eZ]at h ⊢;split at h
  ·rename_i b' e;rw[e];exact h
  ·rename_i e;rw[e];exact h
  ·cases h
def nZ{fr fr2:Fr}{o:cW}(h:∀ t∈o.reads,fr t=fr2 t):eZ fr o.g=eZ fr2 o.g:=by
 cases hg:o.g with
 |none=>rfl
 |some q=>
  obtain⟨s,b⟩:=q;have:fr s=fr2 s:=h s (by simp[cW.reads,hg]);simp only[eZ,this]
def zI{fr:Fr}{J:List Nat}{d:Option Nat}{v:PV}:(fun t=>bY J (put fr d v t))=put (fun t=>bY J (fr t)) d (bY J v):=by
 funext t;cases d with
 |none=>rfl
 |some s=>
  simp only[put,yY];split<;>rfl
def lh(cf:aJ){p:cW}{J:Fr->St->List Nat}(hJ:∀ d st fr,de cf p.op d st fr=fun t=>bY (J fr st) (fr t))(fr:Fr)(st:St):
  dF cf p (fr,st)=match eZ fr p.g with
   |some true=>(aC cf fr st p.d p.op).map fun q=>(put (fun t=>bY (J fr st) (fr t)) p.d q.1,q.2)
   |some false=>some (put fr p.d .hole,st)
   |none=>none:=by
 unfold dF;cases hw:eZ fr p.g with
 |none=>rfl
 |some b=>cases b with
  |false=>rfl
  |true=>
   simp only;cases aC cf fr st p.d p.op with
   |none=>rfl
   |some q=>simp only[hJ,eO]
def lZ(cf:aJ){o:cW}{x:CX}(ho:o.op= .mv x)(fr:Fr)(st:St):
  dF cf o (fr,st)=match eZ fr o.g with
   |some true=>some (put fr o.d (x.ev fr),st)
   |some false=>some (put fr o.d .hole,st)
   |none=>none:=by
 unfold dF;rw[ho];cases eZ fr o.g with
 |none=>rfl
 |some b=>cases b with
  |false=>rfl
  |true=>simp only[aC,vp (cf:=cf) (c:= .mv x) rfl]
def Hs{c:eV}(h:EZ c=true):∃ n,c= .mv (.sl n):=by
 cases c with
 |mv x=>cases x with
  |sl n=>exact⟨n,rfl⟩
  |k p=>cases h
 |_=>cases h
def Dd(cf:aJ){c:eV}(h:xT c=true):∃ J:Fr->St->List Nat,(∀ d st fr,de cf c d st fr=fun t=>bY (J fr st) (fr t))/\∀ fr fr2 st,(∀ t∈c.slots,fr t=fr2 t)->J fr st=J fr2 st:=by
 cases c with
 |call f as mv=>exact⟨fun fr st=>dn (as.map (·.ev fr)) mv st,fun d st fr=>A5 f as mv d st fr,fun fr fr2 st h=>by simp only[nj (as:=as) h]⟩
 |apc e sz b x y=>
  refine⟨fun fr st=>mT (x.ev fr) (y.ev fr) st,fun d st fr=>rfl,fun fr fr2 st h=>?_⟩;simp only[eV.slots,aG]at h;simp only[bZ (x:=x) fun t ht=>h t (.inl ht),bZ (x:=y) fun t ht=>h t (.inr ht)]
 |_=>cases h
def Qo(cf:aJ){o p:cW}(hm:EZ o.op=true)(ht:xT p.op=true)(hap:nv o p=true){fr fr1 fr2:Fr}{st st1 st2:St}
  (h1:dF cf o (fr,st)=some (fr1,st1)) (h2:dF cf p (fr1,st1)=some (fr2,st2)):
  ∃ fr' st',dF cf p (fr,st)=some (fr',st')/\dF cf o (fr',st')=some (fr2,st2)/\br fr' o.op=br fr o.op/\br fr p.op=br fr1 p.op:=by
 obtain⟨n,hn⟩:=Hs hm;obtain⟨J,hJ,hJc⟩:=Dd cf ht;obtain⟨a1,a2,a3⟩:=q5 hap;have hnr:n∈o.reads:=by simp[cW.reads,hn,eV.slots,CX.slots]
 have hsl:∀ t∈p.op.slots,t∈p.reads:=fun t h=>by simp[cW.reads,h]
 have hobt:∃ v,fr1=put fr o.d v/\st1=st/\((eZ fr o.g=some true/\v=fr n)\/(eZ fr o.g=some false/\v= .hole)):=by
  rw[lZ cf hn]at h1;split at h1
  ·rename_i hw;cases h1;exact⟨_,rfl,rfl,.inl ⟨hw,rfl⟩⟩
  ·rename_i hw;cases h1;exact⟨_,rfl,rfl,.inr ⟨hw,rfl⟩⟩
  ·cases h1
 obtain⟨v,rfl,rfl,hv⟩:=hobt;have hsame:∀ t∈p.reads,put fr o.d v t=fr t:=gE a1;have hk1:br (put fr o.d v) p.op=br fr p.op:=rp fun t ht=>hsame t (hsl t ht);have hw:eZ (put fr o.d v) p.g=eZ fr p.g:=nZ hsame;have has:∀ st,J (put fr o.d v) st=J fr st:=fun st=>hJc _ _ st fun t ht=>hsame t (hsl t ht);have hru:∀ st d,aC cf (put fr o.d v) st d p.op=aC cf fr st d p.op:=fun st d=>vk (cf:=cf) (st:=st) (d:=d) fun t ht=>hsame t (hsl t ht);rw[lh cf hJ,hw,has,hru]at h2;rw[lh cf hJ];have hko:∀ g:Fr,br g o.op=br fr o.op:=fun g=>by rw[hn];rfl
 split at h2
 ·rename_i hwp
  try rw[hwp]
  cases hc:aC cf fr st1 p.d p.op with
  |none=>rw[hc]at h2;cases h2
  |some q=>
   rw[hc]at h2;cases h2;refine⟨_,_,rfl,?_,hko _,hk1.symm⟩;rw[lZ cf hn];have hd:∀ s,p.d=some s->s∉o.reads:=a3;have hw':eZ (put (fun t=>bY (J fr st1) (fr t)) p.d q.1) o.g=eZ (fun t=>bY (J fr st1) (fr t)) o.g:=nZ (gE hd);rw[hw',zI,qh a2];rcases hv with⟨hwo,rfl⟩|⟨hwo,rfl⟩
   ·rw[AA o.g hwo];have:CX.ev (put (fun t=>bY (J fr st1) (fr t)) p.d q.1) (.sl n)=bY (J fr st1) (fr n):=gE hd n hnr;simp only[this]
   ·rw[AA o.g hwo];rfl
 ·rename_i hwp
  try rw[hwp]
  cases h2;refine⟨_,_,rfl,?_,hko _,hk1.symm⟩;rw[lZ cf hn];have hw':eZ (put fr p.d .hole) o.g=eZ fr o.g:=nZ (gE a3);rw[hw',qh a2];rcases hv with⟨hwo,rfl⟩|⟨hwo,rfl⟩
  ·rw[hwo];have:CX.ev (put fr p.d .hole) (.sl n)=fr n:=gE a3 n hnr;simp only[this]
  ·rw[hwo]
 ·cases h2
def Qn(cf:aJ){o p:cW}(ht:xT o.op=true)(hm:EZ p.op=true)(hap:nv o p=true){fr fr1 fr2:Fr}{st st1 st2:St}
  (h1:dF cf o (fr,st)=some (fr1,st1)) (h2:dF cf p (fr1,st1)=some (fr2,st2)):
  ∃ fr' st',dF cf p (fr,st)=some (fr',st')/\dF cf o (fr',st')=some (fr2,st2)/\br fr' o.op=br fr o.op/\br fr p.op=br fr1 p.op:=by
 obtain⟨n,hn⟩:=Hs hm;obtain⟨J,hJ,hJc⟩:=Dd cf ht;obtain⟨a1,a2,a3⟩:=q5 hap;have hnr:n∈p.reads:=by simp[cW.reads,hn,eV.slots,CX.slots]
 have hsl:∀ t∈o.op.slots,t∈o.reads:=fun t h=>by simp[cW.reads,h]
 have hkp:∀ g:Fr,br fr p.op=br g p.op:=fun g=>by rw[hn];rfl
 have hko:∀ v,br (put fr p.d v) o.op=br fr o.op:=fun v=>rp fun t ht=>gE a3 t (hsl t ht);have hwo:∀ v,eZ (put fr p.d v) o.g=eZ fr o.g:=fun v=>nZ (gE a3);have has:∀ v st,J (put fr p.d v) st=J fr st:=fun v st=>hJc _ _ st fun t ht=>gE a3 t (hsl t ht);have hru:∀ v st d,aC cf (put fr p.d v) st d o.op=aC cf fr st d o.op:=fun v st d=>vk (cf:=cf) (st:=st) (d:=d) fun t ht=>gE a3 t (hsl t ht);rw[lh cf hJ]at h1;rw[lZ cf hn]at h2;split at h1
 ·rename_i hw;cases hc:aC cf fr st o.d o.op with
  |none=>rw[hc]at h1;cases h1
  |some q=>
   rw[hc]at h1;cases h1;have hw':eZ (put (fun t=>bY (J fr st) (fr t)) o.d q.1) p.g=eZ (fun t=>bY (J fr st) (fr t)) p.g:=nZ (gE a1);have hval:CX.ev (put (fun t=>bY (J fr st) (fr t)) o.d q.1) (.sl n)=bY (J fr st) (fr n):=gE a1 n hnr;rw[hw',hval]at h2;have back:∀ {b:Bool},eZ (fun t=>bY (J fr st) (fr t)) p.g=some b->eZ fr p.g=some b:=by
    intro b hb;cases hg:p.g with
    |none=>rw[hg]at hb;exact hb
    |some q=>
     obtain⟨s,c⟩:=q;rw[hg]at hb;simp only[eZ]at hb ⊢;have hor:bY (J fr st) (fr s)=fr s\/bY (J fr st) (fr s)= .any:=by
      unfold bY;split
      ·exact .inl rfl
      ·exact .inr rfl
     rcases hor with h|h
     ·rw[h]at hb;exact hb
     ·rw[h]at hb;cases hb
   split at h2
   ·rename_i hwp;cases h2;have h3:=back hwp;refine⟨_,_,by rw[lZ cf hn,h3],?_,hko _,hkp _⟩;rw[lh cf hJ,hwo,has,hru,hw,hc];simp only[eO,zI,CX.ev];rw[qh a2]
   ·rename_i hwp;cases h2;have h3:=back hwp;refine⟨_,_,by rw[lZ cf hn,h3],?_,hko _,hkp _⟩;rw[lh cf hJ,hwo,has,hru,hw,hc];simp only[eO,zI];rw[qh a2];rfl
   ·cases h2
 ·rename_i hw;cases h1;have hw':eZ (put fr o.d .hole) p.g=eZ fr p.g:=nZ (gE a1);have hval:CX.ev (put fr o.d .hole) (.sl n)=fr n:=gE a1 n hnr;rw[hw',hval]at h2;split at h2
  ·rename_i hwp;cases h2;refine⟨_,_,by rw[lZ cf hn,hwp],?_,hko _,hkp _⟩;rw[lh cf hJ,hwo,hw];simp only[CX.ev];rw[qh a2]
  ·rename_i hwp;cases h2;refine⟨_,_,by rw[lZ cf hn,hwp],?_,hko _,hkp _⟩;rw[lh cf hJ,hwo,hw];simp only;rw[qh a2]
  ·cases h2
 ·cases h1
def Rf(cf:aJ){o p:cW}(hs:DW o p=true){fr fr1 fr2:Fr}{st st1 st2:St}(hk:yH o p=true->∀ k∈br fr o.op,k∉br fr1 p.op)
  (h1:dF cf o (fr,st)=some (fr1,st1)) (h2:dF cf p (fr1,st1)=some (fr2,st2)):
  ∃ fr' st',dF cf p (fr,st)=some (fr',st')/\dF cf o (fr',st')=some (fr2,st2)/\br fr' o.op=br fr o.op/\br fr p.op=br fr1 p.op:=by
 simp only[DW,cY,aj]at hs;rcases hs with(hs|⟨⟨h3,h4⟩,h5⟩)|⟨⟨h3,h4⟩,h5⟩
 ·exact Qp cf hs hk h1 h2
 ·exact Qo cf h3 h4 h5 h1 h2
 ·exact Qn cf h3 h4 h5 h1 h2
structure vx where
 i:Nat
 o:cW
 ks:List Nat
def F4(cf:aJ):List vx->Fr×St->Fr×St->Prop
 | [],x,y=>x=y
 |q::L,x,y=>br x.1 q.o.op=q.ks/\∃ x',dF cf q.o x=some x'/\F4 cf L x' y
def M7(q r:vx):Prop:=DW q.o r.o=true/\(yH q.o r.o=true->∀ k∈q.ks,k∉r.ks)
def F4.front(cf:aJ){q:vx}{L2:List vx}{y:Fr×St}:∀ {L1:List vx} {x:Fr×St},F4 cf (L1++q::L2) x y->(∀ r∈L1,M7 r q)->
  br x.1 q.o.op=q.ks/\∃ x',dF cf q.o x=some x'/\F4 cf (L1++L2) x' y
 | [],x,h,_=>h
 |r::L1,x,h,hc=>by
  obtain⟨hk,x1,hr,hrest⟩:=h;obtain⟨hk2,x2,hq,hrun⟩:=F4.front cf hrest fun s hs=>hc s (by simp[hs]);obtain⟨hst,hky⟩:=hc r (by simp);obtain⟨fr,st⟩:=x;obtain⟨fr1,st1⟩:=x1;obtain⟨fr2,st2⟩:=x2;obtain⟨fr',st',h1,h2,h3,h4⟩:=Rf cf hst (fun h=>by rw[hk,hk2];exact hky h) hr hq;exact⟨h4.trans hk2,(fr',st'),h1,h3.trans hk,(fr2,st2),h2,hrun⟩
end Go.PM
namespace Go.PM
variable {P:Program} {B:Nat->Nat->Option Value}
def QY(ops:Array Oper)(anc:Nat->List Nat):Prop:=
 ∀ i o,ops[i]? =some o->∀ j∈anc i,∃ e∈o.after,Region.binds .any e=true/\(e.on=j\/j∈anc e.on)
def Qh(ops:Array Oper):Prop:=∀ i o,ops[i]? =some o->∀ e∈o.after,Region.binds .any e=true->e.on<i
section
variable {G:Gh} {nt nk:Nat} {cf:aJ} {ops:Array Oper} {Q:Exit->Act->World->Prop} {anc:Nat->List Nat} {D:List Deferred}
def Dm{l:Array Bool}{j:Nat}(hj:j<l.size):l.getD j true=l.getD j false:=by
 rw[bT,bT,jg hj];rfl
def IW{M:Nat->List Nat}(hcf:jD P B cf)(hanc:QY ops anc)(hdeps:Qh ops){y:Fr×St}:∀ (fuel:Nat) {listed:Array Bool} {L:List vx} {G:Gh} {fr:Fr} {st:St} {w:World} {a:Act},
  listed.size=ops.size->L.length<=fuel->(∀ j,j<ops.size->(listed.getD j true=false↔∃ q∈L,q.i=j))->(∀ q∈L,∃ o,ops[q.i]? =some o/\ug P M nt nk ops o=some q.o)->
  L.Pairwise (fun r q=>r.i<q.i/\(r.i∈anc q.i\/M7 r q))->(∀ i j,listed.getD i false=true->j∈anc i->listed.getD j false=true)->
  bM P B G st w->fu G nt fr a->F4 cf L (fr,st) y->
  (∀ a' w' G',bM P B G' y.2 w'->cQ G w G' w'->fu G' nt y.1 a'->qc (sn M) a' a->(∀ s,nk<=s\/G'.bx s=G.bx s)->Q .normal a' w')->
  wpAny P .any ops Q fuel listed a w:=by
 intro fuel;have fin:∀ {listed:Array Bool} {L:List vx},(∀ j,j<ops.size->(listed.getD j true=false↔∃ q∈L,q.i=j))->L=[]->Region.ready .any ops listed=[]:=by
  intro listed L h hL;subst hL;apply List.eq_nil_iff_forall_not_mem.2;intro j hj;obtain⟨h1,o,ho,_⟩:=mem_ready.1 hj;have hlt:=(bf.1 ho).1;obtain⟨q,hq,_⟩:=(h j hlt).1 h1;cases hq
 induction fuel with
 |zero=>
  intro listed L G fr st w a hsz hlen hL hc hp hcl hI hF hrun hn;have hnil:L=[]:=cq (by omega);refine⟨fin hL hnil,?_⟩;subst hnil;cases hrun;exact hn a w G hI (cQ.refl G w) hF .refl fun _=> .inr rfl
 |succ fuel ih=>
  intro listed L G fr st w a hsz hlen hL hc hp hcl hI hF hrun hn;refine⟨fun hready=>?_,fun i hi=>?_⟩
  ·
   cases L with
   |nil=>
    cases hrun;exact hn a w G hI (cQ.refl G w) hF .refl fun _=> .inr rfl
   |cons q L=>
    exfalso;obtain⟨o,ho,_⟩:=hc q (by simp);have hqlt:=(bf.1 ho).1;have hq:q.i∈Region.ready .any ops listed:=by
     refine mem_ready.2 ⟨(hL q.i hqlt).2 ⟨q,by simp,rfl⟩,o,ho,fun e he hb=>?_⟩;have hlt:=hdeps q.i o ho e he hb;have he':e.on<listed.size:=by omega
     cases hx:listed.getD e.on false with
     |true=>rfl
     |false=>
      rw[<-Dm he']at hx;obtain⟨r,hr,hri⟩:=(hL e.on (by omega)).1 hx;rcases aZ.1 hr with rfl|hr
      ·omega
      ·have:=(List.rel_of_pairwise_cons hp hr).1;omega
    rw[hready]at hq;cases hq
  ·obtain⟨hun,o,ho,hall⟩:=mem_ready.1 hi;have hilt:=(bf.1 ho).1;obtain⟨q,hq,hqi⟩:=(hL i hilt).1 hun;obtain⟨L1,L2,rfl⟩:=List.append_of_mem hq;have hancI:∀ j∈anc i,listed.getD j false=true:=by
    intro j hj;obtain⟨e,he,hb,h⟩:=hanc i o ho j hj;have h1:=hall e he hb;rcases h with rfl|h
    ·exact h1
    ·exact hcl e.on j h1 h
   have hpw:=List.pairwise_append.1 hp;have hcomm:∀ r∈L1,M7 r q:=by
    intro r hr;rcases(hpw.2.2 r hr q (by simp)).2 with h|h
    ·exfalso;rw[hqi]at h;have h1:=hancI r.i h;obtain⟨ro,hro,_⟩:=hc r (by simp[hr]);have hrlt:=(bf.1 hro).1;have h2:=(hL r.i hrlt).2 ⟨r,by simp[hr],rfl⟩;rw[Dm (by omega)]at h2;rw[h1]at h2;cases h2
    ·exact h
   obtain⟨_,x',hq1,hrun'⟩:=hrun.front cf hcomm;obtain⟨fr1,st1⟩:=x';obtain⟨o',ho',hco⟩:=hc q (by simp);rw[hqi,ho]at ho';cases ho';unfold wpOp;simp only[ho];refine C2 hcf hI hF hco hq1 fun a1 w1 G1 hI1 hS1 hF1 hd1 hk1=>?_;have hmem:∀ {r:vx},r∈L1++L2->r∈L1++q::L2:=by
    intro r hr;rcases aG.1 hr with h|h
    ·exact aG.2 (.inl h)
    ·exact aG.2 (.inr (ce _ h))
   refine ih (L:=L1++L2) (by simp;exact hsz) (by simp at hlen ⊢;omega) (fun j hj=>?_) (fun r hr=>hc r (hmem hr)) ?_ (fun u j hu hj=>?_) hI1 hF1 hrun' fun a2 w2 G2 hI2 hS2 hF2 hd2 hk2=>?_
   ·by_cases hji:j=i
    ·subst hji;have hz:(listed.setIfInBounds j true).getD j true=true:=by
      rw[bT,jz (by omega)];rfl
     rw[hz];refine⟨fun h=>(by cases h),?_⟩;rintro⟨r,hr,hri⟩;exfalso;rcases aG.1 hr with h|h
     ·have:=(hpw.2.2 r h q (by simp)).1;omega
     ·have:=(List.rel_of_pairwise_cons hpw.2.1 h).1;omega
    ·rw[getD_set_ne true (Ne.symm hji),hL j hj];constructor
     ·rintro⟨r,hr,hri⟩;refine⟨r,?_,hri⟩;rcases aG.1 hr with h|h
      ·exact aG.2 (.inl h)
      ·rcases aZ.1 h with rfl|h
       ·exact absurd (hri.symm.trans hqi) hji
       ·exact aG.2 (.inr h)
     ·rintro⟨r,hr,hri⟩;exact⟨r,hmem hr,hri⟩
   ·exact List.pairwise_append.2 ⟨hpw.1,(bI.1 hpw.2.1).2,fun r hr s hs=>hpw.2.2 r hr s (ce _ hs)⟩
   ·have mono:∀ j,listed.getD j false=true->(listed.setIfInBounds i true).getD j false=true:=fun j h=>getD_set_true h;by_cases hui:u=i
    ·subst hui;exact mono j (hancI j hj)
    ·rw[getD_set_ne false (Ne.symm hui)]at hu;exact mono j (hcl u j hu hj)
   ·refine hn a2 w2 G2 hI2 (hS1.trans hS2) hF2 (hd2.trans hd1) fun s=>?_;rcases hk1 s with h1|h1
    ·exact .inl h1
    ·rcases hk2 s with h2|h2
     ·exact .inl h2
     ·exact .inr (h2.trans h1)
end
inductive CC where
 |skip
 |reg (ops:List cW) (chk:List (Nat×Nat))
 |seq (a b:CC)
 |cond (c:CX) (a b:CC)
 |block (id:Nat) (c:CC)
 |loop (c:CC)
 |exit (id:Nat)
 |ret
inductive Ex where
 |go|exit (id:Nat)|ret
 deriving DecidableEq
def jc(cf:aJ):List cW->Fr×St->Option (List (List Nat)×(Fr×St))
 | [],x=>some ([],x)
 |o::os,x=>match dF cf o x with
  |some y=>match jc cf os y with
   |some (ks,z)=>some (br x.1 o.op::ks,z)
   |none=>none
  |none=>none
def oV(ks:List (List Nat))(q:Nat×Nat):Bool:=((ks[q.1]?).getD []).all fun k=>!((ks[q.2]?).getD []).contains k
def tN(cf:aJ)(ops:List cW):List (Nat×Nat)->Fr×St->Option (Fr×St)
 | [],x=>jl cf ops x
 |chk,x=>match jc cf ops x with
  |some (ks,y)=>if chk.all (oV ks)then some y else none
  |none=>none
def qm(body:Fr×St->Option (Ex×Fr×St)):Nat->Fr×St->Option (Ex×Fr×St)
 |0,_=>none
 |n+1,x=>match body x with
  |some (.go,y)=>qm body n y
  |r=>r
def ev(cf:aJ)(N:Nat):CC->Fr×St->Option (Ex×Fr×St)
 | .skip,x=>some (.go,x)
 | .reg ops chk,x=>(tN cf ops chk x).map fun y=>(.go,y)
 | .seq a b,x=>match ev cf N a x with
  |some (.go,y)=>ev cf N b y
  |r=>r
 | .cond c a b,x=>match c.ev x.1 with
  | .bool true=>ev cf N a x
  | .bool false=>ev cf N b x
  |_=>none
 | .block id c,x=>match ev cf N c x with
  |some (.exit i,y)=>if i=id then some (.go,y)else some (.exit i,y)
  |r=>r
 | .loop c,x=>qm (ev cf N c) N x
 | .exit id,x=>some (.exit id,x)
 | .ret,x=>some (.ret,x)
def KB(o:Oper):List Nat:=(o.after.toList.filter (Region.binds .any ·)).map (·.on)
def FS:List Oper->List (List Nat)->List (List Nat)
 | [],acc=>acc
 |o::os,acc=>FS os (acc++[((KB o)++(KB o).flatMap fun j=>(acc[j]?).getD []).eraseDups])
def La(ops:Array Oper)(an:List (List Nat)):Bool:=
 (List.range ops.size).all fun i=>match ops[i]? with
  |some o=>((an[i]?).getD []).all (fun j=>o.after.toList.any fun e=>Region.binds .any e && (e.on==j||((an[e.on]?).getD []).contains j))
  |none=>true
def HH(ops:Array Oper):Bool:=
 (List.range ops.size).all fun i=>match ops[i]? with
  |some o=>o.after.toList.all fun e=>!Region.binds .any e||decide (e.on<i)
  |none=>true
def yD(n:Nat):List (Nat×Nat):=(List.range n).flatMap fun i=>(List.range i).map fun j=>(j,i)
def BT(cs:List cW)(q:Nat×Nat):Bool:=match cs[q.1]?,cs[q.2]? with
 |some o,some p=>DW o p
 |_,_=>false
def Hr(cs:List cW)(q:Nat×Nat):Bool:=match cs[q.1]?,cs[q.2]? with
 |some o,some p=>yH o p
 |_,_=>false
def Cc(ops:Array Oper)(cs:List cW):Option (List (Nat×Nat)):=
 let an:=FS ops.toList []
 let free:=(yD cs.length).filter fun q=>!((an[q.2]?).getD []).contains q.1
 if La ops an && HH ops && free.all (BT cs)then some (free.filter (Hr cs))else none
def g8(P:Program)(M:Nat->List Nat)(nt nk:Nat):Code->Option CC
 | .skip=>some .skip
 | .region _ ops draw=>match oS P M nt nk ops ops.toList with
  |some cs=>match draw with
   |false=>some (.reg cs [])
   |true=>(Cc ops cs).map (.reg cs)
  |none=>none
 | .seq a b=>match g8 P M nt nk a,g8 P M nt nk b with
  |some a,some b=>some (.seq a b)
  |_,_=>none
 | .cond c a b=>match bP c,g8 P M nt nk a,g8 P M nt nk b with
  |some c,some a,some b=>some (.cond c a b)
  |_,_,_=>none
 | .block id c=>(g8 P M nt nk c).map (.block id)
 | .loop c=>(g8 P M nt nk c).map .loop
 | .exit id=>some (.exit id)
 | .ret=>some .ret
 |_=>none
def items:Nat->List cW->List (List Nat)->List vx
 |i,o::os,k::ks=>⟨i,o,k⟩::items (i+1) os ks
 |_,_,_=>[]
def sJ:∀ {os:List cW} {ks:List (List Nat)} {i j:Nat} {q:vx},(items i os ks)[j]? =some q->q.i=i+j/\os[j]? =some q.o/\ks[j]? =some q.ks
 | [],ks,i,j,q,h=>by simp[items]at h
 |o::os,[],i,j,q,h=>by simp[items]at h
 |o::os,k::ks,i,j,q,h=>by
  cases j with
  |zero=>simp[items]at h;subst h;exact⟨rfl,rfl,rfl⟩
  |succ j=>
   obtain⟨h1,h2,h3⟩:=sJ (os:=os) (ks:=ks) (i:=i+1) (j:=j) (by simpa [items]using h);exact⟨by omega,by simpa using h2,by simpa using h3⟩
def t7:∀ {os:List cW} {ks:List (List Nat)} {i:Nat},ks.length=os.length->(items i os ks).length=os.length
 | [],ks,i,h=>by simp[items]
 |o::os,[],i,h=>by simp at h
 |o::os,k::ks,i,h=>by simp[items,t7 (os:=os) (ks:=ks) (i:=i+1) (by simpa using h)]
def zp(cf:aJ):∀ {os:List cW} {x y:Fr×St} {ks:List (List Nat)} {i:Nat},jc cf os x=some (ks,y)->ks.length=os.length/\F4 cf (items i os ks) x y
 | [],x,y,ks,i,h=>by cases h;exact⟨rfl,rfl⟩
 |o::os,x,y,ks,i,h=>by
  simp only[jc]at h;split at h
  ·rename_i x' hx;split at h
   ·rename_i ks' z hz;cases h;obtain⟨h1,h2⟩:=zp cf (i:=i+1) hz;exact⟨by simp[h1],rfl,x',hx,h2⟩
   ·cases h
  ·cases h
def y9(cf:aJ):∀ {os:List cW} {x y:Fr×St},jl cf os x=some y->∃ ks,jc cf os x=some (ks,y)
 | [],x,y,h=>by cases h;exact⟨[],rfl⟩
 |o::os,x,y,h=>by
  simp only[jl]at h;split at h
  ·rename_i x' hx;obtain⟨ks,hk⟩:=y9 cf h;exact⟨br x.1 o.op::ks,by simp[jc,hx,hk]⟩
  ·cases h
def xf{M:Nat->List Nat}{nt nk:Nat}{ops:Array Oper}:∀ {os:List Oper} {cs:List cW},oS P M nt nk ops os=some cs->cs.length=os.length/\∀ (j:Nat) c,cs[j]? =some c->∃ o,os[j]? =some o/\ug P M nt nk ops o=some c
 | [],cs,h=>by cases h;exact⟨rfl,fun j c h=>by simp at h⟩
 |o::os,cs,h=>by
  unfold oS at h;split at h
  ·rename_i c cs' hc hcs;cases h;obtain⟨h1,h2⟩:=xf hcs;refine⟨by simp[h1],fun j d hd=>?_⟩;cases j with
   |zero=>simp at hd;subst hd;exact⟨o,rfl,hc⟩
   |succ j=>simpa using h2 j d (by simpa using hd)
  ·cases h
def Kc{n i j:Nat}(h1:j<i)(h2:i<n):(j,i)∈yD n:=by
 simp only[yD,nP,mX,cX,cL];exact⟨i,h2,j,h1,rfl,rfl⟩
section
variable {G:Gh} {nt nk:Nat} {cf:aJ} {Q:Exit->Act->World->Prop}
def bM.drawn{st:St}{w w':World}(hI:bM P B G st w)(h:w'.heap=w.heap):bM P B G st w':=by
 have hc:∀ a,w'.cell? a=w.cell? a:=fun a=>World.cell?_of_block (by rw[h]);exact⟨fun b o v hb=>by rw[hc];exact hI.com b o v hb,fun b e k hb=>by rw[h];exact hI.sh b e k hb,hI.nx,hI.cnt,hI.live,hI.room,hI.apart,hI.priv,fun s cs hs=>by rw[h];exact hI.objs s cs hs,
  fun s b hs=>by rw[h];exact hI.obs s b hs,hI.obj,hI.nob,hI.npo,fun b k hb=>by rw[h];exact hI.pvl b k hb,fun b hb=>by rw[h];exact hI.xpl b hb,hI.base,fun s b e sz h1 h2=>by rw[h];exact hI.oes s b e sz h1 h2,
  fun s es hs=>by rw[h];exact hI.mobj s es hs,fun s b hs=>by rw[h];exact hI.mbs s b hs,hI.mbi,hI.nomb,hI.obx,hI.ful⟩
def cQ.drawn{G':Gh}{w w' w2:World}(hS:cQ G w G' w2)(h:w.heap=w'.heap)(he:w'.os=w.os/\w'.output=w.output):cQ G w' G' w2:=
 ⟨hS.le,by rw[<-h];exact hS.size,fun b hb ho ht hm=>by rw[<-h];exact hS.kept b (by rw[h];exact hb) ho ht hm,fun s b hb=>by rw[<-h];exact hS.nearO s b hb,fun t r hr=>by rw[<-h];exact hS.nearT t r hr,
  fun b o v hv=>by rw[<-h];exact hS.nearC b o v hv,fun b x hx=>by rw[<-h];exact hS.nearS b x hx,fun b k hk=>by rw[<-h];exact hS.nearP b k hk,fun s b hs=>by rw[<-h];exact hS.nearM s b hs,⟨hS.eff.1.trans he.1.symm,hS.eff.2.trans he.2.symm⟩⟩
def CN{M:Nat->List Nat}(hcf:jD P B cf)(hmix:P.follows .mixedOrders=true){id:Nat}{ops:Array Oper}{draw:Bool}{cs:List cW}{chk:List (Nat×Nat)}(hc:oS P M nt nk ops ops.toList=some cs)
  (hchk:match draw with|false=>chk=[]|true=>Cc ops cs=some chk) {fr:Fr} {st:St} {w:World} {a:Act} (hI:bM P B G st w) (hF:fu G nt fr a) {y:Fr×St} (h:tN cf cs chk (fr,st)=some y)
  (hn:∀ a' w' G',bM P B G' y.2 w'->cQ G w G' w'->fu G' nt y.1 a'->qc (sn M) a' a->(∀ s,nk<=s\/G'.bx s=G.bx s)->Q .normal a' w'):(Code.region id ops draw).wp P Q a w:=by
 cases draw with
 |false=>
  simp only at hchk;subst hchk;exact wp_region_list (ze hcf hI hF hc h hn)
 |true=>
  simp only[Cc]at hchk;split at hchk
  ·rename_i hb;simp only[bB]at hchk;simp only[aj]at hb;obtain⟨⟨hb1,hb2⟩,hb3⟩:=hb;have hkeys:∃ ks,jc cf cs (fr,st)=some (ks,y)/\chk.all (oV ks)=true:=by
    cases chk with
    |nil=>
     obtain⟨ks,hk⟩:=y9 cf h;exact⟨ks,hk,rfl⟩
    |cons q chk=>
     simp only[tN]at h;split at h
     ·rename_i ks z hz;split at h
      ·rename_i hall;cases h;exact⟨ks,hz,hall⟩
      ·cases h
     ·cases h
   obtain⟨ks,hk,hall⟩:=hkeys;obtain⟨hlk,hrun⟩:=zp cf (i:=0) hk;obtain⟨hlc,hget⟩:=xf hc;have hlc':cs.length=ops.size:=by simpa using hlc
   refine wp_region_any hmix (IW (M:=M) (anc:=fun i=>((FS ops.toList [])[i]?).getD []) (L:=items 0 cs ks) (y:=y) (nt:=nt) (nk:=nk) hcf ?_ ?_ ops.size (by simp) (by rw[t7 hlk];omega) ?_ ?_ ?_ ?_ (hI.drawn rfl) hF hrun fun a' w' G' h1 h2 h3 h4 h5=>hn a' w' G' h1 (h2.drawn rfl ⟨rfl,rfl⟩) h3 h4 h5)
   ·intro i o ho j hj;have hi:=(bf.1 ho).1;simp only[La,cw,mX]at hb1;have:=hb1 i hi;simp only[ho,cw]at this;have:=this j hj;simp only[List.any_eq_true,Array.mem_toList_iff,aj,cY,jO,ff]at this;obtain⟨e,he,h1,h2⟩:=this;exact⟨e,he,h1,h2⟩
   ·intro i o ho e he hbi;have hi:=(bf.1 ho).1;simp only[HH,cw,mX]at hb2;have:=hb2 i hi;simp only[ho,cw,Array.mem_toList_iff]at this;have:=this e he;simpa [hbi]using this
   ·intro j hj;have hz:(Array.replicate ops.size false).getD j true=false:=by
     rw[bT,lC];simp[hj]
    refine⟨fun _=>?_,fun _=>hz⟩;have hlt:j<(items 0 cs ks).length:=by rw[t7 hlk];omega
    have hg:(items 0 cs ks)[j]? =some (items 0 cs ks)[j]:=aK hlt;exact⟨_,cp hlt,by rw[(sJ hg).1];omega⟩
   ·intro q hq;obtain⟨j,hj,rfl⟩:=d7 hq;have hg:(items 0 cs ks)[j]? =some (items 0 cs ks)[j]:=aK hj;obtain⟨h1,h2,_⟩:=sJ hg;obtain⟨o,ho,hco⟩:=hget j _ h2;exact⟨o,by rw[h1,ar];simpa using ho,hco⟩
   ·rw[kF];intro i j hi hj hij;have gi:(items 0 cs ks)[i]? =some (items 0 cs ks)[i]:=aK hi;have gj:(items 0 cs ks)[j]? =some (items 0 cs ks)[j]:=aK hj;generalize (items 0 cs ks)[i]=r at gi;generalize (items 0 cs ks)[j]=q at gj;obtain⟨r1,r2,r3⟩:=sJ gi;obtain⟨q1,q2,q3⟩:=sJ gj;refine⟨by omega,?_⟩;have hjn:j<cs.length:=(bD.1 q2).1;by_cases ha:(((FS ops.toList [])[j]?).getD []).contains i=true
    ·exact .inl (by rw[r1,q1,ar,ar];exact ff.1 ha)
    ·refine .inr ?_;have hfree:(i,j)∈(yD cs.length).filter (fun q=>!(((FS ops.toList [])[q.2]?).getD []).contains q.1):=
      iM.2 ⟨Kc hij hjn,by simpa using ha⟩
     have hst:BT cs (i,j)=true:=(cw.1 hb3) _ hfree;simp only[BT,r2,q2]at hst;refine⟨hst,fun hkd k hk1 hk2=>?_⟩;have hin:(i,j)∈chk:=by
      rw[<-hchk];exact iM.2 ⟨hfree,by simp only[Hr,r2,q2];exact hkd⟩
     have hap:=(cw.1 hall) _ hin;simp only[oV,r3,q3,Option.getD_some,cw,mK]at hap;have:=hap k hk1;rw[ff.2 hk2]at this;cases this
   ·intro i j hi _;rw[bT,lC]at hi;split at hi<;>cases hi
  ·cases hchk
end
def Ex.of:Ex->Exit
 | .go=> .normal
 | .exit i=> .exit i
 | .ret=> .ret
def Gc(P:Program)(B:Nat->Nat->Option Value)(nt nk:Nat)(kp:Bool)(G:Gh)(w:World)(a:Act)(e:Ex)(y:Fr×St)(Q:Exit->Act->World->Prop):Prop:=
 ∀ a' w' G',bM P B G' y.2 w'->cQ G w G' w'->fu G' nt y.1 a'->qc kp a' a->(∀ s,nk<=s\/G'.bx s=G.bx s)->Q e.of a' w'
section
variable {M:Nat->List Nat} {nt nk:Nat} {cf:aJ}
def Bc{c:Code}{body:Fr×St->Option (Ex×Fr×St)}(hb:∀ {x:Fr×St} {e:Ex} {y:Fr×St} {G:Gh} {w:World} {a:Act} {Q:Exit->Act->World->Prop},body x=some (e,y)->bM P B G x.2 w->fu G nt x.1 a->Gc P B nt nk (sn M) G w a e y Q->c.wp P Q a w):
  ∀ {n:Nat} {x:Fr×St} {e:Ex} {y:Fr×St} {G:Gh} {w:World} {a:Act} {Q:Exit->Act->World->Prop},qm body n x=some (e,y)->bM P B G x.2 w->fu G nt x.1 a->Gc P B nt nk (sn M) G w a e y Q->Code.rounds P c Q n a w
 |0,x,e,y,G,w,a,Q,h,_,_,_=>by simp[qm]at h
 |n+1,x,e,y,G,w,a,Q,h,hI,hF,hn=>by
  rw[rounds_succ];simp only[qm]at h;split at h
  ·rename_i z hz;refine hb hz hI hF fun a1 w1 G1 hI1 hS1 hF1 hd1 hk1=>?_;refine Bc hb h hI1 hF1 fun a2 w2 G2 hI2 hS2 hF2 hd2 hk2=>hn a2 w2 G2 hI2 (hS1.trans hS2) hF2 (hd2.trans hd1) fun s=>?_;rcases hk1 s with h1|h1
   ·exact .inl h1
   ·rcases hk2 s with h2|h2
    ·exact .inl h2
    ·exact .inr (h2.trans h1)
  ·rename_i hne;refine hb h hI hF fun a1 w1 G1 hI1 hS1 hF1 hd1 hk1=>?_;have:=hn a1 w1 G1 hI1 hS1 hF1 hd1 hk1;cases e with
   |go=>exact absurd h (hne y)
   |exit i=>exact this
   |ret=>exact this
def Bw(hcf:jD P B cf)(hmix:P.follows .mixedOrders=true)(N:Nat):∀ (c:Code) {cc:CC},g8 P M nt nk c=some cc->∀ {x:Fr×St} {e:Ex} {y:Fr×St} {G:Gh} {w:World} {a:Act} {Q:Exit->Act->World->Prop},
  ev cf N cc x=some (e,y)->bM P B G x.2 w->fu G nt x.1 a->Gc P B nt nk (sn M) G w a e y Q->c.wp P Q a w:=by
 intro c
 induction c with
 |skip=>
  intro cc hc x e y G w a Q h hI hF hn;simp only[g8,bB]at hc;subst hc;cases h;exact wp_skip (hn a w G hI (cQ.refl G w) hF .refl fun _=> .inr rfl)
 |exit id=>
  intro cc hc x e y G w a Q h hI hF hn;simp only[g8,bB]at hc;subst hc;cases h;exact wp_exit (hn a w G hI (cQ.refl G w) hF .refl fun _=> .inr rfl)
 |ret=>
  intro cc hc x e y G w a Q h hI hF hn;simp only[g8,bB]at hc;subst hc;cases h;exact wp_ret (hn a w G hI (cQ.refl G w) hF .refl fun _=> .inr rfl)
 |region id ops draw=>
  intro cc hc x e y G w a Q h hI hF hn;simp only[g8]at hc;split at hc
  ·rename_i cs hcs;cases draw with
   |false=>
    simp only[bB]at hc;subst hc;simp only[ev,av,cL]at h;obtain⟨z,hz,rfl,rfl⟩:=h;exact CN hcf hmix (draw:=false) (chk:=[]) hcs rfl hI hF hz hn
   |true=>
    simp only[av]at hc;obtain⟨chk,hchk,rfl⟩:=hc;simp only[ev,av,cL]at h;obtain⟨z,hz,rfl,rfl⟩:=h;exact CN hcf hmix (draw:=true) hcs hchk hI hF hz hn
  ·cases hc
 |seq c d ihc ihd=>
  intro cc hc x e y G w a Q h hI hF hn;simp only[g8]at hc;split at hc
  ·rename_i c1 d1 hc1 hd1;simp only[bB]at hc;subst hc;simp only[ev]at h;refine wp_seq ?_;split at h
   ·rename_i z hz;refine ihc hc1 hz hI hF fun a1 w1 G1 hI1 hS1 hF1 hdf1 hk1=>?_;refine ihd hd1 h hI1 hF1 fun a2 w2 G2 hI2 hS2 hF2 hdf2 hk2=>hn a2 w2 G2 hI2 (hS1.trans hS2) hF2 (hdf2.trans hdf1) fun s=>?_;rcases hk1 s with h1|h1
    ·exact .inl h1
    ·rcases hk2 s with h2|h2
     ·exact .inl h2
     ·exact .inr (h2.trans h1)
   ·rename_i hne;refine ihc hc1 h hI hF fun a1 w1 G1 hI1 hS1 hF1 hdf1 hk1=>?_;have:=hn a1 w1 G1 hI1 hS1 hF1 hdf1 hk1;cases e with
    |go=>exact absurd h (hne y)
    |exit i=>exact this
    |ret=>exact this
  ·cases hc
 |cond cnd c d ihc ihd=>
  intro cc hc x e y G w a Q h hI hF hn;simp only[g8]at hc;split at hc
  ·rename_i cx c1 d1 hcx hc1 hd1;simp only[bB]at hc;subst hc;have hR:=cR hF hcx;simp only[ev]at h;split at h
   ·rename_i hb;rw[hb]at hR;generalize hv:a.eval cnd=v at hR;cases hR;exact wp_cond_true hv (ihc hc1 h hI hF hn)
   ·rename_i hb;rw[hb]at hR;generalize hv:a.eval cnd=v at hR;cases hR;exact wp_cond_false hv (ihd hd1 h hI hF hn)
   ·cases h
  ·cases hc
 |block id c ihc=>
  intro cc hc x e y G w a Q h hI hF hn;simp only[g8,av]at hc;obtain⟨c1,hc1,rfl⟩:=hc;simp only[ev]at h;refine wp_block ?_;split at h
  ·rename_i i z hz;split at h
   ·rename_i hid;cases h;refine ihc hc1 hz hI hF fun a1 w1 G1 hI1 hS1 hF1 hdf1 hk1=>?_;have:=hn a1 w1 G1 hI1 hS1 hF1 hdf1 hk1;simp only[Ex.of,Exit.inBlock,hid,if_true];exact this
   ·rename_i hid;cases h;refine ihc hc1 hz hI hF fun a1 w1 G1 hI1 hS1 hF1 hdf1 hk1=>?_;have:=hn a1 w1 G1 hI1 hS1 hF1 hdf1 hk1;simp only[Ex.of,Exit.inBlock,ai hid];exact this
  ·rename_i hne;refine ihc hc1 h hI hF fun a1 w1 G1 hI1 hS1 hF1 hdf1 hk1=>?_;have:=hn a1 w1 G1 hI1 hS1 hF1 hdf1 hk1;cases e with
   |go=>exact this
   |exit i=>exact absurd h (hne i y)
   |ret=>exact this
 |loop c ihc=>
  intro cc hc x e y G w a Q h hI hF hn;simp only[g8,av]at hc;obtain⟨c1,hc1,rfl⟩:=hc;simp only[ev]at h;exact wp_loop_rounds N (Bc (fun h1 h2 h3 h4=>ihc hc1 h1 h2 h3 h4) h hI hF hn)
 |_=>intro cc hc;simp[g8]at hc
end
end Go.PM
