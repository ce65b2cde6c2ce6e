/- A part of the proof. Conditions: none. -/
import Derived.Test.YtdpamjikmlbmhaaGreatDoorPA
import Derived.Orders
import Derived.LoopN
set_option linter.all false
namespace Go.PM
variable {P:Program} {B:Nat->Nat->Option Value}
def jW{t e:Nat}(h:nq P t=some e):P.underlying t=some (.slice e):=by
 unfold nq at h;split at h
 ·cases h;assumption
 ·cases h
def LN{t:Nat}(h:J1 P t=true):P.underlying t=some (.int .u8):=by
 unfold J1 at h;split at h
 ·assumption
 ·cases h
def Bu{G:Gh}{nt:Nat}{fr:Fr}{a:Act}(hF:eT G nt fr a):∀ {xs:List Operand} {cs:List CX},pO xs=some cs->
  cs.length=xs.length/\∀ (j:Nat) p v,(cs.map (·.ev fr))[j]? =some p->(xs.map a.eval)[j]? =some v->R G p v
 | [],cs,h=>by cases h;exact⟨rfl,fun j p v hp=>by simp at hp⟩
 |x::xs,cs,h=>by
  unfold pO at h;split at h
  ·rename_i c cs' hx hxs;cases h;obtain⟨hl,hr⟩:=Bu hF hxs;refine⟨by simp[hl],fun j p v hp hv=>?_⟩;cases j with
   |zero=>
    simp at hp hv;subst hp;subst hv;exact cE hF hx
   |succ j=>exact hr j p v (by simpa using hp) (by simpa using hv)
  ·cases h
def yk{t:Nat}(h:zx P t=true):P.underlying t=some .string:=by
 unfold zx at h;split at h
 ·assumption
 ·cases h
section
variable {G:Gh} {nt:Nat} {fr:Fr} {st st':St} {w:World} {a:Act} {o:Oper} {d:Option Nat} {cf:aA} {p:PV}
def JH(hI:bz P B G st w)(hF:eT G nt fr a){c:ew}(hc:kq P o.op=some c)(h:aw cf fr st d c=some (p,st')):
  vE P B G w (execOp a.eval o) d (jM c) p st'/\cz p=true:=by
 have npo:=hI.npo;have zn:∀ {t:Nat} {zs:List PV},gb P t=some zs->aI zs=true:=fun hz=>by
  obtain⟨_,_,_,_,_,h⟩:=mj (P:=P) (G:=G) hz;exact h
 generalize hop:o.op=q at hc;unfold kq at hc;split at hc
 ·
  rename_i x;simp only[am]at hc;obtain⟨cx,hx,rfl⟩:=hc;refine⟨ex hI (EC hF (.inl hop) hx h),im h ?_ npo (by simp) (by simp) (by simp) (by simp) (by simp) (by simp)⟩;rintro x (h|⟨_,_,h⟩|⟨_,_,h⟩|⟨_,_,h⟩|h|⟨_,h⟩|⟨_,h⟩|⟨_,_,_,h⟩|⟨_,_,h⟩|⟨_,_,_,h⟩)<;>cases h<;>exact eB hF (by assumption)
 ·rename_i x;simp only[am]at hc;obtain⟨cx,hx,rfl⟩:=hc;refine⟨ex hI (EC hF (.inr hop) hx h),im h ?_ npo (by simp) (by simp) (by simp) (by simp) (by simp) (by simp)⟩;rintro x (h|⟨_,_,h⟩|⟨_,_,h⟩|⟨_,_,h⟩|h|⟨_,h⟩|⟨_,h⟩|⟨_,_,_,h⟩|⟨_,_,h⟩|⟨_,_,_,h⟩)<;>cases h<;>exact eB hF (by assumption)
 ·
  split at hc
  ·cases hc;refine⟨ex hI (Ho hF hop (by assumption) (by assumption) (by assumption) h),im h ?_ npo (by simp) (by simp) (by simp) (by simp) (by simp) (by simp)⟩;rintro x (h|⟨_,_,h⟩|⟨_,_,h⟩|⟨_,_,h⟩|h|⟨_,h⟩|⟨_,h⟩|⟨_,_,_,h⟩|⟨_,_,h⟩|⟨_,_,_,h⟩)<;>cases h<;>exact eB hF (by assumption)
  ·cases hc
 ·
  split at hc
  ·rename_i zs pl hz hpl;split at hc
   ·rename_i cs hcs;cases hc;refine⟨ex hI (FU hF hop hz hpl hcs h),im h ?_ npo (fun _ _ e cs hf=>by cases e;exact As hF hcs (zn hz) hf) (by simp) (by simp) (by simp) (by simp) (by simp)⟩;rintro x (h|⟨_,_,h⟩|⟨_,_,h⟩|⟨_,_,h⟩|h|⟨_,h⟩|⟨_,h⟩|⟨_,_,_,h⟩|⟨_,_,h⟩|⟨_,_,_,h⟩)<;>cases h
   ·cases hc
  ·cases hc
 ·
  split at hc
  ·rename_i sz ag cx hs hg hx;cases hc;refine⟨ex hI (Hq hI hF hop hx hs hg h),im h ?_ npo (by simp) (by simp) (by simp) (by simp) (by simp) (by simp)⟩;rintro x (h|⟨_,_,h⟩|⟨_,_,h⟩|⟨_,_,h⟩|h|⟨_,h⟩|⟨_,h⟩|⟨_,_,_,h⟩|⟨_,_,h⟩|⟨_,_,_,h⟩)<;>cases h<;>exact eB hF (by assumption)
  ·cases hc
 ·
  simp only[am]at hc;obtain⟨cx,hx,rfl⟩:=hc;refine⟨ex hI (Jm hF hop hx h),im h ?_ npo (by simp) (by simp) (by simp) (by simp) (by simp) (by simp)⟩;rintro x (h|⟨_,_,h⟩|⟨_,_,h⟩|⟨_,_,h⟩|h|⟨_,h⟩|⟨_,h⟩|⟨_,_,_,h⟩|⟨_,_,h⟩|⟨_,_,_,h⟩)<;>cases h<;>exact eB hF (by assumption)
 ·
  split at hc
  ·rename_i cx cy hx hy;have other:∀ {op:BinOp},c= .bin op cx cy->(∃ t yt x y,o.op= .binOp op t x y yt/\bC x=some cx/\bC y=some cy)->vE P B G w (execOp a.eval o) d (jM c) p st'/\cz p=true:=by
    rintro op rfl ⟨t,yt,x,y,hop,hx,hy⟩;have h':=h;simp only[aw,am]at h';obtain⟨q,hq,hqe⟩:=h';cases hqe;exact⟨ex hI ⟨rfl,Js hF hop hx hy hq⟩,fy (FE hq)⟩
   have fin:∀ {c':ew},c=c'->(∀ x,c'= .mv x\/(∃ a b,c'= .pick a x b)\/(∃ a b,c'= .pick a b x)\/(∃ sz ag,c'= .load sz ag x)\/c'= .nck x\/(∃ i,c'= .ext x i)\/(∃ n,c'= .fad n x)\/(∃ n sz ag,c'= .fld n sz ag x)\/
  (∃ sz i,c'= .iad sz x i)\/(∃ sz lo hi,c'= .slc sz x lo hi)->False)->True:=fun _ _=>trivial
   split at hc
   ·cases hc;refine⟨ex hI (yV hF hop hx (by assumption) (by assumption) (.inl ⟨rfl,rfl⟩) h),?_⟩;simp only[aw]at h;split at h<;>first|(cases h;rfl)|cases h
   ·cases hc;refine⟨ex hI (yV hF hop hx (by assumption) (by assumption) (.inr ⟨rfl,rfl⟩) h),?_⟩;simp only[aw]at h;split at h<;>first|(cases h;rfl)|cases h
   ·cases hc;refine⟨ex hI (Ck hF hop hx hy (by assumption) (.inl ⟨rfl,rfl⟩) h),?_⟩;simp only[aw]at h;split at h<;>first|(cases h;rfl)|cases h
   ·cases hc;refine⟨ex hI (Ck hF hop hx hy (by assumption) (.inr ⟨rfl,rfl⟩) h),?_⟩;simp only[aw]at h;split at h<;>first|(cases h;rfl)|cases h
   ·cases hc;exact other rfl ⟨_,_,_,_,hop,hx,hy⟩
   ·cases hc
  ·cases hc
 ·
  simp only[am]at hc;obtain⟨cx,hx,rfl⟩:=hc;have h':=h;simp only[aw,am]at h';obtain⟨q,hq,hqe⟩:=h';cases hqe;exact⟨ex hI ⟨rfl,Lu hF hop hx hq⟩,fy (G9 hq)⟩
 ·
  split at hc
  ·cases hc;refine⟨ex hI (FR hF hop (by assumption) (by assumption) (by assumption) h),?_⟩;simp only[aw]at h;split at h<;>first|(cases h;rfl)|cases h
  ·cases hc;refine⟨ex hI (D1 hF hop (by assumption) (by assumption) (by assumption) h),?_⟩;simp only[aw]at h;split at h<;>first|(cases h;rfl)|cases h
  ·split at hc
   ·rename_i hb;simp only[ae]at hb;cases hc;refine⟨ex hI (Jt hI hF hop (by assumption) (by assumption) (LN hb.1) (by assumption) h),?_⟩;simp only[aw]at h;split at h
    ·split at h
     ·split at h<;>first|(cases h;rfl)|cases h
     ·cases h
    ·cases h
   ·cases hc
  ·cases hc
 ·
  simp only[am]at hc;obtain⟨cs,hcs,rfl⟩:=hc;obtain⟨hl,hr⟩:=Bu hF hcs;refine⟨ex hI (Hp hop hr hl h),?_⟩;simp only[aw]at h;split at h
  ·rename_i hb;cases h;exact hb
  ·cases h
 ·
  split at hc
  ·cases hc;refine⟨HN hI hop h,?_⟩;simp only[aw]at h;split at h<;>first|(cases h;rfl)|cases h
  ·cases hc
 ·
  split at hc
  ·cases hc;refine⟨HM hI hF hop (by assumption) (by assumption) (by assumption) (by assumption) h,?_⟩;simp only[aw]at h;split at h
   ·split at h
    ·split at h
     ·split at h<;>first|(cases h;rfl)|cases h
     ·cases h
    ·cases h
   ·cases h
  ·cases hc
 ·
  split at hc
  ·split at hc
   ·cases hc;obtain⟨h1,h2⟩:=FT hI hF hop (by assumption) (by assumption) (by assumption) (by assumption) h;exact⟨ex hI h1,fy h2⟩
   ·cases hc
  ·cases hc
 ·
  simp only[am]at hc;obtain⟨cx,hx,rfl⟩:=hc;refine⟨ex hI (Jr hF hop hx h),im h ?_ npo (by simp) (by simp) (by simp) (by simp) (by simp) (by simp)⟩;rintro x (h|⟨_,_,h⟩|⟨_,_,h⟩|⟨_,_,h⟩|h|⟨_,h⟩|⟨_,h⟩|⟨_,_,_,h⟩|⟨_,_,h⟩|⟨_,_,_,h⟩)<;>cases h<;>exact eB hF (by assumption)
 ·
  split at hc
  ·split at hc
   ·rename_i fd hfd;split at hc
    ·cases hc;refine⟨ex hI (Jq hF hop (by assumption) (by assumption) hfd (by assumption) h),im h ?_ npo (by simp) (by simp) (by simp) (by simp) (by simp) (by simp)⟩;rintro x (h|⟨_,_,h⟩|⟨_,_,h⟩|⟨_,_,h⟩|h|⟨_,h⟩|⟨_,h⟩|⟨_,_,_,h⟩|⟨_,_,h⟩|⟨_,_,_,h⟩)<;>cases h<;>exact eB hF (by assumption)
    ·cases hc
   ·cases hc
  ·cases hc
 ·
  split at hc
  ·split at hc
   ·rename_i fd hfd;split at hc
    ·cases hc;refine⟨ex hI (Jp hF hop (by assumption) (by assumption) hfd (by assumption) (by assumption) h),im h ?_ npo (by simp) (by simp) (by simp) (by simp) (by simp) (by simp)⟩;rintro x (h|⟨_,_,h⟩|⟨_,_,h⟩|⟨_,_,h⟩|h|⟨_,h⟩|⟨_,h⟩|⟨_,_,_,h⟩|⟨_,_,h⟩|⟨_,_,_,h⟩)<;>cases h<;>exact eB hF (by assumption)
    ·cases hc
   ·cases hc
  ·cases hc
 ·
  split at hc
  ·rename_i e cx ci he hx hi;split at hc
   ·cases hc;refine⟨ex hI (Jo hF hop hx hi (jW he) (by assumption) h),im h ?_ npo (by simp) (by simp) (by simp) (by simp) (by simp) (by simp)⟩;rintro x (h|⟨_,_,h⟩|⟨_,_,h⟩|⟨_,_,h⟩|h|⟨_,h⟩|⟨_,h⟩|⟨_,_,_,h⟩|⟨_,_,h⟩|⟨_,_,_,h⟩)<;>cases h<;>exact eB hF (by assumption)
   ·cases hc
  ·cases hc
 ·
  split at hc
  ·rename_i cx ci he hx hi;cases hc;refine⟨ex hI (Hn hF hop hx hi (yk he) h),?_⟩;simp only[aw]at h;split at h
   ·split at h<;>first|(cases h;rfl)|cases h
   ·cases h
  ·cases hc
 ·
  split at hc
  ·rename_i cx clo chi hx hlo hhi;split at hc
   ·rename_i hs;cases hc;refine⟨ex hI (Jk hF hop hx hlo hhi (yk hs) h),?_⟩;simp only[aw]at h;split at h
    ·split at h<;>first|(cases h;rfl)|cases h
    ·cases h
   ·split at hc
    ·rename_i e he;split at hc
     ·cases hc;refine⟨ex hI (Jl hF hop hx hlo hhi (jW he) (by assumption) h),im h ?_ npo (by simp) (by simp) (by simp) (by simp) (by simp) (by simp)⟩;rintro x (h|⟨_,_,h⟩|⟨_,_,h⟩|⟨_,_,h⟩|h|⟨_,h⟩|⟨_,h⟩|⟨_,_,_,h⟩|⟨_,_,h⟩|⟨_,_,_,h⟩)<;>cases h<;>exact eB hF (by assumption)
     ·cases hc
    ·cases hc
  ·cases hc
 ·
  simp only[am]at hc;obtain⟨zs,hz,rfl⟩:=hc;refine⟨HO hI hop hz h,?_⟩;simp only[aw]at h;split at h<;>first|(cases h;rfl)|cases h
 ·
  split at hc
  ·cases hc;refine⟨LD hI hF hop (by assumption) h,?_⟩;simp only[aw]at h;split at h
   ·split at h<;>first|(cases h;rfl)|cases h
   ·cases h
  ·cases hc
 ·
  split at hc
  ·cases hc;refine⟨A0 hI hF hop (by assumption) (by assumption) (by assumption) h,?_⟩;simp only[aw]at h;split at h
   ·split at h
    ·split at h<;>first|(cases h;rfl)|cases h
    ·cases h
   ·cases h
  ·cases hc
 ·
  split at hc
  ·rename_i e he;split at hc
   ·rename_i sz zs hs hz;split at hc
    ·rename_i cs hcs;split at hc
     ·rename_i h24;cases hc;refine⟨LC hI hF hop (jW he) hs hz hcs h24 h,im h ?_ npo (by simp) (fun _ _ _ _ _ e cs hf=>by cases e;exact As hF hcs (uI (zn hz) _) hf) (by simp) (by simp) (by simp) (by simp)⟩;rintro x (h|⟨_,_,h⟩|⟨_,_,h⟩|⟨_,_,h⟩|h|⟨_,h⟩|⟨_,h⟩|⟨_,_,_,h⟩|⟨_,_,h⟩|⟨_,_,_,h⟩)<;>cases h
     ·cases hc
    ·cases hc
   ·cases hc
  ·cases hc
 ·
  split at hc
  ·rename_i e he;split at hc
   ·rename_i i zs l c' hi hz hl hc';split at hc
    ·split at hc
     ·rename_i hzl;cases hc;refine⟨LB hI hF hop (jW he) hl hc' hi hz hzl h,?_⟩;simp only[aw]at h;split at h
      ·split at h<;>first|(cases h;rfl)|cases h
      ·cases h
     ·cases hc
    ·cases hc;refine⟨LA hI hF hop (jW he) hl hc' hi hz h,?_⟩;simp only[aw]at h;split at h
     ·split at h<;>first|(cases h;rfl)|cases h
     ·cases h
   ·cases hc
  ·cases hc
 ·
  split at hc
  ·rename_i e he;split at hc
   ·rename_i i zs cx cy hi hz hx hy;split at hc
    ·rename_i hb;obtain⟨rfl,hzl⟩:=hb;cases hc;exact LE hI hF hop (jW he) hx hy hi hz hzl h
    ·cases hc
   ·cases hc
  ·cases hc
 ·
  split at hc
  ·rename_i cx hx;split at hc
   ·rename_i hs;cases hc;refine⟨ex hI (Hm hF hop hx (yk hs) h),?_⟩;simp only[aw]at h;split at h<;>first|(cases h;rfl)|cases h
   ·split at hc
    ·rename_i hs;obtain⟨e,he⟩:=bW.1 hs;cases hc;refine⟨ex hI (Jn hF hop hx (jW he) h),?_⟩;simp only[aw]at h;split at h<;>first|(cases h;rfl)|cases h
    ·split at hc
     ·rename_i hs;obtain⟨⟨kk,e⟩,he⟩:=bW.1 hs;cases hc;refine⟨ex hI (FS hI hF hop hx he h),?_⟩;simp only[aw]at h;split at h
      ·split at h<;>first|(cases h;rfl)|cases h
      ·cases h
     ·cases hc
  ·cases hc
 ·cases hc
end
def bn(ns:List Nat)(cs:List (List PV)):St:={nx:=ns.length,cnt:=fun t=>ns.getD t 0,fl:=0,objs:=fun k=>cs[k]?,maps:=fun _=>none}
def lj(P:Program)(f:FuncId):Prop:=∃ fn,P.funcs[f]? =some fn/\fn.name≠ "runtime.NumGoroutine" /\fn.body.isSome=true
def rA(f:Nat):Nat:=f % 1000000
def pW(f:Nat)(vs:List Value)(v:Value)(e:Ending):Prop:=if f / 1000000=0 then e= .returned v else ∃ u,e= .returned u/\v= .tuple #[u,vs.getD 0 undef]
def nJ{f:Nat}(h:f<1000000):rA f=f:=by unfold rA;omega
def Bp{f:Nat}(h:f<1000000):rA (kF f)=f:=by unfold rA kF;omega
def nz{f:Nat}(h:f<1000000){vs:List Value}{v:Value}{e:Ending}:pW f vs v e↔e= .returned v:=by
 unfold pW;rw[ak (by omega)]
def vo{f:Nat}{vs:List Value}{v:Value}{e:Ending}:pW (kF f) vs v e↔∃ u,e= .returned u/\v= .tuple #[u,vs.getD 0 undef]:=by
 unfold pW kF;rw[ad (by omega)]
def ja(P:Program)(B:Nat->Nat->Option Value)(cf:aA):Prop:=∀ f as ns cs r rs cs',cf f as ns cs=some (r,rs,cs')->
 lj P (rA f)/\cs'.length=cs.length/\np r=true/\(∀ c∈cs',aI c=true)/\
 ∀ G w (vs:List Value),bz P B G (bn ns cs) w->as.length=vs.length->(∀ (j:Nat) p v,as[j]? =some p->vs[j]? =some v->R G p v/\cz p=true)->
  Calls P (rA f) vs.toArray w fun e w'=>∃ v G',pW f vs v e/\R G' r v/\bz P B G' (bn rs cs') w'/\cu G w G' w'/\G'.ob=G.ob/\∀ k,k<cs.length->G'.oe k=G.oe k
mutual
theorem gn(f:Nat->Option Nat)(s:Bool)(K:Nat->Bool):∀ (p:PV),off K (ren f s p)=off K p
 | .list n cs t=>by rw[gK];simp[off,fA f s K cs]
 | .iptr cs o t=>by rw[si];simp[off,fA f s K cs]
 | .agg cs=>by simp[ren,off,fA f s K cs]
 | .tup cs=>by simp[ren,off,fA f s K cs]
 | .fn g cs=>by simp[ren,off,fA f s K cs]
 | .ptr _ _=>rfl
 | .osl _ _ _ _=>rfl
 | .mp _=>rfl
 | .any=>rfl
 | .hole=>rfl
 | .int _ _=>rfl
 | .bool _=>rfl
 | .str _=>rfl
 | .nilp=>rfl
 | .nili=>rfl
 | .err=>rfl
theorem fA(f:Nat->Option Nat)(s:Bool)(K:Nat->Bool):∀ (ps:List PV),dh K (aZ f s ps)=dh K ps
 | []=>rfl
 |p::ps=>by simp[aZ,dh,gn f s K p,fA f s K ps]
end
def qz{f:Nat->Option Nat}{s:Bool}{cs:List PV}(h:aI cs=true):aI (aZ f s cs)=true:=by
 simp only[aI,fA];exact h
def zg{cs:List PV}(h:aI cs=true):aI (aF cs)=true:=qz h
def th:∀ {l:List Nat} {k i:Nat},aT l k=some i->l[i]? =some k
 | [],k,i,h=>by cases h
 |x::xs,k,i,h=>by
  unfold aT at h;split at h
  ·rename_i e;cases h;simp[e]
  ·simp only[am]at h;obtain⟨j,hj,rfl⟩:=h;simpa using th hj
def yn:∀ {l:List Nat} {k i:Nat},l.Nodup->l[i]? =some k->aT l k=some i
 | [],k,i,_,h=>by simp at h
 |x::xs,k,i,hn,h=>by
  simp only[m0]at hn;unfold aT;cases i with
  |zero=>simp at h;rw[ak h]
  |succ i=>
   have h':xs[i]? =some k:=by simpa using h
   have hne:x≠k:=by rintro rfl;exact hn.1 (bQ h')
   rw[ad hne,yn hn.2 h'];rfl
def wl{l:List Nat}{k:Nat}(h:l.contains k=false):aT l k=none:=by
 cases hx:aT l k with
 |none=>rfl
 |some i=>
  have:=bQ (th hx);rw[ei.2 this]at h;cases h
def xG:∀ {l:List Nat},rm l=true->l.Nodup
 | [],_=>nS
 |x::xs,h=>by
  simp only[rm,ae,lN]at h;refine m0.2 ⟨fun hm=>?_,xG h.2⟩;rw[ei.2 hm]at h;cases h.1
def pm(p:PV):bV [] p=p:=by
 have:tf (List.contains ([]:List Nat) ·) p=true:=mP p;simp only[bV,this,if_true]
def we(objs:Nat->Option (List PV)):ix [] objs=objs:=by
 funext s;simp only[ix];cases objs s with
 |none=>rfl
 |some c=>simp[pm,List.map_id'']
def wf(maps:Nat->Option (List (PV×PV))):kl [] maps=maps:=by
 funext s;simp only[kl];cases maps s with
 |none=>rfl
 |some c=>simp[pm]
def jI{objs:Nat->Option (List PV)}:∀ {ks:List Nat} {cs:List (List PV)} {s:Nat},s∉ks->fi objs ks cs s=objs s
 | [],_,_,_=>rfl
 |k::ks,[],_,_=>rfl
 |k::ks,c::cs,s,h=>by
  simp only[aX,not_or]at h;simp only[fi];rw[jI h.2];simp[h.1]
def jS{objs:Nat->Option (List PV)}:∀ {ks:List Nat} {cs:List (List PV)} {i s:Nat},ks.Nodup->ks[i]? =some s->ks.length=cs.length->fi objs ks cs s=cs[i]?
 | [],_,i,s,_,h,_=>by simp at h
 |k::ks,[],_,_,_,_,hl=>by simp at hl
 |k::ks,c::cs,i,s,hn,h,hl=>by
  simp only[m0]at hn;simp only[fi];cases i with
  |zero=>
   simp at h;subst h;rw[jI hn.1];simp
  |succ i=>
   rw[jS hn.2 (by simpa using h) (by simpa using hl)];simp
def s7:∀ {ks:List Nat} {i j s:Nat},ks.Nodup->ks[i]? =some s->ks[j]? =some s->i=j
 | [],i,j,s,_,h,_=>by simp at h
 |k::ks,i,j,s,hn,h,h'=>by
  simp only[m0]at hn;cases i<;>cases j
  ·rfl
  ·simp at h h';subst h;exact absurd (bQ h') hn.1
  ·simp at h h';subst h';exact absurd (bQ h) hn.1
  ·rename_i i j;have:=s7 (i:=i) (j:=j) (s:=s) hn.2 (by simpa using h) (by simpa using h');omega
def mA{st:St}:∀ {ks:List Nat} {cs:List (List PV)},dl st ks=some cs->ks.length=cs.length/\∀ (i s:Nat),ks[i]? =some s->st.objs s=cs[i]?
 | [],cs,h=>by cases h;exact⟨rfl,fun i s h=>by simp at h⟩
 |k::ks,cs,h=>by
  unfold dl at h;split at h
  ·rename_i c cs' h1 h2;cases h;obtain⟨hl,hg⟩:=mA h2;refine⟨by simp[hl],fun i s hi=>?_⟩;cases i with
   |zero=>simp at hi;subst hi;simpa using h1
   |succ i=>simpa using hg i s (by simpa using hi)
  ·cases h
def lV:∀ {as:List PV} {ks:List Nat},cX as=some ks->ks.Nodup
 | [],ks,h=>by cases h;exact nS
 |p::ps,ks,h=>by
  unfold cX at h;split at h
  ·rename_i e;cases e
  ·rename_i s off ps' e;cases e;split at h
   ·rename_i ks' hk;split at h
    ·rename_i hb;cases h;exact m0.2 ⟨by simpa using hb.2,lV hk⟩
    ·cases h
   ·cases h
  ·rename_i e;cases e;split at h
   ·exact lV h
   ·cases h
def ox(J mv:List Nat):∀ (as:List PV) (i n:Nat),(eX J mv i n as).length=as.length
 | [],_,_=>rfl
 |p::ps,i,n=>by
  cases p<;>simp[eX,ox J mv ps]
def pM{J mv:List Nat}:∀ {as:List PV} {ks:List Nat} {i n j:Nat} {q:PV},cX as=some ks->(eX J mv i n as)[j]? =some q->
  (∃ t s,ks[t]? =some s/\as[j]? =some (.ptr s 0)/\q= .ptr (n+t) 0)\/∃ p,as[j]? =some p/\np p=true/\q=if mv.contains (i+j)then ren (aT J) false p else aC p
 | [],ks,i,n,j,q,h,hq=>by simp[eX]at hq
 |p::ps,ks,i,n,j,q,h,hq=>by
  unfold cX at h;split at h
  ·rename_i e;cases e
  ·rename_i s off ps' e;cases e;split at h
   ·rename_i ks' hk;split at h
    ·rename_i hb;cases h;obtain⟨rfl,_⟩:=hb;have hq':(PV.ptr n 0::eX J mv (i+1) (n+1) ps)[j]? =some q:=hq;cases j with
     |zero=>simp at hq';subst hq';exact .inl ⟨0,s,rfl,rfl,by simp⟩
     |succ j=>
      rcases pM hk (by simpa using hq')with⟨t,s',h1,h2,h3⟩|⟨p,h1,h2,h3⟩
      ·exact .inl ⟨t+1,s',by simpa using h1,by simpa using h2,by rw[h3];congr 1;omega⟩
      ·exact .inr ⟨p,by simpa using h1,h2,by rw[h3,show i+1+j=i+(j+1) by omega]⟩
    ·cases h
   ·cases h
  ·rename_i p' ps' hne e;cases e;split at h
   ·rename_i hp;have hq':((if mv.contains i then ren (aT J) false p else aC p)::eX J mv (i+1) n ps)[j]? =some q:=by
     cases p with
     |ptr s o=>simp[np,off]at hp
     |_=>exact hq
    cases j with
    |zero=>simp only[aj,bo]at hq';subst hq';exact .inr ⟨p,rfl,hp,rfl⟩
    |succ j=>
     rcases pM h (by simpa using hq')with⟨t,s',h1,h2,h3⟩|⟨p,h1,h2,h3⟩
     ·exact .inl ⟨t,s',h1,by simpa using h2,h3⟩
     ·exact .inr ⟨p,by simpa using h1,h2,by rw[h3,show i+1+j=i+(j+1) by omega]⟩
   ·cases h
def AM{J mv:List Nat}:∀ {as:List PV} {i j:Nat} {p:PV},gU J mv i as=true->as[j]? =some p->mv.contains (i+j)=true\/tf (J.contains ·) p=true
 | [],i,j,p,_,h=>by simp at h
 |a::as,i,j,p,hs,h=>by
  simp only[gU,ae,cF]at hs;cases j with
  |zero=>simp at h;subst h;simpa using hs.1
  |succ j=>have:=AM hs.2 (j:=j) (by simpa using h);rwa [show i+1+j=i+(j+1) by omega]at this
def BJ{J:List Nat}:∀ {bs:List Bool} {cs:List (List PV)} {k:Nat} {c:List PV},mD J bs cs=true->(lh J bs cs)[k]? =some c->
  ∃ c0,cs[k]? =some c0/\(c=aZ (aT J) false c0\/(c=aF c0/\dw (J.contains ·) c0=true))
 | [],[],k,c,_,h=>by simp[lh]at h
 | [],_::_,k,c,hs,h=>by simp[mD]at hs
 |b::bs,[],k,c,_,h=>by simp[lh]at h
 |b::bs,d::cs,k,c,hs,h=>by
  simp only[mD,ae,cF]at hs;simp only[lh]at h;cases k with
  |zero=>
   simp only[aj,bo]at h;subst h;refine⟨d,rfl,?_⟩;cases b with
   |true=>exact .inl rfl
   |false=>exact .inr ⟨rfl,by simpa using hs.1⟩
  |succ k=>
   obtain⟨c0,h1,h2⟩:=BJ hs.2 (k:=k) (by simpa using h);exact⟨c0,by simpa using h1,h2⟩
def wD{J:List Nat}:∀ {bs:List Bool} {cs:List (List PV)},(lh J bs cs).length=cs.length
 | [],cs=>by simp[lh]
 |b::bs,[]=>by simp[lh]
 |b::bs,c::cs=>by simp[lh,wD (bs:=bs) (cs:=cs)]
def Gh.hand(G:Gh)(ks J:List Nat):Gh:=
 {com:=G.com,sh:=G.sh,tk:=fun t=>(J[t]?).bind G.tk,ob:=fun k=>(ks[k]?).bind G.ob,nx:=J.length,pv:=fun b=>(G.pv b).bind (aT J),
  xp:=fun b=>(match G.pv b with|some k=>!J.contains k|none=>false)||G.xp b,oe:=fun k=>(ks[k]?).bind G.oe,mb:=fun _=>none}
def EJ(G:Gh)(ks J:List Nat):Rn (aT J) (fun _=>false) false G (G.hand ks J) where
 com b o v h _:=h
 sh b x h:=h
 tk k k' h _ _:=by
  have hg:=th h;refine⟨(br.1 hg).1,fun x' hx'=>?_⟩;simp only[Gh.hand,hg,dP]at hx';exact⟨x',hx',aE _,fun _=>rfl⟩
 pv b k' o v _ _ h:=by
  simp only[Gh.hand,bK]at h;obtain⟨k,h1,h2⟩:=h;exact .inl ⟨k,h1,h2⟩
 xp b o v _ _ h:=by
  simp only[Gh.hand,cF]at h;rcases h with h|h
  ·split at h
   ·rename_i k hk;exact .inr ⟨k,hk,wl (by simpa using h)⟩
   ·cases h
  ·exact .inl h
def Cr(G:Gh)(ks J:List Nat):Rn (fun _=>none) (J.contains ·) false G (G.hand ks J) where
 com b o v h _:=h
 sh b x h:=h
 tk k k' h:=by cases h
 pv b k' o v _ hK h:=by
  simp only[Gh.hand,bK]at h;obtain⟨k,h1,h2⟩:=h;rw[wl (hK k h1)]at h2;cases h2
 xp b o v _ _ h:=by
  simp only[Gh.hand,cF]at h;rcases h with h|h
  ·split at h
   ·rename_i k hk;exact .inr ⟨k,hk,rfl⟩
   ·cases h
  ·exact .inl h
def Rs.ren{f:Nat->Option Nat}{K:Nat->Bool}{X:Bool}{G G':Gh}(h:Rn f K X G G'){sw:Bool}{cs:List PV}{vs:List Value}(hR:Rs G cs vs)(hn:aI cs=true)(hK:dw K cs=true)(hX:X=true->fo cs=true):Rs G' (aZ f sw cs) vs:=by
 obtain⟨hl,hr,h1⟩:=hR;refine⟨by rw[fW];exact hl,fun j p u hp hu=>?_,h1⟩;rw[uB]at hp;cases hc:cs[j]? with
 |none=>rw[hc]at hp;simp at hp
 |some q=>
  rw[hc]at hp;simp at hp;subst hp;exact(hr j q u hc hu).ren h (fun _=>true) (fun s hs=>by cases hs) (ju hn hc) (kK hK hc) (fun hx=>lz (hX hx) hc)
section
variable {G:Gh} {st st':St} {w:World}
def yM(st:St)(ts:List (Nat×Nat)):Prop:=(ts.map (·.1)).Nodup/\∀ q∈ts,q.1<st.nx/\st.cnt q.1=q.2/\st.fl<=q.1
def Ew{ts:List (Nat×Nat)}(h1:rm (ts.map (·.1))=true)(h2:ts.all (sZ st)=true):yM st ts:=by
 refine⟨xG h1,fun q hq=>?_⟩;have:=(bX.1 h2) q hq;simp only[sZ,hH,ae,decide_eq_true_eq,jh]at this;exact⟨this.1.1,this.1.2,this.2⟩
def xT{ts:List (Nat×Nat)}(h:yM st ts){t k:Nat}(hk:(ts.map (·.1))[t]? =some k):k<st.nx/\(ts.map (·.2)).getD t 0=st.cnt k/\st.fl<=k/\t<ts.length:=by
 rw[de,am]at hk;obtain⟨q,hq,rfl⟩:=hk;obtain⟨h1,h2,h3⟩:=h.2 q (bQ hq);exact⟨h1,by simp[gh,de,hq,h2],h3,(br.1 hq).1⟩
def FJ(J:List Nat)(cs ds:List (List PV)):Prop:=∀ (k:Nat) c,ds[k]? =some c->∃ c0,cs[k]? =some c0/\(c=aZ (aT J) false c0\/(c=aF c0/\dw (J.contains ·) c0=true))
def bz.hand(hI:bz P B G st w){ks:List Nat}{cs ds:List (List PV)}(hn:ks.Nodup)(hg:dl st ks=some cs){ts:List (Nat×Nat)}(hts:yM st ts)(hds:ds.length=cs.length)(hbx:FJ (ts.map (·.1)) cs ds):
  bz P B (G.hand ks (ts.map (·.1))) (bn (ts.map (·.2)) ds) w:=by
 obtain⟨hl,hget⟩:=mA hg;generalize hJ:ts.map (·.1)=J at*;have hJn:J.Nodup:=by rw[<-hJ];exact hts.1
 have hJl:J.length=ts.length:=by rw[<-hJ];simp
 have hJk:∀ {t k:Nat},J[t]? =some k->k<st.nx/\(ts.map (·.2)).getD t 0=st.cnt k/\st.fl<=k/\t<ts.length:=fun h=>xT hts (by rw[hJ];exact h);have htk:∀ {t x},(G.hand ks J).tk t=some x->∃ k,J[t]? =some k/\G.tk k=some x:=by
  intro t x h;simpa only[Gh.hand,bK]using h
 have hob:∀ {k b},(G.hand ks J).ob k=some b->∃ s,ks[k]? =some s/\G.ob s=some b:=by
  intro k b h;simpa only[Gh.hand,bK]using h
 refine⟨hI.com,hI.sh,by simp[Gh.hand,bn,hJl],fun t x h=>?_,fun t h=>?_,fun t r h=>?_,fun t u r q h1 h2 hb=>?_,fun t r h=>?_,?_,?_,?_,?_,?_,fun b k h=>?_,fun b h=>?_,fun b o v h=>?_,fun s b e sz h1 h2=>?_,fun s es h=>(by cases h),fun s b h=>(by cases h),fun s u b h=>(by cases h),fun s _=>rfl,fun k b h=>?_,fun t m h=>by obtain⟨k,hk,hx⟩:=htk h;exact hI.ful k m hx⟩
 ·obtain⟨k,hk,hx⟩:=htk h;obtain⟨h1,h2,_,h4⟩:=hJk hk;refine⟨by simpa [bn]using h4,?_⟩;simp only[bn];rw[h2,(hI.cnt k x hx).2]
 ·have hlt:t<J.length:=by simpa [bn,hJl]using h
  have hk:J[t]? =some J[t]:=ax hlt;obtain⟨x,hx⟩:=hI.live _ (hJk hk).1;exact⟨x,by simp only[Gh.hand,hk,dP];exact hx⟩
 ·obtain⟨k,hk,hx⟩:=htk h;obtain⟨h1,h2,h3,h4,h5,h6⟩:=hI.room k r hx;refine⟨h1,h2,h3,h4,h5,?_⟩;have hp:=(hI.priv k r hx).1 (hJk hk).2.2.1;simp[Gh.hand,hp,h6,bQ hk]
 ·obtain⟨k,hk,hx⟩:=htk h1;obtain⟨l,hl',hy⟩:=htk h2;have:=hI.apart k l r q hx hy hb;subst this;exact s7 hJn hk hl'
 ·obtain⟨k,hk,hx⟩:=htk h;have hp:=(hI.priv k r hx).1 (hJk hk).2.2.1;have hpi:(G.hand ks J).pv r.b=some t:=by simp only[Gh.hand,hp,dP];exact yn hJn hk
  rw[hpi];exact⟨fun _=>rfl,fun j hj=>(Option.some.inj hj).symm⟩
 ·intro k c h;obtain⟨c0,h1,h2⟩:=hbx k c h;have hk:k<ks.length:=by have:=(br.1 h1).1;omega
  have hks:ks[k]? =some ks[k]:=ax hk;have hs:st.objs ks[k]=some c0:=by rw[hget k _ hks,h1]
  obtain⟨b,e,vs,hb,hh,hR⟩:=hI.objs _ c0 hs;refine⟨b,e,vs,by simp only[Gh.hand,hks,dP];exact hb,hh,?_⟩;rcases h2 with rfl|⟨rfl,h2⟩
  ·exact hR.ren (EJ G ks J) (hI.npo _ c0 hs) (j9 c0) (by simp)
  ·exact hR.ren (Cr G ks J) (hI.npo _ c0 hs) h2 (by simp)
 ·intro k b h;obtain⟨s,h1,h2⟩:=hob h;exact hI.obs s b h2
 ·intro k l b h h';obtain⟨s,h1,h2⟩:=hob h;obtain⟨u,h3,h4⟩:=hob h';have:=hI.obj s u b h2 h4;subst this;exact s7 hn h1 h3
 ·intro k h;have h':ds[k]? =none:=h;have:ks.length<=k:=by have:=m4.1 h';omega
  simp[Gh.hand,bB this]
 ·intro k c h;obtain⟨c0,h1,h2⟩:=hbx k c h;have hk:k<ks.length:=by have:=(br.1 h1).1;omega
  have hs:st.objs ks[k]=some c0:=by rw[hget k _ (ax hk),h1]
  have:=hI.npo _ c0 hs;rcases h2 with rfl|⟨rfl,h2⟩
  ·exact qz this
  ·exact zg this
 ·simp only[Gh.hand,bK]at h;obtain⟨k',h1,_⟩:=h;exact hI.pvl b k' h1
 ·simp only[Gh.hand,cF]at h;rcases h with h|h
  ·split at h
   ·rename_i k hk;exact hI.pvl b k hk
   ·cases h
  ·exact hI.xpl b h
 ·obtain⟨h1,h2,h3⟩:=hI.base b o v h;exact⟨h1,by simp[Gh.hand,h2],h3⟩
 ·simp only[Gh.hand,bK]at h1 h2;obtain⟨s1,h3,h4⟩:=h1;obtain⟨s2,h5,h6⟩:=h2;rw[h3]at h5;cases h5;exact hI.oes s1 b e sz h4 h6
 ·obtain⟨s,h1,h2⟩:=hob h;obtain⟨h3,h4⟩:=hI.obx s b h2;simp[Gh.hand,h3,h4]
def Gh.back(G G1:Gh)(J:List Nat)(m:Nat)(cl:Bool):Gh:=
 {com:=G1.com,sh:=G1.sh,tk:=fun t=>if t<G.nx then(if J.contains t then some (.full 0)else G.tk t)else G1.tk (t-G.nx),ob:=G.ob,nx:=G.nx+m,
  pv:=fun b=>match G1.pv b with
   |some k=>some (G.nx+k)
   |none=>if cl then(match G.pv b with|some k=>if J.contains k then none else some k|none=>none)else none,
  xp:=G.xp,oe:=G.oe,mb:=G.mb}
def EK{G G1:Gh}{ks J:List Nat}{m:Nat}{cl:Bool}(hxp:G1.xp=(G.hand ks J).xp)(hm:G1.nx=m):Rn (fun k=>some (G.nx+k)) (fun _=>false) cl G1 (G.back G1 J m cl) where
 com b o v h _:=h
 sh b x h:=h
 tk k k' h _ hlt:=by
  cases h;refine⟨by simp[Gh.back];omega,fun x' hx'=>?_⟩;simp only[Gh.back]at hx';rw[ad (by omega),Nat.add_sub_cancel_left]at hx';exact⟨x',hx',aE _,fun _=>rfl⟩
 pv b k' o v _ _ h:=by
  simp only[Gh.back]at h;split at h
  ·rename_i k hk;cases h;exact .inl ⟨k,hk,rfl⟩
  ·split at h
   ·rename_i hc;split at h
    ·rename_i k hk;split at h
     ·cases h
     ·rename_i hJ;refine .inr ⟨hc,?_⟩;rw[hxp];simp only[Gh.hand,hk,cF];exact .inl (by simpa using hJ)
    ·cases h
   ·cases h
 xp b o v _ _ h:=by
  simp only[Gh.back]at h;exact .inl (by rw[hxp];simp[Gh.hand,h])
def pL{G:Gh}{ks J:List Nat}{b:Nat}(h:∀ k,G.pv b=some k->J.contains k=false):(G.hand ks J).pv b=none:=by
 simp only[Gh.hand];cases hp:G.pv b with
 |none=>rfl
 |some k=>simp only[dP];exact wl (h k hp)
def EG{G G1:Gh}{ks J:List Nat}{m:Nat}{cl:Bool}(hle:rD (G.hand ks J) G1):Rn some (J.contains ·) false G (G.back G1 J m cl) where
 com b o v h hK:=(hle.com b o v h (pL hK)).1
 sh b x h:=hle.sh b x h
 tk k k' h hK hlt:=by
  cases h;refine⟨by simp[Gh.back];omega,fun x' hx'=>?_⟩;simp only[Gh.back,ak hlt]at hx';rw[ad (by rw[hK];simp)]at hx';exact⟨x',hx',aE _,fun _=>rfl⟩
 pv b k' o v h hK hp:=by
  have h1:=(hle.com b o v h (pL hK)).2;simp only[Gh.back,h1]at hp;split at hp
  ·split at hp
   ·rename_i k hk;split at hp
    ·cases hp
    ·cases hp;exact .inl ⟨_,hk,rfl⟩
   ·cases hp
  ·cases hp
 xp b o v _ _ h:= .inl h
def R.stay{G G1:Gh}{ks J:List Nat}{m:Nat}{cl:Bool}(hle:rD (G.hand ks J) G1){p:PV}{v:Value}(hR:R G p v):R (G.back G1 J m cl) (bV J p) v:=by
 unfold bV;split
 ·rename_i ht;have:=hR.ren (sw:=false) (EG (m:=m) (cl:=cl) hle) (fun _=>false) (fun s _=>rfl) (su p) ht (by simp);rwa [ren_some]at this
 ·exact .any v
def yj{J:List Nat}{p:PV}(h:np p=true):np (bV J p)=true:=by
 unfold bV;split
 ·exact h
 ·rfl
def rJ{J:List Nat}{p:PV}(h:cz p=true):cz (bV J p)=true:=by
 unfold bV;split
 ·exact h
 ·rfl
def Rs.stay{G G1:Gh}{ks J:List Nat}{m:Nat}{cl:Bool}(hle:rD (G.hand ks J) G1){cs:List PV}{vs:List Value}(hR:Rs G cs vs):Rs (G.back G1 J m cl) (cs.map (bV J)) vs:=by
 obtain⟨hl,hr,h1⟩:=hR;refine⟨by simpa using hl,fun j p u hp hu=>?_,h1⟩;rw[de,am]at hp;obtain⟨q,hq,rfl⟩:=hp;exact(hr j q u hq hu).stay hle
def CH{J:List Nat}{cs:List PV}(h:aI cs=true):aI (cs.map (bV J))=true:=
 lS fun p hp=>by
  obtain⟨q,hq,rfl⟩:=cA.1 hp;exact yj (fm h hq)
def bz.back(hI:bz P B G st w){ks:List Nat}{cs cs':List (List PV)}{ns:List Nat}{cl:Bool}(hn:ks.Nodup)(hg:dl st ks=some cs)(hlen:cs'.length=cs.length){ts:List (Nat×Nat)}(hts:yM st ts){G1:Gh}{w1:World}
  (hI1:bz P B G1 (bn ns cs') w1) (hS1:cu (G.hand ks (ts.map (·.1))) w G1 w1) (hob1:G1.ob=(G.hand ks (ts.map (·.1))).ob) (hoe1:∀ k,k<cs.length->G1.oe k=(G.hand ks (ts.map (·.1))).oe k) (hcs:∀ c∈cs',aI c=true) (hcl:cl=true->∀ c∈cs',fo c=true):
  bz P B (G.back G1 (ts.map (·.1)) ns.length cl) {st.more ns with cnt:=(fun t=>if(ts.map (·.1)).contains t then 0 else(st.more ns).cnt t),objs:=fi (ix (ts.map (·.1)) st.objs) ks (cs'.map (aZ (fun k=>some (st.nx+k)) false)),maps:=kl (ts.map (·.1)) st.maps,fl:=if cl then st.fl else st.nx} w1/\
  cu G w (G.back G1 (ts.map (·.1)) ns.length cl) w1:=by
 obtain⟨hl,hget⟩:=mA hg;generalize hJ:ts.map (·.1)=J at*;have hJn:J.Nodup:=by rw[<-hJ];exact hts.1
 have hJk:∀ {t k:Nat},J[t]? =some k->k<st.nx/\st.fl<=k:=fun h=>by
  have:=xT hts (by rw[hJ];exact h);exact⟨this.1,this.2.2.1⟩
 have hJlt:∀ {k:Nat},J.contains k=true->k<st.nx:=fun h=>by
  obtain⟨i,hi,e⟩:=em (ei.1 h);exact(hJk (by rw[<-e];exact ax hi)).1
 have hnx:=hI.nx;have hnx1:G1.nx=ns.length:=hI1.nx;have hxp:G1.xp=(G.hand ks J).xp:=hS1.le.xp;have hsz:=hS1.size;have old:∀ {t r},G.tk t=some (.room r)->r.b<w.heap.size:=by
  intro t r h;obtain⟨h1,_⟩:=hI.room t r h;obtain⟨cur,hc,_⟩:=hI.sh _ _ _ h1;exact(aP.1 hc).1
 have handT:∀ {t r},(G.hand ks J).tk t=some (.room r)->∃ k,J[t]? =some k/\G.tk k=some (.room r):=by
  intro t r h;simpa only[Gh.hand,bK]using h
 have newT:∀ {t r},G1.tk t=some (.room r)->(∃ k q,J.contains k=true/\G.tk k=some (.room q)/\q.b=r.b)\/w.heap.size<=r.b:=by
  intro t r h;rcases hS1.nearT t r h with⟨u,q,hu,hq⟩|h
  ·obtain⟨k,hk,hx⟩:=handT hu;exact .inl ⟨k,q,ei.2 (bQ hk),hx,hq⟩
  ·exact .inr h
 have comB:∀ {b o v},G1.com b o=some v->b<w.heap.size->G.com b o=some v\/∃ k q,J.contains k=true/\G.tk k=some (.room q)/\q.b=b:=by
  intro b o v h hb;rcases hS1.nearC b o v h with h|⟨t,r,hr,he⟩|h
  ·exact .inl h
  ·obtain⟨k,hk,hx⟩:=handT hr;exact .inr ⟨k,r,ei.2 (bQ hk),hx,he⟩
  ·omega
 have shB:∀ {b x},G1.sh b=some x->b<w.heap.size->G.sh b=some x:=by
  intro b x h hb;rcases hS1.nearS b x h with h|h
  ·exact h
  ·omega
 have pvB:∀ {b},b<w.heap.size->(∀ k,G.pv b=some k->J.contains k=false)->G1.pv b=none:=by
  intro b hb hK;cases h:G1.pv b with
  |none=>rfl
  |some k=>
   rcases hS1.nearP b k h with⟨k',hk'⟩|hle
   ·rw[pL hK]at hk';cases hk'
   ·omega
 have tkAt:∀ {t x},(G.back G1 J ns.length cl).tk t=some x->(t<G.nx/\J.contains t=true/\x= .full 0)\/(t<G.nx/\J.contains t=false/\G.tk t=some x)\/(G.nx<=t/\J.contains t=false/\G1.tk (t-G.nx)=some x):=by
  intro t x h;by_cases ht:t<G.nx
  ·simp only[Gh.back,ak ht]at h;cases hj:J.contains t with
   |true=>rw[hj]at h;simp at h;exact .inl ⟨ht,rfl,h.symm⟩
   |false=>rw[hj]at h;exact .inr (.inl ⟨ht,rfl,by simpa using h⟩)
  ·simp only[Gh.back,ad ht]at h;refine .inr (.inr ⟨by omega,?_,h⟩);cases hj:J.contains t with
   |false=>rfl
   |true=>have:=hJlt hj;omega
 have mu:∀ {k b},G1.ob k=some b->∃ s,ks[k]? =some s/\G.ob s=some b:=by
  intro k b h;rw[hob1]at h;simpa only[Gh.hand,bK]using h
 have keyIn:∀ {s:Nat},s∈ks->∃ i:Nat,ks[i]? =some s:=fun h=>by
  obtain⟨i,hi,e⟩:=em h;exact⟨i,by rw[<-e];exact ax hi⟩
 have hmlen:ks.length=(cs'.map (aZ (fun k=>some (st.nx+k)) false)).length:=by simp;omega
 have objAt:∀ {s c},fi (ix J st.objs) ks (cs'.map (aZ (fun k=>some (st.nx+k)) false)) s=some c->(∃ (i:Nat) (c0:List PV),ks[i]? =some s/\cs'[i]? =some c0/\c=aZ (fun k=>some (st.nx+k)) false c0)\/(s∉ks/\∃ c0,st.objs s=some c0/\c=c0.map (bV J)):=by
  intro s c h;by_cases hs:s∈ks
  ·obtain⟨i,hi⟩:=keyIn hs;rw[jS hn hi hmlen,de,am]at h;obtain⟨c0,h1,h2⟩:=h;exact .inl ⟨i,c0,hi,h1,h2.symm⟩
  ·rw[jI hs]at h;simp only[ix,am]at h;obtain⟨c0,h1,h2⟩:=h;exact .inr ⟨hs,c0,h1,h2.symm⟩
 have boxCells:∀ {s b},G.ob s=some b->∃ c e,w.heap[b]? =some (.cells c e (0,0)):=by
  intro s b h;cases hs:st.objs s with
  |none=>rw[hI.nob s hs]at h;cases h
  |some c=>
   obtain⟨b',e,vs,h1,h2,_⟩:=hI.objs s c hs;rw[h]at h1;cases h1;exact⟨_,_,h2⟩
 have roomCells:∀ {t r},G.tk t=some (.room r)->∃ c e,w.heap[r.b]? =some (.cells c e (0,0)):=by
  intro t r h;obtain⟨h1,_⟩:=hI.room t r h;obtain⟨cur,hc,_⟩:=hI.sh _ _ _ h1;exact⟨_,_,hc⟩
 have noBoxRoom:∀ {s t b r},G.ob s=some b->G.tk t=some (.room r)->r.b≠b:=by
  rintro s t b r h1 h2 rfl;have:=(hI.obs s _ h1).2.2;rw[(hI.room t r h2).1]at this;cases this
 have hkept:∀ b,b<w.heap.size->(∀ s,s∈ks->G.ob s≠some b)->(∀ t r,G.tk t=some (.room r)->r.b≠b)->w1.heap[b]? =w.heap[b]? :=by
  intro b hb ho ht;refine hS1.kept b hb (fun k h=>?_) (fun t r h=>?_) (fun s h=>by cases h)
  ·simp only[Gh.hand,bK]at h;obtain⟨s,h1,h2⟩:=h;exact ho s (bQ h1) h2
  ·obtain⟨k,_,hx⟩:=handT h;exact ht k r hx
 have hmap:∀ {b:Nat} {vs:Array MapEntry} {clk:Nat},w.heap[b]? =some (.map vs clk)->w1.heap[b]? =some (.map vs clk):=by
  intro b vs clk h;rw[hkept b (aP.1 h).1 (fun s _ hs=>?_) (fun t r hr e=>?_)]
  ·exact h
  ·obtain⟨c,e,h2⟩:=boxCells hs;rw[h]at h2;cases h2
  ·obtain⟨c,e',h2⟩:=roomCells hr;rw[e,h]at h2;cases h2
 have hbox:∀ {s b:Nat},s∉ks->G.ob s=some b->w1.heap[b]? =w.heap[b]? :=by
  intro s b hs hb;refine hkept b (hI.obs s b hb).1 (fun u hu h=>?_) (fun t r hr=>noBoxRoom hb hr);have:=hI.obj u s b h hb;subst this;exact hs hu
 refine⟨⟨hI1.com,hI1.sh,?_,?_,?_,?_,?_,?_,?_,?_,hI.obj,?_,?_,?_,fun b h=>by have:=hI.xpl b h;omega,?_,?_,?_,?_,hI.mbi,?_,fun s b h=>?_,fun t m h=>by
  rcases tkAt h with⟨ht,hj,h⟩|⟨ht,hj,h⟩|⟨ht,hj,h⟩
  ·cases h;rfl
  ·exact hI.ful t m h
  ·exact hI1.ful _ m h⟩,⟨⟨fun b o v hc hp=>?_,hS1.le.sh,rfl⟩,hsz,fun b hb ho ht hm=>hkept b hb (fun s _=>ho s) ht,fun s b h=> .inl ⟨s,h⟩,?_,?_,hS1.nearS,?_,fun s b h=> .inl ⟨s,h⟩,hS1.eff⟩⟩
 ·simp[Gh.back,St.more_nx,hnx]
 ·intro t x h;rcases tkAt h with⟨ht,hj,rfl⟩|⟨ht,hj,h⟩|⟨ht,hj,h⟩
  ·refine⟨by simp only[St.more_nx];omega,?_⟩;simp only[hj,if_true];rfl
  ·obtain⟨h1,h2⟩:=hI.cnt t x h;refine⟨by simp only[St.more_nx];omega,?_⟩;simp only[hj,St.more_old st ns h1];exact h2
  ·obtain⟨h1,h2⟩:=hI1.cnt _ x h;simp only[bn]at h1 h2;refine⟨by simp only[St.more_nx];omega,?_⟩;simp only[hj,St.more_new st ns (show st.nx<=t by omega) (by omega)];rw[<-hnx];exact h2
 ·intro t ht;simp only[St.more_nx]at ht;by_cases h:t<G.nx
  ·cases hj:J.contains t with
   |true=>exact⟨.full 0,by simp only[Gh.back,ak h,hj,if_true]⟩
   |false=>
    obtain⟨x,hx⟩:=hI.live t (by omega);exact⟨x,by simp only[Gh.back,ak h,hj];exact hx⟩
  ·obtain⟨x,hx⟩:=hI1.live (t-G.nx) (by simp only[bn];omega);exact⟨x,by simp only[Gh.back,ad h];exact hx⟩
 ·intro t r h;rcases tkAt h with⟨ht,hj,h⟩|⟨ht,hj,h⟩|⟨ht,hj,h⟩
  ·cases h
  ·obtain⟨h1,h2,h3,h4,h5,h6⟩:=hI.room t r h;refine⟨hS1.le.sh _ _ h1,h2,h3,h4,fun o ho=>?_,h6⟩;cases hc:G1.com r.b o with
   |none=>exact hc
   |some v=>
    rcases comB hc (old h)with h'|⟨k,q,hk,hq,hb⟩
    ·rw[h5 o ho]at h';cases h'
    ·have:=hI.apart t k r q h hq hb.symm;subst this;rw[hj]at hk;cases hk
  ·obtain⟨h1,h2,h3,h4,h5,h6⟩:=hI1.room _ r h;refine⟨h1,h2,h3,h4,h5,?_⟩;rw[hxp]at h6;simp only[Gh.hand,jQ]at h6;exact h6.2
 ·intro t u r q h1 h2 hb;rcases tkAt h1 with⟨ht,hj,h1⟩|⟨ht,hj,h1⟩|⟨ht,hj,h1⟩
  ·cases h1
  ·rcases tkAt h2 with⟨hu,hi,h2⟩|⟨hu,hi,h2⟩|⟨hu,hi,h2⟩
   ·cases h2
   ·exact hI.apart t u r q h1 h2 hb
   ·rcases newT h2 with⟨k,q',hk,hq',hb'⟩|hge
    ·have:=hI.apart t k r q' h1 hq' (by rw[hb,hb']);subst this;rw[hj]at hk;cases hk
    ·have:=old h1;omega
  ·rcases tkAt h2 with⟨hu,hi,h2⟩|⟨hu,hi,h2⟩|⟨hu,hi,h2⟩
   ·cases h2
   ·rcases newT h1 with⟨k,q',hk,hq',hb'⟩|hge
    ·have:=hI.apart u k q q' h2 hq' (by rw[<-hb,hb']);subst this;rw[hi]at hk;cases hk
    ·have:=old h2;omega
   ·have:=hI1.apart _ _ r q h1 h2 hb;omega
 ·intro t r h;rcases tkAt h with⟨ht,hj,h⟩|⟨ht,hj,h⟩|⟨ht,hj,h⟩
  ·cases h
  ·have hp:=hI.priv t r h;have hpb:G1.pv r.b=none:=pvB (old h) fun k hk=>by rw[hp.2 k hk];exact hj
   simp only[Gh.back,hpb];cases cl with
   |true=>
    simp only[if_true];refine⟨fun hf=>?_,fun j hjj=>?_⟩
    ·simp[hp.1 hf,show t∉J by simpa using hj]
    ·split at hjj
     ·rename_i k hk;split at hjj
      ·cases hjj
      ·cases hjj;exact hp.2 _ hk
     ·cases hjj
   |false=>simp;omega
  ·have hp:=hI1.priv _ r h;have h1:=hp.1 (by simp[bn]);simp only[Gh.back,h1];refine⟨fun _=>by simp;omega,fun j hj=>by simp at hj;omega⟩
 ·intro s c h;rcases objAt h with⟨i,c0,hi,hc,rfl⟩|⟨hs,c0,hc,rfl⟩
  ·obtain⟨b,e,vs,hb,hh,hR⟩:=hI1.objs i c0 hc;obtain⟨s',h1,h2⟩:=mu hb;rw[hi]at h1;cases h1;have hm:=bQ hc;have:=hR.ren (sw:=false) (EK (m:=ns.length) (cl:=cl) hxp hnx1) (hcs c0 hm) (j9 c0) (fun hx=>hcl hx c0 hm);rw[hnx]at this;exact⟨b,e,vs,h2,hh,this⟩
  ·obtain⟨b,e,vs,hb,hh,hR⟩:=hI.objs s c0 hc;exact⟨b,e,vs,hb,by rw[hbox hs hb];exact hh,hR.stay hS1.le⟩
 ·intro s b h;obtain⟨h1,h2,h3⟩:=hI.obs s b h;refine⟨by omega,fun o=>?_,?_⟩
  ·cases hc:G1.com b o with
   |none=>exact hc
   |some v=>
    rcases comB hc h1 with h'|⟨k,q,hk,hq,hb⟩
    ·rw[h2 o]at h';cases h'
    ·exact absurd hb (noBoxRoom h hq)
  ·cases hc:G1.sh b with
   |none=>exact hc
   |some x=>have:=shB hc h1;rw[h3]at this;cases this
 ·intro s h;by_cases hs:s∈ks
  ·obtain⟨i,hi⟩:=keyIn hs;have h':fi (ix J st.objs) ks (cs'.map (aZ (fun k=>some (st.nx+k)) false)) s=none:=h;rw[jS hn hi hmlen]at h';have:=m4.1 h';have:=(br.1 hi).1;omega
  ·have h':fi (ix J st.objs) ks (cs'.map (aZ (fun k=>some (st.nx+k)) false)) s=none:=h;rw[jI hs]at h';simp only[ix,eZ]at h';exact hI.nob s h'
 ·intro s c h;rcases objAt h with⟨i,c0,hi,hc,rfl⟩|⟨hs,c0,hc,rfl⟩
  ·exact qz (hcs c0 (bQ hc))
  ·exact CH (hI.npo s c0 hc)
 ·intro b k h;simp only[Gh.back]at h;split at h
  ·rename_i k' hk';exact hI1.pvl b k' hk'
  ·split at h
   ·split at h
    ·rename_i k' hk';have:=hI.pvl b k' hk';omega
    ·cases h
   ·cases h
 ·intro b o v h;obtain⟨h1,h2,h4⟩:=hI1.base b o v h;have h3:=(hI.base b o v h).2.1;exact⟨h1,by simp[Gh.back,h2,h3],h4⟩
 ·intro s b e sz h1 h2;by_cases hs:s∈ks
  ·obtain⟨i,hi⟩:=keyIn hs;exact hI1.oes i b e sz (by rw[hob1];simp only[Gh.hand,hi,dP];exact h1) (by rw[hoe1 i (by have:=(br.1 hi).1;omega)];simp only[Gh.hand,hi,dP];exact h2)
  ·obtain⟨h3,cur,h4⟩:=hI.oes s b e sz h1 h2;exact⟨h3,cur,by rw[hbox hs h1];exact h4⟩
 ·intro s es h;simp only[kl,am]at h;obtain⟨es0,h0,rfl⟩:=h;obtain⟨b,vs,clk,h1,h2,h3,h4⟩:=hI.mobj s es0 h0;refine⟨b,vs,clk,h1,hmap h2,⟨by simpa using h3.1,fun i q x hq hx=>?_⟩,fun q hq=>?_⟩
  ·rw[de,am]at hq;obtain⟨q0,hq0,rfl⟩:=hq;obtain⟨h5,h6⟩:=h3.2 i q0 x hq0 hx;exact⟨h5,h6.stay hS1.le⟩
  ·obtain⟨q0,hq0,rfl⟩:=cA.1 hq;exact yj (h4 q0 hq0)
 ·intro s b h;obtain⟨vs,clk,h2⟩:=hI.mbs s b h;exact⟨vs,clk,hmap h2⟩
 ·intro s h;simp only[kl,eZ]at h;exact hI.nomb s h
 ·obtain⟨h1,h2⟩:=hI.obx s b h;have h3:=pvB (hI.obs s b h).1 (fun k hk=>by rw[h1]at hk;cases hk);exact⟨by simp[Gh.back,h3,h1],h2⟩
 ·have h1:=hS1.le.com b o v hc (pL fun k hk=>by rw[hp]at hk;cases hk);exact⟨h1.1,by simp[Gh.back,h1.2,hp]⟩
 ·intro t r h;rcases tkAt h with⟨ht,hj,h⟩|⟨ht,hj,h⟩|⟨ht,hj,h⟩
  ·cases h
  ·exact .inl ⟨t,r,h,rfl⟩
  ·rcases newT h with⟨k,q,_,hq,hb⟩|hge
   ·exact .inl ⟨k,q,hq,hb⟩
   ·exact .inr hge
 ·intro b o v h;rcases hS1.nearC b o v h with h|⟨t,r,hr,he⟩|h
  ·exact .inl h
  ·obtain⟨k,_,hx⟩:=handT hr;exact .inr (.inl ⟨k,r,hx,he⟩)
  ·exact .inr (.inr h)
 ·intro b k h;simp only[Gh.back]at h;split at h
  ·rename_i k' hk';rcases hS1.nearP b k' hk' with⟨j,hj⟩|hge
   ·simp only[Gh.hand,bK]at hj;obtain⟨k2,hk2,_⟩:=hj;exact .inl ⟨k2,hk2⟩
   ·exact .inr hge
  ·split at h
   ·split at h
    ·rename_i k' hk';exact .inl ⟨k',hk'⟩
    ·cases h
   ·cases h
def ww{cf:aA}(hcf:ja P B cf)(hI:bz P B G st w){f:Nat}{as as':List PV}{vs:List Value}(hl:as.length=vs.length)(hR:∀ (j:Nat) p v,as[j]? =some p->vs[j]? =some v->R G p v/\cz p=true)
  {ks:List Nat} (hks:cX as=some ks) {cs ds:List (List PV)} (hcs:dl st ks=some cs) {ts:List (Nat×Nat)} (hts:yM st ts) (hds:ds.length=cs.length) (hbx:FJ (ts.map (·.1)) cs ds) (hl':as'.length=as.length)
  (has:∀ (j:Nat) q,as'[j]? =some q->(∃ t s,ks[t]? =some s/\as[j]? =some (.ptr s 0)/\q= .ptr t 0)\/∃ p,as[j]? =some p/\np p=true/\(q=ren (aT (ts.map (·.1))) false p\/(q=aC p/\tf ((ts.map (·.1)).contains ·) p=true)))
  {r:PV} {ns:List Nat} {cs':List (List PV)} (hcall:cf f as' (ts.map (·.2)) ds=some (r,ns,cs')) (hlen:cs'.length=cs.length):
  lj P (rA f)/\np r=true/\Calls P (rA f) vs.toArray w fun e w'=>∃ v G',pW f vs v e/\R G' (ren (fun k=>some (st.nx+k)) false r) v/\
   bz P B G' {st.more ns with cnt:=(fun t=>if(ts.map (·.1)).contains t then 0 else(st.more ns).cnt t),objs:=fi (ix (ts.map (·.1)) st.objs) ks (cs'.map (aZ (fun k=>some (st.nx+k)) false)),maps:=kl (ts.map (·.1)) st.maps,fl:=if ft r && cs'.all fo then st.fl else st.nx} w'/\
   cu G w G' w'/\Rn some ((ts.map (·.1)).contains ·) false G G'/\G'.bx=G.bx/\∀ s b,G.ob s=some b->s∉ks->w'.heap[b]? =w.heap[b]? :=by
 obtain⟨hE,_,hnp,hcs',hC⟩:=hcf f _ _ _ r ns cs' hcall;have hnd:=lV hks;refine⟨hE,hnp,?_⟩;refine(hC (G.hand ks (ts.map (·.1))) w vs (hI.hand hnd hcs hts hds hbx) (by rw[hl'];exact hl) (fun j q v hq hv=>?_)).mono ?_
 ·rcases has j q hq with⟨t,s,h1,h2,rfl⟩|⟨p,h1,h2,h3⟩
  ·have:=(hR j _ v h2 hv).1;cases this with
   |ptr _ _ b hb=>exact⟨.ptr _ _ b (by simp[Gh.hand,h1,hb]),rfl⟩
  ·rcases h3 with rfl|⟨rfl,h3⟩
   ·refine⟨(hR j p v h1 hv).1.ren (EJ G ks _) (fun _=>true) (fun s hs=>by cases hs) h2 (mP p) (by simp),fy ?_⟩;simp only[np,gn];exact h2
   ·refine⟨(hR j p v h1 hv).1.ren (Cr G ks _) (fun _=>true) (fun s hs=>by cases hs) h2 h3 (by simp),fy ?_⟩;simp only[np,aC,gn];exact h2
 ·rintro e w1 ⟨v,G1,hret,hR1,hI1,hS1,hob1,hoe1⟩;generalize hclD:(ft r && cs'.all fo)=cl;have hcl1:cl=true->ft r=true/\∀ c∈cs',fo c=true:=by
   intro hc;rw[hc]at hclD;simp only[ae,bX]at hclD;exact hclD
  obtain⟨hI2,hS2⟩:=hI.back hnd hcs hlen hts hI1 hS1 hob1 (fun k hk=>hoe1 k (by omega)) hcs' (fun hc=>(hcl1 hc).2);refine⟨v,G.back G1 (ts.map (·.1)) ns.length cl,hret,?_,hI2,hS2,EG hS1.le,rfl,fun s b hb hs=>?_⟩;rotate_left
  ·refine hS1.kept b (hI.obs s b hb).1 (fun u hu=>?_) (fun t r hr e=>?_) (fun u hu=>?_)
   ·obtain⟨k,hk,hx⟩:∃ k,ks[u]? =some k/\G.ob k=some b:=by simpa only[Gh.hand,bK]using hu
    exact hs (hI.obj s k b hb hx▸bQ hk)
   ·obtain⟨k,hk,hx⟩:∃ k,(ts.map (·.1))[t]? =some k/\G.tk k=some (.room r):=by simpa only[Gh.hand,bK]using hr
    have h1:=(hI.obs s b hb).2.2;rw[<-e,(hI.room k r hx).1]at h1;cases h1
   ·cases hu
  rw[<-hI.nx];exact hR1.ren (EK hS1.le.xp hI1.nx) (fun _=>true) (fun s hs=>by cases hs) hnp (mP r) (fun hc=>(hcl1 hc).1)
mutual
theorem xU(n:Nat):∀ (p:PV),tf (fun k=>decide (k<n)) (ren (fun k=>some (n+k)) false p)=true
 | .list m cs t=>by
  rw[gK];have h:=oW n cs;cases t<;>simp[tf,aB.ren,aB.free,aB.of,h]
 | .iptr cs o t=>by
  rw[si];have h:=oW n cs;cases t<;>simp[tf,aB.ren,aB.free,aB.of,h]
 | .agg cs=>by simp[ren,tf,oW n cs]
 | .tup cs=>by simp[ren,tf,oW n cs]
 | .fn g cs=>by simp[ren,tf,oW n cs]
 | .ptr _ _=>rfl
 | .osl _ _ _ _=>rfl
 | .mp _=>rfl
 | .any=>rfl
 | .hole=>rfl
 | .int _ _=>rfl
 | .bool _=>rfl
 | .str _=>rfl
 | .nilp=>rfl
 | .nili=>rfl
 | .err=>rfl
theorem oW(n:Nat):∀ (ps:List PV),dw (fun k=>decide (k<n)) (aZ (fun k=>some (n+k)) false ps)=true
 | []=>rfl
 |p::ps=>by simp[aZ,dw,xU n p,oW n ps]
end
def Gh.mask(G:Gh)(ks:List Nat):Gh where
 com b o:=match G.pv b with
  |some _=>none
  |none=>G.com b o
 sh:=G.sh
 tk t:=match G.tk t with
  |some (.room r)=>if G.pv r.b=some t then some (.full 0)else some (.room r)
  |x=>x
 ob s:=if ks.contains s then G.ob s else none
 nx:=G.nx
 pv _:=none
 xp:=G.xp
 oe s:=if ks.contains s then G.oe s else none
 mb _:=none
def jF(G:Gh)(ks:List Nat)(st:St):St where
 nx:=st.nx
 cnt t:=match (G.mask ks).tk t with
  |some x=>x.cnt
  |none=>0
 fl:=st.nx
 objs s:=if ks.contains s then st.objs s else none
 maps _:=none
def k7{ks:List Nat}{t:Nat}{r:oR}(h:(G.mask ks).tk t=some (.room r)):G.tk t=some (.room r)/\G.pv r.b≠some t:=by
 simp only[Gh.mask]at h;split at h
 ·rename_i r' hr;split at h
  ·cases h
  ·rename_i hp;cases h;exact⟨hr,hp⟩
 ·rename_i h0;exact absurd h (h0 r)
def uL{ks:List Nat}{b o:Nat}{v:Value}(h:(G.mask ks).com b o=some v):G.com b o=some v/\G.pv b=none:=by
 simp only[Gh.mask]at h;split at h
 ·cases h
 ·rename_i hp;exact⟨h,hp⟩
def og{ks:List Nat}{b o:Nat}{v:Value}(h:G.com b o=some v)(hp:G.pv b=none):(G.mask ks).com b o=some v:=by
 simp only[Gh.mask,hp];exact h
def EI(ks:List Nat):Rn some (fun _=>true) false G (G.mask ks) where
 com b o v h hK:=og h (by cases hp:G.pv b with|none=>rfl|some k=>cases hK k hp)
 sh b x h:=h
 tk k k' _ h:=by cases h
 pv b k' o v _ _ h:=by cases h
 xp b o v _ _ h:= .inl h
def bz.mask(hI:bz P B G st w){ks:List Nat}(hf:∀ s c,s∈ks->st.objs s=some c->dw (fun _=>true) c=true):bz P B (G.mask ks) (jF G ks st) w:=by
 have hin:∀ {s b},(G.mask ks).ob s=some b->s∈ks/\G.ob s=some b:=by
  intro s b h;simp only[Gh.mask]at h;split at h
  ·rename_i hs;exact⟨by simpa using hs,h⟩
  ·cases h
 have hmo:∀ {b o},G.com b o=none->(G.mask ks).com b o=none:=by
  intro b o h;simp only[Gh.mask];split
  ·rfl
  ·exact h
 have hlt:∀ {t x},(G.mask ks).tk t=some x->t<st.nx:=by
  intro t x h;simp only[Gh.mask]at h;split at h
  ·rename_i r hr;exact(hI.cnt t _ hr).1
  ·exact(hI.cnt t x h).1
 refine⟨fun b o v h=>hI.com b o v (uL h).1,hI.sh,hI.nx,fun t x h=>⟨hlt h,?_⟩,fun t ht=>?_,fun t r h=>?_,fun t u r q h1 h2 hb=>hI.apart t u r q (k7 h1).1 (k7 h2).1 hb,fun t r h=>⟨fun hf=>?_,fun j hj=>(by cases hj)⟩,fun s c h=>?_,fun s b h=>?_,fun s u b h1 h2=>hI.obj s u b (hin h1).2 (hin h2).2,fun s h=>?_,fun s c h=>?_,fun b k h=>(by cases h),hI.xpl,fun b o v h=>?_,fun s b e sz h1 h2=>?_,fun s es h=>(by cases h),fun s b h=>(by cases h),fun s u b h=>(by cases h),fun s h=>rfl,fun s b h=>⟨rfl,(hI.obx s b (hin h).2).2⟩,fun t m h=>?_⟩
 ·simp only[jF,h]
 ·obtain⟨x,hx⟩:=hI.live t ht;simp only[Gh.mask,hx];split
  ·split<;>exact⟨_,rfl⟩
  ·exact⟨_,rfl⟩
 ·obtain⟨h1,h2,h3,h4,h5,h6⟩:=hI.room t r (k7 h).1;exact⟨h1,h2,h3,h4,fun o ho=>hmo (h5 o ho),h6⟩
 ·have:=(hI.cnt t _ (k7 h).1).1;have hf:st.nx<=t:=hf;omega
 ·simp only[jF]at h;split at h
  ·rename_i hs;obtain⟨b,e,vs,h1,h2,h3⟩:=hI.objs s c h;refine⟨b,e,vs,by simp only[Gh.mask,hs,if_true];exact h1,h2,h3.1,fun j p u hp hu=>?_,h3.2.2⟩;have:=(h3.2.1 j p u hp hu).ren (sw:=false) (EI ks) (fun _=>true) (fun s hs=>by cases hs) (ju (hI.npo s c h) hp) (kK (hf s c (by simpa using hs) h) hp) (by simp);rwa [ren_some]at this
  ·cases h
 ·obtain⟨h1,h2,h3⟩:=hI.obs s b (hin h).2;exact⟨h1,fun o=>hmo (h2 o),h3⟩
 ·simp only[jF]at h;simp only[Gh.mask];split
  ·rename_i hs;rw[ak hs]at h;exact hI.nob s h
  ·rfl
 ·simp only[jF]at h;split at h
  ·exact hI.npo s c h
  ·cases h
 ·obtain⟨h1,h2,h3⟩:=hI.base b o v h;exact⟨og h1 h2,rfl,h3⟩
 ·obtain⟨hs,h3⟩:=hin h1;simp only[Gh.mask,show ks.contains s=true by simpa using hs,if_true]at h2;exact hI.oes s b e sz h3 h2
 ·simp only[Gh.mask]at h;split at h
  ·split at h
   ·cases h;rfl
   ·cases h
  ·exact hI.ful t m h
def Gh.unmask(G G1:Gh):Gh where
 com b o:=match G.pv b with
  |some _=>G.com b o
  |none=>G1.com b o
 sh:=G1.sh
 tk t:=if t<G.nx then G.tk t else G1.tk t
 ob:=G.ob
 nx:=G1.nx
 pv b:=match G.pv b with
  |some k=>some k
  |none=>G1.pv b
 xp:=G.xp
 oe:=G.oe
 mb:=G.mb
def bz.unmask(hI:bz P B G st w){ks:List Nat}{cs cs':List (List PV)}{ns:List Nat}(hn:ks.Nodup)(hg:dl st ks=some cs)(hlen:cs'.length=cs.length)(hcs:∀ c∈cs',aI c=true){G1:Gh}{w1:World}
  (hI1:bz P B G1 {(jF G ks st).more ns with objs:=fi (jF G ks st).objs ks (cs'.map (aZ (fun k=>some (st.nx+k)) false)),maps:=fun _=>none,fl:=st.nx} w1)
  (hS1:cu (G.mask ks) w G1 w1) (hrn1:Rn some (fun _=>false) false (G.mask ks) G1) (hbx:G1.bx=(G.mask ks).bx):
  bz P B (G.unmask G1) {st.more ns with objs:=fi st.objs ks (cs'.map (aZ (fun k=>some (st.nx+k)) false)),fl:=st.fl} w1/\cu G w (G.unmask G1) w1/\Rn some (fun _=>false) false G (G.unmask G1)/\
  Rn some (fun k=>decide (k<st.nx)) false G1 (G.unmask G1):=by
 obtain⟨hl,hget⟩:=mA hg;have hnx:=hI.nx;have hnx1:G1.nx=st.nx+ns.length:=by rw[hI1.nx];simp only[St.more_nx];rfl
 have hsz:=hS1.size;have hobm:∀ {s b},(G.mask ks).ob s=some b->s∈ks/\G.ob s=some b:=by
  intro s b h;simp only[Gh.mask]at h;split at h
  ·rename_i hs;exact⟨by simpa using hs,h⟩
  ·cases h
 have hob1:∀ {s b},G1.ob s=some b->s∈ks/\G.ob s=some b:=fun{s b} h=>by
  have:=congrFun hbx s;rw[lL this]at h;exact hobm h
 have old:∀ {t r},G.tk t=some (.room r)->r.b<w.heap.size:=by
  intro t r h;obtain⟨h1,_⟩:=hI.room t r h;obtain⟨cur,hc,_⟩:=hI.sh _ _ _ h1;exact(aP.1 hc).1
 have hcnt1:∀ {t x},G1.tk t=some x->t<st.nx->(jF G ks st).cnt t=x.cnt:=fun{t x} h ht=>by
  have:=(hI1.cnt t x h).2;simp only at this;rwa [St.more_old _ _ (show t<(jF G ks st).nx from ht)]at this
 have tkOld:∀ {t x},t<st.nx->(G.mask ks).tk t=some x->G1.tk t=some x:=by
  intro t x ht hx;obtain⟨x',hx'⟩:=hI1.live t (by simp only[St.more_nx];show t<st.nx+_;omega);obtain⟨_,h2⟩:=hrn1.tk t t rfl rfl (by show t<G.nx;omega);obtain⟨y,hy,hle,heq⟩:=h2 x' hx';rw[hx]at hy;cases hy;have:=hcnt1 hx' ht;simp only[jF,hx]at this;rw[heq this];exact hx'
 have roomNP:∀ {t r},G.tk t=some (.room r)->G.pv r.b≠some t->(G.mask ks).tk t=some (.room r):=by
  intro t r h hp;simp only[Gh.mask,h,ad hp]
 have com1:∀ {b o v},G1.com b o=some v->G.pv b=none:=by
  intro b o v h;cases hp:G.pv b with
  |none=>rfl
  |some k=>
   have hb:=hI.pvl b k hp;rcases hS1.nearC b o v h with h1|⟨t,r,hr,he⟩|h1
   ·rw[(uL h1).2]at hp;cases hp
   ·obtain⟨h2,h3⟩:=k7 hr;have:=(hI.priv t r h2).2 k (by rw[he];exact hp);subst this;rw[he]at h3;exact absurd hp h3
   ·omega
 have noBoxRoom:∀ {s t b r},G.ob s=some b->G.tk t=some (.room r)->r.b≠b:=by
  rintro s t b r h1 h2 rfl;have:=(hI.obs s _ h1).2.2;rw[(hI.room t r h2).1]at this;cases this
 have hkept:∀ b,b<w.heap.size->(∀ s,s∈ks->G.ob s≠some b)->(∀ t r,G.tk t=some (.room r)->G.pv r.b≠some t->r.b≠b)->w1.heap[b]? =w.heap[b]? :=by
  intro b hb ho ht;refine hS1.kept b hb (fun k h=>?_) (fun t r h=>?_) (fun s h=>by cases h)
  ·obtain⟨h1,h2⟩:=hobm h;exact ho k h1 h2
  ·obtain⟨h1,h2⟩:=k7 h;exact ht t r h1 h2
 have hkeptP:∀ {b k},G.pv b=some k->w1.heap[b]? =w.heap[b]? :=by
  intro b k hp;refine hkept b (hI.pvl b k hp) (fun s _ h=>?_) (fun t r h1 h2 he=>?_)
  ·rw[(hI.obx s b h).1]at hp;cases hp
  ·subst he;have:=(hI.priv t r h1).2 k hp;subst this;exact h2 hp
 have boxCells:∀ {s b},G.ob s=some b->∃ c e,w.heap[b]? =some (.cells c e (0,0)):=by
  intro s b h;cases hs:st.objs s with
  |none=>rw[hI.nob s hs]at h;cases h
  |some c=>
   obtain⟨b',e,vs,h1,h2,_⟩:=hI.objs s c hs;rw[h]at h1;cases h1;exact⟨_,_,h2⟩
 have roomCells:∀ {t r},G.tk t=some (.room r)->∃ c e,w.heap[r.b]? =some (.cells c e (0,0)):=by
  intro t r h;obtain⟨h1,_⟩:=hI.room t r h;obtain⟨cur,hc,_⟩:=hI.sh _ _ _ h1;exact⟨_,_,hc⟩
 have hmap:∀ {b:Nat} {vs:Array MapEntry} {clk:Nat},w.heap[b]? =some (.map vs clk)->w1.heap[b]? =some (.map vs clk):=by
  intro b vs clk h;rw[hkept b (aP.1 h).1 (fun s _ hs=>?_) (fun t r hr _ e=>?_)]
  ·exact h
  ·obtain⟨c,e,h2⟩:=boxCells hs;rw[h]at h2;cases h2
  ·obtain⟨c,e',h2⟩:=roomCells hr;rw[e,h]at h2;cases h2
 have hbox:∀ {s b:Nat},s∉ks->G.ob s=some b->w1.heap[b]? =w.heap[b]? :=by
  intro s b hs hb;refine hkept b (hI.obs s b hb).1 (fun u hu h=>?_) (fun t r hr _=>noBoxRoom hb hr);have:=hI.obj u s b h hb;subst this;exact hs hu
 have newB:∀ {t r},st.nx<=t->G1.tk t=some (.room r)->w.heap.size<=r.b:=by
  intro t r ht h;rcases hS1.nearT t r h with⟨u,q,hu,hb⟩|h
  ·have hul:u<st.nx:=(hI.cnt u _ (k7 hu).1).1;have:=hI1.apart t u r q h (tkOld hul hu) hb.symm;omega
  ·exact h
 have pvOf:∀ {b},w.heap.size<=b->G.pv b=none:=by
  intro b hb;cases hp:G.pv b with
  |none=>rfl
  |some k=>have:=hI.pvl b k hp;omega
 have pv1:∀ {b},b<w.heap.size->G1.pv b=none:=by
  intro b hb;cases hp:G1.pv b with
  |none=>rfl
  |some k=>
   rcases hS1.nearP b k hp with⟨k',h⟩|h
   ·cases h
   ·omega
 have rnG:Rn some (fun _=>false) false G (G.unmask G1):=by
  refine⟨fun b o v h _=>?_,fun b x h=>hS1.le.sh b x h,fun k k' h _ hlt=>?_,fun b k' o v h _ hp=>?_,fun b o v _ _ h=> .inl h⟩
  ·simp only[Gh.unmask];split
   ·exact h
   ·rename_i hp;exact(hS1.le.com b o v (og h hp) rfl).1
  ·cases h;refine⟨by simp only[Gh.unmask];omega,fun x' hx'=>⟨x',?_,aE _,fun _=>rfl⟩⟩;simp only[Gh.unmask,ak hlt]at hx';exact hx'
  ·simp only[Gh.unmask]at hp;split at hp
   ·rename_i k hk;cases hp;exact .inl ⟨_,hk,rfl⟩
   ·rename_i hk;rw[(hS1.le.com b o v (og h hk) rfl).2]at hp;cases hp
 have rn1:Rn some (fun k=>decide (k<st.nx)) false G1 (G.unmask G1):=by
  refine⟨fun b o v h _=>?_,fun b x h=>h,fun k k' h hK hlt=>?_,fun b k' o v h _ hp=>?_,fun b o v _ _ h=> .inl (by rw[hS1.le.xp];exact h)⟩
  ·simp only[Gh.unmask,com1 h];exact h
  ·cases h;have hge:st.nx<=k:=by simpa using hK
   refine⟨hlt,fun x' hx'=>⟨x',?_,aE _,fun _=>rfl⟩⟩;simp only[Gh.unmask]at hx';rwa [ad (by omega)]at hx'
  ·simp only[Gh.unmask,com1 h]at hp;exact .inl ⟨k',hp,rfl⟩
 have stay:∀ {p:PV} {v:Value},np p=true->R G p v->R (G.unmask G1) p v:=by
  intro p v hp hR;have:=hR.ren (sw:=false) rnG (fun _=>false) (fun s _=>rfl) (su p) (mP p) (by simp);rwa [ren_some]at this
 have hmlen:ks.length=(cs'.map (aZ (fun k=>some (st.nx+k)) false)).length:=by simp;omega
 have keyIn:∀ {s:Nat},s∈ks->∃ i:Nat,ks[i]? =some s:=fun h=>by
  obtain⟨i,hi,e⟩:=em h;exact⟨i,by rw[<-e];exact ax hi⟩
 have objSame:∀ {s},s∈ks->fi st.objs ks (cs'.map (aZ (fun k=>some (st.nx+k)) false)) s=fi (jF G ks st).objs ks (cs'.map (aZ (fun k=>some (st.nx+k)) false)) s:=by
  intro s hs;obtain⟨i,hi⟩:=keyIn hs;rw[jS hn hi hmlen,jS hn hi hmlen]
 have comNone:∀ {s b},G.ob s=some b->∀ o,G1.com b o=none:=by
  intro s b hb o;cases hc:G1.com b o with
  |none=>rfl
  |some v=>
   obtain⟨h1,h2,_⟩:=hI.obs s b hb;rcases hS1.nearC b o v hc with h3|⟨t,r,hr,he⟩|h3
   ·exact absurd (uL h3).1 (by rw[h2 o];simp)
   ·exact absurd he (noBoxRoom hb (k7 hr).1)
   ·omega
 refine⟨⟨fun b o v h=>?_,hI1.sh,by simp only[Gh.unmask,St.more_nx];exact hnx1,fun t x h=>?_,fun t ht=>?_,fun t r h=>?_,fun t u r q h1 h2 hb=>?_,fun t r h=>?_,fun s c h=>?_,fun s b h=>?_,hI.obj,fun s h=>?_,fun s c h=>?_,fun b k h=>?_,fun b h=>by have:=hI.xpl b h;omega,fun b o v h=>?_,fun s b e sz h1 h2=>?_,fun s es h=>?_,fun s b h=>?_,hI.mbi,fun s h=>?_,fun s b h=>?_,fun t m h=>?_⟩,
  ⟨⟨fun b o v hc hp=>?_,hS1.le.sh,rfl⟩,hsz,fun b hb ho ht hm=>hkept b hb (fun s _=>ho s) (fun t r h _=>ht t r h),fun s b h=> .inl ⟨s,h⟩,fun t r h=>?_,fun b o v h=>?_,fun b x h=>hS1.nearS b x h,fun b k h=>?_,fun s b h=> .inl ⟨s,h⟩,hS1.eff⟩,rnG,rn1⟩
 ·simp only[Gh.unmask]at h;split at h
  ·rename_i k hk;have:=hI.com b o v h;simp only[World.cell?]at this ⊢;rw[hkeptP hk];exact this
  ·exact hI1.com b o v h
 ·simp only[Gh.unmask]at h;split at h
  ·obtain⟨h1,h2⟩:=hI.cnt t x h;exact⟨by simp only[St.more_nx];omega,by rw[St.more_old st ns h1];exact h2⟩
  ·rename_i hlt;obtain⟨h1,h2⟩:=hI1.cnt t x h;simp only[St.more_nx]at h1;have h1:t<st.nx+ns.length:=h1;refine⟨by simp only[St.more_nx];omega,?_⟩;rw[St.more_new st ns (by omega) h1];rw[St.more_new (jF G ks st) ns (show st.nx<=t by omega) h1]at h2;exact h2
 ·simp only[St.more_nx]at ht;by_cases h:t<G.nx
  ·obtain⟨x,hx⟩:=hI.live t (by omega);exact⟨x,by simp only[Gh.unmask,ak h];exact hx⟩
  ·obtain⟨x,hx⟩:=hI1.live t (by simp only[St.more_nx];exact ht);exact⟨x,by simp only[Gh.unmask,ad h];exact hx⟩
 ·simp only[Gh.unmask]at h;split at h
  ·obtain⟨h1,h2,h3,h4,h5,h6⟩:=hI.room t r h;refine⟨hS1.le.sh _ _ h1,h2,h3,h4,fun o ho=>?_,h6⟩;simp only[Gh.unmask];split
   ·exact h5 o ho
   ·rename_i hp;have:=tkOld (hI.cnt t _ h).1 (roomNP h (by rw[hp];simp));exact(hI1.room t r this).2.2.2.2.1 o ho
  ·rename_i hlt;obtain⟨h1,h2,h3,h4,h5,h6⟩:=hI1.room t r h;refine⟨h1,h2,h3,h4,fun o ho=>?_,by rw[<-h6,hS1.le.xp];rfl⟩;simp only[Gh.unmask,pvOf (newB (by omega) h)];exact h5 o ho
 ·simp only[Gh.unmask]at h1 h2;split at h1<;>split at h2
  ·exact hI.apart t u r q h1 h2 hb
  ·have a:=old h1;have b:=newB (by omega) h2;omega
  ·have a:=old h2;have b:=newB (by omega) h1;omega
  ·exact hI1.apart t u r q h1 h2 hb
 ·simp only[Gh.unmask]at h;split at h
  ·have hp:=hI.priv t r h;refine⟨fun hf=>by simp only[Gh.unmask,hp.1 hf],fun j hj=>?_⟩;simp only[Gh.unmask]at hj;split at hj
   ·rename_i k hk;cases hj;exact hp.2 _ hk
   ·rw[pv1 (old h)]at hj;cases hj
  ·rename_i hlt;have hp:=hI1.priv t r h;have hn:=pvOf (newB (by omega) h);refine⟨fun _=>by simp only[Gh.unmask,hn];exact hp.1 (by show st.nx<=t;omega),fun j hj=>?_⟩;simp only[Gh.unmask,hn]at hj;exact hp.2 j hj
 ·by_cases hs:s∈ks
  ·have h':fi st.objs ks (cs'.map (aZ (fun k=>some (st.nx+k)) false)) s=some c:=h;have h2:=h';rw[objSame hs]at h';obtain⟨b,e,vs,hb,hh,hR⟩:=hI1.objs s c h';obtain⟨i,hi⟩:=keyIn hs;rw[jS hn hi hmlen,de,am]at h2;obtain⟨c0,hc0,rfl⟩:=h2;refine⟨b,e,vs,(hob1 hb).2,hh,hR.1,fun j p u hp hu=>?_,hR.2.2⟩;have hq:=hp;rw[uB,am]at hq;obtain⟨q,hq,rfl⟩:=hq;have:=(hR.2.1 j _ u hp hu).ren (sw:=false) rn1 (fun _=>true) (fun s hs=>by cases hs) (by simp only[gn];exact ju (hcs c0 (bQ hc0)) hq) (xU st.nx q) (by simp);rwa [ren_some]at this
  ·have h':fi st.objs ks (cs'.map (aZ (fun k=>some (st.nx+k)) false)) s=some c:=h;rw[jI hs]at h';obtain⟨b,e,vs,hb,hh,hR⟩:=hI.objs s c h';exact⟨b,e,vs,hb,by rw[hbox hs hb];exact hh,hR.1,fun j p u hp hu=>stay (ju (hI.npo s c h') hp) (hR.2.1 j p u hp hu),hR.2.2⟩
 ·obtain⟨h1,h2,h3⟩:=hI.obs s b h;refine⟨by omega,fun o=>?_,?_⟩
  ·simp only[Gh.unmask,(hI.obx s b h).1];exact comNone h o
  ·cases hc:G1.sh b with
   |none=>exact hc
   |some x=>
    rcases hS1.nearS b x hc with h4|h4
    ·have h4:G.sh b=some x:=h4;rw[h3]at h4;cases h4
    ·omega
 ·by_cases hs:s∈ks
  ·obtain⟨i,hi⟩:=keyIn hs;have h':fi st.objs ks (cs'.map (aZ (fun k=>some (st.nx+k)) false)) s=none:=h;rw[jS hn hi hmlen]at h';have:=m4.1 h';have:=(br.1 hi).1;omega
  ·have h':fi st.objs ks (cs'.map (aZ (fun k=>some (st.nx+k)) false)) s=none:=h;rw[jI hs]at h';exact hI.nob s h'
 ·by_cases hs:s∈ks
  ·obtain⟨i,hi⟩:=keyIn hs;have h':fi st.objs ks (cs'.map (aZ (fun k=>some (st.nx+k)) false)) s=some c:=h;rw[jS hn hi hmlen,de,am]at h';obtain⟨c0,h1,rfl⟩:=h';exact qz (hcs c0 (bQ h1))
  ·have h':fi st.objs ks (cs'.map (aZ (fun k=>some (st.nx+k)) false)) s=some c:=h;rw[jI hs]at h';exact hI.npo s c h'
 ·simp only[Gh.unmask]at h;split at h
  ·rename_i k' hk;have:=hI.pvl b k' hk;omega
  ·exact hI1.pvl b k h
 ·obtain⟨h1,h2,h4⟩:=hI1.base b o v h;have h3:=(hI.base b o v h).2.1;exact⟨by simp only[Gh.unmask,h3];exact h1,by simp only[Gh.unmask,h3];exact h2,h4⟩
 ·by_cases hs:s∈ks
  ·have hc:ks.contains s=true:=by simpa using hs
   have hb1:=congrFun hbx s;have e1:G1.ob s=some b:=by rw[lL hb1];simp only[Gh.mask,hc,if_true];exact h1
   have e2:G1.oe s=some (e,sz):=by rw[zN hb1];simp only[Gh.mask,hc,if_true];exact h2
   exact hI1.oes s b e sz e1 e2
  ·obtain⟨h3,cur,h4⟩:=hI.oes s b e sz h1 h2;exact⟨h3,cur,by rw[hbox hs h1];exact h4⟩
 ·have h:st.maps s=some es:=by simpa only[St.more_maps]using h
  obtain⟨b,vs,clk,h1,h2,h3,h4⟩:=hI.mobj s es h;refine⟨b,vs,clk,h1,hmap h2,⟨h3.1,fun i q x hq hx=>?_⟩,h4⟩;obtain⟨h5,h6⟩:=h3.2 i q x hq hx;exact⟨h5,stay (h4 q (bQ hq)) h6⟩
 ·obtain⟨vs,clk,h2⟩:=hI.mbs s b h;exact⟨vs,clk,hmap h2⟩
 ·have h:st.maps s=none:=by simpa only[St.more_maps]using h
  exact hI.nomb s h
 ·obtain⟨h1,h2⟩:=hI.obx s b h;exact⟨by simp only[Gh.unmask,h1];exact pv1 (hI.obs s b h).1,h2⟩
 ·simp only[Gh.unmask]at h;split at h
  ·exact hI.ful t m h
  ·exact hI1.ful t m h
 ·have h1:=hS1.le.com b o v (og hc hp) rfl;exact⟨by simp only[Gh.unmask,hp];exact h1.1,by simp only[Gh.unmask,hp];exact h1.2⟩
 ·simp only[Gh.unmask]at h;split at h
  ·exact .inl ⟨t,r,h,rfl⟩
  ·exact .inr (newB (by omega) h)
 ·simp only[Gh.unmask]at h;split at h
  ·exact .inl h
  ·rcases hS1.nearC b o v h with h|⟨t,r,hr,he⟩|h
   ·exact .inl (uL h).1
   ·exact .inr (.inl ⟨t,r,(k7 hr).1,he⟩)
   ·exact .inr (.inr h)
 ·simp only[Gh.unmask]at h;split at h
  ·rename_i k' hk;exact .inl ⟨k',hk⟩
  ·rcases hS1.nearP b k h with⟨k',h⟩|h
   ·cases h
   ·exact .inr h
def zr:∀ {as:List PV} {ks:List Nat} {j:Nat} {p:PV},cX as=some ks->as[j]? =some p->(∃ s,p= .ptr s 0/\s∈ks)\/np p=true
 | [],_,_,_,_,h=>by simp at h
 |a::as,ks,j,p,hk,h=>by
  have tail:∀ {ks0:List Nat},cX as=some ks0->∀ {j:Nat},as[j]? =some p->(∀ s,s∈ks0->s∈ks)->(∃ s,p= .ptr s 0/\s∈ks)\/np p=true:=by
   intro ks0 h0 j hj hsub;rcases zr h0 hj with⟨s,h1,h2⟩|h1
   ·exact .inl ⟨s,h1,hsub s h2⟩
   ·exact .inr h1
  cases a with
  |ptr s off=>
   simp only[cX]at hk;split at hk
   ·rename_i ks0 h0;split at hk
    ·rename_i hc;cases hk;cases j with
     |zero=>simp at h;subst h;rw[hc.1];exact .inl ⟨s,rfl,by simp⟩
     |succ j=>exact tail h0 (j:=j) (by simpa using h) (fun s hs=>bU _ hs)
    ·cases hk
   ·cases hk
  |_=>
   simp only[cX]at hk;split at hk
   ·rename_i hn;cases j with
    |zero=>simp at h;subst h;exact .inr hn
    |succ j=>exact tail hk (j:=j) (by simpa using h) (fun s hs=>hs)
   ·cases hk
def xM{st st2:St}:∀ {ks:List Nat} {cs:List (List PV)},dl st ks=some cs->(∀ s∈ks,st2.objs s=st.objs s)->dl st2 ks=some cs
 | [],_,h,_=>h
 |k::ks,cs,h,hs=>by
  simp only[dl]at h ⊢;rw[hs k List.mem_cons_self];split at h
  ·rename_i c cs0 h1 h2;rw[h1,xM h2 fun s hm=>hs s (bU _ hm)];exact h
  ·cases h
def qX{cf:aA}(hcf:ja P B cf)(hI:bz P B G st w){f:Nat}{as:List PV}{mv:List Nat}{vs:List Value}(hl:as.length=vs.length)(hR:∀ (j:Nat) p v,as[j]? =some p->vs[j]? =some v->R G p v/\cz p=true)
  {p:PV} (h:av cf f as mv st=some (p,st')):
  lj P (rA f)/\np p=true/\Calls P (rA f) vs.toArray w fun e w'=>∃ v G',pW f vs v e/\R G' p v/\bz P B G' st' w'/\cu G w G' w'/\Rn some ((cD as mv st).contains ·) false G G'/\G'.bx=G.bx/\(mv≠ []->cX as=some []->∀ s b,G.ob s=some b->w'.heap[b]? =w.heap[b]?):=by
 unfold av at h;split at h
 ·cases h
 ·rename_i ks hks;split at h
  ·cases h
  ·rename_i cs hcs;split at h
   ·split at h
    ·rename_i r ns cs' hcall;split at h
     ·rename_i hlen;simp only[bo,cn]at h;obtain⟨hp,hst⟩:=h;cases hfree:oy f as cs with
      |true=>
       have hfr:=hfree;simp only[oy,ae,bX]at hfr;obtain⟨-,hf1,hf2⟩:=hfr;have hnd:=lV hks;obtain⟨hgl,hget⟩:=mA hcs;have hIm:=hI.mask (ks:=ks) (fun s c hs hc=>by
        obtain⟨i,hi,e⟩:=em hs;have hi':ks[i]? =some s:=by rw[<-e];exact ax hi
        have:=hget i s hi';rw[hc]at this;exact hf2 c (bQ this.symm))
       have hRm:∀ (j:Nat) p v,as[j]? =some p->vs[j]? =some v->R (G.mask ks) p v/\cz p=true:=fun j p v hp hv=>by
        obtain⟨h1,h2⟩:=hR j p v hp hv;refine⟨?_,h2⟩;rcases zr hks hp with⟨s,rfl,hs⟩|hnp
        ·cases h1 with
         |ptr _ _ b hb=>exact .ptr _ _ b (by simp only[Gh.mask,show ks.contains s=true by simpa using hs,if_true];exact hb)
        ·have:=h1.ren (sw:=false) (EI ks) (fun _=>true) (fun s hs=>by cases hs) hnp (hf1 p (bQ hp)) (by simp);rwa [ren_some]at this
       have hcsm:dl (jF G ks st) ks=some cs:=xM hcs fun s hs=>by simp only[jF,show ks.contains s=true by simpa using hs,if_true]
       obtain⟨hE,hnp,hC⟩:=ww (ts:=[]) (ds:=cs.map aF) hcf hIm hl hRm hks hcsm ⟨nS,fun q hq=>by cases hq⟩ (by simp) (fun k c hc=>by
        rw[de,am]at hc;obtain⟨c0,h1,h2⟩:=hc;exact⟨c0,h1,.inr ⟨h2.symm,j9 c0⟩⟩) (ox [] [] as 0 0) (fun j q hq=>by
        rcases pM hks hq with⟨t,s,h1,h2,h3⟩|⟨p,h1,h2,h3⟩
        ·exact .inl ⟨t,s,h1,h2,by simpa using h3⟩
        ·exact .inr ⟨p,h1,h2,.inr ⟨by simpa using h3,mP p⟩⟩) hcall hlen
       refine⟨hE,by rw[<-hp];simp only[np,gn];exact hnp,hC.mono ?_⟩;rintro e w1 ⟨v,G1,hret,h1,h2,h3,h4,h5,-⟩;obtain⟨_,_,_,hcs',_⟩:=hcf f _ _ _ r ns cs' hcall;have hfl:(if(ft r && cs'.all fo)=true then(jF G ks st).fl else(jF G ks st).nx)=st.nx:=by split<;>rfl
       simp only[bM,we,wf,hfl]at h2;obtain⟨g1,g2,g3,g4⟩:=hI.unmask hnd hcs hlen hcs' h2 h3 h4 h5;refine⟨v,G.unmask G1,hret,?_,?_,g2,g3,rfl,fun h=>absurd rfl h⟩
       ·rw[<-hp];have:=h1.ren (sw:=false) g4 (fun _=>true) (fun s hs=>by cases hs) (by simp only[gn];exact hnp) (xU st.nx r) (by simp);rwa [ren_some]at this
       ·rw[<-hst,hfree,nC,ak rfl];exact g1
      |false=>
      obtain⟨hE,hnp,hC⟩:=ww (ts:=[]) (ds:=cs.map aF) hcf hI hl hR hks hcs ⟨nS,fun q hq=>by cases hq⟩ (by simp) (fun k c hc=>by
       rw[de,am]at hc;obtain⟨c0,h1,h2⟩:=hc;exact⟨c0,h1,.inr ⟨h2.symm,j9 c0⟩⟩) (ox [] [] as 0 0) (fun j q hq=>by
       rcases pM hks hq with⟨t,s,h1,h2,h3⟩|⟨p,h1,h2,h3⟩
       ·exact .inl ⟨t,s,h1,h2,by simpa using h3⟩
       ·exact .inr ⟨p,h1,h2,.inr ⟨by simpa using h3,mP p⟩⟩) hcall hlen
      refine⟨hE,by rw[<-hp];simp only[np,gn];exact hnp,hC.mono ?_⟩;rintro e w1 ⟨v,G',hret,h1,h2,h3,h4,h5,-⟩;refine⟨v,G',hret,by rw[<-hp];exact h1,?_,h3,h4,h5,fun h=>absurd rfl h⟩;rw[<-hst];simp only[bM,we,wf]at h2;rw[St.more_maps,hfree,Bool.or_false];exact h2
     ·cases h
    ·cases h
   ·rename_i hmv;split at h
    ·rename_i hb;simp only[ae]at hb;obtain⟨⟨⟨hb1,hb2⟩,hb3⟩,hb4⟩:=hb;split at h
     ·rename_i r ns cs' hcall;split at h
      ·rename_i hlen;simp only[bo,cn]at h;obtain⟨hp,hst⟩:=h;have htk:cD as mv st=(dJ mv as cs).map (·.1):=by
        cases mv with
        |nil=>exact absurd rfl (hmv ·)
        |cons m mv=>simp only[cD,hks,hcs]
       obtain⟨hE,hnp,hC⟩:=ww (ts:=dJ mv as cs) (ds:=lh ((dJ mv as cs).map (·.1)) (jx mv 0 as) cs) hcf hI hl hR hks hcs (Ew hb1 hb2) wD (fun k c hc=>BJ hb4 hc) (ox _ mv as 0 0) (fun j q hq=>by
        rcases pM hks hq with⟨t,s,h1,h2,h3⟩|⟨p,h1,h2,h3⟩
        ·exact .inl ⟨t,s,h1,h2,by simpa using h3⟩
        ·refine .inr ⟨p,h1,h2,?_⟩;split at h3
         ·exact .inl h3
         ·rename_i hne;rcases AM hb3 h1 with h4|h4
          ·exact absurd h4 hne
          ·exact .inr ⟨h3,h4⟩) hcall hlen
       refine⟨hE,by rw[<-hp];simp only[np,gn];exact hnp,hC.mono ?_⟩;rintro e w1 ⟨v,G',hret,h1,h2,h3,h4,h5,h6⟩;rw[htk];refine⟨v,G',hret,by rw[<-hp];exact h1,?_,h3,h4,h5,fun _ hk s b hb=>h6 s b hb (by rw[hk]at hks;cases hks;exact eK)⟩;rw[<-hst];exact h2
      ·cases h
     ·cases h
    ·cases h
def R.rn{J:List Nat}{G G':Gh}(h:Rn some (J.contains ·) false G G')(hbx:G'.bx=G.bx){p:PV}{v:Value}(hR:R G p v):R G' (bV J p) v:=by
 unfold bV;split
 ·rename_i ht;have:=hR.ren (sw:=false) h (fun _=>false) (fun s _=>by rw[hbx]) (su p) ht (by simp);rwa [ren_some]at this
 ·exact .any v
end
def Gh.poke(G:Gh)(b off:Nat)(vs:List Value):Gh:={G with com:=fun b' o=>if b'=b/\off<=o/\o<off+vs.length then vs[o-off]? else G.com b' o}
def xB{us vs:List Value}{off j:Nat}(h:off+vs.length<=us.length):(bD us off vs)[j]? =if off<=j/\j<off+vs.length then vs[j-off]? else us[j]? :=by
 rw[<-wO vs us off h];have hl:(us.take off).length=off:=by rw[aG];omega
 by_cases h1:j<off
 ·rw[ad (by omega),bl,bL (by omega),cY h1]
 ·by_cases h2:j<off+vs.length
  ·rw[ak ⟨by omega,h2⟩,bl,cp (by omega),hl,bL (by omega)]
  ·rw[ad (by omega),cp (by simp;omega),d5,af,hl];congr 1;omega
def EU:∀ {vs cs:List PV} {off:Nat},aI vs=true->aI cs=true->aI (bD cs off vs)=true
 | [],cs,off,_,h=>h
 |v::vs,cs,off,h1,h2=>by
  have e1:aI vs=true:=lS fun q hq=>fm h1 (bU _ hq);have e2:aI (cs.set off v)=true:=lS fun q hq=>by
   rcases fH hq with h|h
   ·exact fm h2 h
   ·rw[h];exact fm h1 List.mem_cons_self
  exact EU (vs:=vs) e1 e2
section
variable {G:Gh} {st:St} {w:World}
def Rm.bk{u:jX}{G G':Gh}(hst:∀ q v,R G q v->R G' (fJ u q) v){es:List (PV×PV)}{vs:List MapEntry}(h:Rm G es vs):Rm G' (es.map fun q=>(q.1,fJ u q.2)) vs:=by
 refine⟨by rw[b8];exact h.1,fun i q x hq hx=>?_⟩;rw[de,am]at hq;obtain⟨q0,hq0,rfl⟩:=hq;obtain⟨h1,h2⟩:=h.2 i q0 x hq0 hx;exact⟨h1,hst _ _ h2⟩
def bz.poke(hI:bz P B G st w){k e off:Nat}{r:oR}(hr:G.tk k=some (.room r))(hm:0<r.m)(he:r.e=e)(hfl:st.fl<=k){cs ds:List PV}{us vs:List Value}(hcs:Rs G cs us)(hds:Rs G ds vs)(hul:us.length=r.m*r.sz)
  (hcom:∀ (j:Nat) u,us[j]? =some u->G.com r.b j=some u) (hfit:off+vs.length<=us.length) (ht1:dw ([k].contains ·) cs=true) (ht2:dw ([k].contains ·) ds=true) (hn1:aI cs=true) (hn2:aI ds=true)
  {cur:Array Value} (hcur:w.heap[r.b]? =some (.cells cur r.e (0,0))):
  bz P B (G.poke r.b off vs) {st with objs:=pU (gT cs off k e r.m ds) st.objs,maps:=rz (gT cs off k e r.m ds) st.maps} (w.setRow r.b (cur.toList.take off++vs++cur.toList.drop (off+vs.length)).toArray)/\
  cu G w (G.poke r.b off vs) (w.setRow r.b (cur.toList.take off++vs++cur.toList.drop (off+vs.length)).toArray)/\
  (∀ q v,R G q v->R (G.poke r.b off vs) (fJ (gT cs off k e r.m ds) q) v)/\np (gT cs off k e r.m ds).p=true:=by
 obtain⟨hsh,hcm,hmc,hsz,hno,hxr⟩:=hI.room k r hr;have hklt:=(hI.cnt k _ hr).1;have hnx:=hI.nx;have hpv:G.pv r.b=some k:=(hI.priv k r hr).1 hfl;have hcs':cur.size=r.cap*r.sz:=by
  obtain⟨c,h1,h2⟩:=hI.sh _ _ _ hsh;rw[hcur]at h1;cases h1;exact h2
 have hule:us.length<=cur.size:=by rw[hul,hcs'];exact eU _ hmc
 have hcomAt:∀ b o,(G.poke r.b off vs).com b o=if b=r.b/\off<=o/\o<off+vs.length then vs[o-off]? else G.com b o:=fun _ _=>rfl;have hne:∀ b,(∀ k',G.pv b=some k'->[k].contains k'=false)->b≠r.b:=by
  rintro b hK rfl;have:=hK k hpv;simp at this
 have hrn:Rn some ([k].contains ·) false G (G.poke r.b off vs):=by
  refine⟨fun b o v h hK=>?_,fun _ _ h=>h,fun j j' hj _ hlt=>?_,fun b j o v h _ hp=> .inl ⟨j,hp,rfl⟩,fun b o v _ _ h=> .inl h⟩
  ·rw[hcomAt,ad fun h=>hne b hK h.1];exact h
  ·cases hj;exact⟨hlt,fun x' hx=>⟨x',hx,aE _,fun _=>rfl⟩⟩
 have stay:∀ {cs:List PV} {us:List Value},Rs G cs us->dw ([k].contains ·) cs=true->Rs (G.poke r.b off vs) cs us:=by
  intro cs us h ht;refine⟨h.1,fun j p u hp hu=>?_,h.2.2⟩;have:=(h.2.1 j p u hp hu).rn hrn rfl;rwa [bV,ak (kK ht hp)]at this
 have hnew:Rs (G.poke r.b off vs) (bD cs off ds) (bD us off vs):=(stay hcs ht1).put off (stay hds ht2);have hpl:(bD us off vs).length=us.length:=pC _ _ _;have hnp:np (gT cs off k e r.m ds).p=true:=by
  show np (.list _ (bD cs off ds) _)=true;have:=EU (off:=off) hn2 hn1;simpa [np,PM.off,aI]using this
 have hst:∀ q v,R G q v->R (G.poke r.b off vs) (fJ (gT cs off k e r.m ds) q) v:=by
  intro q v hq;refine R.bk (u:=gT cs off k e r.m ds) hrn (fun _=>rfl) (fun cs2 t v ht hR=>?_) hq;cases t with
  |own j e2=>
   simp only[aB.isOwn,jh]at ht;have ht:j=k:=ht;subst ht
   show R _ (.list r.m (bD cs off ds) (.own j e)) v;have hR:R G (.list r.m cs2 (.own j e2)) v:=hR;generalize hn0:r.m=n0 at hR;cases hR with
   |listN=>omega
   |list _ _ _ b o cap us2 hn hl hc hr2 h1 htr hp hx=>
   obtain⟨h3,h4⟩:=htr.2 _ hr;obtain⟨rfl,rfl,rfl,h7,h8⟩:=h4 hn0.symm;refine .list _ _ _ r.b 0 r.cap _ (by omega) hnew.1 (fun i x hx=>?_) hnew.2.1 hnew.2.2 ⟨by show j<G.nx;omega,fun x hx=>?_⟩ (fun i _ hi=>?_) (fun _ _=>hxr)
   ·rw[xB hfit]at hx;rw[hcomAt,aq];by_cases hi:off<=i/\i<off+vs.length
    ·rw[ak hi]at hx;rw[ak ⟨rfl,hi⟩];exact hx
    ·rw[ad hi]at hx;rw[ad fun h=>hi h.2];exact hcom i x hx
   ·have hx:G.tk j=some x:=hx;rw[hr]at hx;cases hx;exact⟨by simp only[mi.cnt];omega,fun _=>⟨rfl,rfl,rfl,he,by rw[hpl,hul,hn0]⟩⟩
   ·have hi:G.pv r.b=some i:=hi;rw[hpv]at hi;cases hi;rfl
  |_=>simp[aB.isOwn]at ht
 have hob:∀ s b,G.ob s=some b->b≠r.b:=by
  intro s b hb e;have:=(hI.obs s b hb).2.2;rw[e,hsh]at this;cases this
 have hother:∀ b,b≠r.b->(w.setRow r.b (cur.toList.take off++vs++cur.toList.drop (off+vs.length)).toArray).heap[b]? =w.heap[b]? :=fun b hb=>setRow_other w r.b b _ hb;have hrow:=setRow_heap w r.b cur (cur.toList.take off++vs++cur.toList.drop (off+vs.length)).toArray r.e (0,0) hcur;have hput:cur.toList.take off++vs++cur.toList.drop (off+vs.length)=bD cur.toList off vs:=wO vs cur.toList off (by simp;omega);have hmap:∀ {b':Nat} {vs:Array MapEntry} {clk:Nat},w.heap[b']? =some (.map vs clk)->b'≠r.b:=by
  rintro b' us clk h rfl;rw[hcur]at h;cases h
 have hbs:∀ {cs:List PV} {us:List Value},Rs G cs us->Rs (G.poke r.b off vs) (ik (gT cs off k e r.m ds) cs) us->True:=fun _ _=>trivial;refine⟨⟨fun b o v h=>?_,fun b e' n h=>?_,hI.nx,hI.cnt,hI.live,fun t q h=>?_,hI.apart,hI.priv,fun s cs' h=>?_,fun s b h=>?_,hI.obj,fun s h=>?_,fun s cs' h=>?_,fun b j h=>by rw[gR];exact hI.pvl b j h,fun b h=>by rw[gR];exact hI.xpl b h,fun b o v h=>?_,fun s b e' z h1 h2=>?_,fun s es h=>?_,fun s b h=>?_,hI.mbi,fun s h=>?_,hI.obx,hI.ful⟩,
  ⟨⟨fun b o v h hp=>?_,fun _ _ h=>h,rfl⟩,by rw[gR];exact aE _,fun b _ _ ht _=>hother b (fun e=>ht k r hr e.symm),fun s b h=> .inl ⟨s,h⟩,fun t q h=> .inl ⟨t,q,h,rfl⟩,fun b o v h=>?_,fun _ _ h=> .inl h,fun _ j h=> .inl ⟨j,h⟩,fun s b h=> .inl ⟨s,h⟩,⟨rfl,rfl⟩⟩,hst,hnp⟩
 ·rw[hcomAt]at h;by_cases hb:b=r.b
  ·subst hb;rw[cell_setRow_same w r.b o cur _ r.e (0,0) hcur,hput];rw[jA,xB (by simp;omega)];by_cases ho:off<=o/\o<off+vs.length
   ·rw[ak ⟨rfl,ho⟩]at h;rw[ak ho];exact h
   ·rw[ad fun h=>ho h.2]at h;rw[ad ho];have hc:=hI.com _ _ _ h;simp only[World.cell?,hcur]at hc;simpa using hc
  ·rw[ad fun h=>hb h.1]at h;rw[cell_setRow_other w r.b _ _ hb];exact hI.com b o v h
 ·by_cases hb:b=r.b
  ·subst hb;have h':G.sh r.b=some (e',n):=h;rw[hsh]at h';cases h';refine⟨_,hrow,?_⟩;simp only[jH,af,aG,aU,ep];omega
  ·obtain⟨c,h1,h2⟩:=hI.sh b e' n h;exact⟨c,by rw[hother b hb];exact h1,h2⟩
 ·obtain⟨h1,h2,h3,h4,h5,h6⟩:=hI.room t q h;refine⟨h1,h2,h3,h4,fun o ho=>?_,h6⟩;rw[hcomAt];by_cases hb:q.b=r.b
  ·have:=hI.apart t k q r h hr hb;subst this;have h:G.tk t=some (.room q):=h;rw[hr]at h;cases h;rw[ad (by omega)];exact h5 o ho
  ·rw[ad fun h=>hb h.1];exact h5 o ho
 ·simp only[pU,am]at h;obtain⟨c0,h1,rfl⟩:=h;obtain⟨b,e',us',h2,h3,h4⟩:=hI.objs s c0 h1;refine⟨b,e',us',h2,by rw[hother b (hob s b h2)];exact h3,by rw[lB];exact h4.1,fun j p u hp hu=>?_,h4.2.2⟩;rw[vj,am]at hp;obtain⟨q,hq,rfl⟩:=hp;exact hst _ _ (h4.2.1 j q u hq hu)
 ·obtain⟨h1,h2,h3⟩:=hI.obs s b h;refine⟨by rw[gR];exact h1,fun o=>?_,h3⟩;rw[hcomAt,ad fun h'=>hob s b h h'.1];exact h2 o
 ·simp only[pU,eZ]at h;exact hI.nob s h
 ·simp only[pU,am]at h;obtain⟨c0,h1,rfl⟩:=h;exact Nw hnp (hI.npo s c0 h1)
 ·obtain⟨h1,h2,h3⟩:=hI.base b o v h;have hb:b≠r.b:=by rintro rfl;rw[hpv]at h2;cases h2
  exact⟨by rw[hcomAt,ad fun h=>hb h.1];exact h1,h2,h3⟩
 ·obtain⟨h3,cur',h4⟩:=hI.oes s b e' z h1 h2;exact⟨h3,cur',by rw[hother b (hob s b h1)];exact h4⟩
 ·simp only[rz,am]at h;obtain⟨e0,h0,rfl⟩:=h;obtain⟨b,vs',clk,h1,h2,h3,h4⟩:=hI.mobj s e0 h0;refine⟨b,vs',clk,h1,by rw[hother b (hmap h2)];exact h2,h3.bk hst,fun q hq=>?_⟩;obtain⟨q0,hq0,rfl⟩:=cA.1 hq;exact xi hnp (h4 q0 hq0)
 ·obtain⟨vs',clk,h2⟩:=hI.mbs s b h;exact⟨vs',clk,by rw[hother b (hmap h2)];exact h2⟩
 ·simp only[rz,eZ]at h;exact hI.nomb s h
 ·have hb:b≠r.b:=by rintro rfl;rw[hpv]at hp;cases hp
  exact⟨by rw[hcomAt,ad fun h=>hb h.1];exact h,hp⟩
 ·rw[hcomAt]at h;by_cases hb:b=r.b
  ·exact .inr (.inl ⟨k,r,hr,hb.symm⟩)
  ·rw[ad fun h=>hb h.1]at h;exact .inl h
end
section
variable {G:Gh} {nt:Nat} {fr:Fr} {st st':St} {w:World} {a:Act} {o:Oper} {d:Option Nat} {cf:aA} {p:PV}
def Lz(hI:bz P B G st w)(hF:eT G nt fr a){t:Nat}{x y:Operand}(hop:o.op= .store t x y){cx cy:CX}(hx:bC x=some cx)(hy:bC y=some cy){sz:Nat}(hs:fK P t=some sz)
  (h:aw cf fr st d (.stx sz cx cy)=some (p,st')):p= .hole/\∃ w' G',(execOp a.eval o).run P w= .ok .skip w'/\bz P B G' st' w'/\cu G w G' w'/\(∀ s,G'.bx s=G.bx s)/\
   ∀ t,R G' (uS (cx.ev fr) (cellsOf (cy.ev fr)) fr t) (a.tmps.getD t undef)/\cz (uS (cx.ev fr) (cellsOf (cy.ev fr)) fr t)=true:=by
 have hR:=cE hF hx;have htx:=eB hF hx;have hRy:=cE hF hy;have hty:=eB hF hy;have h':=h;simp only[aw]at h;split at h
 ·rename_i s off vs e1 e2;have hst:aw cf fr st d (.store sz cx cy)=some (p,st'):=by
   simp only[aw,e1,e2];exact h
  obtain⟨y',v',w',G',hrun,hor,hRp,hI',hL',hS',hob⟩:=A0 hI hF hop hx hy hs hst;have hp:p= .hole:=by
   split at h
   ·split at h<;>first|(cases h;rfl)|cases h
   ·cases h
  have hk:uS (cx.ev fr) (cellsOf (cy.ev fr)) fr=fr:=by rw[e1];rfl
  rw[hk];have hbx:∀ s,G'.bx s=G.bx s:=fun s=>by
   rcases hob s with⟨h,_⟩|h
   ·cases h
   ·exact h
  refine⟨hp,w',G',?_,hI',hS',hbx,fun t=>⟨(hF.2.1 t).mono hL' hbx,hF.2.2 t⟩⟩;rcases hor with rfl|⟨rfl,_⟩
  ·exfalso;simp only[execOp,hop]at hrun;generalize a.eval x=xv at hrun hR;generalize a.eval y=yv at hrun hRy;simp only[Sem.run_bind]at hrun;revert hrun;cases (Instr.storeAt t xv yv).run P w with
   |ok v w=>simp
   |_=>simp
  ·exact hrun
 ·rename_i cs off k e n vs e1 e2;split at h
  ·rename_i hc;obtain⟨c1,c2,c3,c4,c5,c6,c7,c8⟩:=hc;cases h;refine⟨rfl,?_⟩;simp only[execOp,hop];generalize hax:a.eval x=xv at hR;generalize hay:a.eval y=yv at hRy;rw[e1]at hR htx;cases hR with
   |iptr _ _ _ b o' us hl hcm hr h1 htp hp hx'=>
   obtain⟨y0,hy0⟩:=hI.live k c5;obtain⟨hle,hm⟩:=htp.2 y0 hy0;have hcnt:=(hI.cnt k y0 hy0).2;rw[c4]at hcnt;cases y0 with
   |full m=>
    have:=hI.ful k m hy0;subst this;simp only[mi.cnt]at hcnt;omega
   |room r=>
   obtain⟨rfl,rfl,hre,hlen⟩:=hm hcnt;have hcnt:n=r.m:=hcnt;subst hcnt;have hRv:=rN hRy e2;have hn:=oo hty e2;obtain⟨hsh,hcm',hmc,hsz,hno,hxr⟩:=hI.room k r hy0;obtain⟨cur,hcur,hcs'⟩:=hI.sh _ _ _ hsh;have hlv:yv.cells.toList.length=sz:=by rw[<-hRv.1];exact c1
   have hfit:off+yv.cells.toList.length<=us.length:=by rw[hlv,<-hl];exact c2
   have hule:us.length<=cur.size:=by rw[hlen,hcs'];exact eU _ hmc
   obtain⟨hI',hS',hst,hnp⟩:=hI.poke hy0 c3 hre c6 ⟨hl,hr,h1⟩ hRv hlen (fun j u hu=>by have:=hcm j u hu;rwa [aq]at this) hfit c7 c8 (sM htx) hn hcur;refine⟨_,_,?_,hI',hS',fun _=>rfl,fun t=>?_⟩
   ·have hrun:=run_storeCells_at P r.b off r.e yv.cells.toList 0 cur w hcur (by omega) hRv.2.2;simp only[bi]at hrun;have hlen':yv.cells.size=sz:=by simpa using hlv
    rw[aq];simp only[Instr.storeAt,Instr.sureAddr,storeVar,Sem.run_bind,Sem.run_pure,dd,gV w hs,hlen',du,not_true_eq_false,if_false,hrun]
   ·rw[e1,e2];exact⟨hst _ _ (hF.2.1 t),FC hnp (hF.2.2 t)⟩
  ·cases h
 ·cases h
def GP{f:Nat}{as:List PV}{x:PV×St}(h:av cf f as [0] st=some x){n:Nat}{cs:List PV}{k e:Nat}{rest:List PV}(ha:as= .list n cs (.own k e)::rest):k<st.nx/\st.cnt k=n:=by
 unfold av at h;split at h
 ·cases h
 ·split at h
  ·cases h
  ·rename_i cs0 hcs;simp only at h;split at h
   ·rename_i hb;simp only[ae,bX]at hb;have:=hb.1.1.2 (k,n) (by rw[ha];simp[dJ,fQ,ar]);simp only[sZ,hH,ae,decide_eq_true_eq,jh]at this;exact this.1
   ·cases h
def Ej{f:Nat}{as:List PV}{x:PV×St}(h:av cf f as [0] st=some x){cs:List PV}{rest:List PV}(ha:as= .agg cs::rest){q:Nat×Nat}(hq:q∈al cs):q.1<st.nx/\st.cnt q.1=q.2:=by
 unfold av at h;split at h
 ·cases h
 ·split at h
  ·cases h
  ·rename_i cs0 hcs;simp only at h;split at h
   ·rename_i hb;simp only[ae,bX]at hb;have:=hb.1.1.2 q (by rw[ha];simp[dJ,fQ,ar,hq]);simp only[sZ,hH,ae,decide_eq_true_eq,jh]at this;exact this.1
   ·cases h
def lC(J:List Nat)(l:List (Nat×Nat×PV)):∀ cs:List PV,(gC J l cs).length=cs.length
 | []=>rfl
 |c::cs=>by simp[gC,lC J l cs]
def vk(J:List Nat)(l:List (Nat×Nat×PV)):∀ (cs:List PV) (j:Nat),(gC J l cs)[j]? =(cs[j]?).map (iO J l)
 | [],j=>by simp[gC]
 |c::cs,0=>by simp[gC]
 |c::cs,j+1=>by simp only[gC,ah];exact vk J l cs j
def R.bkSel{J:List Nat}{l:List (Nat×Nat×PV)}{G G':Gh}(h:Rn some (J.contains ·) false G G')(hbx:∀ s,G'.bx s=G.bx s)(hp:∀ n cs t p v,nY l n t=some p->R G (.list n cs t) v->R G' p v){q:PV}{v:Value}(hr:R G q v):R G' (iO J l q) v:=by
 have get:∀ {cs:List PV} {j:Nat} {q:PV},(gC J l cs)[j]? =some q->∃ q',cs[j]? =some q'/\iO J l q'=q:=by
  intro cs j q hq;rw[vk]at hq;cases hc:cs[j]? with
  |none=>rw[hc]at hq;simp at hq
  |some q'=>rw[hc]at hq;simp at hq;exact⟨q',rfl,hq⟩
 have first:∀ {us:List Value} {b o:Nat},us≠ []->(∀ (j:Nat) (u:Value),us[j]? =some u->G.com b (o+j)=some u)->∃ v,G.com b o=some v:=by
  intro us b o hne hc;cases us with
  |nil=>exact absurd rfl hne
  |cons u us=>exact⟨u,hc 0 u rfl⟩
 have frOk:∀ {us:List Value} {b:Nat} {t:aB},t.free (J.contains ·)=true->(∀ k,us≠ []->G.pv b=some k->t.of=some k)->us≠ []->∀ k,G.pv b=some k->J.contains k=false:=by
  intro us b t hf hp hne k hk';have:=hp k hne hk';simpa [aB.free,this]using hf
 have comOk:∀ {us:List Value} {b o:Nat} {t:aB},t.free (J.contains ·)=true->(∀ k,us≠ []->G.pv b=some k->t.of=some k)->(∀ (j:Nat) (u:Value),us[j]? =some u->G.com b (o+j)=some u)->∀ (j:Nat) (u:Value),us[j]? =some u->G'.com b (o+j)=some u:=by
  intro us b o t hf hp hc j w hu;have hne:us≠ []:=by intro e;subst e;simp at hu
  exact h.com _ _ _ (hc j w hu) (frOk hf hp hne)
 have xpOk:∀ {us:List Value} {b o:Nat} {t:aB},t.free (J.contains ·)=true->(∀ k,us≠ []->G.pv b=some k->t.of=some k)->(us≠ []->t≠ .no->G.xp b=false)->(∀ (j:Nat) (u:Value),us[j]? =some u->G.com b (o+j)=some u)->
   us≠ []->t≠ .no->G'.xp b=false:=by
  intro us b o t hf hp hx hc hne ht';cases hxb:G'.xp b with
  |false=>rfl
  |true=>
   obtain⟨v0,hv0⟩:=first hne hc
   rcases h.xp b _ v0 hv0 (frOk hf hp hne) hxb with h1|⟨k,h1,h2⟩
   ·rw[hx hne ht']at h1;cases h1
   ·cases h2
 have pvOk:∀ {us:List Value} {b o:Nat} {t:aB},t.free (J.contains ·)=true->(∀ k,us≠ []->G.pv b=some k->t.of=some k)->(∀ (j:Nat) (u:Value),us[j]? =some u->G.com b (o+j)=some u)->∀ k',us≠ []->G'.pv b=some k'->t.of=some k':=by
  intro us b o t hf hp hc k' hne hk';obtain⟨v0,hv0⟩:=first hne hc
  rcases h.pv b k' _ v0 hv0 (frOk hf hp hne) hk' with⟨k,hk1,hk2⟩|⟨hX',_⟩
  ·have:=Option.some.inj hk2;subst this;exact hp _ hne hk1
  ·cases hX'
 induction hr with
 |any v=>exact .any v
 |hole=>exact .hole
 |int k n=>exact .int k n
 |bool b=>exact .bool b
 |str s=>exact .str s
 |nilp=>exact .nilp
 |nili=>exact .nili
 |err t v=>exact .err t v
 |agg cs vs hl _ h1 ih=>
  simp only[iO];refine .agg _ vs (by rw[lC];exact hl) (fun j q w hq hu=>?_) h1;obtain⟨q',hq',rfl⟩:=get hq;exact ih j q' w hq' hu
 |tup cs vs hl _ ih=>
  simp only[iO];refine .tup _ vs (by rw[lC];exact hl) (fun j q w hq hu=>?_);obtain⟨q',hq',rfl⟩:=get hq;exact ih j q' w hq' hu
 |listN t htn=>
  simp only[iO];split
  ·rename_i p hc;exact hp _ _ _ p _ hc (.listN t htn)
  ·split
   ·rename_i hf;have:=htn.ren (s:=false) h hf;rw[aB.ren_some]at this;exact .listN t this
   ·exact .any _
 |listE a=>
  simp only[iO];split
  ·rename_i p hc;simp[nY]at hc
  ·split
   ·exact .listE a
   ·exact .any _
 |list n cs t b o cap us hn hl hc hr0 h1 htr hpp hx ih=>
  simp only[iO];split
  ·rename_i p hcc;exact hp _ _ _ p _ hcc (.list n cs t b o cap us hn hl hc hr0 h1 htr hpp hx)
  ·split
   ·rename_i hf;have htr':=htr.ren (s:=false) h hf;rw[aB.ren_some]at htr';refine .list n _ t b o cap us hn (by rw[lC];exact hl) (comOk hf hpp hc) (fun j q w hq hu=>?_) h1 htr' (pvOk hf hpp hc) (xpOk hf hpp hx hc);obtain⟨q',hq',rfl⟩:=get hq;exact ih j q' w hq' hu
   ·exact .any _
 |ptr s off b hb=>exact .ptr s off b (by rw[lL (hbx s)];exact hb)
 |osl e sz s n b hb he=>exact .osl e sz s n b (by rw[lL (hbx s)];exact hb) (by rw[zN (hbx s)];exact he)
 |mp s b hb=>exact .mp s b (by rw[GS (hbx s)];exact hb)
 |iptr cs off t b o us hl hc _ h1 htp hpp hx ih=>
  simp only[iO];split
  ·rename_i hf;have htp':=htp.ren (s:=false) h hf;rw[aB.ren_some]at htp';refine .iptr _ off t b o us (by rw[lC];exact hl) (comOk hf hpp hc) (fun j q w hq hu=>?_) h1 htp' (pvOk hf hpp hc) (xpOk hf hpp hx hc);obtain⟨q',hq',rfl⟩:=get hq;exact ih j q' w hq' hu
  ·exact .any _
 |fn g cs vs hl _ ih=>
  simp only[iO];refine .fn g _ vs (by rw[lC];exact hl) (fun j q w hq hu=>?_);obtain⟨q',hq',rfl⟩:=get hq;exact ih j q' w hq' hu
mutual
theorem FD(J:List Nat)(l:List (Nat×Nat×PV))(K:Nat->Bool)(hp:∀ n t p,nY l n t=some p->off K p=true):∀ p:PV,off K p=true->off K (iO J l p)=true
 | .list m cs t,h=>by
  have ih:=oN J l K hp cs (by simpa [off]using h);simp only[iO];split
  ·rename_i p hc;exact hp _ _ p hc
  ·split
   ·simpa [off]using ih
   ·rfl
 | .iptr cs o t,h=>by
  have ih:=oN J l K hp cs (by simpa [off]using h);simp only[iO];split
  ·simpa [off]using ih
  ·rfl
 | .agg cs,h=>by have ih:=oN J l K hp cs (by simpa [off]using h);simpa [iO,off]using ih
 | .tup cs,h=>by have ih:=oN J l K hp cs (by simpa [off]using h);simpa [iO,off]using ih
 | .fn g cs,h=>by have ih:=oN J l K hp cs (by simpa [off]using h);simpa [iO,off]using ih
 | .any,h| .hole,h| .int _ _,h| .bool _,h| .str _,h| .nilp,h| .nili,h| .err,h| .ptr _ _,h| .osl _ _ _ _,h| .mp _,h=>h
theorem oN(J:List Nat)(l:List (Nat×Nat×PV))(K:Nat->Bool)(hp:∀ n t p,nY l n t=some p->off K p=true):∀ ps:List PV,dh K ps=true->dh K (gC J l ps)=true
 | [],_=>rfl
 |p::ps,h=>by
  simp only[dh,ae]at h;simp only[gC,dh,FD J l K hp p h.1,oN J l K hp ps h.2,ap]
end
def wE{J:List Nat}{l:List (Nat×Nat×PV)}(hp:∀ n t p,nY l n t=some p->np p=true){p:PV}(h:np p=true):np (iO J l p)=true:=FD J l _ hp p h
def Mn{J:List Nat}{l:List (Nat×Nat×PV)}(hp:∀ n t p,nY l n t=some p->np p=true){ps:List PV}(h:aI ps=true):aI (gC J l ps)=true:=oN J l _ hp ps h
def KK{J:List Nat}{l:List (Nat×Nat×PV)}(hp:∀ n t p,nY l n t=some p->np p=true){p:PV}(h:cz p=true):cz (iO J l p)=true:=by
 have plain:∀ q:PV,np q=true->cz q=true:=by
  intro q hq;cases q with
  |fn g cs=>
   simp only[cz,bX,cF];intro c hc;obtain⟨j,hj⟩:=mG hc;exact .inr (ju (by simpa [np,off,aI]using hq) hj)
  |_=>simp only[cz,hq,nC]
 cases p with
 |fn g cs=>
  simp only[cz,bX,cF]at h;simp only[iO,cz,bX,cF];intro c hc;obtain⟨j,hj⟩:=mG hc;rw[vk,am]at hj;obtain⟨d,hd,rfl⟩:=hj;rcases h d (bQ hd)with h1|h1
  ·left;cases d<;>simp[gx]at h1<;>rfl
  ·exact .inr (wE hp h1)
 |list m cs t=>exact plain _ (wE hp (by simpa [cz,gx]using h))
 |iptr cs o t=>exact plain _ (wE hp (by simpa [cz,gx]using h))
 |agg cs=>exact plain _ (wE hp (by simpa [cz,gx]using h))
 |tup cs=>exact plain _ (wE hp (by simpa [cz,gx]using h))
 |_=>exact h
def uz{l:List (Nat×Nat×PV)}{n:Nat}{t:aB}{p:PV}(h:nY l n t=some p):∃ k e,t= .own k e/\(k,n,p)∈l:=by
 unfold nY at h;split at h
 ·rename_i k e;rw[am]at h;obtain⟨q,hq,rfl⟩:=h;have h1:=List.find?_some hq;have h2:=List.mem_of_find?_eq_some hq;simp only[ae,jh]at h1;obtain⟨a,b,c⟩:=q;obtain⟨rfl,rfl⟩:=h1;exact⟨a,e,rfl,h2⟩
 ·cases h
def rg:∀ {cs ds:List PV} {k n:Nat} {p:PV},(k,n,p)∈gF cs ds->∃ (i:Nat) (c:List PV) (e:Nat) (d:PV),cs[i]? =some (PV.list n c (.own k e))/\ds[i]? =some d/\p=eP n d
 | [],ds,k,n,p,h=>by simp[gF]at h
 |c::cs,[],k,n,p,h=>by
  unfold gF at h;split at h
  ·rename_i h1;cases h1
  ·rename_i h1;cases h1
  ·simp at h
 |c::cs,d::ds,k,n,p,h=>by
  have tail:(k,n,p)∈gF cs ds->∃ (i:Nat) (c':List PV) (e:Nat) (d':PV),(c::cs)[i]? =some (PV.list n c' (.own k e))/\(d::ds)[i]? =some d'/\p=eP n d':=by
   intro h;obtain⟨i,c',e,d',h1,h2,h3⟩:=rg h;exact⟨i+1,c',e,d',h1,h2,h3⟩
  unfold gF at h;split at h
  ·rename_i h1 h2;injection h1 with h1 h1';injection h2 with h2 h2';subst h1 h1' h2 h2';rcases aX.mp h with h|h
   ·simp only[cn]at h;obtain⟨rfl,rfl,rfl⟩:=h;exact⟨0,_,_,d,rfl,rfl,rfl⟩
   ·exact tail h
  ·rename_i h1 h2;injection h1 with h1 h1';injection h2 with h2 h2';subst h1 h1' h2 h2';exact tail h
  ·simp at h
def wb:∀ {cs:List PV} {i n:Nat} {c:List PV} {k e:Nat},cs[i]? =some (PV.list n c (.own k e))->(k,n)∈al cs
 |c::cs,0,n,c',k,e,h=>by
  simp only[aj,bo]at h;subst h;simp[al,ar]
 |c::cs,i+1,n,c',k,e,h=>by
  simp only[ah]at h;simp only[al,ay];exact .inr (wb h)
def JF(hI:bz P B G st w){k n e e2:Nat}(h1:k<st.nx)(h2:st.cnt k=n)(hn:n≠0){cs cs2:List PV}{v v0:Value}(hv:R G (.list n cs2 (.own k e2)) v)(h0:R G (.list n cs (.own k e)) v0):v=v0:=by
 obtain⟨y0,hy0⟩:=hI.live k h1;have hcnt:=(hI.cnt k y0 hy0).2;rw[h2]at hcnt;cases y0 with
 |full m=>have:=hI.ful k m hy0;subst this;simp only[mi.cnt]at hcnt;omega
 |room rr=>
 cases hv with
 |listN=>omega
 |list _ _ _ b o cap us _ _ _ _ _ htr _ _=>
 cases h0 with
 |listN=>omega
 |list _ _ _ b2 o2 cap2 us2 _ _ _ _ _ htr2 _ _=>
 obtain⟨-,h1⟩:=htr.2 _ hy0;obtain⟨-,h2⟩:=htr2.2 _ hy0;obtain⟨rfl,rfl,rfl,-,-⟩:=h1 hcnt;obtain⟨rfl,rfl,rfl,-,-⟩:=h2 hcnt;rfl
def A6{G':Gh}(hI:bz P B G st w){k n e:Nat}(h1:k<st.nx)(h2:st.cnt k=n){cs:List PV}{v0:Value}(h0:R G (.list n cs (.own k e)) v0){p0:PV}(hp:R G' p0 v0){cs2:List PV}{t:aB}{v:Value}(hto:t.isOwn k=true)(hRv:R G (.list n cs2 t) v):R G' (eP n p0) v:=by
 simp only[eP];by_cases hn:n=0
 ·rw[ak hn];subst hn;cases hRv with
  |listN=>exact .listN _ trivial
  |listE a=>exact .listE a
  |list _ _ _ b o cap us _ _ _ _ _ _ _ _=>exact .list 0 [] .no b o cap [] (aM _) rfl (by simp) (by simp) (by simp) trivial (fun _ h=>absurd rfl h) (fun h=>absurd rfl h)
 ·rw[ad hn];cases t with
  |own j e2=>
   simp only[aB.isOwn,jh]at hto;subst hto;rw[JF hI h1 h2 hn hRv h0];exact hp
  |_=>simp[aB.isOwn]at hto
def uM{n:Nat}{p:PV}(h:np p=true):np (eP n p)=true:=by
 unfold eP;split
 ·rfl
 ·exact h
def JY{G':Gh}(hI:bz P B G st w){as:List PV}{f:Nat}{x:PV×St}(hcall:av cf (kF f) as [0] st=some x)(hm:oH as=true){v0:Value}{r0 p0:PV}{st0:St}(h0:∀ a0,as[0]? =some a0->R G a0 v0)(hRp:R G' p0 v0)(hnp:np p0=true)
  (hrn:Rn some ((cD as [0] st).contains ·) false G G') (hbx:G'.bx=G.bx) {q:PV} {u:Value} (hq:R G q u) (ht:cz q=true):R G' (kU (some (r0,p0,st0)) as st q) u/\cz (kU (some (r0,p0,st0)) as st q)=true:=by
 cases as with
 |nil=>simp[oH]at hm
 |cons a0 rest=>
 cases a0 with
 |list n cs tk=>
  cases tk with
  |own k e0=>
   have htk:=GP hcall rfl;refine⟨R.bk (u:=⟨cD (.list n cs (.own k e0)::rest) [0] st,k,n,eP n p0⟩) hrn (fun s=>by rw[hbx]) (fun cs2 t v hto hRv=>A6 hI htk.1 htk.2 (h0 _ rfl) hRp hto hRv) hq,FC (u:=⟨cD (.list n cs (.own k e0)::rest) [0] st,k,n,eP n p0⟩) (uM hnp) ht⟩
  |_=>exact⟨hq.rn hrn hbx,rJ ht⟩
 |agg cs=>
  cases p0 with
  |agg ds=>
   have hv0:=h0 _ rfl;cases hv0 with
   |agg _ us hl hcs hsh=>
   cases hRp with
   |agg _ _ hl2 hds _=>
   have hnd:aI ds=true:=by simpa [np,off,aI]using hnp
   refine⟨R.bkSel (J:=cD (.agg cs::rest) [0] st) (l:=gF cs ds) hrn (fun s=>by rw[hbx]) (fun n c t p v hs hRv=>?_) hq,KK (J:=cD (.agg cs::rest) [0] st) (l:=gF cs ds) (fun n t p hs=>?_) ht⟩
   ·obtain⟨k,e,rfl,hm2⟩:=uz hs;obtain⟨i,c',e',d,hc,hd,rfl⟩:=rg hm2;have htk:=Ej hcall rfl (wb hc);have hil:i<us.length:=by
     have:=(br.mp hc).1;omega
    have hu:us[i]? =some us[i]:=ax hil;exact A6 hI htk.1 htk.2 (hcs i _ _ hc hu) (hds i d _ hd hu) (by simp[aB.isOwn]) hRv
   ·obtain⟨k,e,rfl,hm2⟩:=uz hs;obtain⟨i,c',e',d,hc,hd,rfl⟩:=rg hm2;exact uM (ju hnd hd)
  |_=>exact⟨hq.rn hrn hbx,rJ ht⟩
 |_=>simp[oH]at hm
def Jv{f:Nat}{vs:List Value}{e:Ending}{K:Value->Gh->Prop}(h:∃ v G',pW (kF f) vs v e/\K v G'):∃ u G',e= .returned u/\K (.tuple #[u,vs.getD 0 undef]) G':=by
 refine h.elim fun v h=>h.elim fun G' h=>?_;refine((vo (f:=f) (vs:=vs) (v:=v) (e:=e)).mp (And.left h)).elim fun u hu=>?_;exact⟨u,G',hu.1,by rw[<-hu.2];exact And.right h⟩
def bz.boxes{objs:Nat->Option (List PV)}(hI:bz P B G st w)(h:∀ s c,objs s=some c->(∃ b e vs,G.ob s=some b/\w.heap[b]? =some (.cells (List.toArray vs) e (0,0))/\Rs G c vs)/\aI c=true)(hn:∀ s,objs s=none->G.ob s=none):bz P B G {st with objs:=objs} w:=
 ⟨hI.com,hI.sh,hI.nx,hI.cnt,hI.live,hI.room,hI.apart,hI.priv,fun s c hc=>(h s c hc).1,hI.obs,hI.obj,hn,fun s c hc=>(h s c hc).2,hI.pvl,hI.xpl,hI.base,hI.oes,hI.mobj,hI.mbs,hI.mbi,hI.nomb,hI.obx,hI.ful⟩
def Ei(hcf:ja P B cf)(hI:bz P B G st w){f:Nat}(hf:f<1000000){as:List PV}{vs:List Value}(hl:as.length=vs.length)(hR:∀ (j:Nat) p v,as[j]? =some p->vs[j]? =some v->R G p v/\cz p=true)
  {r p':PV} (h:uP cf f as st=some (r,p',st')) (hm:oH as=true):
  lj P f/\np r=true/\Calls P f vs.toArray w fun e w'=>∃ v G',e= .returned v/\R G' r v/\bz P B G' (IV p' as st st') w'/\cu G w G' w'/\(∀ q u,R G q u->cz q=true->R G' (kU (some (r,p',st')) as st q) u/\cz (kU (some (r,p',st')) as st q)=true)/\G'.bx=G.bx:=by
 unfold uP at h;split at h
 ·rename_i r0 p0 st0 hcall;simp only[bo,cn]at h;obtain⟨rfl,rfl,rfl⟩:=h;obtain⟨hE,hnp,hC⟩:=qX hcf hI hl hR hcall;rw[Bp hf]at hE hC;have hnps:aI [r0,p0]=true:=hnp;refine⟨hE,fm hnps (by simp),hC.mono ?_⟩;intro e w' hx;obtain⟨u,G',rfl,hRt,hI',hS',hrn,hbx,hkb⟩:=Jv hx;generalize hv2:(#[u,vs.getD 0 undef]:Array Value)=vv at hRt;cases hRt with
  |tup _ vs2 hl2 hr2=>
  have hvv:vs2=[u,vs.getD 0 undef]:=by
   have:=bq Array.toList hv2;simpa using this.symm
  subst hvv;have h0:∀ a0,as[0]? =some a0->R G a0 (vs.getD 0 undef):=fun a0 ha=>by
   cases vs with
   |nil=>
    cases as with
    |nil=>simp at ha
    |cons a as=>simp at hl
   |cons v0 vs=>exact(hR 0 a0 v0 ha rfl).1
  have hk:∀ q x,R G q x->cz q=true->R G' (kU (some (r0,p0,st0)) as st q) x/\cz (kU (some (r0,p0,st0)) as st q)=true:=fun q x hq ht=>JY hI hcall hm h0 (hr2 1 p0 _ rfl rfl) (fm hnps (by simp)) hrn hbx hq ht;refine⟨u,G',rfl,hr2 0 r0 u rfl rfl,?_,hS',hk,hbx⟩;unfold IV;split
  ·split
   ·rename_i cs rest ds hks;refine hI'.boxes (fun s c hc=>?_) (fun s hc=>?_)
    ·rw[am]at hc;obtain⟨c0,hc0,rfl⟩:=hc;obtain⟨b,e,ws,h1,h2,h3⟩:=hI.objs s c0 hc0;refine⟨⟨b,e,ws,by rw[lL (congrFun hbx s)];exact h1,by rw[hkb (by simp) hks s b h1];exact h2,by rw[lC];exact h3.1,fun j q v hq hv=>?_,h3.2.2⟩,Mn (fun n t p hs=>?_) (hI.npo s c0 hc0)⟩
     ·rw[vk,am]at hq;obtain⟨q0,hq0,rfl⟩:=hq;exact(hk q0 v (h3.2.1 j q0 v hq0 hv) (fy (ju (hI.npo s c0 hc0) hq0))).1
     ·obtain⟨k,e,rfl,hm2⟩:=uz hs;obtain⟨i,c',e',d,hc,hd,rfl⟩:=rg hm2;have hnd:aI ds=true:=by simpa [np,off,aI]using fm hnps (p:= .agg ds) (by simp)
      exact uM (ju hnd hd)
    ·rw[eZ]at hc;rw[lL (congrFun hbx s)];exact hI.nob s hc
   ·exact hI'
  ·exact hI'
 ·cases h
end
def Gh.cut(G:Gh)(k h:Nat)(r:oR):Gh where
 com b o:=if b=r.b/\h*r.sz<=o then none else G.com b o
 sh:=G.sh
 tk t:=if t=k then some (.full 0)else if t=G.nx then some (.room (oR.mk r.b r.cap r.sz r.e h))else G.tk t
 ob:=G.ob
 nx:=G.nx+1
 pv b:=if b=r.b then some G.nx else G.pv b
 xp:=G.xp
 oe:=G.oe
 mb:=G.mb
section
variable {G:Gh} {st:St} {w:World}
def Hs(hI:bz P B G st w){k h:Nat}{r:oR}(hr:G.tk k=some (.room r))(hfl:st.fl<=k):Rn some ([k].contains ·) false G (G.cut k h r):=by
 have hpv:G.pv r.b=some k:=(hI.priv k r hr).1 hfl;have hne:∀ b,(∀ k',G.pv b=some k'->[k].contains k'=false)->b≠r.b:=by
  rintro b hK rfl;have:=hK k hpv;simp at this
 refine⟨fun b o v h hK=>?_,fun _ _ h=>h,fun j j' hj hK hlt=>?_,fun b j o v h hK hp=>?_,fun b o v _ _ h=> .inl h⟩
 ·show(if b=r.b/\_ then none else G.com b o)=some v;rw[ad fun h=>hne b hK h.1];exact h
 ·cases hj;have hjk:j≠k:=by
   rintro rfl;simp at hK
  refine⟨Nat.lt_succ_of_lt hlt,fun x' hx=>⟨x',?_,aE _,fun _=>rfl⟩⟩;simp only[Gh.cut,ad hjk]at hx;rwa [ad (by omega)]at hx
 ·simp only[Gh.cut,ad (hne b hK)]at hp;exact .inl ⟨j,hp,rfl⟩
def bz.cut(hI:bz P B G st w){k h:Nat}{r:oR}(hr:G.tk k=some (.room r))(hfl:st.fl<=k)(hh:h<=r.cap):
  bz P B (G.cut k h r) (ic st k h) w/\cu G w (G.cut k h r) w:=by
 obtain⟨hsh,hcm,hmc,hsz,hno,hxr⟩:=hI.room k r hr;have hklt:=(hI.cnt k _ hr).1;have hnx:=hI.nx;have hpv:G.pv r.b=some k:=(hI.priv k r hr).1 hfl;have hrn:=Hs (h:=h) hI hr hfl;have hbl:r.b<w.heap.size:=hI.pvl _ _ hpv;have hcomAt:∀ {b o v},(G.cut k h r).com b o=some v->G.com b o=some v:=by
  intro b o v h;simp only[Gh.cut]at h;split at h
  ·cases h
  ·exact h
 have hroom:∀ {t q},(G.cut k h r).tk t=some (.room q)->(t=G.nx/\q={r with m:=h})\/(t≠k/\t≠G.nx/\G.tk t=some (.room q)/\q.b≠r.b):=by
  intro t q h;simp only[Gh.cut]at h;split at h
  ·cases h
  ·rename_i htk;split at h
   ·rename_i ht;cases h;exact .inl ⟨ht,rfl⟩
   ·rename_i ht;exact .inr ⟨htk,ht,h,fun e=>htk (hI.apart t k q r h hr e)⟩
 have hob:∀ s b,G.ob s=some b->b≠r.b:=by
  intro s b hb e;have:=(hI.obs s b hb).2.2;rw[e,hsh]at this;cases this
 have stay:∀ {p:PV} {v:Value},R G p v->R (G.cut k h r) (bV [k] p) v:=fun hR=>hR.rn hrn rfl;refine⟨⟨fun b o v h=>hI.com b o v (hcomAt h),fun b e n h=>hI.sh b e n h,by simp[Gh.cut,ic,St.more,hnx],fun t x hx=>?_,fun t ht=>?_,fun t q hq=>?_,fun t u q q' h1 h2 hb=>?_,fun t q hq=>?_,fun s cs h=>?_,fun s b h=>?_,hI.obj,fun s h=>?_,fun s cs h=>?_,fun b j h=>?_,hI.xpl,fun b o v h=>?_,hI.oes,fun s es h=>?_,hI.mbs,hI.mbi,fun s h=>?_,fun s b h=>?_,fun t m h=>?_⟩,
  ⟨⟨fun b o v h hp=>?_,fun _ _ h=>h,rfl⟩,aE _,fun _ _ _ _ _=>rfl,fun s b h=> .inl ⟨s,h⟩,fun t q hq=>?_,fun b o v h=> .inl (hcomAt h),fun _ _ h=> .inl h,fun b j h=>?_,fun s b h=> .inl ⟨s,h⟩,⟨rfl,rfl⟩⟩⟩
 ·simp only[Gh.cut]at hx;split at hx
  ·rename_i e;cases hx;subst e;exact⟨by simp[ic,St.more];omega,by simp[ic,mi.cnt]⟩
  ·rename_i htk;split at hx
   ·rename_i e;cases hx;subst e;refine⟨by simp[ic,St.more];omega,?_⟩;have:¬ (st.nx=k):=by omega
    simp[ic,St.more,this,hnx,mi.cnt]
   ·obtain⟨h1,h2⟩:=hI.cnt t x hx;refine⟨by simp[ic,St.more];omega,?_⟩;simp[ic,St.more,htk,h1,h2]
 ·by_cases e:t=k
  ·exact⟨.full 0,by simp[Gh.cut,e]⟩
  ·by_cases e':t=G.nx
   ·exact⟨.room {r with m:=h},by simp only[Gh.cut,ad e,ak e']⟩
   ·obtain⟨x,hx⟩:=hI.live t (by simp[ic,St.more]at ht;omega);exact⟨x,by simp only[Gh.cut,ad e,ad e'];exact hx⟩
 ·rcases hroom hq with⟨rfl,rfl⟩|⟨h1,h2,h3,h4⟩
  ·exact⟨hsh,hcm,hh,hsz,fun o ho=>by simp only[Gh.cut];rw[ak ⟨trivial,ho⟩],hxr⟩
  ·obtain⟨g1,g2,g3,g4,g5,g6⟩:=hI.room t q h3;exact⟨g1,g2,g3,g4,fun o ho=>by simp only[Gh.cut];rw[ad fun e=>h4 e.1];exact g5 o ho,g6⟩
 ·rcases hroom h1 with⟨rfl,rfl⟩|⟨a1,a2,a3,a4⟩<;>rcases hroom h2 with⟨rfl,rfl⟩|⟨b1,b2,b3,b4⟩
  ·rfl
  ·exact absurd hb.symm b4
  ·exact absurd hb a4
  ·exact hI.apart t u q q' a3 b3 hb
 ·rcases hroom hq with⟨rfl,rfl⟩|⟨h1,h2,h3,h4⟩
  ·refine⟨fun _=>by simp[Gh.cut],fun j hj=>?_⟩;simp[Gh.cut]at hj;exact hj.symm
  ·simp only[Gh.cut,ad h4];exact hI.priv t q h3
 ·simp only[ic,ix,am]at h;obtain⟨c0,h1,rfl⟩:=h;obtain⟨b,e,us,h2,h3,h4⟩:=hI.objs s c0 h1;refine⟨b,e,us,h2,h3,by rw[b8];exact h4.1,fun j p u hp hu=>?_,h4.2.2⟩;rw[de,am]at hp;obtain⟨q,hq,rfl⟩:=hp;exact stay (h4.2.1 j q u hq hu)
 ·obtain⟨h1,h2,h3⟩:=hI.obs s b h;refine⟨h1,fun o=>?_,h3⟩;simp only[Gh.cut];rw[ad fun e=>hob s b h e.1];exact h2 o
 ·simp only[ic,ix,eZ]at h;exact hI.nob s h
 ·simp only[ic,ix,am]at h;obtain⟨c0,h1,rfl⟩:=h;exact CH (hI.npo s c0 h1)
 ·simp only[Gh.cut]at h;split at h
  ·rename_i e;rw[e];exact hbl
  ·exact hI.pvl b j h
 ·obtain⟨h1,h2,h3⟩:=hI.base b o v h;have hb:b≠r.b:=by rintro rfl;rw[hpv]at h2;cases h2
  simp only[Gh.cut];exact⟨by rw[ad fun e=>hb e.1];exact h1,by rw[ad hb];exact h2,h3⟩
 ·simp only[ic,kl,am]at h;obtain⟨e0,h0,rfl⟩:=h;obtain⟨b,vs,clk,h1,h2,h3,h4⟩:=hI.mobj s e0 h0;refine⟨b,vs,clk,h1,h2,⟨by rw[b8];exact h3.1,fun i q x hq hx=>?_⟩,fun q hq=>?_⟩
  ·rw[de,am]at hq;obtain⟨q0,hq0,rfl⟩:=hq;obtain⟨g1,g2⟩:=h3.2 i q0 x hq0 hx;exact⟨g1,stay g2⟩
  ·obtain⟨q0,hq0,rfl⟩:=cA.1 hq;exact yj (h4 q0 hq0)
 ·simp only[ic,kl,eZ]at h;exact hI.nomb s h
 ·obtain⟨h1,h2⟩:=hI.obx s b h;simp only[Gh.cut,ad (hob s b h)];exact⟨h1,h2⟩
 ·simp only[Gh.cut]at h;split at h
  ·cases h;rfl
  ·split at h
   ·cases h
   ·exact hI.ful t m h
 ·have hb:b≠r.b:=by rintro rfl;rw[hpv]at hp;cases hp
  simp only[Gh.cut];exact⟨by rw[ad fun e=>hb e.1];exact h,by rw[ad hb];exact hp⟩
 ·rcases hroom hq with⟨rfl,rfl⟩|⟨h1,h2,h3,h4⟩
  ·exact .inl ⟨k,r,hr,rfl⟩
  ·exact .inl ⟨t,q,h3,rfl⟩
 ·simp only[Gh.cut]at h;split at h
  ·rename_i e;exact .inl ⟨k,by rw[e];exact hpv⟩
  ·exact .inl ⟨j,h⟩
def FG(hI:bz P B G st w){st':St}{p x y:PV}{xv yv:Value}{t ty e:Nat}(hx:R G x xv)(hy:R G y yv)(htx:cz x=true)(hty:cz y=true)(hu:P.underlying t=some (.slice e))
  {i:TypeInfo} (hi:P.info? e=some i) {zs:List PV} (hz:gb P e=some zs) (hzl:zs.length=i.size)
  (h:DB e i.size i.bytes x y st=some (p,st')):∃ v w' G',(Builtin.append_ #[t,t] ty #[xv,yv]).run P w= .ok v w'/\R G' p v/\bz P B G' st' w'/\Le G G'/\cu G w G' w'/\G'.bx=G.bx/\cz p=true:=by
 unfold DB at h;split at h
 ·rename_i n cs tk m ds ty';split at h
  ·rename_i hb;obtain⟨hc,hcs,hds,hby,hnm,h0⟩:=hb;have hres:p= .list (n+m) (cs++ds) (.own (gk st tk) e)/\st'=jv st (n+m) tk/\HS e tk/\∀ e',tk= .full e'->0<m\/n=0:=by
    cases tk with
    |no=>simp[hH]at hc
    |sub k=>simp[hH]at hc
    |el k e n=>simp[hH]at hc
    |nil=>cases h;exact⟨rfl,rfl,trivial,fun _ h=>by cases h⟩
    |full e'=>
     simp only at h;split at h
     ·rename_i he;cases h;exact⟨rfl,rfl,he.1,fun _ _=>he.2⟩
     ·cases h
    |own k e'=>
     simp only at h;split at h
     ·rename_i he;cases h;exact⟨rfl,rfl,he,fun _ h=>by cases h⟩
     ·cases h
   obtain⟨rfl,rfl,hex,hfu⟩:=hres;obtain⟨v,w',G',hrun,hR',hI',hL',hS',hob⟩:=rR (ty:=ty) hI hu hi hz hzl hx hy hc hex hcs hds hby hnm h0 hfu;refine⟨v,w',G',hrun,hR',hI',hL',hS',hob,fy ?_⟩;have h1:aI cs=true:=by simpa [cz,gx,np,off,aI]using htx
   have h2:aI ds=true:=by simpa [cz,gx,np,off,aI]using hty
   have:=io h1 h2;simpa [np,off,aI]using this
  ·cases h
 ·cases h
end
section
variable {G:Gh} {nt:Nat} {fr:Fr} {st st':St} {w:World} {a:Act} {o:Oper} {d:Option Nat} {cf:aA} {p:PV}
def LF(hI:bz P B G st w)(hF:eT G nt fr a){t e:Nat}{x y:Operand}(hop:o.op= .call {callee:= .builtin .append,args:= #[x,y],argTypes:= #[t,t]})(hu:P.underlying t=some (.slice e))
  {cx cy:CX} (hx:bC x=some cx) (hy:bC y=some cy) {i:TypeInfo} (hi:P.info? e=some i) {zs:List PV} (hz:gb P e=some zs) (hzl:zs.length=i.size)
  (h:aw cf fr st d (.apc e i.size i.bytes cx cy)=some (p,st')):∃ v w' G',(execOp a.eval o).run P w= .ok (.value v) w'/\R G' p v/\cz p=true/\bz P B G' st' w'/\cu G w G' w'/\(∀ s,G'.bx s=G.bx s)/\
   ∀ t,R G' (bV (lY (cx.ev fr) (cy.ev fr) st) (fr t)) (a.tmps.getD t undef)/\cz (bV (lY (cx.ev fr) (cy.ev fr) st) (fr t))=true:=by
 have hR:=cE hF hx;have hRy:=cE hF hy;have htx:=eB hF hx;have hty:=eB hF hy;simp only[aw]at h;simp only[execOp,hop,resolve,invoke,builtin];generalize hxe:a.eval x=xv at hR;generalize hye:a.eval y=yv at hRy;generalize cx.ev fr=px at*;generalize cy.ev fr=py at*;have plain:DB e i.size i.bytes px py st=some (p,st')->lY px py st=[]->∃ v w' G',(Builtin.append_ #[t,t] o.type #[xv,yv]).run P w= .ok v w'/\R G' p v/\cz p=true/\bz P B G' st' w'/\cu G w G' w'/\(∀ s,G'.bx s=G.bx s)/\
   ∀ t,R G' (bV (lY px py st) (fr t)) (a.tmps.getD t undef)/\cz (bV (lY px py st) (fr t))=true:=by
  intro h1 h2;obtain⟨v,w',G',hrun,hR',hI',hL',hS',hob,ht⟩:=FG (ty:=o.type) hI hR hRy htx hty hu hi hz hzl h1;refine⟨v,w',G',hrun,hR',ht,hI',hS',fun s=>by rw[hob],fun t=>?_⟩;rw[h2,pm];exact⟨(hF.2.1 t).mono hL' (fun _=>by rw[hob]),hF.2.2 t⟩
 have goal:∃ v w' G',(Builtin.append_ #[t,t] o.type #[xv,yv]).run P w= .ok v w'/\R G' p v/\cz p=true/\bz P B G' st' w'/\cu G w G' w'/\(∀ s,G'.bx s=G.bx s)/\
   ∀ t,R G' (bV (lY px py st) (fr t)) (a.tmps.getD t undef)/\cz (bV (lY px py st) (fr t))=true:=by
  unfold yK at h;cases px with
  |list n cs tk=>
   cases tk with
   |el k e' c=>
    by_cases hc:0<c/\k<st.nx/\st.cnt k=c/\st.fl<=k/\dw ([k].contains ·) cs=true/\tf ([k].contains ·) py=true
    ·have hJ:lY (.list n cs (.el k e' c)) py st=[k]:=by simp only[lY];rw[ak hc]
     rw[hJ]at h;simp only at h;obtain⟨c1,c2,c3,c4,c5,c6⟩:=hc;obtain⟨y0,hy0⟩:=hI.live k c2;have hcnt:=(hI.cnt k y0 hy0).2;rw[c3]at hcnt;cases y0 with
     |full m=>
      have:=hI.ful k m hy0;subst this;simp only[mi.cnt]at hcnt;omega
     |room r=>
     cases hR with
     |listN _ ht=>
      have ht:c=0:=ht;omega
     |list _ _ _ b o' cap us hn hl hcm hr h1 ht hp hx'=>
      obtain⟨-,hm⟩:=ht.2 _ hy0;obtain⟨rfl,rfl,rfl,hre,hlen⟩:=hm hcnt;obtain⟨hI1,hS1⟩:=hI.cut hy0 c4 hn;have hrn:=Hs (h:=n) hI hy0 c4;have hnx:=hI.nx;have hxr:=(hI.room k r hy0).2.2.2.2.2;have hks:∀ {q:PV} {v:Value},R G q v->R (G.cut k n r) (bV [k] q) v:=fun hq=>hq.rn hrn rfl;have hRx:R (G.cut k n r) (.list n cs (.own st.nx e')) (.slice (some ⟨r.b,0,none⟩) n r.cap):=by
       refine .list n cs _ r.b 0 r.cap us hn hl (fun j u hu=>?_) (fun j q u hq hu=>?_) h1 ⟨by show st.nx<G.nx+1;omega,fun x hx=>?_⟩ (fun j _ hj=>?_) (fun _ _=>hxr)
       ·have hlt:=(br.1 hu).1;show(if r.b=r.b/\n*r.sz<=0+j then none else G.com r.b (0+j))=some u;rw[ad (by omega)];exact hcm j u hu
       ·have:=hks (hr j q u hq hu);rwa [bV,ak (kK c5 hq)]at this
       ·have hne:st.nx≠k:=by omega
        simp only[Gh.cut,ad hne,hnx,if_true]at hx;cases hx;exact⟨aE _,fun _=>⟨rfl,rfl,rfl,hre,hlen⟩⟩
       ·simp[Gh.cut]at hj;rw[<-hj,hnx];rfl
      have hRy1:R (G.cut k n r) py yv:=by
       have:=hks hRy;rwa [bV,ak c6]at this
      obtain⟨v,w',G',hrun,hR',hI',hL',hS',hob,htp⟩:=FG (ty:=o.type) hI1 hRx hRy1 (show cz (.list n cs (.own st.nx e'))=true by simpa [cz,gx,np,off,aI]using htx) hty hu hi hz hzl h;refine⟨v,w',G',hrun,hR',htp,hI',hS1.trans hS',fun s=>by rw[hob];rfl,fun t=>?_⟩;rw[hJ];exact⟨(hks (hF.2.1 t)).mono hL' (fun _=>by rw[hob]),rJ (hF.2.2 t)⟩
    ·have hJ:lY (.list n cs (.el k e' c)) py st=[]:=by simp only[lY];rw[ad hc]
     rw[hJ]at h;exact plain h hJ
   |_=>exact plain h rfl
  |_=>exact plain h rfl
 obtain⟨v,w',G',hrun,hrest⟩:=goal;exact⟨v,w',G',by simp[hxe,hye,hrun],hrest⟩
end
def BY(b:Bool):ew->ew
 | .store sz a x=>if b then .stx sz a x else .store sz a x
 |c=>c
def B9(b:Bool):ew->ew
 | .app e sz by' x y=>if b then .apc e sz by' x y else .app e sz by' x y
 |c=>c
def Ay(P:Program)(M:Nat->List Nat):Op->Option ew
 | .call {callee:= .value (.func f),args:=as,argTypes:=_}=>if f<1000000 then(if(M f).contains 1000 then(pO as.toList).map (.callU f ·)else(pO as.toList).map (.call f · (M f)))else none
 | .call {callee:= .value (.tmp t),args:=as,argTypes:=_}=>(pO as.toList).map (.cval (.sl t))
 |op=>(kq P op).map fun c=>B9 (!(M 1000003).isEmpty) (BY (!(M 1000002).isEmpty) c)
def wv(ops:Array Oper):Option (Nat×Bool)->Option (Option (Nat×Bool))
 |none=>some none
 |some (j,b)=>match (ops[j]?).bind (·.dst)with
  |some s=>some (some (s,b))
  |none=>none
def GI(nt nk:Nat)(c:ew):Option Nat->Bool
 |some d=>decide (d<nt) && (!jM c||decide (nk<=d))
 |none=>!jM c
def qT(M:Nat->List Nat):Bool:=!(M 1000001).isEmpty
def oB(kp:Bool)(a' a:Act):Prop:=a'.defers=a.defers/\(kp=true->a'.tmps.getD 0 undef=a.tmps.getD 0 undef)
def oB.refl{kp:Bool}{a:Act}:oB kp a a:=⟨rfl,fun _=>rfl⟩
def oB.trans{kp:Bool}{a b c:Act}(h:oB kp c b)(k:oB kp b a):oB kp c a:=⟨h.1.trans k.1,fun e=>(h.2 e).trans (k.2 e)⟩
def sF(P:Program)(M:Nat->List Nat)(nt nk:Nat)(ops:Array Oper)(o:Oper):Option bS:=
 match Ay P M o.op,wv ops o.guard with
 |some c,some g=>
  if GI nt nk c o.dst && (!qT M||o.dst !=some 0)then some {g:=g,d:=o.dst,op:=c}else none
 |_,_=>none
def vd{G:Gh}{nt:Nat}{fr:Fr}{a:Act}(hF:eT G nt fr a):∀ {xs:List Operand} {cs:List CX},pO xs=some cs->
  cs.length=xs.length/\∀ (j:Nat) p v,(cs.map (·.ev fr))[j]? =some p->(xs.map a.eval)[j]? =some v->R G p v/\cz p=true
 | [],cs,h=>by cases h;exact⟨rfl,fun j p v hp=>by simp at hp⟩
 |x::xs,cs,h=>by
  unfold pO at h;split at h
  ·rename_i c cs' hx hxs;cases h;obtain⟨hl,hr⟩:=vd hF hxs;refine⟨by simp[hl],fun j p v hp hv=>?_⟩;cases j with
   |zero=>
    simp at hp hv;subst hp;subst hv;exact⟨cE hF hx,eB hF hx⟩
   |succ j=>exact hr j p v (by simpa using hp) (by simpa using hv)
  ·cases h
def A9(s:Nat){p:PV}(h:cz p=true):cz (eA s p)=true:=by
 cases p with
 |ptr k o=>simp only[eA];split<;>first|rfl|exact h
 |osl e sz k n=>simp only[eA];split<;>first|rfl|exact h
 |mp k=>simp only[eA];split<;>first|rfl|exact h
 |fn f cs=>simp only[eA];split<;>first|rfl|exact h
 |_=>simp only[eA];exact h
section
variable {G:Gh} {nt:Nat} {fr:Fr} {st st':St} {w:World} {a:Act} {o:Oper} {d:Option Nat} {cf:aA} {p:PV}
def Ba{G:Gh}(s:Nat){p:PV}{v:Value}(h:R G p v):R G (eA s p) v:=by
 cases p with
 |ptr k o=>simp only[eA];split<;>first|exact .any v|exact h
 |osl e sz k n=>simp only[eA];split<;>first|exact .any v|exact h
 |mp k=>simp only[eA];split<;>first|exact .any v|exact h
 |fn f cs=>simp only[eA];split<;>first|exact .any v|exact h
 |_=>simp only[eA];exact h
def eT.put(hF:eT G nt fr a){fr1:Fr}(hd:∀ s,d=some s->s<nt){G':Gh}(key:∀ t,R G' (fr1 t) (a.tmps.getD t undef)/\cz (fr1 t)=true){v:Value}(hR:R G' p v)(ht:cz p=true):
  eT G' nt (PM.put fr1 d p) (a.put d v):=by
 obtain⟨h1,h2,h3⟩:=hF;cases d with
 |none=>exact⟨h1,fun t=>(key t).1,fun t=>(key t).2⟩
 |some s=>
  have hs:=hd s rfl;refine⟨by simp[Act.put];exact h1,fun t=>?_,fun t=>?_⟩
  ·simp only[PM.put,xq,Act.put];by_cases htS:t=s
   ·subst htS;rw[ak rfl];have hlt:t<a.tmps.size:=by omega
    rw[bH,iW hlt];exact hR
   ·rw[ad htS];have:=(key t).1;rw[bH]at this ⊢;rwa [iD (Ne.symm htS)]
  ·simp only[PM.put,xq];split
   ·exact ht
   ·exact(key t).2
def quiet(c:ew):Bool:=!jM c && (match c with| .call .. =>false| .callU .. =>false| .stx .. =>false| .apc .. =>false|_=>true)
def tN{c:ew}(h:quiet c=true)(d:Option Nat)(st:St)(fr:Fr):cJ cf c d st fr=fr:=by
 cases c<;>cases d<;>first|rfl|(simp[quiet,jM]at h)
def D9{c:ew}(h:jM c=true)(s:Nat)(st:St)(fr:Fr):cJ cf c (some s) st fr=fun t=>eA s (fr t):=by
 cases c<;>first|rfl|(simp[jM]at h)
def Gm{c:ew}(h:jM c=true)(st:St)(fr:Fr):cJ cf c none st fr=fr:=by
 cases c<;>first|rfl|(simp[jM]at h)
def zp(f:Nat)(as:List CX)(mv:List Nat)(d:Option Nat)(st:St)(fr:Fr):cJ cf (.call f as mv) d st fr=fun t=>bV (cD (as.map (·.ev fr)) mv st) (fr t):=by
 cases mv with
 |nil=>funext t;simp only[cJ,cD,pm]
 |cons m mv=>rfl
def GA(hF:eT G nt fr a){c:ew}(hc:∀ f as mv,c≠ .call f as mv)(hc2:∀ f as,c≠ .callU f as)(hc3:∀ sz x y,c≠ .stx sz x y)(hc4:∀ e sz b x y,c≠ .apc e sz b x y){G':Gh}(hL:Le G G')(hob:∀ s,(jM c=true/\d=some s)\/G'.bx s=G.bx s)(st:St):
  ∀ t,R G' (cJ cf c d st fr t) (a.tmps.getD t undef)/\cz (cJ cf c d st fr t)=true:=by
 obtain⟨h1,h2,h3⟩:=hF;intro t;cases hm:jM c with
 |true=>
  cases d with
  |none=>
   rw[Gm hm];exact⟨(h2 t).mono hL (fun k=>by
    rcases hob k with⟨_,h⟩|h
    ·cases h
    ·exact h),h3 t⟩
  |some s=>
   rw[D9 hm];refine⟨(Ba s (h2 t)).le hL (fun k=>decide (k=s)) (fun k hk=>?_) (CP s (fr t) (h3 t)),A9 s (h3 t)⟩;rcases hob k with⟨_,h⟩|h
   ·cases h;simp at hk
   ·exact h
 |false=>
  have hq:quiet c=true:=by
   unfold quiet;rw[hm];cases c<;>first|rfl|exact absurd rfl (hc _ _ _)|exact absurd rfl (hc2 _ _)|exact absurd rfl (hc3 _ _ _)|exact absurd rfl (hc4 _ _ _ _ _)
  rw[tN hq];refine⟨(h2 t).mono hL (fun k=>?_),h3 t⟩;rcases hob k with⟨hm',_⟩|h
  ·rw[hm]at hm';cases hm'
  ·exact h
def eT.skip(hF:eT G nt fr a)(hd:∀ s,d=some s->s<nt):eT G nt (PM.put fr d .hole) (a.put d undef):=by
 obtain⟨h1,h2,h3⟩:=hF;cases d with
 |none=>exact⟨h1,h2,h3⟩
 |some s=>
  have hs:=hd s rfl;refine⟨by simp[Act.put];exact h1,fun t=>?_,fun t=>?_⟩
  ·simp only[PM.put,xq,Act.put];by_cases htS:t=s
   ·subst htS;rw[ak rfl];have hlt:t<a.tmps.size:=by omega
    rw[bH,iW hlt];exact .hole
   ·rw[ad htS];have:=h2 t;rw[bH]at this ⊢;rwa [iD (Ne.symm htS)]
  ·simp only[PM.put,xq];split
   ·rfl
   ·exact h3 t
def Cw{kp:Bool}(a:Act){d:Option Nat}(v:Value)(h:kp=true->d≠some 0):oB kp (a.put d v) a:=by
 refine⟨by cases d<;>rfl,fun e=>?_⟩
 cases d with
 |none=>rfl
 |some s=>
  have hs:s≠0:=by rintro rfl;exact h e rfl
  simp only[Act.put];rw[bH,bH,iD hs]
def Dc{op:Op}{f:Nat}{as:List CX}(h:kq P op=some (.callU f as)):False:=by
 unfold kq at h;split at h
 all_goals repeat' (first|(cases h;done)|(simp only[am]at h;obtain⟨_,_,h⟩:=h;cases h;done)|(split at h))
def GL{op:Op}{sz:Nat}{x y:CX}(h:kq P op=some (.stx sz x y)):False:=by
 unfold kq at h;split at h
 all_goals repeat' (first|(cases h;done)|(simp only[am]at h;obtain⟨_,_,h⟩:=h;cases h;done)|(split at h))
def GM{op:Op}{e sz by':Nat}{cx cy:CX}(h:kq P op=some (.app e sz by' cx cy)):∃ t x y i zs,op= .call {callee:= .builtin .append,args:= #[x,y],argTypes:= #[t,t]}/\P.underlying t=some (.slice e)/\bC x=some cx/\bC y=some cy/\P.info? e=some i/\gb P e=some zs/\zs.length=i.size/\sz=i.size/\by'=i.bytes:=by
 unfold kq at h;split at h
 all_goals repeat' (first|(cases h;done)|(simp only[am]at h;obtain⟨_,_,h⟩:=h;cases h;done)|(rename_i hb;obtain⟨rfl,hzl⟩:=hb;cases h;exact⟨_,_,_,_,_,rfl,jW (by assumption),by assumption,by assumption,by assumption,by assumption,hzl,rfl,rfl⟩)|(split at h))
def GN{op:Op}{e sz b:Nat}{x y:CX}(h:kq P op=some (.apc e sz b x y)):False:=by
 unfold kq at h;split at h
 all_goals repeat' (first|(cases h;done)|(simp only[am]at h;obtain⟨_,_,h⟩:=h;cases h;done)|(split at h))
def Db{op:Op}{sz:Nat}{cx cy:CX}(h:kq P op=some (.store sz cx cy)):∃ t x y,op= .store t x y/\bC x=some cx/\bC y=some cy/\fK P t=some sz:=by
 unfold kq at h;split at h
 all_goals repeat' (first|(cases h;done)|(simp only[am]at h;obtain⟨_,_,h⟩:=h;cases h;done)|(cases h;exact⟨_,_,_,rfl,by assumption,by assumption,by assumption⟩)|(split at h))
def Eh{op:Op}{f:Nat}{as:List CX}{mv:List Nat}(h:kq P op=some (.call f as mv)):False:=by
 unfold kq at h;split at h
 all_goals repeat' (first|(cases h;done)|(simp only[am]at h;obtain⟨_,_,h⟩:=h;cases h;done)|(split at h))
def LG{M:Nat->List Nat}(hcf:ja P B cf)(hI:bz P B G st w)(hF:eT G nt fr a){c:ew}(hc:Ay P M o.op=some c)(hd:∀ s,o.dst=some s->s<nt)(h:aw cf fr st o.dst c=some (p,st')){next:Act->World->Prop}{Q:Exit->Act->World->Prop}
  (hn:∀ v w' G',bz P B G' st' w'->cu G w G' w'->eT G' nt (PM.put (cJ cf c o.dst st fr) o.dst p) (a.put o.dst v)->(∀ s,(jM c=true/\o.dst=some s)\/G'.bx s=G.bx s)->next (a.put o.dst v) w'):o.wp P a w next Q:=by
 unfold Ay at hc;split at hc
 ·rename_i f as tys hop;split at hc
  ·rename_i hfl;have hargs:as.map a.eval=(as.toList.map a.eval).toArray:=by apply Array.ext';simp
   have hrun:∀ {fn:Func} {bd:Code},P.funcs[f]? =some fn->fn.name≠ "runtime.NumGoroutine" ->fn.body=some bd->(execOp a.eval o).run P w= .ok (.enter f (as.toList.map a.eval).toArray) w:=by
    intro fn bd hfn hname hb;rw[<-hargs];simp[execOp,hop,resolve,Act.eval,Deferred.ofValue,invoke,callFunc,go_sem,hfn,hname,hb]
   split at hc
   ·simp only[am]at hc;obtain⟨cs,hcs,rfl⟩:=hc;obtain⟨hl,hR⟩:=vd hF hcs;simp only[aw]at h;split at h
    ·rename_i r p' st1 hu;split at h
     ·rename_i hmk;simp only[bo,cn]at h;obtain⟨rfl,rfl⟩:=h;obtain⟨⟨fn,hfn,hname,hbody⟩,hnp,hC⟩:=Ei hcf hI hfl (vs:=as.toList.map a.eval) (by simp[hl]) hR hu hmk;obtain⟨bd,hb⟩:=bW.1 hbody;unfold Oper.wp;rw[hrun hfn hname hb,Oper.upon_enter];refine hC.mono ?_;rintro e w' ⟨v,G',rfl,hR',hI',hS',hst,hob⟩;have hob':∀ s,(jM (.callU f cs)=true/\o.dst=some s)\/G'.bx s=G.bx s:=fun s=> .inr (by rw[hob]);refine hn v w' G' hI' hS' (hF.put hd (fun t=>?_) hR' (fy hnp)) hob';have:=hst _ _ (hF.2.1 t) (hF.2.2 t);rw[<-hu]at this;exact this
     ·cases h
    ·cases h
   ·simp only[am]at hc;obtain⟨cs,hcs,rfl⟩:=hc;obtain⟨hl,hR⟩:=vd hF hcs;simp only[aw]at h;obtain⟨hE,hnp,hC⟩:=qX hcf hI (vs:=as.toList.map a.eval) (by simp[hl]) hR h;rw[nJ hfl]at hE hC;obtain⟨fn,hfn,hname,hbody⟩:=hE;obtain⟨bd,hb⟩:=bW.1 hbody;unfold Oper.wp;rw[hrun hfn hname hb,Oper.upon_enter];refine hC.mono ?_;rintro e w' ⟨v,G',hret,hR',hI',hS',hst,hob,-⟩;rw[nz hfl]at hret;subst hret;have hob':∀ s,(jM (.call f cs (M f))=true/\o.dst=some s)\/G'.bx s=G.bx s:=fun s=> .inr (by rw[hob]);refine hn v w' G' hI' hS' (hF.put hd (fun t=>?_) hR' (fy hnp)) hob';rw[zp];exact⟨(hF.2.1 t).rn hst hob,rJ (hF.2.2 t)⟩
  ·cases hc
 ·rename_i t as tys hop;simp only[am]at hc;obtain⟨cs,hcs,rfl⟩:=hc;obtain⟨hl,hR⟩:=vd hF hcs;have hRf:R G (fr t) (a.eval (.tmp t)):=hF.2.1 t;have htf:=hF.2.2 t;simp only[aw,CX.ev]at h;generalize hfe:a.eval (.tmp t)=fv at hRf;split at h
  ·rename_i g cap e;rw[e]at hRf htf;split at h;rotate_left
   ·cases h
   rename_i hgl;cases hRf with
   |fn _ _ caps hlc hrc=>
   have hl':cs.length=as.size:=by simpa using hl
   have hcap:∀ (j:Nat) (q:PV),cap[j]? =some q->cz q=true:=by
    intro j q hq;simp only[cz,bX]at htf;have:=htf q (bQ hq);simp only[cF]at this;rcases this with h|h
    ·cases q<;>first|rfl|(simp[gx]at h)
    ·exact fy h
   obtain⟨hE,hnp,hC⟩:=qX hcf hI (vs:=as.toList.map a.eval++caps) (by simp[hl,hlc]) (fun j q v hq hv=>by
    by_cases hj:j<cs.length
    ·rw[bL (by simpa using hj)]at hq;rw[bL (by simp;omega)]at hv;exact hR j q v hq hv
    ·rw[cp (by simp;omega)]at hq;rw[cp (by simp;omega)]at hv;simp only[b8,ep,hl']at hq hv;exact⟨hrc _ q v hq hv,hcap _ q hq⟩) h
   rw[nJ hgl]at hE hC;obtain⟨fn,hfn,hname,hbody⟩:=hE;obtain⟨bd,hb⟩:=bW.1 hbody;have hargs:as.map a.eval++caps.toArray=(as.toList.map a.eval++caps).toArray:=by
    apply Array.ext';simp
   have hrun:(execOp a.eval o).run P w= .ok (.enter g (as.toList.map a.eval++caps).toArray) w:=by
    rw[<-hargs];have hfe':a.tmps[t]?.getD undef= .func (.func g) #[] caps.toArray:=by rw[<-bH];exact hfe
    simp[execOp,hop,resolve,hfe',Deferred.ofValue,invoke,callFunc,go_sem,hfn,hname,hb]
   unfold Oper.wp;rw[hrun,Oper.upon_enter];refine hC.mono ?_;rintro e' w' ⟨v,G',hret,hR',hI',hS',hst,hob,-⟩;rw[nz hgl]at hret;subst hret;have hob':∀ s,(jM (.cval (.sl t) cs)=true/\o.dst=some s)\/G'.bx s=G.bx s:=fun s=> .inr (by rw[hob]);refine hn v w' G' hI' hS' (hF.put hd (fun u=>?_) hR' (fy hnp)) hob';rw[tN rfl];have:=(hF.2.1 u).rn hst hob;simp only[cD,pm]at this;exact⟨this,hF.2.2 u⟩
  ·cases h
 ·simp only[am]at hc;obtain⟨c0,hc0,rfl⟩:=hc;have plain:B9 (!(M 1000003).isEmpty) (BY (!(M 1000002).isEmpty) c0)=c0->o.wp P a w next Q:=by
   intro hs;rw[hs]at h hn;obtain⟨⟨y,v,w',G',hrun,hy,hR',hI',hL',hS',hob⟩,ht⟩:=JH hI hF hc0 h;have hcc:∀ f as mv,c0≠ .call f as mv:=by
    rintro f as mv rfl;exact Eh hc0
   have hcc2:∀ f as,c0≠ .callU f as:=by
    rintro f as rfl;exact Dc hc0
   have hcc3:∀ sz x y,c0≠ .stx sz x y:=by
    rintro sz x y rfl;exact GL hc0
   have:=hn v w' G' hI' hS' (hF.put hd (GA hF hcc hcc2 hcc3 (by rintro e sz b x y rfl;exact GN hc0) hL' hob st) hR' ht) hob;unfold Oper.wp;rw[hrun];rcases hy with rfl|⟨rfl,rfl⟩
   ·exact this
   ·exact this
  cases c0 with
  |store sz cx cy=>
   cases hb:(!(M 1000002).isEmpty)with
   |false=>exact plain (by rw[hb];rfl)
   |true=>
    rw[hb]at h hn;have hap:B9 (!(M 1000003).isEmpty) (BY true (.store sz cx cy))= .stx sz cx cy:=rfl;rw[hap]at h hn;obtain⟨t,x,y,hop,hx,hy,hs⟩:=Db hc0;obtain⟨rfl,w',G',hrun,hI',hS',hob,hfr⟩:=Lz hI hF hop hx hy hs h;have:=hn undef w' G' hI' hS' (hF.put hd (fun t=>hfr t) .hole rfl) (fun s=> .inr (hob s));unfold Oper.wp;rw[hrun];exact this
  |app e sz by' cx cy=>
   cases hb:(!(M 1000003).isEmpty)with
   |false=>exact plain (by rw[hb];rfl)
   |true=>
    rw[hb]at h hn;have hap:B9 true (BY (!(M 1000002).isEmpty) (.app e sz by' cx cy))= .apc e sz by' cx cy:=rfl;rw[hap]at h hn;obtain⟨t,x,y,i,zs,hop,hu,hx,hy,hi,hz,hzl,rfl,rfl⟩:=GM hc0;obtain⟨v,w',G',hrun,hR',htp,hI',hS',hob,hfr⟩:=LF hI hF hop hu hx hy hi hz hzl h;have:=hn v w' G' hI' hS' (hF.put hd (fun t=>hfr t) hR' htp) (fun s=> .inr (hob s));unfold Oper.wp;rw[hrun];exact this
  |_=>exact plain rfl
def vF(hF:eT G nt fr a){ops:Array Oper}{g:Option (Nat×Bool)}(hg:wv ops o.guard=some g){b:Bool}(h:eE fr g=some b):Region.wanted o (yielded ops a.tmps)=b:=by
 unfold Region.wanted;cases hog:o.guard with
 |none=>
  rw[hog]at hg;cases hg;simp only[eE]at h;cases h;rfl
 |some jw=>
  obtain⟨j,want⟩:=jw;rw[hog]at hg;simp only[wv]at hg;split at hg
  ·rename_i s hs;cases hg;have hR:=hF.2.1 s;simp only[eE]at h;simp only[yielded,hs,dP];split at h
   ·rename_i b' e;rw[e]at hR;cases h;have:a.tmps[s]? =some (.bool b'):=by
     cases hx:a.tmps[s]? with
     |none=>rw[bH,hx]at hR;cases hR
     |some x=>rw[bH,hx]at hR;simp at hR;cases hR;rfl
    rw[this];cases want<;>cases b'<;>rfl
   ·rename_i e;rw[e]at hR;cases h;cases hx:a.tmps[s]? with
    |none=>rfl
    |some x=>rw[bH,hx]at hR;simp at hR;cases hR;rfl
   ·cases h
  ·cases hg
def A1{M:Nat->List Nat}(hcf:ja P B cf)(hI:bz P B G st w)(hF:eT G nt fr a){ops:Array Oper}{nk:Nat}{co:bS}(hc:sF P M nt nk ops o=some co){fr':Fr}(h:dk cf co (fr,st)=some (fr',st'))
  {K:Act->World->Prop} {Q:Exit->Act->World->Prop}
  (hn:∀ a' w' G',bz P B G' st' w'->cu G w G' w'->eT G' nt fr' a'->oB (qT M) a' a->(∀ s,nk<=s\/G'.bx s=G.bx s)->K a' w'):
  if Region.wanted o (yielded ops a.tmps)then o.wp P a w K Q\/(o.asks P a w/\LetsOut Q)else K (a.put o.dst undef) w:=by
 unfold sF at hc;split at hc
 ·rename_i c g hcc hg;split at hc
  ·rename_i hchk0;cases hc;simp only[ae,cF,lN,bne_iff_ne,du]at hchk0;obtain⟨hchk,hkp⟩:=hchk0;have hkeep:qT M=true->o.dst≠some 0:=fun e=>by
    rcases hkp with h|h
    ·rw[e]at h;cases h
    ·exact h
   have hd:∀ s,o.dst=some s->s<nt:=fun s hs=>by
    rw[hs]at hchk;simp only[GI,ae,decide_eq_true_eq]at hchk;exact hchk.1
   have hk:∀ s,jM c=true->o.dst=some s->nk<=s:=fun s hm hs=>by
    rw[hs]at hchk;simp[GI,hm]at hchk;exact hchk.2
   simp only[dk]at h;split at h
   ·rename_i hw;rw[ak (vF hF hg hw)];split at h
    ·rename_i v st1 hrun;cases h;refine .inl (LG hcf hI hF hcc hd hrun fun v w' G' hI' hS' hF' hob=>hn _ w' G' hI' hS' hF' (Cw _ _ hkeep) fun s=>?_);rcases hob s with⟨hm,hs⟩|h
     ·exact .inl (hk s hm hs)
     ·exact .inr h
    ·cases h
   ·rename_i hw;rw[ad (by rw[vF hF hg hw];simp)];cases h;exact hn _ w G hI (cu.refl G w) (hF.skip hd) (Cw _ _ hkeep) fun _=> .inr rfl
   ·cases h
  ·cases hc
 ·cases hc
def nu(P:Program)(M:Nat->List Nat)(nt nk:Nat)(ops:Array Oper):List Oper->Option (List bS)
 | []=>some []
 |o::os=>match sF P M nt nk ops o,nu P M nt nk ops os with
  |some c,some cs=>some (c::cs)
  |_,_=>none
def xA{M:Nat->List Nat}(hcf:ja P B cf){ops:Array Oper}{nk:Nat}{Q:Exit->Act->World->Prop}:∀ {os:List Oper} {cs:List bS} {G:Gh} {fr fr':Fr} {st st':St} {w:World} {a:Act},bz P B G st w->eT G nt fr a->nu P M nt nk ops os=some cs->iI cf cs (fr,st)=some (fr',st')->
  (∀ a' w' G',bz P B G' st' w'->cu G w G' w'->eT G' nt fr' a'->oB (qT M) a' a->(∀ s,nk<=s\/G'.bx s=G.bx s)->Q .normal a' w')->wpList P ops Q os a w
 | [],cs,G,fr,fr',st,st',w,a,hI,hF,hc,h,hn=>by
  cases hc;cases h;exact hn a w G hI (cu.refl G w) hF .refl fun _=> .inr rfl
 |o::os,cs,G,fr,fr',st,st',w,a,hI,hF,hc,h,hn=>by
  unfold nu at hc;split at hc
  ·rename_i c cs' hco hcs;cases hc;simp only[iI]at h;split at h
   ·rename_i y hy;obtain⟨fr1,st1⟩:=y;refine A1 hcf hI hF hco hy fun a1 w1 G1 hI1 hS1 hF1 hd1 hk1=>?_;refine xA hcf hI1 hF1 hcs h fun a2 w2 G2 hI2 hS2 hF2 hd2 hk2=>?_;refine hn a2 w2 G2 hI2 (hS1.trans hS2) hF2 (hd2.trans hd1) fun s=>?_;rcases hk1 s with h1|h1
    ·exact .inl h1
    ·rcases hk2 s with h2|h2
     ·exact .inl h2
     ·exact .inr (h2.trans h1)
   ·cases h
  ·cases hc
end
end Go.PM
namespace Go.PM
def CX.slots:CX->List Nat
 | .sl n=>[n]
 | .k _=>[]
def qw:Option CX->List Nat
 |some x=>x.slots
 |none=>[]
def ew.slots:ew->List Nat
 | .mv x=>x.slots
 | .pick c a b=>c.slots++a.slots++b.slots
 | .alloc _=>[]
 | .box _ x=>x.slots
 | .build _ ps=>ps.flatMap fun q=>q.2.2.slots
 | .bsl _ _ _ _ ps=>ps.flatMap fun q=>q.2.2.slots
 | .load _ _ a=>a.slots
 | .store _ a x=>a.slots++x.slots
 | .stx _ a x=>a.slots++x.slots
 | .callU _ as=>as.flatMap CX.slots
 | .nck x=>x.slots
 | .bin _ x y=>x.slots++y.slots
 | .isnil _ x=>x.slots
 | .beq _ x y=>x.slots++y.slots
 | .un _ x=>x.slots
 | .toInt _ x=>x.slots
 | .s2s x=>x.slots
 | .ext x _=>x.slots
 | .fad _ x=>x.slots
 | .fld _ _ _ x=>x.slots
 | .iad _ x i=>x.slots++i.slots
 | .sidx x i=>x.slots++i.slots
 | .ssl x lo hi=>x.slots++qw lo++qw hi
 | .slc _ x lo hi=>x.slots++qw lo++qw hi
 | .mks _ _ _ _ n c=>n.slots++c.slots
 | .mk0 _ _ _ n c=>n.slots++c.slots
 | .slen x=>x.slots
 | .len x=>x.slots
 | .app _ _ _ x y=>x.slots++y.slots
 | .apc _ _ _ x y=>x.slots++y.slots
 | .b2s x=>x.slots
 | .mkfn _ as=>as.flatMap CX.slots
 | .mkmap=>[]
 | .mpset _ m k v=>m.slots++k.slots++v.slots
 | .mpget _ _ _ m k=>m.slots++k.slots
 | .mplen m=>m.slots
 | .call _ as _=>as.flatMap CX.slots
 | .cval f as=>f.slots++as.flatMap CX.slots
def bO{x:CX}{fr fr2:Fr}(h:∀ t∈x.slots,fr t=fr2 t):x.ev fr=x.ev fr2:=by
 cases x with
 |sl n=>exact h n (by simp[CX.slots])
 |k p=>rfl
def tO{fr fr2:Fr}:∀ {ps:List (Nat×Nat×CX)} {zs:List PV},(∀ t∈ps.flatMap (fun q=>q.2.2.slots),fr t=fr2 t)->kD zs fr ps=kD zs fr2 ps
 | [],zs,_=>rfl
 |(o,s,x)::ps,zs,h=>by
  have h1:x.ev fr=x.ev fr2:=bO fun t ht=>h t (by simp[ht]);simp only[kD,h1];split
  ·split
   ·exact tO fun t ht=>h t (by simp only[bf,ay];exact .inr ht)
   ·rfl
  ·rfl
def zI{fr fr2:Fr}{lo hi:Option CX}(h1:∀ t∈qw lo,fr t=fr2 t)(h2:∀ t∈qw hi,fr t=fr2 t)(n c:Nat):qF lo hi fr n c=qF lo hi fr2 n c:=by
 cases lo with
 |none=>cases hi with
  |none=>rfl
  |some y=>simp only[qF,bO (x:=y) h2]
 |some x=>cases hi with
  |none=>simp only[qF,bO (x:=x) h1]
  |some y=>simp only[qF,bO (x:=x) h1,bO (x:=y) h2]
def mh{fr fr2:Fr}:∀ {as:List CX},(∀ t∈as.flatMap CX.slots,fr t=fr2 t)->as.map (·.ev fr)=as.map (·.ev fr2)
 | [],_=>rfl
 |x::as,h=>by
  simp only[aH];rw[bO (x:=x) fun t ht=>h t (by simp[ht]),mh (as:=as) fun t ht=>h t (by simp only[bf,ay];exact .inr ht)]
def tJ(cf:aA){c:ew}{fr fr2:Fr}(h:∀ t∈c.slots,fr t=fr2 t)(st:St)(d:Option Nat):aw cf fr st d c=aw cf fr2 st d c:=by
 cases c with
 |build zs ps=>simp only[aw,tO (ps:=ps) h]
 |bsl e sz zs n ps=>simp only[aw,tO (ps:=ps) h]
 |call f as mv=>simp only[aw,mh (as:=as) h]
 |mkfn f as=>simp only[aw,mh (as:=as) h]
 |callU f as=>simp only[aw,mh (as:=as) h]
 |stx sz x y=>
  simp only[ew.slots,ay]at h;simp only[aw,bO (x:=x) fun t ht=>h t (.inl ht),bO (x:=y) fun t ht=>h t (.inr ht)]
 |mkmap=>rfl
 |b2s x=>simp only[aw,bO (x:=x) h]
 |mplen x=>simp only[aw,bO (x:=x) h]
 |mpset kk m k v=>
  simp only[ew.slots,ay]at h;simp only[aw,bO (x:=m) fun t ht=>h t (.inl (.inl ht)),bO (x:=k) fun t ht=>h t (.inl (.inr ht)),bO (x:=v) fun t ht=>h t (.inr ht)]
 |mpget ok z kk m k=>
  simp only[ew.slots,ay]at h;simp only[aw,bO (x:=m) fun t ht=>h t (.inl ht),bO (x:=k) fun t ht=>h t (.inr ht)]
 |cval f as=>
  simp only[ew.slots,ay]at h;simp only[aw,bO (x:=f) fun t ht=>h t (.inl ht),mh (as:=as) fun t ht=>h t (.inr ht)]
 |ssl x lo hi=>
  simp only[ew.slots,ay]at h;simp only[aw,bO (x:=x) fun t ht=>h t (.inl (.inl ht)),zI (lo:=lo) (hi:=hi) (fun t ht=>h t (.inl (.inr ht))) (fun t ht=>h t (.inr ht))]
 |slc sz x lo hi=>
  simp only[ew.slots,ay]at h;simp only[aw,bO (x:=x) fun t ht=>h t (.inl (.inl ht)),zI (lo:=lo) (hi:=hi) (fun t ht=>h t (.inl (.inr ht))) (fun t ht=>h t (.inr ht))]
 |pick c a b=>
  simp only[ew.slots,ay]at h;simp only[aw,bO (x:=c) fun t ht=>h t (.inl (.inl ht)),bO (x:=a) fun t ht=>h t (.inl (.inr ht)),bO (x:=b) fun t ht=>h t (.inr ht)]
 |alloc zs=>rfl
 |mv x=>simp only[aw,bO (x:=x) h]
 |box sz x=>simp only[aw,bO (x:=x) h]
 |load sz ag x=>simp only[aw,bO (x:=x) h]
 |nck x=>simp only[aw,bO (x:=x) h]
 |isnil ng x=>simp only[aw,bO (x:=x) h]
 |un op x=>simp only[aw,bO (x:=x) h]
 |toInt k x=>simp only[aw,bO (x:=x) h]
 |s2s x=>simp only[aw,bO (x:=x) h]
 |ext x i=>simp only[aw,bO (x:=x) h]
 |fad n x=>simp only[aw,bO (x:=x) h]
 |fld n sz ag x=>simp only[aw,bO (x:=x) h]
 |slen x=>simp only[aw,bO (x:=x) h]
 |len x=>simp only[aw,bO (x:=x) h]
 |store sz x y=>
  simp only[ew.slots,ay]at h;simp only[aw,bO (x:=x) fun t ht=>h t (.inl ht),bO (x:=y) fun t ht=>h t (.inr ht)]
 |bin op x y=>
  simp only[ew.slots,ay]at h;simp only[aw,bO (x:=x) fun t ht=>h t (.inl ht),bO (x:=y) fun t ht=>h t (.inr ht)]
 |beq ng x y=>
  simp only[ew.slots,ay]at h;simp only[aw,bO (x:=x) fun t ht=>h t (.inl ht),bO (x:=y) fun t ht=>h t (.inr ht)]
 |iad sz x y=>
  simp only[ew.slots,ay]at h;simp only[aw,bO (x:=x) fun t ht=>h t (.inl ht),bO (x:=y) fun t ht=>h t (.inr ht)]
 |sidx x y=>
  simp only[ew.slots,ay]at h;simp only[aw,bO (x:=x) fun t ht=>h t (.inl ht),bO (x:=y) fun t ht=>h t (.inr ht)]
 |mks e sz b zs x y=>
  simp only[ew.slots,ay]at h;simp only[aw,bO (x:=x) fun t ht=>h t (.inl ht),bO (x:=y) fun t ht=>h t (.inr ht)]
 |mk0 e sz b x y=>
  simp only[ew.slots,ay]at h;simp only[aw,bO (x:=x) fun t ht=>h t (.inl ht),bO (x:=y) fun t ht=>h t (.inr ht)]
 |apc e sz b x y=>
  simp only[ew.slots,ay]at h;simp only[aw,bO (x:=x) fun t ht=>h t (.inl ht),bO (x:=y) fun t ht=>h t (.inr ht)]
 |app e sz b x y=>
  simp only[ew.slots,ay]at h;simp only[aw,bO (x:=x) fun t ht=>h t (.inl ht),bO (x:=y) fun t ht=>h t (.inr ht)]
def eff:ew->Bool
 | .app .. =>true
 | .mk0 .. =>true
 | .call .. =>true
 | .cval .. =>true
 |_=>false
def Cd:ew->Bool
 | .store .. =>true
 | .call .. =>true
 | .cval .. =>true
 |_=>false
def mu:PV->List Nat
 | .ptr s _=>[s]
 |_=>[]
def bc(fr:Fr):ew->List Nat
 | .load _ _ a=>mu (a.ev fr)
 | .store _ a _=>mu (a.ev fr)
 | .call _ as _=>(cX (as.map (·.ev fr))).getD []
 | .cval f as=>match f.ev fr with
  | .fn _ cap=>(cX (as.map (·.ev fr)++cap)).getD []
  |_=>[]
 |_=>[]
def pK{c:ew}{fr fr2:Fr}(h:∀ t∈c.slots,fr t=fr2 t):bc fr c=bc fr2 c:=by
 cases c with
 |load sz ag x=>simp only[bc,bO (x:=x) h]
 |store sz x y=>
  simp only[ew.slots,ay]at h;simp only[bc,bO (x:=x) fun t ht=>h t (.inl ht)]
 |call f as mv=>simp only[bc,mh (as:=as) h]
 |cval f as=>
  simp only[ew.slots,ay]at h;simp only[bc,bO (x:=f) fun t ht=>h t (.inl ht),mh (as:=as) fun t ht=>h t (.inr ht)]
 |_=>rfl
structure lM (st st2:St):Prop where
 nx:st.nx=st2.nx
 cnt:st.cnt=st2.cnt
 fl:st.fl=st2.fl
 maps:st.maps=st2.maps
def lM.refl(st:St):lM st st:=⟨rfl,rfl,rfl,rfl⟩
def lM.symm{a b:St}(h:lM a b):lM b a:=⟨h.nx.symm,h.cnt.symm,h.fl.symm,h.maps.symm⟩
def lM.trans{a b c:St}(h:lM a b)(k:lM b c):lM a c:=⟨h.nx.trans k.nx,h.cnt.trans k.cnt,h.fl.trans k.fl,h.maps.trans k.maps⟩
def St.eq_of{a b:St}(h:lM a b)(ho:∀ k,a.objs k=b.objs k):a=b:=by
 obtain⟨h1,h2,h3,h4⟩:=h;cases a;cases b;simp only at h1 h2 h3 h4 ho;subst h1 h2 h3 h4;congr;exact funext ho
structure ku (e w:Bool) (ks:List Nat) (run:St->Option (PV×St)):Prop where
 quiet:∀ {st v st1},run st=some (v,st1)->(e=false->lM st1 st)/\(∀ k,k∉ks->st1.objs k=st.objs k)/\(w=false->∀ k,st1.objs k=st.objs k)
 move:∀ {st v st1 st2},run st=some (v,st1)->(e=true->lM st st2)->(∀ k∈ks,st.objs k=st2.objs k)->
  ∃ st3,run st2=some (v,st3)/\(e=true->lM st3 st1)/\(e=false->lM st3 st2)/\(∀ k∈ks,st3.objs k=st1.objs k)/\∀ k,k∉ks->st3.objs k=st2.objs k
def ku.pure{ks:List Nat}{r:Option PV}{e w:Bool}:ku e w ks (fun st=>r.map fun v=>(v,st)):=by
 refine⟨fun h=>?_,fun h hC ho=>?_⟩
 ·cases r with
  |none=>cases h
  |some v=>cases h;exact⟨fun _=> .refl _,fun _ _=>rfl,fun _ _=>rfl⟩
 ·cases r with
  |none=>cases h
  |some v=>
   cases h;exact⟨_,rfl,fun h=>(hC h).symm,fun _=> .refl _,fun k hk=>(ho k hk).symm,fun _ _=>rfl⟩
def CN(cf:aA)(f:Nat)(as:List PV):ku true true ((cX as).getD []) (fun st=>av cf f as [] st):=by
 have key:∀ {st v st1},av cf f as [] st=some (v,st1)->∃ ks cs r ns cs',cX as=some ks/\dl st ks=some cs/\cf f (eX [] [] 0 0 as) [] (cs.map aF)=some (r,ns,cs')/\cs'.length=cs.length/\
   v=ren (fun k=>some (st.nx+k)) false r/\st1={st.more ns with objs:=fi st.objs ks (cs'.map (aZ (fun k=>some (st.nx+k)) false)),fl:=if(ft r && cs'.all fo)||oy f as cs then st.fl else st.nx}:=by
  intro st v st1 h;unfold av at h;split at h
  ·cases h
  ·rename_i ks hks;split at h
   ·cases h
   ·rename_i cs hcs;simp only at h;split at h
    ·rename_i r ns cs' hcall;split at h
     ·rename_i hl;simp only[bo,cn]at h;exact⟨ks,cs,r,ns,cs',hks,hcs,hcall,by simpa using hl,h.1.symm,h.2.symm⟩
     ·cases h
    ·cases h
 have same:∀ {st st2:St} {ks:List Nat},(∀ k∈ks,st.objs k=st2.objs k)->dl st2 ks=dl st ks:=by
  intro st st2 ks
  induction ks with
  |nil=>intro _;rfl
  |cons k ks ih=>
   intro h;simp only[dl,h k (by simp),ih fun j hj=>h j (by simp[hj])]
 refine⟨fun h=>?_,fun{st v st1 st2} h hC ho=>?_⟩
 ·obtain⟨ks,cs,r,ns,cs',hks,hcs,hcall,hl,rfl,rfl⟩:=key h;refine⟨by simp,fun k hk=>?_,by simp⟩;rw[hks]at hk;exact jI hk
 ·obtain⟨ks,cs,r,ns,cs',hks,hcs,hcall,hl,rfl,rfl⟩:=key h;have hC:=hC rfl;rw[hks]at ho;have hcs2:dl st2 ks=dl st ks:=same ho;refine⟨{st2.more ns with objs:=fi st2.objs ks (cs'.map (aZ (fun k=>some (st2.nx+k)) false)),fl:=if(ft r && cs'.all fo)||oy f as cs then st2.fl else st2.nx},?_,fun _=>⟨?_,?_,?_,?_⟩,by simp,?_,?_⟩
  ·simp only[av,hks,hcs2,hcs,hcall,hl,if_true,hC.nx]
  ·simp only[St.more_nx,hC.nx]
  ·cases ns<;>simp only[St.more,hC.nx,hC.cnt]
  ·simp only[hC.nx,hC.fl]
  ·simp only[St.more_maps,hC.maps]
  ·intro k hk;rw[hks]at hk;obtain⟨i,hi,e⟩:=em (show k∈ks from hk);have hi':ks[i]? =some k:=by rw[<-e];exact ax hi
   have hlen:ks.length=(cs'.map (aZ (fun k=>some (st2.nx+k)) false)).length:=by simp only[b8];rw[hl];exact(mA hcs).1
   show fi st2.objs ks _ k=fi st.objs ks _ k;rw[jS (lV hks) hi' hlen,jS (lV hks) hi' (by simpa using hlen),hC.nx]
  ·intro k hk;rw[hks]at hk;exact jI hk
def Kd{st st2:St}(h:lM st st2)(t:aB)(n:Nat):lM (jv st2 n t) (jv st n t):=by
 obtain⟨h1,h2,h3,h4⟩:=h;cases t with
 |own k e=>exact⟨h1.symm,by simp[jv,St.count,h2],h3.symm,h4.symm⟩
 |_=>exact⟨by simp[jv,St.more,h1],by simp[jv,St.more,h1,h2],h3.symm,h4.symm⟩
def sN(c:ew):Bool:=jM c||(match c with
 | .call _ _ (_::_)=>true
 | .callU .. =>true
 | .stx .. =>true
 | .apc .. =>true
 | .mpset .. =>true
 | .mpget .. =>true
 | .mplen .. =>true
 |_=>false)
def MN(cf:aA)(fr:Fr)(d:Option Nat)(c:ew)(hm:sN c=false):ku (eff c) (Cd c) (bc fr c) (fun st=>aw cf fr st d c):=by
 cases c with
 |alloc zs=>cases hm
 |box sz x=>cases hm
 |mks e sz b zs n c=>cases hm
 |mkmap=>cases hm
 |mpset kk m k v=>cases hm
 |mpget ok z kk m k=>cases hm
 |mplen m=>cases hm
 |stx sz x y=>cases hm
 |apc e sz b x y=>cases hm
 |callU f as=>cases hm
 |call f as mv=>
  cases mv with
  |nil=>exact CN cf f (as.map (·.ev fr))
  |cons m mv=>cases hm
 |b2s x=>
  simp only[aw];split
  ·split
   ·split<;>first|exact ku.pure (r:=some _)|exact⟨fun h=>(by cases h),fun h=>(by cases h)⟩
   ·exact⟨fun h=>(by cases h),fun h=>(by cases h)⟩
  ·exact⟨fun h=>(by cases h),fun h=>(by cases h)⟩
 |mkfn f as=>
  simp only[aw];split<;>first|exact ku.pure (r:=some _)|exact⟨fun h=>(by cases h),fun h=>(by cases h)⟩
 |cval f as=>
  simp only[aw,bc];cases f.ev fr with
  |fn g cap=>
   by_cases hg:g<1000000
   ·simp only[ak hg];exact CN cf g (as.map (·.ev fr)++cap)
   ·simp only[ad hg];exact⟨fun h=>(by cases h),fun h=>(by cases h)⟩
  |_=>exact⟨fun h=>(by cases h),fun h=>(by cases h)⟩
 |app e sz b x y=>
  have key:∀ {st v st1},aw cf fr st d (.app e sz b x y)=some (v,st1)->∃ n cs t m ds ty,x.ev fr= .list n cs t/\y.ev fr= .list m ds ty/\
    (hH st n t=true/\cs.length=n*sz/\ds.length=m*sz/\(n+m) *b<=dB/\n+m<=dB/\0<sz)/\HS e t/\v= .list (n+m) (cs++ds) (.own (gk st t) e)/\st1=jv st (n+m) t/\(∀ e',t= .full e'->0<m\/n=0):=by
   intro st v st1 h;simp only[aw]at h;split at h
   ·rename_i n cs t m ds ty e1 e2;split at h
    ·rename_i hb;refine⟨n,cs,t,m,ds,ty,e1,e2,hb,?_⟩;cases t with
     |no=>simp[hH]at hb
     |sub k=>simp[hH]at hb
     |el k e n=>simp[hH]at hb
     |nil=>cases h;exact⟨trivial,rfl,rfl,fun _ h=>by cases h⟩
     |full e'=>
      simp only at h;split at h
      ·rename_i he;cases h;exact⟨he.1,rfl,rfl,fun _ _=>he.2⟩
      ·cases h
     |own k e'=>
      simp only at h;split at h
      ·rename_i he;cases h;exact⟨he,rfl,rfl,fun _ h=>by cases h⟩
      ·cases h
    ·cases h
   ·cases h
  refine⟨fun{st v st1} h=>?_,fun{st v st1 st2} h hC ho=>?_⟩
  ·obtain⟨n,cs,t,m,ds,ty,e1,e2,hb,he,rfl,rfl,hfu⟩:=key h;refine⟨by simp[eff],fun k _=>?_,fun _ k=>?_⟩<;>cases t<;>rfl
  ·obtain⟨n,cs,t,m,ds,ty,e1,e2,hb,he,rfl,rfl,hfu⟩:=key h;have hC:=hC rfl;have hcan:hH st2 n t=hH st n t:=by cases t<;>simp[hH,hC.nx,hC.cnt]
   refine⟨jv st2 (n+m) t,?_,fun _=>?_,by simp[eff],fun k hk=>by simp[bc]at hk,fun k _=>by cases t<;>rfl⟩
   ·simp only[aw,e1,e2,hcan,hb,kx,if_true];cases t with
    |full e'=>simp only[ak (show e'=e/\(0<m\/n=0)from⟨he,hfu e' rfl⟩)];simp[gk,jv,hC.nx]
    |_=>simp[gk,jv,hC.nx]<;>first|(simp[hH]at hb;done)|exact he
   ·exact Kd hC t (n+m)
 |mk0 e sz b x y=>
  have key:∀ {st v st1},aw cf fr st d (.mk0 e sz b x y)=some (v,st1)->v= .list 0 [] (.own st.nx e)/\st1=st.more [0]/\∀ st2,aw cf fr st2 d (.mk0 e sz b x y)=some (.list 0 [] (.own st2.nx e),st2.more [0]):=by
   intro st v st1 h;simp only[aw]at h;split at h
   ·rename_i nb e1 e2;split at h
    ·rename_i hb;cases h;exact⟨rfl,rfl,fun st2=>by simp only[aw,e1,e2,hb,kx,if_true]⟩
    ·cases h
   ·cases h
  refine⟨fun{st v st1} h=>?_,fun{st v st1 st2} h hC ho=>?_⟩
  ·obtain⟨rfl,rfl,_⟩:=key h;exact⟨by simp[eff],fun _ _=>rfl,fun _ _=>rfl⟩
  ·obtain⟨rfl,rfl,hk⟩:=key h;have hC:=hC rfl;refine⟨st2.more [0],?_,fun _=>⟨by simp[St.more,hC.nx],by simp[St.more,hC.nx,hC.cnt],by simp[St.more,hC.fl],by simp[St.more,hC.maps]⟩,by simp[eff],fun k hk=>by simp[bc]at hk,fun _ _=>rfl⟩;rw[hC.nx];exact hk st2
 |load sz ag x=>
  simp only[aw,bc];cases hx:x.ev fr with
  |ptr s off=>
   simp only[mu];refine⟨fun{st v st1} h=>?_,fun{st v st1 st2} h hC ho=>?_⟩
   ·split at h
    ·simp only[am]at h;obtain⟨q,hq,hqe⟩:=h;cases hqe;exact⟨fun _=> .refl _,fun _ _=>rfl,fun _ _=>rfl⟩
    ·cases h
   ·split at h
    ·rename_i cs hcs;simp only[am]at h;obtain⟨q,hq,hqe⟩:=h;cases hqe;have:=ho s (by simp);refine⟨st2,by simp only[<-this,hcs,hq,dC],by simp[eff],fun _=> .refl _,fun k hk=>(ho k hk).symm,fun _ _=>rfl⟩
    ·cases h
  |iptr cs off t=>exact ku.pure
  |_=>exact⟨fun h=>(by cases h),fun h=>(by cases h)⟩
 |store sz x y=>
  have key:∀ {st v st1},aw cf fr st d (.store sz x y)=some (v,st1)->∃ s off vs cs,x.ev fr= .ptr s off/\cellsOf (y.ev fr)=some vs/\st.objs s=some cs/\(vs.length=sz/\off+sz<=cs.length)/\v= .hole/\st1={st with objs:=fun k=>if k=s then some (bD cs off vs)else st.objs k}:=by
   intro st v st1 h;simp only[aw]at h;split at h
   ·rename_i s off vs e1 e2;split at h
    ·rename_i cs hcs;split at h
     ·rename_i hb;cases h;exact⟨s,off,vs,cs,e1,e2,hcs,hb,rfl,rfl⟩
     ·cases h
    ·cases h
   ·cases h
  refine⟨fun{st v st1} h=>?_,fun{st v st1 st2} h hC ho=>?_⟩
  ·obtain⟨s,off,vs,cs,e1,e2,hcs,hb,rfl,rfl⟩:=key h;refine⟨fun _=>⟨rfl,rfl,rfl,rfl⟩,fun k hk=>?_,by simp[Cd]⟩;simp only[bc,e1,mu,dZ]at hk;simp[hk]
  ·obtain⟨s,off,vs,cs,e1,e2,hcs,hb,rfl,rfl⟩:=key h;have hs:=ho s (by simp[bc,e1,mu]);refine⟨{st2 with objs:=fun k=>if k=s then some (bD cs off vs)else st2.objs k},?_,by simp[eff],fun _=>⟨rfl,rfl,rfl,rfl⟩,fun k hk=>?_,fun k hk=>?_⟩
   ·simp only[aw,e1,e2,<-hs,hcs,hb,kx,if_true]
   ·simp only[bc,e1,mu,dZ]at hk;simp[hk]
   ·simp only[bc,e1,mu,dZ]at hk;simp[hk]
 |mv x=>exact ku.pure (r:=some (x.ev fr))
 |pick c a b=>
  simp only[aw];split
  ·exact ku.pure (r:=some _)
  ·exact ku.pure (r:=some _)
  ·exact⟨fun h=>(by cases h),fun h=>(by cases h)⟩
 |build zs ps=>
  simp only[aw];split
  ·exact ku.pure (r:=some _)
  ·exact⟨fun h=>(by cases h),fun h=>(by cases h)⟩
 |bsl e sz zs n ps=>
  simp only[aw];split
  ·split
   ·exact ku.pure (r:=some _)
   ·exact⟨fun h=>(by cases h),fun h=>(by cases h)⟩
  ·exact⟨fun h=>(by cases h),fun h=>(by cases h)⟩
 |nck x=>
  simp only[aw];split<;>first|exact ku.pure (r:=some _)|exact⟨fun h=>(by cases h),fun h=>(by cases h)⟩
 |bin op x y=>exact ku.pure
 |isnil neg x=>
  simp only[aw];split<;>first|exact ku.pure (r:=some _)|exact⟨fun h=>(by cases h),fun h=>(by cases h)⟩
 |beq neg x y=>
  simp only[aw];split<;>first|exact ku.pure (r:=some _)|exact⟨fun h=>(by cases h),fun h=>(by cases h)⟩
 |un op x=>exact ku.pure
 |toInt k x=>
  simp only[aw];split<;>first|exact ku.pure (r:=some _)|exact⟨fun h=>(by cases h),fun h=>(by cases h)⟩
 |s2s x=>
  simp only[aw];split<;>first|exact ku.pure (r:=some _)|exact⟨fun h=>(by cases h),fun h=>(by cases h)⟩
 |ext x i=>
  simp only[aw];split<;>first|exact ku.pure|exact⟨fun h=>(by cases h),fun h=>(by cases h)⟩
 |fad n x=>
  simp only[aw];split<;>first|exact ku.pure (r:=some _)|exact⟨fun h=>(by cases h),fun h=>(by cases h)⟩
 |fld n sz ag x=>
  simp only[aw];split<;>first|exact ku.pure|exact⟨fun h=>(by cases h),fun h=>(by cases h)⟩
 |iad sz x i=>
  simp only[aw];split
  ·split<;>first|exact ku.pure (r:=some _)|exact⟨fun h=>(by cases h),fun h=>(by cases h)⟩
  ·split<;>first|exact ku.pure (r:=some _)|exact⟨fun h=>(by cases h),fun h=>(by cases h)⟩
  ·exact⟨fun h=>(by cases h),fun h=>(by cases h)⟩
 |sidx x i=>
  simp only[aw];split
  ·split<;>first|exact ku.pure (r:=some _)|exact⟨fun h=>(by cases h),fun h=>(by cases h)⟩
  ·exact⟨fun h=>(by cases h),fun h=>(by cases h)⟩
 |ssl x lo hi=>
  simp only[aw];split
  ·split<;>first|exact ku.pure (r:=some _)|exact⟨fun h=>(by cases h),fun h=>(by cases h)⟩
  ·exact⟨fun h=>(by cases h),fun h=>(by cases h)⟩
 |slc sz x lo hi=>
  simp only[aw];split
  ·split
   ·split<;>first|exact ku.pure (r:=some _)|exact⟨fun h=>(by cases h),fun h=>(by cases h)⟩
   ·exact⟨fun h=>(by cases h),fun h=>(by cases h)⟩
  ·exact⟨fun h=>(by cases h),fun h=>(by cases h)⟩
 |slen x=>
  simp only[aw];split<;>first|exact ku.pure (r:=some _)|exact⟨fun h=>(by cases h),fun h=>(by cases h)⟩
 |len x=>
  simp only[aw];split<;>first|exact ku.pure (r:=some _)|exact⟨fun h=>(by cases h),fun h=>(by cases h)⟩
def bS.reads(o:bS):List Nat:=o.op.slots++(match o.g with|some (s,_)=>[s]|none=>[])
def Cl:ew->Bool
 | .load .. =>true
 | .store .. =>true
 | .call .. =>true
 | .cval .. =>true
 |_=>false
def mo(o p:bS):Bool:=
 (match o.d with|some d=>!(p.reads).contains d && p.d !=some d|none=>true) && (match p.d with|some d=>!(o.reads).contains d|none=>true)
def Cg(o p:bS):Bool:=!sN o.op && !sN p.op && !(eff o.op && eff p.op) && mo o p
def CT:ew->Bool
 | .mv (.sl _)=>true
 |_=>false
def wi:ew->Bool
 | .call _ _ (_::_)=>true
 | .apc .. =>true
 |_=>false
def BZ(o p:bS):Bool:=Cg o p||(CT o.op && wi p.op && mo o p)||(wi o.op && CT p.op && mo o p)
def wZ(o p:bS):Bool:=(Cd o.op && Cl p.op)||(Cd p.op && Cl o.op)
def xK{fr:Fr}{c:ew}(h:Cl c=false):bc fr c=[]:=by
 cases c<;>first|rfl|cases h
def act(cf:aA)(fr:Fr)(o:bS)(st:St):Option (PV×St):=match eE fr o.g with
 |some true=>aw cf fr st o.d o.op
 |some false=>some (.hole,st)
 |none=>none
def D8{cf:aA}{c:ew}(h:sN c=false)(d:Option Nat)(st:St)(fr:Fr):cJ cf c d st fr=fr:=by
 cases c with
 |call f as mv=>cases mv with
  |nil=>rfl
  |cons m mv=>simp[sN]at h
 |_=>cases d<;>first|rfl|(simp[sN,jM]at h)
def qP(cf:aA){o:bS}(hm:sN o.op=false)(fr:Fr)(st:St):dk cf o (fr,st)=(act cf fr o st).map fun q=>(put fr o.d q.1,q.2):=by
 unfold dk act;have hk:cJ cf o.op o.d st fr=fr:=D8 hm _ _ _;cases hw:eE fr o.g with
 |none=>simp only[];rfl
 |some b=>cases b with
  |false=>simp only[];rfl
  |true=>
   simp only[];cases hr:aw cf fr st o.d o.op with
   |none=>rfl
   |some q=>simp[hk]
def E0(cf:aA)(fr:Fr){o:bS}(hm:sN o.op=false):ku (eff o.op) (Cd o.op) (bc fr o.op) (act cf fr o):=by
 have h:=MN cf fr o.d o.op hm;cases hw:eE fr o.g with
 |none=>
  have:act cf fr o=fun _=>none:=by funext st;simp only[act,hw]
  rw[this];exact⟨fun h=>(by cases h),fun h=>(by cases h)⟩
 |some b=>cases b with
  |false=>
   have:act cf fr o=fun st=>(some PV.hole).map fun v=>(v,st):=by funext st;simp only[act,hw,dC]
   rw[this];exact ku.pure
  |true=>
   have:act cf fr o=fun st=>aw cf fr st o.d o.op:=by funext st;simp only[act,hw]
   rw[this];exact h
def BO(cf:aA){o:bS}{fr fr2:Fr}(h:∀ t∈o.reads,fr t=fr2 t)(st:St):act cf fr o st=act cf fr2 o st:=by
 have h1:∀ t∈o.op.slots,fr t=fr2 t:=fun t ht=>h t (by simp[bS.reads,ht]);have h2:eE fr o.g=eE fr2 o.g:=by
  cases hg:o.g with
  |none=>rfl
  |some q=>
   obtain⟨s,b⟩:=q;have:fr s=fr2 s:=h s (by simp[bS.reads,hg]);simp only[eE,this]
 simp only[act,h2,tJ cf h1]
def fZ{fr:Fr}{d:Option Nat}{v:PV}{l:List Nat}(h:∀ s,d=some s->s∉l):∀ t∈l,put fr d v t=fr t:=by
 intro t ht;cases d with
 |none=>rfl
 |some s=>
  have hne:t≠s:=by rintro rfl;exact h t rfl ht
  simp[put,xq,hne]
def oD{fr:Fr}{d e:Option Nat}{u v:PV}(h:∀ s,d=some s->e≠some s):put (put fr d u) e v=put (put fr e v) d u:=by
 cases d with
 |none=>rfl
 |some s=>
  cases e with
  |none=>rfl
  |some t=>
   have hne:s≠t:=by rintro rfl;exact h s rfl rfl
   funext x;simp only[put,xq];by_cases h1:x=t<;>by_cases h2:x=s<;>simp[h1,h2]
   ·exact absurd (h2.symm.trans h1) hne
   ·intro hc;exact absurd hc.symm hne
   ·intro hc;exact absurd hc hne
def pw{o p:bS}(h:mo o p=true):(∀ s,o.d=some s->s∉p.reads)/\(∀ s,o.d=some s->p.d≠some s)/\(∀ s,p.d=some s->s∉o.reads):=by
 refine⟨fun s hs=>?_,fun s hs=>?_,fun s hs=>?_⟩<;>simp[mo,hs]at h
 ·exact h.1.1
 ·exact h.1.2
 ·exact h.2
def NQ(cf:aA){o p:bS}(hs:Cg o p=true){fr fr1 fr2:Fr}{st st1 st2:St}(hk:wZ o p=true->∀ k∈bc fr o.op,k∉bc fr1 p.op)
  (h1:dk cf o (fr,st)=some (fr1,st1)) (h2:dk cf p (fr1,st1)=some (fr2,st2)):
  ∃ fr' st',dk cf p (fr,st)=some (fr',st')/\dk cf o (fr',st')=some (fr2,st2)/\bc fr' o.op=bc fr o.op/\bc fr p.op=bc fr1 p.op:=by
 simp only[Cg,ae,lN]at hs;obtain⟨⟨⟨hmo,hmp⟩,heff⟩,hap⟩:=hs;obtain⟨a1,a2,a3⟩:=pw hap;rw[qP cf hmo]at h1;rw[qP cf hmp]at h2;simp only[am]at h1 h2;obtain⟨⟨v,s1⟩,ho,e1⟩:=h1;obtain⟨⟨u,s2⟩,hp,e2⟩:=h2;simp only[cn]at e1 e2;obtain⟨rfl,rfl⟩:=e1;obtain⟨rfl,rfl⟩:=e2;have hsub:∀ {q:bS} {t:Nat},t∈q.op.slots->t∈q.reads:=fun h=>by simp[bS.reads,h]
 have kp:bc (put fr o.d v) p.op=bc fr p.op:=pK fun t ht=>fZ a1 t (hsub ht);have ko:bc (put fr p.d u) o.op=bc fr o.op:=pK fun t ht=>fZ a3 t (hsub ht);rw[kp]at hk;rw[BO cf (fZ a1)]at hp;have lo:=E0 cf fr hmo;have lp:=E0 cf fr hmp;obtain⟨q1,q2,q3⟩:=lo.quiet ho;obtain⟨r1,r2,r3⟩:=lp.quiet hp;have both:∀ k,k∈bc fr o.op->k∈bc fr p.op->Cd o.op=false/\Cd p.op=false:=by
  intro k h1 h2;have hro:Cl o.op=true:=by
   cases h:Cl o.op with
   |true=>rfl
   |false=>rw[xK h]at h1;cases h1
  have hrp:Cl p.op=true:=by
   cases h:Cl p.op with
   |true=>rfl
   |false=>rw[xK h]at h2;cases h2
  cases hkd:wZ o p with
  |true=>exact absurd h2 (hk hkd k h1)
  |false=>
   simp only[wZ,hro,hrp,bg,jQ]at hkd;exact hkd
 have ef:eff o.op=true->eff p.op=false:=fun h=>by
  cases hp:eff p.op with
  |false=>rfl
  |true=>rw[h,hp]at heff;cases heff
 obtain⟨s3,hp',b1,b2,b3,b4⟩:=lp.move (st2:=st) hp (fun h=>q1 (by
  cases ho:eff o.op with
  |false=>rfl
  |true=>rw[ef ho]at h;cases h)) (fun k hk'=>by
   by_cases hko:k∈bc fr o.op
   ·exact q3 (both k hko hk').1 k
   ·exact q2 k hko)
 obtain⟨s4,ho',c1,c2,c3,c4⟩:=lo.move (st2:=s3) ho (fun h=>(b2 (ef h)).symm) (fun k hk'=>by
  by_cases hkp:k∈bc fr p.op
  ·obtain⟨w1,w2⟩:=both k hk' hkp;rw[b3 k hkp,r3 w2 k,q3 w1 k]
  ·exact(b4 k hkp).symm)
 have hfin:s4=s2:=by
  refine St.eq_of ?_ fun k=>?_
  ·cases heo:eff o.op with
   |true=>exact(c1 heo).trans (r1 (ef heo)).symm
   |false=>
    cases hep:eff p.op with
    |true=>exact(c2 heo).trans (b1 hep)
    |false=>exact(c2 heo).trans ((b2 hep).trans ((q1 heo).symm.trans (r1 hep).symm))
  ·by_cases hko:k∈bc fr o.op
   ·rw[c3 k hko];by_cases hkp:k∈bc fr p.op
    ·rw[r3 (both k hko hkp).2 k]
    ·rw[r2 k hkp]
   ·rw[c4 k hko];by_cases hkp:k∈bc fr p.op
    ·rw[b3 k hkp]
    ·rw[b4 k hkp,r2 k hkp,q2 k hko]
 refine⟨put fr p.d u,s3,?_,?_,ko,kp.symm⟩
 ·rw[qP cf hmp,hp'];rfl
 ·rw[qP cf hmo,BO cf (fZ a3),ho',hfin];simp only[dC];rw[oD fun s hs=>a2 s hs]
def yR{fr:Fr}{J:List Nat}(g:Option (Nat×Bool)){b:Bool}(h:eE fr g=some b):eE (fun t=>bV J (fr t)) g=some b:=by
 cases g with
 |none=>exact h
 |some q=>
  obtain⟨s,c⟩:=q;simp only[eE]at h ⊢;split at h
  ·rename_i b' e;rw[e];exact h
  ·rename_i e;rw[e];exact h
  ·cases h
def mO{fr fr2:Fr}{o:bS}(h:∀ t∈o.reads,fr t=fr2 t):eE fr o.g=eE fr2 o.g:=by
 cases hg:o.g with
 |none=>rfl
 |some q=>
  obtain⟨s,b⟩:=q;have:fr s=fr2 s:=h s (by simp[bS.reads,hg]);simp only[eE,this]
def x3{fr:Fr}{J:List Nat}{d:Option Nat}{v:PV}:(fun t=>bV J (put fr d v t))=put (fun t=>bV J (fr t)) d (bV J v):=by
 funext t;cases d with
 |none=>rfl
 |some s=>
  simp only[put,xq];split<;>rfl
def kh(cf:aA){p:bS}{J:Fr->St->List Nat}(hJ:∀ d st fr,cJ cf p.op d st fr=fun t=>bV (J fr st) (fr t))(fr:Fr)(st:St):
  dk cf p (fr,st)=match eE fr p.g with
   |some true=>(aw cf fr st p.d p.op).map fun q=>(put (fun t=>bV (J fr st) (fr t)) p.d q.1,q.2)
   |some false=>some (put fr p.d .hole,st)
   |none=>none:=by
 unfold dk;cases hw:eE fr p.g with
 |none=>rfl
 |some b=>cases b with
  |false=>rfl
  |true=>
   simp only;cases aw cf fr st p.d p.op with
   |none=>rfl
   |some q=>simp only[hJ,dC]
def kW(cf:aA){o:bS}{x:CX}(ho:o.op= .mv x)(fr:Fr)(st:St):
  dk cf o (fr,st)=match eE fr o.g with
   |some true=>some (put fr o.d (x.ev fr),st)
   |some false=>some (put fr o.d .hole,st)
   |none=>none:=by
 unfold dk;rw[ho];cases eE fr o.g with
 |none=>rfl
 |some b=>cases b with
  |false=>rfl
  |true=>simp only[aw,tN (cf:=cf) (c:= .mv x) rfl]
def E3{c:ew}(h:CT c=true):∃ n,c= .mv (.sl n):=by
 cases c with
 |mv x=>cases x with
  |sl n=>exact⟨n,rfl⟩
  |k p=>cases h
 |_=>cases h
def Bd(cf:aA){c:ew}(h:wi c=true):∃ J:Fr->St->List Nat,(∀ d st fr,cJ cf c d st fr=fun t=>bV (J fr st) (fr t))/\∀ fr fr2 st,(∀ t∈c.slots,fr t=fr2 t)->J fr st=J fr2 st:=by
 cases c with
 |call f as mv=>exact⟨fun fr st=>cD (as.map (·.ev fr)) mv st,fun d st fr=>zp f as mv d st fr,fun fr fr2 st h=>by simp only[mh (as:=as) h]⟩
 |apc e sz b x y=>
  refine⟨fun fr st=>lY (x.ev fr) (y.ev fr) st,fun d st fr=>rfl,fun fr fr2 st h=>?_⟩;simp only[ew.slots,ay]at h;simp only[bO (x:=x) fun t ht=>h t (.inl ht),bO (x:=y) fun t ht=>h t (.inr ht)]
 |_=>cases h
def NP(cf:aA){o p:bS}(hm:CT o.op=true)(ht:wi p.op=true)(hap:mo o p=true){fr fr1 fr2:Fr}{st st1 st2:St}
  (h1:dk cf o (fr,st)=some (fr1,st1)) (h2:dk cf p (fr1,st1)=some (fr2,st2)):
  ∃ fr' st',dk cf p (fr,st)=some (fr',st')/\dk cf o (fr',st')=some (fr2,st2)/\bc fr' o.op=bc fr o.op/\bc fr p.op=bc fr1 p.op:=by
 obtain⟨n,hn⟩:=E3 hm;obtain⟨J,hJ,hJc⟩:=Bd cf ht;obtain⟨a1,a2,a3⟩:=pw hap;have hnr:n∈o.reads:=by simp[bS.reads,hn,ew.slots,CX.slots]
 have hsl:∀ t∈p.op.slots,t∈p.reads:=fun t h=>by simp[bS.reads,h]
 have hobt:∃ v,fr1=put fr o.d v/\st1=st/\((eE fr o.g=some true/\v=fr n)\/(eE fr o.g=some false/\v= .hole)):=by
  rw[kW cf hn]at h1;split at h1
  ·rename_i hw;cases h1;exact⟨_,rfl,rfl,.inl ⟨hw,rfl⟩⟩
  ·rename_i hw;cases h1;exact⟨_,rfl,rfl,.inr ⟨hw,rfl⟩⟩
  ·cases h1
 obtain⟨v,rfl,rfl,hv⟩:=hobt;have hsame:∀ t∈p.reads,put fr o.d v t=fr t:=fZ a1;have hk1:bc (put fr o.d v) p.op=bc fr p.op:=pK fun t ht=>hsame t (hsl t ht);have hw:eE (put fr o.d v) p.g=eE fr p.g:=mO hsame;have has:∀ st,J (put fr o.d v) st=J fr st:=fun st=>hJc _ _ st fun t ht=>hsame t (hsl t ht);have hru:∀ st d,aw cf (put fr o.d v) st d p.op=aw cf fr st d p.op:=fun st d=>tJ (cf:=cf) (st:=st) (d:=d) fun t ht=>hsame t (hsl t ht);rw[kh cf hJ,hw,has,hru]at h2;rw[kh cf hJ];have hko:∀ g:Fr,bc g o.op=bc fr o.op:=fun g=>by rw[hn];rfl
 split at h2
 ·rename_i hwp
  try rw[hwp]
  cases hc:aw cf fr st1 p.d p.op with
  |none=>rw[hc]at h2;cases h2
  |some q=>
   rw[hc]at h2;cases h2;refine⟨_,_,rfl,?_,hko _,hk1.symm⟩;rw[kW cf hn];have hd:∀ s,p.d=some s->s∉o.reads:=a3;have hw':eE (put (fun t=>bV (J fr st1) (fr t)) p.d q.1) o.g=eE (fun t=>bV (J fr st1) (fr t)) o.g:=mO (fZ hd);rw[hw',x3,oD a2];rcases hv with⟨hwo,rfl⟩|⟨hwo,rfl⟩
   ·rw[yR o.g hwo];have:CX.ev (put (fun t=>bV (J fr st1) (fr t)) p.d q.1) (.sl n)=bV (J fr st1) (fr n):=fZ hd n hnr;simp only[this]
   ·rw[yR o.g hwo];rfl
 ·rename_i hwp
  try rw[hwp]
  cases h2;refine⟨_,_,rfl,?_,hko _,hk1.symm⟩;rw[kW cf hn];have hw':eE (put fr p.d .hole) o.g=eE fr o.g:=mO (fZ a3);rw[hw',oD a2];rcases hv with⟨hwo,rfl⟩|⟨hwo,rfl⟩
  ·rw[hwo];have:CX.ev (put fr p.d .hole) (.sl n)=fr n:=fZ a3 n hnr;simp only[this]
  ·rw[hwo]
 ·cases h2
def NO(cf:aA){o p:bS}(ht:wi o.op=true)(hm:CT p.op=true)(hap:mo o p=true){fr fr1 fr2:Fr}{st st1 st2:St}
  (h1:dk cf o (fr,st)=some (fr1,st1)) (h2:dk cf p (fr1,st1)=some (fr2,st2)):
  ∃ fr' st',dk cf p (fr,st)=some (fr',st')/\dk cf o (fr',st')=some (fr2,st2)/\bc fr' o.op=bc fr o.op/\bc fr p.op=bc fr1 p.op:=by
 obtain⟨n,hn⟩:=E3 hm;obtain⟨J,hJ,hJc⟩:=Bd cf ht;obtain⟨a1,a2,a3⟩:=pw hap;have hnr:n∈p.reads:=by simp[bS.reads,hn,ew.slots,CX.slots]
 have hsl:∀ t∈o.op.slots,t∈o.reads:=fun t h=>by simp[bS.reads,h]
 have hkp:∀ g:Fr,bc fr p.op=bc g p.op:=fun g=>by rw[hn];rfl
 have hko:∀ v,bc (put fr p.d v) o.op=bc fr o.op:=fun v=>pK fun t ht=>fZ a3 t (hsl t ht);have hwo:∀ v,eE (put fr p.d v) o.g=eE fr o.g:=fun v=>mO (fZ a3);have has:∀ v st,J (put fr p.d v) st=J fr st:=fun v st=>hJc _ _ st fun t ht=>fZ a3 t (hsl t ht);have hru:∀ v st d,aw cf (put fr p.d v) st d o.op=aw cf fr st d o.op:=fun v st d=>tJ (cf:=cf) (st:=st) (d:=d) fun t ht=>fZ a3 t (hsl t ht);rw[kh cf hJ]at h1;rw[kW cf hn]at h2;split at h1
 ·rename_i hw;cases hc:aw cf fr st o.d o.op with
  |none=>rw[hc]at h1;cases h1
  |some q=>
   rw[hc]at h1;cases h1;have hw':eE (put (fun t=>bV (J fr st) (fr t)) o.d q.1) p.g=eE (fun t=>bV (J fr st) (fr t)) p.g:=mO (fZ a1);have hval:CX.ev (put (fun t=>bV (J fr st) (fr t)) o.d q.1) (.sl n)=bV (J fr st) (fr n):=fZ a1 n hnr;rw[hw',hval]at h2;have back:∀ {b:Bool},eE (fun t=>bV (J fr st) (fr t)) p.g=some b->eE fr p.g=some b:=by
    intro b hb;cases hg:p.g with
    |none=>rw[hg]at hb;exact hb
    |some q=>
     obtain⟨s,c⟩:=q;rw[hg]at hb;simp only[eE]at hb ⊢;have hor:bV (J fr st) (fr s)=fr s\/bV (J fr st) (fr s)= .any:=by
      unfold bV;split
      ·exact .inl rfl
      ·exact .inr rfl
     rcases hor with h|h
     ·rw[h]at hb;exact hb
     ·rw[h]at hb;cases hb
   split at h2
   ·rename_i hwp;cases h2;have h3:=back hwp;refine⟨_,_,by rw[kW cf hn,h3],?_,hko _,hkp _⟩;rw[kh cf hJ,hwo,has,hru,hw,hc];simp only[dC,x3,CX.ev];rw[oD a2]
   ·rename_i hwp;cases h2;have h3:=back hwp;refine⟨_,_,by rw[kW cf hn,h3],?_,hko _,hkp _⟩;rw[kh cf hJ,hwo,has,hru,hw,hc];simp only[dC,x3];rw[oD a2];rfl
   ·cases h2
 ·rename_i hw;cases h1;have hw':eE (put fr o.d .hole) p.g=eE fr p.g:=mO (fZ a1);have hval:CX.ev (put fr o.d .hole) (.sl n)=fr n:=fZ a1 n hnr;rw[hw',hval]at h2;split at h2
  ·rename_i hwp;cases h2;refine⟨_,_,by rw[kW cf hn,hwp],?_,hko _,hkp _⟩;rw[kh cf hJ,hwo,hw];simp only[CX.ev];rw[oD a2]
  ·rename_i hwp;cases h2;refine⟨_,_,by rw[kW cf hn,hwp],?_,hko _,hkp _⟩;rw[kh cf hJ,hwo,hw];simp only;rw[oD a2]
  ·cases h2
 ·cases h1
def OL(cf:aA){o p:bS}(hs:BZ o p=true){fr fr1 fr2:Fr}{st st1 st2:St}(hk:wZ o p=true->∀ k∈bc fr o.op,k∉bc fr1 p.op)
  (h1:dk cf o (fr,st)=some (fr1,st1)) (h2:dk cf p (fr1,st1)=some (fr2,st2)):
  ∃ fr' st',dk cf p (fr,st)=some (fr',st')/\dk cf o (fr',st')=some (fr2,st2)/\bc fr' o.op=bc fr o.op/\bc fr p.op=bc fr1 p.op:=by
 simp only[BZ,cF,ae]at hs;rcases hs with(hs|⟨⟨h3,h4⟩,h5⟩)|⟨⟨h3,h4⟩,h5⟩
 ·exact NQ cf hs hk h1 h2
 ·exact NP cf h3 h4 h5 h1 h2
 ·exact NO cf h3 h4 h5 h1 h2
structure tT where
 i:Nat
 o:bS
 ks:List Nat
def DO(cf:aA):List tT->Fr×St->Fr×St->Prop
 | [],x,y=>x=y
 |q::L,x,y=>bc x.1 q.o.op=q.ks/\∃ x',dk cf q.o x=some x'/\DO cf L x' y
def KX(q r:tT):Prop:=BZ q.o r.o=true/\(wZ q.o r.o=true->∀ k∈q.ks,k∉r.ks)
def DO.front(cf:aA){q:tT}{L2:List tT}{y:Fr×St}:∀ {L1:List tT} {x:Fr×St},DO cf (L1++q::L2) x y->(∀ r∈L1,KX r q)->
  bc x.1 q.o.op=q.ks/\∃ x',dk cf q.o x=some x'/\DO cf (L1++L2) x' y
 | [],x,h,_=>h
 |r::L1,x,h,hc=>by
  obtain⟨hk,x1,hr,hrest⟩:=h;obtain⟨hk2,x2,hq,hrun⟩:=DO.front cf hrest fun s hs=>hc s (by simp[hs]);obtain⟨hst,hky⟩:=hc r (by simp);obtain⟨fr,st⟩:=x;obtain⟨fr1,st1⟩:=x1;obtain⟨fr2,st2⟩:=x2;obtain⟨fr',st',h1,h2,h3,h4⟩:=OL cf hst (fun h=>by rw[hk,hk2];exact hky h) hr hq;exact⟨h4.trans hk2,(fr',st'),h1,h3.trans hk,(fr2,st2),h2,hrun⟩
end Go.PM
namespace Go.PM
variable {P:Program} {B:Nat->Nat->Option Value}
def Oq(ops:Array Oper)(anc:Nat->List Nat):Prop:=
 ∀ i o,ops[i]? =some o->∀ j∈anc i,∃ e∈o.after,Region.binds .any e=true/\(e.on=j\/j∈anc e.on)
def NI(ops:Array Oper):Prop:=∀ i o,ops[i]? =some o->∀ e∈o.after,Region.binds .any e=true->e.on<i
section
variable {G:Gh} {nt nk:Nat} {cf:aA} {ops:Array Oper} {Q:Exit->Act->World->Prop} {anc:Nat->List Nat} {D:List Deferred}
def Bo{l:Array Bool}{j:Nat}(hj:j<l.size):l.getD j true=l.getD j false:=by
 rw[bH,bH,gB hj];rfl
def GJ{M:Nat->List Nat}(hcf:ja P B cf)(hanc:Oq ops anc)(hdeps:NI ops){y:Fr×St}:∀ (fuel:Nat) {listed:Array Bool} {L:List tT} {G:Gh} {fr:Fr} {st:St} {w:World} {a:Act},
  listed.size=ops.size->L.length<=fuel->(∀ j,j<ops.size->(listed.getD j true=false↔∃ q∈L,q.i=j))->(∀ q∈L,∃ o,ops[q.i]? =some o/\sF P M nt nk ops o=some q.o)->
  L.Pairwise (fun r q=>r.i<q.i/\(r.i∈anc q.i\/KX r q))->(∀ i j,listed.getD i false=true->j∈anc i->listed.getD j false=true)->
  bz P B G st w->eT G nt fr a->DO cf L (fr,st) y->
  (∀ a' w' G',bz P B G' y.2 w'->cu G w G' w'->eT G' nt y.1 a'->oB (qT M) a' a->(∀ s,nk<=s\/G'.bx s=G.bx s)->Q .normal a' w')->
  wpAny P .any ops Q fuel listed a w:=by
 intro fuel;have fin:∀ {listed:Array Bool} {L:List tT},(∀ j,j<ops.size->(listed.getD j true=false↔∃ q∈L,q.i=j))->L=[]->Region.ready .any ops listed=[]:=by
  intro listed L h hL;subst hL;apply List.eq_nil_iff_forall_not_mem.2;intro j hj;obtain⟨h1,o,ho,_⟩:=mem_ready.1 hj;have hlt:=(aP.1 ho).1;obtain⟨q,hq,_⟩:=(h j hlt).1 h1;cases hq
 induction fuel with
 |zero=>
  intro listed L G fr st w a hsz hlen hL hc hp hcl hI hF hrun hn;have hnil:L=[]:=bF (by omega);refine⟨fin hL hnil,?_⟩;subst hnil;cases hrun;exact hn a w G hI (cu.refl G w) hF .refl fun _=> .inr rfl
 |succ fuel ih=>
  intro listed L G fr st w a hsz hlen hL hc hp hcl hI hF hrun hn;refine⟨fun hready=>?_,fun i hi=>?_⟩
  ·
   cases L with
   |nil=>
    cases hrun;exact hn a w G hI (cu.refl G w) hF .refl fun _=> .inr rfl
   |cons q L=>
    exfalso;obtain⟨o,ho,_⟩:=hc q (by simp);have hqlt:=(aP.1 ho).1;have hq:q.i∈Region.ready .any ops listed:=by
     refine mem_ready.2 ⟨(hL q.i hqlt).2 ⟨q,by simp,rfl⟩,o,ho,fun e he hb=>?_⟩;have hlt:=hdeps q.i o ho e he hb;have he':e.on<listed.size:=by omega
     cases hx:listed.getD e.on false with
     |true=>rfl
     |false=>
      rw[<-Bo he']at hx;obtain⟨r,hr,hri⟩:=(hL e.on (by omega)).1 hx;rcases aX.1 hr with rfl|hr
      ·omega
      ·have:=(List.rel_of_pairwise_cons hp hr).1;omega
    rw[hready]at hq;cases hq
  ·obtain⟨hun,o,ho,hall⟩:=mem_ready.1 hi;have hilt:=(aP.1 ho).1;obtain⟨q,hq,hqi⟩:=(hL i hilt).1 hun;obtain⟨L1,L2,rfl⟩:=List.append_of_mem hq;have hancI:∀ j∈anc i,listed.getD j false=true:=by
    intro j hj;obtain⟨e,he,hb,h⟩:=hanc i o ho j hj;have h1:=hall e he hb;rcases h with rfl|h
    ·exact h1
    ·exact hcl e.on j h1 h
   have hpw:=List.pairwise_append.1 hp;have hcomm:∀ r∈L1,KX r q:=by
    intro r hr;rcases(hpw.2.2 r hr q (by simp)).2 with h|h
    ·exfalso;rw[hqi]at h;have h1:=hancI r.i h;obtain⟨ro,hro,_⟩:=hc r (by simp[hr]);have hrlt:=(aP.1 hro).1;have h2:=(hL r.i hrlt).2 ⟨r,by simp[hr],rfl⟩;rw[Bo (by omega)]at h2;rw[h1]at h2;cases h2
    ·exact h
   obtain⟨_,x',hq1,hrun'⟩:=hrun.front cf hcomm;obtain⟨fr1,st1⟩:=x';obtain⟨o',ho',hco⟩:=hc q (by simp);rw[hqi,ho]at ho';cases ho';unfold wpOp;simp only[ho];refine A1 hcf hI hF hco hq1 fun a1 w1 G1 hI1 hS1 hF1 hd1 hk1=>?_;have hmem:∀ {r:tT},r∈L1++L2->r∈L1++q::L2:=by
    intro r hr;rcases ay.1 hr with h|h
    ·exact ay.2 (.inl h)
    ·exact ay.2 (.inr (bU _ h))
   refine ih (L:=L1++L2) (by simp;exact hsz) (by simp at hlen ⊢;omega) (fun j hj=>?_) (fun r hr=>hc r (hmem hr)) ?_ (fun u j hu hj=>?_) hI1 hF1 hrun' fun a2 w2 G2 hI2 hS2 hF2 hd2 hk2=>?_
   ·by_cases hji:j=i
    ·subst hji;have hz:(listed.setIfInBounds j true).getD j true=true:=by
      rw[bH,iW (by omega)];rfl
     rw[hz];refine⟨fun h=>(by cases h),?_⟩;rintro⟨r,hr,hri⟩;exfalso;rcases ay.1 hr with h|h
     ·have:=(hpw.2.2 r h q (by simp)).1;omega
     ·have:=(List.rel_of_pairwise_cons hpw.2.1 h).1;omega
    ·rw[getD_set_ne true (Ne.symm hji),hL j hj];constructor
     ·rintro⟨r,hr,hri⟩;refine⟨r,?_,hri⟩;rcases ay.1 hr with h|h
      ·exact ay.2 (.inl h)
      ·rcases aX.1 h with rfl|h
       ·exact absurd (hri.symm.trans hqi) hji
       ·exact ay.2 (.inr h)
     ·rintro⟨r,hr,hri⟩;exact⟨r,hmem hr,hri⟩
   ·exact List.pairwise_append.2 ⟨hpw.1,(dr.1 hpw.2.1).2,fun r hr s hs=>hpw.2.2 r hr s (bU _ hs)⟩
   ·have mono:∀ j,listed.getD j false=true->(listed.setIfInBounds i true).getD j false=true:=fun j h=>getD_set_true h;by_cases hui:u=i
    ·subst hui;exact mono j (hancI j hj)
    ·rw[getD_set_ne false (Ne.symm hui)]at hu;exact mono j (hcl u j hu hj)
   ·refine hn a2 w2 G2 hI2 (hS1.trans hS2) hF2 (hd2.trans hd1) fun s=>?_;rcases hk1 s with h1|h1
    ·exact .inl h1
    ·rcases hk2 s with h2|h2
     ·exact .inl h2
     ·exact .inr (h2.trans h1)
end
inductive CC where
 |skip
 |reg (ops:List bS) (chk:List (Nat×Nat))
 |seq (a b:CC)
 |cond (c:CX) (a b:CC)
 |block (id:Nat) (c:CC)
 |loop (c:CC)
 |exit (id:Nat)
 |ret
inductive Ex where
 |go|exit (id:Nat)|ret
 deriving DecidableEq
def iA(cf:aA):List bS->Fr×St->Option (List (List Nat)×(Fr×St))
 | [],x=>some ([],x)
 |o::os,x=>match dk cf o x with
  |some y=>match iA cf os y with
   |some (ks,z)=>some (bc x.1 o.op::ks,z)
   |none=>none
  |none=>none
def nw(ks:List (List Nat))(q:Nat×Nat):Bool:=((ks[q.1]?).getD []).all fun k=>!((ks[q.2]?).getD []).contains k
def sj(cf:aA)(ops:List bS):List (Nat×Nat)->Fr×St->Option (Fr×St)
 | [],x=>iI cf ops x
 |chk,x=>match iA cf ops x with
  |some (ks,y)=>if chk.all (nw ks)then some y else none
  |none=>none
def oJ(body:Fr×St->Option (Ex×Fr×St)):Nat->Fr×St->Option (Ex×Fr×St)
 |0,_=>none
 |n+1,x=>match body x with
  |some (.go,y)=>oJ body n y
  |r=>r
def ev(cf:aA)(N:Nat):CC->Fr×St->Option (Ex×Fr×St)
 | .skip,x=>some (.go,x)
 | .reg ops chk,x=>(sj cf ops chk x).map fun y=>(.go,y)
 | .seq a b,x=>match ev cf N a x with
  |some (.go,y)=>ev cf N b y
  |r=>r
 | .cond c a b,x=>match c.ev x.1 with
  | .bool true=>ev cf N a x
  | .bool false=>ev cf N b x
  |_=>none
 | .block id c,x=>match ev cf N c x with
  |some (.exit i,y)=>if i=id then some (.go,y)else some (.exit i,y)
  |r=>r
 | .loop c,x=>oJ (ev cf N c) N x
 | .exit id,x=>some (.exit id,x)
 | .ret,x=>some (.ret,x)
def Is(o:Oper):List Nat:=(o.after.toList.filter (Region.binds .any ·)).map (·.on)
def DD:List Oper->List (List Nat)->List (List Nat)
 | [],acc=>acc
 |o::os,acc=>DD os (acc++[((Is o)++(Is o).flatMap fun j=>(acc[j]?).getD []).eraseDups])
def IZ(ops:Array Oper)(an:List (List Nat)):Bool:=
 (List.range ops.size).all fun i=>match ops[i]? with
  |some o=>((an[i]?).getD []).all (fun j=>o.after.toList.any fun e=>Region.binds .any e && (e.on==j||((an[e.on]?).getD []).contains j))
  |none=>true
def Fe(ops:Array Oper):Bool:=
 (List.range ops.size).all fun i=>match ops[i]? with
  |some o=>o.after.toList.all fun e=>!Region.binds .any e||decide (e.on<i)
  |none=>true
def wR(n:Nat):List (Nat×Nat):=(List.range n).flatMap fun i=>(List.range i).map fun j=>(j,i)
def Ae(cs:List bS)(q:Nat×Nat):Bool:=match cs[q.1]?,cs[q.2]? with
 |some o,some p=>BZ o p
 |_,_=>false
def E2(cs:List bS)(q:Nat×Nat):Bool:=match cs[q.1]?,cs[q.2]? with
 |some o,some p=>wZ o p
 |_,_=>false
def Aw(ops:Array Oper)(cs:List bS):Option (List (Nat×Nat)):=
 let an:=DD ops.toList []
 let free:=(wR cs.length).filter fun q=>!((an[q.2]?).getD []).contains q.1
 if IZ ops an && Fe ops && free.all (Ae cs)then some (free.filter (E2 cs))else none
def gw(P:Program)(M:Nat->List Nat)(nt nk:Nat):Code->Option CC
 | .skip=>some .skip
 | .region _ ops draw=>match nu P M nt nk ops ops.toList with
  |some cs=>match draw with
   |false=>some (.reg cs [])
   |true=>(Aw ops cs).map (.reg cs)
  |none=>none
 | .seq a b=>match gw P M nt nk a,gw P M nt nk b with
  |some a,some b=>some (.seq a b)
  |_,_=>none
 | .cond c a b=>match bC c,gw P M nt nk a,gw P M nt nk b with
  |some c,some a,some b=>some (.cond c a b)
  |_,_,_=>none
 | .block id c=>(gw P M nt nk c).map (.block id)
 | .loop c=>(gw P M nt nk c).map .loop
 | .exit id=>some (.exit id)
 | .ret=>some .ret
 |_=>none
def items:Nat->List bS->List (List Nat)->List tT
 |i,o::os,k::ks=>⟨i,o,k⟩::items (i+1) os ks
 |_,_,_=>[]
def rq:∀ {os:List bS} {ks:List (List Nat)} {i j:Nat} {q:tT},(items i os ks)[j]? =some q->q.i=i+j/\os[j]? =some q.o/\ks[j]? =some q.ks
 | [],ks,i,j,q,h=>by simp[items]at h
 |o::os,[],i,j,q,h=>by simp[items]at h
 |o::os,k::ks,i,j,q,h=>by
  cases j with
  |zero=>simp[items]at h;subst h;exact⟨rfl,rfl,rfl⟩
  |succ j=>
   obtain⟨h1,h2,h3⟩:=rq (os:=os) (ks:=ks) (i:=i+1) (j:=j) (by simpa [items]using h);exact⟨by omega,by simpa using h2,by simpa using h3⟩
def sy:∀ {os:List bS} {ks:List (List Nat)} {i:Nat},ks.length=os.length->(items i os ks).length=os.length
 | [],ks,i,h=>by simp[items]
 |o::os,[],i,h=>by simp at h
 |o::os,k::ks,i,h=>by simp[items,sy (os:=os) (ks:=ks) (i:=i+1) (by simpa using h)]
def xJ(cf:aA):∀ {os:List bS} {x y:Fr×St} {ks:List (List Nat)} {i:Nat},iA cf os x=some (ks,y)->ks.length=os.length/\DO cf (items i os ks) x y
 | [],x,y,ks,i,h=>by cases h;exact⟨rfl,rfl⟩
 |o::os,x,y,ks,i,h=>by
  simp only[iA]at h;split at h
  ·rename_i x' hx;split at h
   ·rename_i ks' z hz;cases h;obtain⟨h1,h2⟩:=xJ cf (i:=i+1) hz;exact⟨by simp[h1],rfl,x',hx,h2⟩
   ·cases h
  ·cases h
def xw(cf:aA):∀ {os:List bS} {x y:Fr×St},iI cf os x=some y->∃ ks,iA cf os x=some (ks,y)
 | [],x,y,h=>by cases h;exact⟨[],rfl⟩
 |o::os,x,y,h=>by
  simp only[iI]at h;split at h
  ·rename_i x' hx;obtain⟨ks,hk⟩:=xw cf h;exact⟨bc x.1 o.op::ks,by simp[iA,hx,hk]⟩
  ·cases h
def vA{M:Nat->List Nat}{nt nk:Nat}{ops:Array Oper}:∀ {os:List Oper} {cs:List bS},nu P M nt nk ops os=some cs->cs.length=os.length/\∀ (j:Nat) c,cs[j]? =some c->∃ o,os[j]? =some o/\sF P M nt nk ops o=some c
 | [],cs,h=>by cases h;exact⟨rfl,fun j c h=>by simp at h⟩
 |o::os,cs,h=>by
  unfold nu at h;split at h
  ·rename_i c cs' hc hcs;cases h;obtain⟨h1,h2⟩:=vA hcs;refine⟨by simp[h1],fun j d hd=>?_⟩;cases j with
   |zero=>simp at hd;subst hd;exact⟨o,rfl,hc⟩
   |succ j=>simpa using h2 j d (by simpa using hd)
  ·cases h
def HY{n i j:Nat}(h1:j<i)(h2:i<n):(j,i)∈wR n:=by
 simp only[wR,oT,l8,cA,cn];exact⟨i,h2,j,h1,rfl,rfl⟩
section
variable {G:Gh} {nt nk:Nat} {cf:aA} {Q:Exit->Act->World->Prop}
def bz.drawn{st:St}{w w':World}(hI:bz P B G st w)(h:w'.heap=w.heap):bz P B G st w':=by
 have hc:∀ a,w'.cell? a=w.cell? a:=fun a=>World.cell?_of_block (by rw[h]);exact⟨fun b o v hb=>by rw[hc];exact hI.com b o v hb,fun b e k hb=>by rw[h];exact hI.sh b e k hb,hI.nx,hI.cnt,hI.live,hI.room,hI.apart,hI.priv,fun s cs hs=>by rw[h];exact hI.objs s cs hs,
  fun s b hs=>by rw[h];exact hI.obs s b hs,hI.obj,hI.nob,hI.npo,fun b k hb=>by rw[h];exact hI.pvl b k hb,fun b hb=>by rw[h];exact hI.xpl b hb,hI.base,fun s b e sz h1 h2=>by rw[h];exact hI.oes s b e sz h1 h2,
  fun s es hs=>by rw[h];exact hI.mobj s es hs,fun s b hs=>by rw[h];exact hI.mbs s b hs,hI.mbi,hI.nomb,hI.obx,hI.ful⟩
def cu.drawn{G':Gh}{w w' w2:World}(hS:cu G w G' w2)(h:w.heap=w'.heap)(he:w'.os=w.os/\w'.output=w.output):cu G w' G' w2:=
 ⟨hS.le,by rw[<-h];exact hS.size,fun b hb ho ht hm=>by rw[<-h];exact hS.kept b (by rw[h];exact hb) ho ht hm,fun s b hb=>by rw[<-h];exact hS.nearO s b hb,fun t r hr=>by rw[<-h];exact hS.nearT t r hr,
  fun b o v hv=>by rw[<-h];exact hS.nearC b o v hv,fun b x hx=>by rw[<-h];exact hS.nearS b x hx,fun b k hk=>by rw[<-h];exact hS.nearP b k hk,fun s b hs=>by rw[<-h];exact hS.nearM s b hs,⟨hS.eff.1.trans he.1.symm,hS.eff.2.trans he.2.symm⟩⟩
def AQ{M:Nat->List Nat}(hcf:ja P B cf)(hmix:P.follows .mixedOrders=true){id:Nat}{ops:Array Oper}{draw:Bool}{cs:List bS}{chk:List (Nat×Nat)}(hc:nu P M nt nk ops ops.toList=some cs)
  (hchk:match draw with|false=>chk=[]|true=>Aw ops cs=some chk) {fr:Fr} {st:St} {w:World} {a:Act} (hI:bz P B G st w) (hF:eT G nt fr a) {y:Fr×St} (h:sj cf cs chk (fr,st)=some y)
  (hn:∀ a' w' G',bz P B G' y.2 w'->cu G w G' w'->eT G' nt y.1 a'->oB (qT M) a' a->(∀ s,nk<=s\/G'.bx s=G.bx s)->Q .normal a' w'):(Code.region id ops draw).wp P Q a w:=by
 cases draw with
 |false=>
  simp only at hchk;subst hchk;exact wp_region_list (xA hcf hI hF hc h hn)
 |true=>
  simp only[Aw]at hchk;split at hchk
  ·rename_i hb;simp only[bo]at hchk;simp only[ae]at hb;obtain⟨⟨hb1,hb2⟩,hb3⟩:=hb;have hkeys:∃ ks,iA cf cs (fr,st)=some (ks,y)/\chk.all (nw ks)=true:=by
    cases chk with
    |nil=>
     obtain⟨ks,hk⟩:=xw cf h;exact⟨ks,hk,rfl⟩
    |cons q chk=>
     simp only[sj]at h;split at h
     ·rename_i ks z hz;split at h
      ·rename_i hall;cases h;exact⟨ks,hz,hall⟩
      ·cases h
     ·cases h
   obtain⟨ks,hk,hall⟩:=hkeys;obtain⟨hlk,hrun⟩:=xJ cf (i:=0) hk;obtain⟨hlc,hget⟩:=vA hc;have hlc':cs.length=ops.size:=by simpa using hlc
   refine wp_region_any hmix (GJ (M:=M) (anc:=fun i=>((DD ops.toList [])[i]?).getD []) (L:=items 0 cs ks) (y:=y) (nt:=nt) (nk:=nk) hcf ?_ ?_ ops.size (by simp) (by rw[sy hlk];omega) ?_ ?_ ?_ ?_ (hI.drawn rfl) hF hrun fun a' w' G' h1 h2 h3 h4 h5=>hn a' w' G' h1 (h2.drawn rfl ⟨rfl,rfl⟩) h3 h4 h5)
   ·intro i o ho j hj;have hi:=(aP.1 ho).1;simp only[IZ,bX,l8]at hb1;have:=hb1 i hi;simp only[ho,bX]at this;have:=this j hj;simp only[List.any_eq_true,Array.mem_toList_iff,ae,cF,jh,ei]at this;obtain⟨e,he,h1,h2⟩:=this;exact⟨e,he,h1,h2⟩
   ·intro i o ho e he hbi;have hi:=(aP.1 ho).1;simp only[Fe,bX,l8]at hb2;have:=hb2 i hi;simp only[ho,bX,Array.mem_toList_iff]at this;have:=this e he;simpa [hbi]using this
   ·intro j hj;have hz:(Array.replicate ops.size false).getD j true=false:=by
     rw[bH,kA];simp[hj]
    refine⟨fun _=>?_,fun _=>hz⟩;have hlt:j<(items 0 cs ks).length:=by rw[sy hlk];omega
    have hg:(items 0 cs ks)[j]? =some (items 0 cs ks)[j]:=ax hlt;exact⟨_,ct hlt,by rw[(rq hg).1];omega⟩
   ·intro q hq;obtain⟨j,hj,rfl⟩:=em hq;have hg:(items 0 cs ks)[j]? =some (items 0 cs ks)[j]:=ax hj;obtain⟨h1,h2,_⟩:=rq hg;obtain⟨o,ho,hco⟩:=hget j _ h2;exact⟨o,by rw[h1,aq];simpa using ho,hco⟩
   ·rw[mZ];intro i j hi hj hij;have gi:(items 0 cs ks)[i]? =some (items 0 cs ks)[i]:=ax hi;have gj:(items 0 cs ks)[j]? =some (items 0 cs ks)[j]:=ax hj;generalize (items 0 cs ks)[i]=r at gi;generalize (items 0 cs ks)[j]=q at gj;obtain⟨r1,r2,r3⟩:=rq gi;obtain⟨q1,q2,q3⟩:=rq gj;refine⟨by omega,?_⟩;have hjn:j<cs.length:=(br.1 q2).1;by_cases ha:(((DD ops.toList [])[j]?).getD []).contains i=true
    ·exact .inl (by rw[r1,q1,aq,aq];exact ei.1 ha)
    ·refine .inr ?_;have hfree:(i,j)∈(wR cs.length).filter (fun q=>!(((DD ops.toList [])[q.2]?).getD []).contains q.1):=
      m3.2 ⟨HY hij hjn,by simpa using ha⟩
     have hst:Ae cs (i,j)=true:=(bX.1 hb3) _ hfree;simp only[Ae,r2,q2]at hst;refine⟨hst,fun hkd k hk1 hk2=>?_⟩;have hin:(i,j)∈chk:=by
      rw[<-hchk];exact m3.2 ⟨hfree,by simp only[E2,r2,q2];exact hkd⟩
     have hap:=(bX.1 hall) _ hin;simp only[nw,r3,q3,Option.getD_some,bX,lN]at hap;have:=hap k hk1;rw[ei.2 hk2]at this;cases this
   ·intro i j hi _;rw[bH,kA]at hi;split at hi<;>cases hi
  ·cases hchk
end
def Ex.of:Ex->Exit
 | .go=> .normal
 | .exit i=> .exit i
 | .ret=> .ret
def DW(P:Program)(B:Nat->Nat->Option Value)(nt nk:Nat)(kp:Bool)(G:Gh)(w:World)(a:Act)(e:Ex)(y:Fr×St)(Q:Exit->Act->World->Prop):Prop:=
 ∀ a' w' G',bz P B G' y.2 w'->cu G w G' w'->eT G' nt y.1 a'->oB kp a' a->(∀ s,nk<=s\/G'.bx s=G.bx s)->Q e.of a' w'
section
variable {M:Nat->List Nat} {nt nk:Nat} {cf:aA}
def zw{c:Code}{body:Fr×St->Option (Ex×Fr×St)}(hb:∀ {x:Fr×St} {e:Ex} {y:Fr×St} {G:Gh} {w:World} {a:Act} {Q:Exit->Act->World->Prop},body x=some (e,y)->bz P B G x.2 w->eT G nt x.1 a->DW P B nt nk (qT M) G w a e y Q->c.wp P Q a w):
  ∀ {n:Nat} {x:Fr×St} {e:Ex} {y:Fr×St} {G:Gh} {w:World} {a:Act} {Q:Exit->Act->World->Prop},oJ body n x=some (e,y)->bz P B G x.2 w->eT G nt x.1 a->DW P B nt nk (qT M) G w a e y Q->Code.rounds P c Q n a w
 |0,x,e,y,G,w,a,Q,h,_,_,_=>by simp[oJ]at h
 |n+1,x,e,y,G,w,a,Q,h,hI,hF,hn=>by
  rw[rounds_succ];simp only[oJ]at h;split at h
  ·rename_i z hz;refine hb hz hI hF fun a1 w1 G1 hI1 hS1 hF1 hd1 hk1=>?_;refine zw hb h hI1 hF1 fun a2 w2 G2 hI2 hS2 hF2 hd2 hk2=>hn a2 w2 G2 hI2 (hS1.trans hS2) hF2 (hd2.trans hd1) fun s=>?_;rcases hk1 s with h1|h1
   ·exact .inl h1
   ·rcases hk2 s with h2|h2
    ·exact .inl h2
    ·exact .inr (h2.trans h1)
  ·rename_i hne;refine hb h hI hF fun a1 w1 G1 hI1 hS1 hF1 hd1 hk1=>?_;have:=hn a1 w1 G1 hI1 hS1 hF1 hd1 hk1;cases e with
   |go=>exact absurd h (hne y)
   |exit i=>exact this
   |ret=>exact this
def zJ(hcf:ja P B cf)(hmix:P.follows .mixedOrders=true)(N:Nat):∀ (c:Code) {cc:CC},gw P M nt nk c=some cc->∀ {x:Fr×St} {e:Ex} {y:Fr×St} {G:Gh} {w:World} {a:Act} {Q:Exit->Act->World->Prop},
  ev cf N cc x=some (e,y)->bz P B G x.2 w->eT G nt x.1 a->DW P B nt nk (qT M) G w a e y Q->c.wp P Q a w:=by
 intro c
 induction c with
 |skip=>
  intro cc hc x e y G w a Q h hI hF hn;simp only[gw,bo]at hc;subst hc;cases h;exact wp_skip (hn a w G hI (cu.refl G w) hF .refl fun _=> .inr rfl)
 |exit id=>
  intro cc hc x e y G w a Q h hI hF hn;simp only[gw,bo]at hc;subst hc;cases h;exact wp_exit (hn a w G hI (cu.refl G w) hF .refl fun _=> .inr rfl)
 |ret=>
  intro cc hc x e y G w a Q h hI hF hn;simp only[gw,bo]at hc;subst hc;cases h;exact wp_ret (hn a w G hI (cu.refl G w) hF .refl fun _=> .inr rfl)
 |region id ops draw=>
  intro cc hc x e y G w a Q h hI hF hn;simp only[gw]at hc;split at hc
  ·rename_i cs hcs;cases draw with
   |false=>
    simp only[bo]at hc;subst hc;simp only[ev,am,cn]at h;obtain⟨z,hz,rfl,rfl⟩:=h;exact AQ hcf hmix (draw:=false) (chk:=[]) hcs rfl hI hF hz hn
   |true=>
    simp only[am]at hc;obtain⟨chk,hchk,rfl⟩:=hc;simp only[ev,am,cn]at h;obtain⟨z,hz,rfl,rfl⟩:=h;exact AQ hcf hmix (draw:=true) hcs hchk hI hF hz hn
  ·cases hc
 |seq c d ihc ihd=>
  intro cc hc x e y G w a Q h hI hF hn;simp only[gw]at hc;split at hc
  ·rename_i c1 d1 hc1 hd1;simp only[bo]at hc;subst hc;simp only[ev]at h;refine wp_seq ?_;split at h
   ·rename_i z hz;refine ihc hc1 hz hI hF fun a1 w1 G1 hI1 hS1 hF1 hdf1 hk1=>?_;refine ihd hd1 h hI1 hF1 fun a2 w2 G2 hI2 hS2 hF2 hdf2 hk2=>hn a2 w2 G2 hI2 (hS1.trans hS2) hF2 (hdf2.trans hdf1) fun s=>?_;rcases hk1 s with h1|h1
    ·exact .inl h1
    ·rcases hk2 s with h2|h2
     ·exact .inl h2
     ·exact .inr (h2.trans h1)
   ·rename_i hne;refine ihc hc1 h hI hF fun a1 w1 G1 hI1 hS1 hF1 hdf1 hk1=>?_;have:=hn a1 w1 G1 hI1 hS1 hF1 hdf1 hk1;cases e with
    |go=>exact absurd h (hne y)
    |exit i=>exact this
    |ret=>exact this
  ·cases hc
 |cond cnd c d ihc ihd=>
  intro cc hc x e y G w a Q h hI hF hn;simp only[gw]at hc;split at hc
  ·rename_i cx c1 d1 hcx hc1 hd1;simp only[bo]at hc;subst hc;have hR:=cE hF hcx;simp only[ev]at h;split at h
   ·rename_i hb;rw[hb]at hR;generalize hv:a.eval cnd=v at hR;cases hR;exact wp_cond_true hv (ihc hc1 h hI hF hn)
   ·rename_i hb;rw[hb]at hR;generalize hv:a.eval cnd=v at hR;cases hR;exact wp_cond_false hv (ihd hd1 h hI hF hn)
   ·cases h
  ·cases hc
 |block id c ihc=>
  intro cc hc x e y G w a Q h hI hF hn;simp only[gw,am]at hc;obtain⟨c1,hc1,rfl⟩:=hc;simp only[ev]at h;refine wp_block ?_;split at h
  ·rename_i i z hz;split at h
   ·rename_i hid;cases h;refine ihc hc1 hz hI hF fun a1 w1 G1 hI1 hS1 hF1 hdf1 hk1=>?_;have:=hn a1 w1 G1 hI1 hS1 hF1 hdf1 hk1;simp only[Ex.of,Exit.inBlock,hid,if_true];exact this
   ·rename_i hid;cases h;refine ihc hc1 hz hI hF fun a1 w1 G1 hI1 hS1 hF1 hdf1 hk1=>?_;have:=hn a1 w1 G1 hI1 hS1 hF1 hdf1 hk1;simp only[Ex.of,Exit.inBlock,ad hid];exact this
  ·rename_i hne;refine ihc hc1 h hI hF fun a1 w1 G1 hI1 hS1 hF1 hdf1 hk1=>?_;have:=hn a1 w1 G1 hI1 hS1 hF1 hdf1 hk1;cases e with
   |go=>exact this
   |exit i=>exact absurd h (hne i y)
   |ret=>exact this
 |loop c ihc=>
  intro cc hc x e y G w a Q h hI hF hn;simp only[gw,am]at hc;obtain⟨c1,hc1,rfl⟩:=hc;simp only[ev]at h;exact wp_loop_rounds N (zw (fun h1 h2 h3 h4=>ihc hc1 h1 h2 h3 h4) h hI hF hn)
 |_=>intro cc hc;simp[gw]at hc
end
end Go.PM
