/- A part of the proof: texts PmP, PmQ, PmRa, PmRb, PmR, PmS, PmT, PmU, PmV, PmW, joined. Conditions: none. -/
import Derived.Test.YtdpamjikmlbmhaaGreatDoorPA
import Derived.Orders
import Derived.LoopN
set_option linter.all false
namespace Go.PM
variable {P:Program} {B:Nat→Nat→Option Value}
theorem iL{t e:Nat}(h:lD P t=some e):P.underlying t=some (.slice e):=by
 unfold lD at h
 split at h
 ·cases h;assumption
 ·cases h
theorem JW{t:Nat}(h:HT P t=true):P.underlying t=some (.int .u8):=by
 unfold HT at h
 split at h
 ·assumption
 ·cases h
theorem zm{G:Gh}{nt:Nat}{fr:Fr}{a:Act}(hF:dZ G nt fr a):∀ {xs:List Operand} {cs:List CX},nK xs=some cs→
  cs.length=xs.length∧∀ (j:Nat) p v,(cs.map (·.ev fr))[j]? =some p→(xs.map a.eval)[j]? =some v→R G p v
 | [],cs,h=>by cases h;exact⟨rfl,fun j p v hp=>by simp at hp⟩
 |x::xs,cs,h=>by
  unfold nK at h
  split at h
  ·rename_i c cs' hx hxs
   cases h
   obtain⟨hl,hr⟩:=zm hF hxs
   refine⟨by simp[hl],fun j p v hp hv=>?_⟩
   cases j with
   |zero=>
    simp at hp hv
    subst hp;subst hv
    exact bQ hF hx
   |succ j=>exact hr j p v (by simpa using hp) (by simpa using hv)
  ·cases h
theorem vZ{t:Nat}(h:xj P t=true):P.underlying t=some .string:=by
 unfold xj at h
 split at h
 ·assumption
 ·cases h
section
variable {G:Gh} {nt:Nat} {fr:Fr} {st st':St} {w:World} {a:Act} {o:Oper} {d:Option Nat} {cf:au} {p:PV}
theorem Hy(hI:bt P B G st w)(hF:dZ G nt fr a){c:dG}(hc:i8 P o.op=some c)(h:ap cf fr st d c=some (p,st')):
  s9 P B G w (execOp a.eval o) d (iy c) p st'∧bN p=true:=by
 have npo:=hI.npo
 have zn:∀ {t:Nat} {zs:List PV},fB P t=some zs→aG zs=true:=fun hz=>by
  obtain⟨_,_,_,_,_,h⟩:=pL (P:=P) (G:=G) hz
  exact h
 generalize hop:o.op=q at hc
 unfold i8 at hc
 split at hc
 ·
  rename_i x
  simp only[ae]at hc
  obtain⟨cx,hx,rfl⟩:=hc
  refine⟨dH hI (Cq hF (.inl hop) hx h),gk h ?_ npo (by simp) (by simp) (by simp) (by simp) (by simp) (by simp)⟩
  rintro x (h|⟨_,_,h⟩|⟨_,_,h⟩|⟨_,_,h⟩|h|⟨_,h⟩|⟨_,h⟩|⟨_,_,_,h⟩|⟨_,_,h⟩|⟨_,_,_,h⟩)<;>cases h<;>exact dM hF (by assumption)
 ·rename_i x
  simp only[ae]at hc
  obtain⟨cx,hx,rfl⟩:=hc
  refine⟨dH hI (Cq hF (.inr hop) hx h),gk h ?_ npo (by simp) (by simp) (by simp) (by simp) (by simp) (by simp)⟩
  rintro x (h|⟨_,_,h⟩|⟨_,_,h⟩|⟨_,_,h⟩|h|⟨_,h⟩|⟨_,h⟩|⟨_,_,_,h⟩|⟨_,_,h⟩|⟨_,_,_,h⟩)<;>cases h<;>exact dM hF (by assumption)
 ·
  split at hc
  ·cases hc
   refine⟨dH hI (E9 hF hop (by assumption) (by assumption) (by assumption) h),gk h ?_ npo (by simp) (by simp) (by simp) (by simp) (by simp) (by simp)⟩
   rintro x (h|⟨_,_,h⟩|⟨_,_,h⟩|⟨_,_,h⟩|h|⟨_,h⟩|⟨_,h⟩|⟨_,_,_,h⟩|⟨_,_,h⟩|⟨_,_,_,h⟩)<;>cases h<;>exact dM hF (by assumption)
  ·cases hc
 ·
  split at hc
  ·rename_i zs pl hz hpl
   split at hc
   ·rename_i cs hcs
    cases hc
    refine⟨dH hI (DM hF hop hz hpl hcs h),gk h ?_ npo (fun _ _ e cs hf=>by cases e;exact ye hF hcs (zn hz) hf) (by simp) (by simp) (by simp) (by simp) (by simp)⟩
    rintro x (h|⟨_,_,h⟩|⟨_,_,h⟩|⟨_,_,h⟩|h|⟨_,h⟩|⟨_,h⟩|⟨_,_,_,h⟩|⟨_,_,h⟩|⟨_,_,_,h⟩)<;>cases h
   ·cases hc
  ·cases hc
 ·
  split at hc
  ·rename_i sz ag cx hs hg hx
   cases hc
   refine⟨dH hI (Fb hI hF hop hx hs hg h),gk h ?_ npo (by simp) (by simp) (by simp) (by simp) (by simp) (by simp)⟩
   rintro x (h|⟨_,_,h⟩|⟨_,_,h⟩|⟨_,_,h⟩|h|⟨_,h⟩|⟨_,h⟩|⟨_,_,_,h⟩|⟨_,_,h⟩|⟨_,_,_,h⟩)<;>cases h<;>exact dM hF (by assumption)
  ·cases hc
 ·
  simp only[ae]at hc
  obtain⟨cx,hx,rfl⟩:=hc
  refine⟨dH hI (G9 hF hop hx h),gk h ?_ npo (by simp) (by simp) (by simp) (by simp) (by simp) (by simp)⟩
  rintro x (h|⟨_,_,h⟩|⟨_,_,h⟩|⟨_,_,h⟩|h|⟨_,h⟩|⟨_,h⟩|⟨_,_,_,h⟩|⟨_,_,h⟩|⟨_,_,_,h⟩)<;>cases h<;>exact dM hF (by assumption)
 ·
  split at hc
  ·rename_i cx cy hx hy
   have other:∀ {op:BinOp},c= .bin op cx cy→(∃ t yt x y,o.op= .binOp op t x y yt∧bl x=some cx∧bl y=some cy)→s9 P B G w (execOp a.eval o) d (iy c) p st'∧bN p=true:=by
    rintro op rfl ⟨t,yt,x,y,hop,hx,hy⟩
    have h':=h
    simp only[ap,ae]at h'
    obtain⟨q,hq,hqe⟩:=h'
    cases hqe
    exact⟨dH hI ⟨rfl,Hf hF hop hx hy hq⟩,ek (Dj hq)⟩
   have fin:∀ {c':dG},c=c'→(∀ x,c'= .mv x∨(∃ a b,c'= .pick a x b)∨(∃ a b,c'= .pick a b x)∨(∃ sz ag,c'= .load sz ag x)∨c'= .nck x∨(∃ i,c'= .ext x i)∨(∃ n,c'= .fad n x)∨(∃ n sz ag,c'= .fld n sz ag x)∨
  (∃ sz i,c'= .iad sz x i)∨(∃ sz lo hi,c'= .slc sz x lo hi)→False)→True:=fun _ _=>trivial
   split at hc
   ·cases hc
    refine⟨dH hI (wJ hF hop hx (by assumption) (by assumption) (.inl ⟨rfl,rfl⟩) h),?_⟩
    simp only[ap]at h
    split at h<;>first|(cases h;rfl)|cases h
   ·cases hc
    refine⟨dH hI (wJ hF hop hx (by assumption) (by assumption) (.inr ⟨rfl,rfl⟩) h),?_⟩
    simp only[ap]at h
    split at h<;>first|(cases h;rfl)|cases h
   ·cases hc
    refine⟨dH hI (Am hF hop hx hy (by assumption) (.inl ⟨rfl,rfl⟩) h),?_⟩
    simp only[ap]at h
    split at h<;>first|(cases h;rfl)|cases h
   ·cases hc
    refine⟨dH hI (Am hF hop hx hy (by assumption) (.inr ⟨rfl,rfl⟩) h),?_⟩
    simp only[ap]at h
    split at h<;>first|(cases h;rfl)|cases h
   ·cases hc
    exact other rfl ⟨_,_,_,_,hop,hx,hy⟩
   ·cases hc
  ·cases hc
 ·
  simp only[ae]at hc
  obtain⟨cx,hx,rfl⟩:=hc
  have h':=h
  simp only[ap,ae]at h'
  obtain⟨q,hq,hqe⟩:=h'
  cases hqe
  exact⟨dH hI ⟨rfl,Jx hF hop hx hq⟩,ek (ET hq)⟩
 ·
  split at hc
  ·cases hc
   refine⟨dH hI (DJ hF hop (by assumption) (by assumption) (by assumption) h),?_⟩
   simp only[ap]at h
   split at h<;>first|(cases h;rfl)|cases h
  ·cases hc
   refine⟨dH hI (BU hF hop (by assumption) (by assumption) (by assumption) h),?_⟩
   simp only[ap]at h
   split at h<;>first|(cases h;rfl)|cases h
  ·split at hc
   ·rename_i hb
    simp only[aa]at hb
    cases hc
    refine⟨dH hI (Hg hI hF hop (by assumption) (by assumption) (JW hb.1) (by assumption) h),?_⟩
    simp only[ap]at h
    split at h
    ·split at h
     ·split at h<;>first|(cases h;rfl)|cases h
     ·cases h
    ·cases h
   ·cases hc
  ·cases hc
 ·
  simp only[ae]at hc
  obtain⟨cs,hcs,rfl⟩:=hc
  obtain⟨hl,hr⟩:=zm hF hcs
  refine⟨dH hI (Fa hop hr hl h),?_⟩
  simp only[ap]at h
  split at h
  ·rename_i hb;cases h;exact hb
  ·cases h
 ·
  split at hc
  ·cases hc
   refine⟨Fv hI hop h,?_⟩
   simp only[ap]at h
   split at h<;>first|(cases h;rfl)|cases h
  ·cases hc
 ·
  split at hc
  ·cases hc
   refine⟨Fu hI hF hop (by assumption) (by assumption) (by assumption) (by assumption) h,?_⟩
   simp only[ap]at h
   split at h
   ·split at h
    ·split at h
     ·split at h<;>first|(cases h;rfl)|cases h
     ·cases h
    ·cases h
   ·cases h
  ·cases hc
 ·
  split at hc
  ·split at hc
   ·cases hc
    obtain⟨h1,h2⟩:=DL hI hF hop (by assumption) (by assumption) (by assumption) (by assumption) h
    exact⟨dH hI h1,ek h2⟩
   ·cases hc
  ·cases hc
 ·
  simp only[ae]at hc
  obtain⟨cx,hx,rfl⟩:=hc
  refine⟨dH hI (He hF hop hx h),gk h ?_ npo (by simp) (by simp) (by simp) (by simp) (by simp) (by simp)⟩
  rintro x (h|⟨_,_,h⟩|⟨_,_,h⟩|⟨_,_,h⟩|h|⟨_,h⟩|⟨_,h⟩|⟨_,_,_,h⟩|⟨_,_,h⟩|⟨_,_,_,h⟩)<;>cases h<;>exact dM hF (by assumption)
 ·
  split at hc
  ·split at hc
   ·rename_i fd hfd
    split at hc
    ·cases hc
     refine⟨dH hI (Hd hF hop (by assumption) (by assumption) hfd (by assumption) h),gk h ?_ npo (by simp) (by simp) (by simp) (by simp) (by simp) (by simp)⟩
     rintro x (h|⟨_,_,h⟩|⟨_,_,h⟩|⟨_,_,h⟩|h|⟨_,h⟩|⟨_,h⟩|⟨_,_,_,h⟩|⟨_,_,h⟩|⟨_,_,_,h⟩)<;>cases h<;>exact dM hF (by assumption)
    ·cases hc
   ·cases hc
  ·cases hc
 ·
  split at hc
  ·split at hc
   ·rename_i fd hfd
    split at hc
    ·cases hc
     refine⟨dH hI (Hc hF hop (by assumption) (by assumption) hfd (by assumption) (by assumption) h),gk h ?_ npo (by simp) (by simp) (by simp) (by simp) (by simp) (by simp)⟩
     rintro x (h|⟨_,_,h⟩|⟨_,_,h⟩|⟨_,_,h⟩|h|⟨_,h⟩|⟨_,h⟩|⟨_,_,_,h⟩|⟨_,_,h⟩|⟨_,_,_,h⟩)<;>cases h<;>exact dM hF (by assumption)
    ·cases hc
   ·cases hc
  ·cases hc
 ·
  split at hc
  ·rename_i e cx ci he hx hi
   split at hc
   ·cases hc
    refine⟨dH hI (Hb hF hop hx hi (iL he) (by assumption) h),gk h ?_ npo (by simp) (by simp) (by simp) (by simp) (by simp) (by simp)⟩
    rintro x (h|⟨_,_,h⟩|⟨_,_,h⟩|⟨_,_,h⟩|h|⟨_,h⟩|⟨_,h⟩|⟨_,_,_,h⟩|⟨_,_,h⟩|⟨_,_,_,h⟩)<;>cases h<;>exact dM hF (by assumption)
   ·cases hc
  ·cases hc
 ·
  split at hc
  ·rename_i cx ci he hx hi
   cases hc
   refine⟨dH hI (E8 hF hop hx hi (vZ he) h),?_⟩
   simp only[ap]at h
   split at h
   ·split at h<;>first|(cases h;rfl)|cases h
   ·cases h
  ·cases hc
 ·
  split at hc
  ·rename_i cx clo chi hx hlo hhi
   split at hc
   ·rename_i hs
    cases hc
    refine⟨dH hI (G7 hF hop hx hlo hhi (vZ hs) h),?_⟩
    simp only[ap]at h
    split at h
    ·split at h<;>first|(cases h;rfl)|cases h
    ·cases h
   ·split at hc
    ·rename_i e he
     split at hc
     ·cases hc
      refine⟨dH hI (G8 hF hop hx hlo hhi (iL he) (by assumption) h),gk h ?_ npo (by simp) (by simp) (by simp) (by simp) (by simp) (by simp)⟩
      rintro x (h|⟨_,_,h⟩|⟨_,_,h⟩|⟨_,_,h⟩|h|⟨_,h⟩|⟨_,h⟩|⟨_,_,_,h⟩|⟨_,_,h⟩|⟨_,_,_,h⟩)<;>cases h<;>exact dM hF (by assumption)
     ·cases hc
    ·cases hc
  ·cases hc
 ·
  simp only[ae]at hc
  obtain⟨zs,hz,rfl⟩:=hc
  refine⟨Fw hI hop hz h,?_⟩
  simp only[ap]at h
  split at h<;>first|(cases h;rfl)|cases h
 ·
  split at hc
  ·cases hc
   refine⟨JJ hI hF hop (by assumption) h,?_⟩
   simp only[ap]at h
   split at h
   ·split at h<;>first|(cases h;rfl)|cases h
   ·cases h
  ·cases hc
 ·
  split at hc
  ·cases hc
   refine⟨yM hI hF hop (by assumption) (by assumption) (by assumption) h,?_⟩
   simp only[ap]at h
   split at h
   ·split at h
    ·split at h<;>first|(cases h;rfl)|cases h
    ·cases h
   ·cases h
  ·cases hc
 ·
  split at hc
  ·rename_i e he
   split at hc
   ·rename_i sz zs hs hz
    split at hc
    ·rename_i cs hcs
     split at hc
     ·rename_i h24
      cases hc
      refine⟨JI hI hF hop (iL he) hs hz hcs h24 h,gk h ?_ npo (by simp) (fun _ _ _ _ _ e cs hf=>by cases e;exact ye hF hcs (sg (zn hz) _) hf) (by simp) (by simp) (by simp) (by simp)⟩
      rintro x (h|⟨_,_,h⟩|⟨_,_,h⟩|⟨_,_,h⟩|h|⟨_,h⟩|⟨_,h⟩|⟨_,_,_,h⟩|⟨_,_,h⟩|⟨_,_,_,h⟩)<;>cases h
     ·cases hc
    ·cases hc
   ·cases hc
  ·cases hc
 ·
  split at hc
  ·rename_i e he
   split at hc
   ·rename_i i zs l c' hi hz hl hc'
    split at hc
    ·split at hc
     ·rename_i hzl
      cases hc
      refine⟨JH hI hF hop (iL he) hl hc' hi hz hzl h,?_⟩
      simp only[ap]at h
      split at h
      ·split at h<;>first|(cases h;rfl)|cases h
      ·cases h
     ·cases hc
    ·cases hc
     refine⟨JG hI hF hop (iL he) hl hc' hi hz h,?_⟩
     simp only[ap]at h
     split at h
     ·split at h<;>first|(cases h;rfl)|cases h
     ·cases h
   ·cases hc
  ·cases hc
 ·
  split at hc
  ·rename_i e he
   split at hc
   ·rename_i i zs cx cy hi hz hx hy
    split at hc
    ·rename_i hb
     obtain⟨rfl,hzl⟩:=hb
     cases hc
     exact JK hI hF hop (iL he) hx hy hi hz hzl h
    ·cases hc
   ·cases hc
  ·cases hc
 ·
  split at hc
  ·rename_i cx hx
   split at hc
   ·rename_i hs
    cases hc
    refine⟨dH hI (E7 hF hop hx (vZ hs) h),?_⟩
    simp only[ap]at h
    split at h<;>first|(cases h;rfl)|cases h
   ·split at hc
    ·rename_i hs
     obtain⟨e,he⟩:=bR.1 hs
     cases hc
     refine⟨dH hI (Ha hF hop hx (iL he) h),?_⟩
     simp only[ap]at h
     split at h<;>first|(cases h;rfl)|cases h
    ·split at hc
     ·rename_i hs
      obtain⟨⟨kk,e⟩,he⟩:=bR.1 hs
      cases hc
      refine⟨dH hI (DK hI hF hop hx he h),?_⟩
      simp only[ap]at h
      split at h
      ·split at h<;>first|(cases h;rfl)|cases h
      ·cases h
     ·cases hc
  ·cases hc
 ·cases hc
end
def cF(ns:List Nat)(cs:List (List PV)):St:={nx:=ns.length,cnt:=fun t=>ns.getD t 0,fl:=0,objs:=fun k=>cs[k]?,maps:=fun _=>none}
def kZ(P:Program)(f:FuncId):Prop:=∃ fn,P.funcs[f]? =some fn∧fn.name≠ "runtime.NumGoroutine" ∧fn.body.isSome=true
def nH(f:Nat):Nat:=f % 1000000
def nP(f:Nat)(vs:List Value)(v:Value)(e:Ending):Prop:=if f / 1000000=0 then e= .returned v else ∃ u,e= .returned u∧v= .tuple #[u,vs.getD 0 undef]
theorem rH{f:Nat}(h:f<1000000):nH f=f:=by unfold nH;omega
theorem zf{f:Nat}(h:f<1000000):nH (gx f)=f:=by unfold nH gx;omega
theorem qG{f:Nat}(h:f<1000000){vs:List Value}{v:Value}{e:Ending}:nP f vs v e↔e= .returned v:=by
 unfold nP
 rw[ai (by omega)]
theorem nO{f:Nat}{vs:List Value}{v:Value}{e:Ending}:nP (gx f) vs v e↔∃ u,e= .returned u∧v= .tuple #[u,vs.getD 0 undef]:=by
 unfold nP gx
 rw[ad (by omega)]
def gU(P:Program)(B:Nat→Nat→Option Value)(cf:au):Prop:=∀ f as ns cs r rs cs',cf f as ns cs=some (r,rs,cs')→
 kZ P (nH f)∧cs'.length=cs.length∧np r=true∧(∀ c∈cs',aG c=true)∧
 ∀ G w (vs:List Value),bt P B G (cF ns cs) w→as.length=vs.length→(∀ (j:Nat) p v,as[j]? =some p→vs[j]? =some v→R G p v∧bN p=true)→
  Calls P (nH f) vs.toArray w fun e w'=>∃ v G',nP f vs v e∧R G' r v∧bt P B G' (cF rs cs') w'∧bV G w G' w'∧G'.ob=G.ob∧∀ k,k<cs.length→G'.oe k=G.oe k
mutual
theorem fC(f:Nat→Option Nat)(s:Bool)(K:Nat→Bool):∀ (p:PV),al K (ren f s p)=al K p
 | .list n cs t=>by rw[gW];simp[al,iJ f s K cs]
 | .iptr cs o t=>by rw[pU];simp[al,iJ f s K cs]
 | .agg cs=>by simp[ren,al,iJ f s K cs]
 | .tup cs=>by simp[ren,al,iJ f s K cs]
 | .fn g cs=>by simp[ren,al,iJ f s K cs]
 | .ptr _ _=>rfl
 | .osl _ _ _ _=>rfl
 | .mp _=>rfl
 | .any=>rfl
 | .hole=>rfl
 | .int _ _=>rfl
 | .bool _=>rfl
 | .str _=>rfl
 | .nilp=>rfl
 | .nili=>rfl
 | .err=>rfl
theorem iJ(f:Nat→Option Nat)(s:Bool)(K:Nat→Bool):∀ (ps:List PV),cM K (bB f s ps)=cM K ps
 | []=>rfl
 |p::ps=>by simp[bB,cM,fC f s K p,iJ f s K ps]
end
theorem n7{f:Nat→Option Nat}{s:Bool}{cs:List PV}(h:aG cs=true):aG (bB f s cs)=true:=by
 simp only[aG,iJ];exact h
theorem wZ{cs:List PV}(h:aG cs=true):aG (aB cs)=true:=n7 h
theorem rc:∀ {l:List Nat} {k i:Nat},bG l k=some i→l[i]? =some k
 | [],k,i,h=>by cases h
 |x::xs,k,i,h=>by
  unfold bG at h
  split at h
  ·rename_i e;cases h;simp[e]
  ·simp only[ae]at h
   obtain⟨j,hj,rfl⟩:=h
   simpa using rc hj
theorem v7:∀ {l:List Nat} {k i:Nat},l.Nodup→l[i]? =some k→bG l k=some i
 | [],k,i,_,h=>by simp at h
 |x::xs,k,i,hn,h=>by
  simp only[lm]at hn
  unfold bG
  cases i with
  |zero=>simp at h;rw[ai h]
  |succ i=>
   have h':xs[i]? =some k:=by simpa using h
   have hne:x≠k:=by rintro rfl;exact hn.1 (bw h')
   rw[ad hne,v7 hn.2 h']
   rfl
theorem tW{l:List Nat}{k:Nat}(h:l.contains k=false):bG l k=none:=by
 cases hx:bG l k with
 |none=>rfl
 |some i=>
  have:=bw (rc hx)
  rw[dB.2 this]at h
  cases h
theorem vh:∀ {l:List Nat},oP l=true→l.Nodup
 | [],_=>iR
 |x::xs,h=>by
  simp only[oP,aa,gO]at h
  refine lm.2 ⟨fun hm=>?_,vh h.2⟩
  rw[dB.2 hm]at h
  cases h.1
theorem oS(p:PV):bJ [] p=p:=by
 have:tf (List.contains ([]:List Nat) ·) p=true:=j9 p
 simp only[bJ,this,if_true]
theorem p7(objs:Nat→Option (List PV)):gp [] objs=objs:=by
 funext s
 simp only[gp]
 cases objs s with
 |none=>rfl
 |some c=>simp[oS,List.map_id'']
theorem p8(maps:Nat→Option (List (PV×PV))):iZ [] maps=maps:=by
 funext s
 simp only[iZ]
 cases maps s with
 |none=>rfl
 |some c=>simp[oS]
theorem gC{objs:Nat→Option (List PV)}:∀ {ks:List Nat} {cs:List (List PV)} {s:Nat},s∉ks→dw objs ks cs s=objs s
 | [],_,_,_=>rfl
 |k::ks,[],_,_=>rfl
 |k::ks,c::cs,s,h=>by
  simp only[aJ,not_or]at h
  simp only[dw]
  rw[gC h.2]
  simp[h.1]
theorem iF{objs:Nat→Option (List PV)}:∀ {ks:List Nat} {cs:List (List PV)} {i s:Nat},ks.Nodup→ks[i]? =some s→ks.length=cs.length→dw objs ks cs s=cs[i]?
 | [],_,i,s,_,h,_=>by simp at h
 |k::ks,[],_,_,_,_,hl=>by simp at hl
 |k::ks,c::cs,i,s,hn,h,hl=>by
  simp only[lm]at hn
  simp only[dw]
  cases i with
  |zero=>
   simp at h;subst h
   rw[gC hn.1]
   simp
  |succ i=>
   rw[iF hn.2 (by simpa using h) (by simpa using hl)]
   simp
theorem q7:∀ {ks:List Nat} {i j s:Nat},ks.Nodup→ks[i]? =some s→ks[j]? =some s→i=j
 | [],i,j,s,_,h,_=>by simp at h
 |k::ks,i,j,s,hn,h,h'=>by
  simp only[lm]at hn
  cases i<;>cases j
  ·rfl
  ·simp at h h';subst h;exact absurd (bw h') hn.1
  ·simp at h h';subst h';exact absurd (bw h) hn.1
  ·rename_i i j
   have:=q7 (i:=i) (j:=j) (s:=s) hn.2 (by simpa using h) (by simpa using h')
   omega
theorem kL{st:St}:∀ {ks:List Nat} {cs:List (List PV)},cE st ks=some cs→ks.length=cs.length∧∀ (i s:Nat),ks[i]? =some s→st.objs s=cs[i]?
 | [],cs,h=>by cases h;exact⟨rfl,fun i s h=>by simp at h⟩
 |k::ks,cs,h=>by
  unfold cE at h
  split at h
  ·rename_i c cs' h1 h2
   cases h
   obtain⟨hl,hg⟩:=kL h2
   refine⟨by simp[hl],fun i s hi=>?_⟩
   cases i with
   |zero=>simp at hi;subst hi;simpa using h1
   |succ i=>simpa using hg i s (by simpa using hi)
  ·cases h
theorem i6:∀ {as:List PV} {ks:List Nat},ch as=some ks→ks.Nodup
 | [],ks,h=>by cases h;exact iR
 |p::ps,ks,h=>by
  unfold ch at h
  split at h
  ·rename_i e;cases e
  ·rename_i s al ps' e
   cases e
   split at h
   ·rename_i ks' hk
    split at h
    ·rename_i hb
     cases h
     exact lm.2 ⟨by simpa using hb.2,i6 hk⟩
    ·cases h
   ·cases h
  ·rename_i e
   cases e
   split at h
   ·exact i6 h
   ·cases h
theorem mA(J mv:List Nat):∀ (as:List PV) (i n:Nat),(d9 J mv i n as).length=as.length
 | [],_,_=>rfl
 |p::ps,i,n=>by
  cases p<;>simp[d9,mA J mv ps]
theorem nG{J mv:List Nat}:∀ {as:List PV} {ks:List Nat} {i n j:Nat} {q:PV},ch as=some ks→(d9 J mv i n as)[j]? =some q→
  (∃ t s,ks[t]? =some s∧as[j]? =some (.ptr s 0)∧q= .ptr (n+t) 0)∨∃ p,as[j]? =some p∧np p=true∧q=if mv.contains (i+j)then ren (bG J) false p else aA p
 | [],ks,i,n,j,q,h,hq=>by simp[d9]at hq
 |p::ps,ks,i,n,j,q,h,hq=>by
  unfold ch at h
  split at h
  ·rename_i e;cases e
  ·rename_i s al ps' e
   cases e
   split at h
   ·rename_i ks' hk
    split at h
    ·rename_i hb
     cases h
     obtain⟨rfl,_⟩:=hb
     have hq':(PV.ptr n 0::d9 J mv (i+1) (n+1) ps)[j]? =some q:=hq
     cases j with
     |zero=>simp at hq';subst hq';exact .inl ⟨0,s,rfl,rfl,by simp⟩
     |succ j=>
      rcases nG hk (by simpa using hq')with⟨t,s',h1,h2,h3⟩|⟨p,h1,h2,h3⟩
      ·exact .inl ⟨t+1,s',by simpa using h1,by simpa using h2,by rw[h3];congr 1;omega⟩
      ·exact .inr ⟨p,by simpa using h1,h2,by rw[h3,show i+1+j=i+(j+1) by omega]⟩
    ·cases h
   ·cases h
  ·rename_i p' ps' hne e
   cases e
   split at h
   ·rename_i hp
    have hq':((if mv.contains i then ren (bG J) false p else aA p)::d9 J mv (i+1) n ps)[j]? =some q:=by
     cases p with
     |ptr s o=>simp[np,al]at hp
     |_=>exact hq
    cases j with
    |zero=>simp only[ah,aZ]at hq';subst hq';exact .inr ⟨p,rfl,hp,rfl⟩
    |succ j=>
     rcases nG h (by simpa using hq')with⟨t,s',h1,h2,h3⟩|⟨p,h1,h2,h3⟩
     ·exact .inl ⟨t,s',h1,by simpa using h2,h3⟩
     ·exact .inr ⟨p,by simpa using h1,h2,by rw[h3,show i+1+j=i+(j+1) by omega]⟩
   ·cases h
theorem yy{J mv:List Nat}:∀ {as:List PV} {i j:Nat} {p:PV},jR J mv i as=true→as[j]? =some p→mv.contains (i+j)=true∨tf (J.contains ·) p=true
 | [],i,j,p,_,h=>by simp at h
 |a::as,i,j,p,hs,h=>by
  simp only[jR,aa,bP]at hs
  cases j with
  |zero=>simp at h;subst h;simpa using hs.1
  |succ j=>have:=yy hs.2 (j:=j) (by simpa using h);rwa [show i+1+j=i+(j+1) by omega]at this
theorem zy{J:List Nat}:∀ {bs:List Bool} {cs:List (List PV)} {k:Nat} {c:List PV},lG J bs cs=true→(jX J bs cs)[k]? =some c→
  ∃ c0,cs[k]? =some c0∧(c=bB (bG J) false c0∨(c=aB c0∧dT (J.contains ·) c0=true))
 | [],[],k,c,_,h=>by simp[jX]at h
 | [],_::_,k,c,hs,h=>by simp[lG]at hs
 |b::bs,[],k,c,_,h=>by simp[jX]at h
 |b::bs,d::cs,k,c,hs,h=>by
  simp only[lG,aa,bP]at hs
  simp only[jX]at h
  cases k with
  |zero=>
   simp only[ah,aZ]at h
   subst h
   refine⟨d,rfl,?_⟩
   cases b with
   |true=>exact .inl rfl
   |false=>exact .inr ⟨rfl,by simpa using hs.1⟩
  |succ k=>
   obtain⟨c0,h1,h2⟩:=zy hs.2 (k:=k) (by simpa using h)
   exact⟨c0,by simpa using h1,h2⟩
theorem ul{J:List Nat}:∀ {bs:List Bool} {cs:List (List PV)},(jX J bs cs).length=cs.length
 | [],cs=>by simp[jX]
 |b::bs,[]=>by simp[jX]
 |b::bs,c::cs=>by simp[jX,ul (bs:=bs) (cs:=cs)]
def Gh.hand(G:Gh)(ks J:List Nat):Gh:=
 {com:=G.com,sh:=G.sh,tk:=fun t=>(J[t]?).bind G.tk,ob:=fun k=>(ks[k]?).bind G.ob,nx:=J.length,pv:=fun b=>(G.pv b).bind (bG J),
  xp:=fun b=>(match G.pv b with|some k=>!J.contains k|none=>false)||G.xp b,oe:=fun k=>(ks[k]?).bind G.oe,mb:=fun _=>none}
theorem Cy(G:Gh)(ks J:List Nat):Rn (bG J) (fun _=>false) false G (G.hand ks J) where
 com b o v h _:=h
 sh b x h:=h
 tk k k' h _ _:=by
  have hg:=rc h
  refine⟨(a8.1 hg).1,fun x' hx'=>?_⟩
  simp only[Gh.hand,hg,dr]at hx'
  exact⟨x',hx',aD _,fun _=>rfl⟩
 pv b k' o v _ _ h:=by
  simp only[Gh.hand,bp]at h
  obtain⟨k,h1,h2⟩:=h
  exact .inl ⟨k,h1,h2⟩
 xp b o v _ _ h:=by
  simp only[Gh.hand,bP]at h
  rcases h with h|h
  ·split at h
   ·rename_i k hk
    exact .inr ⟨k,hk,tW (by simpa using h)⟩
   ·cases h
  ·exact .inl h
theorem Au(G:Gh)(ks J:List Nat):Rn (fun _=>none) (J.contains ·) false G (G.hand ks J) where
 com b o v h _:=h
 sh b x h:=h
 tk k k' h:=by cases h
 pv b k' o v _ hK h:=by
  simp only[Gh.hand,bp]at h
  obtain⟨k,h1,h2⟩:=h
  rw[tW (hK k h1)]at h2;cases h2
 xp b o v _ _ h:=by
  simp only[Gh.hand,bP]at h
  rcases h with h|h
  ·split at h
   ·rename_i k hk
    exact .inr ⟨k,hk,rfl⟩
   ·cases h
  ·exact .inl h
theorem Rs.ren{f:Nat→Option Nat}{K:Nat→Bool}{X:Bool}{G G':Gh}(h:Rn f K X G G'){sw:Bool}{cs:List PV}{vs:List Value}(hR:Rs G cs vs)(hn:aG cs=true)(hK:dT K cs=true)(hX:X=true→eg cs=true):Rs G' (bB f sw cs) vs:=by
 obtain⟨hl,hr,h1⟩:=hR
 refine⟨by rw[gB];exact hl,fun j p u hp hu=>?_,h1⟩
 rw[r8]at hp
 cases hc:cs[j]? with
 |none=>rw[hc]at hp;simp at hp
 |some q=>
  rw[hc]at hp
  simp at hp
  subst hp
  exact(hr j q u hc hu).ren h (fun _=>true) (fun s hs=>by cases hs) (gX hn hc) (j8 hK hc) (fun hx=>jM (hX hx) hc)
section
variable {G:Gh} {st st':St} {w:World}
def wt(st:St)(ts:List (Nat×Nat)):Prop:=(ts.map (·.1)).Nodup∧∀ q∈ts,q.1<st.nx∧st.cnt q.1=q.2∧st.fl≤q.1
theorem Cm{ts:List (Nat×Nat)}(h1:oP (ts.map (·.1))=true)(h2:ts.all (qZ st)=true):wt st ts:=by
 refine⟨vh h1,fun q hq=>?_⟩
 have:=(aU.1 h2) q hq
 simp only[qZ,gu,aa,decide_eq_true_eq,hD]at this
 exact⟨this.1.1,this.1.2,this.2⟩
theorem vA{ts:List (Nat×Nat)}(h:wt st ts){t k:Nat}(hk:(ts.map (·.1))[t]? =some k):k<st.nx∧(ts.map (·.2)).getD t 0=st.cnt k∧st.fl≤k∧t<ts.length:=by
 rw[b7,ae]at hk
 obtain⟨q,hq,rfl⟩:=hk
 obtain⟨h1,h2,h3⟩:=h.2 q (bw hq)
 exact⟨h1,by simp[fe,b7,hq,h2],h3,(a8.1 hq).1⟩
def Do(J:List Nat)(cs ds:List (List PV)):Prop:=∀ (k:Nat) c,ds[k]? =some c→∃ c0,cs[k]? =some c0∧(c=bB (bG J) false c0∨(c=aB c0∧dT (J.contains ·) c0=true))
theorem bt.hand(hI:bt P B G st w){ks:List Nat}{cs ds:List (List PV)}(hn:ks.Nodup)(hg:cE st ks=some cs){ts:List (Nat×Nat)}(hts:wt st ts)(hds:ds.length=cs.length)(hbx:Do (ts.map (·.1)) cs ds):
  bt P B (G.hand ks (ts.map (·.1))) (cF (ts.map (·.2)) ds) w:=by
 obtain⟨hl,hget⟩:=kL hg
 generalize hJ:ts.map (·.1)=J at*
 have hJn:J.Nodup:=by rw[←hJ];exact hts.1
 have hJl:J.length=ts.length:=by rw[←hJ];simp
 have hJk:∀ {t k:Nat},J[t]? =some k→k<st.nx∧(ts.map (·.2)).getD t 0=st.cnt k∧st.fl≤k∧t<ts.length:=fun h=>vA hts (by rw[hJ];exact h)
 have htk:∀ {t x},(G.hand ks J).tk t=some x→∃ k,J[t]? =some k∧G.tk k=some x:=by
  intro t x h
  simpa only[Gh.hand,bp]using h
 have hob:∀ {k b},(G.hand ks J).ob k=some b→∃ s,ks[k]? =some s∧G.ob s=some b:=by
  intro k b h
  simpa only[Gh.hand,bp]using h
 refine⟨hI.com,hI.sh,by simp[Gh.hand,cF,hJl],fun t x h=>?_,fun t h=>?_,fun t r h=>?_,fun t u r q h1 h2 hb=>?_,fun t r h=>?_,?_,?_,?_,?_,?_,fun b k h=>?_,fun b h=>?_,fun b o v h=>?_,fun s b e sz h1 h2=>?_,fun s es h=>(by cases h),fun s b h=>(by cases h),fun s u b h=>(by cases h),fun s _=>rfl,fun k b h=>?_,fun t m h=>by obtain⟨k,hk,hx⟩:=htk h;exact hI.ful k m hx⟩
 ·obtain⟨k,hk,hx⟩:=htk h
  obtain⟨h1,h2,_,h4⟩:=hJk hk
  refine⟨by simpa [cF]using h4,?_⟩
  simp only[cF]
  rw[h2,(hI.cnt k x hx).2]
 ·have hlt:t<J.length:=by simpa [cF,hJl]using h
  have hk:J[t]? =some J[t]:=az hlt
  obtain⟨x,hx⟩:=hI.live _ (hJk hk).1
  exact⟨x,by simp only[Gh.hand,hk,dr];exact hx⟩
 ·obtain⟨k,hk,hx⟩:=htk h
  obtain⟨h1,h2,h3,h4,h5,h6⟩:=hI.room k r hx
  refine⟨h1,h2,h3,h4,h5,?_⟩
  have hp:=(hI.priv k r hx).1 (hJk hk).2.2.1
  simp[Gh.hand,hp,h6,bw hk]
 ·obtain⟨k,hk,hx⟩:=htk h1
  obtain⟨l,hl',hy⟩:=htk h2
  have:=hI.apart k l r q hx hy hb
  subst this
  exact q7 hJn hk hl'
 ·obtain⟨k,hk,hx⟩:=htk h
  have hp:=(hI.priv k r hx).1 (hJk hk).2.2.1
  have hpi:(G.hand ks J).pv r.b=some t:=by simp only[Gh.hand,hp,dr];exact v7 hJn hk
  rw[hpi]
  exact⟨fun _=>rfl,fun j hj=>(Option.some.inj hj).symm⟩
 ·intro k c h
  obtain⟨c0,h1,h2⟩:=hbx k c h
  have hk:k<ks.length:=by have:=(a8.1 h1).1;omega
  have hks:ks[k]? =some ks[k]:=az hk
  have hs:st.objs ks[k]=some c0:=by rw[hget k _ hks,h1]
  obtain⟨b,e,vs,hb,hh,hR⟩:=hI.objs _ c0 hs
  refine⟨b,e,vs,by simp only[Gh.hand,hks,dr];exact hb,hh,?_⟩
  rcases h2 with rfl|⟨rfl,h2⟩
  ·exact hR.ren (Cy G ks J) (hI.npo _ c0 hs) (io c0) (by simp)
  ·exact hR.ren (Au G ks J) (hI.npo _ c0 hs) h2 (by simp)
 ·intro k b h
  obtain⟨s,h1,h2⟩:=hob h
  exact hI.obs s b h2
 ·intro k l b h h'
  obtain⟨s,h1,h2⟩:=hob h
  obtain⟨u,h3,h4⟩:=hob h'
  have:=hI.obj s u b h2 h4
  subst this
  exact q7 hn h1 h3
 ·intro k h
  have h':ds[k]? =none:=h
  have:ks.length≤k:=by have:=ln.1 h';omega
  simp[Gh.hand,cU this]
 ·intro k c h
  obtain⟨c0,h1,h2⟩:=hbx k c h
  have hk:k<ks.length:=by have:=(a8.1 h1).1;omega
  have hs:st.objs ks[k]=some c0:=by rw[hget k _ (az hk),h1]
  have:=hI.npo _ c0 hs
  rcases h2 with rfl|⟨rfl,h2⟩
  ·exact n7 this
  ·exact wZ this
 ·simp only[Gh.hand,bp]at h
  obtain⟨k',h1,_⟩:=h
  exact hI.pvl b k' h1
 ·simp only[Gh.hand,bP]at h
  rcases h with h|h
  ·split at h
   ·rename_i k hk;exact hI.pvl b k hk
   ·cases h
  ·exact hI.xpl b h
 ·obtain⟨h1,h2,h3⟩:=hI.base b o v h
  exact⟨h1,by simp[Gh.hand,h2],h3⟩
 ·simp only[Gh.hand,bp]at h1 h2
  obtain⟨s1,h3,h4⟩:=h1
  obtain⟨s2,h5,h6⟩:=h2
  rw[h3]at h5;cases h5
  exact hI.oes s1 b e sz h4 h6
 ·obtain⟨s,h1,h2⟩:=hob h
  obtain⟨h3,h4⟩:=hI.obx s b h2
  simp[Gh.hand,h3,h4]
def Gh.back(G G1:Gh)(J:List Nat)(m:Nat)(cl:Bool):Gh:=
 {com:=G1.com,sh:=G1.sh,tk:=fun t=>if t<G.nx then(if J.contains t then some (.full 0)else G.tk t)else G1.tk (t-G.nx),ob:=G.ob,nx:=G.nx+m,
  pv:=fun b=>match G1.pv b with
   |some k=>some (G.nx+k)
   |none=>if cl then(match G.pv b with|some k=>if J.contains k then none else some k|none=>none)else none,
  xp:=G.xp,oe:=G.oe,mb:=G.mb}
theorem Cz{G G1:Gh}{ks J:List Nat}{m:Nat}{cl:Bool}(hxp:G1.xp=(G.hand ks J).xp)(hm:G1.nx=m):Rn (fun k=>some (G.nx+k)) (fun _=>false) cl G1 (G.back G1 J m cl) where
 com b o v h _:=h
 sh b x h:=h
 tk k k' h _ hlt:=by
  cases h
  refine⟨by simp[Gh.back];omega,fun x' hx'=>?_⟩
  simp only[Gh.back]at hx'
  rw[ad (by omega),Nat.add_sub_cancel_left]at hx'
  exact⟨x',hx',aD _,fun _=>rfl⟩
 pv b k' o v _ _ h:=by
  simp only[Gh.back]at h
  split at h
  ·rename_i k hk
   cases h
   exact .inl ⟨k,hk,rfl⟩
  ·split at h
   ·rename_i hc
    split at h
    ·rename_i k hk
     split at h
     ·cases h
     ·rename_i hJ
      refine .inr ⟨hc,?_⟩
      rw[hxp]
      simp only[Gh.hand,hk,bP]
      exact .inl (by simpa using hJ)
    ·cases h
   ·cases h
 xp b o v _ _ h:=by
  simp only[Gh.back]at h
  exact .inl (by rw[hxp];simp[Gh.hand,h])
theorem nF{G:Gh}{ks J:List Nat}{b:Nat}(h:∀ k,G.pv b=some k→J.contains k=false):(G.hand ks J).pv b=none:=by
 simp only[Gh.hand]
 cases hp:G.pv b with
 |none=>rfl
 |some k=>simp only[dr];exact tW (h k hp)
theorem Cv{G G1:Gh}{ks J:List Nat}{m:Nat}{cl:Bool}(hle:qI (G.hand ks J) G1):Rn some (J.contains ·) false G (G.back G1 J m cl) where
 com b o v h hK:=(hle.com b o v h (nF hK)).1
 sh b x h:=hle.sh b x h
 tk k k' h hK hlt:=by
  cases h
  refine⟨by simp[Gh.back];omega,fun x' hx'=>?_⟩
  simp only[Gh.back,ai hlt]at hx'
  rw[ad (by rw[hK];simp)]at hx'
  exact⟨x',hx',aD _,fun _=>rfl⟩
 pv b k' o v h hK hp:=by
  have h1:=(hle.com b o v h (nF hK)).2
  simp only[Gh.back,h1]at hp
  split at hp
  ·split at hp
   ·rename_i k hk
    split at hp
    ·cases hp
    ·cases hp;exact .inl ⟨_,hk,rfl⟩
   ·cases hp
  ·cases hp
 xp b o v _ _ h:= .inl h
theorem R.stay{G G1:Gh}{ks J:List Nat}{m:Nat}{cl:Bool}(hle:qI (G.hand ks J) G1){p:PV}{v:Value}(hR:R G p v):R (G.back G1 J m cl) (bJ J p) v:=by
 unfold bJ
 split
 ·rename_i ht
  have:=hR.ren (sw:=false) (Cv (m:=m) (cl:=cl) hle) (fun _=>false) (fun s _=>rfl) (pZ p) ht (by simp)
  rwa [ren_some]at this
 ·exact .any v
theorem vY{J:List Nat}{p:PV}(h:np p=true):np (bJ J p)=true:=by
 unfold bJ;split
 ·exact h
 ·rfl
theorem pn{J:List Nat}{p:PV}(h:bN p=true):bN (bJ J p)=true:=by
 unfold bJ;split
 ·exact h
 ·rfl
theorem Rs.stay{G G1:Gh}{ks J:List Nat}{m:Nat}{cl:Bool}(hle:qI (G.hand ks J) G1){cs:List PV}{vs:List Value}(hR:Rs G cs vs):Rs (G.back G1 J m cl) (cs.map (bJ J)) vs:=by
 obtain⟨hl,hr,h1⟩:=hR
 refine⟨by simpa using hl,fun j p u hp hu=>?_,h1⟩
 rw[b7,ae]at hp
 obtain⟨q,hq,rfl⟩:=hp
 exact(hr j q u hq hu).stay hle
theorem AK{J:List Nat}{cs:List PV}(h:aG cs=true):aG (cs.map (bJ J))=true:=
 kX fun p hp=>by
  obtain⟨q,hq,rfl⟩:=cq.1 hp
  exact vY (eF h hq)
theorem bt.back(hI:bt P B G st w){ks:List Nat}{cs cs':List (List PV)}{ns:List Nat}{cl:Bool}(hn:ks.Nodup)(hg:cE st ks=some cs)(hlen:cs'.length=cs.length){ts:List (Nat×Nat)}(hts:wt st ts){G1:Gh}{w1:World}
  (hI1:bt P B G1 (cF ns cs') w1) (hS1:bV (G.hand ks (ts.map (·.1))) w G1 w1) (hob1:G1.ob=(G.hand ks (ts.map (·.1))).ob) (hoe1:∀ k,k<cs.length→G1.oe k=(G.hand ks (ts.map (·.1))).oe k) (hcs:∀ c∈cs',aG c=true) (hcl:cl=true→∀ c∈cs',eg c=true):
  bt P B (G.back G1 (ts.map (·.1)) ns.length cl) {st.more ns with cnt:=(fun t=>if(ts.map (·.1)).contains t then 0 else(st.more ns).cnt t),objs:=dw (gp (ts.map (·.1)) st.objs) ks (cs'.map (bB (fun k=>some (st.nx+k)) false)),maps:=iZ (ts.map (·.1)) st.maps,fl:=if cl then st.fl else st.nx} w1∧
  bV G w (G.back G1 (ts.map (·.1)) ns.length cl) w1:=by
 obtain⟨hl,hget⟩:=kL hg
 generalize hJ:ts.map (·.1)=J at*
 have hJn:J.Nodup:=by rw[←hJ];exact hts.1
 have hJk:∀ {t k:Nat},J[t]? =some k→k<st.nx∧st.fl≤k:=fun h=>by
  have:=vA hts (by rw[hJ];exact h)
  exact⟨this.1,this.2.2.1⟩
 have hJlt:∀ {k:Nat},J.contains k=true→k<st.nx:=fun h=>by
  obtain⟨i,hi,e⟩:=cP (dB.1 h)
  exact(hJk (by rw[←e];exact az hi)).1
 have hnx:=hI.nx
 have hnx1:G1.nx=ns.length:=hI1.nx
 have hxp:G1.xp=(G.hand ks J).xp:=hS1.le.xp
 have hsz:=hS1.size
 have old:∀ {t r},G.tk t=some (.room r)→r.b<w.heap.size:=by
  intro t r h
  obtain⟨h1,_⟩:=hI.room t r h
  obtain⟨cur,hc,_⟩:=hI.sh _ _ _ h1
  exact(aE.1 hc).1
 have handT:∀ {t r},(G.hand ks J).tk t=some (.room r)→∃ k,J[t]? =some k∧G.tk k=some (.room r):=by
  intro t r h
  simpa only[Gh.hand,bp]using h
 have newT:∀ {t r},G1.tk t=some (.room r)→(∃ k q,J.contains k=true∧G.tk k=some (.room q)∧q.b=r.b)∨w.heap.size≤r.b:=by
  intro t r h
  rcases hS1.nearT t r h with⟨u,q,hu,hq⟩|h
  ·obtain⟨k,hk,hx⟩:=handT hu
   exact .inl ⟨k,q,dB.2 (bw hk),hx,hq⟩
  ·exact .inr h
 have comB:∀ {b o v},G1.com b o=some v→b<w.heap.size→G.com b o=some v∨∃ k q,J.contains k=true∧G.tk k=some (.room q)∧q.b=b:=by
  intro b o v h hb
  rcases hS1.nearC b o v h with h|⟨t,r,hr,he⟩|h
  ·exact .inl h
  ·obtain⟨k,hk,hx⟩:=handT hr
   exact .inr ⟨k,r,dB.2 (bw hk),hx,he⟩
  ·omega
 have shB:∀ {b x},G1.sh b=some x→b<w.heap.size→G.sh b=some x:=by
  intro b x h hb
  rcases hS1.nearS b x h with h|h
  ·exact h
  ·omega
 have pvB:∀ {b},b<w.heap.size→(∀ k,G.pv b=some k→J.contains k=false)→G1.pv b=none:=by
  intro b hb hK
  cases h:G1.pv b with
  |none=>rfl
  |some k=>
   rcases hS1.nearP b k h with⟨k',hk'⟩|hle
   ·rw[nF hK]at hk';cases hk'
   ·omega
 have tkAt:∀ {t x},(G.back G1 J ns.length cl).tk t=some x→(t<G.nx∧J.contains t=true∧x= .full 0)∨(t<G.nx∧J.contains t=false∧G.tk t=some x)∨(G.nx≤t∧J.contains t=false∧G1.tk (t-G.nx)=some x):=by
  intro t x h
  by_cases ht:t<G.nx
  ·simp only[Gh.back,ai ht]at h
   cases hj:J.contains t with
   |true=>rw[hj]at h;simp at h;exact .inl ⟨ht,rfl,h.symm⟩
   |false=>rw[hj]at h;exact .inr (.inl ⟨ht,rfl,by simpa using h⟩)
  ·simp only[Gh.back,ad ht]at h
   refine .inr (.inr ⟨by omega,?_,h⟩)
   cases hj:J.contains t with
   |false=>rfl
   |true=>have:=hJlt hj;omega
 have kI:∀ {k b},G1.ob k=some b→∃ s,ks[k]? =some s∧G.ob s=some b:=by
  intro k b h
  rw[hob1]at h
  simpa only[Gh.hand,bp]using h
 have keyIn:∀ {s:Nat},s∈ks→∃ i:Nat,ks[i]? =some s:=fun h=>by
  obtain⟨i,hi,e⟩:=cP h
  exact⟨i,by rw[←e];exact az hi⟩
 have hmlen:ks.length=(cs'.map (bB (fun k=>some (st.nx+k)) false)).length:=by simp;omega
 have objAt:∀ {s c},dw (gp J st.objs) ks (cs'.map (bB (fun k=>some (st.nx+k)) false)) s=some c→(∃ (i:Nat) (c0:List PV),ks[i]? =some s∧cs'[i]? =some c0∧c=bB (fun k=>some (st.nx+k)) false c0)∨(s∉ks∧∃ c0,st.objs s=some c0∧c=c0.map (bJ J)):=by
  intro s c h
  by_cases hs:s∈ks
  ·obtain⟨i,hi⟩:=keyIn hs
   rw[iF hn hi hmlen,b7,ae]at h
   obtain⟨c0,h1,h2⟩:=h
   exact .inl ⟨i,c0,hi,h1,h2.symm⟩
  ·rw[gC hs]at h
   simp only[gp,ae]at h
   obtain⟨c0,h1,h2⟩:=h
   exact .inr ⟨hs,c0,h1,h2.symm⟩
 have boxCells:∀ {s b},G.ob s=some b→∃ c e,w.heap[b]? =some (.cells c e (0,0)):=by
  intro s b h
  cases hs:st.objs s with
  |none=>rw[hI.nob s hs]at h;cases h
  |some c=>
   obtain⟨b',e,vs,h1,h2,_⟩:=hI.objs s c hs
   rw[h]at h1;cases h1
   exact⟨_,_,h2⟩
 have roomCells:∀ {t r},G.tk t=some (.room r)→∃ c e,w.heap[r.b]? =some (.cells c e (0,0)):=by
  intro t r h
  obtain⟨h1,_⟩:=hI.room t r h
  obtain⟨cur,hc,_⟩:=hI.sh _ _ _ h1
  exact⟨_,_,hc⟩
 have noBoxRoom:∀ {s t b r},G.ob s=some b→G.tk t=some (.room r)→r.b≠b:=by
  rintro s t b r h1 h2 rfl
  have:=(hI.obs s _ h1).2.2
  rw[(hI.room t r h2).1]at this;cases this
 have hkept:∀ b,b<w.heap.size→(∀ s,s∈ks→G.ob s≠some b)→(∀ t r,G.tk t=some (.room r)→r.b≠b)→w1.heap[b]? =w.heap[b]? :=by
  intro b hb ho ht
  refine hS1.kept b hb (fun k h=>?_) (fun t r h=>?_) (fun s h=>by cases h)
  ·simp only[Gh.hand,bp]at h
   obtain⟨s,h1,h2⟩:=h
   exact ho s (bw h1) h2
  ·obtain⟨k,_,hx⟩:=handT h
   exact ht k r hx
 have hmap:∀ {b:Nat} {vs:Array MapEntry} {clk:Nat},w.heap[b]? =some (.map vs clk)→w1.heap[b]? =some (.map vs clk):=by
  intro b vs clk h
  rw[hkept b (aE.1 h).1 (fun s _ hs=>?_) (fun t r hr e=>?_)]
  ·exact h
  ·obtain⟨c,e,h2⟩:=boxCells hs
   rw[h]at h2;cases h2
  ·obtain⟨c,e',h2⟩:=roomCells hr
   rw[e,h]at h2;cases h2
 have hbox:∀ {s b:Nat},s∉ks→G.ob s=some b→w1.heap[b]? =w.heap[b]? :=by
  intro s b hs hb
  refine hkept b (hI.obs s b hb).1 (fun u hu h=>?_) (fun t r hr=>noBoxRoom hb hr)
  have:=hI.obj u s b h hb
  subst this
  exact hs hu
 refine⟨⟨hI1.com,hI1.sh,?_,?_,?_,?_,?_,?_,?_,?_,hI.obj,?_,?_,?_,fun b h=>by have:=hI.xpl b h;omega,?_,?_,?_,?_,hI.mbi,?_,fun s b h=>?_,fun t m h=>by
  rcases tkAt h with⟨ht,hj,h⟩|⟨ht,hj,h⟩|⟨ht,hj,h⟩
  ·cases h;rfl
  ·exact hI.ful t m h
  ·exact hI1.ful _ m h⟩,⟨⟨fun b o v hc hp=>?_,hS1.le.sh,rfl⟩,hsz,fun b hb ho ht hm=>hkept b hb (fun s _=>ho s) ht,fun s b h=> .inl ⟨s,h⟩,?_,?_,hS1.nearS,?_,fun s b h=> .inl ⟨s,h⟩,hS1.eff⟩⟩
 ·simp[Gh.back,St.more_nx,hnx]
 ·intro t x h
  rcases tkAt h with⟨ht,hj,rfl⟩|⟨ht,hj,h⟩|⟨ht,hj,h⟩
  ·refine⟨by simp only[St.more_nx];omega,?_⟩
   simp only[hj,if_true];rfl
  ·obtain⟨h1,h2⟩:=hI.cnt t x h
   refine⟨by simp only[St.more_nx];omega,?_⟩
   simp only[hj,St.more_old st ns h1]
   exact h2
  ·obtain⟨h1,h2⟩:=hI1.cnt _ x h
   simp only[cF]at h1 h2
   refine⟨by simp only[St.more_nx];omega,?_⟩
   simp only[hj,St.more_new st ns (show st.nx≤t by omega) (by omega)]
   rw[←hnx]
   exact h2
 ·intro t ht
  simp only[St.more_nx]at ht
  by_cases h:t<G.nx
  ·cases hj:J.contains t with
   |true=>exact⟨.full 0,by simp only[Gh.back,ai h,hj,if_true]⟩
   |false=>
    obtain⟨x,hx⟩:=hI.live t (by omega)
    exact⟨x,by simp only[Gh.back,ai h,hj];exact hx⟩
  ·obtain⟨x,hx⟩:=hI1.live (t-G.nx) (by simp only[cF];omega)
   exact⟨x,by simp only[Gh.back,ad h];exact hx⟩
 ·intro t r h
  rcases tkAt h with⟨ht,hj,h⟩|⟨ht,hj,h⟩|⟨ht,hj,h⟩
  ·cases h
  ·obtain⟨h1,h2,h3,h4,h5,h6⟩:=hI.room t r h
   refine⟨hS1.le.sh _ _ h1,h2,h3,h4,fun o ho=>?_,h6⟩
   cases hc:G1.com r.b o with
   |none=>exact hc
   |some v=>
    rcases comB hc (old h)with h'|⟨k,q,hk,hq,hb⟩
    ·rw[h5 o ho]at h';cases h'
    ·have:=hI.apart t k r q h hq hb.symm
     subst this
     rw[hj]at hk;cases hk
  ·obtain⟨h1,h2,h3,h4,h5,h6⟩:=hI1.room _ r h
   refine⟨h1,h2,h3,h4,h5,?_⟩
   rw[hxp]at h6
   simp only[Gh.hand,iD]at h6
   exact h6.2
 ·intro t u r q h1 h2 hb
  rcases tkAt h1 with⟨ht,hj,h1⟩|⟨ht,hj,h1⟩|⟨ht,hj,h1⟩
  ·cases h1
  ·rcases tkAt h2 with⟨hu,hi,h2⟩|⟨hu,hi,h2⟩|⟨hu,hi,h2⟩
   ·cases h2
   ·exact hI.apart t u r q h1 h2 hb
   ·rcases newT h2 with⟨k,q',hk,hq',hb'⟩|hge
    ·have:=hI.apart t k r q' h1 hq' (by rw[hb,hb'])
     subst this
     rw[hj]at hk;cases hk
    ·have:=old h1;omega
  ·rcases tkAt h2 with⟨hu,hi,h2⟩|⟨hu,hi,h2⟩|⟨hu,hi,h2⟩
   ·cases h2
   ·rcases newT h1 with⟨k,q',hk,hq',hb'⟩|hge
    ·have:=hI.apart u k q q' h2 hq' (by rw[←hb,hb'])
     subst this
     rw[hi]at hk;cases hk
    ·have:=old h2;omega
   ·have:=hI1.apart _ _ r q h1 h2 hb;omega
 ·intro t r h
  rcases tkAt h with⟨ht,hj,h⟩|⟨ht,hj,h⟩|⟨ht,hj,h⟩
  ·cases h
  ·have hp:=hI.priv t r h
   have hpb:G1.pv r.b=none:=pvB (old h) fun k hk=>by rw[hp.2 k hk];exact hj
   simp only[Gh.back,hpb]
   cases cl with
   |true=>
    simp only[if_true]
    refine⟨fun hf=>?_,fun j hjj=>?_⟩
    ·simp[hp.1 hf,show t∉J by simpa using hj]
    ·split at hjj
     ·rename_i k hk
      split at hjj
      ·cases hjj
      ·cases hjj;exact hp.2 _ hk
     ·cases hjj
   |false=>simp;omega
  ·have hp:=hI1.priv _ r h
   have h1:=hp.1 (by simp[cF])
   simp only[Gh.back,h1]
   refine⟨fun _=>by simp;omega,fun j hj=>by simp at hj;omega⟩
 ·intro s c h
  rcases objAt h with⟨i,c0,hi,hc,rfl⟩|⟨hs,c0,hc,rfl⟩
  ·obtain⟨b,e,vs,hb,hh,hR⟩:=hI1.objs i c0 hc
   obtain⟨s',h1,h2⟩:=kI hb
   rw[hi]at h1
   cases h1
   have hm:=bw hc
   have:=hR.ren (sw:=false) (Cz (m:=ns.length) (cl:=cl) hxp hnx1) (hcs c0 hm) (io c0) (fun hx=>hcl hx c0 hm)
   rw[hnx]at this
   exact⟨b,e,vs,h2,hh,this⟩
  ·obtain⟨b,e,vs,hb,hh,hR⟩:=hI.objs s c0 hc
   exact⟨b,e,vs,hb,by rw[hbox hs hb];exact hh,hR.stay hS1.le⟩
 ·intro s b h
  obtain⟨h1,h2,h3⟩:=hI.obs s b h
  refine⟨by omega,fun o=>?_,?_⟩
  ·cases hc:G1.com b o with
   |none=>exact hc
   |some v=>
    rcases comB hc h1 with h'|⟨k,q,hk,hq,hb⟩
    ·rw[h2 o]at h';cases h'
    ·exact absurd hb (noBoxRoom h hq)
  ·cases hc:G1.sh b with
   |none=>exact hc
   |some x=>have:=shB hc h1;rw[h3]at this;cases this
 ·intro s h
  by_cases hs:s∈ks
  ·obtain⟨i,hi⟩:=keyIn hs
   have h':dw (gp J st.objs) ks (cs'.map (bB (fun k=>some (st.nx+k)) false)) s=none:=h
   rw[iF hn hi hmlen]at h'
   have:=ln.1 h'
   have:=(a8.1 hi).1
   omega
  ·have h':dw (gp J st.objs) ks (cs'.map (bB (fun k=>some (st.nx+k)) false)) s=none:=h
   rw[gC hs]at h'
   simp only[gp,dN]at h'
   exact hI.nob s h'
 ·intro s c h
  rcases objAt h with⟨i,c0,hi,hc,rfl⟩|⟨hs,c0,hc,rfl⟩
  ·exact n7 (hcs c0 (bw hc))
  ·exact AK (hI.npo s c0 hc)
 ·intro b k h
  simp only[Gh.back]at h
  split at h
  ·rename_i k' hk'
   exact hI1.pvl b k' hk'
  ·split at h
   ·split at h
    ·rename_i k' hk'
     have:=hI.pvl b k' hk';omega
    ·cases h
   ·cases h
 ·intro b o v h
  obtain⟨h1,h2,h4⟩:=hI1.base b o v h
  have h3:=(hI.base b o v h).2.1
  exact⟨h1,by simp[Gh.back,h2,h3],h4⟩
 ·intro s b e sz h1 h2
  by_cases hs:s∈ks
  ·obtain⟨i,hi⟩:=keyIn hs
   exact hI1.oes i b e sz (by rw[hob1];simp only[Gh.hand,hi,dr];exact h1) (by rw[hoe1 i (by have:=(a8.1 hi).1;omega)];simp only[Gh.hand,hi,dr];exact h2)
  ·obtain⟨h3,cur,h4⟩:=hI.oes s b e sz h1 h2
   exact⟨h3,cur,by rw[hbox hs h1];exact h4⟩
 ·intro s es h
  simp only[iZ,ae]at h
  obtain⟨es0,h0,rfl⟩:=h
  obtain⟨b,vs,clk,h1,h2,h3,h4⟩:=hI.mobj s es0 h0
  refine⟨b,vs,clk,h1,hmap h2,⟨by simpa using h3.1,fun i q x hq hx=>?_⟩,fun q hq=>?_⟩
  ·rw[b7,ae]at hq
   obtain⟨q0,hq0,rfl⟩:=hq
   obtain⟨h5,h6⟩:=h3.2 i q0 x hq0 hx
   exact⟨h5,h6.stay hS1.le⟩
  ·obtain⟨q0,hq0,rfl⟩:=cq.1 hq
   exact vY (h4 q0 hq0)
 ·intro s b h
  obtain⟨vs,clk,h2⟩:=hI.mbs s b h
  exact⟨vs,clk,hmap h2⟩
 ·intro s h
  simp only[iZ,dN]at h
  exact hI.nomb s h
 ·obtain⟨h1,h2⟩:=hI.obx s b h
  have h3:=pvB (hI.obs s b h).1 (fun k hk=>by rw[h1]at hk;cases hk)
  exact⟨by simp[Gh.back,h3,h1],h2⟩
 ·have h1:=hS1.le.com b o v hc (nF fun k hk=>by rw[hp]at hk;cases hk)
  exact⟨h1.1,by simp[Gh.back,h1.2,hp]⟩
 ·intro t r h
  rcases tkAt h with⟨ht,hj,h⟩|⟨ht,hj,h⟩|⟨ht,hj,h⟩
  ·cases h
  ·exact .inl ⟨t,r,h,rfl⟩
  ·rcases newT h with⟨k,q,_,hq,hb⟩|hge
   ·exact .inl ⟨k,q,hq,hb⟩
   ·exact .inr hge
 ·intro b o v h
  rcases hS1.nearC b o v h with h|⟨t,r,hr,he⟩|h
  ·exact .inl h
  ·obtain⟨k,_,hx⟩:=handT hr
   exact .inr (.inl ⟨k,r,hx,he⟩)
  ·exact .inr (.inr h)
 ·intro b k h
  simp only[Gh.back]at h
  split at h
  ·rename_i k' hk'
   rcases hS1.nearP b k' hk' with⟨j,hj⟩|hge
   ·simp only[Gh.hand,bp]at hj
    obtain⟨k2,hk2,_⟩:=hj
    exact .inl ⟨k2,hk2⟩
   ·exact .inr hge
  ·split at h
   ·split at h
    ·rename_i k' hk';exact .inl ⟨k',hk'⟩
    ·cases h
   ·cases h
theorem rj{cf:au}(hcf:gU P B cf)(hI:bt P B G st w){f:Nat}{as as':List PV}{vs:List Value}(hl:as.length=vs.length)(hR:∀ (j:Nat) p v,as[j]? =some p→vs[j]? =some v→R G p v∧bN p=true)
  {ks:List Nat} (hnd:ks.Nodup) {cs ds:List (List PV)} (hcs:cE st ks=some cs) {ts:List (Nat×Nat)} (hts:wt st ts) (hds:ds.length=cs.length) (hbx:Do (ts.map (·.1)) cs ds) (hl':as'.length=as.length)
  (has:∀ (j:Nat) q,as'[j]? =some q→(∃ t s,ks[t]? =some s∧as[j]? =some (.ptr s 0)∧q= .ptr t 0)∨(∃ t s g,ks[t]? =some s∧as[j]? =some (.fn g [.ptr s 0])∧q= .fn g [.ptr t 0])∨∃ p,as[j]? =some p∧np p=true∧(q=ren (bG (ts.map (·.1))) false p∨(q=aA p∧tf ((ts.map (·.1)).contains ·) p=true)))
  {r:PV} {ns:List Nat} {cs':List (List PV)} (hcall:cf f as' (ts.map (·.2)) ds=some (r,ns,cs')) (hlen:cs'.length=cs.length):
  kZ P (nH f)∧np r=true∧Calls P (nH f) vs.toArray w fun e w'=>∃ v G',nP f vs v e∧R G' (ren (fun k=>some (st.nx+k)) false r) v∧
   bt P B G' {st.more ns with cnt:=(fun t=>if(ts.map (·.1)).contains t then 0 else(st.more ns).cnt t),objs:=dw (gp (ts.map (·.1)) st.objs) ks (cs'.map (bB (fun k=>some (st.nx+k)) false)),maps:=iZ (ts.map (·.1)) st.maps,fl:=if ed r && cs'.all eg then st.fl else st.nx} w'∧
   bV G w G' w'∧Rn some ((ts.map (·.1)).contains ·) false G G'∧G'.bx=G.bx∧∀ s b,G.ob s=some b→s∉ks→w'.heap[b]? =w.heap[b]? :=by
 obtain⟨hE,_,hnp,hcs',hC⟩:=hcf f _ _ _ r ns cs' hcall
 refine⟨hE,hnp,?_⟩
 refine(hC (G.hand ks (ts.map (·.1))) w vs (hI.hand hnd hcs hts hds hbx) (by rw[hl'];exact hl) (fun j q v hq hv=>?_)).mono ?_
 ·rcases has j q hq with⟨t,s,h1,h2,rfl⟩|⟨t,s,g,h1,h2,rfl⟩|⟨p,h1,h2,h3⟩
  ·have:=(hR j _ v h2 hv).1
   cases this with
   |ptr _ _ b hb=>exact⟨.ptr _ _ b (by simp[Gh.hand,h1,hb]),rfl⟩
  ·have:=(hR j _ v h2 hv).1
   cases this with
   |fn _ _ vs0 hl0 hr0=>
    obtain⟨v0,rfl⟩:∃ v0,vs0=[v0]:=by
     match vs0,hl0 with
     | [v0],_=>exact⟨v0,rfl⟩
    have h5:=hr0 0 _ v0 rfl rfl
    cases h5 with
    |ptr _ _ b hb=>
     refine⟨.fn g [.ptr t 0] [_] rfl (fun i p u hp hu=>?_),rfl⟩
     match i with
     |0=>simp at hp hu;subst hp hu;exact .ptr _ _ b (by simp[Gh.hand,h1,hb])
     |i+1=>simp at hp
  ·rcases h3 with rfl|⟨rfl,h3⟩
   ·refine⟨(hR j p v h1 hv).1.ren (Cy G ks _) (fun _=>true) (fun s hs=>by cases hs) h2 (j9 p) (by simp),ek ?_⟩
    simp only[np,fC];exact h2
   ·refine⟨(hR j p v h1 hv).1.ren (Au G ks _) (fun _=>true) (fun s hs=>by cases hs) h2 h3 (by simp),ek ?_⟩
    simp only[np,aA,fC];exact h2
 ·rintro e w1 ⟨v,G1,hret,hR1,hI1,hS1,hob1,hoe1⟩
  generalize hclD:(ed r && cs'.all eg)=cl
  have hcl1:cl=true→ed r=true∧∀ c∈cs',eg c=true:=by
   intro hc
   rw[hc]at hclD
   simp only[aa,aU]at hclD
   exact hclD
  obtain⟨hI2,hS2⟩:=hI.back hnd hcs hlen hts hI1 hS1 hob1 (fun k hk=>hoe1 k (by omega)) hcs' (fun hc=>(hcl1 hc).2)
  refine⟨v,G.back G1 (ts.map (·.1)) ns.length cl,hret,?_,hI2,hS2,Cv hS1.le,rfl,fun s b hb hs=>?_⟩
  rotate_left
  ·refine hS1.kept b (hI.obs s b hb).1 (fun u hu=>?_) (fun t r hr e=>?_) (fun u hu=>?_)
   ·obtain⟨k,hk,hx⟩:∃ k,ks[u]? =some k∧G.ob k=some b:=by simpa only[Gh.hand,bp]using hu
    exact hs (hI.obj s k b hb hx▸bw hk)
   ·obtain⟨k,hk,hx⟩:∃ k,(ts.map (·.1))[t]? =some k∧G.tk k=some (.room r):=by simpa only[Gh.hand,bp]using hr
    have h1:=(hI.obs s b hb).2.2
    rw[←e,(hI.room k r hx).1]at h1
    cases h1
   ·cases hu
  rw[←hI.nx]
  exact hR1.ren (Cz hS1.le.xp hI1.nx) (fun _=>true) (fun s hs=>by cases hs) hnp (j9 r) (fun hc=>(hcl1 hc).1)
mutual
theorem vB(n:Nat):∀ (p:PV),tf (fun k=>decide (k<n)) (ren (fun k=>some (n+k)) false p)=true
 | .list m cs t=>by
  rw[gW]
  have h:=mU n cs
  cases t<;>simp[tf,ay.ren,ay.free,ay.of,h]
 | .iptr cs o t=>by
  rw[pU]
  have h:=mU n cs
  cases t<;>simp[tf,ay.ren,ay.free,ay.of,h]
 | .agg cs=>by simp[ren,tf,mU n cs]
 | .tup cs=>by simp[ren,tf,mU n cs]
 | .fn g cs=>by simp[ren,tf,mU n cs]
 | .ptr _ _=>rfl
 | .osl _ _ _ _=>rfl
 | .mp _=>rfl
 | .any=>rfl
 | .hole=>rfl
 | .int _ _=>rfl
 | .bool _=>rfl
 | .str _=>rfl
 | .nilp=>rfl
 | .nili=>rfl
 | .err=>rfl
theorem mU(n:Nat):∀ (ps:List PV),dT (fun k=>decide (k<n)) (bB (fun k=>some (n+k)) false ps)=true
 | []=>rfl
 |p::ps=>by simp[bB,dT,vB n p,mU n ps]
end
def Gh.mask(G:Gh)(ks:List Nat):Gh where
 com b o:=match G.pv b with
  |some _=>none
  |none=>G.com b o
 sh:=G.sh
 tk t:=match G.tk t with
  |some (.room r)=>if G.pv r.b=some t then some (.full 0)else some (.room r)
  |x=>x
 ob s:=if ks.contains s then G.ob s else none
 nx:=G.nx
 pv _:=none
 xp:=G.xp
 oe s:=if ks.contains s then G.oe s else none
 mb _:=none
def iu(G:Gh)(ks:List Nat)(st:St):St where
 nx:=st.nx
 cnt t:=match (G.mask ks).tk t with
  |some x=>x.cnt
  |none=>0
 fl:=st.nx
 objs s:=if ks.contains s then st.objs s else none
 maps _:=none
theorem jy{ks:List Nat}{t:Nat}{r:qF}(h:(G.mask ks).tk t=some (.room r)):G.tk t=some (.room r)∧G.pv r.b≠some t:=by
 simp only[Gh.mask]at h
 split at h
 ·rename_i r' hr
  split at h
  ·cases h
  ·rename_i hp;cases h;exact⟨hr,hp⟩
 ·rename_i h0;exact absurd h (h0 r)
theorem sm{ks:List Nat}{b o:Nat}{v:Value}(h:(G.mask ks).com b o=some v):G.com b o=some v∧G.pv b=none:=by
 simp only[Gh.mask]at h
 split at h
 ·cases h
 ·rename_i hp;exact⟨h,hp⟩
theorem ml{ks:List Nat}{b o:Nat}{v:Value}(h:G.com b o=some v)(hp:G.pv b=none):(G.mask ks).com b o=some v:=by
 simp only[Gh.mask,hp];exact h
theorem Cx(ks:List Nat):Rn some (fun _=>true) false G (G.mask ks) where
 com b o v h hK:=ml h (by cases hp:G.pv b with|none=>rfl|some k=>cases hK k hp)
 sh b x h:=h
 tk k k' _ h:=by cases h
 pv b k' o v _ _ h:=by cases h
 xp b o v _ _ h:= .inl h
theorem bt.mask(hI:bt P B G st w){ks:List Nat}(hf:∀ s c,s∈ks→st.objs s=some c→dT (fun _=>true) c=true):bt P B (G.mask ks) (iu G ks st) w:=by
 have hin:∀ {s b},(G.mask ks).ob s=some b→s∈ks∧G.ob s=some b:=by
  intro s b h
  simp only[Gh.mask]at h
  split at h
  ·rename_i hs;exact⟨by simpa using hs,h⟩
  ·cases h
 have hmo:∀ {b o},G.com b o=none→(G.mask ks).com b o=none:=by
  intro b o h
  simp only[Gh.mask]
  split
  ·rfl
  ·exact h
 have hlt:∀ {t x},(G.mask ks).tk t=some x→t<st.nx:=by
  intro t x h
  simp only[Gh.mask]at h
  split at h
  ·rename_i r hr;exact(hI.cnt t _ hr).1
  ·exact(hI.cnt t x h).1
 refine⟨fun b o v h=>hI.com b o v (sm h).1,hI.sh,hI.nx,fun t x h=>⟨hlt h,?_⟩,fun t ht=>?_,fun t r h=>?_,fun t u r q h1 h2 hb=>hI.apart t u r q (jy h1).1 (jy h2).1 hb,fun t r h=>⟨fun hf=>?_,fun j hj=>(by cases hj)⟩,fun s c h=>?_,fun s b h=>?_,fun s u b h1 h2=>hI.obj s u b (hin h1).2 (hin h2).2,fun s h=>?_,fun s c h=>?_,fun b k h=>(by cases h),hI.xpl,fun b o v h=>?_,fun s b e sz h1 h2=>?_,fun s es h=>(by cases h),fun s b h=>(by cases h),fun s u b h=>(by cases h),fun s h=>rfl,fun s b h=>⟨rfl,(hI.obx s b (hin h).2).2⟩,fun t m h=>?_⟩
 ·simp only[iu,h]
 ·obtain⟨x,hx⟩:=hI.live t ht
  simp only[Gh.mask,hx]
  split
  ·split<;>exact⟨_,rfl⟩
  ·exact⟨_,rfl⟩
 ·obtain⟨h1,h2,h3,h4,h5,h6⟩:=hI.room t r (jy h).1
  exact⟨h1,h2,h3,h4,fun o ho=>hmo (h5 o ho),h6⟩
 ·have:=(hI.cnt t _ (jy h).1).1
  have hf:st.nx≤t:=hf
  omega
 ·simp only[iu]at h
  split at h
  ·rename_i hs
   obtain⟨b,e,vs,h1,h2,h3⟩:=hI.objs s c h
   refine⟨b,e,vs,by simp only[Gh.mask,hs,if_true];exact h1,h2,h3.1,fun j p u hp hu=>?_,h3.2.2⟩
   have:=(h3.2.1 j p u hp hu).ren (sw:=false) (Cx ks) (fun _=>true) (fun s hs=>by cases hs) (gX (hI.npo s c h) hp) (j8 (hf s c (by simpa using hs) h) hp) (by simp)
   rwa [ren_some]at this
  ·cases h
 ·obtain⟨h1,h2,h3⟩:=hI.obs s b (hin h).2
  exact⟨h1,fun o=>hmo (h2 o),h3⟩
 ·simp only[iu]at h
  simp only[Gh.mask]
  split
  ·rename_i hs;rw[ai hs]at h;exact hI.nob s h
  ·rfl
 ·simp only[iu]at h
  split at h
  ·exact hI.npo s c h
  ·cases h
 ·obtain⟨h1,h2,h3⟩:=hI.base b o v h
  exact⟨ml h1 h2,rfl,h3⟩
 ·obtain⟨hs,h3⟩:=hin h1
  simp only[Gh.mask,show ks.contains s=true by simpa using hs,if_true]at h2
  exact hI.oes s b e sz h3 h2
 ·simp only[Gh.mask]at h
  split at h
  ·split at h
   ·cases h;rfl
   ·cases h
  ·exact hI.ful t m h
def Gh.unmask(G G1:Gh):Gh where
 com b o:=match G.pv b with
  |some _=>G.com b o
  |none=>G1.com b o
 sh:=G1.sh
 tk t:=if t<G.nx then G.tk t else G1.tk t
 ob:=G.ob
 nx:=G1.nx
 pv b:=match G.pv b with
  |some k=>some k
  |none=>G1.pv b
 xp:=G.xp
 oe:=G.oe
 mb:=G.mb
theorem bt.unmask(hI:bt P B G st w){ks:List Nat}{cs cs':List (List PV)}{ns:List Nat}(hn:ks.Nodup)(hg:cE st ks=some cs)(hlen:cs'.length=cs.length)(hcs:∀ c∈cs',aG c=true){G1:Gh}{w1:World}
  (hI1:bt P B G1 {(iu G ks st).more ns with objs:=dw (iu G ks st).objs ks (cs'.map (bB (fun k=>some (st.nx+k)) false)),maps:=fun _=>none,fl:=st.nx} w1)
  (hS1:bV (G.mask ks) w G1 w1) (hrn1:Rn some (fun _=>false) false (G.mask ks) G1) (hbx:G1.bx=(G.mask ks).bx):
  bt P B (G.unmask G1) {st.more ns with objs:=dw st.objs ks (cs'.map (bB (fun k=>some (st.nx+k)) false)),fl:=st.fl} w1∧bV G w (G.unmask G1) w1∧Rn some (fun _=>false) false G (G.unmask G1)∧
  Rn some (fun k=>decide (k<st.nx)) false G1 (G.unmask G1):=by
 obtain⟨hl,hget⟩:=kL hg
 have hnx:=hI.nx
 have hnx1:G1.nx=st.nx+ns.length:=by rw[hI1.nx];simp only[St.more_nx];rfl
 have hsz:=hS1.size
 have hobm:∀ {s b},(G.mask ks).ob s=some b→s∈ks∧G.ob s=some b:=by
  intro s b h
  simp only[Gh.mask]at h
  split at h
  ·rename_i hs;exact⟨by simpa using hs,h⟩
  ·cases h
 have hob1:∀ {s b},G1.ob s=some b→s∈ks∧G.ob s=some b:=fun{s b} h=>by
  have:=congrFun hbx s
  rw[jW this]at h
  exact hobm h
 have old:∀ {t r},G.tk t=some (.room r)→r.b<w.heap.size:=by
  intro t r h
  obtain⟨h1,_⟩:=hI.room t r h
  obtain⟨cur,hc,_⟩:=hI.sh _ _ _ h1
  exact(aE.1 hc).1
 have hcnt1:∀ {t x},G1.tk t=some x→t<st.nx→(iu G ks st).cnt t=x.cnt:=fun{t x} h ht=>by
  have:=(hI1.cnt t x h).2
  simp only at this
  rwa [St.more_old _ _ (show t<(iu G ks st).nx from ht)]at this
 have tkOld:∀ {t x},t<st.nx→(G.mask ks).tk t=some x→G1.tk t=some x:=by
  intro t x ht hx
  obtain⟨x',hx'⟩:=hI1.live t (by simp only[St.more_nx];show t<st.nx+_;omega)
  obtain⟨_,h2⟩:=hrn1.tk t t rfl rfl (by show t<G.nx;omega)
  obtain⟨y,hy,hle,heq⟩:=h2 x' hx'
  rw[hx]at hy;cases hy
  have:=hcnt1 hx' ht
  simp only[iu,hx]at this
  rw[heq this];exact hx'
 have roomNP:∀ {t r},G.tk t=some (.room r)→G.pv r.b≠some t→(G.mask ks).tk t=some (.room r):=by
  intro t r h hp
  simp only[Gh.mask,h,ad hp]
 have com1:∀ {b o v},G1.com b o=some v→G.pv b=none:=by
  intro b o v h
  cases hp:G.pv b with
  |none=>rfl
  |some k=>
   have hb:=hI.pvl b k hp
   rcases hS1.nearC b o v h with h1|⟨t,r,hr,he⟩|h1
   ·rw[(sm h1).2]at hp;cases hp
   ·obtain⟨h2,h3⟩:=jy hr
    have:=(hI.priv t r h2).2 k (by rw[he];exact hp)
    subst this
    rw[he]at h3
    exact absurd hp h3
   ·omega
 have noBoxRoom:∀ {s t b r},G.ob s=some b→G.tk t=some (.room r)→r.b≠b:=by
  rintro s t b r h1 h2 rfl
  have:=(hI.obs s _ h1).2.2
  rw[(hI.room t r h2).1]at this;cases this
 have hkept:∀ b,b<w.heap.size→(∀ s,s∈ks→G.ob s≠some b)→(∀ t r,G.tk t=some (.room r)→G.pv r.b≠some t→r.b≠b)→w1.heap[b]? =w.heap[b]? :=by
  intro b hb ho ht
  refine hS1.kept b hb (fun k h=>?_) (fun t r h=>?_) (fun s h=>by cases h)
  ·obtain⟨h1,h2⟩:=hobm h;exact ho k h1 h2
  ·obtain⟨h1,h2⟩:=jy h;exact ht t r h1 h2
 have hkeptP:∀ {b k},G.pv b=some k→w1.heap[b]? =w.heap[b]? :=by
  intro b k hp
  refine hkept b (hI.pvl b k hp) (fun s _ h=>?_) (fun t r h1 h2 he=>?_)
  ·rw[(hI.obx s b h).1]at hp;cases hp
  ·subst he
   have:=(hI.priv t r h1).2 k hp
   subst this
   exact h2 hp
 have boxCells:∀ {s b},G.ob s=some b→∃ c e,w.heap[b]? =some (.cells c e (0,0)):=by
  intro s b h
  cases hs:st.objs s with
  |none=>rw[hI.nob s hs]at h;cases h
  |some c=>
   obtain⟨b',e,vs,h1,h2,_⟩:=hI.objs s c hs
   rw[h]at h1;cases h1
   exact⟨_,_,h2⟩
 have roomCells:∀ {t r},G.tk t=some (.room r)→∃ c e,w.heap[r.b]? =some (.cells c e (0,0)):=by
  intro t r h
  obtain⟨h1,_⟩:=hI.room t r h
  obtain⟨cur,hc,_⟩:=hI.sh _ _ _ h1
  exact⟨_,_,hc⟩
 have hmap:∀ {b:Nat} {vs:Array MapEntry} {clk:Nat},w.heap[b]? =some (.map vs clk)→w1.heap[b]? =some (.map vs clk):=by
  intro b vs clk h
  rw[hkept b (aE.1 h).1 (fun s _ hs=>?_) (fun t r hr _ e=>?_)]
  ·exact h
  ·obtain⟨c,e,h2⟩:=boxCells hs
   rw[h]at h2;cases h2
  ·obtain⟨c,e',h2⟩:=roomCells hr
   rw[e,h]at h2;cases h2
 have hbox:∀ {s b:Nat},s∉ks→G.ob s=some b→w1.heap[b]? =w.heap[b]? :=by
  intro s b hs hb
  refine hkept b (hI.obs s b hb).1 (fun u hu h=>?_) (fun t r hr _=>noBoxRoom hb hr)
  have:=hI.obj u s b h hb
  subst this
  exact hs hu
 have newB:∀ {t r},st.nx≤t→G1.tk t=some (.room r)→w.heap.size≤r.b:=by
  intro t r ht h
  rcases hS1.nearT t r h with⟨u,q,hu,hb⟩|h
  ·have hul:u<st.nx:=(hI.cnt u _ (jy hu).1).1
   have:=hI1.apart t u r q h (tkOld hul hu) hb.symm
   omega
  ·exact h
 have pvOf:∀ {b},w.heap.size≤b→G.pv b=none:=by
  intro b hb
  cases hp:G.pv b with
  |none=>rfl
  |some k=>have:=hI.pvl b k hp;omega
 have pv1:∀ {b},b<w.heap.size→G1.pv b=none:=by
  intro b hb
  cases hp:G1.pv b with
  |none=>rfl
  |some k=>
   rcases hS1.nearP b k hp with⟨k',h⟩|h
   ·cases h
   ·omega
 have rnG:Rn some (fun _=>false) false G (G.unmask G1):=by
  refine⟨fun b o v h _=>?_,fun b x h=>hS1.le.sh b x h,fun k k' h _ hlt=>?_,fun b k' o v h _ hp=>?_,fun b o v _ _ h=> .inl h⟩
  ·simp only[Gh.unmask]
   split
   ·exact h
   ·rename_i hp;exact(hS1.le.com b o v (ml h hp) rfl).1
  ·cases h
   refine⟨by simp only[Gh.unmask];omega,fun x' hx'=>⟨x',?_,aD _,fun _=>rfl⟩⟩
   simp only[Gh.unmask,ai hlt]at hx'
   exact hx'
  ·simp only[Gh.unmask]at hp
   split at hp
   ·rename_i k hk;cases hp;exact .inl ⟨_,hk,rfl⟩
   ·rename_i hk
    rw[(hS1.le.com b o v (ml h hk) rfl).2]at hp;cases hp
 have rn1:Rn some (fun k=>decide (k<st.nx)) false G1 (G.unmask G1):=by
  refine⟨fun b o v h _=>?_,fun b x h=>h,fun k k' h hK hlt=>?_,fun b k' o v h _ hp=>?_,fun b o v _ _ h=> .inl (by rw[hS1.le.xp];exact h)⟩
  ·simp only[Gh.unmask,com1 h];exact h
  ·cases h
   have hge:st.nx≤k:=by simpa using hK
   refine⟨hlt,fun x' hx'=>⟨x',?_,aD _,fun _=>rfl⟩⟩
   simp only[Gh.unmask]at hx'
   rwa [ad (by omega)]at hx'
  ·simp only[Gh.unmask,com1 h]at hp
   exact .inl ⟨k',hp,rfl⟩
 have stay:∀ {p:PV} {v:Value},np p=true→R G p v→R (G.unmask G1) p v:=by
  intro p v hp hR
  have:=hR.ren (sw:=false) rnG (fun _=>false) (fun s _=>rfl) (pZ p) (j9 p) (by simp)
  rwa [ren_some]at this
 have hmlen:ks.length=(cs'.map (bB (fun k=>some (st.nx+k)) false)).length:=by simp;omega
 have keyIn:∀ {s:Nat},s∈ks→∃ i:Nat,ks[i]? =some s:=fun h=>by
  obtain⟨i,hi,e⟩:=cP h
  exact⟨i,by rw[←e];exact az hi⟩
 have objSame:∀ {s},s∈ks→dw st.objs ks (cs'.map (bB (fun k=>some (st.nx+k)) false)) s=dw (iu G ks st).objs ks (cs'.map (bB (fun k=>some (st.nx+k)) false)) s:=by
  intro s hs
  obtain⟨i,hi⟩:=keyIn hs
  rw[iF hn hi hmlen,iF hn hi hmlen]
 have comNone:∀ {s b},G.ob s=some b→∀ o,G1.com b o=none:=by
  intro s b hb o
  cases hc:G1.com b o with
  |none=>rfl
  |some v=>
   obtain⟨h1,h2,_⟩:=hI.obs s b hb
   rcases hS1.nearC b o v hc with h3|⟨t,r,hr,he⟩|h3
   ·exact absurd (sm h3).1 (by rw[h2 o];simp)
   ·exact absurd he (noBoxRoom hb (jy hr).1)
   ·omega
 refine⟨⟨fun b o v h=>?_,hI1.sh,by simp only[Gh.unmask,St.more_nx];exact hnx1,fun t x h=>?_,fun t ht=>?_,fun t r h=>?_,fun t u r q h1 h2 hb=>?_,fun t r h=>?_,fun s c h=>?_,fun s b h=>?_,hI.obj,fun s h=>?_,fun s c h=>?_,fun b k h=>?_,fun b h=>by have:=hI.xpl b h;omega,fun b o v h=>?_,fun s b e sz h1 h2=>?_,fun s es h=>?_,fun s b h=>?_,hI.mbi,fun s h=>?_,fun s b h=>?_,fun t m h=>?_⟩,
  ⟨⟨fun b o v hc hp=>?_,hS1.le.sh,rfl⟩,hsz,fun b hb ho ht hm=>hkept b hb (fun s _=>ho s) (fun t r h _=>ht t r h),fun s b h=> .inl ⟨s,h⟩,fun t r h=>?_,fun b o v h=>?_,fun b x h=>hS1.nearS b x h,fun b k h=>?_,fun s b h=> .inl ⟨s,h⟩,hS1.eff⟩,rnG,rn1⟩
 ·simp only[Gh.unmask]at h
  split at h
  ·rename_i k hk
   have:=hI.com b o v h
   simp only[World.cell?]at this ⊢
   rw[hkeptP hk];exact this
  ·exact hI1.com b o v h
 ·simp only[Gh.unmask]at h
  split at h
  ·obtain⟨h1,h2⟩:=hI.cnt t x h
   exact⟨by simp only[St.more_nx];omega,by rw[St.more_old st ns h1];exact h2⟩
  ·rename_i hlt
   obtain⟨h1,h2⟩:=hI1.cnt t x h
   simp only[St.more_nx]at h1
   have h1:t<st.nx+ns.length:=h1
   refine⟨by simp only[St.more_nx];omega,?_⟩
   rw[St.more_new st ns (by omega) h1]
   rw[St.more_new (iu G ks st) ns (show st.nx≤t by omega) h1]at h2
   exact h2
 ·simp only[St.more_nx]at ht
  by_cases h:t<G.nx
  ·obtain⟨x,hx⟩:=hI.live t (by omega)
   exact⟨x,by simp only[Gh.unmask,ai h];exact hx⟩
  ·obtain⟨x,hx⟩:=hI1.live t (by simp only[St.more_nx];exact ht)
   exact⟨x,by simp only[Gh.unmask,ad h];exact hx⟩
 ·simp only[Gh.unmask]at h
  split at h
  ·obtain⟨h1,h2,h3,h4,h5,h6⟩:=hI.room t r h
   refine⟨hS1.le.sh _ _ h1,h2,h3,h4,fun o ho=>?_,h6⟩
   simp only[Gh.unmask]
   split
   ·exact h5 o ho
   ·rename_i hp
    have:=tkOld (hI.cnt t _ h).1 (roomNP h (by rw[hp];simp))
    exact(hI1.room t r this).2.2.2.2.1 o ho
  ·rename_i hlt
   obtain⟨h1,h2,h3,h4,h5,h6⟩:=hI1.room t r h
   refine⟨h1,h2,h3,h4,fun o ho=>?_,by rw[←h6,hS1.le.xp];rfl⟩
   simp only[Gh.unmask,pvOf (newB (by omega) h)]
   exact h5 o ho
 ·simp only[Gh.unmask]at h1 h2
  split at h1<;>split at h2
  ·exact hI.apart t u r q h1 h2 hb
  ·have a:=old h1;have b:=newB (by omega) h2;omega
  ·have a:=old h2;have b:=newB (by omega) h1;omega
  ·exact hI1.apart t u r q h1 h2 hb
 ·simp only[Gh.unmask]at h
  split at h
  ·have hp:=hI.priv t r h
   refine⟨fun hf=>by simp only[Gh.unmask,hp.1 hf],fun j hj=>?_⟩
   simp only[Gh.unmask]at hj
   split at hj
   ·rename_i k hk;cases hj;exact hp.2 _ hk
   ·rw[pv1 (old h)]at hj;cases hj
  ·rename_i hlt
   have hp:=hI1.priv t r h
   have hn:=pvOf (newB (by omega) h)
   refine⟨fun _=>by simp only[Gh.unmask,hn];exact hp.1 (by show st.nx≤t;omega),fun j hj=>?_⟩
   simp only[Gh.unmask,hn]at hj
   exact hp.2 j hj
 ·by_cases hs:s∈ks
  ·have h':dw st.objs ks (cs'.map (bB (fun k=>some (st.nx+k)) false)) s=some c:=h
   have h2:=h'
   rw[objSame hs]at h'
   obtain⟨b,e,vs,hb,hh,hR⟩:=hI1.objs s c h'
   obtain⟨i,hi⟩:=keyIn hs
   rw[iF hn hi hmlen,b7,ae]at h2
   obtain⟨c0,hc0,rfl⟩:=h2
   refine⟨b,e,vs,(hob1 hb).2,hh,hR.1,fun j p u hp hu=>?_,hR.2.2⟩
   have hq:=hp
   rw[r8,ae]at hq
   obtain⟨q,hq,rfl⟩:=hq
   have:=(hR.2.1 j _ u hp hu).ren (sw:=false) rn1 (fun _=>true) (fun s hs=>by cases hs) (by simp only[fC];exact gX (hcs c0 (bw hc0)) hq) (vB st.nx q) (by simp)
   rwa [ren_some]at this
  ·have h':dw st.objs ks (cs'.map (bB (fun k=>some (st.nx+k)) false)) s=some c:=h
   rw[gC hs]at h'
   obtain⟨b,e,vs,hb,hh,hR⟩:=hI.objs s c h'
   exact⟨b,e,vs,hb,by rw[hbox hs hb];exact hh,hR.1,fun j p u hp hu=>stay (gX (hI.npo s c h') hp) (hR.2.1 j p u hp hu),hR.2.2⟩
 ·obtain⟨h1,h2,h3⟩:=hI.obs s b h
  refine⟨by omega,fun o=>?_,?_⟩
  ·simp only[Gh.unmask,(hI.obx s b h).1]
   exact comNone h o
  ·cases hc:G1.sh b with
   |none=>exact hc
   |some x=>
    rcases hS1.nearS b x hc with h4|h4
    ·have h4:G.sh b=some x:=h4
     rw[h3]at h4;cases h4
    ·omega
 ·by_cases hs:s∈ks
  ·obtain⟨i,hi⟩:=keyIn hs
   have h':dw st.objs ks (cs'.map (bB (fun k=>some (st.nx+k)) false)) s=none:=h
   rw[iF hn hi hmlen]at h'
   have:=ln.1 h'
   have:=(a8.1 hi).1
   omega
  ·have h':dw st.objs ks (cs'.map (bB (fun k=>some (st.nx+k)) false)) s=none:=h
   rw[gC hs]at h'
   exact hI.nob s h'
 ·by_cases hs:s∈ks
  ·obtain⟨i,hi⟩:=keyIn hs
   have h':dw st.objs ks (cs'.map (bB (fun k=>some (st.nx+k)) false)) s=some c:=h
   rw[iF hn hi hmlen,b7,ae]at h'
   obtain⟨c0,h1,rfl⟩:=h'
   exact n7 (hcs c0 (bw h1))
  ·have h':dw st.objs ks (cs'.map (bB (fun k=>some (st.nx+k)) false)) s=some c:=h
   rw[gC hs]at h'
   exact hI.npo s c h'
 ·simp only[Gh.unmask]at h
  split at h
  ·rename_i k' hk;have:=hI.pvl b k' hk;omega
  ·exact hI1.pvl b k h
 ·obtain⟨h1,h2,h4⟩:=hI1.base b o v h
  have h3:=(hI.base b o v h).2.1
  exact⟨by simp only[Gh.unmask,h3];exact h1,by simp only[Gh.unmask,h3];exact h2,h4⟩
 ·by_cases hs:s∈ks
  ·have hc:ks.contains s=true:=by simpa using hs
   have hb1:=congrFun hbx s
   have e1:G1.ob s=some b:=by rw[jW hb1];simp only[Gh.mask,hc,if_true];exact h1
   have e2:G1.oe s=some (e,sz):=by rw[xK hb1];simp only[Gh.mask,hc,if_true];exact h2
   exact hI1.oes s b e sz e1 e2
  ·obtain⟨h3,cur,h4⟩:=hI.oes s b e sz h1 h2
   exact⟨h3,cur,by rw[hbox hs h1];exact h4⟩
 ·have h:st.maps s=some es:=by simpa only[St.more_maps]using h
  obtain⟨b,vs,clk,h1,h2,h3,h4⟩:=hI.mobj s es h
  refine⟨b,vs,clk,h1,hmap h2,⟨h3.1,fun i q x hq hx=>?_⟩,h4⟩
  obtain⟨h5,h6⟩:=h3.2 i q x hq hx
  exact⟨h5,stay (h4 q (bw hq)) h6⟩
 ·obtain⟨vs,clk,h2⟩:=hI.mbs s b h
  exact⟨vs,clk,hmap h2⟩
 ·have h:st.maps s=none:=by simpa only[St.more_maps]using h
  exact hI.nomb s h
 ·obtain⟨h1,h2⟩:=hI.obx s b h
  exact⟨by simp only[Gh.unmask,h1];exact pv1 (hI.obs s b h).1,h2⟩
 ·simp only[Gh.unmask]at h
  split at h
  ·exact hI.ful t m h
  ·exact hI1.ful t m h
 ·have h1:=hS1.le.com b o v (ml hc hp) rfl
  exact⟨by simp only[Gh.unmask,hp];exact h1.1,by simp only[Gh.unmask,hp];exact h1.2⟩
 ·simp only[Gh.unmask]at h
  split at h
  ·exact .inl ⟨t,r,h,rfl⟩
  ·exact .inr (newB (by omega) h)
 ·simp only[Gh.unmask]at h
  split at h
  ·exact .inl h
  ·rcases hS1.nearC b o v h with h|⟨t,r,hr,he⟩|h
   ·exact .inl (sm h).1
   ·exact .inr (.inl ⟨t,r,(jy hr).1,he⟩)
   ·exact .inr (.inr h)
 ·simp only[Gh.unmask]at h
  split at h
  ·rename_i k' hk;exact .inl ⟨k',hk⟩
  ·rcases hS1.nearP b k h with⟨k',h⟩|h
   ·cases h
   ·exact .inr h
theorem xg:∀ {as:List PV} {ks:List Nat} {j:Nat} {p:PV},ch as=some ks→as[j]? =some p→(∃ s,p= .ptr s 0∧s∈ks)∨np p=true
 | [],_,_,_,_,h=>by simp at h
 |a::as,ks,j,p,hk,h=>by
  have tail:∀ {ks0:List Nat},ch as=some ks0→∀ {j:Nat},as[j]? =some p→(∀ s,s∈ks0→s∈ks)→(∃ s,p= .ptr s 0∧s∈ks)∨np p=true:=by
   intro ks0 h0 j hj hsub
   rcases xg h0 hj with⟨s,h1,h2⟩|h1
   ·exact .inl ⟨s,h1,hsub s h2⟩
   ·exact .inr h1
  cases a with
  |ptr s al=>
   simp only[ch]at hk
   split at hk
   ·rename_i ks0 h0
    split at hk
    ·rename_i hc
     cases hk
     cases j with
     |zero=>simp at h;subst h;rw[hc.1];exact .inl ⟨s,rfl,by simp⟩
     |succ j=>exact tail h0 (j:=j) (by simpa using h) (fun s hs=>a7 _ hs)
    ·cases hk
   ·cases hk
  |_=>
   simp only[ch]at hk
   split at hk
   ·rename_i hn
    cases j with
    |zero=>simp at h;subst h;exact .inr hn
    |succ j=>exact tail hk (j:=j) (by simpa using h) (fun s hs=>hs)
   ·cases hk
theorem vq{st st2:St}:∀ {ks:List Nat} {cs:List (List PV)},cE st ks=some cs→(∀ s∈ks,st2.objs s=st.objs s)→cE st2 ks=some cs
 | [],_,h,_=>h
 |k::ks,cs,h,hs=>by
  simp only[cE]at h ⊢
  rw[hs k List.mem_cons_self]
  split at h
  ·rename_i c cs0 h1 h2
   rw[h1,vq h2 fun s hm=>hs s (a7 _ hm)]
   exact h
  ·cases h
theorem oE{cf:au}(hcf:gU P B cf)(hI:bt P B G st w){f:Nat}{as:List PV}{mv:List Nat}{vs:List Value}(hl:as.length=vs.length)(hR:∀ (j:Nat) p v,as[j]? =some p→vs[j]? =some v→R G p v∧bN p=true)
  {p:PV} (h:ar cf f as mv st=some (p,st')):
  kZ P (nH f)∧np p=true∧Calls P (nH f) vs.toArray w fun e w'=>∃ v G',nP f vs v e∧R G' p v∧bt P B G' st' w'∧bV G w G' w'∧Rn some ((cX as mv st).contains ·) false G G'∧G'.bx=G.bx∧(mv≠ []→ch as=some []→∀ s b,G.ob s=some b→w'.heap[b]? =w.heap[b]?):=by
 unfold ar at h
 split at h
 ·split at h
  rotate_left
  ·cases h
  unfold jV at h
  split at h
  rotate_left
  ·cases h
  rename_i a g s _
  split at h
  rotate_left
  ·cases h
  rename_i hna
  split at h
  rotate_left
  ·cases h
  rename_i c hc
  split at h
  rotate_left
  ·cases h
  rename_i r ns c' hcall
  simp only[aZ,bE]at h
  obtain⟨hp,hst⟩:=h
  have hcs:cE st [s]=some [c]:=by simp[cE,hc]
  obtain⟨hE,hnp,hC⟩:=rj (ks:=[s]) (cs:=[c]) (ts:=[]) (ds:=[aB c]) (as:=[a,.fn g [.ptr s 0]]) hcf hI hl hR (by simp) hcs ⟨iR,fun q hq=>by cases hq⟩ (by simp) (fun k c1 hc1=>by
   cases k with
   |zero=>simp at hc1;exact⟨c,rfl,.inr ⟨hc1.symm,io c⟩⟩
   |succ k=>simp at hc1) (as':=[aA a,.fn g [.ptr 0 0]]) rfl (fun j q hq=>by
   match j with
   |0=>simp at hq;exact .inr (.inr ⟨a,rfl,hna,.inr ⟨hq.symm,j9 a⟩⟩)
   |1=>simp at hq;exact .inr (.inl ⟨0,s,g,rfl,rfl,hq.symm⟩)
   |j+2=>simp at hq) hcall rfl
  refine⟨hE,by rw[←hp];simp only[np,fC];exact hnp,hC.mono ?_⟩
  rintro e w1 ⟨v,G',hret,h1,h2,h3,h4,h5,-⟩
  refine⟨v,G',hret,by rw[←hp];exact h1,?_,h3,h4,h5,fun h=>absurd rfl h⟩
  rw[←hst]
  simp only[bK,p7,p8]at h2
  rw[St.more_maps]
  exact h2
 ·rename_i ks hks
  split at h
  ·cases h
  ·rename_i cs hcs
   split at h
   ·split at h
    ·rename_i r ns cs' hcall
     split at h
     ·rename_i hlen
      simp only[aZ,bE]at h
      obtain⟨hp,hst⟩:=h
      cases hfree:lj f as cs with
      |true=>
       have hfr:=hfree
       simp only[lj,aa,aU]at hfr
       obtain⟨-,hf1,hf2⟩:=hfr
       have hnd:=i6 hks
       obtain⟨hgl,hget⟩:=kL hcs
       have hIm:=hI.mask (ks:=ks) (fun s c hs hc=>by
        obtain⟨i,hi,e⟩:=cP hs
        have hi':ks[i]? =some s:=by rw[←e];exact az hi
        have:=hget i s hi'
        rw[hc]at this
        exact hf2 c (bw this.symm))
       have hRm:∀ (j:Nat) p v,as[j]? =some p→vs[j]? =some v→R (G.mask ks) p v∧bN p=true:=fun j p v hp hv=>by
        obtain⟨h1,h2⟩:=hR j p v hp hv
        refine⟨?_,h2⟩
        rcases xg hks hp with⟨s,rfl,hs⟩|hnp
        ·cases h1 with
         |ptr _ _ b hb=>exact .ptr _ _ b (by simp only[Gh.mask,show ks.contains s=true by simpa using hs,if_true];exact hb)
        ·have:=h1.ren (sw:=false) (Cx ks) (fun _=>true) (fun s hs=>by cases hs) hnp (hf1 p (bw hp)) (by simp)
         rwa [ren_some]at this
       have hcsm:cE (iu G ks st) ks=some cs:=vq hcs fun s hs=>by simp only[iu,show ks.contains s=true by simpa using hs,if_true]
       obtain⟨hE,hnp,hC⟩:=rj (ts:=[]) (ds:=cs.map aB) hcf hIm hl hRm hnd hcsm ⟨iR,fun q hq=>by cases hq⟩ (by simp) (fun k c hc=>by
        rw[b7,ae]at hc
        obtain⟨c0,h1,h2⟩:=hc
        exact⟨c0,h1,.inr ⟨h2.symm,io c0⟩⟩) (mA [] [] as 0 0) (fun j q hq=>by
        rcases nG hks hq with⟨t,s,h1,h2,h3⟩|⟨p,h1,h2,h3⟩
        ·exact .inl ⟨t,s,h1,h2,by simpa using h3⟩
        ·exact .inr (.inr ⟨p,h1,h2,.inr ⟨by simpa using h3,j9 p⟩⟩)) hcall hlen
       refine⟨hE,by rw[←hp];simp only[np,fC];exact hnp,hC.mono ?_⟩
       rintro e w1 ⟨v,G1,hret,h1,h2,h3,h4,h5,-⟩
       obtain⟨_,_,_,hcs',_⟩:=hcf f _ _ _ r ns cs' hcall
       have hfl:(if(ed r && cs'.all eg)=true then(iu G ks st).fl else(iu G ks st).nx)=st.nx:=by split<;>rfl
       simp only[bK,p7,p8,hfl]at h2
       obtain⟨g1,g2,g3,g4⟩:=hI.unmask hnd hcs hlen hcs' h2 h3 h4 h5
       refine⟨v,G.unmask G1,hret,?_,?_,g2,g3,rfl,fun h=>absurd rfl h⟩
       ·rw[←hp]
        have:=h1.ren (sw:=false) g4 (fun _=>true) (fun s hs=>by cases hs) (by simp only[fC];exact hnp) (vB st.nx r) (by simp)
        rwa [ren_some]at this
       ·rw[←hst,hfree,km,ai rfl]
        exact g1
      |false=>
      obtain⟨hE,hnp,hC⟩:=rj (ts:=[]) (ds:=cs.map aB) hcf hI hl hR (i6 hks) hcs ⟨iR,fun q hq=>by cases hq⟩ (by simp) (fun k c hc=>by
       rw[b7,ae]at hc
       obtain⟨c0,h1,h2⟩:=hc
       exact⟨c0,h1,.inr ⟨h2.symm,io c0⟩⟩) (mA [] [] as 0 0) (fun j q hq=>by
       rcases nG hks hq with⟨t,s,h1,h2,h3⟩|⟨p,h1,h2,h3⟩
       ·exact .inl ⟨t,s,h1,h2,by simpa using h3⟩
       ·exact .inr (.inr ⟨p,h1,h2,.inr ⟨by simpa using h3,j9 p⟩⟩)) hcall hlen
      refine⟨hE,by rw[←hp];simp only[np,fC];exact hnp,hC.mono ?_⟩
      rintro e w1 ⟨v,G',hret,h1,h2,h3,h4,h5,-⟩
      refine⟨v,G',hret,by rw[←hp];exact h1,?_,h3,h4,h5,fun h=>absurd rfl h⟩
      rw[←hst]
      simp only[bK,p7,p8]at h2
      rw[St.more_maps,hfree,Bool.or_false]
      exact h2
     ·cases h
    ·cases h
   ·rename_i hmv
    split at h
    ·rename_i hb
     simp only[aa]at hb
     obtain⟨⟨⟨hb1,hb2⟩,hb3⟩,hb4⟩:=hb
     split at h
     ·rename_i r ns cs' hcall
      split at h
      ·rename_i hlen
       simp only[aZ,bE]at h
       obtain⟨hp,hst⟩:=h
       have htk:cX as mv st=(dy mv as cs).map (·.1):=by
        cases mv with
        |nil=>exact absurd rfl (hmv ·)
        |cons m mv=>simp only[cX,hks,hcs]
       obtain⟨hE,hnp,hC⟩:=rj (ts:=dy mv as cs) (ds:=jX ((dy mv as cs).map (·.1)) (jA mv 0 as) cs) hcf hI hl hR (i6 hks) hcs (Cm hb1 hb2) ul (fun k c hc=>zy hb4 hc) (mA _ mv as 0 0) (fun j q hq=>by
        rcases nG hks hq with⟨t,s,h1,h2,h3⟩|⟨p,h1,h2,h3⟩
        ·exact .inl ⟨t,s,h1,h2,by simpa using h3⟩
        ·refine .inr (.inr ⟨p,h1,h2,?_⟩)
         split at h3
         ·exact .inl h3
         ·rename_i hne
          rcases yy hb3 h1 with h4|h4
          ·exact absurd h4 hne
          ·exact .inr ⟨h3,h4⟩) hcall hlen
       refine⟨hE,by rw[←hp];simp only[np,fC];exact hnp,hC.mono ?_⟩
       rintro e w1 ⟨v,G',hret,h1,h2,h3,h4,h5,h6⟩
       rw[htk]
       refine⟨v,G',hret,by rw[←hp];exact h1,?_,h3,h4,h5,fun _ hk s b hb=>h6 s b hb (by rw[hk]at hks;cases hks;exact eD)⟩
       rw[←hst]
       exact h2
      ·cases h
     ·cases h
    ·cases h
theorem R.rn{J:List Nat}{G G':Gh}(h:Rn some (J.contains ·) false G G')(hbx:G'.bx=G.bx){p:PV}{v:Value}(hR:R G p v):R G' (bJ J p) v:=by
 unfold bJ
 split
 ·rename_i ht
  have:=hR.ren (sw:=false) h (fun _=>false) (fun s _=>by rw[hbx]) (pZ p) ht (by simp)
  rwa [ren_some]at this
 ·exact .any v
end
def Gh.poke(G:Gh)(b al:Nat)(vs:List Value):Gh:={G with com:=fun b' o=>if b'=b∧al≤o∧o<al+vs.length then vs[o-al]? else G.com b' o}
theorem vc{us vs:List Value}{al j:Nat}(h:al+vs.length≤us.length):(putCells us al vs)[j]? =if al≤j∧j<al+vs.length then vs[j-al]? else us[j]? :=by
 rw[←uw vs us al h]
 have hl:(us.take al).length=al:=by rw[bi];omega
 by_cases h1:j<al
 ·rw[ad (by omega),cK,bA (by omega),dt h1]
 ·by_cases h2:j<al+vs.length
  ·rw[ai ⟨by omega,h2⟩,cK,bF (by omega),hl,bA (by omega)]
  ·rw[ad (by omega),bF (by simp;omega),ey,ak,hl]
   congr 1;omega
theorem CH:∀ {vs cs:List PV} {al:Nat},aG vs=true→aG cs=true→aG (putCells cs al vs)=true
 | [],cs,al,_,h=>h
 |v::vs,cs,al,h1,h2=>by
  have e1:aG vs=true:=kX fun q hq=>eF h1 (a7 _ hq)
  have e2:aG (cs.set al v)=true:=kX fun q hq=>by
   rcases eG hq with h|h
   ·exact eF h2 h
   ·rw[h];exact eF h1 List.mem_cons_self
  exact CH (vs:=vs) e1 e2
section
variable {G:Gh} {st:St} {w:World}
theorem Rm.bk{u:jC}{G G':Gh}(hst:∀ q v,R G q v→R G' (fo u q) v){es:List (PV×PV)}{vs:List MapEntry}(h:Rm G es vs):Rm G' (es.map fun q=>(q.1,fo u q.2)) vs:=by
 refine⟨by rw[bu];exact h.1,fun i q x hq hx=>?_⟩
 rw[b7,ae]at hq
 obtain⟨q0,hq0,rfl⟩:=hq
 obtain⟨h1,h2⟩:=h.2 i q0 x hq0 hx
 exact⟨h1,hst _ _ h2⟩
theorem bt.poke(hI:bt P B G st w){k e al:Nat}{r:qF}(hr:G.tk k=some (.room r))(hm:0<r.m)(he:r.e=e)(hfl:st.fl≤k){cs ds:List PV}{us vs:List Value}(hcs:Rs G cs us)(hds:Rs G ds vs)(hul:us.length=r.m*r.sz)
  (hcom:∀ (j:Nat) u,us[j]? =some u→G.com r.b j=some u) (hfit:al+vs.length≤us.length) (ht1:dT ([k].contains ·) cs=true) (ht2:dT ([k].contains ·) ds=true) (hn1:aG cs=true) (hn2:aG ds=true)
  {cur:Array Value} (hcur:w.heap[r.b]? =some (.cells cur r.e (0,0))):
  bt P B (G.poke r.b al vs) {st with objs:=nM (jH cs al k e r.m ds) st.objs,maps:=oX (jH cs al k e r.m ds) st.maps} (w.setRow r.b (cur.toList.take al++vs++cur.toList.drop (al+vs.length)).toArray)∧
  bV G w (G.poke r.b al vs) (w.setRow r.b (cur.toList.take al++vs++cur.toList.drop (al+vs.length)).toArray)∧
  (∀ q v,R G q v→R (G.poke r.b al vs) (fo (jH cs al k e r.m ds) q) v)∧np (jH cs al k e r.m ds).p=true:=by
 obtain⟨hsh,hcm,hmc,hsz,hno,hxr⟩:=hI.room k r hr
 have hklt:=(hI.cnt k _ hr).1
 have hnx:=hI.nx
 have hpv:G.pv r.b=some k:=(hI.priv k r hr).1 hfl
 have hcs':cur.size=r.cap*r.sz:=by
  obtain⟨c,h1,h2⟩:=hI.sh _ _ _ hsh
  rw[hcur]at h1;cases h1;exact h2
 have hule:us.length≤cur.size:=by rw[hul,hcs'];exact ex _ hmc
 have hcomAt:∀ b o,(G.poke r.b al vs).com b o=if b=r.b∧al≤o∧o<al+vs.length then vs[o-al]? else G.com b o:=fun _ _=>rfl
 have hne:∀ b,(∀ k',G.pv b=some k'→[k].contains k'=false)→b≠r.b:=by
  rintro b hK rfl
  have:=hK k hpv
  simp at this
 have hrn:Rn some ([k].contains ·) false G (G.poke r.b al vs):=by
  refine⟨fun b o v h hK=>?_,fun _ _ h=>h,fun j j' hj _ hlt=>?_,fun b j o v h _ hp=> .inl ⟨j,hp,rfl⟩,fun b o v _ _ h=> .inl h⟩
  ·rw[hcomAt,ad fun h=>hne b hK h.1];exact h
  ·cases hj;exact⟨hlt,fun x' hx=>⟨x',hx,aD _,fun _=>rfl⟩⟩
 have stay:∀ {cs:List PV} {us:List Value},Rs G cs us→dT ([k].contains ·) cs=true→Rs (G.poke r.b al vs) cs us:=by
  intro cs us h ht
  refine⟨h.1,fun j p u hp hu=>?_,h.2.2⟩
  have:=(h.2.1 j p u hp hu).rn hrn rfl
  rwa [bJ,ai (j8 ht hp)]at this
 have hnew:Rs (G.poke r.b al vs) (putCells cs al ds) (putCells us al vs):=(stay hcs ht1).put al (stay hds ht2)
 have hpl:(putCells us al vs).length=us.length:=nA _ _ _
 have hnp:np (jH cs al k e r.m ds).p=true:=by
  show np (.list _ (putCells cs al ds) _)=true
  have:=CH (al:=al) hn2 hn1
  simpa [np,PM.al,aG]using this
 have hst:∀ q v,R G q v→R (G.poke r.b al vs) (fo (jH cs al k e r.m ds) q) v:=by
  intro q v hq
  refine R.bk (u:=jH cs al k e r.m ds) hrn (fun _=>rfl) (fun cs2 t v ht hR=>?_) hq
  cases t with
  |own j e2=>
   simp only[ay.isOwn,hD]at ht
   have ht:j=k:=ht
   subst ht
   show R _ (.list r.m (putCells cs al ds) (.own j e)) v
   have hR:R G (.list r.m cs2 (.own j e2)) v:=hR
   generalize hn0:r.m=n0 at hR
   cases hR with
   |listN=>omega
   |list _ _ _ b o cap us2 hn hl hc hr2 h1 htr hp hx=>
   obtain⟨h3,h4⟩:=htr.2 _ hr
   obtain⟨rfl,rfl,rfl,h7,h8⟩:=h4 hn0.symm
   refine .list _ _ _ r.b 0 r.cap _ (by omega) hnew.1 (fun i x hx=>?_) hnew.2.1 hnew.2.2 ⟨by show j<G.nx;omega,fun x hx=>?_⟩ (fun i _ hi=>?_) (fun _ _=>hxr)
   ·rw[vc hfit]at hx
    rw[hcomAt,bg]
    by_cases hi:al≤i∧i<al+vs.length
    ·rw[ai hi]at hx
     rw[ai ⟨rfl,hi⟩];exact hx
    ·rw[ad hi]at hx
     rw[ad fun h=>hi h.2];exact hcom i x hx
   ·have hx:G.tk j=some x:=hx
    rw[hr]at hx;cases hx
    exact⟨by simp only[nj.cnt];omega,fun _=>⟨rfl,rfl,rfl,he,by rw[hpl,hul,hn0]⟩⟩
   ·have hi:G.pv r.b=some i:=hi
    rw[hpv]at hi;cases hi;rfl
  |_=>simp[ay.isOwn]at ht
 have hob:∀ s b,G.ob s=some b→b≠r.b:=by
  intro s b hb e
  have:=(hI.obs s b hb).2.2
  rw[e,hsh]at this;cases this
 have hother:∀ b,b≠r.b→(w.setRow r.b (cur.toList.take al++vs++cur.toList.drop (al+vs.length)).toArray).heap[b]? =w.heap[b]? :=fun b hb=>setRow_other w r.b b _ hb
 have hrow:=setRow_heap w r.b cur (cur.toList.take al++vs++cur.toList.drop (al+vs.length)).toArray r.e (0,0) hcur
 have hput:cur.toList.take al++vs++cur.toList.drop (al+vs.length)=putCells cur.toList al vs:=uw vs cur.toList al (by simp;omega)
 have hmap:∀ {b':Nat} {vs:Array MapEntry} {clk:Nat},w.heap[b']? =some (.map vs clk)→b'≠r.b:=by
  rintro b' us clk h rfl
  rw[hcur]at h;cases h
 have hbs:∀ {cs:List PV} {us:List Value},Rs G cs us→Rs (G.poke r.b al vs) (fU (jH cs al k e r.m ds) cs) us→True:=fun _ _=>trivial
 refine⟨⟨fun b o v h=>?_,fun b e' n h=>?_,hI.nx,hI.cnt,hI.live,fun t q h=>?_,hI.apart,hI.priv,fun s cs' h=>?_,fun s b h=>?_,hI.obj,fun s h=>?_,fun s cs' h=>?_,fun b j h=>by rw[fI];exact hI.pvl b j h,fun b h=>by rw[fI];exact hI.xpl b h,fun b o v h=>?_,fun s b e' z h1 h2=>?_,fun s es h=>?_,fun s b h=>?_,hI.mbi,fun s h=>?_,hI.obx,hI.ful⟩,
  ⟨⟨fun b o v h hp=>?_,fun _ _ h=>h,rfl⟩,by rw[fI];exact aD _,fun b _ _ ht _=>hother b (fun e=>ht k r hr e.symm),fun s b h=> .inl ⟨s,h⟩,fun t q h=> .inl ⟨t,q,h,rfl⟩,fun b o v h=>?_,fun _ _ h=> .inl h,fun _ j h=> .inl ⟨j,h⟩,fun s b h=> .inl ⟨s,h⟩,⟨rfl,rfl⟩⟩,hst,hnp⟩
 ·rw[hcomAt]at h
  by_cases hb:b=r.b
  ·subst hb
   rw[cell_setRow_same w r.b o cur _ r.e (0,0) hcur,hput]
   rw[gw,vc (by simp;omega)]
   by_cases ho:al≤o∧o<al+vs.length
   ·rw[ai ⟨rfl,ho⟩]at h
    rw[ai ho];exact h
   ·rw[ad fun h=>ho h.2]at h
    rw[ad ho]
    have hc:=hI.com _ _ _ h
    simp only[World.cell?,hcur]at hc
    simpa using hc
  ·rw[ad fun h=>hb h.1]at h
   rw[cell_setRow_other w r.b _ _ hb]
   exact hI.com b o v h
 ·by_cases hb:b=r.b
  ·subst hb
   have h':G.sh r.b=some (e',n):=h
   rw[hsh]at h';cases h'
   refine⟨_,hrow,?_⟩
   simp only[md,ak,bi,cV,cC]
   omega
  ·obtain⟨c,h1,h2⟩:=hI.sh b e' n h
   exact⟨c,by rw[hother b hb];exact h1,h2⟩
 ·obtain⟨h1,h2,h3,h4,h5,h6⟩:=hI.room t q h
  refine⟨h1,h2,h3,h4,fun o ho=>?_,h6⟩
  rw[hcomAt]
  by_cases hb:q.b=r.b
  ·have:=hI.apart t k q r h hr hb
   subst this
   have h:G.tk t=some (.room q):=h
   rw[hr]at h;cases h
   rw[ad (by omega)]
   exact h5 o ho
  ·rw[ad fun h=>hb h.1];exact h5 o ho
 ·simp only[nM,ae]at h
  obtain⟨c0,h1,rfl⟩:=h
  obtain⟨b,e',us',h2,h3,h4⟩:=hI.objs s c0 h1
  refine⟨b,e',us',h2,by rw[hother b (hob s b h2)];exact h3,by rw[iM];exact h4.1,fun j p u hp hu=>?_,h4.2.2⟩
  rw[qC,ae]at hp
  obtain⟨q,hq,rfl⟩:=hp
  exact hst _ _ (h4.2.1 j q u hq hu)
 ·obtain⟨h1,h2,h3⟩:=hI.obs s b h
  refine⟨by rw[fI];exact h1,fun o=>?_,h3⟩
  rw[hcomAt,ad fun h'=>hob s b h h'.1];exact h2 o
 ·simp only[nM,dN]at h
  exact hI.nob s h
 ·simp only[nM,ae]at h
  obtain⟨c0,h1,rfl⟩:=h
  exact GB hnp (hI.npo s c0 h1)
 ·obtain⟨h1,h2,h3⟩:=hI.base b o v h
  have hb:b≠r.b:=by rintro rfl;rw[hpv]at h2;cases h2
  exact⟨by rw[hcomAt,ad fun h=>hb h.1];exact h1,h2,h3⟩
 ·obtain⟨h3,cur',h4⟩:=hI.oes s b e' z h1 h2
  exact⟨h3,cur',by rw[hother b (hob s b h1)];exact h4⟩
 ·simp only[oX,ae]at h
  obtain⟨e0,h0,rfl⟩:=h
  obtain⟨b,vs',clk,h1,h2,h3,h4⟩:=hI.mobj s e0 h0
  refine⟨b,vs',clk,h1,by rw[hother b (hmap h2)];exact h2,h3.bk hst,fun q hq=>?_⟩
  obtain⟨q0,hq0,rfl⟩:=cq.1 hq
  exact uN hnp (h4 q0 hq0)
 ·obtain⟨vs',clk,h2⟩:=hI.mbs s b h
  exact⟨vs',clk,by rw[hother b (hmap h2)];exact h2⟩
 ·simp only[oX,dN]at h
  exact hI.nomb s h
 ·have hb:b≠r.b:=by rintro rfl;rw[hpv]at hp;cases hp
  exact⟨by rw[hcomAt,ad fun h=>hb h.1];exact h,hp⟩
 ·rw[hcomAt]at h
  by_cases hb:b=r.b
  ·exact .inr (.inl ⟨k,r,hr,hb.symm⟩)
  ·rw[ad fun h=>hb h.1]at h;exact .inl h
end
section
variable {G:Gh} {nt:Nat} {fr:Fr} {st st':St} {w:World} {a:Act} {o:Oper} {d:Option Nat} {cf:au} {p:PV}
theorem JF(hI:bt P B G st w)(hF:dZ G nt fr a){t:Nat}{x y:Operand}(hop:o.op= .store t x y){cx cy:CX}(hx:bl x=some cx)(hy:bl y=some cy){sz:Nat}(hs:fJ P t=some sz)
  (h:ap cf fr st d (.stx sz cx cy)=some (p,st')):p= .hole∧∃ w' G',(execOp a.eval o).run P w= .ok .skip w'∧bt P B G' st' w'∧bV G w G' w'∧(∀ s,G'.bx s=G.bx s)∧
   ∀ t,R G' (sr (cx.ev fr) (cellsOf (cy.ev fr)) fr t) (a.tmps.getD t undef)∧bN (sr (cx.ev fr) (cellsOf (cy.ev fr)) fr t)=true:=by
 have hR:=bQ hF hx
 have htx:=dM hF hx
 have hRy:=bQ hF hy
 have hty:=dM hF hy
 have h':=h
 simp only[ap]at h
 split at h
 ·rename_i s al vs e1 e2
  have hst:ap cf fr st d (.store sz cx cy)=some (p,st'):=by
   simp only[ap,e1,e2]
   exact h
  obtain⟨y',v',w',G',hrun,hor,hRp,hI',hL',hS',hob⟩:=yM hI hF hop hx hy hs hst
  have hp:p= .hole:=by
   split at h
   ·split at h<;>first|(cases h;rfl)|cases h
   ·cases h
  have hk:sr (cx.ev fr) (cellsOf (cy.ev fr)) fr=fr:=by rw[e1];rfl
  rw[hk]
  have hbx:∀ s,G'.bx s=G.bx s:=fun s=>by
   rcases hob s with⟨h,_⟩|h
   ·cases h
   ·exact h
  refine⟨hp,w',G',?_,hI',hS',hbx,fun t=>⟨(hF.2.1 t).mono hL' hbx,hF.2.2 t⟩⟩
  rcases hor with rfl|⟨rfl,_⟩
  ·exfalso
   simp only[execOp,hop]at hrun
   generalize a.eval x=xv at hrun hR
   generalize a.eval y=yv at hrun hRy
   simp only[Sem.run_bind]at hrun
   revert hrun
   cases (Instr.storeAt t xv yv).run P w with
   |ok v w=>simp
   |_=>simp
  ·exact hrun
 ·rename_i cs al k e n vs e1 e2
  split at h
  ·rename_i hc
   obtain⟨c1,c2,c3,c4,c5,c6,c7,c8⟩:=hc
   cases h
   refine⟨rfl,?_⟩
   simp only[execOp,hop]
   generalize hax:a.eval x=xv at hR
   generalize hay:a.eval y=yv at hRy
   rw[e1]at hR htx
   cases hR with
   |iptr _ _ _ b o' us hl hcm hr h1 htp hp hx'=>
   obtain⟨y0,hy0⟩:=hI.live k c5
   obtain⟨hle,hm⟩:=htp.2 y0 hy0
   have hcnt:=(hI.cnt k y0 hy0).2
   rw[c4]at hcnt
   cases y0 with
   |full m=>
    have:=hI.ful k m hy0
    subst this
    simp only[nj.cnt]at hcnt
    omega
   |room r=>
   obtain⟨rfl,rfl,hre,hlen⟩:=hm hcnt
   have hcnt:n=r.m:=hcnt
   subst hcnt
   have hRv:=pw hRy e2
   have hn:=mu hty e2
   obtain⟨hsh,hcm',hmc,hsz,hno,hxr⟩:=hI.room k r hy0
   obtain⟨cur,hcur,hcs'⟩:=hI.sh _ _ _ hsh
   have hlv:yv.cells.toList.length=sz:=by rw[←hRv.1];exact c1
   have hfit:al+yv.cells.toList.length≤us.length:=by rw[hlv,←hl];exact c2
   have hule:us.length≤cur.size:=by rw[hlen,hcs'];exact ex _ hmc
   obtain⟨hI',hS',hst,hnp⟩:=hI.poke hy0 c3 hre c6 ⟨hl,hr,h1⟩ hRv hlen (fun j u hu=>by have:=hcm j u hu;rwa [bg]at this) hfit c7 c8 (qK htx) hn hcur
   refine⟨_,_,?_,hI',hS',fun _=>rfl,fun t=>?_⟩
   ·have hrun:=run_storeCells_at P r.b al r.e yv.cells.toList 0 cur w hcur (by omega) hRv.2.2
    simp only[bh]at hrun
    have hlen':yv.cells.size=sz:=by simpa using hlv
    rw[bg]
    simp only[Instr.storeAt,Instr.sureAddr,storeVar,Sem.run_bind,Sem.run_pure,cJ,fL w hs,hlen',dD,not_true_eq_false,if_false,hrun]
   ·rw[e1,e2]
    exact⟨hst _ _ (hF.2.1 t),Dg hnp (hF.2.2 t)⟩
  ·cases h
 ·cases h
theorem EA{f:Nat}{as:List PV}{x:PV×St}(h:ar cf f as [0] st=some x){n:Nat}{cs:List PV}{k e:Nat}{rest:List PV}(ha:as= .list n cs (.own k e)::rest):k<st.nx∧st.cnt k=n:=by
 unfold ar at h
 split at h
 ·cases h
 ·split at h
  ·cases h
  ·rename_i cs0 hcs
   simp only at h
   split at h
   ·rename_i hb
    simp only[aa,aU]at hb
    have:=hb.1.1.2 (k,n) (by rw[ha];simp[dy,jx,aq])
    simp only[qZ,gu,aa,decide_eq_true_eq,hD]at this
    exact this.1
   ·cases h
theorem Cd{f:Nat}{as:List PV}{x:PV×St}(h:ar cf f as [0] st=some x){cs:List PV}{rest:List PV}(ha:as= .agg cs::rest){q:Nat×Nat}(hq:q∈aw cs):q.1<st.nx∧st.cnt q.1=q.2:=by
 unfold ar at h
 split at h
 ·cases h
 ·split at h
  ·cases h
  ·rename_i cs0 hcs
   simp only at h
   split at h
   ·rename_i hb
    simp only[aa,aU]at hb
    have:=hb.1.1.2 q (by rw[ha];simp[dy,jx,aq,hq])
    simp only[qZ,gu,aa,decide_eq_true_eq,hD]at this
    exact this.1
   ·cases h
theorem jN(J:List Nat)(l:List (Nat×Nat×PV)):∀ cs:List PV,(fA J l cs).length=cs.length
 | []=>rfl
 |c::cs=>by simp[fA,jN J l cs]
theorem sM(J:List Nat)(l:List (Nat×Nat×PV)):∀ (cs:List PV) (j:Nat),(fA J l cs)[j]? =(cs[j]?).map (gG J l)
 | [],j=>by simp[fA]
 |c::cs,0=>by simp[fA]
 |c::cs,j+1=>by simp only[fA,af];exact sM J l cs j
theorem R.bkSel{J:List Nat}{l:List (Nat×Nat×PV)}{G G':Gh}(h:Rn some (J.contains ·) false G G')(hbx:∀ s,G'.bx s=G.bx s)(hp:∀ n cs t p v,l9 l n t=some p→R G (.list n cs t) v→R G' p v){q:PV}{v:Value}(hr:R G q v):R G' (gG J l q) v:=by
 have get:∀ {cs:List PV} {j:Nat} {q:PV},(fA J l cs)[j]? =some q→∃ q',cs[j]? =some q'∧gG J l q'=q:=by
  intro cs j q hq
  rw[sM]at hq
  cases hc:cs[j]? with
  |none=>rw[hc]at hq;simp at hq
  |some q'=>rw[hc]at hq;simp at hq;exact⟨q',rfl,hq⟩
 have first:∀ {us:List Value} {b o:Nat},us≠ []→(∀ (j:Nat) (u:Value),us[j]? =some u→G.com b (o+j)=some u)→∃ v,G.com b o=some v:=by
  intro us b o hne hc
  cases us with
  |nil=>exact absurd rfl hne
  |cons u us=>exact⟨u,hc 0 u rfl⟩
 have frOk:∀ {us:List Value} {b:Nat} {t:ay},t.free (J.contains ·)=true→(∀ k,us≠ []→G.pv b=some k→t.of=some k)→us≠ []→∀ k,G.pv b=some k→J.contains k=false:=by
  intro us b t hf hp hne k hk'
  have:=hp k hne hk'
  simpa [ay.free,this]using hf
 have comOk:∀ {us:List Value} {b o:Nat} {t:ay},t.free (J.contains ·)=true→(∀ k,us≠ []→G.pv b=some k→t.of=some k)→(∀ (j:Nat) (u:Value),us[j]? =some u→G.com b (o+j)=some u)→∀ (j:Nat) (u:Value),us[j]? =some u→G'.com b (o+j)=some u:=by
  intro us b o t hf hp hc j w hu
  have hne:us≠ []:=by intro e;subst e;simp at hu
  exact h.com _ _ _ (hc j w hu) (frOk hf hp hne)
 have xpOk:∀ {us:List Value} {b o:Nat} {t:ay},t.free (J.contains ·)=true→(∀ k,us≠ []→G.pv b=some k→t.of=some k)→(us≠ []→t≠ .no→G.xp b=false)→(∀ (j:Nat) (u:Value),us[j]? =some u→G.com b (o+j)=some u)→
   us≠ []→t≠ .no→G'.xp b=false:=by
  intro us b o t hf hp hx hc hne ht'
  cases hxb:G'.xp b with
  |false=>rfl
  |true=>
   obtain⟨v0,hv0⟩:=first hne hc
   rcases h.xp b _ v0 hv0 (frOk hf hp hne) hxb with h1|⟨k,h1,h2⟩
   ·rw[hx hne ht']at h1;cases h1
   ·cases h2
 have pvOk:∀ {us:List Value} {b o:Nat} {t:ay},t.free (J.contains ·)=true→(∀ k,us≠ []→G.pv b=some k→t.of=some k)→(∀ (j:Nat) (u:Value),us[j]? =some u→G.com b (o+j)=some u)→∀ k',us≠ []→G'.pv b=some k'→t.of=some k':=by
  intro us b o t hf hp hc k' hne hk'
  obtain⟨v0,hv0⟩:=first hne hc
  rcases h.pv b k' _ v0 hv0 (frOk hf hp hne) hk' with⟨k,hk1,hk2⟩|⟨hX',_⟩
  ·have:=Option.some.inj hk2;subst this;exact hp _ hne hk1
  ·cases hX'
 induction hr with
 |any v=>exact .any v
 |hole=>exact .hole
 |int k n=>exact .int k n
 |bool b=>exact .bool b
 |str s=>exact .str s
 |nilp=>exact .nilp
 |nili=>exact .nili
 |err t v=>exact .err t v
 |agg cs vs hl _ h1 ih=>
  simp only[gG]
  refine .agg _ vs (by rw[jN];exact hl) (fun j q w hq hu=>?_) h1
  obtain⟨q',hq',rfl⟩:=get hq
  exact ih j q' w hq' hu
 |tup cs vs hl _ ih=>
  simp only[gG]
  refine .tup _ vs (by rw[jN];exact hl) (fun j q w hq hu=>?_)
  obtain⟨q',hq',rfl⟩:=get hq
  exact ih j q' w hq' hu
 |listN t htn=>
  simp only[gG]
  split
  ·rename_i p hc
   exact hp _ _ _ p _ hc (.listN t htn)
  ·split
   ·rename_i hf
    have:=htn.ren (s:=false) h hf
    rw[ay.ren_some]at this
    exact .listN t this
   ·exact .any _
 |listE a=>
  simp only[gG]
  split
  ·rename_i p hc
   simp[l9]at hc
  ·split
   ·exact .listE a
   ·exact .any _
 |list n cs t b o cap us hn hl hc hr0 h1 htr hpp hx ih=>
  simp only[gG]
  split
  ·rename_i p hcc
   exact hp _ _ _ p _ hcc (.list n cs t b o cap us hn hl hc hr0 h1 htr hpp hx)
  ·split
   ·rename_i hf
    have htr':=htr.ren (s:=false) h hf
    rw[ay.ren_some]at htr'
    refine .list n _ t b o cap us hn (by rw[jN];exact hl) (comOk hf hpp hc) (fun j q w hq hu=>?_) h1 htr' (pvOk hf hpp hc) (xpOk hf hpp hx hc)
    obtain⟨q',hq',rfl⟩:=get hq
    exact ih j q' w hq' hu
   ·exact .any _
 |ptr s al b hb=>exact .ptr s al b (by rw[jW (hbx s)];exact hb)
 |osl e sz s n b hb he=>exact .osl e sz s n b (by rw[jW (hbx s)];exact hb) (by rw[xK (hbx s)];exact he)
 |mp s b hb=>exact .mp s b (by rw[EF (hbx s)];exact hb)
 |iptr cs al t b o us hl hc _ h1 htp hpp hx ih=>
  simp only[gG]
  split
  ·rename_i hf
   have htp':=htp.ren (s:=false) h hf
   rw[ay.ren_some]at htp'
   refine .iptr _ al t b o us (by rw[jN];exact hl) (comOk hf hpp hc) (fun j q w hq hu=>?_) h1 htp' (pvOk hf hpp hc) (xpOk hf hpp hx hc)
   obtain⟨q',hq',rfl⟩:=get hq
   exact ih j q' w hq' hu
  ·exact .any _
 |fn g cs vs hl _ ih=>
  simp only[gG]
  refine .fn g _ vs (by rw[jN];exact hl) (fun j q w hq hu=>?_)
  obtain⟨q',hq',rfl⟩:=get hq
  exact ih j q' w hq' hu
mutual
theorem Di(J:List Nat)(l:List (Nat×Nat×PV))(K:Nat→Bool)(hp:∀ n t p,l9 l n t=some p→al K p=true):∀ p:PV,al K p=true→al K (gG J l p)=true
 | .list m cs t,h=>by
  have ih:=mM J l K hp cs (by simpa [al]using h)
  simp only[gG]
  split
  ·rename_i p hc
   exact hp _ _ p hc
  ·split
   ·simpa [al]using ih
   ·rfl
 | .iptr cs o t,h=>by
  have ih:=mM J l K hp cs (by simpa [al]using h)
  simp only[gG]
  split
  ·simpa [al]using ih
  ·rfl
 | .agg cs,h=>by have ih:=mM J l K hp cs (by simpa [al]using h);simpa [gG,al]using ih
 | .tup cs,h=>by have ih:=mM J l K hp cs (by simpa [al]using h);simpa [gG,al]using ih
 | .fn g cs,h=>by have ih:=mM J l K hp cs (by simpa [al]using h);simpa [gG,al]using ih
 | .any,h| .hole,h| .int _ _,h| .bool _,h| .str _,h| .nilp,h| .nili,h| .err,h| .ptr _ _,h| .osl _ _ _ _,h| .mp _,h=>h
theorem mM(J:List Nat)(l:List (Nat×Nat×PV))(K:Nat→Bool)(hp:∀ n t p,l9 l n t=some p→al K p=true):∀ ps:List PV,cM K ps=true→cM K (fA J l ps)=true
 | [],_=>rfl
 |p::ps,h=>by
  simp only[cM,aa]at h
  simp only[fA,cM,Di J l K hp p h.1,mM J l K hp ps h.2,am]
end
theorem um{J:List Nat}{l:List (Nat×Nat×PV)}(hp:∀ n t p,l9 l n t=some p→np p=true){p:PV}(h:np p=true):np (gG J l p)=true:=Di J l _ hp p h
theorem Kw{J:List Nat}{l:List (Nat×Nat×PV)}(hp:∀ n t p,l9 l n t=some p→np p=true){ps:List PV}(h:aG ps=true):aG (fA J l ps)=true:=mM J l _ hp ps h
theorem IG{J:List Nat}{l:List (Nat×Nat×PV)}(hp:∀ n t p,l9 l n t=some p→np p=true){p:PV}(h:bN p=true):bN (gG J l p)=true:=by
 have plain:∀ q:PV,np q=true→bN q=true:=by
  intro q hq
  cases q with
  |fn g cs=>
   simp only[bN,aU,bP]
   intro c hc
   obtain⟨j,hj⟩:=kS hc
   exact .inr (gX (by simpa [np,al,aG]using hq) hj)
  |_=>simp only[bN,hq,km]
 cases p with
 |fn g cs=>
  simp only[bN,aU,bP]at h
  simp only[gG,bN,aU,bP]
  intro c hc
  obtain⟨j,hj⟩:=kS hc
  rw[sM,ae]at hj
  obtain⟨d,hd,rfl⟩:=hj
  rcases h d (bw hd)with h1|h1
  ·left
   cases d<;>simp[fg]at h1<;>rfl
  ·exact .inr (um hp h1)
 |list m cs t=>exact plain _ (um hp (by simpa [bN,fg]using h))
 |iptr cs o t=>exact plain _ (um hp (by simpa [bN,fg]using h))
 |agg cs=>exact plain _ (um hp (by simpa [bN,fg]using h))
 |tup cs=>exact plain _ (um hp (by simpa [bN,fg]using h))
 |_=>exact h
theorem rY{l:List (Nat×Nat×PV)}{n:Nat}{t:ay}{p:PV}(h:l9 l n t=some p):∃ k e,t= .own k e∧(k,n,p)∈l:=by
 unfold l9 at h
 split at h
 ·rename_i k e
  rw[ae]at h
  obtain⟨q,hq,rfl⟩:=h
  have h1:=List.find?_some hq
  have h2:=List.mem_of_find?_eq_some hq
  simp only[aa,hD]at h1
  obtain⟨a,b,c⟩:=q
  obtain⟨rfl,rfl⟩:=h1
  exact⟨a,e,rfl,h2⟩
 ·cases h
theorem oL:∀ {cs ds:List PV} {k n:Nat} {p:PV},(k,n,p)∈fD cs ds→∃ (i:Nat) (c:List PV) (e:Nat) (d:PV),cs[i]? =some (PV.list n c (.own k e))∧ds[i]? =some d∧p=cH n d
 | [],ds,k,n,p,h=>by simp[fD]at h
 |c::cs,[],k,n,p,h=>by
  unfold fD at h
  split at h
  ·rename_i h1;cases h1
  ·rename_i h1;cases h1
  ·simp at h
 |c::cs,d::ds,k,n,p,h=>by
  have tail:(k,n,p)∈fD cs ds→∃ (i:Nat) (c':List PV) (e:Nat) (d':PV),(c::cs)[i]? =some (PV.list n c' (.own k e))∧(d::ds)[i]? =some d'∧p=cH n d':=by
   intro h
   obtain⟨i,c',e,d',h1,h2,h3⟩:=oL h
   exact⟨i+1,c',e,d',h1,h2,h3⟩
  unfold fD at h
  split at h
  ·rename_i h1 h2
   injection h1 with h1 h1'
   injection h2 with h2 h2'
   subst h1 h1' h2 h2'
   rcases aJ.mp h with h|h
   ·simp only[bE]at h
    obtain⟨rfl,rfl,rfl⟩:=h
    exact⟨0,_,_,d,rfl,rfl,rfl⟩
   ·exact tail h
  ·rename_i h1 h2
   injection h1 with h1 h1'
   injection h2 with h2 h2'
   subst h1 h1' h2 h2'
   exact tail h
  ·simp at h
theorem tK:∀ {cs:List PV} {i n:Nat} {c:List PV} {k e:Nat},cs[i]? =some (PV.list n c (.own k e))→(k,n)∈aw cs
 |c::cs,0,n,c',k,e,h=>by
  simp only[ah,aZ]at h
  subst h
  simp[aw,aq]
 |c::cs,i+1,n,c',k,e,h=>by
  simp only[af]at h
  simp only[aw,ax]
  exact .inr (tK h)
theorem Hu(hI:bt P B G st w){k n e e2:Nat}(h1:k<st.nx)(h2:st.cnt k=n)(hn:n≠0){cs cs2:List PV}{v v0:Value}(hv:R G (.list n cs2 (.own k e2)) v)(h0:R G (.list n cs (.own k e)) v0):v=v0:=by
 obtain⟨y0,hy0⟩:=hI.live k h1
 have hcnt:=(hI.cnt k y0 hy0).2
 rw[h2]at hcnt
 cases y0 with
 |full m=>have:=hI.ful k m hy0;subst this;simp only[nj.cnt]at hcnt;omega
 |room rr=>
 cases hv with
 |listN=>omega
 |list _ _ _ b o cap us _ _ _ _ _ htr _ _=>
 cases h0 with
 |listN=>omega
 |list _ _ _ b2 o2 cap2 us2 _ _ _ _ _ htr2 _ _=>
 obtain⟨-,h1⟩:=htr.2 _ hy0
 obtain⟨-,h2⟩:=htr2.2 _ hy0
 obtain⟨rfl,rfl,rfl,-,-⟩:=h1 hcnt
 obtain⟨rfl,rfl,rfl,-,-⟩:=h2 hcnt
 rfl
theorem yQ{G':Gh}(hI:bt P B G st w){k n e:Nat}(h1:k<st.nx)(h2:st.cnt k=n){cs:List PV}{v0:Value}(h0:R G (.list n cs (.own k e)) v0){p0:PV}(hp:R G' p0 v0){cs2:List PV}{t:ay}{v:Value}(hto:t.isOwn k=true)(hRv:R G (.list n cs2 t) v):R G' (cH n p0) v:=by
 simp only[cH]
 by_cases hn:n=0
 ·rw[ai hn]
  subst hn
  cases hRv with
  |listN=>exact .listN _ trivial
  |listE a=>exact .listE a
  |list _ _ _ b o cap us _ _ _ _ _ _ _ _=>exact .list 0 [] .no b o cap [] (aY _) rfl (by simp) (by simp) (by simp) trivial (fun _ h=>absurd rfl h) (fun h=>absurd rfl h)
 ·rw[ad hn]
  cases t with
  |own j e2=>
   simp only[ay.isOwn,hD]at hto
   subst hto
   rw[Hu hI h1 h2 hn hRv h0]
   exact hp
  |_=>simp[ay.isOwn]at hto
theorem pk{n:Nat}{p:PV}(h:np p=true):np (cH n p)=true:=by
 unfold cH
 split
 ·rfl
 ·exact h
theorem HQ{G':Gh}(hI:bt P B G st w){as:List PV}{f:Nat}{x:PV×St}(hcall:ar cf (gx f) as [0] st=some x)(hm:kG as=true){v0:Value}{r0 p0:PV}{st0:St}(h0:∀ a0,as[0]? =some a0→R G a0 v0)(hRp:R G' p0 v0)(hnp:np p0=true)
  (hrn:Rn some ((cX as [0] st).contains ·) false G G') (hbx:G'.bx=G.bx) {q:PV} {u:Value} (hq:R G q u) (ht:bN q=true):R G' (kU (some (r0,p0,st0)) as st q) u∧bN (kU (some (r0,p0,st0)) as st q)=true:=by
 cases as with
 |nil=>simp[kG]at hm
 |cons a0 rest=>
 cases a0 with
 |list n cs tk=>
  cases tk with
  |own k e0=>
   have htk:=EA hcall rfl
   refine⟨R.bk (u:=⟨cX (.list n cs (.own k e0)::rest) [0] st,k,n,cH n p0⟩) hrn (fun s=>by rw[hbx]) (fun cs2 t v hto hRv=>yQ hI htk.1 htk.2 (h0 _ rfl) hRp hto hRv) hq,Dg (u:=⟨cX (.list n cs (.own k e0)::rest) [0] st,k,n,cH n p0⟩) (pk hnp) ht⟩
  |_=>exact⟨hq.rn hrn hbx,pn ht⟩
 |agg cs=>
  cases p0 with
  |agg ds=>
   have hv0:=h0 _ rfl
   cases hv0 with
   |agg _ us hl hcs hsh=>
   cases hRp with
   |agg _ _ hl2 hds _=>
   have hnd:aG ds=true:=by simpa [np,al,aG]using hnp
   refine⟨R.bkSel (J:=cX (.agg cs::rest) [0] st) (l:=fD cs ds) hrn (fun s=>by rw[hbx]) (fun n c t p v hs hRv=>?_) hq,IG (J:=cX (.agg cs::rest) [0] st) (l:=fD cs ds) (fun n t p hs=>?_) ht⟩
   ·obtain⟨k,e,rfl,hm2⟩:=rY hs
    obtain⟨i,c',e',d,hc,hd,rfl⟩:=oL hm2
    have htk:=Cd hcall rfl (tK hc)
    have hil:i<us.length:=by
     have:=(a8.mp hc).1
     omega
    have hu:us[i]? =some us[i]:=az hil
    exact yQ hI htk.1 htk.2 (hcs i _ _ hc hu) (hds i d _ hd hu) (by simp[ay.isOwn]) hRv
   ·obtain⟨k,e,rfl,hm2⟩:=rY hs
    obtain⟨i,c',e',d,hc,hd,rfl⟩:=oL hm2
    exact pk (gX hnd hd)
  |_=>exact⟨hq.rn hrn hbx,pn ht⟩
 |_=>simp[kG]at hm
theorem Hk{f:Nat}{vs:List Value}{e:Ending}{K:Value→Gh→Prop}(h:∃ v G',nP (gx f) vs v e∧K v G'):∃ u G',e= .returned u∧K (.tuple #[u,vs.getD 0 undef]) G':=by
 refine h.elim fun v h=>h.elim fun G' h=>?_
 refine((nO (f:=f) (vs:=vs) (v:=v) (e:=e)).mp (And.left h)).elim fun u hu=>?_
 exact⟨u,G',hu.1,by rw[←hu.2];exact And.right h⟩
theorem bt.boxes{objs:Nat→Option (List PV)}(hI:bt P B G st w)(h:∀ s c,objs s=some c→(∃ b e vs,G.ob s=some b∧w.heap[b]? =some (.cells (List.toArray vs) e (0,0))∧Rs G c vs)∧aG c=true)(hn:∀ s,objs s=none→G.ob s=none):bt P B G {st with objs:=objs} w:=
 ⟨hI.com,hI.sh,hI.nx,hI.cnt,hI.live,hI.room,hI.apart,hI.priv,fun s c hc=>(h s c hc).1,hI.obs,hI.obj,hn,fun s c hc=>(h s c hc).2,hI.pvl,hI.xpl,hI.base,hI.oes,hI.mobj,hI.mbs,hI.mbi,hI.nomb,hI.obx,hI.ful⟩
theorem Cc(hcf:gU P B cf)(hI:bt P B G st w){f:Nat}(hf:f<1000000){as:List PV}{vs:List Value}(hl:as.length=vs.length)(hR:∀ (j:Nat) p v,as[j]? =some p→vs[j]? =some v→R G p v∧bN p=true)
  {r p':PV} (h:uP cf f as st=some (r,p',st')) (hm:kG as=true):
  kZ P f∧np r=true∧Calls P f vs.toArray w fun e w'=>∃ v G',e= .returned v∧R G' r v∧bt P B G' (Bu f p' as st st') w'∧bV G w G' w'∧(∀ q u,R G q u→bN q=true→R G' (kU (some (r,p',st')) as st q) u∧bN (kU (some (r,p',st')) as st q)=true)∧G'.bx=G.bx:=by
 unfold uP at h
 split at h
 ·rename_i r0 p0 st0 hcall
  simp only[aZ,bE]at h
  obtain⟨rfl,rfl,rfl⟩:=h
  obtain⟨hE,hnp,hC⟩:=oE hcf hI hl hR hcall
  rw[zf hf]at hE hC
  have hnps:aG [r0,p0]=true:=hnp
  refine⟨hE,eF hnps (by simp),hC.mono ?_⟩
  intro e w' hx
  obtain⟨u,G',rfl,hRt,hI',hS',hrn,hbx,hkb⟩:=Hk hx
  generalize hv2:(#[u,vs.getD 0 undef]:Array Value)=vv at hRt
  cases hRt with
  |tup _ vs2 hl2 hr2=>
  have hvv:vs2=[u,vs.getD 0 undef]:=by
   have:=aC Array.toList hv2
   simpa using this.symm
  subst hvv
  have h0:∀ a0,as[0]? =some a0→R G a0 (vs.getD 0 undef):=fun a0 ha=>by
   cases vs with
   |nil=>
    cases as with
    |nil=>simp at ha
    |cons a as=>simp at hl
   |cons v0 vs=>exact(hR 0 a0 v0 ha rfl).1
  have hk:∀ q x,R G q x→bN q=true→R G' (kU (some (r0,p0,st0)) as st q) x∧bN (kU (some (r0,p0,st0)) as st q)=true:=fun q x hq ht=>HQ hI hcall hm h0 (hr2 1 p0 _ rfl rfl) (eF hnps (by simp)) hrn hbx hq ht
  refine⟨u,G',rfl,hr2 0 r0 u rfl rfl,?_,hS',hk,hbx⟩
  unfold Bu
  split
  ·split
   ·rename_i cs rest ds hks
    refine hI'.boxes (fun s c hc=>?_) (fun s hc=>?_)
    ·rw[ae]at hc
     obtain⟨c0,hc0,rfl⟩:=hc
     obtain⟨b,e,ws,h1,h2,h3⟩:=hI.objs s c0 hc0
     refine⟨⟨b,e,ws,by rw[jW (congrFun hbx s)];exact h1,by rw[hkb (by simp) hks s b h1];exact h2,by rw[jN];exact h3.1,fun j q v hq hv=>?_,h3.2.2⟩,Kw (fun n t p hs=>?_) (hI.npo s c0 hc0)⟩
     ·rw[sM,ae]at hq
      obtain⟨q0,hq0,rfl⟩:=hq
      exact(hk q0 v (h3.2.1 j q0 v hq0 hv) (ek (gX (hI.npo s c0 hc0) hq0))).1
     ·obtain⟨k,e,rfl,hm2⟩:=rY hs
      obtain⟨i,c',e',d,hc,hd,rfl⟩:=oL hm2
      have hnd:aG ds=true:=by simpa [np,al,aG]using eF hnps (p:= .agg ds) (by simp)
      exact pk (gX hnd hd)
    ·rw[dN]at hc
     rw[jW (congrFun hbx s)];exact hI.nob s hc
   ·exact hI'
  ·rename_i n cs k e0 rest
   split
   ·rename_i hks
    refine hI'.boxes (fun s c hc=>?_) (fun s hc=>?_)
    ·rw[ae]at hc
     obtain⟨c0,hc0,rfl⟩:=hc
     obtain⟨b,e,ws,h1,h2,h3⟩:=hI.objs s c0 hc0
     refine⟨⟨b,e,ws,by rw[jW (congrFun hbx s)];exact h1,by rw[hkb (by simp) hks.2 s b h1];exact h2,by rw[iM];exact h3.1,fun j q v hq hv=>?_,h3.2.2⟩,GB (u:=⟨cX (.list n cs (.own k e0)::rest) [0] st,k,n,cH n p0⟩) (pk (eF hnps (by simp))) (hI.npo s c0 hc0)⟩
     rw[qC,ae]at hq
     obtain⟨q0,hq0,rfl⟩:=hq
     exact(hk q0 v (h3.2.1 j q0 v hq0 hv) (ek (gX (hI.npo s c0 hc0) hq0))).1
    ·rw[dN]at hc
     rw[jW (congrFun hbx s)];exact hI.nob s hc
   ·exact hI'
  ·exact hI'
 ·cases h
end
def Gh.cut(G:Gh)(k h:Nat)(r:qF):Gh where
 com b o:=if b=r.b∧h*r.sz≤o then none else G.com b o
 sh:=G.sh
 tk t:=if t=k then some (.full 0)else if t=G.nx then some (.room (qF.mk r.b r.cap r.sz r.e h))else G.tk t
 ob:=G.ob
 nx:=G.nx+1
 pv b:=if b=r.b then some G.nx else G.pv b
 xp:=G.xp
 oe:=G.oe
 mb:=G.mb
section
variable {G:Gh} {st:St} {w:World}
theorem Fe(hI:bt P B G st w){k h:Nat}{r:qF}(hr:G.tk k=some (.room r))(hfl:st.fl≤k):Rn some ([k].contains ·) false G (G.cut k h r):=by
 have hpv:G.pv r.b=some k:=(hI.priv k r hr).1 hfl
 have hne:∀ b,(∀ k',G.pv b=some k'→[k].contains k'=false)→b≠r.b:=by
  rintro b hK rfl
  have:=hK k hpv
  simp at this
 refine⟨fun b o v h hK=>?_,fun _ _ h=>h,fun j j' hj hK hlt=>?_,fun b j o v h hK hp=>?_,fun b o v _ _ h=> .inl h⟩
 ·show(if b=r.b∧_ then none else G.com b o)=some v
  rw[ad fun h=>hne b hK h.1];exact h
 ·cases hj
  have hjk:j≠k:=by
   rintro rfl
   simp at hK
  refine⟨Nat.lt_succ_of_lt hlt,fun x' hx=>⟨x',?_,aD _,fun _=>rfl⟩⟩
  simp only[Gh.cut,ad hjk]at hx
  rwa [ad (by omega)]at hx
 ·simp only[Gh.cut,ad (hne b hK)]at hp
  exact .inl ⟨j,hp,rfl⟩
theorem bt.cut(hI:bt P B G st w){k h:Nat}{r:qF}(hr:G.tk k=some (.room r))(hfl:st.fl≤k)(hh:h≤r.cap):
  bt P B (G.cut k h r) (kM st k h) w∧bV G w (G.cut k h r) w:=by
 obtain⟨hsh,hcm,hmc,hsz,hno,hxr⟩:=hI.room k r hr
 have hklt:=(hI.cnt k _ hr).1
 have hnx:=hI.nx
 have hpv:G.pv r.b=some k:=(hI.priv k r hr).1 hfl
 have hrn:=Fe (h:=h) hI hr hfl
 have hbl:r.b<w.heap.size:=hI.pvl _ _ hpv
 have hcomAt:∀ {b o v},(G.cut k h r).com b o=some v→G.com b o=some v:=by
  intro b o v h
  simp only[Gh.cut]at h
  split at h
  ·cases h
  ·exact h
 have hroom:∀ {t q},(G.cut k h r).tk t=some (.room q)→(t=G.nx∧q={r with m:=h})∨(t≠k∧t≠G.nx∧G.tk t=some (.room q)∧q.b≠r.b):=by
  intro t q h
  simp only[Gh.cut]at h
  split at h
  ·cases h
  ·rename_i htk
   split at h
   ·rename_i ht;cases h;exact .inl ⟨ht,rfl⟩
   ·rename_i ht;exact .inr ⟨htk,ht,h,fun e=>htk (hI.apart t k q r h hr e)⟩
 have hob:∀ s b,G.ob s=some b→b≠r.b:=by
  intro s b hb e
  have:=(hI.obs s b hb).2.2
  rw[e,hsh]at this;cases this
 have stay:∀ {p:PV} {v:Value},R G p v→R (G.cut k h r) (bJ [k] p) v:=fun hR=>hR.rn hrn rfl
 refine⟨⟨fun b o v h=>hI.com b o v (hcomAt h),fun b e n h=>hI.sh b e n h,by simp[Gh.cut,kM,St.more,hnx],fun t x hx=>?_,fun t ht=>?_,fun t q hq=>?_,fun t u q q' h1 h2 hb=>?_,fun t q hq=>?_,fun s cs h=>?_,fun s b h=>?_,hI.obj,fun s h=>?_,fun s cs h=>?_,fun b j h=>?_,hI.xpl,fun b o v h=>?_,hI.oes,fun s es h=>?_,hI.mbs,hI.mbi,fun s h=>?_,fun s b h=>?_,fun t m h=>?_⟩,
  ⟨⟨fun b o v h hp=>?_,fun _ _ h=>h,rfl⟩,aD _,fun _ _ _ _ _=>rfl,fun s b h=> .inl ⟨s,h⟩,fun t q hq=>?_,fun b o v h=> .inl (hcomAt h),fun _ _ h=> .inl h,fun b j h=>?_,fun s b h=> .inl ⟨s,h⟩,⟨rfl,rfl⟩⟩⟩
 ·simp only[Gh.cut]at hx
  split at hx
  ·rename_i e
   cases hx;subst e
   exact⟨by simp[kM,St.more];omega,by simp[kM,nj.cnt]⟩
  ·rename_i htk
   split at hx
   ·rename_i e
    cases hx;subst e
    refine⟨by simp[kM,St.more];omega,?_⟩
    have:¬ (st.nx=k):=by omega
    simp[kM,St.more,this,hnx,nj.cnt]
   ·obtain⟨h1,h2⟩:=hI.cnt t x hx
    refine⟨by simp[kM,St.more];omega,?_⟩
    simp[kM,St.more,htk,h1,h2]
 ·by_cases e:t=k
  ·exact⟨.full 0,by simp[Gh.cut,e]⟩
  ·by_cases e':t=G.nx
   ·exact⟨.room {r with m:=h},by simp only[Gh.cut,ad e,ai e']⟩
   ·obtain⟨x,hx⟩:=hI.live t (by simp[kM,St.more]at ht;omega)
    exact⟨x,by simp only[Gh.cut,ad e,ad e'];exact hx⟩
 ·rcases hroom hq with⟨rfl,rfl⟩|⟨h1,h2,h3,h4⟩
  ·exact⟨hsh,hcm,hh,hsz,fun o ho=>by simp only[Gh.cut];rw[ai ⟨trivial,ho⟩],hxr⟩
  ·obtain⟨g1,g2,g3,g4,g5,g6⟩:=hI.room t q h3
   exact⟨g1,g2,g3,g4,fun o ho=>by simp only[Gh.cut];rw[ad fun e=>h4 e.1];exact g5 o ho,g6⟩
 ·rcases hroom h1 with⟨rfl,rfl⟩|⟨a1,a2,a3,a4⟩<;>rcases hroom h2 with⟨rfl,rfl⟩|⟨b1,b2,b3,b4⟩
  ·rfl
  ·exact absurd hb.symm b4
  ·exact absurd hb a4
  ·exact hI.apart t u q q' a3 b3 hb
 ·rcases hroom hq with⟨rfl,rfl⟩|⟨h1,h2,h3,h4⟩
  ·refine⟨fun _=>by simp[Gh.cut],fun j hj=>?_⟩
   simp[Gh.cut]at hj
   exact hj.symm
  ·simp only[Gh.cut,ad h4]
   exact hI.priv t q h3
 ·simp only[kM,gp,ae]at h
  obtain⟨c0,h1,rfl⟩:=h
  obtain⟨b,e,us,h2,h3,h4⟩:=hI.objs s c0 h1
  refine⟨b,e,us,h2,h3,by rw[bu];exact h4.1,fun j p u hp hu=>?_,h4.2.2⟩
  rw[b7,ae]at hp
  obtain⟨q,hq,rfl⟩:=hp
  exact stay (h4.2.1 j q u hq hu)
 ·obtain⟨h1,h2,h3⟩:=hI.obs s b h
  refine⟨h1,fun o=>?_,h3⟩
  simp only[Gh.cut]
  rw[ad fun e=>hob s b h e.1];exact h2 o
 ·simp only[kM,gp,dN]at h
  exact hI.nob s h
 ·simp only[kM,gp,ae]at h
  obtain⟨c0,h1,rfl⟩:=h
  exact AK (hI.npo s c0 h1)
 ·simp only[Gh.cut]at h
  split at h
  ·rename_i e;rw[e];exact hbl
  ·exact hI.pvl b j h
 ·obtain⟨h1,h2,h3⟩:=hI.base b o v h
  have hb:b≠r.b:=by rintro rfl;rw[hpv]at h2;cases h2
  simp only[Gh.cut]
  exact⟨by rw[ad fun e=>hb e.1];exact h1,by rw[ad hb];exact h2,h3⟩
 ·simp only[kM,iZ,ae]at h
  obtain⟨e0,h0,rfl⟩:=h
  obtain⟨b,vs,clk,h1,h2,h3,h4⟩:=hI.mobj s e0 h0
  refine⟨b,vs,clk,h1,h2,⟨by rw[bu];exact h3.1,fun i q x hq hx=>?_⟩,fun q hq=>?_⟩
  ·rw[b7,ae]at hq
   obtain⟨q0,hq0,rfl⟩:=hq
   obtain⟨g1,g2⟩:=h3.2 i q0 x hq0 hx
   exact⟨g1,stay g2⟩
  ·obtain⟨q0,hq0,rfl⟩:=cq.1 hq
   exact vY (h4 q0 hq0)
 ·simp only[kM,iZ,dN]at h
  exact hI.nomb s h
 ·obtain⟨h1,h2⟩:=hI.obx s b h
  simp only[Gh.cut,ad (hob s b h)]
  exact⟨h1,h2⟩
 ·simp only[Gh.cut]at h
  split at h
  ·cases h;rfl
  ·split at h
   ·cases h
   ·exact hI.ful t m h
 ·have hb:b≠r.b:=by rintro rfl;rw[hpv]at hp;cases hp
  simp only[Gh.cut]
  exact⟨by rw[ad fun e=>hb e.1];exact h,by rw[ad hb];exact hp⟩
 ·rcases hroom hq with⟨rfl,rfl⟩|⟨h1,h2,h3,h4⟩
  ·exact .inl ⟨k,r,hr,rfl⟩
  ·exact .inl ⟨t,q,h3,rfl⟩
 ·simp only[Gh.cut]at h
  split at h
  ·rename_i e;exact .inl ⟨k,by rw[e];exact hpv⟩
  ·exact .inl ⟨j,h⟩
theorem Dk(hI:bt P B G st w){st':St}{p x y:PV}{xv yv:Value}{t ty e:Nat}(hx:R G x xv)(hy:R G y yv)(htx:bN x=true)(hty:bN y=true)(hu:P.underlying t=some (.slice e))
  {i:TypeInfo} (hi:P.info? e=some i) {zs:List PV} (hz:fB P e=some zs) (hzl:zs.length=i.size)
  (h:By e i.size i.bytes x y st=some (p,st')):∃ v w' G',(Builtin.append_ #[t,t] ty #[xv,yv]).run P w= .ok v w'∧R G' p v∧bt P B G' st' w'∧Le G G'∧bV G w G' w'∧G'.bx=G.bx∧bN p=true:=by
 unfold By at h
 split at h
 ·rename_i n cs tk m ds ty'
  split at h
  ·rename_i hb
   obtain⟨hc,hcs,hds,hby,hnm,h0⟩:=hb
   have hres:p= .list (n+m) (cs++ds) (.own (fY st tk) e)∧st'=jT st (n+m) tk∧FC e tk∧∀ e',tk= .full e'→0<m∨n=0:=by
    cases tk with
    |no=>simp[gu]at hc
    |sub k=>simp[gu]at hc
    |el k e n=>simp[gu]at hc
    |nil=>cases h;exact⟨rfl,rfl,trivial,fun _ h=>by cases h⟩
    |full e'=>
     simp only at h
     split at h
     ·rename_i he;cases h;exact⟨rfl,rfl,he.1,fun _ _=>he.2⟩
     ·cases h
    |own k e'=>
     simp only at h
     split at h
     ·rename_i he;cases h;exact⟨rfl,rfl,he,fun _ h=>by cases h⟩
     ·cases h
   obtain⟨rfl,rfl,hex,hfu⟩:=hres
   obtain⟨v,w',G',hrun,hR',hI',hL',hS',hob⟩:=Ct (ty:=ty) hI hu hi hz hzl hx hy hc hex hcs hds hby hnm h0 hfu
   refine⟨v,w',G',hrun,hR',hI',hL',hS',hob,ek ?_⟩
   have h1:aG cs=true:=by simpa [bN,fg,np,al,aG]using htx
   have h2:aG ds=true:=by simpa [bN,fg,np,al,aG]using hty
   have:=kF h1 h2
   simpa [np,al,aG]using this
  ·cases h
 ·cases h
end
section
variable {G:Gh} {nt:Nat} {fr:Fr} {st st':St} {w:World} {a:Act} {o:Oper} {d:Option Nat} {cf:au} {p:PV}
theorem JL(hI:bt P B G st w)(hF:dZ G nt fr a){t e:Nat}{x y:Operand}(hop:o.op= .call {callee:= .builtin .append,args:= #[x,y],argTypes:= #[t,t]})(hu:P.underlying t=some (.slice e))
  {cx cy:CX} (hx:bl x=some cx) (hy:bl y=some cy) {i:TypeInfo} (hi:P.info? e=some i) {zs:List PV} (hz:fB P e=some zs) (hzl:zs.length=i.size)
  (h:ap cf fr st d (.apc e i.size i.bytes cx cy)=some (p,st')):∃ v w' G',(execOp a.eval o).run P w= .ok (.value v) w'∧R G' p v∧bN p=true∧bt P B G' st' w'∧bV G w G' w'∧(∀ s,G'.bx s=G.bx s)∧
   ∀ t,R G' (bJ (nJ (cx.ev fr) (cy.ev fr) st) (fr t)) (a.tmps.getD t undef)∧bN (bJ (nJ (cx.ev fr) (cy.ev fr) st) (fr t))=true:=by
 have hR:=bQ hF hx
 have hRy:=bQ hF hy
 have htx:=dM hF hx
 have hty:=dM hF hy
 simp only[ap]at h
 simp only[execOp,hop,resolve,invoke,builtin]
 generalize hxe:a.eval x=xv at hR
 generalize hye:a.eval y=yv at hRy
 generalize cx.ev fr=px at*
 generalize cy.ev fr=py at*
 have plain:By e i.size i.bytes px py st=some (p,st')→nJ px py st=[]→∃ v w' G',(Builtin.append_ #[t,t] o.type #[xv,yv]).run P w= .ok v w'∧R G' p v∧bN p=true∧bt P B G' st' w'∧bV G w G' w'∧(∀ s,G'.bx s=G.bx s)∧
   ∀ t,R G' (bJ (nJ px py st) (fr t)) (a.tmps.getD t undef)∧bN (bJ (nJ px py st) (fr t))=true:=by
  intro h1 h2
  obtain⟨v,w',G',hrun,hR',hI',hL',hS',hob,ht⟩:=Dk (ty:=o.type) hI hR hRy htx hty hu hi hz hzl h1
  refine⟨v,w',G',hrun,hR',ht,hI',hS',fun s=>by rw[hob],fun t=>?_⟩
  rw[h2,oS]
  exact⟨(hF.2.1 t).mono hL' (fun _=>by rw[hob]),hF.2.2 t⟩
 have goal:∃ v w' G',(Builtin.append_ #[t,t] o.type #[xv,yv]).run P w= .ok v w'∧R G' p v∧bN p=true∧bt P B G' st' w'∧bV G w G' w'∧(∀ s,G'.bx s=G.bx s)∧
   ∀ t,R G' (bJ (nJ px py st) (fr t)) (a.tmps.getD t undef)∧bN (bJ (nJ px py st) (fr t))=true:=by
  unfold LN at h
  cases px with
  |list n cs tk=>
   cases tk with
   |el k e' c=>
    by_cases hc:0<c∧k<st.nx∧st.cnt k=c∧st.fl≤k∧dT ([k].contains ·) cs=true∧tf ([k].contains ·) py=true
    ·have hJ:nJ (.list n cs (.el k e' c)) py st=[k]:=by simp only[nJ];rw[ai hc]
     rw[hJ]at h
     simp only at h
     obtain⟨c1,c2,c3,c4,c5,c6⟩:=hc
     obtain⟨y0,hy0⟩:=hI.live k c2
     have hcnt:=(hI.cnt k y0 hy0).2
     rw[c3]at hcnt
     cases y0 with
     |full m=>
      have:=hI.ful k m hy0
      subst this
      simp only[nj.cnt]at hcnt
      omega
     |room r=>
     cases hR with
     |listN _ ht=>
      have ht:c=0:=ht
      omega
     |list _ _ _ b o' cap us hn hl hcm hr h1 ht hp hx'=>
      obtain⟨-,hm⟩:=ht.2 _ hy0
      obtain⟨rfl,rfl,rfl,hre,hlen⟩:=hm hcnt
      obtain⟨hI1,hS1⟩:=hI.cut hy0 c4 hn
      have hrn:=Fe (h:=n) hI hy0 c4
      have hnx:=hI.nx
      have hxr:=(hI.room k r hy0).2.2.2.2.2
      have hks:∀ {q:PV} {v:Value},R G q v→R (G.cut k n r) (bJ [k] q) v:=fun hq=>hq.rn hrn rfl
      have hRx:R (G.cut k n r) (.list n cs (.own st.nx e')) (.slice (some ⟨r.b,0,none⟩) n r.cap):=by
       refine .list n cs _ r.b 0 r.cap us hn hl (fun j u hu=>?_) (fun j q u hq hu=>?_) h1 ⟨by show st.nx<G.nx+1;omega,fun x hx=>?_⟩ (fun j _ hj=>?_) (fun _ _=>hxr)
       ·have hlt:=(a8.1 hu).1
        show(if r.b=r.b∧n*r.sz≤0+j then none else G.com r.b (0+j))=some u
        rw[ad (by omega)]
        exact hcm j u hu
       ·have:=hks (hr j q u hq hu)
        rwa [bJ,ai (j8 c5 hq)]at this
       ·have hne:st.nx≠k:=by omega
        simp only[Gh.cut,ad hne,hnx,if_true]at hx
        cases hx
        exact⟨aD _,fun _=>⟨rfl,rfl,rfl,hre,hlen⟩⟩
       ·simp[Gh.cut]at hj
        rw[←hj,hnx];rfl
      have hRy1:R (G.cut k n r) py yv:=by
       have:=hks hRy
       rwa [bJ,ai c6]at this
      obtain⟨v,w',G',hrun,hR',hI',hL',hS',hob,htp⟩:=Dk (ty:=o.type) hI1 hRx hRy1 (show bN (.list n cs (.own st.nx e'))=true by simpa [bN,fg,np,al,aG]using htx) hty hu hi hz hzl h
      refine⟨v,w',G',hrun,hR',htp,hI',hS1.trans hS',fun s=>by rw[hob];rfl,fun t=>?_⟩
      rw[hJ]
      exact⟨(hks (hF.2.1 t)).mono hL' (fun _=>by rw[hob]),pn (hF.2.2 t)⟩
    ·have hJ:nJ (.list n cs (.el k e' c)) py st=[]:=by simp only[nJ];rw[ad hc]
     rw[hJ]at h
     exact plain h hJ
   |_=>exact plain h rfl
  |_=>exact plain h rfl
 obtain⟨v,w',G',hrun,hrest⟩:=goal
 exact⟨v,w',G',by simp[hxe,hye,hrun],hrest⟩
end
def zP(b:Bool):dG→dG
 | .store sz a x=>if b then .stx sz a x else .store sz a x
 |c=>c
def z8(b:Bool):dG→dG
 | .app e sz by' x y=>if b then .apc e sz by' x y else .app e sz by' x y
 |c=>c
def yj(P:Program)(M:Nat→List Nat):Op→Option dG
 | .call {callee:= .value (.func f),args:=as,argTypes:=_}=>if f<1000000 then(if(M f).contains 1000 then(nK as.toList).map (.callU f ·)else(nK as.toList).map (.call f · (M f)))else none
 | .call {callee:= .value (.tmp t),args:=as,argTypes:=_}=>(nK as.toList).map (.cval (.sl t))
 |op=>(i8 P op).map fun c=>z8 (!(M 1000003).isEmpty) (zP (!(M 1000002).isEmpty) c)
def ud(ops:Array Oper):Option (Nat×Bool)→Option (Option (Nat×Bool))
 |none=>some none
 |some (j,b)=>match (ops[j]?).bind (·.dst)with
  |some s=>some (some (s,b))
  |none=>none
def Et(nt nk:Nat)(c:dG):Option Nat→Bool
 |some d=>decide (d<nt) && (!iy c||decide (nk≤d))
 |none=>!iy c
def oA(M:Nat→List Nat):Bool:=!(M 1000001).isEmpty
def mC(kp:Bool)(a' a:Act):Prop:=a'.defers=a.defers∧(kp=true→a'.tmps.getD 0 undef=a.tmps.getD 0 undef)
theorem mC.refl{kp:Bool}{a:Act}:mC kp a a:=⟨rfl,fun _=>rfl⟩
theorem mC.trans{kp:Bool}{a b c:Act}(h:mC kp c b)(k:mC kp b a):mC kp c a:=⟨h.1.trans k.1,fun e=>(h.2 e).trans (k.2 e)⟩
def qz(P:Program)(M:Nat→List Nat)(nt nk:Nat)(ops:Array Oper)(o:Oper):Option bz:=
 match yj P M o.op,ud ops o.guard with
 |some c,some g=>
  if Et nt nk c o.dst && (!oA M||o.dst !=some 0)then some {g:=g,d:=o.dst,op:=c}else none
 |_,_=>none
theorem sG{G:Gh}{nt:Nat}{fr:Fr}{a:Act}(hF:dZ G nt fr a):∀ {xs:List Operand} {cs:List CX},nK xs=some cs→
  cs.length=xs.length∧∀ (j:Nat) p v,(cs.map (·.ev fr))[j]? =some p→(xs.map a.eval)[j]? =some v→R G p v∧bN p=true
 | [],cs,h=>by cases h;exact⟨rfl,fun j p v hp=>by simp at hp⟩
 |x::xs,cs,h=>by
  unfold nK at h
  split at h
  ·rename_i c cs' hx hxs
   cases h
   obtain⟨hl,hr⟩:=sG hF hxs
   refine⟨by simp[hl],fun j p v hp hv=>?_⟩
   cases j with
   |zero=>
    simp at hp hv
    subst hp;subst hv
    exact⟨bQ hF hx,dM hF hx⟩
   |succ j=>exact hr j p v (by simpa using hp) (by simpa using hv)
  ·cases h
theorem yS(s:Nat){p:PV}(h:bN p=true):bN (dL s p)=true:=by
 cases p with
 |ptr k o=>simp only[dL];split<;>first|rfl|exact h
 |osl e sz k n=>simp only[dL];split<;>first|rfl|exact h
 |mp k=>simp only[dL];split<;>first|rfl|exact h
 |fn f cs=>simp only[dL];split<;>first|rfl|exact h
 |_=>simp only[dL];exact h
section
variable {G:Gh} {nt:Nat} {fr:Fr} {st st':St} {w:World} {a:Act} {o:Oper} {d:Option Nat} {cf:au} {p:PV}
theorem yT{G:Gh}(s:Nat){p:PV}{v:Value}(h:R G p v):R G (dL s p) v:=by
 cases p with
 |ptr k o=>simp only[dL];split<;>first|exact .any v|exact h
 |osl e sz k n=>simp only[dL];split<;>first|exact .any v|exact h
 |mp k=>simp only[dL];split<;>first|exact .any v|exact h
 |fn f cs=>simp only[dL];split<;>first|exact .any v|exact h
 |_=>simp only[dL];exact h
theorem dZ.put(hF:dZ G nt fr a){fr1:Fr}(hd:∀ s,d=some s→s<nt){G':Gh}(key:∀ t,R G' (fr1 t) (a.tmps.getD t undef)∧bN (fr1 t)=true){v:Value}(hR:R G' p v)(ht:bN p=true):
  dZ G' nt (PM.put fr1 d p) (a.put d v):=by
 obtain⟨h1,h2,h3⟩:=hF
 cases d with
 |none=>exact⟨h1,fun t=>(key t).1,fun t=>(key t).2⟩
 |some s=>
  have hs:=hd s rfl
  refine⟨by simp[Act.put];exact h1,fun t=>?_,fun t=>?_⟩
  ·simp only[PM.put,uW,Act.put]
   by_cases htS:t=s
   ·subst htS
    rw[ai rfl]
    have hlt:t<a.tmps.size:=by omega
    rw[bo,gR hlt]
    exact hR
   ·rw[ad htS]
    have:=(key t).1
    rw[bo]at this ⊢
    rwa [gz (Ne.symm htS)]
  ·simp only[PM.put,uW]
   split
   ·exact ht
   ·exact(key t).2
def quiet(c:dG):Bool:=!iy c && (match c with| .call .. =>false| .callU .. =>false| .stx .. =>false| .apc .. =>false|_=>true)
theorem ry{c:dG}(h:quiet c=true)(d:Option Nat)(st:St)(fr:Fr):cn cf c d st fr=fr:=by
 cases c<;>cases d<;>first|rfl|(simp[quiet,iy]at h)
theorem B4{c:dG}(h:iy c=true)(s:Nat)(st:St)(fr:Fr):cn cf c (some s) st fr=fun t=>dL s (fr t):=by
 cases c<;>first|rfl|(simp[iy]at h)
theorem D5{c:dG}(h:iy c=true)(st:St)(fr:Fr):cn cf c none st fr=fr:=by
 cases c<;>first|rfl|(simp[iy]at h)
theorem xd(f:Nat)(as:List CX)(mv:List Nat)(d:Option Nat)(st:St)(fr:Fr):cn cf (.call f as mv) d st fr=fun t=>bJ (cX (as.map (·.ev fr)) mv st) (fr t):=by
 cases mv with
 |nil=>funext t;simp only[cn,cX,oS]
 |cons m mv=>rfl
theorem Ej(hF:dZ G nt fr a){c:dG}(hc:∀ f as mv,c≠ .call f as mv)(hc2:∀ f as,c≠ .callU f as)(hc3:∀ sz x y,c≠ .stx sz x y)(hc4:∀ e sz b x y,c≠ .apc e sz b x y){G':Gh}(hL:Le G G')(hob:∀ s,(iy c=true∧d=some s)∨G'.bx s=G.bx s)(st:St):
  ∀ t,R G' (cn cf c d st fr t) (a.tmps.getD t undef)∧bN (cn cf c d st fr t)=true:=by
 obtain⟨h1,h2,h3⟩:=hF
 intro t
 cases hm:iy c with
 |true=>
  cases d with
  |none=>
   rw[D5 hm]
   exact⟨(h2 t).mono hL (fun k=>by
    rcases hob k with⟨_,h⟩|h
    ·cases h
    ·exact h),h3 t⟩
  |some s=>
   rw[B4 hm]
   refine⟨(yT s (h2 t)).le hL (fun k=>decide (k=s)) (fun k hk=>?_) (AU s (fr t) (h3 t)),yS s (h3 t)⟩
   rcases hob k with⟨_,h⟩|h
   ·cases h;simp at hk
   ·exact h
 |false=>
  have hq:quiet c=true:=by
   unfold quiet
   rw[hm]
   cases c<;>first|rfl|exact absurd rfl (hc _ _ _)|exact absurd rfl (hc2 _ _)|exact absurd rfl (hc3 _ _ _)|exact absurd rfl (hc4 _ _ _ _ _)
  rw[ry hq]
  refine⟨(h2 t).mono hL (fun k=>?_),h3 t⟩
  rcases hob k with⟨hm',_⟩|h
  ·rw[hm]at hm';cases hm'
  ·exact h
theorem dZ.skip(hF:dZ G nt fr a)(hd:∀ s,d=some s→s<nt):dZ G nt (PM.put fr d .hole) (a.put d undef):=by
 obtain⟨h1,h2,h3⟩:=hF
 cases d with
 |none=>exact⟨h1,h2,h3⟩
 |some s=>
  have hs:=hd s rfl
  refine⟨by simp[Act.put];exact h1,fun t=>?_,fun t=>?_⟩
  ·simp only[PM.put,uW,Act.put]
   by_cases htS:t=s
   ·subst htS
    rw[ai rfl]
    have hlt:t<a.tmps.size:=by omega
    rw[bo,gR hlt]
    exact .hole
   ·rw[ad htS]
    have:=h2 t
    rw[bo]at this ⊢
    rwa [gz (Ne.symm htS)]
  ·simp only[PM.put,uW]
   split
   ·rfl
   ·exact h3 t
theorem Az{kp:Bool}(a:Act){d:Option Nat}(v:Value)(h:kp=true→d≠some 0):mC kp (a.put d v) a:=by
 refine⟨by cases d<;>rfl,fun e=>?_⟩
 cases d with
 |none=>rfl
 |some s=>
  have hs:s≠0:=by rintro rfl;exact h e rfl
  simp only[Act.put]
  rw[bo,bo,gz hs]
theorem Bh{op:Op}{f:Nat}{as:List CX}(h:i8 P op=some (.callU f as)):False:=by
 unfold i8 at h
 split at h
 all_goals repeat' (first|(cases h;done)|(simp only[ae]at h;obtain⟨_,_,h⟩:=h;cases h;done)|(split at h))
theorem Ev{op:Op}{sz:Nat}{x y:CX}(h:i8 P op=some (.stx sz x y)):False:=by
 unfold i8 at h
 split at h
 all_goals repeat' (first|(cases h;done)|(simp only[ae]at h;obtain⟨_,_,h⟩:=h;cases h;done)|(split at h))
theorem Ew{op:Op}{e sz by':Nat}{cx cy:CX}(h:i8 P op=some (.app e sz by' cx cy)):∃ t x y i zs,op= .call {callee:= .builtin .append,args:= #[x,y],argTypes:= #[t,t]}∧P.underlying t=some (.slice e)∧bl x=some cx∧bl y=some cy∧P.info? e=some i∧fB P e=some zs∧zs.length=i.size∧sz=i.size∧by'=i.bytes:=by
 unfold i8 at h
 split at h
 all_goals repeat' (first|(cases h;done)|(simp only[ae]at h;obtain⟨_,_,h⟩:=h;cases h;done)|(rename_i hb;obtain⟨rfl,hzl⟩:=hb;cases h;exact⟨_,_,_,_,_,rfl,iL (by assumption),by assumption,by assumption,by assumption,by assumption,hzl,rfl,rfl⟩)|(split at h))
theorem Ey{op:Op}{e sz b:Nat}{x y:CX}(h:i8 P op=some (.apc e sz b x y)):False:=by
 unfold i8 at h
 split at h
 all_goals repeat' (first|(cases h;done)|(simp only[ae]at h;obtain⟨_,_,h⟩:=h;cases h;done)|(split at h))
theorem Bg{op:Op}{sz:Nat}{cx cy:CX}(h:i8 P op=some (.store sz cx cy)):∃ t x y,op= .store t x y∧bl x=some cx∧bl y=some cy∧fJ P t=some sz:=by
 unfold i8 at h
 split at h
 all_goals repeat' (first|(cases h;done)|(simp only[ae]at h;obtain⟨_,_,h⟩:=h;cases h;done)|(cases h;exact⟨_,_,_,rfl,by assumption,by assumption,by assumption⟩)|(split at h))
theorem Cb{op:Op}{f:Nat}{as:List CX}{mv:List Nat}(h:i8 P op=some (.call f as mv)):False:=by
 unfold i8 at h
 split at h
 all_goals repeat' (first|(cases h;done)|(simp only[ae]at h;obtain⟨_,_,h⟩:=h;cases h;done)|(split at h))
theorem JM{M:Nat→List Nat}(hcf:gU P B cf)(hI:bt P B G st w)(hF:dZ G nt fr a){c:dG}(hc:yj P M o.op=some c)(hd:∀ s,o.dst=some s→s<nt)(h:ap cf fr st o.dst c=some (p,st')){next:Act→World→Prop}{Q:Exit→Act→World→Prop}
  (hn:∀ v w' G',bt P B G' st' w'→bV G w G' w'→dZ G' nt (PM.put (cn cf c o.dst st fr) o.dst p) (a.put o.dst v)→(∀ s,(iy c=true∧o.dst=some s)∨G'.bx s=G.bx s)→next (a.put o.dst v) w'):o.wp P a w next Q:=by
 unfold yj at hc
 split at hc
 ·rename_i f as tys hop
  split at hc
  ·rename_i hfl
   have hargs:as.map a.eval=(as.toList.map a.eval).toArray:=by apply Array.ext';simp
   have hrun:∀ {fn:Func} {bd:Code},P.funcs[f]? =some fn→fn.name≠ "runtime.NumGoroutine" →fn.body=some bd→(execOp a.eval o).run P w= .ok (.enter f (as.toList.map a.eval).toArray) w:=by
    intro fn bd hfn hname hb
    rw[←hargs]
    simp[execOp,hop,resolve,Act.eval,Deferred.ofValue,invoke,callFunc,go_sem,hfn,hname,hb]
   split at hc
   ·simp only[ae]at hc
    obtain⟨cs,hcs,rfl⟩:=hc
    obtain⟨hl,hR⟩:=sG hF hcs
    simp only[ap]at h
    split at h
    ·rename_i r p' st1 hu
     split at h
     ·rename_i hmk
      simp only[aZ,bE]at h
      obtain⟨rfl,rfl⟩:=h
      obtain⟨⟨fn,hfn,hname,hbody⟩,hnp,hC⟩:=Cc hcf hI hfl (vs:=as.toList.map a.eval) (by simp[hl]) hR hu hmk
      obtain⟨bd,hb⟩:=bR.1 hbody
      unfold Oper.wp
      rw[hrun hfn hname hb,Oper.upon_enter]
      refine hC.mono ?_
      rintro e w' ⟨v,G',rfl,hR',hI',hS',hst,hob⟩
      have hob':∀ s,(iy (.callU f cs)=true∧o.dst=some s)∨G'.bx s=G.bx s:=fun s=> .inr (by rw[hob])
      refine hn v w' G' hI' hS' (hF.put hd (fun t=>?_) hR' (ek hnp)) hob'
      have:=hst _ _ (hF.2.1 t) (hF.2.2 t)
      rw[←hu]at this
      exact this
     ·cases h
    ·cases h
   ·simp only[ae]at hc
    obtain⟨cs,hcs,rfl⟩:=hc
    obtain⟨hl,hR⟩:=sG hF hcs
    simp only[ap]at h
    obtain⟨hE,hnp,hC⟩:=oE hcf hI (vs:=as.toList.map a.eval) (by simp[hl]) hR h
    rw[rH hfl]at hE hC
    obtain⟨fn,hfn,hname,hbody⟩:=hE
    obtain⟨bd,hb⟩:=bR.1 hbody
    unfold Oper.wp
    rw[hrun hfn hname hb,Oper.upon_enter]
    refine hC.mono ?_
    rintro e w' ⟨v,G',hret,hR',hI',hS',hst,hob,-⟩
    rw[qG hfl]at hret
    subst hret
    have hob':∀ s,(iy (.call f cs (M f))=true∧o.dst=some s)∨G'.bx s=G.bx s:=fun s=> .inr (by rw[hob])
    refine hn v w' G' hI' hS' (hF.put hd (fun t=>?_) hR' (ek hnp)) hob'
    rw[xd]
    exact⟨(hF.2.1 t).rn hst hob,pn (hF.2.2 t)⟩
  ·cases hc
 ·rename_i t as tys hop
  simp only[ae]at hc
  obtain⟨cs,hcs,rfl⟩:=hc
  obtain⟨hl,hR⟩:=sG hF hcs
  have hRf:R G (fr t) (a.eval (.tmp t)):=hF.2.1 t
  have htf:=hF.2.2 t
  simp only[ap,CX.ev]at h
  generalize hfe:a.eval (.tmp t)=fv at hRf
  split at h
  ·rename_i g cap e
   rw[e]at hRf htf
   split at h
   rotate_left
   ·cases h
   rename_i hgl
   cases hRf with
   |fn _ _ caps hlc hrc=>
   have hl':cs.length=as.size:=by simpa using hl
   have hcap:∀ (j:Nat) (q:PV),cap[j]? =some q→bN q=true:=by
    intro j q hq
    simp only[bN,aU]at htf
    have:=htf q (bw hq)
    simp only[bP]at this
    rcases this with h|h
    ·cases q<;>first|rfl|(simp[fg]at h)
    ·exact ek h
   obtain⟨hE,hnp,hC⟩:=oE hcf hI (vs:=as.toList.map a.eval++caps) (by simp[hl,hlc]) (fun j q v hq hv=>by
    by_cases hj:j<cs.length
    ·rw[bA (by simpa using hj)]at hq
     rw[bA (by simp;omega)]at hv
     exact hR j q v hq hv
    ·rw[bF (by simp;omega)]at hq
     rw[bF (by simp;omega)]at hv
     simp only[bu,cC,hl']at hq hv
     exact⟨hrc _ q v hq hv,hcap _ q hq⟩) h
   rw[rH hgl]at hE hC
   obtain⟨fn,hfn,hname,hbody⟩:=hE
   obtain⟨bd,hb⟩:=bR.1 hbody
   have hargs:as.map a.eval++caps.toArray=(as.toList.map a.eval++caps).toArray:=by
    apply Array.ext';simp
   have hrun:(execOp a.eval o).run P w= .ok (.enter g (as.toList.map a.eval++caps).toArray) w:=by
    rw[←hargs]
    have hfe':a.tmps[t]?.getD undef= .func (.func g) #[] caps.toArray:=by rw[←bo];exact hfe
    simp[execOp,hop,resolve,hfe',Deferred.ofValue,invoke,callFunc,go_sem,hfn,hname,hb]
   unfold Oper.wp
   rw[hrun,Oper.upon_enter]
   refine hC.mono ?_
   rintro e' w' ⟨v,G',hret,hR',hI',hS',hst,hob,-⟩
   rw[qG hgl]at hret
   subst hret
   have hob':∀ s,(iy (.cval (.sl t) cs)=true∧o.dst=some s)∨G'.bx s=G.bx s:=fun s=> .inr (by rw[hob])
   refine hn v w' G' hI' hS' (hF.put hd (fun u=>?_) hR' (ek hnp)) hob'
   rw[ry rfl]
   have:=(hF.2.1 u).rn hst hob
   simp only[cX,oS]at this
   exact⟨this,hF.2.2 u⟩
  ·cases h
 ·simp only[ae]at hc
  obtain⟨c0,hc0,rfl⟩:=hc
  have plain:z8 (!(M 1000003).isEmpty) (zP (!(M 1000002).isEmpty) c0)=c0→o.wp P a w next Q:=by
   intro hs
   rw[hs]at h hn
   obtain⟨⟨y,v,w',G',hrun,hy,hR',hI',hL',hS',hob⟩,ht⟩:=Hy hI hF hc0 h
   have hcc:∀ f as mv,c0≠ .call f as mv:=by
    rintro f as mv rfl
    exact Cb hc0
   have hcc2:∀ f as,c0≠ .callU f as:=by
    rintro f as rfl
    exact Bh hc0
   have hcc3:∀ sz x y,c0≠ .stx sz x y:=by
    rintro sz x y rfl
    exact Ev hc0
   have:=hn v w' G' hI' hS' (hF.put hd (Ej hF hcc hcc2 hcc3 (by rintro e sz b x y rfl;exact Ey hc0) hL' hob st) hR' ht) hob
   unfold Oper.wp
   rw[hrun]
   rcases hy with rfl|⟨rfl,rfl⟩
   ·exact this
   ·exact this
  cases c0 with
  |store sz cx cy=>
   cases hb:(!(M 1000002).isEmpty)with
   |false=>exact plain (by rw[hb];rfl)
   |true=>
    rw[hb]at h hn
    have hap:z8 (!(M 1000003).isEmpty) (zP true (.store sz cx cy))= .stx sz cx cy:=rfl
    rw[hap]at h hn
    obtain⟨t,x,y,hop,hx,hy,hs⟩:=Bg hc0
    obtain⟨rfl,w',G',hrun,hI',hS',hob,hfr⟩:=JF hI hF hop hx hy hs h
    have:=hn undef w' G' hI' hS' (hF.put hd (fun t=>hfr t) .hole rfl) (fun s=> .inr (hob s))
    unfold Oper.wp
    rw[hrun]
    exact this
  |app e sz by' cx cy=>
   cases hb:(!(M 1000003).isEmpty)with
   |false=>exact plain (by rw[hb];rfl)
   |true=>
    rw[hb]at h hn
    have hap:z8 true (zP (!(M 1000002).isEmpty) (.app e sz by' cx cy))= .apc e sz by' cx cy:=rfl
    rw[hap]at h hn
    obtain⟨t,x,y,i,zs,hop,hu,hx,hy,hi,hz,hzl,rfl,rfl⟩:=Ew hc0
    obtain⟨v,w',G',hrun,hR',htp,hI',hS',hob,hfr⟩:=JL hI hF hop hu hx hy hi hz hzl h
    have:=hn v w' G' hI' hS' (hF.put hd (fun t=>hfr t) hR' htp) (fun s=> .inr (hob s))
    unfold Oper.wp
    rw[hrun]
    exact this
  |_=>exact plain rfl
theorem tc(hF:dZ G nt fr a){ops:Array Oper}{g:Option (Nat×Bool)}(hg:ud ops o.guard=some g){b:Bool}(h:dQ fr g=some b):Region.wanted o (yielded ops a.tmps)=b:=by
 unfold Region.wanted
 cases hog:o.guard with
 |none=>
  rw[hog]at hg
  cases hg
  simp only[dQ]at h
  cases h
  rfl
 |some jw=>
  obtain⟨j,want⟩:=jw
  rw[hog]at hg
  simp only[ud]at hg
  split at hg
  ·rename_i s hs
   cases hg
   have hR:=hF.2.1 s
   simp only[dQ]at h
   simp only[yielded,hs,dr]
   split at h
   ·rename_i b' e
    rw[e]at hR
    cases h
    have:a.tmps[s]? =some (.bool b'):=by
     cases hx:a.tmps[s]? with
     |none=>rw[bo,hx]at hR;cases hR
     |some x=>rw[bo,hx]at hR;simp at hR;cases hR;rfl
    rw[this]
    cases want<;>cases b'<;>rfl
   ·rename_i e
    rw[e]at hR
    cases h
    cases hx:a.tmps[s]? with
    |none=>rfl
    |some x=>rw[bo,hx]at hR;simp at hR;cases hR;rfl
   ·cases h
  ·cases hg
theorem yN{M:Nat→List Nat}(hcf:gU P B cf)(hI:bt P B G st w)(hF:dZ G nt fr a){ops:Array Oper}{nk:Nat}{co:bz}(hc:qz P M nt nk ops o=some co){fr':Fr}(h:cG cf co (fr,st)=some (fr',st'))
  {K:Act→World→Prop} {Q:Exit→Act→World→Prop}
  (hn:∀ a' w' G',bt P B G' st' w'→bV G w G' w'→dZ G' nt fr' a'→mC (oA M) a' a→(∀ s,nk≤s∨G'.bx s=G.bx s)→K a' w'):
  if Region.wanted o (yielded ops a.tmps)then o.wp P a w K Q∨(o.asks P a w∧LetsOut Q)else K (a.put o.dst undef) w:=by
 unfold qz at hc
 split at hc
 ·rename_i c g hcc hg
  split at hc
  ·rename_i hchk0
   cases hc
   simp only[aa,bP,gO,bne_iff_ne,dD]at hchk0
   obtain⟨hchk,hkp⟩:=hchk0
   have hkeep:oA M=true→o.dst≠some 0:=fun e=>by
    rcases hkp with h|h
    ·rw[e]at h;cases h
    ·exact h
   have hd:∀ s,o.dst=some s→s<nt:=fun s hs=>by
    rw[hs]at hchk
    simp only[Et,aa,decide_eq_true_eq]at hchk
    exact hchk.1
   have hk:∀ s,iy c=true→o.dst=some s→nk≤s:=fun s hm hs=>by
    rw[hs]at hchk
    simp[Et,hm]at hchk
    exact hchk.2
   simp only[cG]at h
   split at h
   ·rename_i hw
    rw[ai (tc hF hg hw)]
    split at h
    ·rename_i v st1 hrun
     cases h
     refine .inl (JM hcf hI hF hcc hd hrun fun v w' G' hI' hS' hF' hob=>hn _ w' G' hI' hS' hF' (Az _ _ hkeep) fun s=>?_)
     rcases hob s with⟨hm,hs⟩|h
     ·exact .inl (hk s hm hs)
     ·exact .inr h
    ·cases h
   ·rename_i hw
    rw[ad (by rw[tc hF hg hw];simp)]
    cases h
    exact hn _ w G hI (bV.refl G w) (hF.skip hd) (Az _ _ hkeep) fun _=> .inr rfl
   ·cases h
  ·cases hc
 ·cases hc
def lE(P:Program)(M:Nat→List Nat)(nt nk:Nat)(ops:Array Oper):List Oper→Option (List bz)
 | []=>some []
 |o::os=>match qz P M nt nk ops o,lE P M nt nk ops os with
  |some c,some cs=>some (c::cs)
  |_,_=>none
theorem vb{M:Nat→List Nat}(hcf:gU P B cf){ops:Array Oper}{nk:Nat}{Q:Exit→Act→World→Prop}:∀ {os:List Oper} {cs:List bz} {G:Gh} {fr fr':Fr} {st st':St} {w:World} {a:Act},bt P B G st w→dZ G nt fr a→lE P M nt nk ops os=some cs→gD cf cs (fr,st)=some (fr',st')→
  (∀ a' w' G',bt P B G' st' w'→bV G w G' w'→dZ G' nt fr' a'→mC (oA M) a' a→(∀ s,nk≤s∨G'.bx s=G.bx s)→Q .normal a' w')→wpList P ops Q os a w
 | [],cs,G,fr,fr',st,st',w,a,hI,hF,hc,h,hn=>by
  cases hc;cases h
  exact hn a w G hI (bV.refl G w) hF .refl fun _=> .inr rfl
 |o::os,cs,G,fr,fr',st,st',w,a,hI,hF,hc,h,hn=>by
  unfold lE at hc
  split at hc
  ·rename_i c cs' hco hcs
   cases hc
   simp only[gD]at h
   split at h
   ·rename_i y hy
    obtain⟨fr1,st1⟩:=y
    refine yN hcf hI hF hco hy fun a1 w1 G1 hI1 hS1 hF1 hd1 hk1=>?_
    refine vb hcf hI1 hF1 hcs h fun a2 w2 G2 hI2 hS2 hF2 hd2 hk2=>?_
    refine hn a2 w2 G2 hI2 (hS1.trans hS2) hF2 (hd2.trans hd1) fun s=>?_
    rcases hk1 s with h1|h1
    ·exact .inl h1
    ·rcases hk2 s with h2|h2
     ·exact .inl h2
     ·exact .inr (h2.trans h1)
   ·cases h
  ·cases hc
end
end Go.PM
namespace Go.PM
def CX.slots:CX→List Nat
 | .sl n=>[n]
 | .k _=>[]
def n5:Option CX→List Nat
 |some x=>x.slots
 |none=>[]
def dG.slots:dG→List Nat
 | .mv x=>x.slots
 | .pick c a b=>c.slots++a.slots++b.slots
 | .alloc _=>[]
 | .box _ x=>x.slots
 | .build _ ps=>ps.flatMap fun q=>q.2.2.slots
 | .bsl _ _ _ _ ps=>ps.flatMap fun q=>q.2.2.slots
 | .load _ _ a=>a.slots
 | .store _ a x=>a.slots++x.slots
 | .stx _ a x=>a.slots++x.slots
 | .callU _ as=>as.flatMap CX.slots
 | .nck x=>x.slots
 | .bin _ x y=>x.slots++y.slots
 | .isnil _ x=>x.slots
 | .beq _ x y=>x.slots++y.slots
 | .un _ x=>x.slots
 | .toInt _ x=>x.slots
 | .s2s x=>x.slots
 | .ext x _=>x.slots
 | .fad _ x=>x.slots
 | .fld _ _ _ x=>x.slots
 | .iad _ x i=>x.slots++i.slots
 | .sidx x i=>x.slots++i.slots
 | .ssl x lo hi=>x.slots++n5 lo++n5 hi
 | .slc _ x lo hi=>x.slots++n5 lo++n5 hi
 | .mks _ _ _ _ n c=>n.slots++c.slots
 | .mk0 _ _ _ n c=>n.slots++c.slots
 | .slen x=>x.slots
 | .len x=>x.slots
 | .app _ _ _ x y=>x.slots++y.slots
 | .apc _ _ _ x y=>x.slots++y.slots
 | .b2s x=>x.slots
 | .mkfn _ as=>as.flatMap CX.slots
 | .mkmap=>[]
 | .mpset _ m k v=>m.slots++k.slots++v.slots
 | .mpget _ _ _ m k=>m.slots++k.slots
 | .mplen m=>m.slots
 | .call _ as _=>as.flatMap CX.slots
 | .cval f as=>f.slots++as.flatMap CX.slots
theorem bv{x:CX}{fr fr2:Fr}(h:∀ t∈x.slots,fr t=fr2 t):x.ev fr=x.ev fr2:=by
 cases x with
 |sl n=>exact h n (by simp[CX.slots])
 |k p=>rfl
theorem rA{fr fr2:Fr}:∀ {ps:List (Nat×Nat×CX)} {zs:List PV},(∀ t∈ps.flatMap (fun q=>q.2.2.slots),fr t=fr2 t)→jh zs fr ps=jh zs fr2 ps
 | [],zs,_=>rfl
 |(o,s,x)::ps,zs,h=>by
  have h1:x.ev fr=x.ev fr2:=bv fun t ht=>h t (by simp[ht])
  simp only[jh,h1]
  split
  ·split
   ·exact rA fun t ht=>h t (by simp only[aI,ax];exact .inr ht)
   ·rfl
  ·rfl
theorem xB{fr fr2:Fr}{lo hi:Option CX}(h1:∀ t∈n5 lo,fr t=fr2 t)(h2:∀ t∈n5 hi,fr t=fr2 t)(n c:Nat):oj lo hi fr n c=oj lo hi fr2 n c:=by
 cases lo with
 |none=>cases hi with
  |none=>rfl
  |some y=>simp only[oj,bv (x:=y) h2]
 |some x=>cases hi with
  |none=>simp only[oj,bv (x:=x) h1]
  |some y=>simp only[oj,bv (x:=x) h1,bv (x:=y) h2]
theorem kB{fr fr2:Fr}:∀ {as:List CX},(∀ t∈as.flatMap CX.slots,fr t=fr2 t)→as.map (·.ev fr)=as.map (·.ev fr2)
 | [],_=>rfl
 |x::as,h=>by
  simp only[aF]
  rw[bv (x:=x) fun t ht=>h t (by simp[ht]),kB (as:=as) fun t ht=>h t (by simp only[aI,ax];exact .inr ht)]
theorem rt(cf:au){c:dG}{fr fr2:Fr}(h:∀ t∈c.slots,fr t=fr2 t)(st:St)(d:Option Nat):ap cf fr st d c=ap cf fr2 st d c:=by
 cases c with
 |build zs ps=>simp only[ap,rA (ps:=ps) h]
 |bsl e sz zs n ps=>simp only[ap,rA (ps:=ps) h]
 |call f as mv=>simp only[ap,kB (as:=as) h]
 |mkfn f as=>simp only[ap,kB (as:=as) h]
 |callU f as=>simp only[ap,kB (as:=as) h]
 |stx sz x y=>
  simp only[dG.slots,ax]at h
  simp only[ap,bv (x:=x) fun t ht=>h t (.inl ht),bv (x:=y) fun t ht=>h t (.inr ht)]
 |mkmap=>rfl
 |b2s x=>simp only[ap,bv (x:=x) h]
 |mplen x=>simp only[ap,bv (x:=x) h]
 |mpset kk m k v=>
  simp only[dG.slots,ax]at h
  simp only[ap,bv (x:=m) fun t ht=>h t (.inl (.inl ht)),bv (x:=k) fun t ht=>h t (.inl (.inr ht)),bv (x:=v) fun t ht=>h t (.inr ht)]
 |mpget ok z kk m k=>
  simp only[dG.slots,ax]at h
  simp only[ap,bv (x:=m) fun t ht=>h t (.inl ht),bv (x:=k) fun t ht=>h t (.inr ht)]
 |cval f as=>
  simp only[dG.slots,ax]at h
  simp only[ap,bv (x:=f) fun t ht=>h t (.inl ht),kB (as:=as) fun t ht=>h t (.inr ht)]
 |ssl x lo hi=>
  simp only[dG.slots,ax]at h
  simp only[ap,bv (x:=x) fun t ht=>h t (.inl (.inl ht)),xB (lo:=lo) (hi:=hi) (fun t ht=>h t (.inl (.inr ht))) (fun t ht=>h t (.inr ht))]
 |slc sz x lo hi=>
  simp only[dG.slots,ax]at h
  simp only[ap,bv (x:=x) fun t ht=>h t (.inl (.inl ht)),xB (lo:=lo) (hi:=hi) (fun t ht=>h t (.inl (.inr ht))) (fun t ht=>h t (.inr ht))]
 |pick c a b=>
  simp only[dG.slots,ax]at h
  simp only[ap,bv (x:=c) fun t ht=>h t (.inl (.inl ht)),bv (x:=a) fun t ht=>h t (.inl (.inr ht)),bv (x:=b) fun t ht=>h t (.inr ht)]
 |alloc zs=>rfl
 |mv x=>simp only[ap,bv (x:=x) h]
 |box sz x=>simp only[ap,bv (x:=x) h]
 |load sz ag x=>simp only[ap,bv (x:=x) h]
 |nck x=>simp only[ap,bv (x:=x) h]
 |isnil ng x=>simp only[ap,bv (x:=x) h]
 |un op x=>simp only[ap,bv (x:=x) h]
 |toInt k x=>simp only[ap,bv (x:=x) h]
 |s2s x=>simp only[ap,bv (x:=x) h]
 |ext x i=>simp only[ap,bv (x:=x) h]
 |fad n x=>simp only[ap,bv (x:=x) h]
 |fld n sz ag x=>simp only[ap,bv (x:=x) h]
 |slen x=>simp only[ap,bv (x:=x) h]
 |len x=>simp only[ap,bv (x:=x) h]
 |store sz x y=>
  simp only[dG.slots,ax]at h
  simp only[ap,bv (x:=x) fun t ht=>h t (.inl ht),bv (x:=y) fun t ht=>h t (.inr ht)]
 |bin op x y=>
  simp only[dG.slots,ax]at h
  simp only[ap,bv (x:=x) fun t ht=>h t (.inl ht),bv (x:=y) fun t ht=>h t (.inr ht)]
 |beq ng x y=>
  simp only[dG.slots,ax]at h
  simp only[ap,bv (x:=x) fun t ht=>h t (.inl ht),bv (x:=y) fun t ht=>h t (.inr ht)]
 |iad sz x y=>
  simp only[dG.slots,ax]at h
  simp only[ap,bv (x:=x) fun t ht=>h t (.inl ht),bv (x:=y) fun t ht=>h t (.inr ht)]
 |sidx x y=>
  simp only[dG.slots,ax]at h
  simp only[ap,bv (x:=x) fun t ht=>h t (.inl ht),bv (x:=y) fun t ht=>h t (.inr ht)]
 |mks e sz b zs x y=>
  simp only[dG.slots,ax]at h
  simp only[ap,bv (x:=x) fun t ht=>h t (.inl ht),bv (x:=y) fun t ht=>h t (.inr ht)]
 |mk0 e sz b x y=>
  simp only[dG.slots,ax]at h
  simp only[ap,bv (x:=x) fun t ht=>h t (.inl ht),bv (x:=y) fun t ht=>h t (.inr ht)]
 |apc e sz b x y=>
  simp only[dG.slots,ax]at h
  simp only[ap,bv (x:=x) fun t ht=>h t (.inl ht),bv (x:=y) fun t ht=>h t (.inr ht)]
 |app e sz b x y=>
  simp only[dG.slots,ax]at h
  simp only[ap,bv (x:=x) fun t ht=>h t (.inl ht),bv (x:=y) fun t ht=>h t (.inr ht)]
def eff:dG→Bool
 | .app .. =>true
 | .mk0 .. =>true
 | .call .. =>true
 | .cval .. =>true
 |_=>false
def Ab:dG→Bool
 | .store .. =>true
 | .call .. =>true
 | .cval .. =>true
 |_=>false
def kI:PV→List Nat
 | .ptr s _=>[s]
 |_=>[]
def aW(fr:Fr):dG→List Nat
 | .load _ _ a=>kI (a.ev fr)
 | .store _ a _=>kI (a.ev fr)
 | .call _ as _=>(ch (as.map (·.ev fr))).getD (ol (as.map (·.ev fr)))
 | .cval f as=>match f.ev fr with
  | .fn _ cap=>(ch (as.map (·.ev fr)++cap)).getD (ol (as.map (·.ev fr)++cap))
  |_=>[]
 |_=>[]
theorem nE{c:dG}{fr fr2:Fr}(h:∀ t∈c.slots,fr t=fr2 t):aW fr c=aW fr2 c:=by
 cases c with
 |load sz ag x=>simp only[aW,bv (x:=x) h]
 |store sz x y=>
  simp only[dG.slots,ax]at h
  simp only[aW,bv (x:=x) fun t ht=>h t (.inl ht)]
 |call f as mv=>simp only[aW,kB (as:=as) h]
 |cval f as=>
  simp only[dG.slots,ax]at h
  simp only[aW,bv (x:=f) fun t ht=>h t (.inl ht),kB (as:=as) fun t ht=>h t (.inr ht)]
 |_=>rfl
structure jY (st st2:St):Prop where
 nx:st.nx=st2.nx
 cnt:st.cnt=st2.cnt
 fl:st.fl=st2.fl
 maps:st.maps=st2.maps
theorem jY.refl(st:St):jY st st:=⟨rfl,rfl,rfl,rfl⟩
theorem jY.symm{a b:St}(h:jY a b):jY b a:=⟨h.nx.symm,h.cnt.symm,h.fl.symm,h.maps.symm⟩
theorem jY.trans{a b c:St}(h:jY a b)(k:jY b c):jY a c:=⟨h.nx.trans k.nx,h.cnt.trans k.cnt,h.fl.trans k.fl,h.maps.trans k.maps⟩
theorem St.eq_of{a b:St}(h:jY a b)(ho:∀ k,a.objs k=b.objs k):a=b:=by
 obtain⟨h1,h2,h3,h4⟩:=h
 cases a;cases b
 simp only at h1 h2 h3 h4 ho
 subst h1 h2 h3 h4
 congr
 exact funext ho
structure iP (e w:Bool) (ks:List Nat) (run:St→Option (PV×St)):Prop where
 quiet:∀ {st v st1},run st=some (v,st1)→(e=false→jY st1 st)∧(∀ k,k∉ks→st1.objs k=st.objs k)∧(w=false→∀ k,st1.objs k=st.objs k)
 move:∀ {st v st1 st2},run st=some (v,st1)→(e=true→jY st st2)→(∀ k∈ks,st.objs k=st2.objs k)→
  ∃ st3,run st2=some (v,st3)∧(e=true→jY st3 st1)∧(e=false→jY st3 st2)∧(∀ k∈ks,st3.objs k=st1.objs k)∧∀ k,k∉ks→st3.objs k=st2.objs k
theorem iP.pure{ks:List Nat}{r:Option PV}{e w:Bool}:iP e w ks (fun st=>r.map fun v=>(v,st)):=by
 refine⟨fun h=>?_,fun h hC ho=>?_⟩
 ·cases r with
  |none=>cases h
  |some v=>cases h;exact⟨fun _=> .refl _,fun _ _=>rfl,fun _ _=>rfl⟩
 ·cases r with
  |none=>cases h
  |some v=>
   cases h
   exact⟨_,rfl,fun h=>(hC h).symm,fun _=> .refl _,fun k hk=>(ho k hk).symm,fun _ _=>rfl⟩
theorem FK(cf:au)(f:Nat)(as:List PV):iP true true (ol as) (fun st=>jV cf f as st):=by
 have key:∀ {st v st1},jV cf f as st=some (v,st1)→∃ a g s c r ns c',as=[a,.fn g [.ptr s 0]]∧np a=true∧st.objs s=some c∧cf f [aA a,.fn g [.ptr 0 0]] [] [aB c]=some (r,ns,[c'])∧
   v=ren (fun k=>some (st.nx+k)) false r∧st1={st.more ns with objs:=dw st.objs [s] ([c'].map (bB (fun k=>some (st.nx+k)) false)),fl:=if ed r && [c'].all eg then st.fl else st.nx}:=by
  intro st v st1 h
  unfold jV at h
  split at h
  ·rename_i a g s
   split at h
   ·rename_i hna
    split at h
    ·rename_i c hc
     split at h
     ·rename_i r ns c' hcall
      simp only[aZ,bE]at h
      exact⟨a,g,s,c,r,ns,c',rfl,hna,hc,hcall,h.1.symm,h.2.symm⟩
     ·cases h
    ·cases h
   ·cases h
  ·cases h
 refine⟨fun h=>?_,fun{st v st1 st2} h hC ho=>?_⟩
 ·obtain⟨a,g,s,c,r,ns,c',rfl,hna,hc,hcall,rfl,rfl⟩:=key h
  refine⟨by simp,fun k hk=>?_,by simp⟩
  exact gC (ks:=[s]) hk
 ·obtain⟨a,g,s,c,r,ns,c',rfl,hna,hc,hcall,rfl,rfl⟩:=key h
  have hC:=hC rfl
  have hc2:st2.objs s=some c:=by rw[←ho s (by simp[ol])];exact hc
  refine⟨{st2.more ns with objs:=dw st2.objs [s] ([c'].map (bB (fun k=>some (st2.nx+k)) false)),fl:=if ed r && [c'].all eg then st2.fl else st2.nx},?_,fun _=>⟨?_,?_,?_,?_⟩,by simp,?_,?_⟩
  ·simp only[jV,hna,if_true,hc2,hcall,hC.nx]
  ·simp only[St.more_nx,hC.nx]
  ·cases ns<;>simp only[St.more,hC.nx,hC.cnt]
  ·simp only[hC.nx,hC.fl]
  ·simp only[St.more_maps,hC.maps]
  ·intro k hk
   have hk:k=s:=by simpa [ol]using hk
   subst hk
   show dw st2.objs [k] _ k=dw st.objs [k] _ k
   simp only[dw,aF,bK,if_true,hC.nx]
  ·intro k hk
   exact gC (ks:=[s]) hk
theorem AS(cf:au)(f:Nat)(as:List PV):iP true true ((ch as).getD (ol as)) (fun st=>ar cf f as [] st):=by
 cases hk0:ch as with
 |none=>
  have e:(fun st=>ar cf f as [] st)=fun st=>jV cf f as st:=by
   funext st
   unfold ar
   rw[hk0]
  rw[e]
  exact FK cf f as
 |some ks0=>
 rw[←hk0]
 have key:∀ {st v st1},ar cf f as [] st=some (v,st1)→∃ ks cs r ns cs',ch as=some ks∧cE st ks=some cs∧cf f (d9 [] [] 0 0 as) [] (cs.map aB)=some (r,ns,cs')∧cs'.length=cs.length∧
   v=ren (fun k=>some (st.nx+k)) false r∧st1={st.more ns with objs:=dw st.objs ks (cs'.map (bB (fun k=>some (st.nx+k)) false)),fl:=if(ed r && cs'.all eg)||lj f as cs then st.fl else st.nx}:=by
  intro st v st1 h
  unfold ar at h
  split at h
  ·rename_i hn;rw[hk0]at hn;cases hn
  ·rename_i ks hks
   split at h
   ·cases h
   ·rename_i cs hcs
    simp only at h
    split at h
    ·rename_i r ns cs' hcall
     split at h
     ·rename_i hl
      simp only[aZ,bE]at h
      exact⟨ks,cs,r,ns,cs',hks,hcs,hcall,by simpa using hl,h.1.symm,h.2.symm⟩
     ·cases h
    ·cases h
 have KN:∀ {st st2:St} {ks:List Nat},(∀ k∈ks,st.objs k=st2.objs k)→cE st2 ks=cE st ks:=by
  intro st st2 ks
  induction ks with
  |nil=>intro _;rfl
  |cons k ks ih=>
   intro h
   simp only[cE,h k (by simp),ih fun j hj=>h j (by simp[hj])]
 refine⟨fun h=>?_,fun{st v st1 st2} h hC ho=>?_⟩
 ·obtain⟨ks,cs,r,ns,cs',hks,hcs,hcall,hl,rfl,rfl⟩:=key h
  refine⟨by simp,fun k hk=>?_,by simp⟩
  rw[hks]at hk
  exact gC hk
 ·obtain⟨ks,cs,r,ns,cs',hks,hcs,hcall,hl,rfl,rfl⟩:=key h
  have hC:=hC rfl
  rw[hks]at ho
  have hcs2:cE st2 ks=cE st ks:=KN ho
  refine⟨{st2.more ns with objs:=dw st2.objs ks (cs'.map (bB (fun k=>some (st2.nx+k)) false)),fl:=if(ed r && cs'.all eg)||lj f as cs then st2.fl else st2.nx},?_,fun _=>⟨?_,?_,?_,?_⟩,by simp,?_,?_⟩
  ·simp only[ar,hks,hcs2,hcs,hcall,hl,if_true,hC.nx]
  ·simp only[St.more_nx,hC.nx]
  ·cases ns<;>simp only[St.more,hC.nx,hC.cnt]
  ·simp only[hC.nx,hC.fl]
  ·simp only[St.more_maps,hC.maps]
  ·intro k hk
   rw[hks]at hk
   obtain⟨i,hi,e⟩:=cP (show k∈ks from hk)
   have hi':ks[i]? =some k:=by rw[←e];exact az hi
   have hlen:ks.length=(cs'.map (bB (fun k=>some (st2.nx+k)) false)).length:=by simp only[bu];rw[hl];exact(kL hcs).1
   show dw st2.objs ks _ k=dw st.objs ks _ k
   rw[iF (i6 hks) hi' hlen,iF (i6 hks) hi' (by simpa using hlen),hC.nx]
  ·intro k hk
   rw[hks]at hk
   exact gC hk
theorem H8{st st2:St}(h:jY st st2)(t:ay)(n:Nat):jY (jT st2 n t) (jT st n t):=by
 obtain⟨h1,h2,h3,h4⟩:=h
 cases t with
 |own k e=>exact⟨h1.symm,by simp[jT,St.count,h2],h3.symm,h4.symm⟩
 |_=>exact⟨by simp[jT,St.more,h1],by simp[jT,St.more,h1,h2],h3.symm,h4.symm⟩
def qL(c:dG):Bool:=iy c||(match c with
 | .call _ _ (_::_)=>true
 | .callU .. =>true
 | .stx .. =>true
 | .apc .. =>true
 | .mpset .. =>true
 | .mpget .. =>true
 | .mplen .. =>true
 |_=>false)
theorem K2(cf:au)(fr:Fr)(d:Option Nat)(c:dG)(hm:qL c=false):iP (eff c) (Ab c) (aW fr c) (fun st=>ap cf fr st d c):=by
 cases c with
 |alloc zs=>cases hm
 |box sz x=>cases hm
 |mks e sz b zs n c=>cases hm
 |mkmap=>cases hm
 |mpset kk m k v=>cases hm
 |mpget ok z kk m k=>cases hm
 |mplen m=>cases hm
 |stx sz x y=>cases hm
 |apc e sz b x y=>cases hm
 |callU f as=>cases hm
 |call f as mv=>
  cases mv with
  |nil=>exact AS cf f (as.map (·.ev fr))
  |cons m mv=>cases hm
 |b2s x=>
  simp only[ap]
  split
  ·split
   ·split<;>first|exact iP.pure (r:=some _)|exact⟨fun h=>(by cases h),fun h=>(by cases h)⟩
   ·exact⟨fun h=>(by cases h),fun h=>(by cases h)⟩
  ·exact⟨fun h=>(by cases h),fun h=>(by cases h)⟩
 |mkfn f as=>
  simp only[ap]
  split<;>first|exact iP.pure (r:=some _)|exact⟨fun h=>(by cases h),fun h=>(by cases h)⟩
 |cval f as=>
  simp only[ap,aW]
  cases f.ev fr with
  |fn g cap=>
   by_cases hg:g<1000000
   ·simp only[ai hg]
    exact AS cf g (as.map (·.ev fr)++cap)
   ·simp only[ad hg]
    exact⟨fun h=>(by cases h),fun h=>(by cases h)⟩
  |_=>exact⟨fun h=>(by cases h),fun h=>(by cases h)⟩
 |app e sz b x y=>
  have key:∀ {st v st1},ap cf fr st d (.app e sz b x y)=some (v,st1)→∃ n cs t m ds ty,x.ev fr= .list n cs t∧y.ev fr= .list m ds ty∧
    (gu st n t=true∧cs.length=n*sz∧ds.length=m*sz∧(n+m) *b≤dh∧n+m≤dh∧0<sz)∧FC e t∧v= .list (n+m) (cs++ds) (.own (fY st t) e)∧st1=jT st (n+m) t∧(∀ e',t= .full e'→0<m∨n=0):=by
   intro st v st1 h
   simp only[ap]at h
   split at h
   ·rename_i n cs t m ds ty e1 e2
    split at h
    ·rename_i hb
     refine⟨n,cs,t,m,ds,ty,e1,e2,hb,?_⟩
     cases t with
     |no=>simp[gu]at hb
     |sub k=>simp[gu]at hb
     |el k e n=>simp[gu]at hb
     |nil=>cases h;exact⟨trivial,rfl,rfl,fun _ h=>by cases h⟩
     |full e'=>
      simp only at h
      split at h
      ·rename_i he;cases h;exact⟨he.1,rfl,rfl,fun _ _=>he.2⟩
      ·cases h
     |own k e'=>
      simp only at h
      split at h
      ·rename_i he;cases h;exact⟨he,rfl,rfl,fun _ h=>by cases h⟩
      ·cases h
    ·cases h
   ·cases h
  refine⟨fun{st v st1} h=>?_,fun{st v st1 st2} h hC ho=>?_⟩
  ·obtain⟨n,cs,t,m,ds,ty,e1,e2,hb,he,rfl,rfl,hfu⟩:=key h
   refine⟨by simp[eff],fun k _=>?_,fun _ k=>?_⟩<;>cases t<;>rfl
  ·obtain⟨n,cs,t,m,ds,ty,e1,e2,hb,he,rfl,rfl,hfu⟩:=key h
   have hC:=hC rfl
   have hcan:gu st2 n t=gu st n t:=by cases t<;>simp[gu,hC.nx,hC.cnt]
   refine⟨jT st2 (n+m) t,?_,fun _=>?_,by simp[eff],fun k hk=>by simp[aW]at hk,fun k _=>by cases t<;>rfl⟩
   ·simp only[ap,e1,e2,hcan,hb,lL,if_true]
    cases t with
    |full e'=>simp only[ai (show e'=e∧(0<m∨n=0)from⟨he,hfu e' rfl⟩)];simp[fY,jT,hC.nx]
    |_=>simp[fY,jT,hC.nx]<;>first|(simp[gu]at hb;done)|exact he
   ·exact H8 hC t (n+m)
 |mk0 e sz b x y=>
  have key:∀ {st v st1},ap cf fr st d (.mk0 e sz b x y)=some (v,st1)→v= .list 0 [] (.own st.nx e)∧st1=st.more [0]∧∀ st2,ap cf fr st2 d (.mk0 e sz b x y)=some (.list 0 [] (.own st2.nx e),st2.more [0]):=by
   intro st v st1 h
   simp only[ap]at h
   split at h
   ·rename_i nb e1 e2
    split at h
    ·rename_i hb
     cases h
     exact⟨rfl,rfl,fun st2=>by simp only[ap,e1,e2,hb,lL,if_true]⟩
    ·cases h
   ·cases h
  refine⟨fun{st v st1} h=>?_,fun{st v st1 st2} h hC ho=>?_⟩
  ·obtain⟨rfl,rfl,_⟩:=key h
   exact⟨by simp[eff],fun _ _=>rfl,fun _ _=>rfl⟩
  ·obtain⟨rfl,rfl,hk⟩:=key h
   have hC:=hC rfl
   refine⟨st2.more [0],?_,fun _=>⟨by simp[St.more,hC.nx],by simp[St.more,hC.nx,hC.cnt],by simp[St.more,hC.fl],by simp[St.more,hC.maps]⟩,by simp[eff],fun k hk=>by simp[aW]at hk,fun _ _=>rfl⟩
   rw[hC.nx]
   exact hk st2
 |load sz ag x=>
  simp only[ap,aW]
  cases hx:x.ev fr with
  |ptr s al=>
   simp only[kI]
   refine⟨fun{st v st1} h=>?_,fun{st v st1 st2} h hC ho=>?_⟩
   ·split at h
    ·simp only[ae]at h
     obtain⟨q,hq,hqe⟩:=h
     cases hqe
     exact⟨fun _=> .refl _,fun _ _=>rfl,fun _ _=>rfl⟩
    ·cases h
   ·split at h
    ·rename_i cs hcs
     simp only[ae]at h
     obtain⟨q,hq,hqe⟩:=h
     cases hqe
     have:=ho s (by simp)
     refine⟨st2,by simp only[←this,hcs,hq,cp],by simp[eff],fun _=> .refl _,fun k hk=>(ho k hk).symm,fun _ _=>rfl⟩
    ·cases h
  |iptr cs al t=>exact iP.pure
  |_=>exact⟨fun h=>(by cases h),fun h=>(by cases h)⟩
 |store sz x y=>
  have key:∀ {st v st1},ap cf fr st d (.store sz x y)=some (v,st1)→∃ s al vs cs,x.ev fr= .ptr s al∧cellsOf (y.ev fr)=some vs∧st.objs s=some cs∧(vs.length=sz∧al+sz≤cs.length)∧v= .hole∧st1={st with objs:=fun k=>if k=s then some (putCells cs al vs)else st.objs k}:=by
   intro st v st1 h
   simp only[ap]at h
   split at h
   ·rename_i s al vs e1 e2
    split at h
    ·rename_i cs hcs
     split at h
     ·rename_i hb
      cases h
      exact⟨s,al,vs,cs,e1,e2,hcs,hb,rfl,rfl⟩
     ·cases h
    ·cases h
   ·cases h
  refine⟨fun{st v st1} h=>?_,fun{st v st1 st2} h hC ho=>?_⟩
  ·obtain⟨s,al,vs,cs,e1,e2,hcs,hb,rfl,rfl⟩:=key h
   refine⟨fun _=>⟨rfl,rfl,rfl,rfl⟩,fun k hk=>?_,by simp[Ab]⟩
   simp only[aW,e1,kI,dj]at hk
   simp[hk]
  ·obtain⟨s,al,vs,cs,e1,e2,hcs,hb,rfl,rfl⟩:=key h
   have hs:=ho s (by simp[aW,e1,kI])
   refine⟨{st2 with objs:=fun k=>if k=s then some (putCells cs al vs)else st2.objs k},?_,by simp[eff],fun _=>⟨rfl,rfl,rfl,rfl⟩,fun k hk=>?_,fun k hk=>?_⟩
   ·simp only[ap,e1,e2,←hs,hcs,hb,lL,if_true]
   ·simp only[aW,e1,kI,dj]at hk
    simp[hk]
   ·simp only[aW,e1,kI,dj]at hk
    simp[hk]
 |mv x=>exact iP.pure (r:=some (x.ev fr))
 |pick c a b=>
  simp only[ap]
  split
  ·exact iP.pure (r:=some _)
  ·exact iP.pure (r:=some _)
  ·exact⟨fun h=>(by cases h),fun h=>(by cases h)⟩
 |build zs ps=>
  simp only[ap]
  split
  ·exact iP.pure (r:=some _)
  ·exact⟨fun h=>(by cases h),fun h=>(by cases h)⟩
 |bsl e sz zs n ps=>
  simp only[ap]
  split
  ·split
   ·exact iP.pure (r:=some _)
   ·exact⟨fun h=>(by cases h),fun h=>(by cases h)⟩
  ·exact⟨fun h=>(by cases h),fun h=>(by cases h)⟩
 |nck x=>
  simp only[ap]
  split<;>first|exact iP.pure (r:=some _)|exact⟨fun h=>(by cases h),fun h=>(by cases h)⟩
 |bin op x y=>exact iP.pure
 |isnil neg x=>
  simp only[ap]
  split<;>first|exact iP.pure (r:=some _)|exact⟨fun h=>(by cases h),fun h=>(by cases h)⟩
 |beq neg x y=>
  simp only[ap]
  split<;>first|exact iP.pure (r:=some _)|exact⟨fun h=>(by cases h),fun h=>(by cases h)⟩
 |un op x=>exact iP.pure
 |toInt k x=>
  simp only[ap]
  split<;>first|exact iP.pure (r:=some _)|exact⟨fun h=>(by cases h),fun h=>(by cases h)⟩
 |s2s x=>
  simp only[ap]
  split<;>first|exact iP.pure (r:=some _)|exact⟨fun h=>(by cases h),fun h=>(by cases h)⟩
 |ext x i=>
  simp only[ap]
  split<;>first|exact iP.pure|exact⟨fun h=>(by cases h),fun h=>(by cases h)⟩
 |fad n x=>
  simp only[ap]
  split<;>first|exact iP.pure (r:=some _)|exact⟨fun h=>(by cases h),fun h=>(by cases h)⟩
 |fld n sz ag x=>
  simp only[ap]
  split<;>first|exact iP.pure|exact⟨fun h=>(by cases h),fun h=>(by cases h)⟩
 |iad sz x i=>
  simp only[ap]
  split
  ·split<;>first|exact iP.pure (r:=some _)|exact⟨fun h=>(by cases h),fun h=>(by cases h)⟩
  ·split<;>first|exact iP.pure (r:=some _)|exact⟨fun h=>(by cases h),fun h=>(by cases h)⟩
  ·exact⟨fun h=>(by cases h),fun h=>(by cases h)⟩
 |sidx x i=>
  simp only[ap]
  split
  ·split<;>first|exact iP.pure (r:=some _)|exact⟨fun h=>(by cases h),fun h=>(by cases h)⟩
  ·exact⟨fun h=>(by cases h),fun h=>(by cases h)⟩
 |ssl x lo hi=>
  simp only[ap]
  split
  ·split<;>first|exact iP.pure (r:=some _)|exact⟨fun h=>(by cases h),fun h=>(by cases h)⟩
  ·exact⟨fun h=>(by cases h),fun h=>(by cases h)⟩
 |slc sz x lo hi=>
  simp only[ap]
  split
  ·split
   ·split<;>first|exact iP.pure (r:=some _)|exact⟨fun h=>(by cases h),fun h=>(by cases h)⟩
   ·exact⟨fun h=>(by cases h),fun h=>(by cases h)⟩
  ·exact⟨fun h=>(by cases h),fun h=>(by cases h)⟩
 |slen x=>
  simp only[ap]
  split<;>first|exact iP.pure (r:=some _)|exact⟨fun h=>(by cases h),fun h=>(by cases h)⟩
 |len x=>
  simp only[ap]
  split<;>first|exact iP.pure (r:=some _)|exact⟨fun h=>(by cases h),fun h=>(by cases h)⟩
def bz.reads(o:bz):List Nat:=o.op.slots++(match o.g with|some (s,_)=>[s]|none=>[])
def An:dG→Bool
 | .load .. =>true
 | .store .. =>true
 | .call .. =>true
 | .cval .. =>true
 |_=>false
def kE(o p:bz):Bool:=
 (match o.d with|some d=>!(p.reads).contains d && p.d !=some d|none=>true) && (match p.d with|some d=>!(o.reads).contains d|none=>true)
def Af(o p:bz):Bool:=!qL o.op && !qL p.op && !(eff o.op && eff p.op) && kE o p
def AY:dG→Bool
 | .mv (.sl _)=>true
 |_=>false
def tT:dG→Bool
 | .call _ _ (_::_)=>true
 | .apc .. =>true
 |_=>false
def zQ(o p:bz):Bool:=Af o p||(AY o.op && tT p.op && kE o p)||(tT o.op && AY p.op && kE o p)
def uC(o p:bz):Bool:=(Ab o.op && An p.op)||(Ab p.op && An o.op)
theorem vm{fr:Fr}{c:dG}(h:An c=false):aW fr c=[]:=by
 cases c<;>first|rfl|cases h
def act(cf:au)(fr:Fr)(o:bz)(st:St):Option (PV×St):=match dQ fr o.g with
 |some true=>ap cf fr st o.d o.op
 |some false=>some (.hole,st)
 |none=>none
theorem B3{cf:au}{c:dG}(h:qL c=false)(d:Option Nat)(st:St)(fr:Fr):cn cf c d st fr=fr:=by
 cases c with
 |call f as mv=>cases mv with
  |nil=>rfl
  |cons m mv=>simp[qL]at h
 |_=>cases d<;>first|rfl|(simp[qL,iy]at h)
theorem ox(cf:au){o:bz}(hm:qL o.op=false)(fr:Fr)(st:St):cG cf o (fr,st)=(act cf fr o st).map fun q=>(put fr o.d q.1,q.2):=by
 unfold cG act
 have hk:cn cf o.op o.d st fr=fr:=B3 hm _ _ _
 cases hw:dQ fr o.g with
 |none=>simp only[];rfl
 |some b=>cases b with
  |false=>simp only[];rfl
  |true=>
   simp only[]
   cases hr:ap cf fr st o.d o.op with
   |none=>rfl
   |some q=>simp[hk]
theorem CM(cf:au)(fr:Fr){o:bz}(hm:qL o.op=false):iP (eff o.op) (Ab o.op) (aW fr o.op) (act cf fr o):=by
 have h:=K2 cf fr o.d o.op hm
 cases hw:dQ fr o.g with
 |none=>
  have:act cf fr o=fun _=>none:=by funext st;simp only[act,hw]
  rw[this]
  exact⟨fun h=>(by cases h),fun h=>(by cases h)⟩
 |some b=>cases b with
  |false=>
   have:act cf fr o=fun st=>(some PV.hole).map fun v=>(v,st):=by funext st;simp only[act,hw,cp]
   rw[this]
   exact iP.pure
  |true=>
   have:act cf fr o=fun st=>ap cf fr st o.d o.op:=by funext st;simp only[act,hw]
   rw[this]
   exact h
theorem zC(cf:au){o:bz}{fr fr2:Fr}(h:∀ t∈o.reads,fr t=fr2 t)(st:St):act cf fr o st=act cf fr2 o st:=by
 have h1:∀ t∈o.op.slots,fr t=fr2 t:=fun t ht=>h t (by simp[bz.reads,ht])
 have h2:dQ fr o.g=dQ fr2 o.g:=by
  cases hg:o.g with
  |none=>rfl
  |some q=>
   obtain⟨s,b⟩:=q
   have:fr s=fr2 s:=h s (by simp[bz.reads,hg])
   simp only[dQ,this]
 simp only[act,h2,rt cf h1]
theorem eU{fr:Fr}{d:Option Nat}{v:PV}{l:List Nat}(h:∀ s,d=some s→s∉l):∀ t∈l,put fr d v t=fr t:=by
 intro t ht
 cases d with
 |none=>rfl
 |some s=>
  have hne:t≠s:=by rintro rfl;exact h t rfl ht
  simp[put,uW,hne]
theorem mG{fr:Fr}{d e:Option Nat}{u v:PV}(h:∀ s,d=some s→e≠some s):put (put fr d u) e v=put (put fr e v) d u:=by
 cases d with
 |none=>rfl
 |some s=>
  cases e with
  |none=>rfl
  |some t=>
   have hne:s≠t:=by rintro rfl;exact h s rfl rfl
   funext x
   simp only[put,uW]
   by_cases h1:x=t<;>by_cases h2:x=s<;>simp[h1,h2]
   ·exact absurd (h2.symm.trans h1) hne
   ·intro hc;exact absurd hc.symm hne
   ·intro hc;exact absurd hc hne
theorem nv{o p:bz}(h:kE o p=true):(∀ s,o.d=some s→s∉p.reads)∧(∀ s,o.d=some s→p.d≠some s)∧(∀ s,p.d=some s→s∉o.reads):=by
 refine⟨fun s hs=>?_,fun s hs=>?_,fun s hs=>?_⟩<;>simp[kE,hs]at h
 ·exact h.1.1
 ·exact h.1.2
 ·exact h.2
theorem L4(cf:au){o p:bz}(hs:Af o p=true){fr fr1 fr2:Fr}{st st1 st2:St}(hk:uC o p=true→∀ k∈aW fr o.op,k∉aW fr1 p.op)
  (h1:cG cf o (fr,st)=some (fr1,st1)) (h2:cG cf p (fr1,st1)=some (fr2,st2)):
  ∃ fr' st',cG cf p (fr,st)=some (fr',st')∧cG cf o (fr',st')=some (fr2,st2)∧aW fr' o.op=aW fr o.op∧aW fr p.op=aW fr1 p.op:=by
 simp only[Af,aa,gO]at hs
 obtain⟨⟨⟨hmo,hmp⟩,heff⟩,hap⟩:=hs
 obtain⟨a1,a2,a3⟩:=nv hap
 rw[ox cf hmo]at h1
 rw[ox cf hmp]at h2
 simp only[ae]at h1 h2
 obtain⟨⟨v,s1⟩,ho,e1⟩:=h1
 obtain⟨⟨u,s2⟩,hp,e2⟩:=h2
 simp only[bE]at e1 e2
 obtain⟨rfl,rfl⟩:=e1
 obtain⟨rfl,rfl⟩:=e2
 have hsub:∀ {q:bz} {t:Nat},t∈q.op.slots→t∈q.reads:=fun h=>by simp[bz.reads,h]
 have kp:aW (put fr o.d v) p.op=aW fr p.op:=nE fun t ht=>eU a1 t (hsub ht)
 have ko:aW (put fr p.d u) o.op=aW fr o.op:=nE fun t ht=>eU a3 t (hsub ht)
 rw[kp]at hk
 rw[zC cf (eU a1)]at hp
 have lo:=CM cf fr hmo
 have lp:=CM cf fr hmp
 obtain⟨q1,q2,q3⟩:=lo.quiet ho
 obtain⟨r1,r2,r3⟩:=lp.quiet hp
 have both:∀ k,k∈aW fr o.op→k∈aW fr p.op→Ab o.op=false∧Ab p.op=false:=by
  intro k h1 h2
  have hro:An o.op=true:=by
   cases h:An o.op with
   |true=>rfl
   |false=>rw[vm h]at h1;cases h1
  have hrp:An p.op=true:=by
   cases h:An p.op with
   |true=>rfl
   |false=>rw[vm h]at h2;cases h2
  cases hkd:uC o p with
  |true=>exact absurd h2 (hk hkd k h1)
  |false=>
   simp only[uC,hro,hrp,cr,iD]at hkd
   exact hkd
 have ef:eff o.op=true→eff p.op=false:=fun h=>by
  cases hp:eff p.op with
  |false=>rfl
  |true=>rw[h,hp]at heff;cases heff
 obtain⟨s3,hp',b1,b2,b3,b4⟩:=lp.move (st2:=st) hp (fun h=>q1 (by
  cases ho:eff o.op with
  |false=>rfl
  |true=>rw[ef ho]at h;cases h)) (fun k hk'=>by
   by_cases hko:k∈aW fr o.op
   ·exact q3 (both k hko hk').1 k
   ·exact q2 k hko)
 obtain⟨s4,ho',c1,c2,c3,c4⟩:=lo.move (st2:=s3) ho (fun h=>(b2 (ef h)).symm) (fun k hk'=>by
  by_cases hkp:k∈aW fr p.op
  ·obtain⟨w1,w2⟩:=both k hk' hkp
   rw[b3 k hkp,r3 w2 k,q3 w1 k]
  ·exact(b4 k hkp).symm)
 have hfin:s4=s2:=by
  refine St.eq_of ?_ fun k=>?_
  ·cases heo:eff o.op with
   |true=>exact(c1 heo).trans (r1 (ef heo)).symm
   |false=>
    cases hep:eff p.op with
    |true=>exact(c2 heo).trans (b1 hep)
    |false=>exact(c2 heo).trans ((b2 hep).trans ((q1 heo).symm.trans (r1 hep).symm))
  ·by_cases hko:k∈aW fr o.op
   ·rw[c3 k hko]
    by_cases hkp:k∈aW fr p.op
    ·rw[r3 (both k hko hkp).2 k]
    ·rw[r2 k hkp]
   ·rw[c4 k hko]
    by_cases hkp:k∈aW fr p.op
    ·rw[b3 k hkp]
    ·rw[b4 k hkp,r2 k hkp,q2 k hko]
 refine⟨put fr p.d u,s3,?_,?_,ko,kp.symm⟩
 ·rw[ox cf hmp,hp'];rfl
 ·rw[ox cf hmo,zC cf (eU a3),ho',hfin]
  simp only[cp]
  rw[mG fun s hs=>a2 s hs]
theorem wy{fr:Fr}{J:List Nat}(g:Option (Nat×Bool)){b:Bool}(h:dQ fr g=some b):dQ (fun t=>bJ J (fr t)) g=some b:=by
 cases g with
 |none=>exact h
 |some q=>
  obtain⟨s,c⟩:=q
  simp only[dQ]at h ⊢
  split at h
  ·rename_i b' e;rw[e];exact h
  ·rename_i e;rw[e];exact h
  ·cases h
theorem k7{fr fr2:Fr}{o:bz}(h:∀ t∈o.reads,fr t=fr2 t):dQ fr o.g=dQ fr2 o.g:=by
 cases hg:o.g with
 |none=>rfl
 |some q=>
  obtain⟨s,b⟩:=q
  have:fr s=fr2 s:=h s (by simp[bz.reads,hg])
  simp only[dQ,this]
theorem vI{fr:Fr}{J:List Nat}{d:Option Nat}{v:PV}:(fun t=>bJ J (put fr d v t))=put (fun t=>bJ J (fr t)) d (bJ J v):=by
 funext t
 cases d with
 |none=>rfl
 |some s=>
  simp only[put,uW]
  split<;>rfl
theorem iX(cf:au){p:bz}{J:Fr→St→List Nat}(hJ:∀ d st fr,cn cf p.op d st fr=fun t=>bJ (J fr st) (fr t))(fr:Fr)(st:St):
  cG cf p (fr,st)=match dQ fr p.g with
   |some true=>(ap cf fr st p.d p.op).map fun q=>(put (fun t=>bJ (J fr st) (fr t)) p.d q.1,q.2)
   |some false=>some (put fr p.d .hole,st)
   |none=>none:=by
 unfold cG
 cases hw:dQ fr p.g with
 |none=>rfl
 |some b=>cases b with
  |false=>rfl
  |true=>
   simp only
   cases ap cf fr st p.d p.op with
   |none=>rfl
   |some q=>simp only[hJ,cp]
theorem js(cf:au){o:bz}{x:CX}(ho:o.op= .mv x)(fr:Fr)(st:St):
  cG cf o (fr,st)=match dQ fr o.g with
   |some true=>some (put fr o.d (x.ev fr),st)
   |some false=>some (put fr o.d .hole,st)
   |none=>none:=by
 unfold cG
 rw[ho]
 cases dQ fr o.g with
 |none=>rfl
 |some b=>cases b with
  |false=>rfl
  |true=>simp only[ap,ry (cf:=cf) (c:= .mv x) rfl]
theorem CR{c:dG}(h:AY c=true):∃ n,c= .mv (.sl n):=by
 cases c with
 |mv x=>cases x with
  |sl n=>exact⟨n,rfl⟩
  |k p=>cases h
 |_=>cases h
theorem yX(cf:au){c:dG}(h:tT c=true):∃ J:Fr→St→List Nat,(∀ d st fr,cn cf c d st fr=fun t=>bJ (J fr st) (fr t))∧∀ fr fr2 st,(∀ t∈c.slots,fr t=fr2 t)→J fr st=J fr2 st:=by
 cases c with
 |call f as mv=>exact⟨fun fr st=>cX (as.map (·.ev fr)) mv st,fun d st fr=>xd f as mv d st fr,fun fr fr2 st h=>by simp only[kB (as:=as) h]⟩
 |apc e sz b x y=>
  refine⟨fun fr st=>nJ (x.ev fr) (y.ev fr) st,fun d st fr=>rfl,fun fr fr2 st h=>?_⟩
  simp only[dG.slots,ax]at h
  simp only[bv (x:=x) fun t ht=>h t (.inl ht),bv (x:=y) fun t ht=>h t (.inr ht)]
 |_=>cases h
theorem L3(cf:au){o p:bz}(hm:AY o.op=true)(ht:tT p.op=true)(hap:kE o p=true){fr fr1 fr2:Fr}{st st1 st2:St}
  (h1:cG cf o (fr,st)=some (fr1,st1)) (h2:cG cf p (fr1,st1)=some (fr2,st2)):
  ∃ fr' st',cG cf p (fr,st)=some (fr',st')∧cG cf o (fr',st')=some (fr2,st2)∧aW fr' o.op=aW fr o.op∧aW fr p.op=aW fr1 p.op:=by
 obtain⟨n,hn⟩:=CR hm
 obtain⟨J,hJ,hJc⟩:=yX cf ht
 obtain⟨a1,a2,a3⟩:=nv hap
 have hnr:n∈o.reads:=by simp[bz.reads,hn,dG.slots,CX.slots]
 have hsl:∀ t∈p.op.slots,t∈p.reads:=fun t h=>by simp[bz.reads,h]
 have hobt:∃ v,fr1=put fr o.d v∧st1=st∧((dQ fr o.g=some true∧v=fr n)∨(dQ fr o.g=some false∧v= .hole)):=by
  rw[js cf hn]at h1
  split at h1
  ·rename_i hw;cases h1;exact⟨_,rfl,rfl,.inl ⟨hw,rfl⟩⟩
  ·rename_i hw;cases h1;exact⟨_,rfl,rfl,.inr ⟨hw,rfl⟩⟩
  ·cases h1
 obtain⟨v,rfl,rfl,hv⟩:=hobt
 have hsame:∀ t∈p.reads,put fr o.d v t=fr t:=eU a1
 have hk1:aW (put fr o.d v) p.op=aW fr p.op:=nE fun t ht=>hsame t (hsl t ht)
 have hw:dQ (put fr o.d v) p.g=dQ fr p.g:=k7 hsame
 have has:∀ st,J (put fr o.d v) st=J fr st:=fun st=>hJc _ _ st fun t ht=>hsame t (hsl t ht)
 have hru:∀ st d,ap cf (put fr o.d v) st d p.op=ap cf fr st d p.op:=fun st d=>rt (cf:=cf) (st:=st) (d:=d) fun t ht=>hsame t (hsl t ht)
 rw[iX cf hJ,hw,has,hru]at h2
 rw[iX cf hJ]
 have hko:∀ g:Fr,aW g o.op=aW fr o.op:=fun g=>by rw[hn];rfl
 split at h2
 ·rename_i hwp
  try rw[hwp]
  cases hc:ap cf fr st1 p.d p.op with
  |none=>rw[hc]at h2;cases h2
  |some q=>
   rw[hc]at h2
   cases h2
   refine⟨_,_,rfl,?_,hko _,hk1.symm⟩
   rw[js cf hn]
   have hd:∀ s,p.d=some s→s∉o.reads:=a3
   have hw':dQ (put (fun t=>bJ (J fr st1) (fr t)) p.d q.1) o.g=dQ (fun t=>bJ (J fr st1) (fr t)) o.g:=k7 (eU hd)
   rw[hw',vI,mG a2]
   rcases hv with⟨hwo,rfl⟩|⟨hwo,rfl⟩
   ·rw[wy o.g hwo]
    have:CX.ev (put (fun t=>bJ (J fr st1) (fr t)) p.d q.1) (.sl n)=bJ (J fr st1) (fr n):=eU hd n hnr
    simp only[this]
   ·rw[wy o.g hwo]
    rfl
 ·rename_i hwp
  try rw[hwp]
  cases h2
  refine⟨_,_,rfl,?_,hko _,hk1.symm⟩
  rw[js cf hn]
  have hw':dQ (put fr p.d .hole) o.g=dQ fr o.g:=k7 (eU a3)
  rw[hw',mG a2]
  rcases hv with⟨hwo,rfl⟩|⟨hwo,rfl⟩
  ·rw[hwo]
   have:CX.ev (put fr p.d .hole) (.sl n)=fr n:=eU a3 n hnr
   simp only[this]
  ·rw[hwo]
 ·cases h2
theorem L0(cf:au){o p:bz}(ht:tT o.op=true)(hm:AY p.op=true)(hap:kE o p=true){fr fr1 fr2:Fr}{st st1 st2:St}
  (h1:cG cf o (fr,st)=some (fr1,st1)) (h2:cG cf p (fr1,st1)=some (fr2,st2)):
  ∃ fr' st',cG cf p (fr,st)=some (fr',st')∧cG cf o (fr',st')=some (fr2,st2)∧aW fr' o.op=aW fr o.op∧aW fr p.op=aW fr1 p.op:=by
 obtain⟨n,hn⟩:=CR hm
 obtain⟨J,hJ,hJc⟩:=yX cf ht
 obtain⟨a1,a2,a3⟩:=nv hap
 have hnr:n∈p.reads:=by simp[bz.reads,hn,dG.slots,CX.slots]
 have hsl:∀ t∈o.op.slots,t∈o.reads:=fun t h=>by simp[bz.reads,h]
 have hkp:∀ g:Fr,aW fr p.op=aW g p.op:=fun g=>by rw[hn];rfl
 have hko:∀ v,aW (put fr p.d v) o.op=aW fr o.op:=fun v=>nE fun t ht=>eU a3 t (hsl t ht)
 have hwo:∀ v,dQ (put fr p.d v) o.g=dQ fr o.g:=fun v=>k7 (eU a3)
 have has:∀ v st,J (put fr p.d v) st=J fr st:=fun v st=>hJc _ _ st fun t ht=>eU a3 t (hsl t ht)
 have hru:∀ v st d,ap cf (put fr p.d v) st d o.op=ap cf fr st d o.op:=fun v st d=>rt (cf:=cf) (st:=st) (d:=d) fun t ht=>eU a3 t (hsl t ht)
 rw[iX cf hJ]at h1
 rw[js cf hn]at h2
 split at h1
 ·rename_i hw
  cases hc:ap cf fr st o.d o.op with
  |none=>rw[hc]at h1;cases h1
  |some q=>
   rw[hc]at h1
   cases h1
   have hw':dQ (put (fun t=>bJ (J fr st) (fr t)) o.d q.1) p.g=dQ (fun t=>bJ (J fr st) (fr t)) p.g:=k7 (eU a1)
   have hval:CX.ev (put (fun t=>bJ (J fr st) (fr t)) o.d q.1) (.sl n)=bJ (J fr st) (fr n):=eU a1 n hnr
   rw[hw',hval]at h2
   have back:∀ {b:Bool},dQ (fun t=>bJ (J fr st) (fr t)) p.g=some b→dQ fr p.g=some b:=by
    intro b hb
    cases hg:p.g with
    |none=>rw[hg]at hb;exact hb
    |some q=>
     obtain⟨s,c⟩:=q
     rw[hg]at hb
     simp only[dQ]at hb ⊢
     have hor:bJ (J fr st) (fr s)=fr s∨bJ (J fr st) (fr s)= .any:=by
      unfold bJ;split
      ·exact .inl rfl
      ·exact .inr rfl
     rcases hor with h|h
     ·rw[h]at hb;exact hb
     ·rw[h]at hb;cases hb
   split at h2
   ·rename_i hwp
    cases h2
    have h3:=back hwp
    refine⟨_,_,by rw[js cf hn,h3],?_,hko _,hkp _⟩
    rw[iX cf hJ,hwo,has,hru,hw,hc]
    simp only[cp,vI,CX.ev]
    rw[mG a2]
   ·rename_i hwp
    cases h2
    have h3:=back hwp
    refine⟨_,_,by rw[js cf hn,h3],?_,hko _,hkp _⟩
    rw[iX cf hJ,hwo,has,hru,hw,hc]
    simp only[cp,vI]
    rw[mG a2]
    rfl
   ·cases h2
 ·rename_i hw
  cases h1
  have hw':dQ (put fr o.d .hole) p.g=dQ fr p.g:=k7 (eU a1)
  have hval:CX.ev (put fr o.d .hole) (.sl n)=fr n:=eU a1 n hnr
  rw[hw',hval]at h2
  split at h2
  ·rename_i hwp
   cases h2
   refine⟨_,_,by rw[js cf hn,hwp],?_,hko _,hkp _⟩
   rw[iX cf hJ,hwo,hw]
   simp only[CX.ev]
   rw[mG a2]
  ·rename_i hwp
   cases h2
   refine⟨_,_,by rw[js cf hn,hwp],?_,hko _,hkp _⟩
   rw[iX cf hJ,hwo,hw]
   simp only
   rw[mG a2]
  ·cases h2
 ·cases h1
theorem swap(cf:au){o p:bz}(hs:zQ o p=true){fr fr1 fr2:Fr}{st st1 st2:St}(hk:uC o p=true→∀ k∈aW fr o.op,k∉aW fr1 p.op)
  (h1:cG cf o (fr,st)=some (fr1,st1)) (h2:cG cf p (fr1,st1)=some (fr2,st2)):
  ∃ fr' st',cG cf p (fr,st)=some (fr',st')∧cG cf o (fr',st')=some (fr2,st2)∧aW fr' o.op=aW fr o.op∧aW fr p.op=aW fr1 p.op:=by
 simp only[zQ,bP,aa]at hs
 rcases hs with(hs|⟨⟨h3,h4⟩,h5⟩)|⟨⟨h3,h4⟩,h5⟩
 ·exact L4 cf hs hk h1 h2
 ·exact L3 cf h3 h4 h5 h1 h2
 ·exact L0 cf h3 h4 h5 h1 h2
structure rC where
 i:Nat
 o:bz
 ks:List Nat
def BI(cf:au):List rC→Fr×St→Fr×St→Prop
 | [],x,y=>x=y
 |q::L,x,y=>aW x.1 q.o.op=q.ks∧∃ x',cG cf q.o x=some x'∧BI cf L x' y
def IT(q r:rC):Prop:=zQ q.o r.o=true∧(uC q.o r.o=true→∀ k∈q.ks,k∉r.ks)
theorem BI.front(cf:au){q:rC}{L2:List rC}{y:Fr×St}:∀ {L1:List rC} {x:Fr×St},BI cf (L1++q::L2) x y→(∀ r∈L1,IT r q)→
  aW x.1 q.o.op=q.ks∧∃ x',cG cf q.o x=some x'∧BI cf (L1++L2) x' y
 | [],x,h,_=>h
 |r::L1,x,h,hc=>by
  obtain⟨hk,x1,hr,hrest⟩:=h
  obtain⟨hk2,x2,hq,hrun⟩:=BI.front cf hrest fun s hs=>hc s (by simp[hs])
  obtain⟨hst,hky⟩:=hc r (by simp)
  obtain⟨fr,st⟩:=x
  obtain⟨fr1,st1⟩:=x1
  obtain⟨fr2,st2⟩:=x2
  obtain⟨fr',st',h1,h2,h3,h4⟩:=swap cf hst (fun h=>by rw[hk,hk2];exact hky h) hr hq
  exact⟨h4.trans hk2,(fr',st'),h1,h3.trans hk,(fr2,st2),h2,hrun⟩
end Go.PM
namespace Go.PM
variable {P:Program} {B:Nat→Nat→Option Value}
def MA(ops:Array Oper)(anc:Nat→List Nat):Prop:=
 ∀ i o,ops[i]? =some o→∀ j∈anc i,∃ e∈o.after,Region.binds .any e=true∧(e.on=j∨j∈anc e.on)
def LV(ops:Array Oper):Prop:=∀ i o,ops[i]? =some o→∀ e∈o.after,Region.binds .any e=true→e.on<i
section
variable {G:Gh} {nt nk:Nat} {cf:au} {ops:Array Oper} {Q:Exit→Act→World→Prop} {anc:Nat→List Nat} {D:List Deferred}
theorem zc{l:Array Bool}{j:Nat}(hj:j<l.size):l.getD j true=l.getD j false:=by
 rw[bo,bo,iE hj];rfl
theorem Eu{M:Nat→List Nat}(hcf:gU P B cf)(hanc:MA ops anc)(hdeps:LV ops){y:Fr×St}:∀ (fuel:Nat) {listed:Array Bool} {L:List rC} {G:Gh} {fr:Fr} {st:St} {w:World} {a:Act},
  listed.size=ops.size→L.length≤fuel→(∀ j,j<ops.size→(listed.getD j true=false↔∃ q∈L,q.i=j))→(∀ q∈L,∃ o,ops[q.i]? =some o∧qz P M nt nk ops o=some q.o)→
  L.Pairwise (fun r q=>r.i<q.i∧(r.i∈anc q.i∨IT r q))→(∀ i j,listed.getD i false=true→j∈anc i→listed.getD j false=true)→
  bt P B G st w→dZ G nt fr a→BI cf L (fr,st) y→
  (∀ a' w' G',bt P B G' y.2 w'→bV G w G' w'→dZ G' nt y.1 a'→mC (oA M) a' a→(∀ s,nk≤s∨G'.bx s=G.bx s)→Q .normal a' w')→
  wpAny P .any ops Q fuel listed a w:=by
 intro fuel
 have fin:∀ {listed:Array Bool} {L:List rC},(∀ j,j<ops.size→(listed.getD j true=false↔∃ q∈L,q.i=j))→L=[]→Region.ready .any ops listed=[]:=by
  intro listed L h hL
  subst hL
  apply List.eq_nil_iff_forall_not_mem.2
  intro j hj
  obtain⟨h1,o,ho,_⟩:=mem_ready.1 hj
  have hlt:=(aE.1 ho).1
  obtain⟨q,hq,_⟩:=(h j hlt).1 h1
  cases hq
 induction fuel with
 |zero=>
  intro listed L G fr st w a hsz hlen hL hc hp hcl hI hF hrun hn
  have hnil:L=[]:=aP (by omega)
  refine⟨fin hL hnil,?_⟩
  subst hnil
  cases hrun
  exact hn a w G hI (bV.refl G w) hF .refl fun _=> .inr rfl
 |succ fuel ih=>
  intro listed L G fr st w a hsz hlen hL hc hp hcl hI hF hrun hn
  refine⟨fun hready=>?_,fun i hi=>?_⟩
  ·
   cases L with
   |nil=>
    cases hrun
    exact hn a w G hI (bV.refl G w) hF .refl fun _=> .inr rfl
   |cons q L=>
    exfalso
    obtain⟨o,ho,_⟩:=hc q (by simp)
    have hqlt:=(aE.1 ho).1
    have hq:q.i∈Region.ready .any ops listed:=by
     refine mem_ready.2 ⟨(hL q.i hqlt).2 ⟨q,by simp,rfl⟩,o,ho,fun e he hb=>?_⟩
     have hlt:=hdeps q.i o ho e he hb
     have he':e.on<listed.size:=by omega
     cases hx:listed.getD e.on false with
     |true=>rfl
     |false=>
      rw[←zc he']at hx
      obtain⟨r,hr,hri⟩:=(hL e.on (by omega)).1 hx
      rcases aJ.1 hr with rfl|hr
      ·omega
      ·have:=(List.rel_of_pairwise_cons hp hr).1
       omega
    rw[hready]at hq
    cases hq
  ·obtain⟨hun,o,ho,hall⟩:=mem_ready.1 hi
   have hilt:=(aE.1 ho).1
   obtain⟨q,hq,hqi⟩:=(hL i hilt).1 hun
   obtain⟨L1,L2,rfl⟩:=List.append_of_mem hq
   have hancI:∀ j∈anc i,listed.getD j false=true:=by
    intro j hj
    obtain⟨e,he,hb,h⟩:=hanc i o ho j hj
    have h1:=hall e he hb
    rcases h with rfl|h
    ·exact h1
    ·exact hcl e.on j h1 h
   have hpw:=List.pairwise_append.1 hp
   have hcomm:∀ r∈L1,IT r q:=by
    intro r hr
    rcases(hpw.2.2 r hr q (by simp)).2 with h|h
    ·exfalso
     rw[hqi]at h
     have h1:=hancI r.i h
     obtain⟨ro,hro,_⟩:=hc r (by simp[hr])
     have hrlt:=(aE.1 hro).1
     have h2:=(hL r.i hrlt).2 ⟨r,by simp[hr],rfl⟩
     rw[zc (by omega)]at h2
     rw[h1]at h2;cases h2
    ·exact h
   obtain⟨_,x',hq1,hrun'⟩:=hrun.front cf hcomm
   obtain⟨fr1,st1⟩:=x'
   obtain⟨o',ho',hco⟩:=hc q (by simp)
   rw[hqi,ho]at ho'
   cases ho'
   unfold wpOp
   simp only[ho]
   refine yN hcf hI hF hco hq1 fun a1 w1 G1 hI1 hS1 hF1 hd1 hk1=>?_
   have hmem:∀ {r:rC},r∈L1++L2→r∈L1++q::L2:=by
    intro r hr
    rcases ax.1 hr with h|h
    ·exact ax.2 (.inl h)
    ·exact ax.2 (.inr (a7 _ h))
   refine ih (L:=L1++L2) (by simp;exact hsz) (by simp at hlen ⊢;omega) (fun j hj=>?_) (fun r hr=>hc r (hmem hr)) ?_ (fun u j hu hj=>?_) hI1 hF1 hrun' fun a2 w2 G2 hI2 hS2 hF2 hd2 hk2=>?_
   ·by_cases hji:j=i
    ·subst hji
     have hz:(listed.setIfInBounds j true).getD j true=true:=by
      rw[bo,gR (by omega)];rfl
     rw[hz]
     refine⟨fun h=>(by cases h),?_⟩
     rintro⟨r,hr,hri⟩
     exfalso
     rcases ax.1 hr with h|h
     ·have:=(hpw.2.2 r h q (by simp)).1;omega
     ·have:=(List.rel_of_pairwise_cons hpw.2.1 h).1;omega
    ·rw[getD_set_ne true (Ne.symm hji),hL j hj]
     constructor
     ·rintro⟨r,hr,hri⟩
      refine⟨r,?_,hri⟩
      rcases ax.1 hr with h|h
      ·exact ax.2 (.inl h)
      ·rcases aJ.1 h with rfl|h
       ·exact absurd (hri.symm.trans hqi) hji
       ·exact ax.2 (.inr h)
     ·rintro⟨r,hr,hri⟩
      exact⟨r,hmem hr,hri⟩
   ·exact List.pairwise_append.2 ⟨hpw.1,(b6.1 hpw.2.1).2,fun r hr s hs=>hpw.2.2 r hr s (a7 _ hs)⟩
   ·have mono:∀ j,listed.getD j false=true→(listed.setIfInBounds i true).getD j false=true:=fun j h=>getD_set_true h
    by_cases hui:u=i
    ·subst hui
     exact mono j (hancI j hj)
    ·rw[getD_set_ne false (Ne.symm hui)]at hu
     exact mono j (hcl u j hu hj)
   ·refine hn a2 w2 G2 hI2 (hS1.trans hS2) hF2 (hd2.trans hd1) fun s=>?_
    rcases hk1 s with h1|h1
    ·exact .inl h1
    ·rcases hk2 s with h2|h2
     ·exact .inl h2
     ·exact .inr (h2.trans h1)
end
inductive CC where
 |skip
 |reg (ops:List bz) (chk:List (Nat×Nat))
 |seq (a b:CC)
 |cond (c:CX) (a b:CC)
 |block (id:Nat) (c:CC)
 |loop (c:CC)
 |exit (id:Nat)
 |ret
inductive Ex where
 |go|exit (id:Nat)|ret
 deriving DecidableEq
def gt(cf:au):List bz→Fr×St→Option (List (List Nat)×(Fr×St))
 | [],x=>some ([],x)
 |o::os,x=>match cG cf o x with
  |some y=>match gt cf os y with
   |some (ks,z)=>some (aW x.1 o.op::ks,z)
   |none=>none
  |none=>none
def lI(ks:List (List Nat))(q:Nat×Nat):Bool:=((ks[q.1]?).getD []).all fun k=>!((ks[q.2]?).getD []).contains k
def pV(cf:au)(ops:List bz):List (Nat×Nat)→Fr×St→Option (Fr×St)
 | [],x=>gD cf ops x
 |chk,x=>match gt cf ops x with
  |some (ks,y)=>if chk.all (lI ks)then some y else none
  |none=>none
def mJ(body:Fr×St→Option (Ex×Fr×St)):Nat→Fr×St→Option (Ex×Fr×St)
 |0,_=>none
 |n+1,x=>match body x with
  |some (.go,y)=>mJ body n y
  |r=>r
def ev(cf:au)(N:Nat):CC→Fr×St→Option (Ex×Fr×St)
 | .skip,x=>some (.go,x)
 | .reg ops chk,x=>(pV cf ops chk x).map fun y=>(.go,y)
 | .seq a b,x=>match ev cf N a x with
  |some (.go,y)=>ev cf N b y
  |r=>r
 | .cond c a b,x=>match c.ev x.1 with
  | .bool true=>ev cf N a x
  | .bool false=>ev cf N b x
  |_=>none
 | .block id c,x=>match ev cf N c x with
  |some (.exit i,y)=>if i=id then some (.go,y)else some (.exit i,y)
  |r=>r
 | .loop c,x=>mJ (ev cf N c) N x
 | .exit id,x=>some (.exit id,x)
 | .ret,x=>some (.ret,x)
def Gc(o:Oper):List Nat:=(o.after.toList.filter (Region.binds .any ·)).map (·.on)
def Bz:List Oper→List (List Nat)→List (List Nat)
 | [],acc=>acc
 |o::os,acc=>Bz os (acc++[((Gc o)++(Gc o).flatMap fun j=>(acc[j]?).getD []).eraseDups])
def GG(ops:Array Oper)(an:List (List Nat)):Bool:=
 (List.range ops.size).all fun i=>match ops[i]? with
  |some o=>((an[i]?).getD []).all (fun j=>o.after.toList.any fun e=>Region.binds .any e && (e.on==j||((an[e.on]?).getD []).contains j))
  |none=>true
def C1(ops:Array Oper):Bool:=
 (List.range ops.size).all fun i=>match ops[i]? with
  |some o=>o.after.toList.all fun e=>!Region.binds .any e||decide (e.on<i)
  |none=>true
def uz(n:Nat):List (Nat×Nat):=(List.range n).flatMap fun i=>(List.range i).map fun j=>(j,i)
def xV(cs:List bz)(q:Nat×Nat):Bool:=match cs[q.1]?,cs[q.2]? with
 |some o,some p=>zQ o p
 |_,_=>false
def CP(cs:List bz)(q:Nat×Nat):Bool:=match cs[q.1]?,cs[q.2]? with
 |some o,some p=>uC o p
 |_,_=>false
def yh(ops:Array Oper)(cs:List bz):Option (List (Nat×Nat)):=
 let an:=Bz ops.toList []
 let free:=(uz cs.length).filter fun q=>!((an[q.2]?).getD []).contains q.1
 if GG ops an && C1 ops && free.all (xV cs)then some (free.filter (CP cs))else none
def ft(P:Program)(M:Nat→List Nat)(nt nk:Nat):Code→Option CC
 | .skip=>some .skip
 | .region _ ops draw=>match lE P M nt nk ops ops.toList with
  |some cs=>match draw with
   |false=>some (.reg cs [])
   |true=>(yh ops cs).map (.reg cs)
  |none=>none
 | .seq a b=>match ft P M nt nk a,ft P M nt nk b with
  |some a,some b=>some (.seq a b)
  |_,_=>none
 | .cond c a b=>match bl c,ft P M nt nk a,ft P M nt nk b with
  |some c,some a,some b=>some (.cond c a b)
  |_,_,_=>none
 | .block id c=>(ft P M nt nk c).map (.block id)
 | .loop c=>(ft P M nt nk c).map .loop
 | .exit id=>some (.exit id)
 | .ret=>some .ret
 |_=>none
def items:Nat→List bz→List (List Nat)→List rC
 |i,o::os,k::ks=>⟨i,o,k⟩::items (i+1) os ks
 |_,_,_=>[]
theorem oT:∀ {os:List bz} {ks:List (List Nat)} {i j:Nat} {q:rC},(items i os ks)[j]? =some q→q.i=i+j∧os[j]? =some q.o∧ks[j]? =some q.ks
 | [],ks,i,j,q,h=>by simp[items]at h
 |o::os,[],i,j,q,h=>by simp[items]at h
 |o::os,k::ks,i,j,q,h=>by
  cases j with
  |zero=>simp[items]at h;subst h;exact⟨rfl,rfl,rfl⟩
  |succ j=>
   obtain⟨h1,h2,h3⟩:=oT (os:=os) (ks:=ks) (i:=i+1) (j:=j) (by simpa [items]using h)
   exact⟨by omega,by simpa using h2,by simpa using h3⟩
theorem qh:∀ {os:List bz} {ks:List (List Nat)} {i:Nat},ks.length=os.length→(items i os ks).length=os.length
 | [],ks,i,h=>by simp[items]
 |o::os,[],i,h=>by simp at h
 |o::os,k::ks,i,h=>by simp[items,qh (os:=os) (ks:=ks) (i:=i+1) (by simpa using h)]
theorem vl(cf:au):∀ {os:List bz} {x y:Fr×St} {ks:List (List Nat)} {i:Nat},gt cf os x=some (ks,y)→ks.length=os.length∧BI cf (items i os ks) x y
 | [],x,y,ks,i,h=>by cases h;exact⟨rfl,rfl⟩
 |o::os,x,y,ks,i,h=>by
  simp only[gt]at h
  split at h
  ·rename_i x' hx
   split at h
   ·rename_i ks' z hz
    cases h
    obtain⟨h1,h2⟩:=vl cf (i:=i+1) hz
    exact⟨by simp[h1],rfl,x',hx,h2⟩
   ·cases h
  ·cases h
theorem u4(cf:au):∀ {os:List bz} {x y:Fr×St},gD cf os x=some y→∃ ks,gt cf os x=some (ks,y)
 | [],x,y,h=>by cases h;exact⟨[],rfl⟩
 |o::os,x,y,h=>by
  simp only[gD]at h
  split at h
  ·rename_i x' hx
   obtain⟨ks,hk⟩:=u4 cf h
   exact⟨aW x.1 o.op::ks,by simp[gt,hx,hk]⟩
  ·cases h
theorem s5{M:Nat→List Nat}{nt nk:Nat}{ops:Array Oper}:∀ {os:List Oper} {cs:List bz},lE P M nt nk ops os=some cs→cs.length=os.length∧∀ (j:Nat) c,cs[j]? =some c→∃ o,os[j]? =some o∧qz P M nt nk ops o=some c
 | [],cs,h=>by cases h;exact⟨rfl,fun j c h=>by simp at h⟩
 |o::os,cs,h=>by
  unfold lE at h
  split at h
  ·rename_i c cs' hc hcs
   cases h
   obtain⟨h1,h2⟩:=s5 hcs
   refine⟨by simp[h1],fun j d hd=>?_⟩
   cases j with
   |zero=>simp at hd;subst hd;exact⟨o,rfl,hc⟩
   |succ j=>simpa using h2 j d (by simpa using hd)
  ·cases h
theorem FG{n i j:Nat}(h1:j<i)(h2:i<n):(j,i)∈uz n:=by
 simp only[uz,kR,iS,cq,bE]
 exact⟨i,h2,j,h1,rfl,rfl⟩
section
variable {G:Gh} {nt nk:Nat} {cf:au} {Q:Exit→Act→World→Prop}
theorem bt.drawn{st:St}{w w':World}(hI:bt P B G st w)(h:w'.heap=w.heap):bt P B G st w':=by
 have hc:∀ a,w'.cell? a=w.cell? a:=fun a=>World.cell?_of_block (by rw[h])
 exact⟨fun b o v hb=>by rw[hc];exact hI.com b o v hb,fun b e k hb=>by rw[h];exact hI.sh b e k hb,hI.nx,hI.cnt,hI.live,hI.room,hI.apart,hI.priv,fun s cs hs=>by rw[h];exact hI.objs s cs hs,
  fun s b hs=>by rw[h];exact hI.obs s b hs,hI.obj,hI.nob,hI.npo,fun b k hb=>by rw[h];exact hI.pvl b k hb,fun b hb=>by rw[h];exact hI.xpl b hb,hI.base,fun s b e sz h1 h2=>by rw[h];exact hI.oes s b e sz h1 h2,
  fun s es hs=>by rw[h];exact hI.mobj s es hs,fun s b hs=>by rw[h];exact hI.mbs s b hs,hI.mbi,hI.nomb,hI.obx,hI.ful⟩
theorem bV.drawn{G':Gh}{w w' w2:World}(hS:bV G w G' w2)(h:w.heap=w'.heap)(he:w'.os=w.os∧w'.output=w.output):bV G w' G' w2:=
 ⟨hS.le,by rw[←h];exact hS.size,fun b hb ho ht hm=>by rw[←h];exact hS.kept b (by rw[h];exact hb) ho ht hm,fun s b hb=>by rw[←h];exact hS.nearO s b hb,fun t r hr=>by rw[←h];exact hS.nearT t r hr,
  fun b o v hv=>by rw[←h];exact hS.nearC b o v hv,fun b x hx=>by rw[←h];exact hS.nearS b x hx,fun b k hk=>by rw[←h];exact hS.nearP b k hk,fun s b hs=>by rw[←h];exact hS.nearM s b hs,⟨hS.eff.1.trans he.1.symm,hS.eff.2.trans he.2.symm⟩⟩
theorem yC{M:Nat→List Nat}(hcf:gU P B cf)(hmix:P.follows .mixedOrders=true){id:Nat}{ops:Array Oper}{draw:Bool}{cs:List bz}{chk:List (Nat×Nat)}(hc:lE P M nt nk ops ops.toList=some cs)
  (hchk:match draw with|false=>chk=[]|true=>yh ops cs=some chk) {fr:Fr} {st:St} {w:World} {a:Act} (hI:bt P B G st w) (hF:dZ G nt fr a) {y:Fr×St} (h:pV cf cs chk (fr,st)=some y)
  (hn:∀ a' w' G',bt P B G' y.2 w'→bV G w G' w'→dZ G' nt y.1 a'→mC (oA M) a' a→(∀ s,nk≤s∨G'.bx s=G.bx s)→Q .normal a' w'):(Code.region id ops draw).wp P Q a w:=by
 cases draw with
 |false=>
  simp only at hchk
  subst hchk
  exact wp_region_list (vb hcf hI hF hc h hn)
 |true=>
  simp only[yh]at hchk
  split at hchk
  ·rename_i hb
   simp only[aZ]at hchk
   simp only[aa]at hb
   obtain⟨⟨hb1,hb2⟩,hb3⟩:=hb
   have hkeys:∃ ks,gt cf cs (fr,st)=some (ks,y)∧chk.all (lI ks)=true:=by
    cases chk with
    |nil=>
     obtain⟨ks,hk⟩:=u4 cf h
     exact⟨ks,hk,rfl⟩
    |cons q chk=>
     simp only[pV]at h
     split at h
     ·rename_i ks z hz
      split at h
      ·rename_i hall
       cases h
       exact⟨ks,hz,hall⟩
      ·cases h
     ·cases h
   obtain⟨ks,hk,hall⟩:=hkeys
   obtain⟨hlk,hrun⟩:=vl cf (i:=0) hk
   obtain⟨hlc,hget⟩:=s5 hc
   have hlc':cs.length=ops.size:=by simpa using hlc
   refine wp_region_any hmix (Eu (M:=M) (anc:=fun i=>((Bz ops.toList [])[i]?).getD []) (L:=items 0 cs ks) (y:=y) (nt:=nt) (nk:=nk) hcf ?_ ?_ ops.size (by simp) (by rw[qh hlk];omega) ?_ ?_ ?_ ?_ (hI.drawn rfl) hF hrun fun a' w' G' h1 h2 h3 h4 h5=>hn a' w' G' h1 (h2.drawn rfl ⟨rfl,rfl⟩) h3 h4 h5)
   ·intro i o ho j hj
    have hi:=(aE.1 ho).1
    simp only[GG,aU,iS]at hb1
    have:=hb1 i hi
    simp only[ho,aU]at this
    have:=this j hj
    simp only[mR,Array.mem_toList_iff,aa,bP,hD,dB]at this
    obtain⟨e,he,h1,h2⟩:=this
    exact⟨e,he,h1,h2⟩
   ·intro i o ho e he hbi
    have hi:=(aE.1 ho).1
    simp only[C1,aU,iS]at hb2
    have:=hb2 i hi
    simp only[ho,aU,Array.mem_toList_iff]at this
    have:=this e he
    simpa [hbi]using this
   ·intro j hj
    have hz:(Array.replicate ops.size false).getD j true=false:=by
     rw[bo,jf];simp[hj]
    refine⟨fun _=>?_,fun _=>hz⟩
    have hlt:j<(items 0 cs ks).length:=by rw[qh hlk];omega
    have hg:(items 0 cs ks)[j]? =some (items 0 cs ks)[j]:=az hlt
    exact⟨_,bL hlt,by rw[(oT hg).1];omega⟩
   ·intro q hq
    obtain⟨j,hj,rfl⟩:=cP hq
    have hg:(items 0 cs ks)[j]? =some (items 0 cs ks)[j]:=az hj
    obtain⟨h1,h2,_⟩:=oT hg
    obtain⟨o,ho,hco⟩:=hget j _ h2
    exact⟨o,by rw[h1,bg];simpa using ho,hco⟩
   ·rw[List.pairwise_iff_getElem]
    intro i j hi hj hij
    have gi:(items 0 cs ks)[i]? =some (items 0 cs ks)[i]:=az hi
    have gj:(items 0 cs ks)[j]? =some (items 0 cs ks)[j]:=az hj
    generalize (items 0 cs ks)[i]=r at gi
    generalize (items 0 cs ks)[j]=q at gj
    obtain⟨r1,r2,r3⟩:=oT gi
    obtain⟨q1,q2,q3⟩:=oT gj
    refine⟨by omega,?_⟩
    have hjn:j<cs.length:=(a8.1 q2).1
    by_cases ha:(((Bz ops.toList [])[j]?).getD []).contains i=true
    ·exact .inl (by rw[r1,q1,bg,bg];exact dB.1 ha)
    ·refine .inr ?_
     have hfree:(i,j)∈(uz cs.length).filter (fun q=>!(((Bz ops.toList [])[q.2]?).getD []).contains q.1):=
      jF.2 ⟨FG hij hjn,by simpa using ha⟩
     have hst:xV cs (i,j)=true:=(aU.1 hb3) _ hfree
     simp only[xV,r2,q2]at hst
     refine⟨hst,fun hkd k hk1 hk2=>?_⟩
     have hin:(i,j)∈chk:=by
      rw[←hchk]
      exact jF.2 ⟨hfree,by simp only[CP,r2,q2];exact hkd⟩
     have hap:=(aU.1 hall) _ hin
     simp only[lI,r3,q3,Option.getD_some,aU,gO]at hap
     have:=hap k hk1
     rw[dB.2 hk2]at this
     cases this
   ·intro i j hi _
    rw[bo,jf]at hi
    split at hi<;>cases hi
  ·cases hchk
end
end Go.PM
