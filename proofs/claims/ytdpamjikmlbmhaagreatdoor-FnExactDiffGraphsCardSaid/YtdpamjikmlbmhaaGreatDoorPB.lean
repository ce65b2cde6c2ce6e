/- A part of the proof: texts PmP, PmQ, PmRa, PmRb, PmR, PmS, PmT, PmU, PmV, PmW, PmX, PmY, PmZ, joined. Conditions: none. -/
import Derived.Test.YtdpamjikmlbmhaaGreatDoorPA
import Derived.Orders
import Derived.LoopN
namespace Go.PM
variable {P:Program} {B:Nat→Nat→Option Value}
theorem elemOfSl_of{t e:Nat}(h:elemOfSl P t=some e):P.underlying t=some (.slice e):=by
 unfold elemOfSl at h
 split at h
 ·cases h;assumption
 ·cases h
theorem isU8_of{t:Nat}(h:isU8 P t=true):P.underlying t=some (.int .u8):=by
 unfold isU8 at h
 split at h
 ·assumption
 ·cases h
theorem compXs_Rv{G:Gh}{nt:Nat}{fr:Fr}{a:Act}(hF:FrR G nt fr a):∀ {xs:List Operand} {cs:List CX},compXs xs=some cs→
  cs.length=xs.length∧∀ (j:Nat) p v,(cs.map (·.ev fr))[j]? =some p→(xs.map a.eval)[j]? =some v→R G p v
 | [],cs,h=>by cases h;exact⟨rfl,fun j p v hp=>by simp at hp⟩
 |x::xs,cs,h=>by
  unfold compXs at h
  split at h
  ·rename_i c cs' hx hxs
   cases h
   obtain⟨hl,hr⟩:=compXs_Rv hF hxs
   refine⟨by simp[hl],fun j p v hp hv=>?_⟩
   cases j with
   |zero=>
    simp at hp hv
    subst hp;subst hv
    exact compX_R hF hx
   |succ j=>exact hr j p v (by simpa using hp) (by simpa using hv)
  ·cases h
theorem isStr_of{t:Nat}(h:isStr P t=true):P.underlying t=some .string:=by
 unfold isStr at h
 split at h
 ·assumption
 ·cases h
section
variable {G:Gh} {nt:Nat} {fr:Fr} {st st':St} {w:World} {a:Act} {o:Oper} {d:Option Nat} {cf:CallF} {p:PV}
theorem op_sound(hI:Inv P B G st w)(hF:FrR G nt fr a){c:COp}(hc:compOp P o.op=some c)(h:runOp cf fr st d c=some (p,st')):
  Out P B G w (execOp a.eval o) d (makes c) p st'∧tidy p=true:=by
 have npo:=hI.npo
 have zn:∀ {t:Nat} {zs:List PV},zerosOf P t=some zs→nps zs=true:=fun hz=>by
  obtain⟨_,_,_,_,_,h⟩:=zeros_of (P:=P) (G:=G) hz
  exact h
 generalize hop:o.op=q at hc
 unfold compOp at hc
 split at hc
 ·
  rename_i x
  simp only[Option.map_eq_some_iff]at hc
  obtain⟨cx,hx,rfl⟩:=hc
  refine⟨says_out hI (says_mv hF (.inl hop) hx h),run_simple h ?_ npo (by simp) (by simp) (by simp) (by simp) (by simp) (by simp)⟩
  rintro x (h|⟨_,_,h⟩|⟨_,_,h⟩|⟨_,_,h⟩|h|⟨_,h⟩|⟨_,h⟩|⟨_,_,_,h⟩|⟨_,_,h⟩|⟨_,_,_,h⟩)<;>cases h<;>exact compX_tidy hF (by assumption)
 ·rename_i x
  simp only[Option.map_eq_some_iff]at hc
  obtain⟨cx,hx,rfl⟩:=hc
  refine⟨says_out hI (says_mv hF (.inr hop) hx h),run_simple h ?_ npo (by simp) (by simp) (by simp) (by simp) (by simp) (by simp)⟩
  rintro x (h|⟨_,_,h⟩|⟨_,_,h⟩|⟨_,_,h⟩|h|⟨_,h⟩|⟨_,h⟩|⟨_,_,_,h⟩|⟨_,_,h⟩|⟨_,_,_,h⟩)<;>cases h<;>exact compX_tidy hF (by assumption)
 ·
  split at hc
  ·cases hc
   refine⟨says_out hI (says_pick hF hop (by assumption) (by assumption) (by assumption) h),run_simple h ?_ npo (by simp) (by simp) (by simp) (by simp) (by simp) (by simp)⟩
   rintro x (h|⟨_,_,h⟩|⟨_,_,h⟩|⟨_,_,h⟩|h|⟨_,h⟩|⟨_,h⟩|⟨_,_,_,h⟩|⟨_,_,h⟩|⟨_,_,_,h⟩)<;>cases h<;>exact compX_tidy hF (by assumption)
  ·cases hc
 ·
  split at hc
  ·rename_i zs pl hz hpl
   split at hc
   ·rename_i cs hcs
    cases hc
    refine⟨says_out hI (says_build hF hop hz hpl hcs h),run_simple h ?_ npo (fun _ _ e cs hf=>by cases e;exact fill_np hF hcs (zn hz) hf) (by simp) (by simp) (by simp) (by simp) (by simp)⟩
    rintro x (h|⟨_,_,h⟩|⟨_,_,h⟩|⟨_,_,h⟩|h|⟨_,h⟩|⟨_,h⟩|⟨_,_,_,h⟩|⟨_,_,h⟩|⟨_,_,_,h⟩)<;>cases h
   ·cases hc
  ·cases hc
 ·
  split at hc
  ·rename_i sz ag cx hs hg hx
   cases hc
   refine⟨says_out hI (says_load hI hF hop hx hs hg h),run_simple h ?_ npo (by simp) (by simp) (by simp) (by simp) (by simp) (by simp)⟩
   rintro x (h|⟨_,_,h⟩|⟨_,_,h⟩|⟨_,_,h⟩|h|⟨_,h⟩|⟨_,h⟩|⟨_,_,_,h⟩|⟨_,_,h⟩|⟨_,_,_,h⟩)<;>cases h<;>exact compX_tidy hF (by assumption)
  ·cases hc
 ·
  simp only[Option.map_eq_some_iff]at hc
  obtain⟨cx,hx,rfl⟩:=hc
  refine⟨says_out hI (says_nck hF hop hx h),run_simple h ?_ npo (by simp) (by simp) (by simp) (by simp) (by simp) (by simp)⟩
  rintro x (h|⟨_,_,h⟩|⟨_,_,h⟩|⟨_,_,h⟩|h|⟨_,h⟩|⟨_,h⟩|⟨_,_,_,h⟩|⟨_,_,h⟩|⟨_,_,_,h⟩)<;>cases h<;>exact compX_tidy hF (by assumption)
 ·
  split at hc
  ·rename_i cx cy hx hy
   have other:∀ {op:BinOp},c= .bin op cx cy→(∃ t yt x y,o.op= .binOp op t x y yt∧compX x=some cx∧compX y=some cy)→Out P B G w (execOp a.eval o) d (makes c) p st'∧tidy p=true:=by
    rintro op rfl ⟨t,yt,x,y,hop,hx,hy⟩
    have h':=h
    simp only[runOp,Option.map_eq_some_iff]at h'
    obtain⟨q,hq,hqe⟩:=h'
    cases hqe
    exact⟨says_out hI ⟨rfl,says_bin hF hop hx hy hq⟩,np_tidy (binP_np hq)⟩
   have fin:∀ {c':COp},c=c'→(∀ x,c'= .mv x∨(∃ a b,c'= .pick a x b)∨(∃ a b,c'= .pick a b x)∨(∃ sz ag,c'= .load sz ag x)∨c'= .nck x∨(∃ i,c'= .ext x i)∨(∃ n,c'= .fad n x)∨(∃ n sz ag,c'= .fld n sz ag x)∨
  (∃ sz i,c'= .iad sz x i)∨(∃ sz lo hi,c'= .slc sz x lo hi)→False)→True:=fun _ _=>trivial
   split at hc
   ·cases hc
    refine⟨says_out hI (says_isnil hF hop hx (by assumption) (by assumption) (.inl ⟨rfl,rfl⟩) h),?_⟩
    simp only[runOp]at h
    split at h<;>first|(cases h;rfl)|cases h
   ·cases hc
    refine⟨says_out hI (says_isnil hF hop hx (by assumption) (by assumption) (.inr ⟨rfl,rfl⟩) h),?_⟩
    simp only[runOp]at h
    split at h<;>first|(cases h;rfl)|cases h
   ·cases hc
    refine⟨says_out hI (says_beq hF hop hx hy (by assumption) (.inl ⟨rfl,rfl⟩) h),?_⟩
    simp only[runOp]at h
    split at h<;>first|(cases h;rfl)|cases h
   ·cases hc
    refine⟨says_out hI (says_beq hF hop hx hy (by assumption) (.inr ⟨rfl,rfl⟩) h),?_⟩
    simp only[runOp]at h
    split at h<;>first|(cases h;rfl)|cases h
   ·cases hc
    exact other rfl ⟨_,_,_,_,hop,hx,hy⟩
   ·cases hc
  ·cases hc
 ·
  simp only[Option.map_eq_some_iff]at hc
  obtain⟨cx,hx,rfl⟩:=hc
  have h':=h
  simp only[runOp,Option.map_eq_some_iff]at h'
  obtain⟨q,hq,hqe⟩:=h'
  cases hqe
  exact⟨says_out hI ⟨rfl,says_un hF hop hx hq⟩,np_tidy (unP_np hq)⟩
 ·
  split at hc
  ·cases hc
   refine⟨says_out hI (says_toInt hF hop (by assumption) (by assumption) (by assumption) h),?_⟩
   simp only[runOp]at h
   split at h<;>first|(cases h;rfl)|cases h
  ·cases hc
   refine⟨says_out hI (says_strstr hF hop (by assumption) (by assumption) (by assumption) h),?_⟩
   simp only[runOp]at h
   split at h<;>first|(cases h;rfl)|cases h
  ·split at hc
   ·rename_i hb
    simp only[Bool.and_eq_true]at hb
    cases hc
    refine⟨says_out hI (says_b2s hI hF hop (by assumption) (by assumption) (isU8_of hb.1) (by assumption) h),?_⟩
    simp only[runOp]at h
    split at h
    ·split at h
     ·split at h<;>first|(cases h;rfl)|cases h
     ·cases h
    ·cases h
   ·cases hc
  ·cases hc
 ·
  simp only[Option.map_eq_some_iff]at hc
  obtain⟨cs,hcs,rfl⟩:=hc
  obtain⟨hl,hr⟩:=compXs_Rv hF hcs
  refine⟨says_out hI (says_mkfn hop hr hl h),?_⟩
  simp only[runOp]at h
  split at h
  ·rename_i hb;cases h;exact hb
  ·cases h
 ·
  split at hc
  ·cases hc
   refine⟨out_mkmap hI hop h,?_⟩
   simp only[runOp]at h
   split at h<;>first|(cases h;rfl)|cases h
  ·cases hc
 ·
  split at hc
  ·cases hc
   refine⟨out_mpset hI hF hop (by assumption) (by assumption) (by assumption) (by assumption) h,?_⟩
   simp only[runOp]at h
   split at h
   ·split at h
    ·split at h
     ·split at h<;>first|(cases h;rfl)|cases h
     ·cases h
    ·cases h
   ·cases h
  ·cases hc
 ·
  split at hc
  ·split at hc
   ·cases hc
    obtain⟨h1,h2⟩:=says_mpget hI hF hop (by assumption) (by assumption) (by assumption) (by assumption) h
    exact⟨says_out hI h1,np_tidy h2⟩
   ·cases hc
  ·cases hc
 ·
  simp only[Option.map_eq_some_iff]at hc
  obtain⟨cx,hx,rfl⟩:=hc
  refine⟨says_out hI (says_ext hF hop hx h),run_simple h ?_ npo (by simp) (by simp) (by simp) (by simp) (by simp) (by simp)⟩
  rintro x (h|⟨_,_,h⟩|⟨_,_,h⟩|⟨_,_,h⟩|h|⟨_,h⟩|⟨_,h⟩|⟨_,_,_,h⟩|⟨_,_,h⟩|⟨_,_,_,h⟩)<;>cases h<;>exact compX_tidy hF (by assumption)
 ·
  split at hc
  ·split at hc
   ·rename_i fd hfd
    split at hc
    ·cases hc
     refine⟨says_out hI (says_fad hF hop (by assumption) (by assumption) hfd (by assumption) h),run_simple h ?_ npo (by simp) (by simp) (by simp) (by simp) (by simp) (by simp)⟩
     rintro x (h|⟨_,_,h⟩|⟨_,_,h⟩|⟨_,_,h⟩|h|⟨_,h⟩|⟨_,h⟩|⟨_,_,_,h⟩|⟨_,_,h⟩|⟨_,_,_,h⟩)<;>cases h<;>exact compX_tidy hF (by assumption)
    ·cases hc
   ·cases hc
  ·cases hc
 ·
  split at hc
  ·split at hc
   ·rename_i fd hfd
    split at hc
    ·cases hc
     refine⟨says_out hI (says_fld hF hop (by assumption) (by assumption) hfd (by assumption) (by assumption) h),run_simple h ?_ npo (by simp) (by simp) (by simp) (by simp) (by simp) (by simp)⟩
     rintro x (h|⟨_,_,h⟩|⟨_,_,h⟩|⟨_,_,h⟩|h|⟨_,h⟩|⟨_,h⟩|⟨_,_,_,h⟩|⟨_,_,h⟩|⟨_,_,_,h⟩)<;>cases h<;>exact compX_tidy hF (by assumption)
    ·cases hc
   ·cases hc
  ·cases hc
 ·
  split at hc
  ·rename_i e cx ci he hx hi
   split at hc
   ·cases hc
    refine⟨says_out hI (says_iad hF hop hx hi (elemOfSl_of he) (by assumption) h),run_simple h ?_ npo (by simp) (by simp) (by simp) (by simp) (by simp) (by simp)⟩
    rintro x (h|⟨_,_,h⟩|⟨_,_,h⟩|⟨_,_,h⟩|h|⟨_,h⟩|⟨_,h⟩|⟨_,_,_,h⟩|⟨_,_,h⟩|⟨_,_,_,h⟩)<;>cases h<;>exact compX_tidy hF (by assumption)
   ·cases hc
  ·cases hc
 ·
  split at hc
  ·rename_i cx ci he hx hi
   cases hc
   refine⟨says_out hI (says_sidx hF hop hx hi (isStr_of he) h),?_⟩
   simp only[runOp]at h
   split at h
   ·split at h<;>first|(cases h;rfl)|cases h
   ·cases h
  ·cases hc
 ·
  split at hc
  ·rename_i cx clo chi hx hlo hhi
   split at hc
   ·rename_i hs
    cases hc
    refine⟨says_out hI (says_ssl hF hop hx hlo hhi (isStr_of hs) h),?_⟩
    simp only[runOp]at h
    split at h
    ·split at h<;>first|(cases h;rfl)|cases h
    ·cases h
   ·split at hc
    ·rename_i e he
     split at hc
     ·cases hc
      refine⟨says_out hI (says_slc hF hop hx hlo hhi (elemOfSl_of he) (by assumption) h),run_simple h ?_ npo (by simp) (by simp) (by simp) (by simp) (by simp) (by simp)⟩
      rintro x (h|⟨_,_,h⟩|⟨_,_,h⟩|⟨_,_,h⟩|h|⟨_,h⟩|⟨_,h⟩|⟨_,_,_,h⟩|⟨_,_,h⟩|⟨_,_,_,h⟩)<;>cases h<;>exact compX_tidy hF (by assumption)
     ·cases hc
    ·cases hc
  ·cases hc
 ·
  simp only[Option.map_eq_some_iff]at hc
  obtain⟨zs,hz,rfl⟩:=hc
  refine⟨out_alloc hI hop hz h,?_⟩
  simp only[runOp]at h
  split at h<;>first|(cases h;rfl)|cases h
 ·
  split at hc
  ·cases hc
   refine⟨out_box hI hF hop (by assumption) h,?_⟩
   simp only[runOp]at h
   split at h
   ·split at h<;>first|(cases h;rfl)|cases h
   ·cases h
  ·cases hc
 ·
  split at hc
  ·cases hc
   refine⟨out_store hI hF hop (by assumption) (by assumption) (by assumption) h,?_⟩
   simp only[runOp]at h
   split at h
   ·split at h
    ·split at h<;>first|(cases h;rfl)|cases h
    ·cases h
   ·cases h
  ·cases hc
 ·
  split at hc
  ·rename_i e he
   split at hc
   ·rename_i sz zs hs hz
    split at hc
    ·rename_i cs hcs
     split at hc
     ·rename_i h24
      cases hc
      refine⟨out_bsl hI hF hop (elemOfSl_of he) hs hz hcs h24 h,run_simple h ?_ npo (by simp) (fun _ _ _ _ _ e cs hf=>by cases e;exact fill_np hF hcs (nps_flat (zn hz) _) hf) (by simp) (by simp) (by simp) (by simp)⟩
      rintro x (h|⟨_,_,h⟩|⟨_,_,h⟩|⟨_,_,h⟩|h|⟨_,h⟩|⟨_,h⟩|⟨_,_,_,h⟩|⟨_,_,h⟩|⟨_,_,_,h⟩)<;>cases h
     ·cases hc
    ·cases hc
   ·cases hc
  ·cases hc
 ·
  split at hc
  ·rename_i e he
   split at hc
   ·rename_i i zs l c' hi hz hl hc'
    split at hc
    ·split at hc
     ·rename_i hzl
      cases hc
      refine⟨out_mk0 hI hF hop (elemOfSl_of he) hl hc' hi hz hzl h,?_⟩
      simp only[runOp]at h
      split at h
      ·split at h<;>first|(cases h;rfl)|cases h
      ·cases h
     ·cases hc
    ·cases hc
     refine⟨out_mks hI hF hop (elemOfSl_of he) hl hc' hi hz h,?_⟩
     simp only[runOp]at h
     split at h
     ·split at h<;>first|(cases h;rfl)|cases h
     ·cases h
   ·cases hc
  ·cases hc
 ·
  split at hc
  ·rename_i e he
   split at hc
   ·rename_i i zs cx cy hi hz hx hy
    split at hc
    ·rename_i hb
     obtain⟨rfl,hzl⟩:=hb
     cases hc
     exact out_app hI hF hop (elemOfSl_of he) hx hy hi hz hzl h
    ·cases hc
   ·cases hc
  ·cases hc
 ·
  split at hc
  ·rename_i cx hx
   split at hc
   ·rename_i hs
    cases hc
    refine⟨says_out hI (says_slen hF hop hx (isStr_of hs) h),?_⟩
    simp only[runOp]at h
    split at h<;>first|(cases h;rfl)|cases h
   ·split at hc
    ·rename_i hs
     obtain⟨e,he⟩:=Option.isSome_iff_exists.1 hs
     cases hc
     refine⟨says_out hI (says_len hF hop hx (elemOfSl_of he) h),?_⟩
     simp only[runOp]at h
     split at h<;>first|(cases h;rfl)|cases h
    ·split at hc
     ·rename_i hs
      obtain⟨⟨kk,e⟩,he⟩:=Option.isSome_iff_exists.1 hs
      cases hc
      refine⟨says_out hI (says_mplen hI hF hop hx he h),?_⟩
      simp only[runOp]at h
      split at h
      ·split at h<;>first|(cases h;rfl)|cases h
      ·cases h
     ·cases hc
  ·cases hc
 ·cases hc
end
def stB(ns:List Nat)(cs:List (List PV)):St:={nx:=ns.length,cnt:=fun t=>ns.getD t 0,fl:=0,objs:=fun k=>cs[k]?,maps:=fun _=>none}
def Enters(P:Program)(f:FuncId):Prop:=∃ fn,P.funcs[f]? =some fn∧fn.name≠ "runtime.NumGoroutine" ∧fn.body.isSome=true
def fnOf(f:Nat):Nat:=f % 1000000
def RetOk(f:Nat)(vs:List Value)(v:Value)(e:Ending):Prop:=if f / 1000000=0 then e= .returned v else ∃ u,e= .returned u∧v= .tuple #[u,vs.getD 0 undef]
theorem fnOf_lt{f:Nat}(h:f<1000000):fnOf f=f:=by unfold fnOf;omega
theorem fnOf_back{f:Nat}(h:f<1000000):fnOf (backF f)=f:=by unfold fnOf backF;omega
theorem RetOk_lt{f:Nat}(h:f<1000000){vs:List Value}{v:Value}{e:Ending}:RetOk f vs v e↔e= .returned v:=by
 unfold RetOk
 rw[if_pos (by omega)]
theorem RetOk_back{f:Nat}{vs:List Value}{v:Value}{e:Ending}:RetOk (backF f) vs v e↔∃ u,e= .returned u∧v= .tuple #[u,vs.getD 0 undef]:=by
 unfold RetOk backF
 rw[if_neg (by omega)]
def CallOk(P:Program)(B:Nat→Nat→Option Value)(cf:CallF):Prop:=∀ f as ns cs r rs cs',cf f as ns cs=some (r,rs,cs')→
 Enters P (fnOf f)∧cs'.length=cs.length∧np r=true∧(∀ c∈cs',nps c=true)∧
 ∀ G w (vs:List Value),Inv P B G (stB ns cs) w→as.length=vs.length→(∀ (j:Nat) p v,as[j]? =some p→vs[j]? =some v→R G p v∧tidy p=true)→
  Calls P (fnOf f) vs.toArray w fun e w'=>∃ v G',RetOk f vs v e∧R G' r v∧Inv P B G' (stB rs cs') w'∧Step G w G' w'∧G'.ob=G.ob∧∀ k,k<cs.length→G'.oe k=G.oe k
mutual
theorem off_ren(f:Nat→Option Nat)(s:Bool)(K:Nat→Bool):∀ (p:PV),off K (ren f s p)=off K p
 | .list n cs t=>by rw[ren_list];simp[off,offs_rens f s K cs]
 | .iptr cs o t=>by rw[ren_iptr];simp[off,offs_rens f s K cs]
 | .agg cs=>by simp[ren,off,offs_rens f s K cs]
 | .tup cs=>by simp[ren,off,offs_rens f s K cs]
 | .fn g cs=>by simp[ren,off,offs_rens f s K cs]
 | .ptr _ _=>rfl
 | .osl _ _ _ _=>rfl
 | .mp _=>rfl
 | .any=>rfl
 | .hole=>rfl
 | .int _ _=>rfl
 | .bool _=>rfl
 | .str _=>rfl
 | .nilp=>rfl
 | .nili=>rfl
 | .err=>rfl
theorem offs_rens(f:Nat→Option Nat)(s:Bool)(K:Nat→Bool):∀ (ps:List PV),offs K (rens f s ps)=offs K ps
 | []=>rfl
 |p::ps=>by simp[rens,offs,off_ren f s K p,offs_rens f s K ps]
end
theorem nps_rens{f:Nat→Option Nat}{s:Bool}{cs:List PV}(h:nps cs=true):nps (rens f s cs)=true:=by
 simp only[nps,offs_rens];exact h
theorem nps_strips{cs:List PV}(h:nps cs=true):nps (strips cs)=true:=nps_rens h
theorem idxIn_get:∀ {l:List Nat} {k i:Nat},idxIn l k=some i→l[i]? =some k
 | [],k,i,h=>by cases h
 |x::xs,k,i,h=>by
  unfold idxIn at h
  split at h
  ·rename_i e;cases h;simp[e]
  ·simp only[Option.map_eq_some_iff]at h
   obtain⟨j,hj,rfl⟩:=h
   simpa using idxIn_get hj
theorem idxIn_of:∀ {l:List Nat} {k i:Nat},l.Nodup→l[i]? =some k→idxIn l k=some i
 | [],k,i,_,h=>by simp at h
 |x::xs,k,i,hn,h=>by
  simp only[List.nodup_cons]at hn
  unfold idxIn
  cases i with
  |zero=>simp at h;rw[if_pos h]
  |succ i=>
   have h':xs[i]? =some k:=by simpa using h
   have hne:x≠k:=by rintro rfl;exact hn.1 (List.mem_of_getElem? h')
   rw[if_neg hne,idxIn_of hn.2 h']
   rfl
theorem idxIn_not{l:List Nat}{k:Nat}(h:l.contains k=false):idxIn l k=none:=by
 cases hx:idxIn l k with
 |none=>rfl
 |some i=>
  have:=List.mem_of_getElem? (idxIn_get hx)
  rw[List.contains_iff_mem.2 this]at h
  cases h
theorem nodupB_spec:∀ {l:List Nat},nodupB l=true→l.Nodup
 | [],_=>List.nodup_nil
 |x::xs,h=>by
  simp only[nodupB,Bool.and_eq_true,Bool.not_eq_true']at h
  refine List.nodup_cons.2 ⟨fun hm=>?_,nodupB_spec h.2⟩
  rw[List.contains_iff_mem.2 hm]at h
  cases h.1
theorem killT_nil(p:PV):killT [] p=p:=by
 have:tf (List.contains ([]:List Nat) ·) p=true:=tf_none p
 simp only[killT,this,if_true]
theorem killObjs_nil(objs:Nat→Option (List PV)):killObjs [] objs=objs:=by
 funext s
 simp only[killObjs]
 cases objs s with
 |none=>rfl
 |some c=>simp[killT_nil,List.map_id'']
theorem killMaps_nil(maps:Nat→Option (List (PV×PV))):killMaps [] maps=maps:=by
 funext s
 simp only[killMaps]
 cases maps s with
 |none=>rfl
 |some c=>simp[killT_nil]
theorem setAll_not{objs:Nat→Option (List PV)}:∀ {ks:List Nat} {cs:List (List PV)} {s:Nat},s∉ks→setAll objs ks cs s=objs s
 | [],_,_,_=>rfl
 |k::ks,[],_,_=>rfl
 |k::ks,c::cs,s,h=>by
  simp only[List.mem_cons,not_or]at h
  simp only[setAll]
  rw[setAll_not h.2]
  simp[h.1]
theorem setAll_at{objs:Nat→Option (List PV)}:∀ {ks:List Nat} {cs:List (List PV)} {i s:Nat},ks.Nodup→ks[i]? =some s→ks.length=cs.length→setAll objs ks cs s=cs[i]?
 | [],_,i,s,_,h,_=>by simp at h
 |k::ks,[],_,_,_,_,hl=>by simp at hl
 |k::ks,c::cs,i,s,hn,h,hl=>by
  simp only[List.nodup_cons]at hn
  simp only[setAll]
  cases i with
  |zero=>
   simp at h;subst h
   rw[setAll_not hn.1]
   simp
  |succ i=>
   rw[setAll_at hn.2 (by simpa using h) (by simpa using hl)]
   simp
theorem nodup_inj:∀ {ks:List Nat} {i j s:Nat},ks.Nodup→ks[i]? =some s→ks[j]? =some s→i=j
 | [],i,j,s,_,h,_=>by simp at h
 |k::ks,i,j,s,hn,h,h'=>by
  simp only[List.nodup_cons]at hn
  cases i<;>cases j
  ·rfl
  ·simp at h h';subst h;exact absurd (List.mem_of_getElem? h') hn.1
  ·simp at h h';subst h';exact absurd (List.mem_of_getElem? h) hn.1
  ·rename_i i j
   have:=nodup_inj (i:=i) (j:=j) (s:=s) hn.2 (by simpa using h) (by simpa using h')
   omega
theorem getAll_get{st:St}:∀ {ks:List Nat} {cs:List (List PV)},getAll st ks=some cs→ks.length=cs.length∧∀ (i s:Nat),ks[i]? =some s→st.objs s=cs[i]?
 | [],cs,h=>by cases h;exact⟨rfl,fun i s h=>by simp at h⟩
 |k::ks,cs,h=>by
  unfold getAll at h
  split at h
  ·rename_i c cs' h1 h2
   cases h
   obtain⟨hl,hg⟩:=getAll_get h2
   refine⟨by simp[hl],fun i s hi=>?_⟩
   cases i with
   |zero=>simp at hi;subst hi;simpa using h1
   |succ i=>simpa using hg i s (by simpa using hi)
  ·cases h
theorem keysOf_nodup:∀ {as:List PV} {ks:List Nat},keysOf as=some ks→ks.Nodup
 | [],ks,h=>by cases h;exact List.nodup_nil
 |p::ps,ks,h=>by
  unfold keysOf at h
  split at h
  ·rename_i e;cases e
  ·rename_i s off ps' e
   cases e
   split at h
   ·rename_i ks' hk
    split at h
    ·rename_i hb
     cases h
     exact List.nodup_cons.2 ⟨by simpa using hb.2,keysOf_nodup hk⟩
    ·cases h
   ·cases h
  ·rename_i e
   cases e
   split at h
   ·exact keysOf_nodup h
   ·cases h
theorem handOn_length(J mv:List Nat):∀ (as:List PV) (i n:Nat),(handOn J mv i n as).length=as.length
 | [],_,_=>rfl
 |p::ps,i,n=>by
  cases p<;>simp[handOn,handOn_length J mv ps]
theorem handOn_get{J mv:List Nat}:∀ {as:List PV} {ks:List Nat} {i n j:Nat} {q:PV},keysOf as=some ks→(handOn J mv i n as)[j]? =some q→
  (∃ t s,ks[t]? =some s∧as[j]? =some (.ptr s 0)∧q= .ptr (n+t) 0)∨∃ p,as[j]? =some p∧np p=true∧q=if mv.contains (i+j)then ren (idxIn J) false p else strip p
 | [],ks,i,n,j,q,h,hq=>by simp[handOn]at hq
 |p::ps,ks,i,n,j,q,h,hq=>by
  unfold keysOf at h
  split at h
  ·rename_i e;cases e
  ·rename_i s off ps' e
   cases e
   split at h
   ·rename_i ks' hk
    split at h
    ·rename_i hb
     cases h
     obtain⟨rfl,_⟩:=hb
     have hq':(PV.ptr n 0::handOn J mv (i+1) (n+1) ps)[j]? =some q:=hq
     cases j with
     |zero=>simp at hq';subst hq';exact .inl ⟨0,s,rfl,rfl,by simp⟩
     |succ j=>
      rcases handOn_get hk (by simpa using hq')with⟨t,s',h1,h2,h3⟩|⟨p,h1,h2,h3⟩
      ·exact .inl ⟨t+1,s',by simpa using h1,by simpa using h2,by rw[h3];congr 1;omega⟩
      ·exact .inr ⟨p,by simpa using h1,h2,by rw[h3,show i+1+j=i+(j+1) by omega]⟩
    ·cases h
   ·cases h
  ·rename_i p' ps' hne e
   cases e
   split at h
   ·rename_i hp
    have hq':((if mv.contains i then ren (idxIn J) false p else strip p)::handOn J mv (i+1) n ps)[j]? =some q:=by
     cases p with
     |ptr s o=>simp[np,off]at hp
     |_=>exact hq
    cases j with
    |zero=>simp only[List.getElem?_cons_zero,Option.some.injEq]at hq';subst hq';exact .inr ⟨p,rfl,hp,rfl⟩
    |succ j=>
     rcases handOn_get h (by simpa using hq')with⟨t,s',h1,h2,h3⟩|⟨p,h1,h2,h3⟩
     ·exact .inl ⟨t,s',h1,by simpa using h2,h3⟩
     ·exact .inr ⟨p,by simpa using h1,h2,by rw[h3,show i+1+j=i+(j+1) by omega]⟩
   ·cases h
theorem spare_get{J mv:List Nat}:∀ {as:List PV} {i j:Nat} {p:PV},spare J mv i as=true→as[j]? =some p→mv.contains (i+j)=true∨tf (J.contains ·) p=true
 | [],i,j,p,_,h=>by simp at h
 |a::as,i,j,p,hs,h=>by
  simp only[spare,Bool.and_eq_true,Bool.or_eq_true]at hs
  cases j with
  |zero=>simp at h;subst h;simpa using hs.1
  |succ j=>have:=spare_get hs.2 (j:=j) (by simpa using h);rwa [show i+1+j=i+(j+1) by omega]at this
theorem boxOn_get{J:List Nat}:∀ {bs:List Bool} {cs:List (List PV)} {k:Nat} {c:List PV},boxSpare J bs cs=true→(boxOn J bs cs)[k]? =some c→
  ∃ c0,cs[k]? =some c0∧(c=rens (idxIn J) false c0∨(c=strips c0∧tfs (J.contains ·) c0=true))
 | [],[],k,c,_,h=>by simp[boxOn]at h
 | [],_::_,k,c,hs,h=>by simp[boxSpare]at hs
 |b::bs,[],k,c,_,h=>by simp[boxOn]at h
 |b::bs,d::cs,k,c,hs,h=>by
  simp only[boxSpare,Bool.and_eq_true,Bool.or_eq_true]at hs
  simp only[boxOn]at h
  cases k with
  |zero=>
   simp only[List.getElem?_cons_zero,Option.some.injEq]at h
   subst h
   refine⟨d,rfl,?_⟩
   cases b with
   |true=>exact .inl rfl
   |false=>exact .inr ⟨rfl,by simpa using hs.1⟩
  |succ k=>
   obtain⟨c0,h1,h2⟩:=boxOn_get hs.2 (k:=k) (by simpa using h)
   exact⟨c0,by simpa using h1,h2⟩
theorem boxOn_length{J:List Nat}:∀ {bs:List Bool} {cs:List (List PV)},(boxOn J bs cs).length=cs.length
 | [],cs=>by simp[boxOn]
 |b::bs,[]=>by simp[boxOn]
 |b::bs,c::cs=>by simp[boxOn,boxOn_length (bs:=bs) (cs:=cs)]
def Gh.hand(G:Gh)(ks J:List Nat):Gh:=
 {com:=G.com,sh:=G.sh,tk:=fun t=>(J[t]?).bind G.tk,ob:=fun k=>(ks[k]?).bind G.ob,nx:=J.length,pv:=fun b=>(G.pv b).bind (idxIn J),
  xp:=fun b=>(match G.pv b with|some k=>!J.contains k|none=>false)||G.xp b,oe:=fun k=>(ks[k]?).bind G.oe,mb:=fun _=>none}
theorem rn_hand(G:Gh)(ks J:List Nat):Rn (idxIn J) (fun _=>false) false G (G.hand ks J) where
 com b o v h _:=h
 sh b x h:=h
 tk k k' h _ _:=by
  have hg:=idxIn_get h
  refine⟨(List.getElem?_eq_some_iff.1 hg).1,fun x' hx'=>?_⟩
  simp only[Gh.hand,hg,Option.bind_some]at hx'
  exact⟨x',hx',Nat.le_refl _,fun _=>rfl⟩
 pv b k' o v _ _ h:=by
  simp only[Gh.hand,Option.bind_eq_some_iff]at h
  obtain⟨k,h1,h2⟩:=h
  exact .inl ⟨k,h1,h2⟩
 xp b o v _ _ h:=by
  simp only[Gh.hand,Bool.or_eq_true]at h
  rcases h with h|h
  ·split at h
   ·rename_i k hk
    exact .inr ⟨k,hk,idxIn_not (by simpa using h)⟩
   ·cases h
  ·exact .inl h
theorem rn_spare(G:Gh)(ks J:List Nat):Rn (fun _=>none) (J.contains ·) false G (G.hand ks J) where
 com b o v h _:=h
 sh b x h:=h
 tk k k' h:=by cases h
 pv b k' o v _ hK h:=by
  simp only[Gh.hand,Option.bind_eq_some_iff]at h
  obtain⟨k,h1,h2⟩:=h
  rw[idxIn_not (hK k h1)]at h2;cases h2
 xp b o v _ _ h:=by
  simp only[Gh.hand,Bool.or_eq_true]at h
  rcases h with h|h
  ·split at h
   ·rename_i k hk
    exact .inr ⟨k,hk,rfl⟩
   ·cases h
  ·exact .inl h
theorem Rs.ren{f:Nat→Option Nat}{K:Nat→Bool}{X:Bool}{G G':Gh}(h:Rn f K X G G'){sw:Bool}{cs:List PV}{vs:List Value}(hR:Rs G cs vs)(hn:nps cs=true)(hK:tfs K cs=true)(hX:X=true→closeds cs=true):Rs G' (rens f sw cs) vs:=by
 obtain⟨hl,hr,h1⟩:=hR
 refine⟨by rw[rens_length];exact hl,fun j p u hp hu=>?_,h1⟩
 rw[rens_get]at hp
 cases hc:cs[j]? with
 |none=>rw[hc]at hp;simp at hp
 |some q=>
  rw[hc]at hp
  simp at hp
  subst hp
  exact(hr j q u hc hu).ren h (fun _=>true) (fun s hs=>by cases hs) (nps_get hn hc) (tfs_get hK hc) (fun hx=>closeds_get (hX hx) hc)
section
variable {G:Gh} {st st':St} {w:World}
def TsOk(st:St)(ts:List (Nat×Nat)):Prop:=(ts.map (·.1)).Nodup∧∀ q∈ts,q.1<st.nx∧st.cnt q.1=q.2∧st.fl≤q.1
theorem tsOk_of{ts:List (Nat×Nat)}(h1:nodupB (ts.map (·.1))=true)(h2:ts.all (okTok st)=true):TsOk st ts:=by
 refine⟨nodupB_spec h1,fun q hq=>?_⟩
 have:=(List.all_eq_true.1 h2) q hq
 simp only[okTok,can,Bool.and_eq_true,decide_eq_true_eq,beq_iff_eq]at this
 exact⟨this.1.1,this.1.2,this.2⟩
theorem tsOk_get{ts:List (Nat×Nat)}(h:TsOk st ts){t k:Nat}(hk:(ts.map (·.1))[t]? =some k):k<st.nx∧(ts.map (·.2)).getD t 0=st.cnt k∧st.fl≤k∧t<ts.length:=by
 rw[List.getElem?_map,Option.map_eq_some_iff]at hk
 obtain⟨q,hq,rfl⟩:=hk
 obtain⟨h1,h2,h3⟩:=h.2 q (List.mem_of_getElem? hq)
 exact⟨h1,by simp[List.getD_eq_getElem?_getD,List.getElem?_map,hq,h2],h3,(List.getElem?_eq_some_iff.1 hq).1⟩
def BoxesOn(J:List Nat)(cs ds:List (List PV)):Prop:=∀ (k:Nat) c,ds[k]? =some c→∃ c0,cs[k]? =some c0∧(c=rens (idxIn J) false c0∨(c=strips c0∧tfs (J.contains ·) c0=true))
theorem Inv.hand(hI:Inv P B G st w){ks:List Nat}{cs ds:List (List PV)}(hn:ks.Nodup)(hg:getAll st ks=some cs){ts:List (Nat×Nat)}(hts:TsOk st ts)(hds:ds.length=cs.length)(hbx:BoxesOn (ts.map (·.1)) cs ds):
  Inv P B (G.hand ks (ts.map (·.1))) (stB (ts.map (·.2)) ds) w:=by
 obtain⟨hl,hget⟩:=getAll_get hg
 generalize hJ:ts.map (·.1)=J at*
 have hJn:J.Nodup:=by rw[←hJ];exact hts.1
 have hJl:J.length=ts.length:=by rw[←hJ];simp
 have hJk:∀ {t k:Nat},J[t]? =some k→k<st.nx∧(ts.map (·.2)).getD t 0=st.cnt k∧st.fl≤k∧t<ts.length:=fun h=>tsOk_get hts (by rw[hJ];exact h)
 have htk:∀ {t x},(G.hand ks J).tk t=some x→∃ k,J[t]? =some k∧G.tk k=some x:=by
  intro t x h
  simpa only[Gh.hand,Option.bind_eq_some_iff]using h
 have hob:∀ {k b},(G.hand ks J).ob k=some b→∃ s,ks[k]? =some s∧G.ob s=some b:=by
  intro k b h
  simpa only[Gh.hand,Option.bind_eq_some_iff]using h
 refine⟨hI.com,hI.sh,by simp[Gh.hand,stB,hJl],fun t x h=>?_,fun t h=>?_,fun t r h=>?_,fun t u r q h1 h2 hb=>?_,fun t r h=>?_,?_,?_,?_,?_,?_,fun b k h=>?_,fun b h=>?_,fun b o v h=>?_,fun s b e sz h1 h2=>?_,fun s es h=>(by cases h),fun s b h=>(by cases h),fun s u b h=>(by cases h),fun s _=>rfl,fun k b h=>?_,fun t m h=>by obtain⟨k,hk,hx⟩:=htk h;exact hI.ful k m hx⟩
 ·obtain⟨k,hk,hx⟩:=htk h
  obtain⟨h1,h2,_,h4⟩:=hJk hk
  refine⟨by simpa [stB]using h4,?_⟩
  simp only[stB]
  rw[h2,(hI.cnt k x hx).2]
 ·have hlt:t<J.length:=by simpa [stB,hJl]using h
  have hk:J[t]? =some J[t]:=List.getElem?_eq_getElem hlt
  obtain⟨x,hx⟩:=hI.live _ (hJk hk).1
  exact⟨x,by simp only[Gh.hand,hk,Option.bind_some];exact hx⟩
 ·obtain⟨k,hk,hx⟩:=htk h
  obtain⟨h1,h2,h3,h4,h5,h6⟩:=hI.room k r hx
  refine⟨h1,h2,h3,h4,h5,?_⟩
  have hp:=(hI.priv k r hx).1 (hJk hk).2.2.1
  simp[Gh.hand,hp,h6,List.mem_of_getElem? hk]
 ·obtain⟨k,hk,hx⟩:=htk h1
  obtain⟨l,hl',hy⟩:=htk h2
  have:=hI.apart k l r q hx hy hb
  subst this
  exact nodup_inj hJn hk hl'
 ·obtain⟨k,hk,hx⟩:=htk h
  have hp:=(hI.priv k r hx).1 (hJk hk).2.2.1
  have hpi:(G.hand ks J).pv r.b=some t:=by simp only[Gh.hand,hp,Option.bind_some];exact idxIn_of hJn hk
  rw[hpi]
  exact⟨fun _=>rfl,fun j hj=>(Option.some.inj hj).symm⟩
 ·intro k c h
  obtain⟨c0,h1,h2⟩:=hbx k c h
  have hk:k<ks.length:=by have:=(List.getElem?_eq_some_iff.1 h1).1;omega
  have hks:ks[k]? =some ks[k]:=List.getElem?_eq_getElem hk
  have hs:st.objs ks[k]=some c0:=by rw[hget k _ hks,h1]
  obtain⟨b,e,vs,hb,hh,hR⟩:=hI.objs _ c0 hs
  refine⟨b,e,vs,by simp only[Gh.hand,hks,Option.bind_some];exact hb,hh,?_⟩
  rcases h2 with rfl|⟨rfl,h2⟩
  ·exact hR.ren (rn_hand G ks J) (hI.npo _ c0 hs) (tfs_none c0) (by simp)
  ·exact hR.ren (rn_spare G ks J) (hI.npo _ c0 hs) h2 (by simp)
 ·intro k b h
  obtain⟨s,h1,h2⟩:=hob h
  exact hI.obs s b h2
 ·intro k l b h h'
  obtain⟨s,h1,h2⟩:=hob h
  obtain⟨u,h3,h4⟩:=hob h'
  have:=hI.obj s u b h2 h4
  subst this
  exact nodup_inj hn h1 h3
 ·intro k h
  have h':ds[k]? =none:=h
  have:ks.length≤k:=by have:=List.getElem?_eq_none_iff.1 h';omega
  simp[Gh.hand,List.getElem?_eq_none this]
 ·intro k c h
  obtain⟨c0,h1,h2⟩:=hbx k c h
  have hk:k<ks.length:=by have:=(List.getElem?_eq_some_iff.1 h1).1;omega
  have hs:st.objs ks[k]=some c0:=by rw[hget k _ (List.getElem?_eq_getElem hk),h1]
  have:=hI.npo _ c0 hs
  rcases h2 with rfl|⟨rfl,h2⟩
  ·exact nps_rens this
  ·exact nps_strips this
 ·simp only[Gh.hand,Option.bind_eq_some_iff]at h
  obtain⟨k',h1,_⟩:=h
  exact hI.pvl b k' h1
 ·simp only[Gh.hand,Bool.or_eq_true]at h
  rcases h with h|h
  ·split at h
   ·rename_i k hk;exact hI.pvl b k hk
   ·cases h
  ·exact hI.xpl b h
 ·obtain⟨h1,h2,h3⟩:=hI.base b o v h
  exact⟨h1,by simp[Gh.hand,h2],h3⟩
 ·simp only[Gh.hand,Option.bind_eq_some_iff]at h1 h2
  obtain⟨s1,h3,h4⟩:=h1
  obtain⟨s2,h5,h6⟩:=h2
  rw[h3]at h5;cases h5
  exact hI.oes s1 b e sz h4 h6
 ·obtain⟨s,h1,h2⟩:=hob h
  obtain⟨h3,h4⟩:=hI.obx s b h2
  simp[Gh.hand,h3,h4]
def Gh.back(G G1:Gh)(J:List Nat)(m:Nat)(cl:Bool):Gh:=
 {com:=G1.com,sh:=G1.sh,tk:=fun t=>if t<G.nx then(if J.contains t then some (.full 0)else G.tk t)else G1.tk (t-G.nx),ob:=G.ob,nx:=G.nx+m,
  pv:=fun b=>match G1.pv b with
   |some k=>some (G.nx+k)
   |none=>if cl then(match G.pv b with|some k=>if J.contains k then none else some k|none=>none)else none,
  xp:=G.xp,oe:=G.oe,mb:=G.mb}
theorem rn_back{G G1:Gh}{ks J:List Nat}{m:Nat}{cl:Bool}(hxp:G1.xp=(G.hand ks J).xp)(hm:G1.nx=m):Rn (fun k=>some (G.nx+k)) (fun _=>false) cl G1 (G.back G1 J m cl) where
 com b o v h _:=h
 sh b x h:=h
 tk k k' h _ hlt:=by
  cases h
  refine⟨by simp[Gh.back];omega,fun x' hx'=>?_⟩
  simp only[Gh.back]at hx'
  rw[if_neg (by omega),Nat.add_sub_cancel_left]at hx'
  exact⟨x',hx',Nat.le_refl _,fun _=>rfl⟩
 pv b k' o v _ _ h:=by
  simp only[Gh.back]at h
  split at h
  ·rename_i k hk
   cases h
   exact .inl ⟨k,hk,rfl⟩
  ·split at h
   ·rename_i hc
    split at h
    ·rename_i k hk
     split at h
     ·cases h
     ·rename_i hJ
      refine .inr ⟨hc,?_⟩
      rw[hxp]
      simp only[Gh.hand,hk,Bool.or_eq_true]
      exact .inl (by simpa using hJ)
    ·cases h
   ·cases h
 xp b o v _ _ h:=by
  simp only[Gh.back]at h
  exact .inl (by rw[hxp];simp[Gh.hand,h])
theorem hand_pv_none{G:Gh}{ks J:List Nat}{b:Nat}(h:∀ k,G.pv b=some k→J.contains k=false):(G.hand ks J).pv b=none:=by
 simp only[Gh.hand]
 cases hp:G.pv b with
 |none=>rfl
 |some k=>simp only[Option.bind_some];exact idxIn_not (h k hp)
theorem rn_stay{G G1:Gh}{ks J:List Nat}{m:Nat}{cl:Bool}(hle:LeW (G.hand ks J) G1):Rn some (J.contains ·) false G (G.back G1 J m cl) where
 com b o v h hK:=(hle.com b o v h (hand_pv_none hK)).1
 sh b x h:=hle.sh b x h
 tk k k' h hK hlt:=by
  cases h
  refine⟨by simp[Gh.back];omega,fun x' hx'=>?_⟩
  simp only[Gh.back,if_pos hlt]at hx'
  rw[if_neg (by rw[hK];simp)]at hx'
  exact⟨x',hx',Nat.le_refl _,fun _=>rfl⟩
 pv b k' o v h hK hp:=by
  have h1:=(hle.com b o v h (hand_pv_none hK)).2
  simp only[Gh.back,h1]at hp
  split at hp
  ·split at hp
   ·rename_i k hk
    split at hp
    ·cases hp
    ·cases hp;exact .inl ⟨_,hk,rfl⟩
   ·cases hp
  ·cases hp
 xp b o v _ _ h:= .inl h
theorem R.stay{G G1:Gh}{ks J:List Nat}{m:Nat}{cl:Bool}(hle:LeW (G.hand ks J) G1){p:PV}{v:Value}(hR:R G p v):R (G.back G1 J m cl) (killT J p) v:=by
 unfold killT
 split
 ·rename_i ht
  have:=hR.ren (sw:=false) (rn_stay (m:=m) (cl:=cl) hle) (fun _=>false) (fun s _=>rfl) (off_none p) ht (by simp)
  rwa [ren_some]at this
 ·exact .any v
theorem killT_np{J:List Nat}{p:PV}(h:np p=true):np (killT J p)=true:=by
 unfold killT;split
 ·exact h
 ·rfl
theorem killT_tidy{J:List Nat}{p:PV}(h:tidy p=true):tidy (killT J p)=true:=by
 unfold killT;split
 ·exact h
 ·rfl
theorem Rs.stay{G G1:Gh}{ks J:List Nat}{m:Nat}{cl:Bool}(hle:LeW (G.hand ks J) G1){cs:List PV}{vs:List Value}(hR:Rs G cs vs):Rs (G.back G1 J m cl) (cs.map (killT J)) vs:=by
 obtain⟨hl,hr,h1⟩:=hR
 refine⟨by simpa using hl,fun j p u hp hu=>?_,h1⟩
 rw[List.getElem?_map,Option.map_eq_some_iff]at hp
 obtain⟨q,hq,rfl⟩:=hp
 exact(hr j q u hq hu).stay hle
theorem nps_kill{J:List Nat}{cs:List PV}(h:nps cs=true):nps (cs.map (killT J))=true:=
 nps_of fun p hp=>by
  obtain⟨q,hq,rfl⟩:=List.mem_map.1 hp
  exact killT_np (nps_mem h hq)
theorem Inv.back(hI:Inv P B G st w){ks:List Nat}{cs cs':List (List PV)}{ns:List Nat}{cl:Bool}(hn:ks.Nodup)(hg:getAll st ks=some cs)(hlen:cs'.length=cs.length){ts:List (Nat×Nat)}(hts:TsOk st ts){G1:Gh}{w1:World}
  (hI1:Inv P B G1 (stB ns cs') w1) (hS1:Step (G.hand ks (ts.map (·.1))) w G1 w1) (hob1:G1.ob=(G.hand ks (ts.map (·.1))).ob) (hoe1:∀ k,k<cs.length→G1.oe k=(G.hand ks (ts.map (·.1))).oe k) (hcs:∀ c∈cs',nps c=true) (hcl:cl=true→∀ c∈cs',closeds c=true):
  Inv P B (G.back G1 (ts.map (·.1)) ns.length cl) {st.more ns with cnt:=(fun t=>if(ts.map (·.1)).contains t then 0 else(st.more ns).cnt t),objs:=setAll (killObjs (ts.map (·.1)) st.objs) ks (cs'.map (rens (fun k=>some (st.nx+k)) false)),maps:=killMaps (ts.map (·.1)) st.maps,fl:=if cl then st.fl else st.nx} w1∧
  Step G w (G.back G1 (ts.map (·.1)) ns.length cl) w1:=by
 obtain⟨hl,hget⟩:=getAll_get hg
 generalize hJ:ts.map (·.1)=J at*
 have hJn:J.Nodup:=by rw[←hJ];exact hts.1
 have hJk:∀ {t k:Nat},J[t]? =some k→k<st.nx∧st.fl≤k:=fun h=>by
  have:=tsOk_get hts (by rw[hJ];exact h)
  exact⟨this.1,this.2.2.1⟩
 have hJlt:∀ {k:Nat},J.contains k=true→k<st.nx:=fun h=>by
  obtain⟨i,hi,e⟩:=List.getElem_of_mem (List.contains_iff_mem.1 h)
  exact(hJk (by rw[←e];exact List.getElem?_eq_getElem hi)).1
 have hnx:=hI.nx
 have hnx1:G1.nx=ns.length:=hI1.nx
 have hxp:G1.xp=(G.hand ks J).xp:=hS1.le.xp
 have hsz:=hS1.size
 have old:∀ {t r},G.tk t=some (.room r)→r.b<w.heap.size:=by
  intro t r h
  obtain⟨h1,_⟩:=hI.room t r h
  obtain⟨cur,hc,_⟩:=hI.sh _ _ _ h1
  exact(Array.getElem?_eq_some_iff.1 hc).1
 have handT:∀ {t r},(G.hand ks J).tk t=some (.room r)→∃ k,J[t]? =some k∧G.tk k=some (.room r):=by
  intro t r h
  simpa only[Gh.hand,Option.bind_eq_some_iff]using h
 have newT:∀ {t r},G1.tk t=some (.room r)→(∃ k q,J.contains k=true∧G.tk k=some (.room q)∧q.b=r.b)∨w.heap.size≤r.b:=by
  intro t r h
  rcases hS1.nearT t r h with⟨u,q,hu,hq⟩|h
  ·obtain⟨k,hk,hx⟩:=handT hu
   exact .inl ⟨k,q,List.contains_iff_mem.2 (List.mem_of_getElem? hk),hx,hq⟩
  ·exact .inr h
 have comB:∀ {b o v},G1.com b o=some v→b<w.heap.size→G.com b o=some v∨∃ k q,J.contains k=true∧G.tk k=some (.room q)∧q.b=b:=by
  intro b o v h hb
  rcases hS1.nearC b o v h with h|⟨t,r,hr,he⟩|h
  ·exact .inl h
  ·obtain⟨k,hk,hx⟩:=handT hr
   exact .inr ⟨k,r,List.contains_iff_mem.2 (List.mem_of_getElem? hk),hx,he⟩
  ·omega
 have shB:∀ {b x},G1.sh b=some x→b<w.heap.size→G.sh b=some x:=by
  intro b x h hb
  rcases hS1.nearS b x h with h|h
  ·exact h
  ·omega
 have pvB:∀ {b},b<w.heap.size→(∀ k,G.pv b=some k→J.contains k=false)→G1.pv b=none:=by
  intro b hb hK
  cases h:G1.pv b with
  |none=>rfl
  |some k=>
   rcases hS1.nearP b k h with⟨k',hk'⟩|hle
   ·rw[hand_pv_none hK]at hk';cases hk'
   ·omega
 have tkAt:∀ {t x},(G.back G1 J ns.length cl).tk t=some x→(t<G.nx∧J.contains t=true∧x= .full 0)∨(t<G.nx∧J.contains t=false∧G.tk t=some x)∨(G.nx≤t∧J.contains t=false∧G1.tk (t-G.nx)=some x):=by
  intro t x h
  by_cases ht:t<G.nx
  ·simp only[Gh.back,if_pos ht]at h
   cases hj:J.contains t with
   |true=>rw[hj]at h;simp at h;exact .inl ⟨ht,rfl,h.symm⟩
   |false=>rw[hj]at h;exact .inr (.inl ⟨ht,rfl,by simpa using h⟩)
  ·simp only[Gh.back,if_neg ht]at h
   refine .inr (.inr ⟨by omega,?_,h⟩)
   cases hj:J.contains t with
   |false=>rfl
   |true=>have:=hJlt hj;omega
 have keyOf:∀ {k b},G1.ob k=some b→∃ s,ks[k]? =some s∧G.ob s=some b:=by
  intro k b h
  rw[hob1]at h
  simpa only[Gh.hand,Option.bind_eq_some_iff]using h
 have keyIn:∀ {s:Nat},s∈ks→∃ i:Nat,ks[i]? =some s:=fun h=>by
  obtain⟨i,hi,e⟩:=List.getElem_of_mem h
  exact⟨i,by rw[←e];exact List.getElem?_eq_getElem hi⟩
 have hmlen:ks.length=(cs'.map (rens (fun k=>some (st.nx+k)) false)).length:=by simp;omega
 have objAt:∀ {s c},setAll (killObjs J st.objs) ks (cs'.map (rens (fun k=>some (st.nx+k)) false)) s=some c→(∃ (i:Nat) (c0:List PV),ks[i]? =some s∧cs'[i]? =some c0∧c=rens (fun k=>some (st.nx+k)) false c0)∨(s∉ks∧∃ c0,st.objs s=some c0∧c=c0.map (killT J)):=by
  intro s c h
  by_cases hs:s∈ks
  ·obtain⟨i,hi⟩:=keyIn hs
   rw[setAll_at hn hi hmlen,List.getElem?_map,Option.map_eq_some_iff]at h
   obtain⟨c0,h1,h2⟩:=h
   exact .inl ⟨i,c0,hi,h1,h2.symm⟩
  ·rw[setAll_not hs]at h
   simp only[killObjs,Option.map_eq_some_iff]at h
   obtain⟨c0,h1,h2⟩:=h
   exact .inr ⟨hs,c0,h1,h2.symm⟩
 have boxCells:∀ {s b},G.ob s=some b→∃ c e,w.heap[b]? =some (.cells c e (0,0)):=by
  intro s b h
  cases hs:st.objs s with
  |none=>rw[hI.nob s hs]at h;cases h
  |some c=>
   obtain⟨b',e,vs,h1,h2,_⟩:=hI.objs s c hs
   rw[h]at h1;cases h1
   exact⟨_,_,h2⟩
 have roomCells:∀ {t r},G.tk t=some (.room r)→∃ c e,w.heap[r.b]? =some (.cells c e (0,0)):=by
  intro t r h
  obtain⟨h1,_⟩:=hI.room t r h
  obtain⟨cur,hc,_⟩:=hI.sh _ _ _ h1
  exact⟨_,_,hc⟩
 have noBoxRoom:∀ {s t b r},G.ob s=some b→G.tk t=some (.room r)→r.b≠b:=by
  rintro s t b r h1 h2 rfl
  have:=(hI.obs s _ h1).2.2
  rw[(hI.room t r h2).1]at this;cases this
 have hkept:∀ b,b<w.heap.size→(∀ s,s∈ks→G.ob s≠some b)→(∀ t r,G.tk t=some (.room r)→r.b≠b)→w1.heap[b]? =w.heap[b]? :=by
  intro b hb ho ht
  refine hS1.kept b hb (fun k h=>?_) (fun t r h=>?_) (fun s h=>by cases h)
  ·simp only[Gh.hand,Option.bind_eq_some_iff]at h
   obtain⟨s,h1,h2⟩:=h
   exact ho s (List.mem_of_getElem? h1) h2
  ·obtain⟨k,_,hx⟩:=handT h
   exact ht k r hx
 have hmap:∀ {b:Nat} {vs:Array MapEntry} {clk:Nat},w.heap[b]? =some (.map vs clk)→w1.heap[b]? =some (.map vs clk):=by
  intro b vs clk h
  rw[hkept b (Array.getElem?_eq_some_iff.1 h).1 (fun s _ hs=>?_) (fun t r hr e=>?_)]
  ·exact h
  ·obtain⟨c,e,h2⟩:=boxCells hs
   rw[h]at h2;cases h2
  ·obtain⟨c,e',h2⟩:=roomCells hr
   rw[e,h]at h2;cases h2
 have hbox:∀ {s b:Nat},s∉ks→G.ob s=some b→w1.heap[b]? =w.heap[b]? :=by
  intro s b hs hb
  refine hkept b (hI.obs s b hb).1 (fun u hu h=>?_) (fun t r hr=>noBoxRoom hb hr)
  have:=hI.obj u s b h hb
  subst this
  exact hs hu
 refine⟨⟨hI1.com,hI1.sh,?_,?_,?_,?_,?_,?_,?_,?_,hI.obj,?_,?_,?_,fun b h=>by have:=hI.xpl b h;omega,?_,?_,?_,?_,hI.mbi,?_,fun s b h=>?_,fun t m h=>by
  rcases tkAt h with⟨ht,hj,h⟩|⟨ht,hj,h⟩|⟨ht,hj,h⟩
  ·cases h;rfl
  ·exact hI.ful t m h
  ·exact hI1.ful _ m h⟩,⟨⟨fun b o v hc hp=>?_,hS1.le.sh,rfl⟩,hsz,fun b hb ho ht hm=>hkept b hb (fun s _=>ho s) ht,fun s b h=> .inl ⟨s,h⟩,?_,?_,hS1.nearS,?_,fun s b h=> .inl ⟨s,h⟩,hS1.eff⟩⟩
 ·simp[Gh.back,St.more_nx,hnx]
 ·intro t x h
  rcases tkAt h with⟨ht,hj,rfl⟩|⟨ht,hj,h⟩|⟨ht,hj,h⟩
  ·refine⟨by simp only[St.more_nx];omega,?_⟩
   simp only[hj,if_true];rfl
  ·obtain⟨h1,h2⟩:=hI.cnt t x h
   refine⟨by simp only[St.more_nx];omega,?_⟩
   simp only[hj,St.more_old st ns h1]
   exact h2
  ·obtain⟨h1,h2⟩:=hI1.cnt _ x h
   simp only[stB]at h1 h2
   refine⟨by simp only[St.more_nx];omega,?_⟩
   simp only[hj,St.more_new st ns (show st.nx≤t by omega) (by omega)]
   rw[←hnx]
   exact h2
 ·intro t ht
  simp only[St.more_nx]at ht
  by_cases h:t<G.nx
  ·cases hj:J.contains t with
   |true=>exact⟨.full 0,by simp only[Gh.back,if_pos h,hj,if_true]⟩
   |false=>
    obtain⟨x,hx⟩:=hI.live t (by omega)
    exact⟨x,by simp only[Gh.back,if_pos h,hj];exact hx⟩
  ·obtain⟨x,hx⟩:=hI1.live (t-G.nx) (by simp only[stB];omega)
   exact⟨x,by simp only[Gh.back,if_neg h];exact hx⟩
 ·intro t r h
  rcases tkAt h with⟨ht,hj,h⟩|⟨ht,hj,h⟩|⟨ht,hj,h⟩
  ·cases h
  ·obtain⟨h1,h2,h3,h4,h5,h6⟩:=hI.room t r h
   refine⟨hS1.le.sh _ _ h1,h2,h3,h4,fun o ho=>?_,h6⟩
   cases hc:G1.com r.b o with
   |none=>exact hc
   |some v=>
    rcases comB hc (old h)with h'|⟨k,q,hk,hq,hb⟩
    ·rw[h5 o ho]at h';cases h'
    ·have:=hI.apart t k r q h hq hb.symm
     subst this
     rw[hj]at hk;cases hk
  ·obtain⟨h1,h2,h3,h4,h5,h6⟩:=hI1.room _ r h
   refine⟨h1,h2,h3,h4,h5,?_⟩
   rw[hxp]at h6
   simp only[Gh.hand,Bool.or_eq_false_iff]at h6
   exact h6.2
 ·intro t u r q h1 h2 hb
  rcases tkAt h1 with⟨ht,hj,h1⟩|⟨ht,hj,h1⟩|⟨ht,hj,h1⟩
  ·cases h1
  ·rcases tkAt h2 with⟨hu,hi,h2⟩|⟨hu,hi,h2⟩|⟨hu,hi,h2⟩
   ·cases h2
   ·exact hI.apart t u r q h1 h2 hb
   ·rcases newT h2 with⟨k,q',hk,hq',hb'⟩|hge
    ·have:=hI.apart t k r q' h1 hq' (by rw[hb,hb'])
     subst this
     rw[hj]at hk;cases hk
    ·have:=old h1;omega
  ·rcases tkAt h2 with⟨hu,hi,h2⟩|⟨hu,hi,h2⟩|⟨hu,hi,h2⟩
   ·cases h2
   ·rcases newT h1 with⟨k,q',hk,hq',hb'⟩|hge
    ·have:=hI.apart u k q q' h2 hq' (by rw[←hb,hb'])
     subst this
     rw[hi]at hk;cases hk
    ·have:=old h2;omega
   ·have:=hI1.apart _ _ r q h1 h2 hb;omega
 ·intro t r h
  rcases tkAt h with⟨ht,hj,h⟩|⟨ht,hj,h⟩|⟨ht,hj,h⟩
  ·cases h
  ·have hp:=hI.priv t r h
   have hpb:G1.pv r.b=none:=pvB (old h) fun k hk=>by rw[hp.2 k hk];exact hj
   simp only[Gh.back,hpb]
   cases cl with
   |true=>
    simp only[if_true]
    refine⟨fun hf=>?_,fun j hjj=>?_⟩
    ·simp[hp.1 hf,show t∉J by simpa using hj]
    ·split at hjj
     ·rename_i k hk
      split at hjj
      ·cases hjj
      ·cases hjj;exact hp.2 _ hk
     ·cases hjj
   |false=>simp;omega
  ·have hp:=hI1.priv _ r h
   have h1:=hp.1 (by simp[stB])
   simp only[Gh.back,h1]
   refine⟨fun _=>by simp;omega,fun j hj=>by simp at hj;omega⟩
 ·intro s c h
  rcases objAt h with⟨i,c0,hi,hc,rfl⟩|⟨hs,c0,hc,rfl⟩
  ·obtain⟨b,e,vs,hb,hh,hR⟩:=hI1.objs i c0 hc
   obtain⟨s',h1,h2⟩:=keyOf hb
   rw[hi]at h1
   cases h1
   have hm:=List.mem_of_getElem? hc
   have:=hR.ren (sw:=false) (rn_back (m:=ns.length) (cl:=cl) hxp hnx1) (hcs c0 hm) (tfs_none c0) (fun hx=>hcl hx c0 hm)
   rw[hnx]at this
   exact⟨b,e,vs,h2,hh,this⟩
  ·obtain⟨b,e,vs,hb,hh,hR⟩:=hI.objs s c0 hc
   exact⟨b,e,vs,hb,by rw[hbox hs hb];exact hh,hR.stay hS1.le⟩
 ·intro s b h
  obtain⟨h1,h2,h3⟩:=hI.obs s b h
  refine⟨by omega,fun o=>?_,?_⟩
  ·cases hc:G1.com b o with
   |none=>exact hc
   |some v=>
    rcases comB hc h1 with h'|⟨k,q,hk,hq,hb⟩
    ·rw[h2 o]at h';cases h'
    ·exact absurd hb (noBoxRoom h hq)
  ·cases hc:G1.sh b with
   |none=>exact hc
   |some x=>have:=shB hc h1;rw[h3]at this;cases this
 ·intro s h
  by_cases hs:s∈ks
  ·obtain⟨i,hi⟩:=keyIn hs
   have h':setAll (killObjs J st.objs) ks (cs'.map (rens (fun k=>some (st.nx+k)) false)) s=none:=h
   rw[setAll_at hn hi hmlen]at h'
   have:=List.getElem?_eq_none_iff.1 h'
   have:=(List.getElem?_eq_some_iff.1 hi).1
   omega
  ·have h':setAll (killObjs J st.objs) ks (cs'.map (rens (fun k=>some (st.nx+k)) false)) s=none:=h
   rw[setAll_not hs]at h'
   simp only[killObjs,Option.map_eq_none_iff]at h'
   exact hI.nob s h'
 ·intro s c h
  rcases objAt h with⟨i,c0,hi,hc,rfl⟩|⟨hs,c0,hc,rfl⟩
  ·exact nps_rens (hcs c0 (List.mem_of_getElem? hc))
  ·exact nps_kill (hI.npo s c0 hc)
 ·intro b k h
  simp only[Gh.back]at h
  split at h
  ·rename_i k' hk'
   exact hI1.pvl b k' hk'
  ·split at h
   ·split at h
    ·rename_i k' hk'
     have:=hI.pvl b k' hk';omega
    ·cases h
   ·cases h
 ·intro b o v h
  obtain⟨h1,h2,h4⟩:=hI1.base b o v h
  have h3:=(hI.base b o v h).2.1
  exact⟨h1,by simp[Gh.back,h2,h3],h4⟩
 ·intro s b e sz h1 h2
  by_cases hs:s∈ks
  ·obtain⟨i,hi⟩:=keyIn hs
   exact hI1.oes i b e sz (by rw[hob1];simp only[Gh.hand,hi,Option.bind_some];exact h1) (by rw[hoe1 i (by have:=(List.getElem?_eq_some_iff.1 hi).1;omega)];simp only[Gh.hand,hi,Option.bind_some];exact h2)
  ·obtain⟨h3,cur,h4⟩:=hI.oes s b e sz h1 h2
   exact⟨h3,cur,by rw[hbox hs h1];exact h4⟩
 ·intro s es h
  simp only[killMaps,Option.map_eq_some_iff]at h
  obtain⟨es0,h0,rfl⟩:=h
  obtain⟨b,vs,clk,h1,h2,h3,h4⟩:=hI.mobj s es0 h0
  refine⟨b,vs,clk,h1,hmap h2,⟨by simpa using h3.1,fun i q x hq hx=>?_⟩,fun q hq=>?_⟩
  ·rw[List.getElem?_map,Option.map_eq_some_iff]at hq
   obtain⟨q0,hq0,rfl⟩:=hq
   obtain⟨h5,h6⟩:=h3.2 i q0 x hq0 hx
   exact⟨h5,h6.stay hS1.le⟩
  ·obtain⟨q0,hq0,rfl⟩:=List.mem_map.1 hq
   exact killT_np (h4 q0 hq0)
 ·intro s b h
  obtain⟨vs,clk,h2⟩:=hI.mbs s b h
  exact⟨vs,clk,hmap h2⟩
 ·intro s h
  simp only[killMaps,Option.map_eq_none_iff]at h
  exact hI.nomb s h
 ·obtain⟨h1,h2⟩:=hI.obx s b h
  have h3:=pvB (hI.obs s b h).1 (fun k hk=>by rw[h1]at hk;cases hk)
  exact⟨by simp[Gh.back,h3,h1],h2⟩
 ·have h1:=hS1.le.com b o v hc (hand_pv_none fun k hk=>by rw[hp]at hk;cases hk)
  exact⟨h1.1,by simp[Gh.back,h1.2,hp]⟩
 ·intro t r h
  rcases tkAt h with⟨ht,hj,h⟩|⟨ht,hj,h⟩|⟨ht,hj,h⟩
  ·cases h
  ·exact .inl ⟨t,r,h,rfl⟩
  ·rcases newT h with⟨k,q,_,hq,hb⟩|hge
   ·exact .inl ⟨k,q,hq,hb⟩
   ·exact .inr hge
 ·intro b o v h
  rcases hS1.nearC b o v h with h|⟨t,r,hr,he⟩|h
  ·exact .inl h
  ·obtain⟨k,_,hx⟩:=handT hr
   exact .inr (.inl ⟨k,r,hx,he⟩)
  ·exact .inr (.inr h)
 ·intro b k h
  simp only[Gh.back]at h
  split at h
  ·rename_i k' hk'
   rcases hS1.nearP b k' hk' with⟨j,hj⟩|hge
   ·simp only[Gh.hand,Option.bind_eq_some_iff]at hj
    obtain⟨k2,hk2,_⟩:=hj
    exact .inl ⟨k2,hk2⟩
   ·exact .inr hge
  ·split at h
   ·split at h
    ·rename_i k' hk';exact .inl ⟨k',hk'⟩
    ·cases h
   ·cases h
theorem call_core{cf:CallF}(hcf:CallOk P B cf)(hI:Inv P B G st w){f:Nat}{as as':List PV}{vs:List Value}(hl:as.length=vs.length)(hR:∀ (j:Nat) p v,as[j]? =some p→vs[j]? =some v→R G p v∧tidy p=true)
  {ks:List Nat} (hks:keysOf as=some ks) {cs ds:List (List PV)} (hcs:getAll st ks=some cs) {ts:List (Nat×Nat)} (hts:TsOk st ts) (hds:ds.length=cs.length) (hbx:BoxesOn (ts.map (·.1)) cs ds) (hl':as'.length=as.length)
  (has:∀ (j:Nat) q,as'[j]? =some q→(∃ t s,ks[t]? =some s∧as[j]? =some (.ptr s 0)∧q= .ptr t 0)∨∃ p,as[j]? =some p∧np p=true∧(q=ren (idxIn (ts.map (·.1))) false p∨(q=strip p∧tf ((ts.map (·.1)).contains ·) p=true)))
  {r:PV} {ns:List Nat} {cs':List (List PV)} (hcall:cf f as' (ts.map (·.2)) ds=some (r,ns,cs')) (hlen:cs'.length=cs.length):
  Enters P (fnOf f)∧np r=true∧Calls P (fnOf f) vs.toArray w fun e w'=>∃ v G',RetOk f vs v e∧R G' (ren (fun k=>some (st.nx+k)) false r) v∧
   Inv P B G' {st.more ns with cnt:=(fun t=>if(ts.map (·.1)).contains t then 0 else(st.more ns).cnt t),objs:=setAll (killObjs (ts.map (·.1)) st.objs) ks (cs'.map (rens (fun k=>some (st.nx+k)) false)),maps:=killMaps (ts.map (·.1)) st.maps,fl:=if closed r && cs'.all closeds then st.fl else st.nx} w'∧
   Step G w G' w'∧Rn some ((ts.map (·.1)).contains ·) false G G'∧G'.bx=G.bx:=by
 obtain⟨hE,_,hnp,hcs',hC⟩:=hcf f _ _ _ r ns cs' hcall
 have hnd:=keysOf_nodup hks
 refine⟨hE,hnp,?_⟩
 refine(hC (G.hand ks (ts.map (·.1))) w vs (hI.hand hnd hcs hts hds hbx) (by rw[hl'];exact hl) (fun j q v hq hv=>?_)).mono ?_
 ·rcases has j q hq with⟨t,s,h1,h2,rfl⟩|⟨p,h1,h2,h3⟩
  ·have:=(hR j _ v h2 hv).1
   cases this with
   |ptr _ _ b hb=>exact⟨.ptr _ _ b (by simp[Gh.hand,h1,hb]),rfl⟩
  ·rcases h3 with rfl|⟨rfl,h3⟩
   ·refine⟨(hR j p v h1 hv).1.ren (rn_hand G ks _) (fun _=>true) (fun s hs=>by cases hs) h2 (tf_none p) (by simp),np_tidy ?_⟩
    simp only[np,off_ren];exact h2
   ·refine⟨(hR j p v h1 hv).1.ren (rn_spare G ks _) (fun _=>true) (fun s hs=>by cases hs) h2 h3 (by simp),np_tidy ?_⟩
    simp only[np,strip,off_ren];exact h2
 ·rintro e w1 ⟨v,G1,hret,hR1,hI1,hS1,hob1,hoe1⟩
  generalize hclD:(closed r && cs'.all closeds)=cl
  have hcl1:cl=true→closed r=true∧∀ c∈cs',closeds c=true:=by
   intro hc
   rw[hc]at hclD
   simp only[Bool.and_eq_true,List.all_eq_true]at hclD
   exact hclD
  obtain⟨hI2,hS2⟩:=hI.back hnd hcs hlen hts hI1 hS1 hob1 (fun k hk=>hoe1 k (by omega)) hcs' (fun hc=>(hcl1 hc).2)
  refine⟨v,G.back G1 (ts.map (·.1)) ns.length cl,hret,?_,hI2,hS2,rn_stay hS1.le,rfl⟩
  rw[←hI.nx]
  exact hR1.ren (rn_back hS1.le.xp hI1.nx) (fun _=>true) (fun s hs=>by cases hs) hnp (tf_none r) (fun hc=>(hcl1 hc).1)
mutual
theorem tf_shift(n:Nat):∀ (p:PV),tf (fun k=>decide (k<n)) (ren (fun k=>some (n+k)) false p)=true
 | .list m cs t=>by
  rw[ren_list]
  have h:=tfs_shift n cs
  cases t<;>simp[tf,Tok.ren,Tok.free,Tok.of,h]
 | .iptr cs o t=>by
  rw[ren_iptr]
  have h:=tfs_shift n cs
  cases t<;>simp[tf,Tok.ren,Tok.free,Tok.of,h]
 | .agg cs=>by simp[ren,tf,tfs_shift n cs]
 | .tup cs=>by simp[ren,tf,tfs_shift n cs]
 | .fn g cs=>by simp[ren,tf,tfs_shift n cs]
 | .ptr _ _=>rfl
 | .osl _ _ _ _=>rfl
 | .mp _=>rfl
 | .any=>rfl
 | .hole=>rfl
 | .int _ _=>rfl
 | .bool _=>rfl
 | .str _=>rfl
 | .nilp=>rfl
 | .nili=>rfl
 | .err=>rfl
theorem tfs_shift(n:Nat):∀ (ps:List PV),tfs (fun k=>decide (k<n)) (rens (fun k=>some (n+k)) false ps)=true
 | []=>rfl
 |p::ps=>by simp[rens,tfs,tf_shift n p,tfs_shift n ps]
end
def Gh.mask(G:Gh)(ks:List Nat):Gh where
 com b o:=match G.pv b with
  |some _=>none
  |none=>G.com b o
 sh:=G.sh
 tk t:=match G.tk t with
  |some (.room r)=>if G.pv r.b=some t then some (.full 0)else some (.room r)
  |x=>x
 ob s:=if ks.contains s then G.ob s else none
 nx:=G.nx
 pv _:=none
 xp:=G.xp
 oe s:=if ks.contains s then G.oe s else none
 mb _:=none
def stMask(G:Gh)(ks:List Nat)(st:St):St where
 nx:=st.nx
 cnt t:=match (G.mask ks).tk t with
  |some x=>x.cnt
  |none=>0
 fl:=st.nx
 objs s:=if ks.contains s then st.objs s else none
 maps _:=none
theorem mask_room{ks:List Nat}{t:Nat}{r:Room}(h:(G.mask ks).tk t=some (.room r)):G.tk t=some (.room r)∧G.pv r.b≠some t:=by
 simp only[Gh.mask]at h
 split at h
 ·rename_i r' hr
  split at h
  ·cases h
  ·rename_i hp;cases h;exact⟨hr,hp⟩
 ·rename_i h0;exact absurd h (h0 r)
theorem mask_com{ks:List Nat}{b o:Nat}{v:Value}(h:(G.mask ks).com b o=some v):G.com b o=some v∧G.pv b=none:=by
 simp only[Gh.mask]at h
 split at h
 ·cases h
 ·rename_i hp;exact⟨h,hp⟩
theorem mask_com_of{ks:List Nat}{b o:Nat}{v:Value}(h:G.com b o=some v)(hp:G.pv b=none):(G.mask ks).com b o=some v:=by
 simp only[Gh.mask,hp];exact h
theorem rn_mask(ks:List Nat):Rn some (fun _=>true) false G (G.mask ks) where
 com b o v h hK:=mask_com_of h (by cases hp:G.pv b with|none=>rfl|some k=>cases hK k hp)
 sh b x h:=h
 tk k k' _ h:=by cases h
 pv b k' o v _ _ h:=by cases h
 xp b o v _ _ h:= .inl h
theorem Inv.mask(hI:Inv P B G st w){ks:List Nat}(hf:∀ s c,s∈ks→st.objs s=some c→tfs (fun _=>true) c=true):Inv P B (G.mask ks) (stMask G ks st) w:=by
 have hin:∀ {s b},(G.mask ks).ob s=some b→s∈ks∧G.ob s=some b:=by
  intro s b h
  simp only[Gh.mask]at h
  split at h
  ·rename_i hs;exact⟨by simpa using hs,h⟩
  ·cases h
 have hmo:∀ {b o},G.com b o=none→(G.mask ks).com b o=none:=by
  intro b o h
  simp only[Gh.mask]
  split
  ·rfl
  ·exact h
 have hlt:∀ {t x},(G.mask ks).tk t=some x→t<st.nx:=by
  intro t x h
  simp only[Gh.mask]at h
  split at h
  ·rename_i r hr;exact(hI.cnt t _ hr).1
  ·exact(hI.cnt t x h).1
 refine⟨fun b o v h=>hI.com b o v (mask_com h).1,hI.sh,hI.nx,fun t x h=>⟨hlt h,?_⟩,fun t ht=>?_,fun t r h=>?_,fun t u r q h1 h2 hb=>hI.apart t u r q (mask_room h1).1 (mask_room h2).1 hb,fun t r h=>⟨fun hf=>?_,fun j hj=>(by cases hj)⟩,fun s c h=>?_,fun s b h=>?_,fun s u b h1 h2=>hI.obj s u b (hin h1).2 (hin h2).2,fun s h=>?_,fun s c h=>?_,fun b k h=>(by cases h),hI.xpl,fun b o v h=>?_,fun s b e sz h1 h2=>?_,fun s es h=>(by cases h),fun s b h=>(by cases h),fun s u b h=>(by cases h),fun s h=>rfl,fun s b h=>⟨rfl,(hI.obx s b (hin h).2).2⟩,fun t m h=>?_⟩
 ·simp only[stMask,h]
 ·obtain⟨x,hx⟩:=hI.live t ht
  simp only[Gh.mask,hx]
  split
  ·split<;>exact⟨_,rfl⟩
  ·exact⟨_,rfl⟩
 ·obtain⟨h1,h2,h3,h4,h5,h6⟩:=hI.room t r (mask_room h).1
  exact⟨h1,h2,h3,h4,fun o ho=>hmo (h5 o ho),h6⟩
 ·have:=(hI.cnt t _ (mask_room h).1).1
  have hf:st.nx≤t:=hf
  omega
 ·simp only[stMask]at h
  split at h
  ·rename_i hs
   obtain⟨b,e,vs,h1,h2,h3⟩:=hI.objs s c h
   refine⟨b,e,vs,by simp only[Gh.mask,hs,if_true];exact h1,h2,h3.1,fun j p u hp hu=>?_,h3.2.2⟩
   have:=(h3.2.1 j p u hp hu).ren (sw:=false) (rn_mask ks) (fun _=>true) (fun s hs=>by cases hs) (nps_get (hI.npo s c h) hp) (tfs_get (hf s c (by simpa using hs) h) hp) (by simp)
   rwa [ren_some]at this
  ·cases h
 ·obtain⟨h1,h2,h3⟩:=hI.obs s b (hin h).2
  exact⟨h1,fun o=>hmo (h2 o),h3⟩
 ·simp only[stMask]at h
  simp only[Gh.mask]
  split
  ·rename_i hs;rw[if_pos hs]at h;exact hI.nob s h
  ·rfl
 ·simp only[stMask]at h
  split at h
  ·exact hI.npo s c h
  ·cases h
 ·obtain⟨h1,h2,h3⟩:=hI.base b o v h
  exact⟨mask_com_of h1 h2,rfl,h3⟩
 ·obtain⟨hs,h3⟩:=hin h1
  simp only[Gh.mask,show ks.contains s=true by simpa using hs,if_true]at h2
  exact hI.oes s b e sz h3 h2
 ·simp only[Gh.mask]at h
  split at h
  ·split at h
   ·cases h;rfl
   ·cases h
  ·exact hI.ful t m h
def Gh.unmask(G G1:Gh):Gh where
 com b o:=match G.pv b with
  |some _=>G.com b o
  |none=>G1.com b o
 sh:=G1.sh
 tk t:=if t<G.nx then G.tk t else G1.tk t
 ob:=G.ob
 nx:=G1.nx
 pv b:=match G.pv b with
  |some k=>some k
  |none=>G1.pv b
 xp:=G.xp
 oe:=G.oe
 mb:=G.mb
theorem Inv.unmask(hI:Inv P B G st w){ks:List Nat}{cs cs':List (List PV)}{ns:List Nat}(hn:ks.Nodup)(hg:getAll st ks=some cs)(hlen:cs'.length=cs.length)(hcs:∀ c∈cs',nps c=true){G1:Gh}{w1:World}
  (hI1:Inv P B G1 {(stMask G ks st).more ns with objs:=setAll (stMask G ks st).objs ks (cs'.map (rens (fun k=>some (st.nx+k)) false)),maps:=fun _=>none,fl:=st.nx} w1)
  (hS1:Step (G.mask ks) w G1 w1) (hrn1:Rn some (fun _=>false) false (G.mask ks) G1) (hbx:G1.bx=(G.mask ks).bx):
  Inv P B (G.unmask G1) {st.more ns with objs:=setAll st.objs ks (cs'.map (rens (fun k=>some (st.nx+k)) false)),fl:=st.fl} w1∧Step G w (G.unmask G1) w1∧Rn some (fun _=>false) false G (G.unmask G1)∧
  Rn some (fun k=>decide (k<st.nx)) false G1 (G.unmask G1):=by
 obtain⟨hl,hget⟩:=getAll_get hg
 have hnx:=hI.nx
 have hnx1:G1.nx=st.nx+ns.length:=by rw[hI1.nx];simp only[St.more_nx];rfl
 have hsz:=hS1.size
 have hobm:∀ {s b},(G.mask ks).ob s=some b→s∈ks∧G.ob s=some b:=by
  intro s b h
  simp only[Gh.mask]at h
  split at h
  ·rename_i hs;exact⟨by simpa using hs,h⟩
  ·cases h
 have hob1:∀ {s b},G1.ob s=some b→s∈ks∧G.ob s=some b:=fun{s b} h=>by
  have:=congrFun hbx s
  rw[bx_ob this]at h
  exact hobm h
 have old:∀ {t r},G.tk t=some (.room r)→r.b<w.heap.size:=by
  intro t r h
  obtain⟨h1,_⟩:=hI.room t r h
  obtain⟨cur,hc,_⟩:=hI.sh _ _ _ h1
  exact(Array.getElem?_eq_some_iff.1 hc).1
 have hcnt1:∀ {t x},G1.tk t=some x→t<st.nx→(stMask G ks st).cnt t=x.cnt:=fun{t x} h ht=>by
  have:=(hI1.cnt t x h).2
  simp only at this
  rwa [St.more_old _ _ (show t<(stMask G ks st).nx from ht)]at this
 have tkOld:∀ {t x},t<st.nx→(G.mask ks).tk t=some x→G1.tk t=some x:=by
  intro t x ht hx
  obtain⟨x',hx'⟩:=hI1.live t (by simp only[St.more_nx];show t<st.nx+_;omega)
  obtain⟨_,h2⟩:=hrn1.tk t t rfl rfl (by show t<G.nx;omega)
  obtain⟨y,hy,hle,heq⟩:=h2 x' hx'
  rw[hx]at hy;cases hy
  have:=hcnt1 hx' ht
  simp only[stMask,hx]at this
  rw[heq this];exact hx'
 have roomNP:∀ {t r},G.tk t=some (.room r)→G.pv r.b≠some t→(G.mask ks).tk t=some (.room r):=by
  intro t r h hp
  simp only[Gh.mask,h,if_neg hp]
 have com1:∀ {b o v},G1.com b o=some v→G.pv b=none:=by
  intro b o v h
  cases hp:G.pv b with
  |none=>rfl
  |some k=>
   have hb:=hI.pvl b k hp
   rcases hS1.nearC b o v h with h1|⟨t,r,hr,he⟩|h1
   ·rw[(mask_com h1).2]at hp;cases hp
   ·obtain⟨h2,h3⟩:=mask_room hr
    have:=(hI.priv t r h2).2 k (by rw[he];exact hp)
    subst this
    rw[he]at h3
    exact absurd hp h3
   ·omega
 have noBoxRoom:∀ {s t b r},G.ob s=some b→G.tk t=some (.room r)→r.b≠b:=by
  rintro s t b r h1 h2 rfl
  have:=(hI.obs s _ h1).2.2
  rw[(hI.room t r h2).1]at this;cases this
 have hkept:∀ b,b<w.heap.size→(∀ s,s∈ks→G.ob s≠some b)→(∀ t r,G.tk t=some (.room r)→G.pv r.b≠some t→r.b≠b)→w1.heap[b]? =w.heap[b]? :=by
  intro b hb ho ht
  refine hS1.kept b hb (fun k h=>?_) (fun t r h=>?_) (fun s h=>by cases h)
  ·obtain⟨h1,h2⟩:=hobm h;exact ho k h1 h2
  ·obtain⟨h1,h2⟩:=mask_room h;exact ht t r h1 h2
 have hkeptP:∀ {b k},G.pv b=some k→w1.heap[b]? =w.heap[b]? :=by
  intro b k hp
  refine hkept b (hI.pvl b k hp) (fun s _ h=>?_) (fun t r h1 h2 he=>?_)
  ·rw[(hI.obx s b h).1]at hp;cases hp
  ·subst he
   have:=(hI.priv t r h1).2 k hp
   subst this
   exact h2 hp
 have boxCells:∀ {s b},G.ob s=some b→∃ c e,w.heap[b]? =some (.cells c e (0,0)):=by
  intro s b h
  cases hs:st.objs s with
  |none=>rw[hI.nob s hs]at h;cases h
  |some c=>
   obtain⟨b',e,vs,h1,h2,_⟩:=hI.objs s c hs
   rw[h]at h1;cases h1
   exact⟨_,_,h2⟩
 have roomCells:∀ {t r},G.tk t=some (.room r)→∃ c e,w.heap[r.b]? =some (.cells c e (0,0)):=by
  intro t r h
  obtain⟨h1,_⟩:=hI.room t r h
  obtain⟨cur,hc,_⟩:=hI.sh _ _ _ h1
  exact⟨_,_,hc⟩
 have hmap:∀ {b:Nat} {vs:Array MapEntry} {clk:Nat},w.heap[b]? =some (.map vs clk)→w1.heap[b]? =some (.map vs clk):=by
  intro b vs clk h
  rw[hkept b (Array.getElem?_eq_some_iff.1 h).1 (fun s _ hs=>?_) (fun t r hr _ e=>?_)]
  ·exact h
  ·obtain⟨c,e,h2⟩:=boxCells hs
   rw[h]at h2;cases h2
  ·obtain⟨c,e',h2⟩:=roomCells hr
   rw[e,h]at h2;cases h2
 have hbox:∀ {s b:Nat},s∉ks→G.ob s=some b→w1.heap[b]? =w.heap[b]? :=by
  intro s b hs hb
  refine hkept b (hI.obs s b hb).1 (fun u hu h=>?_) (fun t r hr _=>noBoxRoom hb hr)
  have:=hI.obj u s b h hb
  subst this
  exact hs hu
 have newB:∀ {t r},st.nx≤t→G1.tk t=some (.room r)→w.heap.size≤r.b:=by
  intro t r ht h
  rcases hS1.nearT t r h with⟨u,q,hu,hb⟩|h
  ·have hul:u<st.nx:=(hI.cnt u _ (mask_room hu).1).1
   have:=hI1.apart t u r q h (tkOld hul hu) hb.symm
   omega
  ·exact h
 have pvOf:∀ {b},w.heap.size≤b→G.pv b=none:=by
  intro b hb
  cases hp:G.pv b with
  |none=>rfl
  |some k=>have:=hI.pvl b k hp;omega
 have pv1:∀ {b},b<w.heap.size→G1.pv b=none:=by
  intro b hb
  cases hp:G1.pv b with
  |none=>rfl
  |some k=>
   rcases hS1.nearP b k hp with⟨k',h⟩|h
   ·cases h
   ·omega
 have rnG:Rn some (fun _=>false) false G (G.unmask G1):=by
  refine⟨fun b o v h _=>?_,fun b x h=>hS1.le.sh b x h,fun k k' h _ hlt=>?_,fun b k' o v h _ hp=>?_,fun b o v _ _ h=> .inl h⟩
  ·simp only[Gh.unmask]
   split
   ·exact h
   ·rename_i hp;exact(hS1.le.com b o v (mask_com_of h hp) rfl).1
  ·cases h
   refine⟨by simp only[Gh.unmask];omega,fun x' hx'=>⟨x',?_,Nat.le_refl _,fun _=>rfl⟩⟩
   simp only[Gh.unmask,if_pos hlt]at hx'
   exact hx'
  ·simp only[Gh.unmask]at hp
   split at hp
   ·rename_i k hk;cases hp;exact .inl ⟨_,hk,rfl⟩
   ·rename_i hk
    rw[(hS1.le.com b o v (mask_com_of h hk) rfl).2]at hp;cases hp
 have rn1:Rn some (fun k=>decide (k<st.nx)) false G1 (G.unmask G1):=by
  refine⟨fun b o v h _=>?_,fun b x h=>h,fun k k' h hK hlt=>?_,fun b k' o v h _ hp=>?_,fun b o v _ _ h=> .inl (by rw[hS1.le.xp];exact h)⟩
  ·simp only[Gh.unmask,com1 h];exact h
  ·cases h
   have hge:st.nx≤k:=by simpa using hK
   refine⟨hlt,fun x' hx'=>⟨x',?_,Nat.le_refl _,fun _=>rfl⟩⟩
   simp only[Gh.unmask]at hx'
   rwa [if_neg (by omega)]at hx'
  ·simp only[Gh.unmask,com1 h]at hp
   exact .inl ⟨k',hp,rfl⟩
 have stay:∀ {p:PV} {v:Value},np p=true→R G p v→R (G.unmask G1) p v:=by
  intro p v hp hR
  have:=hR.ren (sw:=false) rnG (fun _=>false) (fun s _=>rfl) (off_none p) (tf_none p) (by simp)
  rwa [ren_some]at this
 have hmlen:ks.length=(cs'.map (rens (fun k=>some (st.nx+k)) false)).length:=by simp;omega
 have keyIn:∀ {s:Nat},s∈ks→∃ i:Nat,ks[i]? =some s:=fun h=>by
  obtain⟨i,hi,e⟩:=List.getElem_of_mem h
  exact⟨i,by rw[←e];exact List.getElem?_eq_getElem hi⟩
 have objSame:∀ {s},s∈ks→setAll st.objs ks (cs'.map (rens (fun k=>some (st.nx+k)) false)) s=setAll (stMask G ks st).objs ks (cs'.map (rens (fun k=>some (st.nx+k)) false)) s:=by
  intro s hs
  obtain⟨i,hi⟩:=keyIn hs
  rw[setAll_at hn hi hmlen,setAll_at hn hi hmlen]
 have comNone:∀ {s b},G.ob s=some b→∀ o,G1.com b o=none:=by
  intro s b hb o
  cases hc:G1.com b o with
  |none=>rfl
  |some v=>
   obtain⟨h1,h2,_⟩:=hI.obs s b hb
   rcases hS1.nearC b o v hc with h3|⟨t,r,hr,he⟩|h3
   ·exact absurd (mask_com h3).1 (by rw[h2 o];simp)
   ·exact absurd he (noBoxRoom hb (mask_room hr).1)
   ·omega
 refine⟨⟨fun b o v h=>?_,hI1.sh,by simp only[Gh.unmask,St.more_nx];exact hnx1,fun t x h=>?_,fun t ht=>?_,fun t r h=>?_,fun t u r q h1 h2 hb=>?_,fun t r h=>?_,fun s c h=>?_,fun s b h=>?_,hI.obj,fun s h=>?_,fun s c h=>?_,fun b k h=>?_,fun b h=>by have:=hI.xpl b h;omega,fun b o v h=>?_,fun s b e sz h1 h2=>?_,fun s es h=>?_,fun s b h=>?_,hI.mbi,fun s h=>?_,fun s b h=>?_,fun t m h=>?_⟩,
  ⟨⟨fun b o v hc hp=>?_,hS1.le.sh,rfl⟩,hsz,fun b hb ho ht hm=>hkept b hb (fun s _=>ho s) (fun t r h _=>ht t r h),fun s b h=> .inl ⟨s,h⟩,fun t r h=>?_,fun b o v h=>?_,fun b x h=>hS1.nearS b x h,fun b k h=>?_,fun s b h=> .inl ⟨s,h⟩,hS1.eff⟩,rnG,rn1⟩
 ·simp only[Gh.unmask]at h
  split at h
  ·rename_i k hk
   have:=hI.com b o v h
   simp only[World.cell?]at this ⊢
   rw[hkeptP hk];exact this
  ·exact hI1.com b o v h
 ·simp only[Gh.unmask]at h
  split at h
  ·obtain⟨h1,h2⟩:=hI.cnt t x h
   exact⟨by simp only[St.more_nx];omega,by rw[St.more_old st ns h1];exact h2⟩
  ·rename_i hlt
   obtain⟨h1,h2⟩:=hI1.cnt t x h
   simp only[St.more_nx]at h1
   have h1:t<st.nx+ns.length:=h1
   refine⟨by simp only[St.more_nx];omega,?_⟩
   rw[St.more_new st ns (by omega) h1]
   rw[St.more_new (stMask G ks st) ns (show st.nx≤t by omega) h1]at h2
   exact h2
 ·simp only[St.more_nx]at ht
  by_cases h:t<G.nx
  ·obtain⟨x,hx⟩:=hI.live t (by omega)
   exact⟨x,by simp only[Gh.unmask,if_pos h];exact hx⟩
  ·obtain⟨x,hx⟩:=hI1.live t (by simp only[St.more_nx];exact ht)
   exact⟨x,by simp only[Gh.unmask,if_neg h];exact hx⟩
 ·simp only[Gh.unmask]at h
  split at h
  ·obtain⟨h1,h2,h3,h4,h5,h6⟩:=hI.room t r h
   refine⟨hS1.le.sh _ _ h1,h2,h3,h4,fun o ho=>?_,h6⟩
   simp only[Gh.unmask]
   split
   ·exact h5 o ho
   ·rename_i hp
    have:=tkOld (hI.cnt t _ h).1 (roomNP h (by rw[hp];simp))
    exact(hI1.room t r this).2.2.2.2.1 o ho
  ·rename_i hlt
   obtain⟨h1,h2,h3,h4,h5,h6⟩:=hI1.room t r h
   refine⟨h1,h2,h3,h4,fun o ho=>?_,by rw[←h6,hS1.le.xp];rfl⟩
   simp only[Gh.unmask,pvOf (newB (by omega) h)]
   exact h5 o ho
 ·simp only[Gh.unmask]at h1 h2
  split at h1<;>split at h2
  ·exact hI.apart t u r q h1 h2 hb
  ·have a:=old h1;have b:=newB (by omega) h2;omega
  ·have a:=old h2;have b:=newB (by omega) h1;omega
  ·exact hI1.apart t u r q h1 h2 hb
 ·simp only[Gh.unmask]at h
  split at h
  ·have hp:=hI.priv t r h
   refine⟨fun hf=>by simp only[Gh.unmask,hp.1 hf],fun j hj=>?_⟩
   simp only[Gh.unmask]at hj
   split at hj
   ·rename_i k hk;cases hj;exact hp.2 _ hk
   ·rw[pv1 (old h)]at hj;cases hj
  ·rename_i hlt
   have hp:=hI1.priv t r h
   have hn:=pvOf (newB (by omega) h)
   refine⟨fun _=>by simp only[Gh.unmask,hn];exact hp.1 (by show st.nx≤t;omega),fun j hj=>?_⟩
   simp only[Gh.unmask,hn]at hj
   exact hp.2 j hj
 ·by_cases hs:s∈ks
  ·have h':setAll st.objs ks (cs'.map (rens (fun k=>some (st.nx+k)) false)) s=some c:=h
   have h2:=h'
   rw[objSame hs]at h'
   obtain⟨b,e,vs,hb,hh,hR⟩:=hI1.objs s c h'
   obtain⟨i,hi⟩:=keyIn hs
   rw[setAll_at hn hi hmlen,List.getElem?_map,Option.map_eq_some_iff]at h2
   obtain⟨c0,hc0,rfl⟩:=h2
   refine⟨b,e,vs,(hob1 hb).2,hh,hR.1,fun j p u hp hu=>?_,hR.2.2⟩
   have hq:=hp
   rw[rens_get,Option.map_eq_some_iff]at hq
   obtain⟨q,hq,rfl⟩:=hq
   have:=(hR.2.1 j _ u hp hu).ren (sw:=false) rn1 (fun _=>true) (fun s hs=>by cases hs) (by simp only[off_ren];exact nps_get (hcs c0 (List.mem_of_getElem? hc0)) hq) (tf_shift st.nx q) (by simp)
   rwa [ren_some]at this
  ·have h':setAll st.objs ks (cs'.map (rens (fun k=>some (st.nx+k)) false)) s=some c:=h
   rw[setAll_not hs]at h'
   obtain⟨b,e,vs,hb,hh,hR⟩:=hI.objs s c h'
   exact⟨b,e,vs,hb,by rw[hbox hs hb];exact hh,hR.1,fun j p u hp hu=>stay (nps_get (hI.npo s c h') hp) (hR.2.1 j p u hp hu),hR.2.2⟩
 ·obtain⟨h1,h2,h3⟩:=hI.obs s b h
  refine⟨by omega,fun o=>?_,?_⟩
  ·simp only[Gh.unmask,(hI.obx s b h).1]
   exact comNone h o
  ·cases hc:G1.sh b with
   |none=>exact hc
   |some x=>
    rcases hS1.nearS b x hc with h4|h4
    ·have h4:G.sh b=some x:=h4
     rw[h3]at h4;cases h4
    ·omega
 ·by_cases hs:s∈ks
  ·obtain⟨i,hi⟩:=keyIn hs
   have h':setAll st.objs ks (cs'.map (rens (fun k=>some (st.nx+k)) false)) s=none:=h
   rw[setAll_at hn hi hmlen]at h'
   have:=List.getElem?_eq_none_iff.1 h'
   have:=(List.getElem?_eq_some_iff.1 hi).1
   omega
  ·have h':setAll st.objs ks (cs'.map (rens (fun k=>some (st.nx+k)) false)) s=none:=h
   rw[setAll_not hs]at h'
   exact hI.nob s h'
 ·by_cases hs:s∈ks
  ·obtain⟨i,hi⟩:=keyIn hs
   have h':setAll st.objs ks (cs'.map (rens (fun k=>some (st.nx+k)) false)) s=some c:=h
   rw[setAll_at hn hi hmlen,List.getElem?_map,Option.map_eq_some_iff]at h'
   obtain⟨c0,h1,rfl⟩:=h'
   exact nps_rens (hcs c0 (List.mem_of_getElem? h1))
  ·have h':setAll st.objs ks (cs'.map (rens (fun k=>some (st.nx+k)) false)) s=some c:=h
   rw[setAll_not hs]at h'
   exact hI.npo s c h'
 ·simp only[Gh.unmask]at h
  split at h
  ·rename_i k' hk;have:=hI.pvl b k' hk;omega
  ·exact hI1.pvl b k h
 ·obtain⟨h1,h2,h4⟩:=hI1.base b o v h
  have h3:=(hI.base b o v h).2.1
  exact⟨by simp only[Gh.unmask,h3];exact h1,by simp only[Gh.unmask,h3];exact h2,h4⟩
 ·by_cases hs:s∈ks
  ·have hc:ks.contains s=true:=by simpa using hs
   have hb1:=congrFun hbx s
   have e1:G1.ob s=some b:=by rw[bx_ob hb1];simp only[Gh.mask,hc,if_true];exact h1
   have e2:G1.oe s=some (e,sz):=by rw[bx_oe hb1];simp only[Gh.mask,hc,if_true];exact h2
   exact hI1.oes s b e sz e1 e2
  ·obtain⟨h3,cur,h4⟩:=hI.oes s b e sz h1 h2
   exact⟨h3,cur,by rw[hbox hs h1];exact h4⟩
 ·have h:st.maps s=some es:=by simpa only[St.more_maps]using h
  obtain⟨b,vs,clk,h1,h2,h3,h4⟩:=hI.mobj s es h
  refine⟨b,vs,clk,h1,hmap h2,⟨h3.1,fun i q x hq hx=>?_⟩,h4⟩
  obtain⟨h5,h6⟩:=h3.2 i q x hq hx
  exact⟨h5,stay (h4 q (List.mem_of_getElem? hq)) h6⟩
 ·obtain⟨vs,clk,h2⟩:=hI.mbs s b h
  exact⟨vs,clk,hmap h2⟩
 ·have h:st.maps s=none:=by simpa only[St.more_maps]using h
  exact hI.nomb s h
 ·obtain⟨h1,h2⟩:=hI.obx s b h
  exact⟨by simp only[Gh.unmask,h1];exact pv1 (hI.obs s b h).1,h2⟩
 ·simp only[Gh.unmask]at h
  split at h
  ·exact hI.ful t m h
  ·exact hI1.ful t m h
 ·have h1:=hS1.le.com b o v (mask_com_of hc hp) rfl
  exact⟨by simp only[Gh.unmask,hp];exact h1.1,by simp only[Gh.unmask,hp];exact h1.2⟩
 ·simp only[Gh.unmask]at h
  split at h
  ·exact .inl ⟨t,r,h,rfl⟩
  ·exact .inr (newB (by omega) h)
 ·simp only[Gh.unmask]at h
  split at h
  ·exact .inl h
  ·rcases hS1.nearC b o v h with h|⟨t,r,hr,he⟩|h
   ·exact .inl (mask_com h).1
   ·exact .inr (.inl ⟨t,r,(mask_room hr).1,he⟩)
   ·exact .inr (.inr h)
 ·simp only[Gh.unmask]at h
  split at h
  ·rename_i k' hk;exact .inl ⟨k',hk⟩
  ·rcases hS1.nearP b k h with⟨k',h⟩|h
   ·cases h
   ·exact .inr h
theorem keysOf_get:∀ {as:List PV} {ks:List Nat} {j:Nat} {p:PV},keysOf as=some ks→as[j]? =some p→(∃ s,p= .ptr s 0∧s∈ks)∨np p=true
 | [],_,_,_,_,h=>by simp at h
 |a::as,ks,j,p,hk,h=>by
  have tail:∀ {ks0:List Nat},keysOf as=some ks0→∀ {j:Nat},as[j]? =some p→(∀ s,s∈ks0→s∈ks)→(∃ s,p= .ptr s 0∧s∈ks)∨np p=true:=by
   intro ks0 h0 j hj hsub
   rcases keysOf_get h0 hj with⟨s,h1,h2⟩|h1
   ·exact .inl ⟨s,h1,hsub s h2⟩
   ·exact .inr h1
  cases a with
  |ptr s off=>
   simp only[keysOf]at hk
   split at hk
   ·rename_i ks0 h0
    split at hk
    ·rename_i hc
     cases hk
     cases j with
     |zero=>simp at h;subst h;rw[hc.1];exact .inl ⟨s,rfl,by simp⟩
     |succ j=>exact tail h0 (j:=j) (by simpa using h) (fun s hs=>List.mem_cons_of_mem _ hs)
    ·cases hk
   ·cases hk
  |_=>
   simp only[keysOf]at hk
   split at hk
   ·rename_i hn
    cases j with
    |zero=>simp at h;subst h;exact .inr hn
    |succ j=>exact tail hk (j:=j) (by simpa using h) (fun s hs=>hs)
   ·cases hk
theorem getAll_same{st st2:St}:∀ {ks:List Nat} {cs:List (List PV)},getAll st ks=some cs→(∀ s∈ks,st2.objs s=st.objs s)→getAll st2 ks=some cs
 | [],_,h,_=>h
 |k::ks,cs,h,hs=>by
  simp only[getAll]at h ⊢
  rw[hs k List.mem_cons_self]
  split at h
  ·rename_i c cs0 h1 h2
   rw[h1,getAll_same h2 fun s hm=>hs s (List.mem_cons_of_mem _ hm)]
   exact h
  ·cases h
theorem callP_sound{cf:CallF}(hcf:CallOk P B cf)(hI:Inv P B G st w){f:Nat}{as:List PV}{mv:List Nat}{vs:List Value}(hl:as.length=vs.length)(hR:∀ (j:Nat) p v,as[j]? =some p→vs[j]? =some v→R G p v∧tidy p=true)
  {p:PV} (h:callP cf f as mv st=some (p,st')):
  Enters P (fnOf f)∧np p=true∧Calls P (fnOf f) vs.toArray w fun e w'=>∃ v G',RetOk f vs v e∧R G' p v∧Inv P B G' st' w'∧Step G w G' w'∧Rn some ((takes as mv st).contains ·) false G G'∧G'.bx=G.bx:=by
 unfold callP at h
 split at h
 ·cases h
 ·rename_i ks hks
  split at h
  ·cases h
  ·rename_i cs hcs
   split at h
   ·split at h
    ·rename_i r ns cs' hcall
     split at h
     ·rename_i hlen
      simp only[Option.some.injEq,Prod.mk.injEq]at h
      obtain⟨hp,hst⟩:=h
      cases hfree:freeC as cs with
      |true=>
       have hfr:=hfree
       simp only[freeC,Bool.and_eq_true,List.all_eq_true]at hfr
       obtain⟨-,hf1,hf2⟩:=hfr
       have hnd:=keysOf_nodup hks
       obtain⟨hgl,hget⟩:=getAll_get hcs
       have hIm:=hI.mask (ks:=ks) (fun s c hs hc=>by
        obtain⟨i,hi,e⟩:=List.getElem_of_mem hs
        have hi':ks[i]? =some s:=by rw[←e];exact List.getElem?_eq_getElem hi
        have:=hget i s hi'
        rw[hc]at this
        exact hf2 c (List.mem_of_getElem? this.symm))
       have hRm:∀ (j:Nat) p v,as[j]? =some p→vs[j]? =some v→R (G.mask ks) p v∧tidy p=true:=fun j p v hp hv=>by
        obtain⟨h1,h2⟩:=hR j p v hp hv
        refine⟨?_,h2⟩
        rcases keysOf_get hks hp with⟨s,rfl,hs⟩|hnp
        ·cases h1 with
         |ptr _ _ b hb=>exact .ptr _ _ b (by simp only[Gh.mask,show ks.contains s=true by simpa using hs,if_true];exact hb)
        ·have:=h1.ren (sw:=false) (rn_mask ks) (fun _=>true) (fun s hs=>by cases hs) hnp (hf1 p (List.mem_of_getElem? hp)) (by simp)
         rwa [ren_some]at this
       have hcsm:getAll (stMask G ks st) ks=some cs:=getAll_same hcs fun s hs=>by simp only[stMask,show ks.contains s=true by simpa using hs,if_true]
       obtain⟨hE,hnp,hC⟩:=call_core (ts:=[]) (ds:=cs.map strips) hcf hIm hl hRm hks hcsm ⟨List.nodup_nil,fun q hq=>by cases hq⟩ (by simp) (fun k c hc=>by
        rw[List.getElem?_map,Option.map_eq_some_iff]at hc
        obtain⟨c0,h1,h2⟩:=hc
        exact⟨c0,h1,.inr ⟨h2.symm,tfs_none c0⟩⟩) (handOn_length [] [] as 0 0) (fun j q hq=>by
        rcases handOn_get hks hq with⟨t,s,h1,h2,h3⟩|⟨p,h1,h2,h3⟩
        ·exact .inl ⟨t,s,h1,h2,by simpa using h3⟩
        ·exact .inr ⟨p,h1,h2,.inr ⟨by simpa using h3,tf_none p⟩⟩) hcall hlen
       refine⟨hE,by rw[←hp];simp only[np,off_ren];exact hnp,hC.mono ?_⟩
       rintro e w1 ⟨v,G1,hret,h1,h2,h3,h4,h5⟩
       obtain⟨_,_,_,hcs',_⟩:=hcf f _ _ _ r ns cs' hcall
       have hfl:(if(closed r && cs'.all closeds)=true then(stMask G ks st).fl else(stMask G ks st).nx)=st.nx:=by split<;>rfl
       simp only[List.map_nil,killObjs_nil,killMaps_nil,hfl]at h2
       obtain⟨g1,g2,g3,g4⟩:=hI.unmask hnd hcs hlen hcs' h2 h3 h4 h5
       refine⟨v,G.unmask G1,hret,?_,?_,g2,g3,rfl⟩
       ·rw[←hp]
        have:=h1.ren (sw:=false) g4 (fun _=>true) (fun s hs=>by cases hs) (by simp only[off_ren];exact hnp) (tf_shift st.nx r) (by simp)
        rwa [ren_some]at this
       ·rw[←hst,hfree,Bool.or_true,if_pos rfl]
        exact g1
      |false=>
      obtain⟨hE,hnp,hC⟩:=call_core (ts:=[]) (ds:=cs.map strips) hcf hI hl hR hks hcs ⟨List.nodup_nil,fun q hq=>by cases hq⟩ (by simp) (fun k c hc=>by
       rw[List.getElem?_map,Option.map_eq_some_iff]at hc
       obtain⟨c0,h1,h2⟩:=hc
       exact⟨c0,h1,.inr ⟨h2.symm,tfs_none c0⟩⟩) (handOn_length [] [] as 0 0) (fun j q hq=>by
       rcases handOn_get hks hq with⟨t,s,h1,h2,h3⟩|⟨p,h1,h2,h3⟩
       ·exact .inl ⟨t,s,h1,h2,by simpa using h3⟩
       ·exact .inr ⟨p,h1,h2,.inr ⟨by simpa using h3,tf_none p⟩⟩) hcall hlen
      refine⟨hE,by rw[←hp];simp only[np,off_ren];exact hnp,hC.mono ?_⟩
      rintro e w1 ⟨v,G',hret,h1,h2,h3,h4,h5⟩
      refine⟨v,G',hret,by rw[←hp];exact h1,?_,h3,h4,h5⟩
      rw[←hst]
      simp only[List.map_nil,killObjs_nil,killMaps_nil]at h2
      rw[St.more_maps,hfree,Bool.or_false]
      exact h2
     ·cases h
    ·cases h
   ·rename_i hmv
    split at h
    ·rename_i hb
     simp only[Bool.and_eq_true]at hb
     obtain⟨⟨⟨hb1,hb2⟩,hb3⟩,hb4⟩:=hb
     split at h
     ·rename_i r ns cs' hcall
      split at h
      ·rename_i hlen
       simp only[Option.some.injEq,Prod.mk.injEq]at h
       obtain⟨hp,hst⟩:=h
       have htk:takes as mv st=(movedAll mv as cs).map (·.1):=by
        cases mv with
        |nil=>exact absurd rfl (hmv ·)
        |cons m mv=>simp only[takes,hks,hcs]
       obtain⟨hE,hnp,hC⟩:=call_core (ts:=movedAll mv as cs) (ds:=boxOn ((movedAll mv as cs).map (·.1)) (boxMv mv 0 as) cs) hcf hI hl hR hks hcs (tsOk_of hb1 hb2) boxOn_length (fun k c hc=>boxOn_get hb4 hc) (handOn_length _ mv as 0 0) (fun j q hq=>by
        rcases handOn_get hks hq with⟨t,s,h1,h2,h3⟩|⟨p,h1,h2,h3⟩
        ·exact .inl ⟨t,s,h1,h2,by simpa using h3⟩
        ·refine .inr ⟨p,h1,h2,?_⟩
         split at h3
         ·exact .inl h3
         ·rename_i hne
          rcases spare_get hb3 h1 with h4|h4
          ·exact absurd h4 hne
          ·exact .inr ⟨h3,h4⟩) hcall hlen
       refine⟨hE,by rw[←hp];simp only[np,off_ren];exact hnp,hC.mono ?_⟩
       rintro e w1 ⟨v,G',hret,h1,h2,h3,h4,h5⟩
       rw[htk]
       refine⟨v,G',hret,by rw[←hp];exact h1,?_,h3,h4,h5⟩
       rw[←hst]
       exact h2
      ·cases h
     ·cases h
    ·cases h
theorem R.rn{J:List Nat}{G G':Gh}(h:Rn some (J.contains ·) false G G')(hbx:G'.bx=G.bx){p:PV}{v:Value}(hR:R G p v):R G' (killT J p) v:=by
 unfold killT
 split
 ·rename_i ht
  have:=hR.ren (sw:=false) h (fun _=>false) (fun s _=>by rw[hbx]) (off_none p) ht (by simp)
  rwa [ren_some]at this
 ·exact .any v
end
def Gh.poke(G:Gh)(b off:Nat)(vs:List Value):Gh:={G with com:=fun b' o=>if b'=b∧off≤o∧o<off+vs.length then vs[o-off]? else G.com b' o}
theorem putCells_at{us vs:List Value}{off j:Nat}(h:off+vs.length≤us.length):(putCells us off vs)[j]? =if off≤j∧j<off+vs.length then vs[j-off]? else us[j]? :=by
 rw[←putV_eq vs us off h]
 have hl:(us.take off).length=off:=by rw[List.length_take];omega
 by_cases h1:j<off
 ·rw[if_neg (by omega),List.append_assoc,List.getElem?_append_left (by omega),List.getElem?_take_of_lt h1]
 ·by_cases h2:j<off+vs.length
  ·rw[if_pos ⟨by omega,h2⟩,List.append_assoc,List.getElem?_append_right (by omega),hl,List.getElem?_append_left (by omega)]
  ·rw[if_neg (by omega),List.getElem?_append_right (by simp;omega),List.getElem?_drop,List.length_append,hl]
   congr 1;omega
theorem nps_put:∀ {vs cs:List PV} {off:Nat},nps vs=true→nps cs=true→nps (putCells cs off vs)=true
 | [],cs,off,_,h=>h
 |v::vs,cs,off,h1,h2=>by
  have e1:nps vs=true:=nps_of fun q hq=>nps_mem h1 (List.mem_cons_of_mem _ hq)
  have e2:nps (cs.set off v)=true:=nps_of fun q hq=>by
   rcases List.mem_or_eq_of_mem_set hq with h|h
   ·exact nps_mem h2 h
   ·rw[h];exact nps_mem h1 List.mem_cons_self
  exact nps_put (vs:=vs) e1 e2
section
variable {G:Gh} {st:St} {w:World}
theorem Rm.bk{u:Upd}{G G':Gh}(hst:∀ q v,R G q v→R G' (bkT u q) v){es:List (PV×PV)}{vs:List MapEntry}(h:Rm G es vs):Rm G' (es.map fun q=>(q.1,bkT u q.2)) vs:=by
 refine⟨by rw[List.length_map];exact h.1,fun i q x hq hx=>?_⟩
 rw[List.getElem?_map,Option.map_eq_some_iff]at hq
 obtain⟨q0,hq0,rfl⟩:=hq
 obtain⟨h1,h2⟩:=h.2 i q0 x hq0 hx
 exact⟨h1,hst _ _ h2⟩
theorem Inv.poke(hI:Inv P B G st w){k e off:Nat}{r:Room}(hr:G.tk k=some (.room r))(hm:0<r.m)(he:r.e=e)(hfl:st.fl≤k){cs ds:List PV}{us vs:List Value}(hcs:Rs G cs us)(hds:Rs G ds vs)(hul:us.length=r.m*r.sz)
  (hcom:∀ (j:Nat) u,us[j]? =some u→G.com r.b j=some u) (hfit:off+vs.length≤us.length) (ht1:tfs ([k].contains ·) cs=true) (ht2:tfs ([k].contains ·) ds=true) (hn1:nps cs=true) (hn2:nps ds=true)
  {cur:Array Value} (hcur:w.heap[r.b]? =some (.cells cur r.e (0,0))):
  Inv P B (G.poke r.b off vs) {st with objs:=bkObjs (stxU cs off k e r.m ds) st.objs,maps:=bkMaps (stxU cs off k e r.m ds) st.maps} (w.setRow r.b (cur.toList.take off++vs++cur.toList.drop (off+vs.length)).toArray)∧
  Step G w (G.poke r.b off vs) (w.setRow r.b (cur.toList.take off++vs++cur.toList.drop (off+vs.length)).toArray)∧
  (∀ q v,R G q v→R (G.poke r.b off vs) (bkT (stxU cs off k e r.m ds) q) v)∧np (stxU cs off k e r.m ds).p=true:=by
 obtain⟨hsh,hcm,hmc,hsz,hno,hxr⟩:=hI.room k r hr
 have hklt:=(hI.cnt k _ hr).1
 have hnx:=hI.nx
 have hpv:G.pv r.b=some k:=(hI.priv k r hr).1 hfl
 have hcs':cur.size=r.cap*r.sz:=by
  obtain⟨c,h1,h2⟩:=hI.sh _ _ _ hsh
  rw[hcur]at h1;cases h1;exact h2
 have hule:us.length≤cur.size:=by rw[hul,hcs'];exact Nat.mul_le_mul_right _ hmc
 have hcomAt:∀ b o,(G.poke r.b off vs).com b o=if b=r.b∧off≤o∧o<off+vs.length then vs[o-off]? else G.com b o:=fun _ _=>rfl
 have hne:∀ b,(∀ k',G.pv b=some k'→[k].contains k'=false)→b≠r.b:=by
  rintro b hK rfl
  have:=hK k hpv
  simp at this
 have hrn:Rn some ([k].contains ·) false G (G.poke r.b off vs):=by
  refine⟨fun b o v h hK=>?_,fun _ _ h=>h,fun j j' hj _ hlt=>?_,fun b j o v h _ hp=> .inl ⟨j,hp,rfl⟩,fun b o v _ _ h=> .inl h⟩
  ·rw[hcomAt,if_neg fun h=>hne b hK h.1];exact h
  ·cases hj;exact⟨hlt,fun x' hx=>⟨x',hx,Nat.le_refl _,fun _=>rfl⟩⟩
 have stay:∀ {cs:List PV} {us:List Value},Rs G cs us→tfs ([k].contains ·) cs=true→Rs (G.poke r.b off vs) cs us:=by
  intro cs us h ht
  refine⟨h.1,fun j p u hp hu=>?_,h.2.2⟩
  have:=(h.2.1 j p u hp hu).rn hrn rfl
  rwa [killT,if_pos (tfs_get ht hp)]at this
 have hnew:Rs (G.poke r.b off vs) (putCells cs off ds) (putCells us off vs):=(stay hcs ht1).put off (stay hds ht2)
 have hpl:(putCells us off vs).length=us.length:=putCells_length _ _ _
 have hnp:np (stxU cs off k e r.m ds).p=true:=by
  show np (.list _ (putCells cs off ds) _)=true
  have:=nps_put (off:=off) hn2 hn1
  simpa [np,PM.off,nps]using this
 have hst:∀ q v,R G q v→R (G.poke r.b off vs) (bkT (stxU cs off k e r.m ds) q) v:=by
  intro q v hq
  refine R.bk (u:=stxU cs off k e r.m ds) hrn (fun _=>rfl) (fun cs2 t v ht hR=>?_) hq
  cases t with
  |own j e2=>
   simp only[Tok.isOwn,beq_iff_eq]at ht
   have ht:j=k:=ht
   subst ht
   show R _ (.list r.m (putCells cs off ds) (.own j e)) v
   have hR:R G (.list r.m cs2 (.own j e2)) v:=hR
   generalize hn0:r.m=n0 at hR
   cases hR with
   |listN=>omega
   |list _ _ _ b o cap us2 hn hl hc hr2 h1 htr hp hx=>
   obtain⟨h3,h4⟩:=htr.2 _ hr
   obtain⟨rfl,rfl,rfl,h7,h8⟩:=h4 hn0.symm
   refine .list _ _ _ r.b 0 r.cap _ (by omega) hnew.1 (fun i x hx=>?_) hnew.2.1 hnew.2.2 ⟨by show j<G.nx;omega,fun x hx=>?_⟩ (fun i _ hi=>?_) (fun _ _=>hxr)
   ·rw[putCells_at hfit]at hx
    rw[hcomAt,Nat.zero_add]
    by_cases hi:off≤i∧i<off+vs.length
    ·rw[if_pos hi]at hx
     rw[if_pos ⟨rfl,hi⟩];exact hx
    ·rw[if_neg hi]at hx
     rw[if_neg fun h=>hi h.2];exact hcom i x hx
   ·have hx:G.tk j=some x:=hx
    rw[hr]at hx;cases hx
    exact⟨by simp only[TkE.cnt];omega,fun _=>⟨rfl,rfl,rfl,he,by rw[hpl,hul,hn0]⟩⟩
   ·have hi:G.pv r.b=some i:=hi
    rw[hpv]at hi;cases hi;rfl
  |_=>simp[Tok.isOwn]at ht
 have hob:∀ s b,G.ob s=some b→b≠r.b:=by
  intro s b hb e
  have:=(hI.obs s b hb).2.2
  rw[e,hsh]at this;cases this
 have hother:∀ b,b≠r.b→(w.setRow r.b (cur.toList.take off++vs++cur.toList.drop (off+vs.length)).toArray).heap[b]? =w.heap[b]? :=fun b hb=>setRow_other w r.b b _ hb
 have hrow:=setRow_heap w r.b cur (cur.toList.take off++vs++cur.toList.drop (off+vs.length)).toArray r.e (0,0) hcur
 have hput:cur.toList.take off++vs++cur.toList.drop (off+vs.length)=putCells cur.toList off vs:=putV_eq vs cur.toList off (by simp;omega)
 have hmap:∀ {b':Nat} {vs:Array MapEntry} {clk:Nat},w.heap[b']? =some (.map vs clk)→b'≠r.b:=by
  rintro b' us clk h rfl
  rw[hcur]at h;cases h
 have hbs:∀ {cs:List PV} {us:List Value},Rs G cs us→Rs (G.poke r.b off vs) (bkTs (stxU cs off k e r.m ds) cs) us→True:=fun _ _=>trivial
 refine⟨⟨fun b o v h=>?_,fun b e' n h=>?_,hI.nx,hI.cnt,hI.live,fun t q h=>?_,hI.apart,hI.priv,fun s cs' h=>?_,fun s b h=>?_,hI.obj,fun s h=>?_,fun s cs' h=>?_,fun b j h=>by rw[setRow_size];exact hI.pvl b j h,fun b h=>by rw[setRow_size];exact hI.xpl b h,fun b o v h=>?_,fun s b e' z h1 h2=>?_,fun s es h=>?_,fun s b h=>?_,hI.mbi,fun s h=>?_,hI.obx,hI.ful⟩,
  ⟨⟨fun b o v h hp=>?_,fun _ _ h=>h,rfl⟩,by rw[setRow_size];exact Nat.le_refl _,fun b _ _ ht _=>hother b (fun e=>ht k r hr e.symm),fun s b h=> .inl ⟨s,h⟩,fun t q h=> .inl ⟨t,q,h,rfl⟩,fun b o v h=>?_,fun _ _ h=> .inl h,fun _ j h=> .inl ⟨j,h⟩,fun s b h=> .inl ⟨s,h⟩,⟨rfl,rfl⟩⟩,hst,hnp⟩
 ·rw[hcomAt]at h
  by_cases hb:b=r.b
  ·subst hb
   rw[cell_setRow_same w r.b o cur _ r.e (0,0) hcur,hput]
   rw[List.getElem?_toArray,putCells_at (by simp;omega)]
   by_cases ho:off≤o∧o<off+vs.length
   ·rw[if_pos ⟨rfl,ho⟩]at h
    rw[if_pos ho];exact h
   ·rw[if_neg fun h=>ho h.2]at h
    rw[if_neg ho]
    have hc:=hI.com _ _ _ h
    simp only[World.cell?,hcur]at hc
    simpa using hc
  ·rw[if_neg fun h=>hb h.1]at h
   rw[cell_setRow_other w r.b _ _ hb]
   exact hI.com b o v h
 ·by_cases hb:b=r.b
  ·subst hb
   have h':G.sh r.b=some (e',n):=h
   rw[hsh]at h';cases h'
   refine⟨_,hrow,?_⟩
   simp only[List.size_toArray,List.length_append,List.length_take,List.length_drop,Array.length_toList]
   omega
  ·obtain⟨c,h1,h2⟩:=hI.sh b e' n h
   exact⟨c,by rw[hother b hb];exact h1,h2⟩
 ·obtain⟨h1,h2,h3,h4,h5,h6⟩:=hI.room t q h
  refine⟨h1,h2,h3,h4,fun o ho=>?_,h6⟩
  rw[hcomAt]
  by_cases hb:q.b=r.b
  ·have:=hI.apart t k q r h hr hb
   subst this
   have h:G.tk t=some (.room q):=h
   rw[hr]at h;cases h
   rw[if_neg (by omega)]
   exact h5 o ho
  ·rw[if_neg fun h=>hb h.1];exact h5 o ho
 ·simp only[bkObjs,Option.map_eq_some_iff]at h
  obtain⟨c0,h1,rfl⟩:=h
  obtain⟨b,e',us',h2,h3,h4⟩:=hI.objs s c0 h1
  refine⟨b,e',us',h2,by rw[hother b (hob s b h2)];exact h3,by rw[bkTs_length];exact h4.1,fun j p u hp hu=>?_,h4.2.2⟩
  rw[bkTs_get,Option.map_eq_some_iff]at hp
  obtain⟨q,hq,rfl⟩:=hp
  exact hst _ _ (h4.2.1 j q u hq hu)
 ·obtain⟨h1,h2,h3⟩:=hI.obs s b h
  refine⟨by rw[setRow_size];exact h1,fun o=>?_,h3⟩
  rw[hcomAt,if_neg fun h'=>hob s b h h'.1];exact h2 o
 ·simp only[bkObjs,Option.map_eq_none_iff]at h
  exact hI.nob s h
 ·simp only[bkObjs,Option.map_eq_some_iff]at h
  obtain⟨c0,h1,rfl⟩:=h
  exact bks_np hnp (hI.npo s c0 h1)
 ·obtain⟨h1,h2,h3⟩:=hI.base b o v h
  have hb:b≠r.b:=by rintro rfl;rw[hpv]at h2;cases h2
  exact⟨by rw[hcomAt,if_neg fun h=>hb h.1];exact h1,h2,h3⟩
 ·obtain⟨h3,cur',h4⟩:=hI.oes s b e' z h1 h2
  exact⟨h3,cur',by rw[hother b (hob s b h1)];exact h4⟩
 ·simp only[bkMaps,Option.map_eq_some_iff]at h
  obtain⟨e0,h0,rfl⟩:=h
  obtain⟨b,vs',clk,h1,h2,h3,h4⟩:=hI.mobj s e0 h0
  refine⟨b,vs',clk,h1,by rw[hother b (hmap h2)];exact h2,h3.bk hst,fun q hq=>?_⟩
  obtain⟨q0,hq0,rfl⟩:=List.mem_map.1 hq
  exact bk_np hnp (h4 q0 hq0)
 ·obtain⟨vs',clk,h2⟩:=hI.mbs s b h
  exact⟨vs',clk,by rw[hother b (hmap h2)];exact h2⟩
 ·simp only[bkMaps,Option.map_eq_none_iff]at h
  exact hI.nomb s h
 ·have hb:b≠r.b:=by rintro rfl;rw[hpv]at hp;cases hp
  exact⟨by rw[hcomAt,if_neg fun h=>hb h.1];exact h,hp⟩
 ·rw[hcomAt]at h
  by_cases hb:b=r.b
  ·exact .inr (.inl ⟨k,r,hr,hb.symm⟩)
  ·rw[if_neg fun h=>hb h.1]at h;exact .inl h
end
section
variable {G:Gh} {nt:Nat} {fr:Fr} {st st':St} {w:World} {a:Act} {o:Oper} {d:Option Nat} {cf:CallF} {p:PV}
theorem out_stx(hI:Inv P B G st w)(hF:FrR G nt fr a){t:Nat}{x y:Operand}(hop:o.op= .store t x y){cx cy:CX}(hx:compX x=some cx)(hy:compX y=some cy){sz:Nat}(hs:szOf P t=some sz)
  (h:runOp cf fr st d (.stx sz cx cy)=some (p,st')):p= .hole∧∃ w' G',(execOp a.eval o).run P w= .ok .skip w'∧Inv P B G' st' w'∧Step G w G' w'∧(∀ s,G'.bx s=G.bx s)∧
   ∀ t,R G' (killX (cx.ev fr) (cellsOf (cy.ev fr)) fr t) (a.tmps.getD t undef)∧tidy (killX (cx.ev fr) (cellsOf (cy.ev fr)) fr t)=true:=by
 have hR:=compX_R hF hx
 have htx:=compX_tidy hF hx
 have hRy:=compX_R hF hy
 have hty:=compX_tidy hF hy
 have h':=h
 simp only[runOp]at h
 split at h
 ·rename_i s off vs e1 e2
  have hst:runOp cf fr st d (.store sz cx cy)=some (p,st'):=by
   simp only[runOp,e1,e2]
   exact h
  obtain⟨y',v',w',G',hrun,hor,hRp,hI',hL',hS',hob⟩:=out_store hI hF hop hx hy hs hst
  have hp:p= .hole:=by
   split at h
   ·split at h<;>first|(cases h;rfl)|cases h
   ·cases h
  have hk:killX (cx.ev fr) (cellsOf (cy.ev fr)) fr=fr:=by rw[e1];rfl
  rw[hk]
  have hbx:∀ s,G'.bx s=G.bx s:=fun s=>by
   rcases hob s with⟨h,_⟩|h
   ·cases h
   ·exact h
  refine⟨hp,w',G',?_,hI',hS',hbx,fun t=>⟨(hF.2.1 t).mono hL' hbx,hF.2.2 t⟩⟩
  rcases hor with rfl|⟨rfl,_⟩
  ·exfalso
   simp only[execOp,hop]at hrun
   generalize a.eval x=xv at hrun hR
   generalize a.eval y=yv at hrun hRy
   simp only[Sem.run_bind]at hrun
   revert hrun
   cases (Instr.storeAt t xv yv).run P w with
   |ok v w=>simp
   |_=>simp
  ·exact hrun
 ·rename_i cs off k e n vs e1 e2
  split at h
  ·rename_i hc
   obtain⟨c1,c2,c3,c4,c5,c6,c7,c8⟩:=hc
   cases h
   refine⟨rfl,?_⟩
   simp only[execOp,hop]
   generalize hax:a.eval x=xv at hR
   generalize hay:a.eval y=yv at hRy
   rw[e1]at hR htx
   cases hR with
   |iptr _ _ _ b o' us hl hcm hr h1 htp hp hx'=>
   obtain⟨y0,hy0⟩:=hI.live k c5
   obtain⟨hle,hm⟩:=htp.2 y0 hy0
   have hcnt:=(hI.cnt k y0 hy0).2
   rw[c4]at hcnt
   cases y0 with
   |full m=>
    have:=hI.ful k m hy0
    subst this
    simp only[TkE.cnt]at hcnt
    omega
   |room r=>
   obtain⟨rfl,rfl,hre,hlen⟩:=hm hcnt
   have hcnt:n=r.m:=hcnt
   subst hcnt
   have hRv:=cellsOf_Rs hRy e2
   have hn:=cellsOf_nps hty e2
   obtain⟨hsh,hcm',hmc,hsz,hno,hxr⟩:=hI.room k r hy0
   obtain⟨cur,hcur,hcs'⟩:=hI.sh _ _ _ hsh
   have hlv:yv.cells.toList.length=sz:=by rw[←hRv.1];exact c1
   have hfit:off+yv.cells.toList.length≤us.length:=by rw[hlv,←hl];exact c2
   have hule:us.length≤cur.size:=by rw[hlen,hcs'];exact Nat.mul_le_mul_right _ hmc
   obtain⟨hI',hS',hst,hnp⟩:=hI.poke hy0 c3 hre c6 ⟨hl,hr,h1⟩ hRv hlen (fun j u hu=>by have:=hcm j u hu;rwa [Nat.zero_add]at this) hfit c7 c8 (tidy_iptr htx) hn hcur
   refine⟨_,_,?_,hI',hS',fun _=>rfl,fun t=>?_⟩
   ·have hrun:=run_storeCells_at P r.b off r.e yv.cells.toList 0 cur w hcur (by omega) hRv.2.2
    simp only[Nat.add_zero]at hrun
    have hlen':yv.cells.size=sz:=by simpa using hlv
    rw[Nat.zero_add]
    simp only[Instr.storeAt,Instr.sureAddr,storeVar,Sem.run_bind,Sem.run_pure,Result.andThen_ok,run_sizeOf w hs,hlen',ne_eq,not_true_eq_false,if_false,hrun]
   ·rw[e1,e2]
    exact⟨hst _ _ (hF.2.1 t),bk_tidy hnp (hF.2.2 t)⟩
  ·cases h
 ·cases h
theorem callP_toks{f:Nat}{as:List PV}{x:PV×St}(h:callP cf f as [0] st=some x){n:Nat}{cs:List PV}{k e:Nat}{rest:List PV}(ha:as= .list n cs (.own k e)::rest):k<st.nx∧st.cnt k=n:=by
 unfold callP at h
 split at h
 ·cases h
 ·split at h
  ·cases h
  ·rename_i cs0 hcs
   simp only at h
   split at h
   ·rename_i hb
    simp only[Bool.and_eq_true,List.all_eq_true]at hb
    have:=hb.1.1.2 (k,n) (by rw[ha];simp[movedAll,moved,toks])
    simp only[okTok,can,Bool.and_eq_true,decide_eq_true_eq,beq_iff_eq]at this
    exact this.1
   ·cases h
theorem own_same(hI:Inv P B G st w){k n e e2:Nat}(h1:k<st.nx)(h2:st.cnt k=n)(hn:n≠0){cs cs2:List PV}{v v0:Value}(hv:R G (.list n cs2 (.own k e2)) v)(h0:R G (.list n cs (.own k e)) v0):v=v0:=by
 obtain⟨y0,hy0⟩:=hI.live k h1
 have hcnt:=(hI.cnt k y0 hy0).2
 rw[h2]at hcnt
 cases y0 with
 |full m=>have:=hI.ful k m hy0;subst this;simp only[TkE.cnt]at hcnt;omega
 |room rr=>
 cases hv with
 |listN=>omega
 |list _ _ _ b o cap us _ _ _ _ _ htr _ _=>
 cases h0 with
 |listN=>omega
 |list _ _ _ b2 o2 cap2 us2 _ _ _ _ _ htr2 _ _=>
 obtain⟨-,h1⟩:=htr.2 _ hy0
 obtain⟨-,h2⟩:=htr2.2 _ hy0
 obtain⟨rfl,rfl,rfl,-,-⟩:=h1 hcnt
 obtain⟨rfl,rfl,rfl,-,-⟩:=h2 hcnt
 rfl
theorem markedP_R{G':Gh}(hI:Inv P B G st w){k n e:Nat}(h1:k<st.nx)(h2:st.cnt k=n){cs:List PV}{v0:Value}(h0:R G (.list n cs (.own k e)) v0){p0:PV}(hp:R G' p0 v0){cs2:List PV}{t:Tok}{v:Value}(hto:t.isOwn k=true)(hRv:R G (.list n cs2 t) v):R G' (markedP n p0) v:=by
 simp only[markedP]
 by_cases hn:n=0
 ·rw[if_pos hn]
  subst hn
  cases hRv with
  |listN=>exact .listN _ trivial
  |listE a=>exact .listE a
  |list _ _ _ b o cap us _ _ _ _ _ _ _ _=>exact .list 0 [] .no b o cap [] (Nat.zero_le _) rfl (by simp) (by simp) (by simp) trivial (fun _ h=>absurd rfl h) (fun h=>absurd rfl h)
 ·rw[if_neg hn]
  cases t with
  |own j e2=>
   simp only[Tok.isOwn,beq_iff_eq]at hto
   subst hto
   rw[own_same hI h1 h2 hn hRv h0]
   exact hp
  |_=>simp[Tok.isOwn]at hto
theorem markedP_np{n:Nat}{p:PV}(h:np p=true):np (markedP n p)=true:=by
 unfold markedP
 split
 ·rfl
 ·exact h
theorem kU_sound{G':Gh}(hI:Inv P B G st w){as:List PV}{f:Nat}{x:PV×St}(hcall:callP cf (backF f) as [0] st=some x)(hm:markable as=true){v0:Value}{r0 p0:PV}{st0:St}(h0:∀ a0,as[0]? =some a0→R G a0 v0)(hRp:R G' p0 v0)(hnp:np p0=true)
  (hrn:Rn some ((takes as [0] st).contains ·) false G G') (hbx:G'.bx=G.bx) {q:PV} {u:Value} (hq:R G q u) (ht:tidy q=true):R G' (kU (some (r0,p0,st0)) as st q) u∧tidy (kU (some (r0,p0,st0)) as st q)=true:=by
 cases as with
 |nil=>simp[markable]at hm
 |cons a0 rest=>
 cases a0 with
 |list n cs tk=>
  cases tk with
  |own k e0=>
   have htk:=callP_toks hcall rfl
   refine⟨R.bk (u:=⟨takes (.list n cs (.own k e0)::rest) [0] st,k,n,markedP n p0⟩) hrn (fun s=>by rw[hbx]) (fun cs2 t v hto hRv=>markedP_R hI htk.1 htk.2 (h0 _ rfl) hRp hto hRv) hq,bk_tidy (u:=⟨takes (.list n cs (.own k e0)::rest) [0] st,k,n,markedP n p0⟩) (markedP_np hnp) ht⟩
  |_=>exact⟨hq.rn hrn hbx,killT_tidy ht⟩
 |_=>simp[markable]at hm
theorem ret_back{f:Nat}{vs:List Value}{e:Ending}{K:Value→Gh→Prop}(h:∃ v G',RetOk (backF f) vs v e∧K v G'):∃ u G',e= .returned u∧K (.tuple #[u,vs.getD 0 undef]) G':=by
 refine h.elim fun v h=>h.elim fun G' h=>?_
 refine((RetOk_back (f:=f) (vs:=vs) (v:=v) (e:=e)).mp (And.left h)).elim fun u hu=>?_
 exact⟨u,G',hu.1,by rw[←hu.2];exact And.right h⟩
theorem callU_sound(hcf:CallOk P B cf)(hI:Inv P B G st w){f:Nat}(hf:f<1000000){as:List PV}{vs:List Value}(hl:as.length=vs.length)(hR:∀ (j:Nat) p v,as[j]? =some p→vs[j]? =some v→R G p v∧tidy p=true)
  {r p':PV} (h:uP cf f as st=some (r,p',st')) (hm:markable as=true):
  Enters P f∧np r=true∧Calls P f vs.toArray w fun e w'=>∃ v G',e= .returned v∧R G' r v∧Inv P B G' st' w'∧Step G w G' w'∧(∀ q u,R G q u→tidy q=true→R G' (kU (some (r,p',st')) as st q) u∧tidy (kU (some (r,p',st')) as st q)=true)∧G'.bx=G.bx:=by
 unfold uP at h
 split at h
 ·rename_i r0 p0 st0 hcall
  simp only[Option.some.injEq,Prod.mk.injEq]at h
  obtain⟨rfl,rfl,rfl⟩:=h
  obtain⟨hE,hnp,hC⟩:=callP_sound hcf hI hl hR hcall
  rw[fnOf_back hf]at hE hC
  have hnps:nps [r0,p0]=true:=hnp
  refine⟨hE,nps_mem hnps (by simp),hC.mono ?_⟩
  intro e w' hx
  obtain⟨u,G',rfl,hRt,hI',hS',hrn,hbx⟩:=ret_back hx
  generalize hv2:(#[u,vs.getD 0 undef]:Array Value)=vv at hRt
  cases hRt with
  |tup _ vs2 hl2 hr2=>
  have hvv:vs2=[u,vs.getD 0 undef]:=by
   have:=congrArg Array.toList hv2
   simpa using this.symm
  subst hvv
  refine⟨u,G',rfl,hr2 0 r0 u rfl rfl,hI',hS',fun q x hq ht=>kU_sound hI hcall hm (fun a0 ha=>?_) (hr2 1 p0 _ rfl rfl) (nps_mem hnps (by simp)) hrn hbx hq ht,hbx⟩
  cases vs with
  |nil=>
   cases as with
   |nil=>simp at ha
   |cons a as=>simp at hl
  |cons v0 vs=>exact(hR 0 a0 v0 ha rfl).1
 ·cases h
end
def Gh.cut(G:Gh)(k h:Nat)(r:Room):Gh where
 com b o:=if b=r.b∧h*r.sz≤o then none else G.com b o
 sh:=G.sh
 tk t:=if t=k then some (.full 0)else if t=G.nx then some (.room (Room.mk r.b r.cap r.sz r.e h))else G.tk t
 ob:=G.ob
 nx:=G.nx+1
 pv b:=if b=r.b then some G.nx else G.pv b
 xp:=G.xp
 oe:=G.oe
 mb:=G.mb
section
variable {G:Gh} {st:St} {w:World}
theorem rn_cut(hI:Inv P B G st w){k h:Nat}{r:Room}(hr:G.tk k=some (.room r))(hfl:st.fl≤k):Rn some ([k].contains ·) false G (G.cut k h r):=by
 have hpv:G.pv r.b=some k:=(hI.priv k r hr).1 hfl
 have hne:∀ b,(∀ k',G.pv b=some k'→[k].contains k'=false)→b≠r.b:=by
  rintro b hK rfl
  have:=hK k hpv
  simp at this
 refine⟨fun b o v h hK=>?_,fun _ _ h=>h,fun j j' hj hK hlt=>?_,fun b j o v h hK hp=>?_,fun b o v _ _ h=> .inl h⟩
 ·show(if b=r.b∧_ then none else G.com b o)=some v
  rw[if_neg fun h=>hne b hK h.1];exact h
 ·cases hj
  have hjk:j≠k:=by
   rintro rfl
   simp at hK
  refine⟨Nat.lt_succ_of_lt hlt,fun x' hx=>⟨x',?_,Nat.le_refl _,fun _=>rfl⟩⟩
  simp only[Gh.cut,if_neg hjk]at hx
  rwa [if_neg (by omega)]at hx
 ·simp only[Gh.cut,if_neg (hne b hK)]at hp
  exact .inl ⟨j,hp,rfl⟩
theorem Inv.cut(hI:Inv P B G st w){k h:Nat}{r:Room}(hr:G.tk k=some (.room r))(hfl:st.fl≤k)(hh:h≤r.cap):
  Inv P B (G.cut k h r) (cutSt st k h) w∧Step G w (G.cut k h r) w:=by
 obtain⟨hsh,hcm,hmc,hsz,hno,hxr⟩:=hI.room k r hr
 have hklt:=(hI.cnt k _ hr).1
 have hnx:=hI.nx
 have hpv:G.pv r.b=some k:=(hI.priv k r hr).1 hfl
 have hrn:=rn_cut (h:=h) hI hr hfl
 have hbl:r.b<w.heap.size:=hI.pvl _ _ hpv
 have hcomAt:∀ {b o v},(G.cut k h r).com b o=some v→G.com b o=some v:=by
  intro b o v h
  simp only[Gh.cut]at h
  split at h
  ·cases h
  ·exact h
 have hroom:∀ {t q},(G.cut k h r).tk t=some (.room q)→(t=G.nx∧q={r with m:=h})∨(t≠k∧t≠G.nx∧G.tk t=some (.room q)∧q.b≠r.b):=by
  intro t q h
  simp only[Gh.cut]at h
  split at h
  ·cases h
  ·rename_i htk
   split at h
   ·rename_i ht;cases h;exact .inl ⟨ht,rfl⟩
   ·rename_i ht;exact .inr ⟨htk,ht,h,fun e=>htk (hI.apart t k q r h hr e)⟩
 have hob:∀ s b,G.ob s=some b→b≠r.b:=by
  intro s b hb e
  have:=(hI.obs s b hb).2.2
  rw[e,hsh]at this;cases this
 have stay:∀ {p:PV} {v:Value},R G p v→R (G.cut k h r) (killT [k] p) v:=fun hR=>hR.rn hrn rfl
 refine⟨⟨fun b o v h=>hI.com b o v (hcomAt h),fun b e n h=>hI.sh b e n h,by simp[Gh.cut,cutSt,St.more,hnx],fun t x hx=>?_,fun t ht=>?_,fun t q hq=>?_,fun t u q q' h1 h2 hb=>?_,fun t q hq=>?_,fun s cs h=>?_,fun s b h=>?_,hI.obj,fun s h=>?_,fun s cs h=>?_,fun b j h=>?_,hI.xpl,fun b o v h=>?_,hI.oes,fun s es h=>?_,hI.mbs,hI.mbi,fun s h=>?_,fun s b h=>?_,fun t m h=>?_⟩,
  ⟨⟨fun b o v h hp=>?_,fun _ _ h=>h,rfl⟩,Nat.le_refl _,fun _ _ _ _ _=>rfl,fun s b h=> .inl ⟨s,h⟩,fun t q hq=>?_,fun b o v h=> .inl (hcomAt h),fun _ _ h=> .inl h,fun b j h=>?_,fun s b h=> .inl ⟨s,h⟩,⟨rfl,rfl⟩⟩⟩
 ·simp only[Gh.cut]at hx
  split at hx
  ·rename_i e
   cases hx;subst e
   exact⟨by simp[cutSt,St.more];omega,by simp[cutSt,TkE.cnt]⟩
  ·rename_i htk
   split at hx
   ·rename_i e
    cases hx;subst e
    refine⟨by simp[cutSt,St.more];omega,?_⟩
    have:¬ (st.nx=k):=by omega
    simp[cutSt,St.more,this,hnx,TkE.cnt]
   ·obtain⟨h1,h2⟩:=hI.cnt t x hx
    refine⟨by simp[cutSt,St.more];omega,?_⟩
    simp[cutSt,St.more,htk,h1,h2]
 ·by_cases e:t=k
  ·exact⟨.full 0,by simp[Gh.cut,e]⟩
  ·by_cases e':t=G.nx
   ·exact⟨.room {r with m:=h},by simp only[Gh.cut,if_neg e,if_pos e']⟩
   ·obtain⟨x,hx⟩:=hI.live t (by simp[cutSt,St.more]at ht;omega)
    exact⟨x,by simp only[Gh.cut,if_neg e,if_neg e'];exact hx⟩
 ·rcases hroom hq with⟨rfl,rfl⟩|⟨h1,h2,h3,h4⟩
  ·exact⟨hsh,hcm,hh,hsz,fun o ho=>by simp only[Gh.cut];rw[if_pos ⟨trivial,ho⟩],hxr⟩
  ·obtain⟨g1,g2,g3,g4,g5,g6⟩:=hI.room t q h3
   exact⟨g1,g2,g3,g4,fun o ho=>by simp only[Gh.cut];rw[if_neg fun e=>h4 e.1];exact g5 o ho,g6⟩
 ·rcases hroom h1 with⟨rfl,rfl⟩|⟨a1,a2,a3,a4⟩<;>rcases hroom h2 with⟨rfl,rfl⟩|⟨b1,b2,b3,b4⟩
  ·rfl
  ·exact absurd hb.symm b4
  ·exact absurd hb a4
  ·exact hI.apart t u q q' a3 b3 hb
 ·rcases hroom hq with⟨rfl,rfl⟩|⟨h1,h2,h3,h4⟩
  ·refine⟨fun _=>by simp[Gh.cut],fun j hj=>?_⟩
   simp[Gh.cut]at hj
   exact hj.symm
  ·simp only[Gh.cut,if_neg h4]
   exact hI.priv t q h3
 ·simp only[cutSt,killObjs,Option.map_eq_some_iff]at h
  obtain⟨c0,h1,rfl⟩:=h
  obtain⟨b,e,us,h2,h3,h4⟩:=hI.objs s c0 h1
  refine⟨b,e,us,h2,h3,by rw[List.length_map];exact h4.1,fun j p u hp hu=>?_,h4.2.2⟩
  rw[List.getElem?_map,Option.map_eq_some_iff]at hp
  obtain⟨q,hq,rfl⟩:=hp
  exact stay (h4.2.1 j q u hq hu)
 ·obtain⟨h1,h2,h3⟩:=hI.obs s b h
  refine⟨h1,fun o=>?_,h3⟩
  simp only[Gh.cut]
  rw[if_neg fun e=>hob s b h e.1];exact h2 o
 ·simp only[cutSt,killObjs,Option.map_eq_none_iff]at h
  exact hI.nob s h
 ·simp only[cutSt,killObjs,Option.map_eq_some_iff]at h
  obtain⟨c0,h1,rfl⟩:=h
  exact nps_kill (hI.npo s c0 h1)
 ·simp only[Gh.cut]at h
  split at h
  ·rename_i e;rw[e];exact hbl
  ·exact hI.pvl b j h
 ·obtain⟨h1,h2,h3⟩:=hI.base b o v h
  have hb:b≠r.b:=by rintro rfl;rw[hpv]at h2;cases h2
  simp only[Gh.cut]
  exact⟨by rw[if_neg fun e=>hb e.1];exact h1,by rw[if_neg hb];exact h2,h3⟩
 ·simp only[cutSt,killMaps,Option.map_eq_some_iff]at h
  obtain⟨e0,h0,rfl⟩:=h
  obtain⟨b,vs,clk,h1,h2,h3,h4⟩:=hI.mobj s e0 h0
  refine⟨b,vs,clk,h1,h2,⟨by rw[List.length_map];exact h3.1,fun i q x hq hx=>?_⟩,fun q hq=>?_⟩
  ·rw[List.getElem?_map,Option.map_eq_some_iff]at hq
   obtain⟨q0,hq0,rfl⟩:=hq
   obtain⟨g1,g2⟩:=h3.2 i q0 x hq0 hx
   exact⟨g1,stay g2⟩
  ·obtain⟨q0,hq0,rfl⟩:=List.mem_map.1 hq
   exact killT_np (h4 q0 hq0)
 ·simp only[cutSt,killMaps,Option.map_eq_none_iff]at h
  exact hI.nomb s h
 ·obtain⟨h1,h2⟩:=hI.obx s b h
  simp only[Gh.cut,if_neg (hob s b h)]
  exact⟨h1,h2⟩
 ·simp only[Gh.cut]at h
  split at h
  ·cases h;rfl
  ·split at h
   ·cases h
   ·exact hI.ful t m h
 ·have hb:b≠r.b:=by rintro rfl;rw[hpv]at hp;cases hp
  simp only[Gh.cut]
  exact⟨by rw[if_neg fun e=>hb e.1];exact h,by rw[if_neg hb];exact hp⟩
 ·rcases hroom hq with⟨rfl,rfl⟩|⟨h1,h2,h3,h4⟩
  ·exact .inl ⟨k,r,hr,rfl⟩
  ·exact .inl ⟨t,q,h3,rfl⟩
 ·simp only[Gh.cut]at h
  split at h
  ·rename_i e;exact .inl ⟨k,by rw[e];exact hpv⟩
  ·exact .inl ⟨j,h⟩
theorem app_val(hI:Inv P B G st w){st':St}{p x y:PV}{xv yv:Value}{t ty e:Nat}(hx:R G x xv)(hy:R G y yv)(htx:tidy x=true)(hty:tidy y=true)(hu:P.underlying t=some (.slice e))
  {i:TypeInfo} (hi:P.info? e=some i) {zs:List PV} (hz:zerosOf P e=some zs) (hzl:zs.length=i.size)
  (h:appV e i.size i.bytes x y st=some (p,st')):∃ v w' G',(Builtin.append_ #[t,t] ty #[xv,yv]).run P w= .ok v w'∧R G' p v∧Inv P B G' st' w'∧Le G G'∧Step G w G' w'∧G'.bx=G.bx∧tidy p=true:=by
 unfold appV at h
 split at h
 ·rename_i n cs tk m ds ty'
  split at h
  ·rename_i hb
   obtain⟨hc,hcs,hds,hby,hnm,h0⟩:=hb
   have hres:p= .list (n+m) (cs++ds) (.own (famOf st tk) e)∧st'=famSt st (n+m) tk∧ofE e tk∧∀ e',tk= .full e'→0<m∨n=0:=by
    cases tk with
    |no=>simp[can]at hc
    |sub k=>simp[can]at hc
    |el k e n=>simp[can]at hc
    |nil=>cases h;exact⟨rfl,rfl,trivial,fun _ h=>by cases h⟩
    |full e'=>
     simp only at h
     split at h
     ·rename_i he;cases h;exact⟨rfl,rfl,he.1,fun _ _=>he.2⟩
     ·cases h
    |own k e'=>
     simp only at h
     split at h
     ·rename_i he;cases h;exact⟨rfl,rfl,he,fun _ h=>by cases h⟩
     ·cases h
   obtain⟨rfl,rfl,hex,hfu⟩:=hres
   obtain⟨v,w',G',hrun,hR',hI',hL',hS',hob⟩:=run_app (ty:=ty) hI hu hi hz hzl hx hy hc hex hcs hds hby hnm h0 hfu
   refine⟨v,w',G',hrun,hR',hI',hL',hS',hob,np_tidy ?_⟩
   have h1:nps cs=true:=by simpa [tidy,isBox,np,off,nps]using htx
   have h2:nps ds=true:=by simpa [tidy,isBox,np,off,nps]using hty
   have:=nps_append h1 h2
   simpa [np,off,nps]using this
  ·cases h
 ·cases h
end
section
variable {G:Gh} {nt:Nat} {fr:Fr} {st st':St} {w:World} {a:Act} {o:Oper} {d:Option Nat} {cf:CallF} {p:PV}
theorem out_apc(hI:Inv P B G st w)(hF:FrR G nt fr a){t e:Nat}{x y:Operand}(hop:o.op= .call {callee:= .builtin .append,args:= #[x,y],argTypes:= #[t,t]})(hu:P.underlying t=some (.slice e))
  {cx cy:CX} (hx:compX x=some cx) (hy:compX y=some cy) {i:TypeInfo} (hi:P.info? e=some i) {zs:List PV} (hz:zerosOf P e=some zs) (hzl:zs.length=i.size)
  (h:runOp cf fr st d (.apc e i.size i.bytes cx cy)=some (p,st')):∃ v w' G',(execOp a.eval o).run P w= .ok (.value v) w'∧R G' p v∧tidy p=true∧Inv P B G' st' w'∧Step G w G' w'∧(∀ s,G'.bx s=G.bx s)∧
   ∀ t,R G' (killT (cutJ (cx.ev fr) (cy.ev fr) st) (fr t)) (a.tmps.getD t undef)∧tidy (killT (cutJ (cx.ev fr) (cy.ev fr) st) (fr t))=true:=by
 have hR:=compX_R hF hx
 have hRy:=compX_R hF hy
 have htx:=compX_tidy hF hx
 have hty:=compX_tidy hF hy
 simp only[runOp]at h
 simp only[execOp,hop,resolve,invoke,builtin]
 generalize hxe:a.eval x=xv at hR
 generalize hye:a.eval y=yv at hRy
 generalize cx.ev fr=px at*
 generalize cy.ev fr=py at*
 have plain:appV e i.size i.bytes px py st=some (p,st')→cutJ px py st=[]→∃ v w' G',(Builtin.append_ #[t,t] o.type #[xv,yv]).run P w= .ok v w'∧R G' p v∧tidy p=true∧Inv P B G' st' w'∧Step G w G' w'∧(∀ s,G'.bx s=G.bx s)∧
   ∀ t,R G' (killT (cutJ px py st) (fr t)) (a.tmps.getD t undef)∧tidy (killT (cutJ px py st) (fr t))=true:=by
  intro h1 h2
  obtain⟨v,w',G',hrun,hR',hI',hL',hS',hob,ht⟩:=app_val (ty:=o.type) hI hR hRy htx hty hu hi hz hzl h1
  refine⟨v,w',G',hrun,hR',ht,hI',hS',fun s=>by rw[hob],fun t=>?_⟩
  rw[h2,killT_nil]
  exact⟨(hF.2.1 t).mono hL' (fun _=>by rw[hob]),hF.2.2 t⟩
 have goal:∃ v w' G',(Builtin.append_ #[t,t] o.type #[xv,yv]).run P w= .ok v w'∧R G' p v∧tidy p=true∧Inv P B G' st' w'∧Step G w G' w'∧(∀ s,G'.bx s=G.bx s)∧
   ∀ t,R G' (killT (cutJ px py st) (fr t)) (a.tmps.getD t undef)∧tidy (killT (cutJ px py st) (fr t))=true:=by
  unfold apcV at h
  cases px with
  |list n cs tk=>
   cases tk with
   |el k e' c=>
    by_cases hc:0<c∧k<st.nx∧st.cnt k=c∧st.fl≤k∧tfs ([k].contains ·) cs=true∧tf ([k].contains ·) py=true
    ·have hJ:cutJ (.list n cs (.el k e' c)) py st=[k]:=by simp only[cutJ];rw[if_pos hc]
     rw[hJ]at h
     simp only at h
     obtain⟨c1,c2,c3,c4,c5,c6⟩:=hc
     obtain⟨y0,hy0⟩:=hI.live k c2
     have hcnt:=(hI.cnt k y0 hy0).2
     rw[c3]at hcnt
     cases y0 with
     |full m=>
      have:=hI.ful k m hy0
      subst this
      simp only[TkE.cnt]at hcnt
      omega
     |room r=>
     cases hR with
     |listN _ ht=>
      have ht:c=0:=ht
      omega
     |list _ _ _ b o' cap us hn hl hcm hr h1 ht hp hx'=>
      obtain⟨-,hm⟩:=ht.2 _ hy0
      obtain⟨rfl,rfl,rfl,hre,hlen⟩:=hm hcnt
      obtain⟨hI1,hS1⟩:=hI.cut hy0 c4 hn
      have hrn:=rn_cut (h:=n) hI hy0 c4
      have hnx:=hI.nx
      have hxr:=(hI.room k r hy0).2.2.2.2.2
      have hks:∀ {q:PV} {v:Value},R G q v→R (G.cut k n r) (killT [k] q) v:=fun hq=>hq.rn hrn rfl
      have hRx:R (G.cut k n r) (.list n cs (.own st.nx e')) (.slice (some ⟨r.b,0,none⟩) n r.cap):=by
       refine .list n cs _ r.b 0 r.cap us hn hl (fun j u hu=>?_) (fun j q u hq hu=>?_) h1 ⟨by show st.nx<G.nx+1;omega,fun x hx=>?_⟩ (fun j _ hj=>?_) (fun _ _=>hxr)
       ·have hlt:=(List.getElem?_eq_some_iff.1 hu).1
        show(if r.b=r.b∧n*r.sz≤0+j then none else G.com r.b (0+j))=some u
        rw[if_neg (by omega)]
        exact hcm j u hu
       ·have:=hks (hr j q u hq hu)
        rwa [killT,if_pos (tfs_get c5 hq)]at this
       ·have hne:st.nx≠k:=by omega
        simp only[Gh.cut,if_neg hne,hnx,if_true]at hx
        cases hx
        exact⟨Nat.le_refl _,fun _=>⟨rfl,rfl,rfl,hre,hlen⟩⟩
       ·simp[Gh.cut]at hj
        rw[←hj,hnx];rfl
      have hRy1:R (G.cut k n r) py yv:=by
       have:=hks hRy
       rwa [killT,if_pos c6]at this
      obtain⟨v,w',G',hrun,hR',hI',hL',hS',hob,htp⟩:=app_val (ty:=o.type) hI1 hRx hRy1 (show tidy (.list n cs (.own st.nx e'))=true by simpa [tidy,isBox,np,off,nps]using htx) hty hu hi hz hzl h
      refine⟨v,w',G',hrun,hR',htp,hI',hS1.trans hS',fun s=>by rw[hob];rfl,fun t=>?_⟩
      rw[hJ]
      exact⟨(hks (hF.2.1 t)).mono hL' (fun _=>by rw[hob]),killT_tidy (hF.2.2 t)⟩
    ·have hJ:cutJ (.list n cs (.el k e' c)) py st=[]:=by simp only[cutJ];rw[if_neg hc]
     rw[hJ]at h
     exact plain h hJ
   |_=>exact plain h rfl
  |_=>exact plain h rfl
 obtain⟨v,w',G',hrun,hrest⟩:=goal
 exact⟨v,w',G',by simp[hxe,hye,hrun],hrest⟩
end
def stxOf(b:Bool):COp→COp
 | .store sz a x=>if b then .stx sz a x else .store sz a x
 |c=>c
def apcOf(b:Bool):COp→COp
 | .app e sz by' x y=>if b then .apc e sz by' x y else .app e sz by' x y
 |c=>c
def compAll(P:Program)(M:Nat→List Nat):Op→Option COp
 | .call {callee:= .value (.func f),args:=as,argTypes:=_}=>if f<1000000 then(if(M f).contains 1000 then(compXs as.toList).map (.callU f ·)else(compXs as.toList).map (.call f · (M f)))else none
 | .call {callee:= .value (.tmp t),args:=as,argTypes:=_}=>(compXs as.toList).map (.cval (.sl t))
 |op=>(compOp P op).map fun c=>apcOf (!(M 1000003).isEmpty) (stxOf (!(M 1000002).isEmpty) c)
def compGuard(ops:Array Oper):Option (Nat×Bool)→Option (Option (Nat×Bool))
 |none=>some none
 |some (j,b)=>match (ops[j]?).bind (·.dst)with
  |some s=>some (some (s,b))
  |none=>none
def dstOk(nt nk:Nat)(c:COp):Option Nat→Bool
 |some d=>decide (d<nt) && (!makes c||decide (nk≤d))
 |none=>!makes c
def keeps(M:Nat→List Nat):Bool:=!(M 1000001).isEmpty
def KeptA(kp:Bool)(a' a:Act):Prop:=a'.defers=a.defers∧(kp=true→a'.tmps.getD 0 undef=a.tmps.getD 0 undef)
theorem KeptA.refl{kp:Bool}{a:Act}:KeptA kp a a:=⟨rfl,fun _=>rfl⟩
theorem KeptA.trans{kp:Bool}{a b c:Act}(h:KeptA kp c b)(k:KeptA kp b a):KeptA kp c a:=⟨h.1.trans k.1,fun e=>(h.2 e).trans (k.2 e)⟩
def compOper(P:Program)(M:Nat→List Nat)(nt nk:Nat)(ops:Array Oper)(o:Oper):Option COper:=
 match compAll P M o.op,compGuard ops o.guard with
 |some c,some g=>
  if dstOk nt nk c o.dst && (!keeps M||o.dst !=some 0)then some {g:=g,d:=o.dst,op:=c}else none
 |_,_=>none
theorem compXs_R{G:Gh}{nt:Nat}{fr:Fr}{a:Act}(hF:FrR G nt fr a):∀ {xs:List Operand} {cs:List CX},compXs xs=some cs→
  cs.length=xs.length∧∀ (j:Nat) p v,(cs.map (·.ev fr))[j]? =some p→(xs.map a.eval)[j]? =some v→R G p v∧tidy p=true
 | [],cs,h=>by cases h;exact⟨rfl,fun j p v hp=>by simp at hp⟩
 |x::xs,cs,h=>by
  unfold compXs at h
  split at h
  ·rename_i c cs' hx hxs
   cases h
   obtain⟨hl,hr⟩:=compXs_R hF hxs
   refine⟨by simp[hl],fun j p v hp hv=>?_⟩
   cases j with
   |zero=>
    simp at hp hv
    subst hp;subst hv
    exact⟨compX_R hF hx,compX_tidy hF hx⟩
   |succ j=>exact hr j p v (by simpa using hp) (by simpa using hv)
  ·cases h
theorem kill_tidy(s:Nat){p:PV}(h:tidy p=true):tidy (killP s p)=true:=by
 cases p with
 |ptr k o=>simp only[killP];split<;>first|rfl|exact h
 |osl e sz k n=>simp only[killP];split<;>first|rfl|exact h
 |mp k=>simp only[killP];split<;>first|rfl|exact h
 |fn f cs=>simp only[killP];split<;>first|rfl|exact h
 |_=>simp only[killP];exact h
section
variable {G:Gh} {nt:Nat} {fr:Fr} {st st':St} {w:World} {a:Act} {o:Oper} {d:Option Nat} {cf:CallF} {p:PV}
theorem killP_any{G:Gh}(s:Nat){p:PV}{v:Value}(h:R G p v):R G (killP s p) v:=by
 cases p with
 |ptr k o=>simp only[killP];split<;>first|exact .any v|exact h
 |osl e sz k n=>simp only[killP];split<;>first|exact .any v|exact h
 |mp k=>simp only[killP];split<;>first|exact .any v|exact h
 |fn f cs=>simp only[killP];split<;>first|exact .any v|exact h
 |_=>simp only[killP];exact h
theorem FrR.put(hF:FrR G nt fr a){fr1:Fr}(hd:∀ s,d=some s→s<nt){G':Gh}(key:∀ t,R G' (fr1 t) (a.tmps.getD t undef)∧tidy (fr1 t)=true){v:Value}(hR:R G' p v)(ht:tidy p=true):
  FrR G' nt (PM.put fr1 d p) (a.put d v):=by
 obtain⟨h1,h2,h3⟩:=hF
 cases d with
 |none=>exact⟨h1,fun t=>(key t).1,fun t=>(key t).2⟩
 |some s=>
  have hs:=hd s rfl
  refine⟨by simp[Act.put];exact h1,fun t=>?_,fun t=>?_⟩
  ·simp only[PM.put,upd,Act.put]
   by_cases htS:t=s
   ·subst htS
    rw[if_pos rfl]
    have hlt:t<a.tmps.size:=by omega
    rw[Array.getD_eq_getD_getElem?,Array.getElem?_setIfInBounds_self_of_lt hlt]
    exact hR
   ·rw[if_neg htS]
    have:=(key t).1
    rw[Array.getD_eq_getD_getElem?]at this ⊢
    rwa [Array.getElem?_setIfInBounds_ne (Ne.symm htS)]
  ·simp only[PM.put,upd]
   split
   ·exact ht
   ·exact(key t).2
def quiet(c:COp):Bool:=!makes c && (match c with| .call .. =>false| .callU .. =>false| .stx .. =>false| .apc .. =>false|_=>true)
theorem killF_quiet{c:COp}(h:quiet c=true)(d:Option Nat)(st:St)(fr:Fr):killF cf c d st fr=fr:=by
 cases c<;>cases d<;>first|rfl|(simp[quiet,makes]at h)
theorem killF_makes{c:COp}(h:makes c=true)(s:Nat)(st:St)(fr:Fr):killF cf c (some s) st fr=fun t=>killP s (fr t):=by
 cases c<;>first|rfl|(simp[makes]at h)
theorem killF_none{c:COp}(h:makes c=true)(st:St)(fr:Fr):killF cf c none st fr=fr:=by
 cases c<;>first|rfl|(simp[makes]at h)
theorem killF_call(f:Nat)(as:List CX)(mv:List Nat)(d:Option Nat)(st:St)(fr:Fr):killF cf (.call f as mv) d st fr=fun t=>killT (takes (as.map (·.ev fr)) mv st) (fr t):=by
 cases mv with
 |nil=>funext t;simp only[killF,takes,killT_nil]
 |cons m mv=>rfl
theorem frame_kill(hF:FrR G nt fr a){c:COp}(hc:∀ f as mv,c≠ .call f as mv)(hc2:∀ f as,c≠ .callU f as)(hc3:∀ sz x y,c≠ .stx sz x y)(hc4:∀ e sz b x y,c≠ .apc e sz b x y){G':Gh}(hL:Le G G')(hob:∀ s,(makes c=true∧d=some s)∨G'.bx s=G.bx s)(st:St):
  ∀ t,R G' (killF cf c d st fr t) (a.tmps.getD t undef)∧tidy (killF cf c d st fr t)=true:=by
 obtain⟨h1,h2,h3⟩:=hF
 intro t
 cases hm:makes c with
 |true=>
  cases d with
  |none=>
   rw[killF_none hm]
   exact⟨(h2 t).mono hL (fun k=>by
    rcases hob k with⟨_,h⟩|h
    ·cases h
    ·exact h),h3 t⟩
  |some s=>
   rw[killF_makes hm]
   refine⟨(killP_any s (h2 t)).le hL (fun k=>decide (k=s)) (fun k hk=>?_) (kill_off s (fr t) (h3 t)),kill_tidy s (h3 t)⟩
   rcases hob k with⟨_,h⟩|h
   ·cases h;simp at hk
   ·exact h
 |false=>
  have hq:quiet c=true:=by
   unfold quiet
   rw[hm]
   cases c<;>first|rfl|exact absurd rfl (hc _ _ _)|exact absurd rfl (hc2 _ _)|exact absurd rfl (hc3 _ _ _)|exact absurd rfl (hc4 _ _ _ _ _)
  rw[killF_quiet hq]
  refine⟨(h2 t).mono hL (fun k=>?_),h3 t⟩
  rcases hob k with⟨hm',_⟩|h
  ·rw[hm]at hm';cases hm'
  ·exact h
theorem FrR.skip(hF:FrR G nt fr a)(hd:∀ s,d=some s→s<nt):FrR G nt (PM.put fr d .hole) (a.put d undef):=by
 obtain⟨h1,h2,h3⟩:=hF
 cases d with
 |none=>exact⟨h1,h2,h3⟩
 |some s=>
  have hs:=hd s rfl
  refine⟨by simp[Act.put];exact h1,fun t=>?_,fun t=>?_⟩
  ·simp only[PM.put,upd,Act.put]
   by_cases htS:t=s
   ·subst htS
    rw[if_pos rfl]
    have hlt:t<a.tmps.size:=by omega
    rw[Array.getD_eq_getD_getElem?,Array.getElem?_setIfInBounds_self_of_lt hlt]
    exact .hole
   ·rw[if_neg htS]
    have:=h2 t
    rw[Array.getD_eq_getD_getElem?]at this ⊢
    rwa [Array.getElem?_setIfInBounds_ne (Ne.symm htS)]
  ·simp only[PM.put,upd]
   split
   ·rfl
   ·exact h3 t
theorem put_kept{kp:Bool}(a:Act){d:Option Nat}(v:Value)(h:kp=true→d≠some 0):KeptA kp (a.put d v) a:=by
 refine⟨by cases d<;>rfl,fun e=>?_⟩
 cases d with
 |none=>rfl
 |some s=>
  have hs:s≠0:=by rintro rfl;exact h e rfl
  simp only[Act.put]
  rw[Array.getD_eq_getD_getElem?,Array.getD_eq_getD_getElem?,Array.getElem?_setIfInBounds_ne hs]
theorem compOp_callU{op:Op}{f:Nat}{as:List CX}(h:compOp P op=some (.callU f as)):False:=by
 unfold compOp at h
 split at h
 all_goals repeat' (first|(cases h;done)|(simp only[Option.map_eq_some_iff]at h;obtain⟨_,_,h⟩:=h;cases h;done)|(split at h))
theorem compOp_stx{op:Op}{sz:Nat}{x y:CX}(h:compOp P op=some (.stx sz x y)):False:=by
 unfold compOp at h
 split at h
 all_goals repeat' (first|(cases h;done)|(simp only[Option.map_eq_some_iff]at h;obtain⟨_,_,h⟩:=h;cases h;done)|(split at h))
theorem compOp_app{op:Op}{e sz by':Nat}{cx cy:CX}(h:compOp P op=some (.app e sz by' cx cy)):∃ t x y i zs,op= .call {callee:= .builtin .append,args:= #[x,y],argTypes:= #[t,t]}∧P.underlying t=some (.slice e)∧compX x=some cx∧compX y=some cy∧P.info? e=some i∧zerosOf P e=some zs∧zs.length=i.size∧sz=i.size∧by'=i.bytes:=by
 unfold compOp at h
 split at h
 all_goals repeat' (first|(cases h;done)|(simp only[Option.map_eq_some_iff]at h;obtain⟨_,_,h⟩:=h;cases h;done)|(rename_i hb;obtain⟨rfl,hzl⟩:=hb;cases h;exact⟨_,_,_,_,_,rfl,elemOfSl_of (by assumption),by assumption,by assumption,by assumption,by assumption,hzl,rfl,rfl⟩)|(split at h))
theorem compOp_apc{op:Op}{e sz b:Nat}{x y:CX}(h:compOp P op=some (.apc e sz b x y)):False:=by
 unfold compOp at h
 split at h
 all_goals repeat' (first|(cases h;done)|(simp only[Option.map_eq_some_iff]at h;obtain⟨_,_,h⟩:=h;cases h;done)|(split at h))
theorem compOp_store{op:Op}{sz:Nat}{cx cy:CX}(h:compOp P op=some (.store sz cx cy)):∃ t x y,op= .store t x y∧compX x=some cx∧compX y=some cy∧szOf P t=some sz:=by
 unfold compOp at h
 split at h
 all_goals repeat' (first|(cases h;done)|(simp only[Option.map_eq_some_iff]at h;obtain⟨_,_,h⟩:=h;cases h;done)|(cases h;exact⟨_,_,_,rfl,by assumption,by assumption,by assumption⟩)|(split at h))
theorem compOp_call{op:Op}{f:Nat}{as:List CX}{mv:List Nat}(h:compOp P op=some (.call f as mv)):False:=by
 unfold compOp at h
 split at h
 all_goals repeat' (first|(cases h;done)|(simp only[Option.map_eq_some_iff]at h;obtain⟨_,_,h⟩:=h;cases h;done)|(split at h))
theorem oper_wp{M:Nat→List Nat}(hcf:CallOk P B cf)(hI:Inv P B G st w)(hF:FrR G nt fr a){c:COp}(hc:compAll P M o.op=some c)(hd:∀ s,o.dst=some s→s<nt)(h:runOp cf fr st o.dst c=some (p,st')){next:Act→World→Prop}{Q:Exit→Act→World→Prop}
  (hn:∀ v w' G',Inv P B G' st' w'→Step G w G' w'→FrR G' nt (PM.put (killF cf c o.dst st fr) o.dst p) (a.put o.dst v)→(∀ s,(makes c=true∧o.dst=some s)∨G'.bx s=G.bx s)→next (a.put o.dst v) w'):o.wp P a w next Q:=by
 unfold compAll at hc
 split at hc
 ·rename_i f as tys hop
  split at hc
  ·rename_i hfl
   have hargs:as.map a.eval=(as.toList.map a.eval).toArray:=by apply Array.ext';simp
   have hrun:∀ {fn:Func} {bd:Code},P.funcs[f]? =some fn→fn.name≠ "runtime.NumGoroutine" →fn.body=some bd→(execOp a.eval o).run P w= .ok (.enter f (as.toList.map a.eval).toArray) w:=by
    intro fn bd hfn hname hb
    rw[←hargs]
    simp[execOp,hop,resolve,Act.eval,Deferred.ofValue,invoke,callFunc,go_sem,hfn,hname,hb]
   split at hc
   ·simp only[Option.map_eq_some_iff]at hc
    obtain⟨cs,hcs,rfl⟩:=hc
    obtain⟨hl,hR⟩:=compXs_R hF hcs
    simp only[runOp]at h
    split at h
    ·rename_i r p' st1 hu
     split at h
     ·rename_i hmk
      simp only[Option.some.injEq,Prod.mk.injEq]at h
      obtain⟨rfl,rfl⟩:=h
      obtain⟨⟨fn,hfn,hname,hbody⟩,hnp,hC⟩:=callU_sound hcf hI hfl (vs:=as.toList.map a.eval) (by simp[hl]) hR hu hmk
      obtain⟨bd,hb⟩:=Option.isSome_iff_exists.1 hbody
      unfold Oper.wp
      rw[hrun hfn hname hb,Oper.upon_enter]
      refine hC.mono ?_
      rintro e w' ⟨v,G',rfl,hR',hI',hS',hst,hob⟩
      have hob':∀ s,(makes (.callU f cs)=true∧o.dst=some s)∨G'.bx s=G.bx s:=fun s=> .inr (by rw[hob])
      refine hn v w' G' hI' hS' (hF.put hd (fun t=>?_) hR' (np_tidy hnp)) hob'
      have:=hst _ _ (hF.2.1 t) (hF.2.2 t)
      rw[←hu]at this
      exact this
     ·cases h
    ·cases h
   ·simp only[Option.map_eq_some_iff]at hc
    obtain⟨cs,hcs,rfl⟩:=hc
    obtain⟨hl,hR⟩:=compXs_R hF hcs
    simp only[runOp]at h
    obtain⟨hE,hnp,hC⟩:=callP_sound hcf hI (vs:=as.toList.map a.eval) (by simp[hl]) hR h
    rw[fnOf_lt hfl]at hE hC
    obtain⟨fn,hfn,hname,hbody⟩:=hE
    obtain⟨bd,hb⟩:=Option.isSome_iff_exists.1 hbody
    unfold Oper.wp
    rw[hrun hfn hname hb,Oper.upon_enter]
    refine hC.mono ?_
    rintro e w' ⟨v,G',hret,hR',hI',hS',hst,hob⟩
    rw[RetOk_lt hfl]at hret
    subst hret
    have hob':∀ s,(makes (.call f cs (M f))=true∧o.dst=some s)∨G'.bx s=G.bx s:=fun s=> .inr (by rw[hob])
    refine hn v w' G' hI' hS' (hF.put hd (fun t=>?_) hR' (np_tidy hnp)) hob'
    rw[killF_call]
    exact⟨(hF.2.1 t).rn hst hob,killT_tidy (hF.2.2 t)⟩
  ·cases hc
 ·rename_i t as tys hop
  simp only[Option.map_eq_some_iff]at hc
  obtain⟨cs,hcs,rfl⟩:=hc
  obtain⟨hl,hR⟩:=compXs_R hF hcs
  have hRf:R G (fr t) (a.eval (.tmp t)):=hF.2.1 t
  have htf:=hF.2.2 t
  simp only[runOp,CX.ev]at h
  generalize hfe:a.eval (.tmp t)=fv at hRf
  split at h
  ·rename_i g cap e
   rw[e]at hRf htf
   split at h
   rotate_left
   ·cases h
   rename_i hgl
   cases hRf with
   |fn _ _ caps hlc hrc=>
   have hl':cs.length=as.size:=by simpa using hl
   have hcap:∀ (j:Nat) (q:PV),cap[j]? =some q→tidy q=true:=by
    intro j q hq
    simp only[tidy,List.all_eq_true]at htf
    have:=htf q (List.mem_of_getElem? hq)
    simp only[Bool.or_eq_true]at this
    rcases this with h|h
    ·cases q<;>first|rfl|(simp[isBox]at h)
    ·exact np_tidy h
   obtain⟨hE,hnp,hC⟩:=callP_sound hcf hI (vs:=as.toList.map a.eval++caps) (by simp[hl,hlc]) (fun j q v hq hv=>by
    by_cases hj:j<cs.length
    ·rw[List.getElem?_append_left (by simpa using hj)]at hq
     rw[List.getElem?_append_left (by simp;omega)]at hv
     exact hR j q v hq hv
    ·rw[List.getElem?_append_right (by simp;omega)]at hq
     rw[List.getElem?_append_right (by simp;omega)]at hv
     simp only[List.length_map,Array.length_toList,hl']at hq hv
     exact⟨hrc _ q v hq hv,hcap _ q hq⟩) h
   rw[fnOf_lt hgl]at hE hC
   obtain⟨fn,hfn,hname,hbody⟩:=hE
   obtain⟨bd,hb⟩:=Option.isSome_iff_exists.1 hbody
   have hargs:as.map a.eval++caps.toArray=(as.toList.map a.eval++caps).toArray:=by
    apply Array.ext';simp
   have hrun:(execOp a.eval o).run P w= .ok (.enter g (as.toList.map a.eval++caps).toArray) w:=by
    rw[←hargs]
    have hfe':a.tmps[t]?.getD undef= .func (.func g) #[] caps.toArray:=by rw[←Array.getD_eq_getD_getElem?];exact hfe
    simp[execOp,hop,resolve,hfe',Deferred.ofValue,invoke,callFunc,go_sem,hfn,hname,hb]
   unfold Oper.wp
   rw[hrun,Oper.upon_enter]
   refine hC.mono ?_
   rintro e' w' ⟨v,G',hret,hR',hI',hS',hst,hob⟩
   rw[RetOk_lt hgl]at hret
   subst hret
   have hob':∀ s,(makes (.cval (.sl t) cs)=true∧o.dst=some s)∨G'.bx s=G.bx s:=fun s=> .inr (by rw[hob])
   refine hn v w' G' hI' hS' (hF.put hd (fun u=>?_) hR' (np_tidy hnp)) hob'
   rw[killF_quiet rfl]
   have:=(hF.2.1 u).rn hst hob
   simp only[takes,killT_nil]at this
   exact⟨this,hF.2.2 u⟩
  ·cases h
 ·simp only[Option.map_eq_some_iff]at hc
  obtain⟨c0,hc0,rfl⟩:=hc
  have plain:apcOf (!(M 1000003).isEmpty) (stxOf (!(M 1000002).isEmpty) c0)=c0→o.wp P a w next Q:=by
   intro hs
   rw[hs]at h hn
   obtain⟨⟨y,v,w',G',hrun,hy,hR',hI',hL',hS',hob⟩,ht⟩:=op_sound hI hF hc0 h
   have hcc:∀ f as mv,c0≠ .call f as mv:=by
    rintro f as mv rfl
    exact compOp_call hc0
   have hcc2:∀ f as,c0≠ .callU f as:=by
    rintro f as rfl
    exact compOp_callU hc0
   have hcc3:∀ sz x y,c0≠ .stx sz x y:=by
    rintro sz x y rfl
    exact compOp_stx hc0
   have:=hn v w' G' hI' hS' (hF.put hd (frame_kill hF hcc hcc2 hcc3 (by rintro e sz b x y rfl;exact compOp_apc hc0) hL' hob st) hR' ht) hob
   unfold Oper.wp
   rw[hrun]
   rcases hy with rfl|⟨rfl,rfl⟩
   ·exact this
   ·exact this
  cases c0 with
  |store sz cx cy=>
   cases hb:(!(M 1000002).isEmpty)with
   |false=>exact plain (by rw[hb];rfl)
   |true=>
    rw[hb]at h hn
    have hap:apcOf (!(M 1000003).isEmpty) (stxOf true (.store sz cx cy))= .stx sz cx cy:=rfl
    rw[hap]at h hn
    obtain⟨t,x,y,hop,hx,hy,hs⟩:=compOp_store hc0
    obtain⟨rfl,w',G',hrun,hI',hS',hob,hfr⟩:=out_stx hI hF hop hx hy hs h
    have:=hn undef w' G' hI' hS' (hF.put hd (fun t=>hfr t) .hole rfl) (fun s=> .inr (hob s))
    unfold Oper.wp
    rw[hrun]
    exact this
  |app e sz by' cx cy=>
   cases hb:(!(M 1000003).isEmpty)with
   |false=>exact plain (by rw[hb];rfl)
   |true=>
    rw[hb]at h hn
    have hap:apcOf true (stxOf (!(M 1000002).isEmpty) (.app e sz by' cx cy))= .apc e sz by' cx cy:=rfl
    rw[hap]at h hn
    obtain⟨t,x,y,i,zs,hop,hu,hx,hy,hi,hz,hzl,rfl,rfl⟩:=compOp_app hc0
    obtain⟨v,w',G',hrun,hR',htp,hI',hS',hob,hfr⟩:=out_apc hI hF hop hu hx hy hi hz hzl h
    have:=hn v w' G' hI' hS' (hF.put hd (fun t=>hfr t) hR' htp) (fun s=> .inr (hob s))
    unfold Oper.wp
    rw[hrun]
    exact this
  |_=>exact plain rfl
theorem wants_wanted(hF:FrR G nt fr a){ops:Array Oper}{g:Option (Nat×Bool)}(hg:compGuard ops o.guard=some g){b:Bool}(h:wants fr g=some b):Region.wanted o (yielded ops a.tmps)=b:=by
 unfold Region.wanted
 cases hog:o.guard with
 |none=>
  rw[hog]at hg
  cases hg
  simp only[wants]at h
  cases h
  rfl
 |some jw=>
  obtain⟨j,want⟩:=jw
  rw[hog]at hg
  simp only[compGuard]at hg
  split at hg
  ·rename_i s hs
   cases hg
   have hR:=hF.2.1 s
   simp only[wants]at h
   simp only[yielded,hs,Option.bind_some]
   split at h
   ·rename_i b' e
    rw[e]at hR
    cases h
    have:a.tmps[s]? =some (.bool b'):=by
     cases hx:a.tmps[s]? with
     |none=>rw[Array.getD_eq_getD_getElem?,hx]at hR;cases hR
     |some x=>rw[Array.getD_eq_getD_getElem?,hx]at hR;simp at hR;cases hR;rfl
    rw[this]
    cases want<;>cases b'<;>rfl
   ·rename_i e
    rw[e]at hR
    cases h
    cases hx:a.tmps[s]? with
    |none=>rfl
    |some x=>rw[Array.getD_eq_getD_getElem?,hx]at hR;simp at hR;cases hR;rfl
   ·cases h
  ·cases hg
theorem oper_step{M:Nat→List Nat}(hcf:CallOk P B cf)(hI:Inv P B G st w)(hF:FrR G nt fr a){ops:Array Oper}{nk:Nat}{co:COper}(hc:compOper P M nt nk ops o=some co){fr':Fr}(h:runOper cf co (fr,st)=some (fr',st'))
  {K:Act→World→Prop} {Q:Exit→Act→World→Prop}
  (hn:∀ a' w' G',Inv P B G' st' w'→Step G w G' w'→FrR G' nt fr' a'→KeptA (keeps M) a' a→(∀ s,nk≤s∨G'.bx s=G.bx s)→K a' w'):
  if Region.wanted o (yielded ops a.tmps)then o.wp P a w K Q∨(o.asks P a w∧LetsOut Q)else K (a.put o.dst undef) w:=by
 unfold compOper at hc
 split at hc
 ·rename_i c g hcc hg
  split at hc
  ·rename_i hchk0
   cases hc
   simp only[Bool.and_eq_true,Bool.or_eq_true,Bool.not_eq_true',bne_iff_ne,ne_eq]at hchk0
   obtain⟨hchk,hkp⟩:=hchk0
   have hkeep:keeps M=true→o.dst≠some 0:=fun e=>by
    rcases hkp with h|h
    ·rw[e]at h;cases h
    ·exact h
   have hd:∀ s,o.dst=some s→s<nt:=fun s hs=>by
    rw[hs]at hchk
    simp only[dstOk,Bool.and_eq_true,decide_eq_true_eq]at hchk
    exact hchk.1
   have hk:∀ s,makes c=true→o.dst=some s→nk≤s:=fun s hm hs=>by
    rw[hs]at hchk
    simp[dstOk,hm]at hchk
    exact hchk.2
   simp only[runOper]at h
   split at h
   ·rename_i hw
    rw[if_pos (wants_wanted hF hg hw)]
    split at h
    ·rename_i v st1 hrun
     cases h
     refine .inl (oper_wp hcf hI hF hcc hd hrun fun v w' G' hI' hS' hF' hob=>hn _ w' G' hI' hS' hF' (put_kept _ _ hkeep) fun s=>?_)
     rcases hob s with⟨hm,hs⟩|h
     ·exact .inl (hk s hm hs)
     ·exact .inr h
    ·cases h
   ·rename_i hw
    rw[if_neg (by rw[wants_wanted hF hg hw];simp)]
    cases h
    exact hn _ w G hI (Step.refl G w) (hF.skip hd) (put_kept _ _ hkeep) fun _=> .inr rfl
   ·cases h
  ·cases hc
 ·cases hc
def compOpers(P:Program)(M:Nat→List Nat)(nt nk:Nat)(ops:Array Oper):List Oper→Option (List COper)
 | []=>some []
 |o::os=>match compOper P M nt nk ops o,compOpers P M nt nk ops os with
  |some c,some cs=>some (c::cs)
  |_,_=>none
theorem region_step{M:Nat→List Nat}(hcf:CallOk P B cf){ops:Array Oper}{nk:Nat}{Q:Exit→Act→World→Prop}:∀ {os:List Oper} {cs:List COper} {G:Gh} {fr fr':Fr} {st st':St} {w:World} {a:Act},Inv P B G st w→FrR G nt fr a→compOpers P M nt nk ops os=some cs→runOps cf cs (fr,st)=some (fr',st')→
  (∀ a' w' G',Inv P B G' st' w'→Step G w G' w'→FrR G' nt fr' a'→KeptA (keeps M) a' a→(∀ s,nk≤s∨G'.bx s=G.bx s)→Q .normal a' w')→wpList P ops Q os a w
 | [],cs,G,fr,fr',st,st',w,a,hI,hF,hc,h,hn=>by
  cases hc;cases h
  exact hn a w G hI (Step.refl G w) hF .refl fun _=> .inr rfl
 |o::os,cs,G,fr,fr',st,st',w,a,hI,hF,hc,h,hn=>by
  unfold compOpers at hc
  split at hc
  ·rename_i c cs' hco hcs
   cases hc
   simp only[runOps]at h
   split at h
   ·rename_i y hy
    obtain⟨fr1,st1⟩:=y
    refine oper_step hcf hI hF hco hy fun a1 w1 G1 hI1 hS1 hF1 hd1 hk1=>?_
    refine region_step hcf hI1 hF1 hcs h fun a2 w2 G2 hI2 hS2 hF2 hd2 hk2=>?_
    refine hn a2 w2 G2 hI2 (hS1.trans hS2) hF2 (hd2.trans hd1) fun s=>?_
    rcases hk1 s with h1|h1
    ·exact .inl h1
    ·rcases hk2 s with h2|h2
     ·exact .inl h2
     ·exact .inr (h2.trans h1)
   ·cases h
  ·cases hc
end
end Go.PM
namespace Go.PM
def CX.slots:CX→List Nat
 | .sl n=>[n]
 | .k _=>[]
def optSlots:Option CX→List Nat
 |some x=>x.slots
 |none=>[]
def COp.slots:COp→List Nat
 | .mv x=>x.slots
 | .pick c a b=>c.slots++a.slots++b.slots
 | .alloc _=>[]
 | .box _ x=>x.slots
 | .build _ ps=>ps.flatMap fun q=>q.2.2.slots
 | .bsl _ _ _ _ ps=>ps.flatMap fun q=>q.2.2.slots
 | .load _ _ a=>a.slots
 | .store _ a x=>a.slots++x.slots
 | .stx _ a x=>a.slots++x.slots
 | .callU _ as=>as.flatMap CX.slots
 | .nck x=>x.slots
 | .bin _ x y=>x.slots++y.slots
 | .isnil _ x=>x.slots
 | .beq _ x y=>x.slots++y.slots
 | .un _ x=>x.slots
 | .toInt _ x=>x.slots
 | .s2s x=>x.slots
 | .ext x _=>x.slots
 | .fad _ x=>x.slots
 | .fld _ _ _ x=>x.slots
 | .iad _ x i=>x.slots++i.slots
 | .sidx x i=>x.slots++i.slots
 | .ssl x lo hi=>x.slots++optSlots lo++optSlots hi
 | .slc _ x lo hi=>x.slots++optSlots lo++optSlots hi
 | .mks _ _ _ _ n c=>n.slots++c.slots
 | .mk0 _ _ _ n c=>n.slots++c.slots
 | .slen x=>x.slots
 | .len x=>x.slots
 | .app _ _ _ x y=>x.slots++y.slots
 | .apc _ _ _ x y=>x.slots++y.slots
 | .b2s x=>x.slots
 | .mkfn _ as=>as.flatMap CX.slots
 | .mkmap=>[]
 | .mpset _ m k v=>m.slots++k.slots++v.slots
 | .mpget _ _ _ m k=>m.slots++k.slots
 | .mplen m=>m.slots
 | .call _ as _=>as.flatMap CX.slots
 | .cval f as=>f.slots++as.flatMap CX.slots
theorem ev_congr{x:CX}{fr fr2:Fr}(h:∀ t∈x.slots,fr t=fr2 t):x.ev fr=x.ev fr2:=by
 cases x with
 |sl n=>exact h n (by simp[CX.slots])
 |k p=>rfl
theorem fillP_congr{fr fr2:Fr}:∀ {ps:List (Nat×Nat×CX)} {zs:List PV},(∀ t∈ps.flatMap (fun q=>q.2.2.slots),fr t=fr2 t)→fillP zs fr ps=fillP zs fr2 ps
 | [],zs,_=>rfl
 |(o,s,x)::ps,zs,h=>by
  have h1:x.ev fr=x.ev fr2:=ev_congr fun t ht=>h t (by simp[ht])
  simp only[fillP,h1]
  split
  ·split
   ·exact fillP_congr fun t ht=>h t (by simp only[List.flatMap_cons,List.mem_append];exact .inr ht)
   ·rfl
  ·rfl
theorem cutP_congr{fr fr2:Fr}{lo hi:Option CX}(h1:∀ t∈optSlots lo,fr t=fr2 t)(h2:∀ t∈optSlots hi,fr t=fr2 t)(n c:Nat):cutP lo hi fr n c=cutP lo hi fr2 n c:=by
 cases lo with
 |none=>cases hi with
  |none=>rfl
  |some y=>simp only[cutP,ev_congr (x:=y) h2]
 |some x=>cases hi with
  |none=>simp only[cutP,ev_congr (x:=x) h1]
  |some y=>simp only[cutP,ev_congr (x:=x) h1,ev_congr (x:=y) h2]
theorem evs_congr{fr fr2:Fr}:∀ {as:List CX},(∀ t∈as.flatMap CX.slots,fr t=fr2 t)→as.map (·.ev fr)=as.map (·.ev fr2)
 | [],_=>rfl
 |x::as,h=>by
  simp only[List.map_cons]
  rw[ev_congr (x:=x) fun t ht=>h t (by simp[ht]),evs_congr (as:=as) fun t ht=>h t (by simp only[List.flatMap_cons,List.mem_append];exact .inr ht)]
theorem runOp_congr(cf:CallF){c:COp}{fr fr2:Fr}(h:∀ t∈c.slots,fr t=fr2 t)(st:St)(d:Option Nat):runOp cf fr st d c=runOp cf fr2 st d c:=by
 cases c with
 |build zs ps=>simp only[runOp,fillP_congr (ps:=ps) h]
 |bsl e sz zs n ps=>simp only[runOp,fillP_congr (ps:=ps) h]
 |call f as mv=>simp only[runOp,evs_congr (as:=as) h]
 |mkfn f as=>simp only[runOp,evs_congr (as:=as) h]
 |callU f as=>simp only[runOp,evs_congr (as:=as) h]
 |stx sz x y=>
  simp only[COp.slots,List.mem_append]at h
  simp only[runOp,ev_congr (x:=x) fun t ht=>h t (.inl ht),ev_congr (x:=y) fun t ht=>h t (.inr ht)]
 |mkmap=>rfl
 |b2s x=>simp only[runOp,ev_congr (x:=x) h]
 |mplen x=>simp only[runOp,ev_congr (x:=x) h]
 |mpset kk m k v=>
  simp only[COp.slots,List.mem_append]at h
  simp only[runOp,ev_congr (x:=m) fun t ht=>h t (.inl (.inl ht)),ev_congr (x:=k) fun t ht=>h t (.inl (.inr ht)),ev_congr (x:=v) fun t ht=>h t (.inr ht)]
 |mpget ok z kk m k=>
  simp only[COp.slots,List.mem_append]at h
  simp only[runOp,ev_congr (x:=m) fun t ht=>h t (.inl ht),ev_congr (x:=k) fun t ht=>h t (.inr ht)]
 |cval f as=>
  simp only[COp.slots,List.mem_append]at h
  simp only[runOp,ev_congr (x:=f) fun t ht=>h t (.inl ht),evs_congr (as:=as) fun t ht=>h t (.inr ht)]
 |ssl x lo hi=>
  simp only[COp.slots,List.mem_append]at h
  simp only[runOp,ev_congr (x:=x) fun t ht=>h t (.inl (.inl ht)),cutP_congr (lo:=lo) (hi:=hi) (fun t ht=>h t (.inl (.inr ht))) (fun t ht=>h t (.inr ht))]
 |slc sz x lo hi=>
  simp only[COp.slots,List.mem_append]at h
  simp only[runOp,ev_congr (x:=x) fun t ht=>h t (.inl (.inl ht)),cutP_congr (lo:=lo) (hi:=hi) (fun t ht=>h t (.inl (.inr ht))) (fun t ht=>h t (.inr ht))]
 |pick c a b=>
  simp only[COp.slots,List.mem_append]at h
  simp only[runOp,ev_congr (x:=c) fun t ht=>h t (.inl (.inl ht)),ev_congr (x:=a) fun t ht=>h t (.inl (.inr ht)),ev_congr (x:=b) fun t ht=>h t (.inr ht)]
 |alloc zs=>rfl
 |mv x=>simp only[runOp,ev_congr (x:=x) h]
 |box sz x=>simp only[runOp,ev_congr (x:=x) h]
 |load sz ag x=>simp only[runOp,ev_congr (x:=x) h]
 |nck x=>simp only[runOp,ev_congr (x:=x) h]
 |isnil ng x=>simp only[runOp,ev_congr (x:=x) h]
 |un op x=>simp only[runOp,ev_congr (x:=x) h]
 |toInt k x=>simp only[runOp,ev_congr (x:=x) h]
 |s2s x=>simp only[runOp,ev_congr (x:=x) h]
 |ext x i=>simp only[runOp,ev_congr (x:=x) h]
 |fad n x=>simp only[runOp,ev_congr (x:=x) h]
 |fld n sz ag x=>simp only[runOp,ev_congr (x:=x) h]
 |slen x=>simp only[runOp,ev_congr (x:=x) h]
 |len x=>simp only[runOp,ev_congr (x:=x) h]
 |store sz x y=>
  simp only[COp.slots,List.mem_append]at h
  simp only[runOp,ev_congr (x:=x) fun t ht=>h t (.inl ht),ev_congr (x:=y) fun t ht=>h t (.inr ht)]
 |bin op x y=>
  simp only[COp.slots,List.mem_append]at h
  simp only[runOp,ev_congr (x:=x) fun t ht=>h t (.inl ht),ev_congr (x:=y) fun t ht=>h t (.inr ht)]
 |beq ng x y=>
  simp only[COp.slots,List.mem_append]at h
  simp only[runOp,ev_congr (x:=x) fun t ht=>h t (.inl ht),ev_congr (x:=y) fun t ht=>h t (.inr ht)]
 |iad sz x y=>
  simp only[COp.slots,List.mem_append]at h
  simp only[runOp,ev_congr (x:=x) fun t ht=>h t (.inl ht),ev_congr (x:=y) fun t ht=>h t (.inr ht)]
 |sidx x y=>
  simp only[COp.slots,List.mem_append]at h
  simp only[runOp,ev_congr (x:=x) fun t ht=>h t (.inl ht),ev_congr (x:=y) fun t ht=>h t (.inr ht)]
 |mks e sz b zs x y=>
  simp only[COp.slots,List.mem_append]at h
  simp only[runOp,ev_congr (x:=x) fun t ht=>h t (.inl ht),ev_congr (x:=y) fun t ht=>h t (.inr ht)]
 |mk0 e sz b x y=>
  simp only[COp.slots,List.mem_append]at h
  simp only[runOp,ev_congr (x:=x) fun t ht=>h t (.inl ht),ev_congr (x:=y) fun t ht=>h t (.inr ht)]
 |apc e sz b x y=>
  simp only[COp.slots,List.mem_append]at h
  simp only[runOp,ev_congr (x:=x) fun t ht=>h t (.inl ht),ev_congr (x:=y) fun t ht=>h t (.inr ht)]
 |app e sz b x y=>
  simp only[COp.slots,List.mem_append]at h
  simp only[runOp,ev_congr (x:=x) fun t ht=>h t (.inl ht),ev_congr (x:=y) fun t ht=>h t (.inr ht)]
def eff:COp→Bool
 | .app .. =>true
 | .mk0 .. =>true
 | .call .. =>true
 | .cval .. =>true
 |_=>false
def wrs:COp→Bool
 | .store .. =>true
 | .call .. =>true
 | .cval .. =>true
 |_=>false
def keyOf:PV→List Nat
 | .ptr s _=>[s]
 |_=>[]
def keysAt(fr:Fr):COp→List Nat
 | .load _ _ a=>keyOf (a.ev fr)
 | .store _ a _=>keyOf (a.ev fr)
 | .call _ as _=>(keysOf (as.map (·.ev fr))).getD []
 | .cval f as=>match f.ev fr with
  | .fn _ cap=>(keysOf (as.map (·.ev fr)++cap)).getD []
  |_=>[]
 |_=>[]
theorem keysAt_congr{c:COp}{fr fr2:Fr}(h:∀ t∈c.slots,fr t=fr2 t):keysAt fr c=keysAt fr2 c:=by
 cases c with
 |load sz ag x=>simp only[keysAt,ev_congr (x:=x) h]
 |store sz x y=>
  simp only[COp.slots,List.mem_append]at h
  simp only[keysAt,ev_congr (x:=x) fun t ht=>h t (.inl ht)]
 |call f as mv=>simp only[keysAt,evs_congr (as:=as) h]
 |cval f as=>
  simp only[COp.slots,List.mem_append]at h
  simp only[keysAt,ev_congr (x:=f) fun t ht=>h t (.inl ht),evs_congr (as:=as) fun t ht=>h t (.inr ht)]
 |_=>rfl
structure SameC (st st2:St):Prop where
 nx:st.nx=st2.nx
 cnt:st.cnt=st2.cnt
 fl:st.fl=st2.fl
 maps:st.maps=st2.maps
theorem SameC.refl(st:St):SameC st st:=⟨rfl,rfl,rfl,rfl⟩
theorem SameC.symm{a b:St}(h:SameC a b):SameC b a:=⟨h.nx.symm,h.cnt.symm,h.fl.symm,h.maps.symm⟩
theorem SameC.trans{a b c:St}(h:SameC a b)(k:SameC b c):SameC a c:=⟨h.nx.trans k.nx,h.cnt.trans k.cnt,h.fl.trans k.fl,h.maps.trans k.maps⟩
theorem St.eq_of{a b:St}(h:SameC a b)(ho:∀ k,a.objs k=b.objs k):a=b:=by
 obtain⟨h1,h2,h3,h4⟩:=h
 cases a;cases b
 simp only at h1 h2 h3 h4 ho
 subst h1 h2 h3 h4
 congr
 exact funext ho
structure Loc (e w:Bool) (ks:List Nat) (run:St→Option (PV×St)):Prop where
 quiet:∀ {st v st1},run st=some (v,st1)→(e=false→SameC st1 st)∧(∀ k,k∉ks→st1.objs k=st.objs k)∧(w=false→∀ k,st1.objs k=st.objs k)
 move:∀ {st v st1 st2},run st=some (v,st1)→(e=true→SameC st st2)→(∀ k∈ks,st.objs k=st2.objs k)→
  ∃ st3,run st2=some (v,st3)∧(e=true→SameC st3 st1)∧(e=false→SameC st3 st2)∧(∀ k∈ks,st3.objs k=st1.objs k)∧∀ k,k∉ks→st3.objs k=st2.objs k
theorem Loc.pure{ks:List Nat}{r:Option PV}{e w:Bool}:Loc e w ks (fun st=>r.map fun v=>(v,st)):=by
 refine⟨fun h=>?_,fun h hC ho=>?_⟩
 ·cases r with
  |none=>cases h
  |some v=>cases h;exact⟨fun _=> .refl _,fun _ _=>rfl,fun _ _=>rfl⟩
 ·cases r with
  |none=>cases h
  |some v=>
   cases h
   exact⟨_,rfl,fun h=>(hC h).symm,fun _=> .refl _,fun k hk=>(ho k hk).symm,fun _ _=>rfl⟩
theorem loc_call(cf:CallF)(f:Nat)(as:List PV):Loc true true ((keysOf as).getD []) (fun st=>callP cf f as [] st):=by
 have key:∀ {st v st1},callP cf f as [] st=some (v,st1)→∃ ks cs r ns cs',keysOf as=some ks∧getAll st ks=some cs∧cf f (handOn [] [] 0 0 as) [] (cs.map strips)=some (r,ns,cs')∧cs'.length=cs.length∧
   v=ren (fun k=>some (st.nx+k)) false r∧st1={st.more ns with objs:=setAll st.objs ks (cs'.map (rens (fun k=>some (st.nx+k)) false)),fl:=if(closed r && cs'.all closeds)||freeC as cs then st.fl else st.nx}:=by
  intro st v st1 h
  unfold callP at h
  split at h
  ·cases h
  ·rename_i ks hks
   split at h
   ·cases h
   ·rename_i cs hcs
    simp only at h
    split at h
    ·rename_i r ns cs' hcall
     split at h
     ·rename_i hl
      simp only[Option.some.injEq,Prod.mk.injEq]at h
      exact⟨ks,cs,r,ns,cs',hks,hcs,hcall,by simpa using hl,h.1.symm,h.2.symm⟩
     ·cases h
    ·cases h
 have same:∀ {st st2:St} {ks:List Nat},(∀ k∈ks,st.objs k=st2.objs k)→getAll st2 ks=getAll st ks:=by
  intro st st2 ks
  induction ks with
  |nil=>intro _;rfl
  |cons k ks ih=>
   intro h
   simp only[getAll,h k (by simp),ih fun j hj=>h j (by simp[hj])]
 refine⟨fun h=>?_,fun{st v st1 st2} h hC ho=>?_⟩
 ·obtain⟨ks,cs,r,ns,cs',hks,hcs,hcall,hl,rfl,rfl⟩:=key h
  refine⟨by simp,fun k hk=>?_,by simp⟩
  rw[hks]at hk
  exact setAll_not hk
 ·obtain⟨ks,cs,r,ns,cs',hks,hcs,hcall,hl,rfl,rfl⟩:=key h
  have hC:=hC rfl
  rw[hks]at ho
  have hcs2:getAll st2 ks=getAll st ks:=same ho
  refine⟨{st2.more ns with objs:=setAll st2.objs ks (cs'.map (rens (fun k=>some (st2.nx+k)) false)),fl:=if(closed r && cs'.all closeds)||freeC as cs then st2.fl else st2.nx},?_,fun _=>⟨?_,?_,?_,?_⟩,by simp,?_,?_⟩
  ·simp only[callP,hks,hcs2,hcs,hcall,hl,if_true,hC.nx]
  ·simp only[St.more_nx,hC.nx]
  ·cases ns<;>simp only[St.more,hC.nx,hC.cnt]
  ·simp only[hC.nx,hC.fl]
  ·simp only[St.more_maps,hC.maps]
  ·intro k hk
   rw[hks]at hk
   obtain⟨i,hi,e⟩:=List.getElem_of_mem (show k∈ks from hk)
   have hi':ks[i]? =some k:=by rw[←e];exact List.getElem?_eq_getElem hi
   have hlen:ks.length=(cs'.map (rens (fun k=>some (st2.nx+k)) false)).length:=by simp only[List.length_map];rw[hl];exact(getAll_get hcs).1
   show setAll st2.objs ks _ k=setAll st.objs ks _ k
   rw[setAll_at (keysOf_nodup hks) hi' hlen,setAll_at (keysOf_nodup hks) hi' (by simpa using hlen),hC.nx]
  ·intro k hk
   rw[hks]at hk
   exact setAll_not hk
theorem fam_same{st st2:St}(h:SameC st st2)(t:Tok)(n:Nat):SameC (famSt st2 n t) (famSt st n t):=by
 obtain⟨h1,h2,h3,h4⟩:=h
 cases t with
 |own k e=>exact⟨h1.symm,by simp[famSt,St.count,h2],h3.symm,h4.symm⟩
 |_=>exact⟨by simp[famSt,St.more,h1],by simp[famSt,St.more,h1,h2],h3.symm,h4.symm⟩
def stirs(c:COp):Bool:=makes c||(match c with
 | .call _ _ (_::_)=>true
 | .callU .. =>true
 | .stx .. =>true
 | .apc .. =>true
 | .mpset .. =>true
 | .mpget .. =>true
 | .mplen .. =>true
 |_=>false)
theorem loc_op(cf:CallF)(fr:Fr)(d:Option Nat)(c:COp)(hm:stirs c=false):Loc (eff c) (wrs c) (keysAt fr c) (fun st=>runOp cf fr st d c):=by
 cases c with
 |alloc zs=>cases hm
 |box sz x=>cases hm
 |mks e sz b zs n c=>cases hm
 |mkmap=>cases hm
 |mpset kk m k v=>cases hm
 |mpget ok z kk m k=>cases hm
 |mplen m=>cases hm
 |stx sz x y=>cases hm
 |apc e sz b x y=>cases hm
 |callU f as=>cases hm
 |call f as mv=>
  cases mv with
  |nil=>exact loc_call cf f (as.map (·.ev fr))
  |cons m mv=>cases hm
 |b2s x=>
  simp only[runOp]
  split
  ·split
   ·split<;>first|exact Loc.pure (r:=some _)|exact⟨fun h=>(by cases h),fun h=>(by cases h)⟩
   ·exact⟨fun h=>(by cases h),fun h=>(by cases h)⟩
  ·exact⟨fun h=>(by cases h),fun h=>(by cases h)⟩
 |mkfn f as=>
  simp only[runOp]
  split<;>first|exact Loc.pure (r:=some _)|exact⟨fun h=>(by cases h),fun h=>(by cases h)⟩
 |cval f as=>
  simp only[runOp,keysAt]
  cases f.ev fr with
  |fn g cap=>
   by_cases hg:g<1000000
   ·simp only[if_pos hg]
    exact loc_call cf g (as.map (·.ev fr)++cap)
   ·simp only[if_neg hg]
    exact⟨fun h=>(by cases h),fun h=>(by cases h)⟩
  |_=>exact⟨fun h=>(by cases h),fun h=>(by cases h)⟩
 |app e sz b x y=>
  have key:∀ {st v st1},runOp cf fr st d (.app e sz b x y)=some (v,st1)→∃ n cs t m ds ty,x.ev fr= .list n cs t∧y.ev fr= .list m ds ty∧
    (can st n t=true∧cs.length=n*sz∧ds.length=m*sz∧(n+m) *b≤byteBound∧n+m≤byteBound∧0<sz)∧ofE e t∧v= .list (n+m) (cs++ds) (.own (famOf st t) e)∧st1=famSt st (n+m) t∧(∀ e',t= .full e'→0<m∨n=0):=by
   intro st v st1 h
   simp only[runOp]at h
   split at h
   ·rename_i n cs t m ds ty e1 e2
    split at h
    ·rename_i hb
     refine⟨n,cs,t,m,ds,ty,e1,e2,hb,?_⟩
     cases t with
     |no=>simp[can]at hb
     |sub k=>simp[can]at hb
     |el k e n=>simp[can]at hb
     |nil=>cases h;exact⟨trivial,rfl,rfl,fun _ h=>by cases h⟩
     |full e'=>
      simp only at h
      split at h
      ·rename_i he;cases h;exact⟨he.1,rfl,rfl,fun _ _=>he.2⟩
      ·cases h
     |own k e'=>
      simp only at h
      split at h
      ·rename_i he;cases h;exact⟨he,rfl,rfl,fun _ h=>by cases h⟩
      ·cases h
    ·cases h
   ·cases h
  refine⟨fun{st v st1} h=>?_,fun{st v st1 st2} h hC ho=>?_⟩
  ·obtain⟨n,cs,t,m,ds,ty,e1,e2,hb,he,rfl,rfl,hfu⟩:=key h
   refine⟨by simp[eff],fun k _=>?_,fun _ k=>?_⟩<;>cases t<;>rfl
  ·obtain⟨n,cs,t,m,ds,ty,e1,e2,hb,he,rfl,rfl,hfu⟩:=key h
   have hC:=hC rfl
   have hcan:can st2 n t=can st n t:=by cases t<;>simp[can,hC.nx,hC.cnt]
   refine⟨famSt st2 (n+m) t,?_,fun _=>?_,by simp[eff],fun k hk=>by simp[keysAt]at hk,fun k _=>by cases t<;>rfl⟩
   ·simp only[runOp,e1,e2,hcan,hb,and_self,if_true]
    cases t with
    |full e'=>simp only[if_pos (show e'=e∧(0<m∨n=0)from⟨he,hfu e' rfl⟩)];simp[famOf,famSt,hC.nx]
    |_=>simp[famOf,famSt,hC.nx]<;>first|(simp[can]at hb;done)|exact he
   ·exact fam_same hC t (n+m)
 |mk0 e sz b x y=>
  have key:∀ {st v st1},runOp cf fr st d (.mk0 e sz b x y)=some (v,st1)→v= .list 0 [] (.own st.nx e)∧st1=st.more [0]∧∀ st2,runOp cf fr st2 d (.mk0 e sz b x y)=some (.list 0 [] (.own st2.nx e),st2.more [0]):=by
   intro st v st1 h
   simp only[runOp]at h
   split at h
   ·rename_i nb e1 e2
    split at h
    ·rename_i hb
     cases h
     exact⟨rfl,rfl,fun st2=>by simp only[runOp,e1,e2,hb,and_self,if_true]⟩
    ·cases h
   ·cases h
  refine⟨fun{st v st1} h=>?_,fun{st v st1 st2} h hC ho=>?_⟩
  ·obtain⟨rfl,rfl,_⟩:=key h
   exact⟨by simp[eff],fun _ _=>rfl,fun _ _=>rfl⟩
  ·obtain⟨rfl,rfl,hk⟩:=key h
   have hC:=hC rfl
   refine⟨st2.more [0],?_,fun _=>⟨by simp[St.more,hC.nx],by simp[St.more,hC.nx,hC.cnt],by simp[St.more,hC.fl],by simp[St.more,hC.maps]⟩,by simp[eff],fun k hk=>by simp[keysAt]at hk,fun _ _=>rfl⟩
   rw[hC.nx]
   exact hk st2
 |load sz ag x=>
  simp only[runOp,keysAt]
  cases hx:x.ev fr with
  |ptr s off=>
   simp only[keyOf]
   refine⟨fun{st v st1} h=>?_,fun{st v st1 st2} h hC ho=>?_⟩
   ·split at h
    ·simp only[Option.map_eq_some_iff]at h
     obtain⟨q,hq,hqe⟩:=h
     cases hqe
     exact⟨fun _=> .refl _,fun _ _=>rfl,fun _ _=>rfl⟩
    ·cases h
   ·split at h
    ·rename_i cs hcs
     simp only[Option.map_eq_some_iff]at h
     obtain⟨q,hq,hqe⟩:=h
     cases hqe
     have:=ho s (by simp)
     refine⟨st2,by simp only[←this,hcs,hq,Option.map_some],by simp[eff],fun _=> .refl _,fun k hk=>(ho k hk).symm,fun _ _=>rfl⟩
    ·cases h
  |iptr cs off t=>exact Loc.pure
  |_=>exact⟨fun h=>(by cases h),fun h=>(by cases h)⟩
 |store sz x y=>
  have key:∀ {st v st1},runOp cf fr st d (.store sz x y)=some (v,st1)→∃ s off vs cs,x.ev fr= .ptr s off∧cellsOf (y.ev fr)=some vs∧st.objs s=some cs∧(vs.length=sz∧off+sz≤cs.length)∧v= .hole∧st1={st with objs:=fun k=>if k=s then some (putCells cs off vs)else st.objs k}:=by
   intro st v st1 h
   simp only[runOp]at h
   split at h
   ·rename_i s off vs e1 e2
    split at h
    ·rename_i cs hcs
     split at h
     ·rename_i hb
      cases h
      exact⟨s,off,vs,cs,e1,e2,hcs,hb,rfl,rfl⟩
     ·cases h
    ·cases h
   ·cases h
  refine⟨fun{st v st1} h=>?_,fun{st v st1 st2} h hC ho=>?_⟩
  ·obtain⟨s,off,vs,cs,e1,e2,hcs,hb,rfl,rfl⟩:=key h
   refine⟨fun _=>⟨rfl,rfl,rfl,rfl⟩,fun k hk=>?_,by simp[wrs]⟩
   simp only[keysAt,e1,keyOf,List.mem_singleton]at hk
   simp[hk]
  ·obtain⟨s,off,vs,cs,e1,e2,hcs,hb,rfl,rfl⟩:=key h
   have hs:=ho s (by simp[keysAt,e1,keyOf])
   refine⟨{st2 with objs:=fun k=>if k=s then some (putCells cs off vs)else st2.objs k},?_,by simp[eff],fun _=>⟨rfl,rfl,rfl,rfl⟩,fun k hk=>?_,fun k hk=>?_⟩
   ·simp only[runOp,e1,e2,←hs,hcs,hb,and_self,if_true]
   ·simp only[keysAt,e1,keyOf,List.mem_singleton]at hk
    simp[hk]
   ·simp only[keysAt,e1,keyOf,List.mem_singleton]at hk
    simp[hk]
 |mv x=>exact Loc.pure (r:=some (x.ev fr))
 |pick c a b=>
  simp only[runOp]
  split
  ·exact Loc.pure (r:=some _)
  ·exact Loc.pure (r:=some _)
  ·exact⟨fun h=>(by cases h),fun h=>(by cases h)⟩
 |build zs ps=>
  simp only[runOp]
  split
  ·exact Loc.pure (r:=some _)
  ·exact⟨fun h=>(by cases h),fun h=>(by cases h)⟩
 |bsl e sz zs n ps=>
  simp only[runOp]
  split
  ·split
   ·exact Loc.pure (r:=some _)
   ·exact⟨fun h=>(by cases h),fun h=>(by cases h)⟩
  ·exact⟨fun h=>(by cases h),fun h=>(by cases h)⟩
 |nck x=>
  simp only[runOp]
  split<;>first|exact Loc.pure (r:=some _)|exact⟨fun h=>(by cases h),fun h=>(by cases h)⟩
 |bin op x y=>exact Loc.pure
 |isnil neg x=>
  simp only[runOp]
  split<;>first|exact Loc.pure (r:=some _)|exact⟨fun h=>(by cases h),fun h=>(by cases h)⟩
 |beq neg x y=>
  simp only[runOp]
  split<;>first|exact Loc.pure (r:=some _)|exact⟨fun h=>(by cases h),fun h=>(by cases h)⟩
 |un op x=>exact Loc.pure
 |toInt k x=>
  simp only[runOp]
  split<;>first|exact Loc.pure (r:=some _)|exact⟨fun h=>(by cases h),fun h=>(by cases h)⟩
 |s2s x=>
  simp only[runOp]
  split<;>first|exact Loc.pure (r:=some _)|exact⟨fun h=>(by cases h),fun h=>(by cases h)⟩
 |ext x i=>
  simp only[runOp]
  split<;>first|exact Loc.pure|exact⟨fun h=>(by cases h),fun h=>(by cases h)⟩
 |fad n x=>
  simp only[runOp]
  split<;>first|exact Loc.pure (r:=some _)|exact⟨fun h=>(by cases h),fun h=>(by cases h)⟩
 |fld n sz ag x=>
  simp only[runOp]
  split<;>first|exact Loc.pure|exact⟨fun h=>(by cases h),fun h=>(by cases h)⟩
 |iad sz x i=>
  simp only[runOp]
  split
  ·split<;>first|exact Loc.pure (r:=some _)|exact⟨fun h=>(by cases h),fun h=>(by cases h)⟩
  ·split<;>first|exact Loc.pure (r:=some _)|exact⟨fun h=>(by cases h),fun h=>(by cases h)⟩
  ·exact⟨fun h=>(by cases h),fun h=>(by cases h)⟩
 |sidx x i=>
  simp only[runOp]
  split
  ·split<;>first|exact Loc.pure (r:=some _)|exact⟨fun h=>(by cases h),fun h=>(by cases h)⟩
  ·exact⟨fun h=>(by cases h),fun h=>(by cases h)⟩
 |ssl x lo hi=>
  simp only[runOp]
  split
  ·split<;>first|exact Loc.pure (r:=some _)|exact⟨fun h=>(by cases h),fun h=>(by cases h)⟩
  ·exact⟨fun h=>(by cases h),fun h=>(by cases h)⟩
 |slc sz x lo hi=>
  simp only[runOp]
  split
  ·split
   ·split<;>first|exact Loc.pure (r:=some _)|exact⟨fun h=>(by cases h),fun h=>(by cases h)⟩
   ·exact⟨fun h=>(by cases h),fun h=>(by cases h)⟩
  ·exact⟨fun h=>(by cases h),fun h=>(by cases h)⟩
 |slen x=>
  simp only[runOp]
  split<;>first|exact Loc.pure (r:=some _)|exact⟨fun h=>(by cases h),fun h=>(by cases h)⟩
 |len x=>
  simp only[runOp]
  split<;>first|exact Loc.pure (r:=some _)|exact⟨fun h=>(by cases h),fun h=>(by cases h)⟩
def COper.reads(o:COper):List Nat:=o.op.slots++(match o.g with|some (s,_)=>[s]|none=>[])
def rws:COp→Bool
 | .load .. =>true
 | .store .. =>true
 | .call .. =>true
 | .cval .. =>true
 |_=>false
def slotsApart(o p:COper):Bool:=
 (match o.d with|some d=>!(p.reads).contains d && p.d !=some d|none=>true) && (match p.d with|some d=>!(o.reads).contains d|none=>true)
def still0(o p:COper):Bool:=!stirs o.op && !stirs p.op && !(eff o.op && eff p.op) && slotsApart o p
def isMv:COp→Bool
 | .mv (.sl _)=>true
 |_=>false
def isTake:COp→Bool
 | .call _ _ (_::_)=>true
 | .apc .. =>true
 |_=>false
def still(o p:COper):Bool:=still0 o p||(isMv o.op && isTake p.op && slotsApart o p)||(isTake o.op && isMv p.op && slotsApart o p)
def keyed(o p:COper):Bool:=(wrs o.op && rws p.op)||(wrs p.op && rws o.op)
theorem keysAt_none{fr:Fr}{c:COp}(h:rws c=false):keysAt fr c=[]:=by
 cases c<;>first|rfl|cases h
def act(cf:CallF)(fr:Fr)(o:COper)(st:St):Option (PV×St):=match wants fr o.g with
 |some true=>runOp cf fr st o.d o.op
 |some false=>some (.hole,st)
 |none=>none
theorem killF_still{cf:CallF}{c:COp}(h:stirs c=false)(d:Option Nat)(st:St)(fr:Fr):killF cf c d st fr=fr:=by
 cases c with
 |call f as mv=>cases mv with
  |nil=>rfl
  |cons m mv=>simp[stirs]at h
 |_=>cases d<;>first|rfl|(simp[stirs,makes]at h)
theorem runOper_act(cf:CallF){o:COper}(hm:stirs o.op=false)(fr:Fr)(st:St):runOper cf o (fr,st)=(act cf fr o st).map fun q=>(put fr o.d q.1,q.2):=by
 unfold runOper act
 have hk:killF cf o.op o.d st fr=fr:=killF_still hm _ _ _
 cases hw:wants fr o.g with
 |none=>simp only[];rfl
 |some b=>cases b with
  |false=>simp only[];rfl
  |true=>
   simp only[]
   cases hr:runOp cf fr st o.d o.op with
   |none=>rfl
   |some q=>simp[hk]
theorem loc_act(cf:CallF)(fr:Fr){o:COper}(hm:stirs o.op=false):Loc (eff o.op) (wrs o.op) (keysAt fr o.op) (act cf fr o):=by
 have h:=loc_op cf fr o.d o.op hm
 cases hw:wants fr o.g with
 |none=>
  have:act cf fr o=fun _=>none:=by funext st;simp only[act,hw]
  rw[this]
  exact⟨fun h=>(by cases h),fun h=>(by cases h)⟩
 |some b=>cases b with
  |false=>
   have:act cf fr o=fun st=>(some PV.hole).map fun v=>(v,st):=by funext st;simp only[act,hw,Option.map_some]
   rw[this]
   exact Loc.pure
  |true=>
   have:act cf fr o=fun st=>runOp cf fr st o.d o.op:=by funext st;simp only[act,hw]
   rw[this]
   exact h
theorem act_congr(cf:CallF){o:COper}{fr fr2:Fr}(h:∀ t∈o.reads,fr t=fr2 t)(st:St):act cf fr o st=act cf fr2 o st:=by
 have h1:∀ t∈o.op.slots,fr t=fr2 t:=fun t ht=>h t (by simp[COper.reads,ht])
 have h2:wants fr o.g=wants fr2 o.g:=by
  cases hg:o.g with
  |none=>rfl
  |some q=>
   obtain⟨s,b⟩:=q
   have:fr s=fr2 s:=h s (by simp[COper.reads,hg])
   simp only[wants,this]
 simp only[act,h2,runOp_congr cf h1]
theorem put_other{fr:Fr}{d:Option Nat}{v:PV}{l:List Nat}(h:∀ s,d=some s→s∉l):∀ t∈l,put fr d v t=fr t:=by
 intro t ht
 cases d with
 |none=>rfl
 |some s=>
  have hne:t≠s:=by rintro rfl;exact h t rfl ht
  simp[put,upd,hne]
theorem put_comm{fr:Fr}{d e:Option Nat}{u v:PV}(h:∀ s,d=some s→e≠some s):put (put fr d u) e v=put (put fr e v) d u:=by
 cases d with
 |none=>rfl
 |some s=>
  cases e with
  |none=>rfl
  |some t=>
   have hne:s≠t:=by rintro rfl;exact h s rfl rfl
   funext x
   simp only[put,upd]
   by_cases h1:x=t<;>by_cases h2:x=s<;>simp[h1,h2]
   ·exact absurd (h2.symm.trans h1) hne
   ·intro hc;exact absurd hc.symm hne
   ·intro hc;exact absurd hc hne
theorem slotsApart_spec{o p:COper}(h:slotsApart o p=true):(∀ s,o.d=some s→s∉p.reads)∧(∀ s,o.d=some s→p.d≠some s)∧(∀ s,p.d=some s→s∉o.reads):=by
 refine⟨fun s hs=>?_,fun s hs=>?_,fun s hs=>?_⟩<;>simp[slotsApart,hs]at h
 ·exact h.1.1
 ·exact h.1.2
 ·exact h.2
theorem swap0(cf:CallF){o p:COper}(hs:still0 o p=true){fr fr1 fr2:Fr}{st st1 st2:St}(hk:keyed o p=true→∀ k∈keysAt fr o.op,k∉keysAt fr1 p.op)
  (h1:runOper cf o (fr,st)=some (fr1,st1)) (h2:runOper cf p (fr1,st1)=some (fr2,st2)):
  ∃ fr' st',runOper cf p (fr,st)=some (fr',st')∧runOper cf o (fr',st')=some (fr2,st2)∧keysAt fr' o.op=keysAt fr o.op∧keysAt fr p.op=keysAt fr1 p.op:=by
 simp only[still0,Bool.and_eq_true,Bool.not_eq_true']at hs
 obtain⟨⟨⟨hmo,hmp⟩,heff⟩,hap⟩:=hs
 obtain⟨a1,a2,a3⟩:=slotsApart_spec hap
 rw[runOper_act cf hmo]at h1
 rw[runOper_act cf hmp]at h2
 simp only[Option.map_eq_some_iff]at h1 h2
 obtain⟨⟨v,s1⟩,ho,e1⟩:=h1
 obtain⟨⟨u,s2⟩,hp,e2⟩:=h2
 simp only[Prod.mk.injEq]at e1 e2
 obtain⟨rfl,rfl⟩:=e1
 obtain⟨rfl,rfl⟩:=e2
 have hsub:∀ {q:COper} {t:Nat},t∈q.op.slots→t∈q.reads:=fun h=>by simp[COper.reads,h]
 have kp:keysAt (put fr o.d v) p.op=keysAt fr p.op:=keysAt_congr fun t ht=>put_other a1 t (hsub ht)
 have ko:keysAt (put fr p.d u) o.op=keysAt fr o.op:=keysAt_congr fun t ht=>put_other a3 t (hsub ht)
 rw[kp]at hk
 rw[act_congr cf (put_other a1)]at hp
 have lo:=loc_act cf fr hmo
 have lp:=loc_act cf fr hmp
 obtain⟨q1,q2,q3⟩:=lo.quiet ho
 obtain⟨r1,r2,r3⟩:=lp.quiet hp
 have both:∀ k,k∈keysAt fr o.op→k∈keysAt fr p.op→wrs o.op=false∧wrs p.op=false:=by
  intro k h1 h2
  have hro:rws o.op=true:=by
   cases h:rws o.op with
   |true=>rfl
   |false=>rw[keysAt_none h]at h1;cases h1
  have hrp:rws p.op=true:=by
   cases h:rws p.op with
   |true=>rfl
   |false=>rw[keysAt_none h]at h2;cases h2
  cases hkd:keyed o p with
  |true=>exact absurd h2 (hk hkd k h1)
  |false=>
   simp only[keyed,hro,hrp,Bool.and_true,Bool.or_eq_false_iff]at hkd
   exact hkd
 have ef:eff o.op=true→eff p.op=false:=fun h=>by
  cases hp:eff p.op with
  |false=>rfl
  |true=>rw[h,hp]at heff;cases heff
 obtain⟨s3,hp',b1,b2,b3,b4⟩:=lp.move (st2:=st) hp (fun h=>q1 (by
  cases ho:eff o.op with
  |false=>rfl
  |true=>rw[ef ho]at h;cases h)) (fun k hk'=>by
   by_cases hko:k∈keysAt fr o.op
   ·exact q3 (both k hko hk').1 k
   ·exact q2 k hko)
 obtain⟨s4,ho',c1,c2,c3,c4⟩:=lo.move (st2:=s3) ho (fun h=>(b2 (ef h)).symm) (fun k hk'=>by
  by_cases hkp:k∈keysAt fr p.op
  ·obtain⟨w1,w2⟩:=both k hk' hkp
   rw[b3 k hkp,r3 w2 k,q3 w1 k]
  ·exact(b4 k hkp).symm)
 have hfin:s4=s2:=by
  refine St.eq_of ?_ fun k=>?_
  ·cases heo:eff o.op with
   |true=>exact(c1 heo).trans (r1 (ef heo)).symm
   |false=>
    cases hep:eff p.op with
    |true=>exact(c2 heo).trans (b1 hep)
    |false=>exact(c2 heo).trans ((b2 hep).trans ((q1 heo).symm.trans (r1 hep).symm))
  ·by_cases hko:k∈keysAt fr o.op
   ·rw[c3 k hko]
    by_cases hkp:k∈keysAt fr p.op
    ·rw[r3 (both k hko hkp).2 k]
    ·rw[r2 k hkp]
   ·rw[c4 k hko]
    by_cases hkp:k∈keysAt fr p.op
    ·rw[b3 k hkp]
    ·rw[b4 k hkp,r2 k hkp,q2 k hko]
 refine⟨put fr p.d u,s3,?_,?_,ko,kp.symm⟩
 ·rw[runOper_act cf hmp,hp'];rfl
 ·rw[runOper_act cf hmo,act_congr cf (put_other a3),ho',hfin]
  simp only[Option.map_some]
  rw[put_comm fun s hs=>a2 s hs]
theorem wants_kill{fr:Fr}{J:List Nat}(g:Option (Nat×Bool)){b:Bool}(h:wants fr g=some b):wants (fun t=>killT J (fr t)) g=some b:=by
 cases g with
 |none=>exact h
 |some q=>
  obtain⟨s,c⟩:=q
  simp only[wants]at h ⊢
  split at h
  ·rename_i b' e;rw[e];exact h
  ·rename_i e;rw[e];exact h
  ·cases h
theorem wants_congr{fr fr2:Fr}{o:COper}(h:∀ t∈o.reads,fr t=fr2 t):wants fr o.g=wants fr2 o.g:=by
 cases hg:o.g with
 |none=>rfl
 |some q=>
  obtain⟨s,b⟩:=q
  have:fr s=fr2 s:=h s (by simp[COper.reads,hg])
  simp only[wants,this]
theorem put_kill{fr:Fr}{J:List Nat}{d:Option Nat}{v:PV}:(fun t=>killT J (put fr d v t))=put (fun t=>killT J (fr t)) d (killT J v):=by
 funext t
 cases d with
 |none=>rfl
 |some s=>
  simp only[put,upd]
  split<;>rfl
theorem runOper_take(cf:CallF){p:COper}{J:Fr→St→List Nat}(hJ:∀ d st fr,killF cf p.op d st fr=fun t=>killT (J fr st) (fr t))(fr:Fr)(st:St):
  runOper cf p (fr,st)=match wants fr p.g with
   |some true=>(runOp cf fr st p.d p.op).map fun q=>(put (fun t=>killT (J fr st) (fr t)) p.d q.1,q.2)
   |some false=>some (put fr p.d .hole,st)
   |none=>none:=by
 unfold runOper
 cases hw:wants fr p.g with
 |none=>rfl
 |some b=>cases b with
  |false=>rfl
  |true=>
   simp only
   cases runOp cf fr st p.d p.op with
   |none=>rfl
   |some q=>simp only[hJ,Option.map_some]
theorem runOper_mv(cf:CallF){o:COper}{x:CX}(ho:o.op= .mv x)(fr:Fr)(st:St):
  runOper cf o (fr,st)=match wants fr o.g with
   |some true=>some (put fr o.d (x.ev fr),st)
   |some false=>some (put fr o.d .hole,st)
   |none=>none:=by
 unfold runOper
 rw[ho]
 cases wants fr o.g with
 |none=>rfl
 |some b=>cases b with
  |false=>rfl
  |true=>simp only[runOp,killF_quiet (cf:=cf) (c:= .mv x) rfl]
theorem isMv_of{c:COp}(h:isMv c=true):∃ n,c= .mv (.sl n):=by
 cases c with
 |mv x=>cases x with
  |sl n=>exact⟨n,rfl⟩
  |k p=>cases h
 |_=>cases h
theorem isTake_of(cf:CallF){c:COp}(h:isTake c=true):∃ J:Fr→St→List Nat,(∀ d st fr,killF cf c d st fr=fun t=>killT (J fr st) (fr t))∧∀ fr fr2 st,(∀ t∈c.slots,fr t=fr2 t)→J fr st=J fr2 st:=by
 cases c with
 |call f as mv=>exact⟨fun fr st=>takes (as.map (·.ev fr)) mv st,fun d st fr=>killF_call f as mv d st fr,fun fr fr2 st h=>by simp only[evs_congr (as:=as) h]⟩
 |apc e sz b x y=>
  refine⟨fun fr st=>cutJ (x.ev fr) (y.ev fr) st,fun d st fr=>rfl,fun fr fr2 st h=>?_⟩
  simp only[COp.slots,List.mem_append]at h
  simp only[ev_congr (x:=x) fun t ht=>h t (.inl ht),ev_congr (x:=y) fun t ht=>h t (.inr ht)]
 |_=>cases h
theorem swapA(cf:CallF){o p:COper}(hm:isMv o.op=true)(ht:isTake p.op=true)(hap:slotsApart o p=true){fr fr1 fr2:Fr}{st st1 st2:St}
  (h1:runOper cf o (fr,st)=some (fr1,st1)) (h2:runOper cf p (fr1,st1)=some (fr2,st2)):
  ∃ fr' st',runOper cf p (fr,st)=some (fr',st')∧runOper cf o (fr',st')=some (fr2,st2)∧keysAt fr' o.op=keysAt fr o.op∧keysAt fr p.op=keysAt fr1 p.op:=by
 obtain⟨n,hn⟩:=isMv_of hm
 obtain⟨J,hJ,hJc⟩:=isTake_of cf ht
 obtain⟨a1,a2,a3⟩:=slotsApart_spec hap
 have hnr:n∈o.reads:=by simp[COper.reads,hn,COp.slots,CX.slots]
 have hsl:∀ t∈p.op.slots,t∈p.reads:=fun t h=>by simp[COper.reads,h]
 have hobt:∃ v,fr1=put fr o.d v∧st1=st∧((wants fr o.g=some true∧v=fr n)∨(wants fr o.g=some false∧v= .hole)):=by
  rw[runOper_mv cf hn]at h1
  split at h1
  ·rename_i hw;cases h1;exact⟨_,rfl,rfl,.inl ⟨hw,rfl⟩⟩
  ·rename_i hw;cases h1;exact⟨_,rfl,rfl,.inr ⟨hw,rfl⟩⟩
  ·cases h1
 obtain⟨v,rfl,rfl,hv⟩:=hobt
 have hsame:∀ t∈p.reads,put fr o.d v t=fr t:=put_other a1
 have hk1:keysAt (put fr o.d v) p.op=keysAt fr p.op:=keysAt_congr fun t ht=>hsame t (hsl t ht)
 have hw:wants (put fr o.d v) p.g=wants fr p.g:=wants_congr hsame
 have has:∀ st,J (put fr o.d v) st=J fr st:=fun st=>hJc _ _ st fun t ht=>hsame t (hsl t ht)
 have hru:∀ st d,runOp cf (put fr o.d v) st d p.op=runOp cf fr st d p.op:=fun st d=>runOp_congr (cf:=cf) (st:=st) (d:=d) fun t ht=>hsame t (hsl t ht)
 rw[runOper_take cf hJ,hw,has,hru]at h2
 rw[runOper_take cf hJ]
 have hko:∀ g:Fr,keysAt g o.op=keysAt fr o.op:=fun g=>by rw[hn];rfl
 split at h2
 ·rename_i hwp
  try rw[hwp]
  cases hc:runOp cf fr st1 p.d p.op with
  |none=>rw[hc]at h2;cases h2
  |some q=>
   rw[hc]at h2
   cases h2
   refine⟨_,_,rfl,?_,hko _,hk1.symm⟩
   rw[runOper_mv cf hn]
   have hd:∀ s,p.d=some s→s∉o.reads:=a3
   have hw':wants (put (fun t=>killT (J fr st1) (fr t)) p.d q.1) o.g=wants (fun t=>killT (J fr st1) (fr t)) o.g:=wants_congr (put_other hd)
   rw[hw',put_kill,put_comm a2]
   rcases hv with⟨hwo,rfl⟩|⟨hwo,rfl⟩
   ·rw[wants_kill o.g hwo]
    have:CX.ev (put (fun t=>killT (J fr st1) (fr t)) p.d q.1) (.sl n)=killT (J fr st1) (fr n):=put_other hd n hnr
    simp only[this]
   ·rw[wants_kill o.g hwo]
    rfl
 ·rename_i hwp
  try rw[hwp]
  cases h2
  refine⟨_,_,rfl,?_,hko _,hk1.symm⟩
  rw[runOper_mv cf hn]
  have hw':wants (put fr p.d .hole) o.g=wants fr o.g:=wants_congr (put_other a3)
  rw[hw',put_comm a2]
  rcases hv with⟨hwo,rfl⟩|⟨hwo,rfl⟩
  ·rw[hwo]
   have:CX.ev (put fr p.d .hole) (.sl n)=fr n:=put_other a3 n hnr
   simp only[this]
  ·rw[hwo]
 ·cases h2
theorem swapB(cf:CallF){o p:COper}(ht:isTake o.op=true)(hm:isMv p.op=true)(hap:slotsApart o p=true){fr fr1 fr2:Fr}{st st1 st2:St}
  (h1:runOper cf o (fr,st)=some (fr1,st1)) (h2:runOper cf p (fr1,st1)=some (fr2,st2)):
  ∃ fr' st',runOper cf p (fr,st)=some (fr',st')∧runOper cf o (fr',st')=some (fr2,st2)∧keysAt fr' o.op=keysAt fr o.op∧keysAt fr p.op=keysAt fr1 p.op:=by
 obtain⟨n,hn⟩:=isMv_of hm
 obtain⟨J,hJ,hJc⟩:=isTake_of cf ht
 obtain⟨a1,a2,a3⟩:=slotsApart_spec hap
 have hnr:n∈p.reads:=by simp[COper.reads,hn,COp.slots,CX.slots]
 have hsl:∀ t∈o.op.slots,t∈o.reads:=fun t h=>by simp[COper.reads,h]
 have hkp:∀ g:Fr,keysAt fr p.op=keysAt g p.op:=fun g=>by rw[hn];rfl
 have hko:∀ v,keysAt (put fr p.d v) o.op=keysAt fr o.op:=fun v=>keysAt_congr fun t ht=>put_other a3 t (hsl t ht)
 have hwo:∀ v,wants (put fr p.d v) o.g=wants fr o.g:=fun v=>wants_congr (put_other a3)
 have has:∀ v st,J (put fr p.d v) st=J fr st:=fun v st=>hJc _ _ st fun t ht=>put_other a3 t (hsl t ht)
 have hru:∀ v st d,runOp cf (put fr p.d v) st d o.op=runOp cf fr st d o.op:=fun v st d=>runOp_congr (cf:=cf) (st:=st) (d:=d) fun t ht=>put_other a3 t (hsl t ht)
 rw[runOper_take cf hJ]at h1
 rw[runOper_mv cf hn]at h2
 split at h1
 ·rename_i hw
  cases hc:runOp cf fr st o.d o.op with
  |none=>rw[hc]at h1;cases h1
  |some q=>
   rw[hc]at h1
   cases h1
   have hw':wants (put (fun t=>killT (J fr st) (fr t)) o.d q.1) p.g=wants (fun t=>killT (J fr st) (fr t)) p.g:=wants_congr (put_other a1)
   have hval:CX.ev (put (fun t=>killT (J fr st) (fr t)) o.d q.1) (.sl n)=killT (J fr st) (fr n):=put_other a1 n hnr
   rw[hw',hval]at h2
   have back:∀ {b:Bool},wants (fun t=>killT (J fr st) (fr t)) p.g=some b→wants fr p.g=some b:=by
    intro b hb
    cases hg:p.g with
    |none=>rw[hg]at hb;exact hb
    |some q=>
     obtain⟨s,c⟩:=q
     rw[hg]at hb
     simp only[wants]at hb ⊢
     have hor:killT (J fr st) (fr s)=fr s∨killT (J fr st) (fr s)= .any:=by
      unfold killT;split
      ·exact .inl rfl
      ·exact .inr rfl
     rcases hor with h|h
     ·rw[h]at hb;exact hb
     ·rw[h]at hb;cases hb
   split at h2
   ·rename_i hwp
    cases h2
    have h3:=back hwp
    refine⟨_,_,by rw[runOper_mv cf hn,h3],?_,hko _,hkp _⟩
    rw[runOper_take cf hJ,hwo,has,hru,hw,hc]
    simp only[Option.map_some,put_kill,CX.ev]
    rw[put_comm a2]
   ·rename_i hwp
    cases h2
    have h3:=back hwp
    refine⟨_,_,by rw[runOper_mv cf hn,h3],?_,hko _,hkp _⟩
    rw[runOper_take cf hJ,hwo,has,hru,hw,hc]
    simp only[Option.map_some,put_kill]
    rw[put_comm a2]
    rfl
   ·cases h2
 ·rename_i hw
  cases h1
  have hw':wants (put fr o.d .hole) p.g=wants fr p.g:=wants_congr (put_other a1)
  have hval:CX.ev (put fr o.d .hole) (.sl n)=fr n:=put_other a1 n hnr
  rw[hw',hval]at h2
  split at h2
  ·rename_i hwp
   cases h2
   refine⟨_,_,by rw[runOper_mv cf hn,hwp],?_,hko _,hkp _⟩
   rw[runOper_take cf hJ,hwo,hw]
   simp only[CX.ev]
   rw[put_comm a2]
  ·rename_i hwp
   cases h2
   refine⟨_,_,by rw[runOper_mv cf hn,hwp],?_,hko _,hkp _⟩
   rw[runOper_take cf hJ,hwo,hw]
   simp only
   rw[put_comm a2]
  ·cases h2
 ·cases h1
theorem swap(cf:CallF){o p:COper}(hs:still o p=true){fr fr1 fr2:Fr}{st st1 st2:St}(hk:keyed o p=true→∀ k∈keysAt fr o.op,k∉keysAt fr1 p.op)
  (h1:runOper cf o (fr,st)=some (fr1,st1)) (h2:runOper cf p (fr1,st1)=some (fr2,st2)):
  ∃ fr' st',runOper cf p (fr,st)=some (fr',st')∧runOper cf o (fr',st')=some (fr2,st2)∧keysAt fr' o.op=keysAt fr o.op∧keysAt fr p.op=keysAt fr1 p.op:=by
 simp only[still,Bool.or_eq_true,Bool.and_eq_true]at hs
 rcases hs with(hs|⟨⟨h3,h4⟩,h5⟩)|⟨⟨h3,h4⟩,h5⟩
 ·exact swap0 cf hs hk h1 h2
 ·exact swapA cf h3 h4 h5 h1 h2
 ·exact swapB cf h3 h4 h5 h1 h2
structure Item where
 i:Nat
 o:COper
 ks:List Nat
def Run(cf:CallF):List Item→Fr×St→Fr×St→Prop
 | [],x,y=>x=y
 |q::L,x,y=>keysAt x.1 q.o.op=q.ks∧∃ x',runOper cf q.o x=some x'∧Run cf L x' y
def Comm(q r:Item):Prop:=still q.o r.o=true∧(keyed q.o r.o=true→∀ k∈q.ks,k∉r.ks)
theorem Run.front(cf:CallF){q:Item}{L2:List Item}{y:Fr×St}:∀ {L1:List Item} {x:Fr×St},Run cf (L1++q::L2) x y→(∀ r∈L1,Comm r q)→
  keysAt x.1 q.o.op=q.ks∧∃ x',runOper cf q.o x=some x'∧Run cf (L1++L2) x' y
 | [],x,h,_=>h
 |r::L1,x,h,hc=>by
  obtain⟨hk,x1,hr,hrest⟩:=h
  obtain⟨hk2,x2,hq,hrun⟩:=Run.front cf hrest fun s hs=>hc s (by simp[hs])
  obtain⟨hst,hky⟩:=hc r (by simp)
  obtain⟨fr,st⟩:=x
  obtain⟨fr1,st1⟩:=x1
  obtain⟨fr2,st2⟩:=x2
  obtain⟨fr',st',h1,h2,h3,h4⟩:=swap cf hst (fun h=>by rw[hk,hk2];exact hky h) hr hq
  exact⟨h4.trans hk2,(fr',st'),h1,h3.trans hk,(fr2,st2),h2,hrun⟩
end Go.PM
namespace Go.PM
variable {P:Program} {B:Nat→Nat→Option Value}
def AncOk(ops:Array Oper)(anc:Nat→List Nat):Prop:=
 ∀ i o,ops[i]? =some o→∀ j∈anc i,∃ e∈o.after,Region.binds .any e=true∧(e.on=j∨j∈anc e.on)
def DepsOk(ops:Array Oper):Prop:=∀ i o,ops[i]? =some o→∀ e∈o.after,Region.binds .any e=true→e.on<i
section
variable {G:Gh} {nt nk:Nat} {cf:CallF} {ops:Array Oper} {Q:Exit→Act→World→Prop} {anc:Nat→List Nat} {D:List Deferred}
theorem getD_flip{l:Array Bool}{j:Nat}(hj:j<l.size):l.getD j true=l.getD j false:=by
 rw[Array.getD_eq_getD_getElem?,Array.getD_eq_getD_getElem?,Array.getElem?_eq_getElem hj];rfl
theorem draw_sound{M:Nat→List Nat}(hcf:CallOk P B cf)(hanc:AncOk ops anc)(hdeps:DepsOk ops){y:Fr×St}:∀ (fuel:Nat) {listed:Array Bool} {L:List Item} {G:Gh} {fr:Fr} {st:St} {w:World} {a:Act},
  listed.size=ops.size→L.length≤fuel→(∀ j,j<ops.size→(listed.getD j true=false↔∃ q∈L,q.i=j))→(∀ q∈L,∃ o,ops[q.i]? =some o∧compOper P M nt nk ops o=some q.o)→
  L.Pairwise (fun r q=>r.i<q.i∧(r.i∈anc q.i∨Comm r q))→(∀ i j,listed.getD i false=true→j∈anc i→listed.getD j false=true)→
  Inv P B G st w→FrR G nt fr a→Run cf L (fr,st) y→
  (∀ a' w' G',Inv P B G' y.2 w'→Step G w G' w'→FrR G' nt y.1 a'→KeptA (keeps M) a' a→(∀ s,nk≤s∨G'.bx s=G.bx s)→Q .normal a' w')→
  wpAny P .any ops Q fuel listed a w:=by
 intro fuel
 have fin:∀ {listed:Array Bool} {L:List Item},(∀ j,j<ops.size→(listed.getD j true=false↔∃ q∈L,q.i=j))→L=[]→Region.ready .any ops listed=[]:=by
  intro listed L h hL
  subst hL
  apply List.eq_nil_iff_forall_not_mem.2
  intro j hj
  obtain⟨h1,o,ho,_⟩:=mem_ready.1 hj
  have hlt:=(Array.getElem?_eq_some_iff.1 ho).1
  obtain⟨q,hq,_⟩:=(h j hlt).1 h1
  cases hq
 induction fuel with
 |zero=>
  intro listed L G fr st w a hsz hlen hL hc hp hcl hI hF hrun hn
  have hnil:L=[]:=List.eq_nil_of_length_eq_zero (by omega)
  refine⟨fin hL hnil,?_⟩
  subst hnil
  cases hrun
  exact hn a w G hI (Step.refl G w) hF .refl fun _=> .inr rfl
 |succ fuel ih=>
  intro listed L G fr st w a hsz hlen hL hc hp hcl hI hF hrun hn
  refine⟨fun hready=>?_,fun i hi=>?_⟩
  ·
   cases L with
   |nil=>
    cases hrun
    exact hn a w G hI (Step.refl G w) hF .refl fun _=> .inr rfl
   |cons q L=>
    exfalso
    obtain⟨o,ho,_⟩:=hc q (by simp)
    have hqlt:=(Array.getElem?_eq_some_iff.1 ho).1
    have hq:q.i∈Region.ready .any ops listed:=by
     refine mem_ready.2 ⟨(hL q.i hqlt).2 ⟨q,by simp,rfl⟩,o,ho,fun e he hb=>?_⟩
     have hlt:=hdeps q.i o ho e he hb
     have he':e.on<listed.size:=by omega
     cases hx:listed.getD e.on false with
     |true=>rfl
     |false=>
      rw[←getD_flip he']at hx
      obtain⟨r,hr,hri⟩:=(hL e.on (by omega)).1 hx
      rcases List.mem_cons.1 hr with rfl|hr
      ·omega
      ·have:=(List.rel_of_pairwise_cons hp hr).1
       omega
    rw[hready]at hq
    cases hq
  ·obtain⟨hun,o,ho,hall⟩:=mem_ready.1 hi
   have hilt:=(Array.getElem?_eq_some_iff.1 ho).1
   obtain⟨q,hq,hqi⟩:=(hL i hilt).1 hun
   obtain⟨L1,L2,rfl⟩:=List.append_of_mem hq
   have hancI:∀ j∈anc i,listed.getD j false=true:=by
    intro j hj
    obtain⟨e,he,hb,h⟩:=hanc i o ho j hj
    have h1:=hall e he hb
    rcases h with rfl|h
    ·exact h1
    ·exact hcl e.on j h1 h
   have hpw:=List.pairwise_append.1 hp
   have hcomm:∀ r∈L1,Comm r q:=by
    intro r hr
    rcases(hpw.2.2 r hr q (by simp)).2 with h|h
    ·exfalso
     rw[hqi]at h
     have h1:=hancI r.i h
     obtain⟨ro,hro,_⟩:=hc r (by simp[hr])
     have hrlt:=(Array.getElem?_eq_some_iff.1 hro).1
     have h2:=(hL r.i hrlt).2 ⟨r,by simp[hr],rfl⟩
     rw[getD_flip (by omega)]at h2
     rw[h1]at h2;cases h2
    ·exact h
   obtain⟨_,x',hq1,hrun'⟩:=hrun.front cf hcomm
   obtain⟨fr1,st1⟩:=x'
   obtain⟨o',ho',hco⟩:=hc q (by simp)
   rw[hqi,ho]at ho'
   cases ho'
   unfold wpOp
   simp only[ho]
   refine oper_step hcf hI hF hco hq1 fun a1 w1 G1 hI1 hS1 hF1 hd1 hk1=>?_
   have hmem:∀ {r:Item},r∈L1++L2→r∈L1++q::L2:=by
    intro r hr
    rcases List.mem_append.1 hr with h|h
    ·exact List.mem_append.2 (.inl h)
    ·exact List.mem_append.2 (.inr (List.mem_cons_of_mem _ h))
   refine ih (L:=L1++L2) (by simp;exact hsz) (by simp at hlen ⊢;omega) (fun j hj=>?_) (fun r hr=>hc r (hmem hr)) ?_ (fun u j hu hj=>?_) hI1 hF1 hrun' fun a2 w2 G2 hI2 hS2 hF2 hd2 hk2=>?_
   ·by_cases hji:j=i
    ·subst hji
     have hz:(listed.setIfInBounds j true).getD j true=true:=by
      rw[Array.getD_eq_getD_getElem?,Array.getElem?_setIfInBounds_self_of_lt (by omega)];rfl
     rw[hz]
     refine⟨fun h=>(by cases h),?_⟩
     rintro⟨r,hr,hri⟩
     exfalso
     rcases List.mem_append.1 hr with h|h
     ·have:=(hpw.2.2 r h q (by simp)).1;omega
     ·have:=(List.rel_of_pairwise_cons hpw.2.1 h).1;omega
    ·rw[getD_set_ne true (Ne.symm hji),hL j hj]
     constructor
     ·rintro⟨r,hr,hri⟩
      refine⟨r,?_,hri⟩
      rcases List.mem_append.1 hr with h|h
      ·exact List.mem_append.2 (.inl h)
      ·rcases List.mem_cons.1 h with rfl|h
       ·exact absurd (hri.symm.trans hqi) hji
       ·exact List.mem_append.2 (.inr h)
     ·rintro⟨r,hr,hri⟩
      exact⟨r,hmem hr,hri⟩
   ·exact List.pairwise_append.2 ⟨hpw.1,(List.pairwise_cons.1 hpw.2.1).2,fun r hr s hs=>hpw.2.2 r hr s (List.mem_cons_of_mem _ hs)⟩
   ·have mono:∀ j,listed.getD j false=true→(listed.setIfInBounds i true).getD j false=true:=fun j h=>getD_set_true h
    by_cases hui:u=i
    ·subst hui
     exact mono j (hancI j hj)
    ·rw[getD_set_ne false (Ne.symm hui)]at hu
     exact mono j (hcl u j hu hj)
   ·refine hn a2 w2 G2 hI2 (hS1.trans hS2) hF2 (hd2.trans hd1) fun s=>?_
    rcases hk1 s with h1|h1
    ·exact .inl h1
    ·rcases hk2 s with h2|h2
     ·exact .inl h2
     ·exact .inr (h2.trans h1)
end
inductive CC where
 |skip
 |reg (ops:List COper) (chk:List (Nat×Nat))
 |seq (a b:CC)
 |cond (c:CX) (a b:CC)
 |block (id:Nat) (c:CC)
 |loop (c:CC)
 |exit (id:Nat)
 |ret
inductive Ex where
 |go|exit (id:Nat)|ret
 deriving DecidableEq
def keysRun(cf:CallF):List COper→Fr×St→Option (List (List Nat)×(Fr×St))
 | [],x=>some ([],x)
 |o::os,x=>match runOper cf o x with
  |some y=>match keysRun cf os y with
   |some (ks,z)=>some (keysAt x.1 o.op::ks,z)
   |none=>none
  |none=>none
def apartK(ks:List (List Nat))(q:Nat×Nat):Bool:=((ks[q.1]?).getD []).all fun k=>!((ks[q.2]?).getD []).contains k
def regP(cf:CallF)(ops:List COper):List (Nat×Nat)→Fr×St→Option (Fr×St)
 | [],x=>runOps cf ops x
 |chk,x=>match keysRun cf ops x with
  |some (ks,y)=>if chk.all (apartK ks)then some y else none
  |none=>none
def iter(body:Fr×St→Option (Ex×Fr×St)):Nat→Fr×St→Option (Ex×Fr×St)
 |0,_=>none
 |n+1,x=>match body x with
  |some (.go,y)=>iter body n y
  |r=>r
def ev(cf:CallF)(N:Nat):CC→Fr×St→Option (Ex×Fr×St)
 | .skip,x=>some (.go,x)
 | .reg ops chk,x=>(regP cf ops chk x).map fun y=>(.go,y)
 | .seq a b,x=>match ev cf N a x with
  |some (.go,y)=>ev cf N b y
  |r=>r
 | .cond c a b,x=>match c.ev x.1 with
  | .bool true=>ev cf N a x
  | .bool false=>ev cf N b x
  |_=>none
 | .block id c,x=>match ev cf N c x with
  |some (.exit i,y)=>if i=id then some (.go,y)else some (.exit i,y)
  |r=>r
 | .loop c,x=>iter (ev cf N c) N x
 | .exit id,x=>some (.exit id,x)
 | .ret,x=>some (.ret,x)
def depsOf(o:Oper):List Nat:=(o.after.toList.filter (Region.binds .any ·)).map (·.on)
def ancs:List Oper→List (List Nat)→List (List Nat)
 | [],acc=>acc
 |o::os,acc=>ancs os (acc++[((depsOf o)++(depsOf o).flatMap fun j=>(acc[j]?).getD []).eraseDups])
def ancChk(ops:Array Oper)(an:List (List Nat)):Bool:=
 (List.range ops.size).all fun i=>match ops[i]? with
  |some o=>((an[i]?).getD []).all (fun j=>o.after.toList.any fun e=>Region.binds .any e && (e.on==j||((an[e.on]?).getD []).contains j))
  |none=>true
def depsChk(ops:Array Oper):Bool:=
 (List.range ops.size).all fun i=>match ops[i]? with
  |some o=>o.after.toList.all fun e=>!Region.binds .any e||decide (e.on<i)
  |none=>true
def pairsOf(n:Nat):List (Nat×Nat):=(List.range n).flatMap fun i=>(List.range i).map fun j=>(j,i)
def stillAt(cs:List COper)(q:Nat×Nat):Bool:=match cs[q.1]?,cs[q.2]? with
 |some o,some p=>still o p
 |_,_=>false
def keyedAt(cs:List COper)(q:Nat×Nat):Bool:=match cs[q.1]?,cs[q.2]? with
 |some o,some p=>keyed o p
 |_,_=>false
def drawChk(ops:Array Oper)(cs:List COper):Option (List (Nat×Nat)):=
 let an:=ancs ops.toList []
 let free:=(pairsOf cs.length).filter fun q=>!((an[q.2]?).getD []).contains q.1
 if ancChk ops an && depsChk ops && free.all (stillAt cs)then some (free.filter (keyedAt cs))else none
def compCode(P:Program)(M:Nat→List Nat)(nt nk:Nat):Code→Option CC
 | .skip=>some .skip
 | .region _ ops draw=>match compOpers P M nt nk ops ops.toList with
  |some cs=>match draw with
   |false=>some (.reg cs [])
   |true=>(drawChk ops cs).map (.reg cs)
  |none=>none
 | .seq a b=>match compCode P M nt nk a,compCode P M nt nk b with
  |some a,some b=>some (.seq a b)
  |_,_=>none
 | .cond c a b=>match compX c,compCode P M nt nk a,compCode P M nt nk b with
  |some c,some a,some b=>some (.cond c a b)
  |_,_,_=>none
 | .block id c=>(compCode P M nt nk c).map (.block id)
 | .loop c=>(compCode P M nt nk c).map .loop
 | .exit id=>some (.exit id)
 | .ret=>some .ret
 |_=>none
def items:Nat→List COper→List (List Nat)→List Item
 |i,o::os,k::ks=>⟨i,o,k⟩::items (i+1) os ks
 |_,_,_=>[]
theorem items_get:∀ {os:List COper} {ks:List (List Nat)} {i j:Nat} {q:Item},(items i os ks)[j]? =some q→q.i=i+j∧os[j]? =some q.o∧ks[j]? =some q.ks
 | [],ks,i,j,q,h=>by simp[items]at h
 |o::os,[],i,j,q,h=>by simp[items]at h
 |o::os,k::ks,i,j,q,h=>by
  cases j with
  |zero=>simp[items]at h;subst h;exact⟨rfl,rfl,rfl⟩
  |succ j=>
   obtain⟨h1,h2,h3⟩:=items_get (os:=os) (ks:=ks) (i:=i+1) (j:=j) (by simpa [items]using h)
   exact⟨by omega,by simpa using h2,by simpa using h3⟩
theorem items_length:∀ {os:List COper} {ks:List (List Nat)} {i:Nat},ks.length=os.length→(items i os ks).length=os.length
 | [],ks,i,h=>by simp[items]
 |o::os,[],i,h=>by simp at h
 |o::os,k::ks,i,h=>by simp[items,items_length (os:=os) (ks:=ks) (i:=i+1) (by simpa using h)]
theorem keysRun_run(cf:CallF):∀ {os:List COper} {x y:Fr×St} {ks:List (List Nat)} {i:Nat},keysRun cf os x=some (ks,y)→ks.length=os.length∧Run cf (items i os ks) x y
 | [],x,y,ks,i,h=>by cases h;exact⟨rfl,rfl⟩
 |o::os,x,y,ks,i,h=>by
  simp only[keysRun]at h
  split at h
  ·rename_i x' hx
   split at h
   ·rename_i ks' z hz
    cases h
    obtain⟨h1,h2⟩:=keysRun_run cf (i:=i+1) hz
    exact⟨by simp[h1],rfl,x',hx,h2⟩
   ·cases h
  ·cases h
theorem runOps_keys(cf:CallF):∀ {os:List COper} {x y:Fr×St},runOps cf os x=some y→∃ ks,keysRun cf os x=some (ks,y)
 | [],x,y,h=>by cases h;exact⟨[],rfl⟩
 |o::os,x,y,h=>by
  simp only[runOps]at h
  split at h
  ·rename_i x' hx
   obtain⟨ks,hk⟩:=runOps_keys cf h
   exact⟨keysAt x.1 o.op::ks,by simp[keysRun,hx,hk]⟩
  ·cases h
theorem compOpers_get{M:Nat→List Nat}{nt nk:Nat}{ops:Array Oper}:∀ {os:List Oper} {cs:List COper},compOpers P M nt nk ops os=some cs→cs.length=os.length∧∀ (j:Nat) c,cs[j]? =some c→∃ o,os[j]? =some o∧compOper P M nt nk ops o=some c
 | [],cs,h=>by cases h;exact⟨rfl,fun j c h=>by simp at h⟩
 |o::os,cs,h=>by
  unfold compOpers at h
  split at h
  ·rename_i c cs' hc hcs
   cases h
   obtain⟨h1,h2⟩:=compOpers_get hcs
   refine⟨by simp[h1],fun j d hd=>?_⟩
   cases j with
   |zero=>simp at hd;subst hd;exact⟨o,rfl,hc⟩
   |succ j=>simpa using h2 j d (by simpa using hd)
  ·cases h
theorem mem_pairs{n i j:Nat}(h1:j<i)(h2:i<n):(j,i)∈pairsOf n:=by
 simp only[pairsOf,List.mem_flatMap,List.mem_range,List.mem_map,Prod.mk.injEq]
 exact⟨i,h2,j,h1,rfl,rfl⟩
section
variable {G:Gh} {nt nk:Nat} {cf:CallF} {Q:Exit→Act→World→Prop}
theorem Inv.drawn{st:St}{w w':World}(hI:Inv P B G st w)(h:w'.heap=w.heap):Inv P B G st w':=by
 have hc:∀ a,w'.cell? a=w.cell? a:=fun a=>World.cell?_of_block (by rw[h])
 exact⟨fun b o v hb=>by rw[hc];exact hI.com b o v hb,fun b e k hb=>by rw[h];exact hI.sh b e k hb,hI.nx,hI.cnt,hI.live,hI.room,hI.apart,hI.priv,fun s cs hs=>by rw[h];exact hI.objs s cs hs,
  fun s b hs=>by rw[h];exact hI.obs s b hs,hI.obj,hI.nob,hI.npo,fun b k hb=>by rw[h];exact hI.pvl b k hb,fun b hb=>by rw[h];exact hI.xpl b hb,hI.base,fun s b e sz h1 h2=>by rw[h];exact hI.oes s b e sz h1 h2,
  fun s es hs=>by rw[h];exact hI.mobj s es hs,fun s b hs=>by rw[h];exact hI.mbs s b hs,hI.mbi,hI.nomb,hI.obx,hI.ful⟩
theorem Step.drawn{G':Gh}{w w' w2:World}(hS:Step G w G' w2)(h:w.heap=w'.heap)(he:w'.os=w.os∧w'.output=w.output):Step G w' G' w2:=
 ⟨hS.le,by rw[←h];exact hS.size,fun b hb ho ht hm=>by rw[←h];exact hS.kept b (by rw[h];exact hb) ho ht hm,fun s b hb=>by rw[←h];exact hS.nearO s b hb,fun t r hr=>by rw[←h];exact hS.nearT t r hr,
  fun b o v hv=>by rw[←h];exact hS.nearC b o v hv,fun b x hx=>by rw[←h];exact hS.nearS b x hx,fun b k hk=>by rw[←h];exact hS.nearP b k hk,fun s b hs=>by rw[←h];exact hS.nearM s b hs,⟨hS.eff.1.trans he.1.symm,hS.eff.2.trans he.2.symm⟩⟩
theorem reg_sound{M:Nat→List Nat}(hcf:CallOk P B cf)(hmix:P.follows .mixedOrders=true){id:Nat}{ops:Array Oper}{draw:Bool}{cs:List COper}{chk:List (Nat×Nat)}(hc:compOpers P M nt nk ops ops.toList=some cs)
  (hchk:match draw with|false=>chk=[]|true=>drawChk ops cs=some chk) {fr:Fr} {st:St} {w:World} {a:Act} (hI:Inv P B G st w) (hF:FrR G nt fr a) {y:Fr×St} (h:regP cf cs chk (fr,st)=some y)
  (hn:∀ a' w' G',Inv P B G' y.2 w'→Step G w G' w'→FrR G' nt y.1 a'→KeptA (keeps M) a' a→(∀ s,nk≤s∨G'.bx s=G.bx s)→Q .normal a' w'):(Code.region id ops draw).wp P Q a w:=by
 cases draw with
 |false=>
  simp only at hchk
  subst hchk
  exact wp_region_list (region_step hcf hI hF hc h hn)
 |true=>
  simp only[drawChk]at hchk
  split at hchk
  ·rename_i hb
   simp only[Option.some.injEq]at hchk
   simp only[Bool.and_eq_true]at hb
   obtain⟨⟨hb1,hb2⟩,hb3⟩:=hb
   have hkeys:∃ ks,keysRun cf cs (fr,st)=some (ks,y)∧chk.all (apartK ks)=true:=by
    cases chk with
    |nil=>
     obtain⟨ks,hk⟩:=runOps_keys cf h
     exact⟨ks,hk,rfl⟩
    |cons q chk=>
     simp only[regP]at h
     split at h
     ·rename_i ks z hz
      split at h
      ·rename_i hall
       cases h
       exact⟨ks,hz,hall⟩
      ·cases h
     ·cases h
   obtain⟨ks,hk,hall⟩:=hkeys
   obtain⟨hlk,hrun⟩:=keysRun_run cf (i:=0) hk
   obtain⟨hlc,hget⟩:=compOpers_get hc
   have hlc':cs.length=ops.size:=by simpa using hlc
   refine wp_region_any hmix (draw_sound (M:=M) (anc:=fun i=>((ancs ops.toList [])[i]?).getD []) (L:=items 0 cs ks) (y:=y) (nt:=nt) (nk:=nk) hcf ?_ ?_ ops.size (by simp) (by rw[items_length hlk];omega) ?_ ?_ ?_ ?_ (hI.drawn rfl) hF hrun fun a' w' G' h1 h2 h3 h4 h5=>hn a' w' G' h1 (h2.drawn rfl ⟨rfl,rfl⟩) h3 h4 h5)
   ·intro i o ho j hj
    have hi:=(Array.getElem?_eq_some_iff.1 ho).1
    simp only[ancChk,List.all_eq_true,List.mem_range]at hb1
    have:=hb1 i hi
    simp only[ho,List.all_eq_true]at this
    have:=this j hj
    simp only[List.any_eq_true,Array.mem_toList_iff,Bool.and_eq_true,Bool.or_eq_true,beq_iff_eq,List.contains_iff_mem]at this
    obtain⟨e,he,h1,h2⟩:=this
    exact⟨e,he,h1,h2⟩
   ·intro i o ho e he hbi
    have hi:=(Array.getElem?_eq_some_iff.1 ho).1
    simp only[depsChk,List.all_eq_true,List.mem_range]at hb2
    have:=hb2 i hi
    simp only[ho,List.all_eq_true,Array.mem_toList_iff]at this
    have:=this e he
    simpa [hbi]using this
   ·intro j hj
    have hz:(Array.replicate ops.size false).getD j true=false:=by
     rw[Array.getD_eq_getD_getElem?,Array.getElem?_replicate];simp[hj]
    refine⟨fun _=>?_,fun _=>hz⟩
    have hlt:j<(items 0 cs ks).length:=by rw[items_length hlk];omega
    have hg:(items 0 cs ks)[j]? =some (items 0 cs ks)[j]:=List.getElem?_eq_getElem hlt
    exact⟨_,List.getElem_mem hlt,by rw[(items_get hg).1];omega⟩
   ·intro q hq
    obtain⟨j,hj,rfl⟩:=List.getElem_of_mem hq
    have hg:(items 0 cs ks)[j]? =some (items 0 cs ks)[j]:=List.getElem?_eq_getElem hj
    obtain⟨h1,h2,_⟩:=items_get hg
    obtain⟨o,ho,hco⟩:=hget j _ h2
    exact⟨o,by rw[h1,Nat.zero_add];simpa using ho,hco⟩
   ·rw[List.pairwise_iff_getElem]
    intro i j hi hj hij
    have gi:(items 0 cs ks)[i]? =some (items 0 cs ks)[i]:=List.getElem?_eq_getElem hi
    have gj:(items 0 cs ks)[j]? =some (items 0 cs ks)[j]:=List.getElem?_eq_getElem hj
    generalize (items 0 cs ks)[i]=r at gi
    generalize (items 0 cs ks)[j]=q at gj
    obtain⟨r1,r2,r3⟩:=items_get gi
    obtain⟨q1,q2,q3⟩:=items_get gj
    refine⟨by omega,?_⟩
    have hjn:j<cs.length:=(List.getElem?_eq_some_iff.1 q2).1
    by_cases ha:(((ancs ops.toList [])[j]?).getD []).contains i=true
    ·exact .inl (by rw[r1,q1,Nat.zero_add,Nat.zero_add];exact List.contains_iff_mem.1 ha)
    ·refine .inr ?_
     have hfree:(i,j)∈(pairsOf cs.length).filter (fun q=>!(((ancs ops.toList [])[q.2]?).getD []).contains q.1):=
      List.mem_filter.2 ⟨mem_pairs hij hjn,by simpa using ha⟩
     have hst:stillAt cs (i,j)=true:=(List.all_eq_true.1 hb3) _ hfree
     simp only[stillAt,r2,q2]at hst
     refine⟨hst,fun hkd k hk1 hk2=>?_⟩
     have hin:(i,j)∈chk:=by
      rw[←hchk]
      exact List.mem_filter.2 ⟨hfree,by simp only[keyedAt,r2,q2];exact hkd⟩
     have hap:=(List.all_eq_true.1 hall) _ hin
     simp only[apartK,r3,q3,Option.getD_some,List.all_eq_true,Bool.not_eq_true']at hap
     have:=hap k hk1
     rw[List.contains_iff_mem.2 hk2]at this
     cases this
   ·intro i j hi _
    rw[Array.getD_eq_getD_getElem?,Array.getElem?_replicate]at hi
    split at hi<;>cases hi
  ·cases hchk
end
def Ex.of:Ex→Exit
 | .go=> .normal
 | .exit i=> .exit i
 | .ret=> .ret
def Behind(P:Program)(B:Nat→Nat→Option Value)(nt nk:Nat)(kp:Bool)(G:Gh)(w:World)(a:Act)(e:Ex)(y:Fr×St)(Q:Exit→Act→World→Prop):Prop:=
 ∀ a' w' G',Inv P B G' y.2 w'→Step G w G' w'→FrR G' nt y.1 a'→KeptA kp a' a→(∀ s,nk≤s∨G'.bx s=G.bx s)→Q e.of a' w'
section
variable {M:Nat→List Nat} {nt nk:Nat} {cf:CallF}
theorem iter_sound{c:Code}{body:Fr×St→Option (Ex×Fr×St)}(hb:∀ {x:Fr×St} {e:Ex} {y:Fr×St} {G:Gh} {w:World} {a:Act} {Q:Exit→Act→World→Prop},body x=some (e,y)→Inv P B G x.2 w→FrR G nt x.1 a→Behind P B nt nk (keeps M) G w a e y Q→c.wp P Q a w):
  ∀ {n:Nat} {x:Fr×St} {e:Ex} {y:Fr×St} {G:Gh} {w:World} {a:Act} {Q:Exit→Act→World→Prop},iter body n x=some (e,y)→Inv P B G x.2 w→FrR G nt x.1 a→Behind P B nt nk (keeps M) G w a e y Q→Code.rounds P c Q n a w
 |0,x,e,y,G,w,a,Q,h,_,_,_=>by simp[iter]at h
 |n+1,x,e,y,G,w,a,Q,h,hI,hF,hn=>by
  rw[rounds_succ]
  simp only[iter]at h
  split at h
  ·rename_i z hz
   refine hb hz hI hF fun a1 w1 G1 hI1 hS1 hF1 hd1 hk1=>?_
   refine iter_sound hb h hI1 hF1 fun a2 w2 G2 hI2 hS2 hF2 hd2 hk2=>hn a2 w2 G2 hI2 (hS1.trans hS2) hF2 (hd2.trans hd1) fun s=>?_
   rcases hk1 s with h1|h1
   ·exact .inl h1
   ·rcases hk2 s with h2|h2
    ·exact .inl h2
    ·exact .inr (h2.trans h1)
  ·rename_i hne
   refine hb h hI hF fun a1 w1 G1 hI1 hS1 hF1 hd1 hk1=>?_
   have:=hn a1 w1 G1 hI1 hS1 hF1 hd1 hk1
   cases e with
   |go=>exact absurd h (hne y)
   |exit i=>exact this
   |ret=>exact this
theorem code_sound(hcf:CallOk P B cf)(hmix:P.follows .mixedOrders=true)(N:Nat):∀ (c:Code) {cc:CC},compCode P M nt nk c=some cc→∀ {x:Fr×St} {e:Ex} {y:Fr×St} {G:Gh} {w:World} {a:Act} {Q:Exit→Act→World→Prop},
  ev cf N cc x=some (e,y)→Inv P B G x.2 w→FrR G nt x.1 a→Behind P B nt nk (keeps M) G w a e y Q→c.wp P Q a w:=by
 intro c
 induction c with
 |skip=>
  intro cc hc x e y G w a Q h hI hF hn
  simp only[compCode,Option.some.injEq]at hc
  subst hc
  cases h
  exact wp_skip (hn a w G hI (Step.refl G w) hF .refl fun _=> .inr rfl)
 |exit id=>
  intro cc hc x e y G w a Q h hI hF hn
  simp only[compCode,Option.some.injEq]at hc
  subst hc
  cases h
  exact wp_exit (hn a w G hI (Step.refl G w) hF .refl fun _=> .inr rfl)
 |ret=>
  intro cc hc x e y G w a Q h hI hF hn
  simp only[compCode,Option.some.injEq]at hc
  subst hc
  cases h
  exact wp_ret (hn a w G hI (Step.refl G w) hF .refl fun _=> .inr rfl)
 |region id ops draw=>
  intro cc hc x e y G w a Q h hI hF hn
  simp only[compCode]at hc
  split at hc
  ·rename_i cs hcs
   cases draw with
   |false=>
    simp only[Option.some.injEq]at hc
    subst hc
    simp only[ev,Option.map_eq_some_iff,Prod.mk.injEq]at h
    obtain⟨z,hz,rfl,rfl⟩:=h
    exact reg_sound hcf hmix (draw:=false) (chk:=[]) hcs rfl hI hF hz hn
   |true=>
    simp only[Option.map_eq_some_iff]at hc
    obtain⟨chk,hchk,rfl⟩:=hc
    simp only[ev,Option.map_eq_some_iff,Prod.mk.injEq]at h
    obtain⟨z,hz,rfl,rfl⟩:=h
    exact reg_sound hcf hmix (draw:=true) hcs hchk hI hF hz hn
  ·cases hc
 |seq c d ihc ihd=>
  intro cc hc x e y G w a Q h hI hF hn
  simp only[compCode]at hc
  split at hc
  ·rename_i c1 d1 hc1 hd1
   simp only[Option.some.injEq]at hc
   subst hc
   simp only[ev]at h
   refine wp_seq ?_
   split at h
   ·rename_i z hz
    refine ihc hc1 hz hI hF fun a1 w1 G1 hI1 hS1 hF1 hdf1 hk1=>?_
    refine ihd hd1 h hI1 hF1 fun a2 w2 G2 hI2 hS2 hF2 hdf2 hk2=>hn a2 w2 G2 hI2 (hS1.trans hS2) hF2 (hdf2.trans hdf1) fun s=>?_
    rcases hk1 s with h1|h1
    ·exact .inl h1
    ·rcases hk2 s with h2|h2
     ·exact .inl h2
     ·exact .inr (h2.trans h1)
   ·rename_i hne
    refine ihc hc1 h hI hF fun a1 w1 G1 hI1 hS1 hF1 hdf1 hk1=>?_
    have:=hn a1 w1 G1 hI1 hS1 hF1 hdf1 hk1
    cases e with
    |go=>exact absurd h (hne y)
    |exit i=>exact this
    |ret=>exact this
  ·cases hc
 |cond cnd c d ihc ihd=>
  intro cc hc x e y G w a Q h hI hF hn
  simp only[compCode]at hc
  split at hc
  ·rename_i cx c1 d1 hcx hc1 hd1
   simp only[Option.some.injEq]at hc
   subst hc
   have hR:=compX_R hF hcx
   simp only[ev]at h
   split at h
   ·rename_i hb
    rw[hb]at hR
    generalize hv:a.eval cnd=v at hR
    cases hR
    exact wp_cond_true hv (ihc hc1 h hI hF hn)
   ·rename_i hb
    rw[hb]at hR
    generalize hv:a.eval cnd=v at hR
    cases hR
    exact wp_cond_false hv (ihd hd1 h hI hF hn)
   ·cases h
  ·cases hc
 |block id c ihc=>
  intro cc hc x e y G w a Q h hI hF hn
  simp only[compCode,Option.map_eq_some_iff]at hc
  obtain⟨c1,hc1,rfl⟩:=hc
  simp only[ev]at h
  refine wp_block ?_
  split at h
  ·rename_i i z hz
   split at h
   ·rename_i hid
    cases h
    refine ihc hc1 hz hI hF fun a1 w1 G1 hI1 hS1 hF1 hdf1 hk1=>?_
    have:=hn a1 w1 G1 hI1 hS1 hF1 hdf1 hk1
    simp only[Ex.of,Exit.inBlock,hid,if_true]
    exact this
   ·rename_i hid
    cases h
    refine ihc hc1 hz hI hF fun a1 w1 G1 hI1 hS1 hF1 hdf1 hk1=>?_
    have:=hn a1 w1 G1 hI1 hS1 hF1 hdf1 hk1
    simp only[Ex.of,Exit.inBlock,if_neg hid]
    exact this
  ·rename_i hne
   refine ihc hc1 h hI hF fun a1 w1 G1 hI1 hS1 hF1 hdf1 hk1=>?_
   have:=hn a1 w1 G1 hI1 hS1 hF1 hdf1 hk1
   cases e with
   |go=>exact this
   |exit i=>exact absurd h (hne i y)
   |ret=>exact this
 |loop c ihc=>
  intro cc hc x e y G w a Q h hI hF hn
  simp only[compCode,Option.map_eq_some_iff]at hc
  obtain⟨c1,hc1,rfl⟩:=hc
  simp only[ev]at h
  exact wp_loop_rounds N (iter_sound (fun h1 h2 h3 h4=>ihc hc1 h1 h2 h3 h4) h hI hF hn)
 |_=>intro cc hc;simp[compCode]at hc
end
end Go.PM
namespace Go.PM
def CLe(c c':CallF):Prop:=∀ f as ns cs r,c f as ns cs=some r→c' f as ns cs=some r
theorem callP_mono{c c':CallF}(h:CLe c c'){f:Nat}{as:List PV}{mv:List Nat}{st:St}{r:PV×St}(hr:callP c f as mv st=some r):callP c' f as mv st=some r:=by
 unfold callP at hr ⊢
 cases hks:keysOf as with
 |none=>rw[hks]at hr;cases hr
 |some ks=>
  rw[hks]at hr
  simp only at hr ⊢
  cases hcs:getAll st ks with
  |none=>rw[hcs]at hr;cases hr
  |some cs=>
   rw[hcs]at hr
   simp only at hr ⊢
   cases mv with
   |nil=>
    simp only at hr ⊢
    cases hc:c f (handOn [] [] 0 0 as) [] (cs.map strips)with
    |none=>rw[hc]at hr;cases hr
    |some q=>rw[hc]at hr;rw[h _ _ _ _ _ hc];exact hr
   |cons m mv=>
    simp only at hr ⊢
    split at hr
    ·rename_i hb
     rw[if_pos hb]
     cases hc:c f (handOn ((movedAll (m::mv) as cs).map (·.1)) (m::mv) 0 0 as) ((movedAll (m::mv) as cs).map (·.2)) (boxOn ((movedAll (m::mv) as cs).map (·.1)) (boxMv (m::mv) 0 as) cs)with
     |none=>rw[hc]at hr;cases hr
     |some q=>rw[hc]at hr;rw[h _ _ _ _ _ hc];exact hr
    ·cases hr
theorem uP_mono{c c':CallF}(h:CLe c c'){f:Nat}{as:List PV}{st:St}{r:PV×PV×St}(hr:uP c f as st=some r):uP c' f as st=some r:=by
 unfold uP at hr ⊢
 cases hq:callP c (backF f) as [0] st with
 |none=>rw[hq]at hr;cases hr
 |some q=>rw[hq]at hr;rw[callP_mono h hq];exact hr
theorem killF_same{c c':CallF}{fr:Fr}{st:St}{d:Option Nat}{o:COp}(h:∀ f as,o= .callU f as→uP c f (as.map (·.ev fr)) st=uP c' f (as.map (·.ev fr)) st):killF c o d st fr=killF c' o d st fr:=by
 cases o with
 |callU f as=>simp only[killF,h f as rfl]
 |call f as mv=>cases mv<;>cases d<;>rfl
 |_=>cases d<;>rfl
theorem killF_mono{c c':CallF}(h:CLe c c'){fr:Fr}{st:St}{d:Option Nat}{o:COp}{r:PV×St}(hr:runOp c fr st d o=some r):killF c o d st fr=killF c' o d st fr:=by
 refine killF_same fun f as e=>?_
 subst e
 simp only[runOp]at hr
 cases hq:uP c f (as.map (·.ev fr)) st with
 |none=>rw[hq]at hr;cases hr
 |some q=>rw[uP_mono h hq]
theorem runOp_mono{c c':CallF}(h:CLe c c'){fr:Fr}{st:St}{d:Option Nat}{o:COp}{r:PV×St}(hr:runOp c fr st d o=some r):runOp c' fr st d o=some r:=by
 cases o with
 |call f as mv=>exact callP_mono h hr
 |cval f as=>
  simp only[runOp]at hr ⊢
  cases hf:f.ev fr with
  |fn g cap=>
   rw[hf]at hr
   simp only at hr ⊢
   split at hr
   ·rename_i hg;rw[if_pos hg];exact callP_mono h hr
   ·cases hr
  |_=>rw[hf]at hr;cases hr
 |callU f as=>
  simp only[runOp]at hr ⊢
  cases hq:uP c f (as.map (·.ev fr)) st with
  |none=>rw[hq]at hr;cases hr
  |some q=>rw[hq]at hr;rw[uP_mono h hq];exact hr
 |_=>exact hr
theorem runOper_mono{c c':CallF}(h:CLe c c'){o:COper}{x y:Fr×St}(hr:runOper c o x=some y):runOper c' o x=some y:=by
 unfold runOper at hr ⊢
 cases hw:wants x.1 o.g with
 |none=>rw[hw]at hr;cases hr
 |some b=>
  rw[hw]at hr
  cases b with
  |false=>exact hr
  |true=>
   simp only at hr ⊢
   cases hq:runOp c x.1 x.2 o.d o.op with
   |none=>rw[hq]at hr;cases hr
   |some q=>rw[hq]at hr;rw[runOp_mono h hq,←killF_mono h hq];exact hr
theorem runOps_mono{c c':CallF}(h:CLe c c'):∀ {os:List COper} {x y:Fr×St},runOps c os x=some y→runOps c' os x=some y
 | [],_,_,hr=>hr
 |o::os,x,y,hr=>by
  simp only[runOps]at hr ⊢
  split at hr
  ·rename_i z hz
   rw[runOper_mono h hz]
   exact runOps_mono h hr
  ·cases hr
theorem keysRun_mono{c c':CallF}(h:CLe c c'):∀ {os:List COper} {x:Fr×St} {y},keysRun c os x=some y→keysRun c' os x=some y
 | [],_,_,hr=>hr
 |o::os,x,y,hr=>by
  simp only[keysRun]at hr ⊢
  split at hr
  ·rename_i z hz
   rw[runOper_mono h hz]
   simp only
   split at hr
   ·rename_i hk
    rw[keysRun_mono h hk]
    exact hr
   ·cases hr
  ·cases hr
theorem regP_mono{c c':CallF}(h:CLe c c'){os:List COper}{chk:List (Nat×Nat)}{x y:Fr×St}(hr:regP c os chk x=some y):regP c' os chk x=some y:=by
 cases chk with
 |nil=>exact runOps_mono h hr
 |cons q chk=>
  simp only[regP]at hr ⊢
  split at hr
  ·rename_i hk
   rw[keysRun_mono h hk]
   exact hr
  ·cases hr
theorem iter_mono{b b':Fr×St→Option (Ex×Fr×St)}(h:∀ x r,b x=some r→b' x=some r):∀ {n n':Nat} {x:Fr×St} {r},n≤n'→iter b n x=some r→iter b' n' x=some r
 |0,_,_,_,_,hr=>by simp[iter]at hr
 |n+1,0,_,_,hn,_=>by omega
 |n+1,n'+1,x,r,hn,hr=>by
  simp only[iter]at hr ⊢
  split at hr
  ·rename_i y hy
   rw[h _ _ hy]
   exact iter_mono h (by omega) hr
  ·rename_i hne
   rw[h _ _ hr]
   obtain⟨e,y⟩:=r
   cases e with
   |go=>exact absurd hr (hne y)
   |exit i=>rfl
   |ret=>rfl
theorem ev_mono{c c':CallF}(h:CLe c c'){n n':Nat}(hn:n≤n'):∀ (cc:CC) {x:Fr×St} {r},ev c n cc x=some r→ev c' n' cc x=some r:=by
 intro cc
 induction cc with
 |skip=>intro x r hr;exact hr
 |exit id=>intro x r hr;exact hr
 |ret=>intro x r hr;exact hr
 |reg os chk=>
  intro x r hr
  simp only[ev,Option.map_eq_some_iff]at hr ⊢
  obtain⟨y,hy,rfl⟩:=hr
  exact⟨y,regP_mono h hy,rfl⟩
 |seq a b iha ihb=>
  intro x r hr
  simp only[ev]at hr ⊢
  split at hr
  ·rename_i y hy
   rw[iha hy]
   exact ihb hr
  ·rename_i hne
   rw[iha hr]
   obtain⟨e,y⟩:=r
   cases e with
   |go=>exact absurd hr (hne y)
   |exit i=>rfl
   |ret=>rfl
 |cond cx a b iha ihb=>
  intro x r hr
  simp only[ev]at hr ⊢
  split at hr
  ·rename_i hc;exact iha hr
  ·rename_i hc;exact ihb hr
  ·cases hr
 |block id a iha=>
  intro x r hr
  simp only[ev]at hr ⊢
  split at hr
  ·rename_i i y hy
   rw[iha hy]
   exact hr
  ·rename_i hne
   rw[iha hr]
   obtain⟨e,y⟩:=r
   cases e with
   |go=>rfl
   |exit i=>exact absurd hr (hne i y)
   |ret=>rfl
 |loop a iha=>
  intro x r hr
  simp only[ev]at hr ⊢
  exact iter_mono (fun x r h=>iha h) hn hr
structure Chain (c:Nat→CallF) (lim:CallF):Prop where
 up:∀ n,CLe (c n) (c (n+1))
 lim:∀ f as ns cs r,lim f as ns cs=some r→∃ n,c n f as ns cs=some r
theorem CLe.refl(c:CallF):CLe c c:=fun _ _ _ _ _ h=>h
theorem CLe.trans{a b c:CallF}(h:CLe a b)(k:CLe b c):CLe a c:=fun f as ns cs r x=>k f as ns cs r (h f as ns cs r x)
section
variable {c:Nat→CallF} {lim:CallF}
theorem Chain.le(h:Chain c lim){n m:Nat}(hnm:n≤m):CLe (c n) (c m):=by
 induction hnm with
 |refl=>exact CLe.refl _
 |step _ ih=>exact ih.trans (h.up _)
theorem callP_cont(h:Chain c lim){f:Nat}{as:List PV}{mv:List Nat}{st:St}{r:PV×St}(hr:callP lim f as mv st=some r):∃ n,callP (c n) f as mv st=some r:=by
 unfold callP at hr ⊢
 cases hks:keysOf as with
 |none=>rw[hks]at hr;cases hr
 |some ks=>
  rw[hks]at hr
  simp only at hr ⊢
  cases hcs:getAll st ks with
  |none=>rw[hcs]at hr;cases hr
  |some cs=>
   rw[hcs]at hr
   simp only at hr ⊢
   cases mv with
   |nil=>
    simp only at hr ⊢
    cases hc:lim f (handOn [] [] 0 0 as) [] (cs.map strips)with
    |none=>rw[hc]at hr;cases hr
    |some q=>
     rw[hc]at hr
     obtain⟨n,hn⟩:=h.lim _ _ _ _ _ hc
     exact⟨n,by rw[hn];exact hr⟩
   |cons m mv=>
    simp only at hr ⊢
    split at hr
    ·rename_i hb
     cases hc:lim f (handOn ((movedAll (m::mv) as cs).map (·.1)) (m::mv) 0 0 as) ((movedAll (m::mv) as cs).map (·.2)) (boxOn ((movedAll (m::mv) as cs).map (·.1)) (boxMv (m::mv) 0 as) cs)with
     |none=>rw[hc]at hr;cases hr
     |some q=>
      rw[hc]at hr
      obtain⟨n,hn⟩:=h.lim _ _ _ _ _ hc
      exact⟨n,by rw[if_pos hb,hn];exact hr⟩
    ·cases hr
theorem uP_cont(h:Chain c lim){f:Nat}{as:List PV}{st:St}{r:PV×PV×St}(hr:uP lim f as st=some r):∃ n,uP (c n) f as st=some r:=by
 unfold uP at hr ⊢
 cases hq:callP lim (backF f) as [0] st with
 |none=>rw[hq]at hr;cases hr
 |some q=>
  rw[hq]at hr
  obtain⟨n,hn⟩:=callP_cont h hq
  exact⟨n,by rw[hn];exact hr⟩
theorem runOp_cont(h:Chain c lim){fr:Fr}{st:St}{d:Option Nat}{o:COp}{r:PV×St}(hr:runOp lim fr st d o=some r):∃ n,runOp (c n) fr st d o=some r:=by
 cases o with
 |call f as mv=>exact callP_cont h hr
 |cval f as=>
  simp only[runOp]at hr ⊢
  cases hf:f.ev fr with
  |fn g cap=>
   rw[hf]at hr
   simp only at hr ⊢
   split at hr
   ·rename_i hg
    obtain⟨n,hn⟩:=callP_cont h hr
    exact⟨n,by rw[if_pos hg];exact hn⟩
   ·cases hr
  |_=>rw[hf]at hr;cases hr
 |callU f as=>
  simp only[runOp]at hr ⊢
  cases hq:uP lim f (as.map (·.ev fr)) st with
  |none=>rw[hq]at hr;cases hr
  |some q=>
   rw[hq]at hr
   obtain⟨n,hn⟩:=uP_cont h hq
   exact⟨n,by rw[hn];exact hr⟩
 |_=>exact⟨0,hr⟩
theorem runOper_cont(h:Chain c lim){o:COper}{x y:Fr×St}(hr:runOper lim o x=some y):∃ n,runOper (c n) o x=some y:=by
 unfold runOper at hr ⊢
 cases hw:wants x.1 o.g with
 |none=>rw[hw]at hr;cases hr
 |some b=>
  rw[hw]at hr
  cases b with
  |false=>exact⟨0,hr⟩
  |true=>
   simp only at hr ⊢
   cases hq:runOp lim x.1 x.2 o.d o.op with
   |none=>rw[hq]at hr;cases hr
   |some q=>
    rw[hq]at hr
    obtain⟨n,hn,hk⟩:∃ n,runOp (c n) x.1 x.2 o.d o.op=some q∧killF (c n) o.op o.d x.2 x.1=killF lim o.op o.d x.2 x.1:=by
     by_cases hu:∃ f as,o.op= .callU f as
     ·obtain⟨f,as,he⟩:=hu
      rw[he]at hq ⊢
      simp only[runOp]at hq ⊢
      cases hv:uP lim f (as.map (·.ev x.1)) x.2 with
      |none=>rw[hv]at hq;cases hq
      |some z=>
       rw[hv]at hq
       obtain⟨n,hn⟩:=uP_cont h hv
       exact⟨n,by rw[hn];exact hq,killF_same fun f' as' e=>by cases e;rw[hn,hv]⟩
     ·obtain⟨n,hn⟩:=runOp_cont h hq
      exact⟨n,hn,killF_same fun f as e=>absurd ⟨f,as,e⟩ hu⟩
    exact⟨n,by rw[hn,hk];exact hr⟩
theorem runOps_cont(h:Chain c lim):∀ {os:List COper} {x y:Fr×St},runOps lim os x=some y→∃ n,runOps (c n) os x=some y
 | [],_,_,hr=>⟨0,hr⟩
 |o::os,x,y,hr=>by
  simp only[runOps]at hr ⊢
  split at hr
  ·rename_i z hz
   obtain⟨n,hn⟩:=runOper_cont h hz
   obtain⟨m,hm⟩:=runOps_cont h hr
   refine⟨max n m,?_⟩
   rw[runOper_mono (h.le (Nat.le_max_left n m)) hn]
   exact runOps_mono (h.le (Nat.le_max_right n m)) hm
  ·cases hr
theorem keysRun_cont(h:Chain c lim):∀ {os:List COper} {x:Fr×St} {y},keysRun lim os x=some y→∃ n,keysRun (c n) os x=some y
 | [],_,_,hr=>⟨0,hr⟩
 |o::os,x,y,hr=>by
  simp only[keysRun]at hr ⊢
  split at hr
  ·rename_i z hz
   split at hr
   ·rename_i hk
    obtain⟨n,hn⟩:=runOper_cont h hz
    obtain⟨m,hm⟩:=keysRun_cont h hk
    refine⟨max n m,?_⟩
    rw[runOper_mono (h.le (Nat.le_max_left n m)) hn]
    simp only
    rw[keysRun_mono (h.le (Nat.le_max_right n m)) hm]
    exact hr
   ·cases hr
  ·cases hr
theorem regP_cont(h:Chain c lim){os:List COper}{chk:List (Nat×Nat)}{x y:Fr×St}(hr:regP lim os chk x=some y):∃ n,regP (c n) os chk x=some y:=by
 cases chk with
 |nil=>exact runOps_cont h hr
 |cons q chk=>
  simp only[regP]at hr ⊢
  split at hr
  ·rename_i hk
   obtain⟨n,hn⟩:=keysRun_cont h hk
   exact⟨n,by rw[hn];exact hr⟩
  ·cases hr
theorem iter_cont{b:Nat→Fr×St→Option (Ex×Fr×St)}{l:Fr×St→Option (Ex×Fr×St)}(up:∀ n m x r,n≤m→b n x=some r→b m x=some r)(hl:∀ x r,l x=some r→∃ n,b n x=some r):
  ∀ {N:Nat} {x:Fr×St} {r},iter l N x=some r→∃ n,iter (b n) N x=some r
 |0,_,_,hr=>by simp[iter]at hr
 |N+1,x,r,hr=>by
  simp only[iter]at hr ⊢
  split at hr
  ·rename_i y hy
   obtain⟨n,hn⟩:=hl _ _ hy
   obtain⟨m,hm⟩:=iter_cont up hl hr
   refine⟨max n m,?_⟩
   rw[up _ _ _ _ (Nat.le_max_left n m) hn]
   exact iter_mono (fun x r h=>up _ _ _ _ (Nat.le_max_right n m) h) (Nat.le_refl _) hm
  ·rename_i hne
   obtain⟨n,hn⟩:=hl _ _ hr
   refine⟨n,?_⟩
   rw[hn]
   obtain⟨e,y⟩:=r
   cases e with
   |go=>exact absurd hr (hne y)
   |exit i=>rfl
   |ret=>rfl
theorem ev_cont(h:Chain c lim)(N:Nat):∀ (cc:CC) {x:Fr×St} {r},ev lim N cc x=some r→∃ n,ev (c n) N cc x=some r:=by
 intro cc
 induction cc with
 |skip=>intro x r hr;exact⟨0,hr⟩
 |exit id=>intro x r hr;exact⟨0,hr⟩
 |ret=>intro x r hr;exact⟨0,hr⟩
 |reg os chk=>
  intro x r hr
  simp only[ev,Option.map_eq_some_iff]at hr ⊢
  obtain⟨y,hy,rfl⟩:=hr
  obtain⟨n,hn⟩:=regP_cont h hy
  exact⟨n,y,hn,rfl⟩
 |seq a b iha ihb=>
  intro x r hr
  simp only[ev]at hr ⊢
  split at hr
  ·rename_i y hy
   obtain⟨n,hn⟩:=iha hy
   obtain⟨m,hm⟩:=ihb hr
   refine⟨max n m,?_⟩
   rw[ev_mono (h.le (Nat.le_max_left n m)) (Nat.le_refl N) a hn]
   exact ev_mono (h.le (Nat.le_max_right n m)) (Nat.le_refl N) b hm
  ·rename_i hne
   obtain⟨n,hn⟩:=iha hr
   refine⟨n,?_⟩
   rw[hn]
   obtain⟨e,y⟩:=r
   cases e with
   |go=>exact absurd hr (hne y)
   |exit i=>rfl
   |ret=>rfl
 |cond cx a b iha ihb=>
  intro x r hr
  simp only[ev]at hr ⊢
  split at hr
  ·exact iha hr
  ·exact ihb hr
  ·cases hr
 |block id a iha=>
  intro x r hr
  simp only[ev]at hr ⊢
  split at hr
  ·rename_i i y hy
   obtain⟨n,hn⟩:=iha hy
   exact⟨n,by rw[hn];exact hr⟩
  ·rename_i hne
   obtain⟨n,hn⟩:=iha hr
   refine⟨n,?_⟩
   rw[hn]
   obtain⟨e,y⟩:=r
   cases e with
   |go=>rfl
   |exit i=>exact absurd hr (hne i y)
   |ret=>rfl
 |loop a iha=>
  intro x r hr
  simp only[ev]at hr ⊢
  exact iter_cont (b:=fun n=>ev (c n) N a) (l:=ev lim N a) (fun n m x r hnm hx=>ev_mono (h.le hnm) (Nat.le_refl N) a hx) (fun x r hx=>iha hx) hr
end
end Go.PM
