/- FnExactApplyChanges: the program's ApplyChanges returns what the reference's returns, for all arguments: the row and its card. Conditions: none. -/
import Derived.Test.YtdpamjikmlbmhaaGreatDoorPI
import Derived.Test.YtdpamjikmlbmhaaGreatDoorProg
import Derived.Deep.LoopGhost
import Derived.Test.YtdpamjikmlbmhaaGreatDoorCards
import Derived.Test.YtdpamjikmlbmhaaGreatDoorTie
import Derived.Deep.DeepWitnessRowRef
import Derived.LaidMore
import Derived.ProofKit
import Derived.SevenTiedAt
set_option linter.all false
set_option maxHeartbeats 32000000
namespace Go.PM
open Go Go.Proofs Go.RowKit
def vu{P:Program}(w:World)(t e ty:TypeId){i0:TypeInfo}{z:Value}(ht:P.underlying t=some (.slice e))(hi:P.info? e=some i0)(hz:i0.zero=some z)(b o c:Nat)(h0:0<z.cells.size)
  (hc:∀ j,j<z.cells.size->(w.cell? ⟨b,o+j,none⟩).isSome=true) (hf:∀ j,j<z.cells.size->w.frozen? ⟨b,o+j,none⟩=false) (h1:∀ v∈z.cells.toList,v.oneCell'=true):
  (Builtin.clear_ #[t] ty #[.slice (some ⟨b,o,none⟩) 1 c]).run P w= .ok (.tuple #[]) (w.setCells b o z.cells.toList):=by
 have hzc:(Builtin.zeroCells z.cells 1).toList=z.cells.toList:=by
  apply List.ext_getElem
  ·simp[Builtin.zeroCells]
  ·intro i h1 h2;have h3:i<z.cells.size:=by simpa using h2
   simp[Builtin.zeroCells,Nat.mod_eq_of_lt h3,h3]
 have hst:=run_storeCells_cells (P:=P) b o z.cells.toList 0 w (by simpa using hc) (by simpa using hf) h1;simp only[bi]at hst;have hv:(zeroValue e).run P w= .ok z w:=by simp[zeroValue,typeInfo,hi,hz]
 simp[Builtin.clear_,bm w ht,hv,hzc,hst]
set_option maxRecDepth 1000000 in
def Iu(b n c i:Nat)(us zs:List Value)(w:World)(hi:i<n)(hnc:n<=c)(hc63:c<=9223372036854775807)(hul:us.length=n*3)(hus:∀ (j:Nat) v,us[j]? =some v->w.cell? ⟨b,j,none⟩=some v)(hfz:∀ j,w.frozen? ⟨b,j,none⟩=false)(h1u:∀ v∈us,v.oneCell'=true)
  {i0:TypeInfo} {z:Value} (hi0:Tryz.prog.info? 72=some i0) (hz0:i0.zero=some z) (hzs:i0.size=3) (hzl:z.cells.size=3) (hzz:z.cells.toList=zs) (h1z:∀ v∈zs,v.oneCell'=true):
  Calls Tryz.prog 160 #[.slice (some ⟨b,0,none⟩) n c,.int .i64 i,.int .i64 ((i:Int)+1)] w fun e w'=>e= .returned (.slice (some ⟨b,0,none⟩) (n-1) c)/\w'=(w.drew.setCells b (i*3) (us.drop ((i+1) *3))).setCells b ((n-1) *3) zs:=by
 obtain⟨news,hnews⟩:∃ news,news=us.drop ((i+1) *3):=⟨_,rfl⟩;have hlen:news.length=(n- (i+1)) *3:=by rw[hnews,aU,hul];omega
 have hsp:∀ j,j<n*3->(w.cell? ⟨b,j,none⟩).isSome=true:=fun j hj=>by rw[hus j _ (ax (by omega))];rfl
 obtain⟨A,hA,hsrc⟩:∃ A:Addr,(if c=i+1 then some (⟨b,0,none⟩:Addr)else some ⟨b,(i+1) *3,none⟩)=some A/\Hid (∀ t u,news[t]? =some u->w.drew.cell? (A.add t)=some u):=by
  by_cases h:c=i+1
  ·refine⟨⟨b,0,none⟩,by simp[h],fun t u hu=>?_⟩;have h0:news.length=0:=by rw[hlen];omega
   rw[gd.1 h0]at hu;simp at hu
  ·refine⟨⟨b,(i+1) *3,none⟩,by simp[h],fun t u hu=>?_⟩;rw[hnews,d5]at hu;rw[Addr.add_lit];exact hus _ _ hu
 have s1:Hid (news.length=(n- (i+1)) *3):=hlen;have s2:Hid (∀ u∈news,u.oneCell'=true):=fun u hu=>h1u u (by rw[hnews]at hu;exact cW hu);have s3:Hid (∀ t,t<news.length->(w.drew.cell? ⟨b,0+i*3+t,none⟩).isSome=true/\w.drew.frozen? ⟨b,0+i*3+t,none⟩=false):=fun t ht=>⟨hsp _ (by omega),hfz _⟩;obtain⟨W1,hW1⟩:∃ W1,W1=w.drew.setCells b (0+i*3) news:=⟨_,rfl⟩;have hc1:∀ j,j<n*3->(W1.cell? ⟨b,j,none⟩).isSome=true:=fun j hj=>by
  rw[hW1];exact kL b news (0+i*3) w.drew (fun t ht=>hsp _ (by omega)) j (hsp j hj)
 have hf1:∀ j,W1.frozen? ⟨b,j,none⟩=false:=fun j=>by rw[hW1,World.frozen?_setCells];exact hfz j
 have e1:i+(n- (i+1))=n-1:=by omega
 have e2:n- (n-1)=1:=by omega
 have hcl:∀ ty,(Builtin.clear_ #[29] ty #[.slice (some ⟨b,(n-1) *3,none⟩) 1 (c- (n-1))]).run Tryz.prog W1= .ok (.tuple #[]) (W1.setCells b ((n-1) *3) zs):=
  fun ty=>by rw[<-hzz];exact vu W1 29 72 ty r7 hi0 hz0 b _ _ (by omega) (fun j hj=>hc1 _ (by omega)) (fun j _=>hf1 _) (by rw[hzz];exact h1z)
 have hW:Hid (W1=w.drew.setCells b (0+i*3) news):=hW1;have hW':Hid (W1=w.drew.setCells b (i*3) (us.drop ((i+1) *3))):=by rw[aq,hnews]at hW1;exact hW1
 have hic:i<=c:=by omega
 have hjc:i+1<=c:=by omega
 have hij:¬ ((i:Int)=(i:Int)+1):=by omega
 have htn:((i:Int)+1).toNat=i+1:=by omega
 have hnn:n-1<=n:=by omega
 have hb1:(0:Int)<=(i:Int)+1:=by omega
 have hb2:(i:Int)+1<=(n:Int):=by omega
 clear hus hfz h1u hnews hlen hsp hW1 hc1 hf1 h1z hul hzl hz0 hzz;go_enter Tryz.func160,Tryz.ntmps160
 go_wp2_with fail
 go_region_law (refine step_append_room rfl (.tmp 22) (.tmp 25) 29 rfl 72 i0 3 r7 hi0 hzs b 0 i c (by simp[Act.eval,Act.put]) A (n- (i+1)) (c- (i+1)) news (by simp[Act.eval,Act.put]) s1.out hsrc.out s2.out (by omega) s3.out ?_;rw[<-hW.out])
 go_wp2;go_ret;exact⟨rfl,by rw[<-hW'.out]⟩
set_option maxRecDepth 1000000 in
def Iv(b n c i:Nat)(us zs:List Value)(w:World)(hi:i<n)(hnc:n<=c)(hc63:c<=9223372036854775807)(hul:us.length=n*5)(hus:∀ (j:Nat) v,us[j]? =some v->w.cell? ⟨b,j,none⟩=some v)(hfz:∀ j,w.frozen? ⟨b,j,none⟩=false)(h1u:∀ v∈us,v.oneCell'=true)
  {i0:TypeInfo} {z:Value} (hi0:Tryz.prog.info? 68=some i0) (hz0:i0.zero=some z) (hzs:i0.size=5) (hzl:z.cells.size=5) (hzz:z.cells.toList=zs) (h1z:∀ v∈zs,v.oneCell'=true):
  Calls Tryz.prog 163 #[.slice (some ⟨b,0,none⟩) n c,.int .i64 i,.int .i64 ((i:Int)+1)] w fun e w'=>e= .returned (.slice (some ⟨b,0,none⟩) (n-1) c)/\w'=(w.drew.setCells b (i*5) (us.drop ((i+1) *5))).setCells b ((n-1) *5) zs:=by
 obtain⟨news,hnews⟩:∃ news,news=us.drop ((i+1) *5):=⟨_,rfl⟩;have hlen:news.length=(n- (i+1)) *5:=by rw[hnews,aU,hul];omega
 have hsp:∀ j,j<n*5->(w.cell? ⟨b,j,none⟩).isSome=true:=fun j hj=>by rw[hus j _ (ax (by omega))];rfl
 obtain⟨A,hA,hsrc⟩:∃ A:Addr,(if c=i+1 then some (⟨b,0,none⟩:Addr)else some ⟨b,(i+1) *5,none⟩)=some A/\Hid (∀ t u,news[t]? =some u->w.drew.cell? (A.add t)=some u):=by
  by_cases h:c=i+1
  ·refine⟨⟨b,0,none⟩,by simp[h],fun t u hu=>?_⟩;have h0:news.length=0:=by rw[hlen];omega
   rw[gd.1 h0]at hu;simp at hu
  ·refine⟨⟨b,(i+1) *5,none⟩,by simp[h],fun t u hu=>?_⟩;rw[hnews,d5]at hu;rw[Addr.add_lit];exact hus _ _ hu
 have s1:Hid (news.length=(n- (i+1)) *5):=hlen;have s2:Hid (∀ u∈news,u.oneCell'=true):=fun u hu=>h1u u (by rw[hnews]at hu;exact cW hu);have s3:Hid (∀ t,t<news.length->(w.drew.cell? ⟨b,0+i*5+t,none⟩).isSome=true/\w.drew.frozen? ⟨b,0+i*5+t,none⟩=false):=fun t ht=>⟨hsp _ (by omega),hfz _⟩;obtain⟨W1,hW1⟩:∃ W1,W1=w.drew.setCells b (0+i*5) news:=⟨_,rfl⟩;have hc1:∀ j,j<n*5->(W1.cell? ⟨b,j,none⟩).isSome=true:=fun j hj=>by
  rw[hW1];exact kL b news (0+i*5) w.drew (fun t ht=>hsp _ (by omega)) j (hsp j hj)
 have hf1:∀ j,W1.frozen? ⟨b,j,none⟩=false:=fun j=>by rw[hW1,World.frozen?_setCells];exact hfz j
 have e1:i+(n- (i+1))=n-1:=by omega
 have e2:n- (n-1)=1:=by omega
 have hcl:∀ ty,(Builtin.clear_ #[30] ty #[.slice (some ⟨b,(n-1) *5,none⟩) 1 (c- (n-1))]).run Tryz.prog W1= .ok (.tuple #[]) (W1.setCells b ((n-1) *5) zs):=
  fun ty=>by rw[<-hzz];exact vu W1 30 68 ty r6 hi0 hz0 b _ _ (by omega) (fun j hj=>hc1 _ (by omega)) (fun j _=>hf1 _) (by rw[hzz];exact h1z)
 have hW:Hid (W1=w.drew.setCells b (0+i*5) news):=hW1;have hW':Hid (W1=w.drew.setCells b (i*5) (us.drop ((i+1) *5))):=by rw[aq,hnews]at hW1;exact hW1
 have hic:i<=c:=by omega
 have hjc:i+1<=c:=by omega
 have hij:¬ ((i:Int)=(i:Int)+1):=by omega
 have htn:((i:Int)+1).toNat=i+1:=by omega
 have hnn:n-1<=n:=by omega
 have hb1:(0:Int)<=(i:Int)+1:=by omega
 have hb2:(i:Int)+1<=(n:Int):=by omega
 clear hus hfz h1u hnews hlen hsp hW1 hc1 hf1 h1z hul hzl hz0 hzz;go_enter Tryz.func163,Tryz.ntmps163
 go_wp2_with fail
 go_region_law (refine step_append_room rfl (.tmp 22) (.tmp 25) 30 rfl 68 i0 5 r6 hi0 hzs b 0 i c (by simp[Act.eval,Act.put]) A (n- (i+1)) (c- (i+1)) news (by simp[Act.eval,Act.put]) s1.out hsrc.out s2.out (by omega) s3.out ?_;rw[<-hW.out])
 go_wp2;go_ret;exact⟨rfl,by rw[<-hW'.out]⟩
end Go.PM
namespace Go.PM
variable {P:Program} {B:Nat->Nat->Option Value}
def Gh.shrink(G:Gh)(k h:Nat)(r:oR):Gh:={G with com:=fun b o=>if b=r.b/\h*r.sz<=o then none else G.com b o,tk:=fun t=>if t=k then some (.room (oR.mk r.b r.cap r.sz r.e h))else G.tk t}
section
variable {G:Gh} {st:St} {w:World}
def Hr(hI:bz P B G st w){k h:Nat}{r:oR}(hr:G.tk k=some (.room r))(hfl:st.fl<=k):Rn some ([k].contains ·) false G (G.shrink k h r):=by
 have hpv:G.pv r.b=some k:=(hI.priv k r hr).1 hfl;have hne:∀ b,(∀ k',G.pv b=some k'->[k].contains k'=false)->b≠r.b:=by
  rintro b hK rfl;have:=hK k hpv;simp at this
 refine⟨fun b o v h hK=>?_,fun _ _ h=>h,fun j j' hj hK hlt=>?_,fun b j o v h hK hp=> .inl ⟨j,hp,rfl⟩,fun b o v _ _ h=> .inl h⟩
 ·show(if b=r.b/\_ then none else G.com b o)=some v;rw[ad fun h=>hne b hK h.1];exact h
 ·cases hj;have hjk:j≠k:=by
   rintro rfl;simp at hK
  refine⟨hlt,fun x' hx=>⟨x',?_,aE _,fun _=>rfl⟩⟩;simp only[Gh.shrink,ad hjk]at hx;exact hx
def bz.shrink(hI:bz P B G st w){k h:Nat}{r:oR}(hr:G.tk k=some (.room r))(hfl:st.fl<=k)(hh:h<=r.m)(ho:∀ s,st.objs s=none)(hm:∀ s,st.maps s=none):
  bz P B (G.shrink k h r) (st.count k h) w/\cu G w (G.shrink k h r) w:=by
 obtain⟨hsh,hcm,hmc,hsz,hno,hxr⟩:=hI.room k r hr;have hklt:=(hI.cnt k _ hr).1;have hpv:G.pv r.b=some k:=(hI.priv k r hr).1 hfl;have hcomAt:∀ {b o v},(G.shrink k h r).com b o=some v->G.com b o=some v:=by
  intro b o v h;simp only[Gh.shrink]at h;split at h
  ·cases h
  ·exact h
 have hroom:∀ {t q},(G.shrink k h r).tk t=some (.room q)->(t=k/\q={r with m:=h})\/(t≠k/\G.tk t=some (.room q)/\q.b≠r.b):=by
  intro t q h;simp only[Gh.shrink]at h;split at h
  ·rename_i ht;cases h;exact .inl ⟨ht,rfl⟩
  ·rename_i ht;exact .inr ⟨ht,h,fun e=>ht (hI.apart t k q r h hr e)⟩
 have hob:∀ s b,G.ob s=some b->b≠r.b:=by
  intro s b hb e;have:=(hI.obs s b hb).2.2;rw[e,hsh]at this;cases this
 refine⟨⟨fun b o v h=>hI.com b o v (hcomAt h),hI.sh,hI.nx,fun t x hx=>?_,fun t ht=>?_,fun t q hq=>?_,fun t u q q' h1 h2 hb=>?_,fun t q hq=>?_,fun s cs h=>(by have h:st.objs s=some cs:=h;rw[ho s]at h;cases h),fun s b h=>?_,hI.obj,hI.nob,fun s cs h=>(by have h:st.objs s=some cs:=h;rw[ho s]at h;cases h),hI.pvl,hI.xpl,fun b o v h=>?_,hI.oes,fun s es h=>(by have h:st.maps s=some es:=h;rw[hm s]at h;cases h),hI.mbs,hI.mbi,hI.nomb,hI.obx,fun t m h=>?_⟩,
  ⟨⟨fun b o v h hp=>?_,fun _ _ h=>h,rfl⟩,aE _,fun _ _ _ _ _=>rfl,fun s b h=> .inl ⟨s,h⟩,fun t q hq=>?_,fun b o v h=> .inl (hcomAt h),fun _ _ h=> .inl h,fun b j h=> .inl ⟨j,h⟩,fun s b h=> .inl ⟨s,h⟩,⟨rfl,rfl⟩⟩⟩
 ·simp only[Gh.shrink]at hx;split at hx
  ·rename_i e;cases hx;subst e;exact⟨hklt,by simp[St.count,mi.cnt]⟩
  ·rename_i htk;obtain⟨h1,h2⟩:=hI.cnt t x hx;exact⟨h1,by simp[St.count,htk,h2]⟩
 ·by_cases e:t=k
  ·exact⟨.room {r with m:=h},by simp only[Gh.shrink,ak e]⟩
  ·obtain⟨x,hx⟩:=hI.live t ht;exact⟨x,by simp only[Gh.shrink,ad e];exact hx⟩
 ·rcases hroom hq with⟨rfl,rfl⟩|⟨h1,h3,h4⟩
  ·exact⟨hsh,hcm,by show h<=r.cap;omega,hsz,fun o ho=>by simp only[Gh.shrink];rw[ak ⟨trivial,ho⟩],hxr⟩
  ·obtain⟨g1,g2,g3,g4,g5,g6⟩:=hI.room t q h3;exact⟨g1,g2,g3,g4,fun o ho=>by simp only[Gh.shrink];rw[ad fun e=>h4 e.1];exact g5 o ho,g6⟩
 ·rcases hroom h1 with⟨rfl,rfl⟩|⟨a1,a3,a4⟩<;>rcases hroom h2 with⟨rfl,rfl⟩|⟨b1,b3,b4⟩
  ·rfl
  ·exact absurd hb.symm b4
  ·exact absurd hb a4
  ·exact hI.apart t u q q' a3 b3 hb
 ·rcases hroom hq with⟨rfl,rfl⟩|⟨h1,h3,h4⟩
  ·exact hI.priv t r hr
  ·exact hI.priv t q h3
 ·obtain⟨h1,h2,h3⟩:=hI.obs s b h;refine⟨h1,fun o=>?_,h3⟩;simp only[Gh.shrink];rw[ad fun e=>hob s b h e.1];exact h2 o
 ·obtain⟨h1,h2,h3⟩:=hI.base b o v h;have hb:b≠r.b:=by rintro rfl;rw[hpv]at h2;cases h2
  simp only[Gh.shrink];exact⟨by rw[ad fun e=>hb e.1];exact h1,h2,h3⟩
 ·simp only[Gh.shrink]at h;split at h
  ·cases h
  ·exact hI.ful t m h
 ·have hb:b≠r.b:=by rintro rfl;rw[hpv]at hp;cases hp
  simp only[Gh.shrink];exact⟨by rw[ad fun e=>hb e.1];exact h,hp⟩
 ·rcases hroom hq with⟨rfl,rfl⟩|⟨h1,h3,h4⟩
  ·exact .inl ⟨t,r,hr,rfl⟩
  ·exact .inl ⟨t,q,h3,rfl⟩
def Ff{n i e sz:Nat}{ns:List Nat}{cs zs:List PV}{us vz rest:List Value}{b1 cap1:Nat}{w1 w2:World}{G1:Gh}
  (hR:R G1 (.list n cs (.own 0 e)) (.slice (some ⟨b1,0,none⟩) n cap1)) (hI:bz P B G1 (bn (n::ns) []) w1) (hz:Rs G1 zs vz) (hzn:aI zs=true) (hzt:dw ([0].contains ·) zs=true)
  (hcs:cs.length=n*sz) (hzl:zs.length=sz) (hul:us.length=n*sz) (hi:i<n) (hrow:w1.heap[b1]? =some (.cells (us++rest).toArray e (0,0)))
  (ht1:dw ([0].contains ·) cs=true) (hn1:aI cs=true)
  (hw2:w2.heap=(w1.setRow b1 (us.take (i*sz)++us.drop ((i+1) *sz)++vz++rest).toArray).heap) (he2:w2.os=w1.os/\w2.output=w1.output):
  ∃ G2,R G2 (.list (n-1) (cs.take (i*sz)++cs.drop ((i+1) *sz)) (.own 0 e)) (.slice (some ⟨b1,0,none⟩) (n-1) cap1)/\bz P B G2 (bn ((n-1)::ns) []) w2/\cu G1 w1 G2 w2/\G2.bx=G1.bx:=by
 cases hR with
 |list _ _ _ _ _ cap us1 hn hl hc hr h1 htr hp hx=>
 obtain⟨x,hx0⟩:=hI.live 0 (by simp[bn]);have hcnt:=(hI.cnt 0 x hx0).2;have hxn:x.cnt=n:=by rw[<-hcnt];simp[bn]
 have htr0:=htr;obtain⟨hlt0,htr⟩:=htr;obtain⟨h3,h4⟩:=htr x hx0;have h4:=h4 hxn.symm;cases x with
 |full m=>have:=hI.ful 0 m hx0;simp only[mi.cnt]at hxn;omega
 |room r=>
 obtain⟨hrb,_,hrc,hre,hrl⟩:=h4;have hrm:r.m=n:=hxn;have hus1:us1.length=n*sz:=by rw[<-hl,hcs]
 have hsz:us1.length=r.m*r.sz:=by rw[hrl,hrm]
 have hszr:r.sz=sz:=by
  rw[hrl]at hus1;exact Nat.eq_of_mul_eq_mul_left (by omega) hus1
 have hcel:∀ j (v:Value),us1[j]? =some v->(us++rest)[j]? =some v:=fun j v hj=>by
  have:=hI.com _ _ _ (hc j v hj);simpa [World.cell?,hrow]using this
 have heq:us1=us:=by
  apply fR;intro j;by_cases hj:j<us1.length
  ·have:=hcel j us1[j] (ax hj);rw[bL (by omega)]at this;rw[this];exact ax hj
  ·rw[bB (by omega),bB (by omega)]
 subst heq;have hRs:Rs G1 cs us1:=⟨hl,hr,h1⟩;have hisz:(i+1) *sz<=n*sz:=eU _ hi;have hi1:(i+1) *sz=i*sz+sz:=gg i sz;have hn1':(n-1) *sz=n*sz-sz:=by rw[Nat.sub_mul,Nat.one_mul]
 have hds':Rs G1 (cs.take (i*sz)++cs.drop ((i+1) *sz)++zs) (us1.take (i*sz)++us1.drop ((i+1) *sz)++vz):=((hRs.take _).append (hRs.drop _)).append hz;have hvz:vz.length=sz:=by rw[<-hz.1,hzl]
 have hlen':(us1.take (i*sz)++us1.drop ((i+1) *sz)++vz).length=us1.length:=by simp only[af,aG,aU];omega
 have hlenc:(cs.take (i*sz)++cs.drop ((i+1) *sz)++zs).length=cs.length:=by simp only[af,aG,aU];omega
 have hsub:∀ p∈cs.take (i*sz)++cs.drop ((i+1) *sz),p∈cs:=fun p hp=>by
  simp only[ay]at hp;rcases hp with h|h
  ·exact eV h
  ·exact cW h
 have htA:dw ([0].contains ·) (cs.take (i*sz)++cs.drop ((i+1) *sz))=true:=z6 ht1 hsub;have hnA:aI (cs.take (i*sz)++cs.drop ((i+1) *sz))=true:=rT hn1 hsub;subst hrb;have hfl:(bn (n::ns) []).fl<=0:=aE _;have hpk:=hI.poke (k:=0) (e:=e) (off:=0) hx0 (by omega) hre hfl hRs hds' (by rw[hsz]) (fun j u hj=>by have:=hc j u hj;rwa [aq]at this) (by rw[hlen'];omega) ht1 (z7 htA hzt) hn1 (io hnA hzn) (by rw[hre];exact hrow);obtain⟨hI2,hS2,hst2,_⟩:=hpk;rw[Hh]at hI2;have hwr:(us1++rest).toArray.toList.take 0++(us1.take (i*sz)++us1.drop ((i+1) *sz)++vz)++(us1++rest).toArray.toList.drop (0+(us1.take (i*sz)++us1.drop ((i+1) *sz)++vz).length)=us1.take (i*sz)++us1.drop ((i+1) *sz)++vz++rest:=by
  rw[hlen',aq];simp
 rw[hwr]at hI2 hS2;have hI3:=hI2.drawn hw2;have hS3:=hS2.heap hw2 he2;have hlist:=hst2 _ _ (R.list n cs (.own 0 e) r.b 0 cap1 us1 hn hl hc hr h1 htr0 hp hx);rw[fJ]at hlist;simp only[gT,aB.isOwn,hrm,kw,ap,if_true]at hlist;rw[iK hlenc]at hlist;generalize hG:G1.poke r.b 0 (us1.take (i*sz)++us1.drop ((i+1) *sz)++vz)=G2 at*;have hbx:G2.bx=G1.bx:=by rw[<-hG];rfl
 have hr2:G2.tk 0=some (.room r):=by rw[<-hG];exact hx0
 have hpv2:G2.pv=G1.pv:=by rw[<-hG];rfl
 obtain⟨hI4,hS4⟩:=hI3.shrink (k:=0) (h:=n-1) hr2 (aE _) (by omega) (fun s=>by simp[bn]) (fun s=>by simp[bn]);have hrn:=Hr (k:=0) (h:=n-1) hI3 hr2 (aE _);have e1:(bn (n::ns) []).count 0 (n-1)=bn ((n-1)::ns) []:=vL n (n-1) ns;rw[e1]at hI4;refine⟨_,?_,hI4,hS3.trans hS4,hbx⟩;generalize hq:cs.take (i*sz)++cs.drop ((i+1) *sz)++zs=L at hlist;rw[hq]at hlenc;cases hlist with
 |list _ _ _ _ _ _ us2 hn' hl' hc' hr' h1' htr' hp' hx'=>
 have hA:(cs.take (i*sz)++cs.drop ((i+1) *sz)).length=(n-1) *sz:=by simp only[af,aG,aU];omega
 have hl2:us2.length=n*sz:=by rw[<-hl',hlenc,hcs]
 have hRs2:Rs G2 (cs.take (i*sz)++cs.drop ((i+1) *sz)) (us2.take ((n-1) *sz)):=by
  have:Rs G2 L us2:=⟨hl',hr',h1'⟩;rw[<-hq]at this;have:=this.take ((n-1) *sz);rwa [<-hA,gZ,hA]at this
 refine .list (n-1) _ _ r.b 0 cap1 (us2.take ((n-1) *sz)) (by omega) hRs2.1 (fun j u hj=>?_) (fun j p u hpj hu=>?_) hRs2.2.2 ⟨by show 0<G2.nx;rw[hI3.nx];simp[bn],fun x hx=>?_⟩ (fun k _ hk=>?_) (fun _ _=>?_)
 ·rw[nB]at hj;split at hj
  ·rename_i hlt;have:=hc' j u hj;simp only[Gh.shrink,hszr];rw[ad (by omega)];exact this
  ·cases hj
 ·have h5:=(hRs2.2.1 j p u hpj hu).rn hrn rfl;rwa [bV,ak (kK htA hpj)]at h5
 ·simp only[Gh.shrink,if_true]at hx;cases hx;exact⟨aE _,fun _=>⟨rfl,rfl,hrc,hre,by rw[aG,hl2,hszr];omega⟩⟩
 ·have hk:G2.pv r.b=some k:=hk;rw[(hI3.priv 0 r hr2).1 (aE _)]at hk;cases hk;rfl
 ·show G2.xp r.b=false;exact(hI3.room 0 r hr2).2.2.2.2.2
end
end Go.PM
namespace Go.PM
open Go Go.Proofs
variable {B:Nat->Nat->Option Value}
def iH(b:Nat):∀ (vs:List Value) (o:Nat) (w:World),(w.setCells b o vs).os=w.os/\(w.setCells b o vs).output=w.output
 | [],_,_=>⟨rfl,rfl⟩
 |v::vs,o,w=>iH b vs (o+1) (w.setCell ⟨b,o,none⟩ v)
def tx(w:World)(x:Array Value)(e:Nat):(w.alloc (.cells x e (0,0))).heap[w.heap.size]? =some (.cells x e (0,0)):=by
 unfold World.alloc;exact Array.getElem?_push_size
def pV(w:World)(x y:Array Value)(e:Nat):((w.alloc (.cells x e (0,0))).setRow w.heap.size y).heap=(w.alloc (.cells y e (0,0))).heap:=by
 simp only[World.setRow,World.alloc];apply nD;intro i;simp only[jB,Array.getElem?_push];by_cases hi:w.heap.size=i
 ·subst hi;simp
 ·rw[ad hi,ad (fun h=>hi h.symm),ad (fun h=>hi h.symm)]
def Df{w:World}{b k:Nat}{u:Value}(h:w.cell? ⟨b,k,none⟩=some u):∃ c e f,w.heap[b]? =some (.cells c e f)/\c[k]? =some u:=by
 unfold World.cell? at h;split at h
 ·rename_i c e f hc;exact⟨c,e,f,hc,by simpa using h⟩
 ·cases h
def K0:gb Tryz.prog 72=some [.int .i64 0,.list 0 [] .nil,.list 0 [] .nil]:=by kernel_rfl
def OF:(Tryz.prog.info? 72).map (·.bytes)=some 56:=by kernel_rfl
def xm(f:Nat)(G:Gh)(w:World)(x y:Value)(i:Nat)(p:PV)(ns:List Nat):Prop:=Calls Tryz.prog f #[x,.int .i64 (i:Int),y] w fun e w'=>∃ v G',e= .returned v/\R G' p v/\bz Tryz.prog B G' (bn ns []) w'/\cu G w G' w'/\G'.bx=G.bx
def EA(ns:List Nat)(n:Nat):(bn ns []).more [n]=bn (ns++[n]) []:=by
 have h1:(ns++[n]).length=ns.length+1:=by simp
 have h2:(fun t=>if t<ns.length then ns.getD t 0 else [n].getD (t-ns.length) 0)=fun t=>(ns++[n]).getD t 0:=by
  funext t;simp only[gh,List.getElem?_append];split<;>rfl
 unfold St.more bn;simp only[h1,<-h2];rfl
def cu.drew{G:Gh}{w:World}:cu G w G w.drew:=
 ⟨rD.refl G,aE _,fun _ _ _ _ _=>rfl,fun s b h=> .inl ⟨s,h⟩,fun t r h=> .inl ⟨t,r,h,rfl⟩,fun _ _ _ h=> .inl h,fun _ _ h=> .inl h,fun _ k h=> .inl ⟨k,h⟩,fun s b h=> .inl ⟨s,h⟩,⟨rfl,rfl⟩⟩
def LP{G:Gh}{w:World}{ds:List PV}{ns:List Nat}{e':Nat}{x y:Value}(hI:bz Tryz.prog B G (bn ns []) w)(hx:R G (.list 0 [] .nil) x)(hy:R G (.list 1 ds (.full e')) y)(hd:ds.length=3):xm (B:=B) 128 G w x y 0 (.list 1 ds (.own ns.length 72)) (ns++[1]):=by
 have h0:=r7;have hi72:=Bk;have hb72:=OF;cases hq:Tryz.prog.info? 72 with
 |none=>rw[hq]at hi72;cases hi72
 |some i0=>
 rw[hq]at hi72 hb72;have hs:i0.size=3:=Option.some.inj hi72;have hb:i0.bytes=56:=Option.some.inj hb72;obtain⟨v,w',G',hrun,hR,hI',_,hS,hbx⟩:=rR (ty:=29) (t:=29) (e:=72) (i:=i0) (n:=0) (m:=1) (cs:=[]) (ds:=ds) hI r7 hq K0 (by rw[hs];rfl) hx hy (by rfl) trivial (by simp) (by rw[hd,hs]) (by rw[hb];decide) (by decide) (by omega) (fun _ h=>by cases h);cases hx with
 |list _ _ _ _ _ _ _ _ _ _ _ _ ht=>exact absurd ht (by simp[tQ])
 |listN=>
 cases hy with
 |list _ _ _ yb yo yc vs hm hl hc hr h1 ht hp hx'=>
 refine(Aq none 0 0 yc ⟨yb,yo,none⟩ w w' v (aE _) (by omega) (fun _=>rfl) (fun ty=>hrun)).mono fun e w1 h=>?_;obtain⟨rfl,rfl⟩:=h;refine⟨v,G',rfl,?_,?_,hS,hbx⟩
 ·have e:gk (bn ns []) .nil=ns.length:=rfl;rw[e]at hR;simpa using hR
 ·have e:jv (bn ns []) (0+1) .nil=bn (ns++[1]) []:=EA ns 1;rw[e]at hI';exact hI'
def LO{G:Gh}{w:World}{n i:Nat}{ns:List Nat}{cs ds:List PV}{e':Nat}{x y:Value}(hI:bz Tryz.prog B G (bn (n::ns) []) w)(hx:R G (.list n cs (.own 0 72)) x)(hy:R G (.list 1 ds (.full e')) y)
  (hc:cs.length=n*3) (hd:ds.length=3) (hi:i<=n) (hn:n<=10000000) (hn1:aI cs=true) (hn2:aI ds=true) (ht1:dw ([0].contains ·) cs=true) (ht2:dw ([0].contains ·) ds=true):
  xm (B:=B) 128 G w x y i (.list (n+1) (cs.take (i*3)++ds++cs.drop (i*3)) (.own 0 72)) ((n+1)::ns):=by
 have hi72:=Bk;have hb72:=OF;cases hq:Tryz.prog.info? 72 with
 |none=>rw[hq]at hi72;cases hi72
 |some i0=>
 rw[hq]at hi72 hb72;have hs:i0.size=3:=Option.some.inj hi72;have hb:i0.bytes=56:=Option.some.inj hb72;have hcan:hH (bn (n::ns) []) n (.own 0 72)=true:=by simp[hH,bn]
 have hbb:dB=140737488355328:=rfl;obtain⟨v,w1,G1,hrun,hR1,hI1,_,hS1,hbx1⟩:=rR (ty:=29) (t:=29) (e:=72) (i:=i0) (n:=n) (m:=1) (cs:=cs) (ds:=ds) hI r7 hq K0 (by rw[hs];rfl) hx hy hcan rfl (by rw[hs,hc]) (by rw[hd,hs]) (by rw[hb,hbb];omega) (by rw[hbb];omega) (by omega) (fun _ h=>by cases h);have e1:gk (bn (n::ns) []) (.own 0 72)=0:=rfl;have e2:jv (bn (n::ns) []) (n+1) (.own 0 72)=bn ((n+1)::ns) []:=vL n (n+1) ns;rw[e1]at hR1;rw[e2]at hI1;cases hy with
 |list _ _ _ yb yo yc vs hm hyl hyc hyr hy1 hyt hyp hyx=>
 have hvl:vs.length=3:=by rw[<-hyl,hd]
 have hnews:∀ (j:Nat) (u:Value),vs[j]? =some u->w.cell? ((⟨yb,yo,none⟩:Addr).add j)=some u:=fun j u hj=>by rw[Addr.add_lit];exact hI.com _ _ _ (hyc j u hj)
 have hnews':∀ (j:Nat) (u:Value),vs[j]? =some u->w.cell? ⟨yb,yo+j,none⟩=some u:=fun j u hj=>hI.com _ _ _ (hyc j u hj);have hvne:vs≠ []:=by rintro rfl;simp at hvl
 by_cases hin:i=n
 ·subst hin;have h1:cs.take (i*3)=cs:=bA (by omega);have h2:cs.drop (i*3)=[]:=fG (by omega);rw[h1,h2,aD];cases hx with
  |listN=>
   refine(Aq none 0 0 yc ⟨yb,yo,none⟩ w w1 v (aE _) (by omega) (fun _=>rfl) (fun ty=>hrun)).mono fun e w1 h=>?_;obtain⟨rfl,rfl⟩:=h;exact⟨v,G1,rfl,hR1,hI1,hS1,hbx1⟩
  |list _ _ _ xb xo xc us hnc hxl hxc hxr hx1 hxt hxp hxx=>
   obtain⟨x0,hx0⟩:=hI.live 0 (by simp[bn]);have hcnt:=(hI.cnt 0 x0 hx0).2;have hcap:xc<=9223372036854775807:=by
    have hxn:x0.cnt=i:=by rw[<-hcnt];simp[bn]
    have:=(hxt.2 x0 hx0).2 hxn.symm;cases x0 with
    |full m=>have:=this.1;omega
    |room r=>
     obtain⟨_,_,hrc,_⟩:=this;have:=(hI.room 0 r hx0).2.1;rw[hrc]at this;exact this
   refine(Aq (some ⟨xb,xo,none⟩) i xc yc ⟨yb,yo,none⟩ w w1 v hnc hcap (fun h=>by cases h) (fun ty=>hrun)).mono fun e w1 h=>?_;obtain⟨rfl,rfl⟩:=h;exact⟨v,G1,rfl,hR1,hI1,hS1,hbx1⟩
 have hlt:i<n:=by omega
 cases hx with
 |listN=>omega
 |list _ _ _ xb xo xc us hnc hxl hxc hxr hx1 hxt hxp hxx=>
 obtain⟨x0,hx0⟩:=hI.live 0 (by simp[bn]);have hcnt:=(hI.cnt 0 x0 hx0).2;have hxn:x0.cnt=n:=by rw[<-hcnt];simp[bn]
 have h4:=(hxt.2 x0 hx0).2 hxn.symm;cases x0 with
 |full m=>have:=hI.ful 0 m hx0;simp only[mi.cnt]at hxn;omega
 |room r=>
 obtain⟨rfl,rfl,hrc,hre,hrl⟩:=h4;obtain⟨hsh,hcm,hmc,hsz,hno,hxr⟩:=hI.room 0 r hx0;have hpv:G.pv r.b=some 0:=(hI.priv 0 r hx0).1 (aE _);have hul:us.length=n*3:=by rw[<-hxl,hc]
 have hus:∀ (j:Nat) (u:Value),us[j]? =some u->w.cell? ⟨r.b,j,none⟩=some u:=fun j u hj=>by have:=hI.com _ _ _ (hxc j u hj);rwa [aq]at this
 have hszr:r.sz=3:=by
  have:fK Tryz.prog 72=some 3:=by unfold fK;rw[hq];simp[hs]
  rw[hre,this]at hsz;exact(Option.some.inj hsz).symm
 obtain⟨cur,hcur,hcs⟩:=hI.sh _ _ _ hsh;rw[hrc,hszr]at hcs;rw[hre]at hcur;have hvb:yb≠r.b:=by
  rintro rfl;have:=hyp 0 hvne hpv;cases this
 have hxcap:xc<=9223372036854775807:=by rw[hrc]at hcm;exact hcm
 have hyw:yb<w.heap.size:=block_lt_of_cell (hnews' 0 _ (ax (by omega)));have hlen1:(us.drop (i*3)).length=n*3-i*3:=by rw[aU,hul]
 have hx0l:cur.toList.length=xc*3:=by simpa using hcs
 have htk:cur.toList.take (n*3)=us:=by
  apply fR;intro j;by_cases hj:j<n*3
  ·have:=hus j us[j] (ax (by omega));simp only[World.cell?,hcur,gP,bG,if_false]at this;rw[cY hj,gE,this,ax (by omega)]
  ·rw[bB (by rw[aG];omega),bB (by omega)]
 by_cases hroom:n+1<=xc
 ·
  have hsp:∀ j,j<n*3+3->(w.cell? ⟨r.b,j,none⟩).isSome=true:=fun j hj=>by
   simp only[World.cell?,hcur,gP,bG,if_false];rw[gB (by omega)];rfl
  have hfz:∀ j,w.frozen? ⟨r.b,j,none⟩=false:=fun j=>by simp[World.frozen?,hcur]
  have hsrc:Src Tryz.prog i0.size 29 (.slice (some ⟨yb,yo,none⟩) 1 yc) 1 vs w:=Src.ofSlice w r7 ⟨yb,yo,none⟩ 1 yc vs (by rw[hvl,hs]) hnews hy1;have hr2:=run_append_room_src w 29 29 29 72 i0 r7 hq r.b 0 n xc _ 1 vs hsrc hroom (fun j hj=>by rw[hs];exact hsp _ (by omega)) (fun j _=>hfz _);rw[hrun]at hr2;obtain⟨rfl,rfl⟩:=Result.ok.inj hr2;rw[hs,aq]at hI1 hS1;have hcur':w.heap[r.b]? =some (.cells cur.toList.toArray 72 (0,0)):=by simpa using hcur
  have hw1:=fh r.b vs (n*3) w cur.toList hcur' (by omega);rw[htk,hvl]at hw1;rw[hw1]at hI1 hS1;have hrow:=setRow_heap w r.b _ (us++vs++cur.toList.drop (n*3+3)).toArray 72 (0,0) hcur;obtain⟨k,hk⟩:∃ k,xc*3=k+1:=⟨xc*3-1,by omega⟩;have hov:∀ o lb cb,(callFunc 174 #[.slice (some ⟨yb,yo,none⟩) 1 yc,.slice (some ⟨r.b,o,none⟩) lb cb]).run Tryz.prog w= .ok (.value (.bool false)) w:=fun o lb cb=>by
   obtain⟨ra,ta,fa,ha,ha0⟩:=Df (hnews' 0 _ (ax (by omega)));rw[run_callFunc_extern Tryz.func174 (by kernel_rfl) (by kernel_rfl) (by kernel_rfl) (e:=Extern.SlicesOverlaps.overlaps #[29,29] #[4]) (by kernel_rfl),
    sP w 29 4 72 r7 3 Bk ⟨yb,yo,none⟩ ⟨r.b,o,none⟩ 1 yc lb cb hvb ha hcur (fun h=>by
     rw[Array.getElem?_eq_none (by omega)]at ha0;cases ha0) (by omega)]
   rfl
  refine(J2 r.b n xc i yb yo yc us vs w hlt hroom hxcap hvb hul hvl hus hsp hfz hnews' hx1 hy1 hov).mono fun e w2 h=>?_;obtain⟨rfl,rfl⟩:=h;have hy2:=fh r.b (us.drop (i*3)) (i*3+3) w.drew cur.toList hcur' (by omega);have hrow2:=setRow_heap w.drew r.b _ (cur.toList.take (i*3+3)++us.drop (i*3)++cur.toList.drop (i*3+3+(us.drop (i*3)).length)).toArray 72 (0,0) hcur;have hl2:(cur.toList.take (i*3+3)++us.drop (i*3)++cur.toList.drop (i*3+3+(us.drop (i*3)).length)).length=xc*3:=by
   simp only[af,aG,aU,hul,hx0l];omega
  have hy3:=fh r.b vs (i*3) _ _ hrow2 (by rw[hl2];omega);have hfin:(cur.toList.take (i*3+3)++us.drop (i*3)++cur.toList.drop (i*3+3+(us.drop (i*3)).length)).take (i*3)++vs++(cur.toList.take (i*3+3)++us.drop (i*3)++cur.toList.drop (i*3+3+(us.drop (i*3)).length)).drop (i*3+vs.length)=us.take (i*3)++vs++us.drop (i*3)++cur.toList.drop (n*3+3):=by
   have ha:(cur.toList.take (i*3+3)).length=i*3+3:=by rw[aG];omega
   rw[hvl,hlen1,show i*3+3+(n*3-i*3)=n*3+3 by omega,bl (cur.toList.take (i*3+3)),gJ (by omega),nR,fB (by omega),List.drop_left' ha,<-htk,nR,fB (by omega)];simp only[bl]
  rw[hfin]at hy3;obtain⟨G2,hR2,hI2,hS2,hbx2⟩:=w5 (w2:=(w.drew.setCells r.b (i*3+3) (us.drop (i*3))).setCells r.b (i*3) vs) (us:=us) (vs:=vs) (rest:=cur.toList.drop (n*3+3)) hR1 hI1 hc hd hul hvl hi hrow ht1 ht2 hn1 hn2 (by
   rw[hy2,hy3,il,il];rfl) (by rw[hy2,hy3];exact⟨rfl,rfl⟩)
  exact⟨_,G2,rfl,hR2,hI2,hS1.trans hS2,hbx2.trans hbx1⟩
 ·
  obtain⟨i0',z,hi',hzz,hRz,_⟩:=mj (P:=Tryz.prog) (G:=G) K0;rw[hq]at hi';cases hi';have hzc:z.cells.size=3:=by have:=hRz.1;simpa using this.symm
  have hsrc:Src Tryz.prog i0.size 29 (.slice (some ⟨yb,yo,none⟩) 1 yc) 1 vs w:=Src.ofSlice w r7 ⟨yb,yo,none⟩ 1 yc vs (by rw[hvl,hs]) hnews hy1;have hold:(Builtin.firstCells i0.size n (.slice (some ⟨r.b,0,none⟩) n xc)).run Tryz.prog w.drew= .ok us.toArray w.drew:=
   run_firstCells_some w.drew i0.size n ⟨r.b,0,none⟩ n xc us (by rw[hul,hs]) (fun j v hj=>by rw[Addr.add_lit,aq];exact hus j v hj)
  have hr2:=run_append_grow_src w 29 29 29 72 i0 z r7 hq hzz (some ⟨r.b,0,none⟩) n xc us hold _ 1 vs hsrc (by omega) (by omega) (by rw[hb];exact growslice_fits (by omega) (by omega));rw[hrun]at hr2;obtain⟨rfl,rfl⟩:=Result.ok.inj hr2;have hrow:(w.drew.alloc (.cells ((us++vs).toArray++Builtin.zeroCells z.cells (grownCap w (n+1) xc 72- (n+1))) 72)).heap[w.heap.size]? =some (.cells (us++vs++(Builtin.zeroCells z.cells (grownCap w (n+1) xc 72- (n+1))).toList).toArray 72 (0,0)):=by
   refine(tx w.drew ((us++vs).toArray++Builtin.zeroCells z.cells (grownCap w (n+1) xc 72- (n+1))) 72).trans ?_;generalize Builtin.zeroCells z.cells (grownCap w (n+1) xc 72- (n+1))=Z;refine bq (fun q=>some (Obj.cells q 72 (0,0))) ?_;apply Array.ext';simp
  refine(J5 r.b n xc i yb yo yc us vs [] w hlt hnc (by omega) hn hyw hul hvl hus hnews' hx1 hy1 hq hzz hs hb hzc).mono fun e w2 h=>?_;obtain⟨rfl,rfl⟩:=h;generalize grownCap w (n+1) xc 72=cap at*;generalize hZ1:Builtin.zeroCells z.cells (n+1-i)=Z1;have hZl:Z1.toList.length=n*3+3-i*3:=by rw[<-hZ1];simp only[ep,size_zeroCells,hzc];omega
  generalize Builtin.zeroCells z.cells (cap- (n+1))=Z2 at hrow hR1 hI1 hS1 ⊢;have htl:(us.take (i*3)).length=i*3:=by rw[aG];omega
  have hA:=tx w.drew ((us.take (i*3)).toArray++Z1++Z2) 72;have hA1:((us.take (i*3)).toArray++Z1++Z2)=(us.take (i*3)++Z1.toList++Z2.toList).toArray:=by apply Array.ext';simp
  rw[hA1]at hA;have hy2:=fh w.heap.size vs (i*3) (w.drew.alloc (.cells (us.take (i*3)++Z1.toList++Z2.toList).toArray 72 (0,0))) _ hA (by simp only[af];omega);have hrow2:=setRow_heap (w.drew.alloc (.cells (us.take (i*3)++Z1.toList++Z2.toList).toArray 72 (0,0))) w.heap.size _ ((us.take (i*3)++Z1.toList++Z2.toList).take (i*3)++vs++(us.take (i*3)++Z1.toList++Z2.toList).drop (i*3+vs.length)).toArray 72 (0,0) hA;have hfirst:(us.take (i*3)++Z1.toList++Z2.toList).take (i*3)++vs++(us.take (i*3)++Z1.toList++Z2.toList).drop (i*3+vs.length)=us.take (i*3)++vs++(Z1.toList.drop 3++Z2.toList):=by
   rw[hvl,bl (us.take (i*3))];have h1:(us.take (i*3)++(Z1.toList++Z2.toList)).take (i*3)=us.take (i*3):=by
    have:=gZ (l₁:=us.take (i*3)) (l₂:=Z1.toList++Z2.toList);rwa [htl]at this
   rw[h1];refine bq (us.take (i*3)++vs++ ·) ?_;rw[<-fU];have h2:(us.take (i*3)++(Z1.toList++Z2.toList)).drop (i*3)=Z1.toList++Z2.toList:=by
    have:=fe (l₁:=us.take (i*3)) (l₂:=Z1.toList++Z2.toList);rwa [htl]at this
   rw[h2,iZ (by omega)]
  rw[hfirst]at hy2 hrow2;have hy3:=fh w.heap.size (us.drop (i*3)) (i*3+3) ((w.drew.alloc (.cells (us.take (i*3)++Z1.toList++Z2.toList).toArray 72 (0,0))).setRow w.heap.size (us.take (i*3)++vs++(Z1.toList.drop 3++Z2.toList)).toArray) _ hrow2 (by simp only[af,aU];omega);have hfin:(us.take (i*3)++vs++(Z1.toList.drop 3++Z2.toList)).take (i*3+3)++us.drop (i*3)++(us.take (i*3)++vs++(Z1.toList.drop 3++Z2.toList)).drop (i*3+3+(us.drop (i*3)).length)=us.take (i*3)++vs++us.drop (i*3)++Z2.toList:=by
   have h0:(us.take (i*3)++vs).length=i*3+3:=by rw[af,htl,hvl]
   have h1:(us.take (i*3)++vs++(Z1.toList.drop 3++Z2.toList)).take (i*3+3)=us.take (i*3)++vs:=by
    have:=gZ (l₁:=us.take (i*3)++vs) (l₂:=Z1.toList.drop 3++Z2.toList);rwa [h0]at this
   have h2:(us.take (i*3)++vs++(Z1.toList.drop 3++Z2.toList)).drop (i*3+3)=Z1.toList.drop 3++Z2.toList:=by
    have:=fe (l₁:=us.take (i*3)++vs) (l₂:=Z1.toList.drop 3++Z2.toList);rwa [h0]at this
   rw[h1,<-fU,h2,hlen1,show n*3-i*3=(Z1.toList.drop 3).length by rw[aU,hZl];omega,fe]
  rw[hfin]at hy3;obtain⟨G2,hR2,hI2,hS2,hbx2⟩:=w5 (us:=us) (vs:=vs) (rest:=Z2.toList) (w2:=(((w.alloc (.cells ((us.take (i*3)).toArray++Z1++Z2) 72)).drew.setCells w.heap.size (i*3) vs).drew).setCells w.heap.size (i*3+3) (us.drop (i*3))) hR1 hI1 hc hd hul hvl hi hrow ht1 ht2 hn1 hn2 (by
   rw[hA1];have q1:((w.alloc (.cells (us.take (i*3)++Z1.toList++Z2.toList).toArray 72)).drew.setCells w.heap.size (i*3) vs).drew.setCells w.heap.size (i*3+3) (us.drop (i*3))=(((w.drew.alloc (.cells (us.take (i*3)++Z1.toList++Z2.toList).toArray 72 (0,0))).setCells w.heap.size (i*3) vs).setCells w.heap.size (i*3+3) (us.drop (i*3))).drew:=by
    have dc:∀ (b:Nat) (vs:List Value) (o:Nat) (w:World),(w.drew).setCells b o vs=(w.setCells b o vs).drew:=fun b vs=>by
     induction vs with
     |nil=>intro o w;rfl
     |cons v vs ih=>intro o w;rw[World.setCells,World.setCells,<-ih];rfl
    rw[dc];rfl
   rw[q1,hy2,hy3,il];show((w.drew.alloc _).setRow w.drew.heap.size _).heap=((w.drew.alloc _).setRow w.drew.heap.size _).heap;rw[pV,pV]) (by
   obtain⟨a1,a2⟩:=iH w.heap.size (us.drop (i*3)) (i*3+3) ((w.alloc (.cells ((us.take (i*3)).toArray++Z1++Z2) 72)).drew.setCells w.heap.size (i*3) vs).drew;obtain⟨b1,b2⟩:=iH w.heap.size vs (i*3) (w.alloc (.cells ((us.take (i*3)).toArray++Z1++Z2) 72)).drew;exact⟨a1.trans b1,a2.trans b2⟩)
  exact⟨_,G2,rfl,hR2,hI2,hS1.trans hS2,hbx2.trans hbx1⟩
def LX{G:Gh}{w:World}{n i:Nat}{ns:List Nat}{cs:List PV}{x:Value}(hI:bz Tryz.prog B G (bn (n::ns) []) w)(hx:R G (.list n cs (.own 0 72)) x)
  (hc:cs.length=n*3) (hi:i<n) (hn1:aI cs=true) (ht1:dw ([0].contains ·) cs=true):
  Calls Tryz.prog 160 #[x,.int .i64 (i:Int),.int .i64 ((i:Int)+1)] w fun e w'=>∃ v G',e= .returned v/\R G' (.list (n-1) (cs.take (i*3)++cs.drop ((i+1) *3)) (.own 0 72)) v/\bz Tryz.prog B G' (bn ((n-1)::ns) []) w'/\cu G w G' w'/\G'.bx=G.bx:=by
 have hi72:=Bk;obtain⟨i0,z,hq,hzz,hRz,hzn⟩:=mj (P:=Tryz.prog) (G:=G) K0;rw[hq]at hi72;have hs:i0.size=3:=Option.some.inj hi72;have hzl:z.cells.size=3:=by have:=hRz.1;simpa using this.symm
 generalize hzc:z.cells.toList=zs at*;have hR0:=hx;cases hx with
 |listN=>omega
 |list _ _ _ xb xo xc us hnc hxl hxc hxr hx1 hxt hxp hxx=>
 obtain⟨x0,hx0⟩:=hI.live 0 (by simp[bn]);have hcnt:=(hI.cnt 0 x0 hx0).2;have hxn:x0.cnt=n:=by rw[<-hcnt];simp[bn]
 have h4:=(hxt.2 x0 hx0).2 hxn.symm;cases x0 with
 |full m=>have:=hI.ful 0 m hx0;simp only[mi.cnt]at hxn;omega
 |room r=>
 obtain⟨rfl,rfl,hrc,hre,hrl⟩:=h4;obtain⟨hsh,hcm,hmc,hsz,hno,hxr⟩:=hI.room 0 r hx0;have hul:us.length=n*3:=by rw[<-hxl,hc]
 have hus:∀ (j:Nat) (u:Value),us[j]? =some u->w.cell? ⟨r.b,j,none⟩=some u:=fun j u hj=>by have:=hI.com _ _ _ (hxc j u hj);rwa [aq]at this
 have hszr:r.sz=3:=by
  have:fK Tryz.prog 72=some 3:=by unfold fK;rw[hq];simp[hs]
  rw[hre,this]at hsz;exact(Option.some.inj hsz).symm
 obtain⟨cur,hcur,hcs⟩:=hI.sh _ _ _ hsh;rw[hrc,hszr]at hcs;rw[hre]at hcur;have hxcap:xc<=9223372036854775807:=by rw[hrc]at hcm;exact hcm
 have hx0l:cur.toList.length=xc*3:=by simpa using hcs
 have htk:cur.toList.take (n*3)=us:=by
  apply fR;intro j;by_cases hj:j<n*3
  ·have:=hus j us[j] (ax (by omega));simp only[World.cell?,hcur,gP,bG,if_false]at this;rw[cY hj,gE,this,ax (by omega)]
  ·rw[bB (by rw[aG];omega),bB (by omega)]
 have hcl:cur.toList=us++cur.toList.drop (n*3):=by rw[<-htk,dn]
 generalize cur.toList.drop (n*3)=rest at hcl;have hcur':w.drew.heap[r.b]? =some (.cells (us++rest).toArray 72 (0,0)):=by
  show w.heap[r.b]? =_;rw[<-hcl];simpa using hcur
 refine(Iu r.b n xc i us zs w hi hnc hxcap hul hus (fun j=>by simp[World.frozen?,hcur]) hx1 hq hzz hs hzl hzc hRz.2.2).mono fun e w' h=>?_;obtain⟨rfl,rfl⟩:=h;have hvz:zs.length=3:=by rw[<-hzc];simpa using hzl
 have hul1:(us++rest).length=n*3+rest.length:=by rw[af,hul]
 have hdl:(us.drop ((i+1) *3)).length=n*3- (i*3+3):=by rw[aU,hul];omega
 have hw1:=fh r.b (us.drop ((i+1) *3)) (i*3) w.drew _ hcur' (by rw[hdl,hul1];omega);have hrow1:=setRow_heap w.drew r.b _ ((us++rest).take (i*3)++us.drop ((i+1) *3)++(us++rest).drop (i*3+(us.drop ((i+1) *3)).length)).toArray 72 (0,0) hcur';have hl1:((us++rest).take (i*3)++us.drop ((i+1) *3)++(us++rest).drop (i*3+(us.drop ((i+1) *3)).length)).length=n*3+rest.length:=by
  simp only[af,aG,aU,hul];omega
 have hw2:=fh r.b zs ((n-1) *3) _ _ hrow1 (by rw[hl1,hvz];omega);have hfin:((us++rest).take (i*3)++us.drop ((i+1) *3)++(us++rest).drop (i*3+(us.drop ((i+1) *3)).length)).take ((n-1) *3)++zs++((us++rest).take (i*3)++us.drop ((i+1) *3)++(us++rest).drop (i*3+(us.drop ((i+1) *3)).length)).drop ((n-1) *3+zs.length)=us.take (i*3)++us.drop ((i+1) *3)++zs++rest:=by
  have h0:(us++rest).take (i*3)=us.take (i*3):=gJ (by omega);have h1:(us.take (i*3)++us.drop ((i+1) *3)).length=(n-1) *3:=by rw[af,hdl,aG,hul];omega
  rw[h0,<-h1,gZ,<-fU,fe,fU,hvz,hdl,show i*3+(n*3- (i*3+3))+3=us.length by omega,fe]
 rw[hfin]at hw2;exact⟨_,(Ff (zs:=_) (w2:=(w.drew.setCells r.b (i*3) (us.drop ((i+1) *3))).setCells r.b ((n-1) *3) zs) hR0 (hI.drawn (w':=w.drew) rfl) hRz hzn rfl hc rfl hul hi hcur' ht1 hn1 (by rw[hw1,hw2,il]) (by
   obtain⟨a1,a2⟩:=iH r.b zs ((n-1) *3) (w.drew.setCells r.b (i*3) (us.drop ((i+1) *3)));obtain⟨b1,b2⟩:=iH r.b (us.drop ((i+1) *3)) (i*3) w.drew;exact⟨a1.trans b1,a2.trans b2⟩)).elim fun G2 h=>⟨G2,rfl,h.1,h.2.1,cu.drew.trans h.2.2.1,h.2.2.2⟩⟩
def K1:gb Tryz.prog 68=some [.int .i64 0,.str ⟨#[]⟩,.int .i64 0,.int .i64 0,.list 0 [] .nil]:=by kernel_rfl
def OG:(Tryz.prog.info? 68).map (·.bytes)=some 64:=by kernel_rfl
def J4{G:Gh}{w:World}{ds:List PV}{ns:List Nat}{e':Nat}{x y:Value}(hI:bz Tryz.prog B G (bn ns []) w)(hx:R G (.list 0 [] .nil) x)(hy:R G (.list 1 ds (.full e')) y)(hd:ds.length=5):xm (B:=B) 189 G w x y 0 (.list 1 ds (.own ns.length 68)) (ns++[1]):=by
 have h0:=r6;have hi68:=Bl;have hb68:=OG;cases hq:Tryz.prog.info? 68 with
 |none=>rw[hq]at hi68;cases hi68
 |some i0=>
 rw[hq]at hi68 hb68;have hs:i0.size=5:=Option.some.inj hi68;have hb:i0.bytes=64:=Option.some.inj hb68;obtain⟨v,w',G',hrun,hR,hI',_,hS,hbx⟩:=rR (ty:=30) (t:=30) (e:=68) (i:=i0) (n:=0) (m:=1) (cs:=[]) (ds:=ds) hI r6 hq K1 (by rw[hs];rfl) hx hy (by rfl) trivial (by simp) (by rw[hd,hs]) (by rw[hb];decide) (by decide) (by omega) (fun _ h=>by cases h);cases hx with
 |list _ _ _ _ _ _ _ _ _ _ _ _ ht=>exact absurd ht (by simp[tQ])
 |listN=>
 cases hy with
 |list _ _ _ yb yo yc vs hm hl hc hr h1 ht hp hx'=>
 refine(yl none 0 0 yc ⟨yb,yo,none⟩ w w' v (aE _) (by omega) (fun _=>rfl) (fun ty=>hrun)).mono fun e w1 h=>?_;obtain⟨rfl,rfl⟩:=h;refine⟨v,G',rfl,?_,?_,hS,hbx⟩
 ·have e:gk (bn ns []) .nil=ns.length:=rfl;rw[e]at hR;simpa using hR
 ·have e:jv (bn ns []) (0+1) .nil=bn (ns++[1]) []:=EA ns 1;rw[e]at hI';exact hI'
def J3{G:Gh}{w:World}{n i:Nat}{ns:List Nat}{cs ds:List PV}{e':Nat}{x y:Value}(hI:bz Tryz.prog B G (bn (n::ns) []) w)(hx:R G (.list n cs (.own 0 68)) x)(hy:R G (.list 1 ds (.full e')) y)
  (hc:cs.length=n*5) (hd:ds.length=5) (hi:i<=n) (hn:n<=10000000) (hn1:aI cs=true) (hn2:aI ds=true) (ht1:dw ([0].contains ·) cs=true) (ht2:dw ([0].contains ·) ds=true):
  xm (B:=B) 189 G w x y i (.list (n+1) (cs.take (i*5)++ds++cs.drop (i*5)) (.own 0 68)) ((n+1)::ns):=by
 have hi68:=Bl;have hb68:=OG;cases hq:Tryz.prog.info? 68 with
 |none=>rw[hq]at hi68;cases hi68
 |some i0=>
 rw[hq]at hi68 hb68;have hs:i0.size=5:=Option.some.inj hi68;have hb:i0.bytes=64:=Option.some.inj hb68;have hcan:hH (bn (n::ns) []) n (.own 0 68)=true:=by simp[hH,bn]
 have hbb:dB=140737488355328:=rfl;obtain⟨v,w1,G1,hrun,hR1,hI1,_,hS1,hbx1⟩:=rR (ty:=30) (t:=30) (e:=68) (i:=i0) (n:=n) (m:=1) (cs:=cs) (ds:=ds) hI r6 hq K1 (by rw[hs];rfl) hx hy hcan rfl (by rw[hs,hc]) (by rw[hd,hs]) (by rw[hb,hbb];omega) (by rw[hbb];omega) (by omega) (fun _ h=>by cases h);have e1:gk (bn (n::ns) []) (.own 0 68)=0:=rfl;have e2:jv (bn (n::ns) []) (n+1) (.own 0 68)=bn ((n+1)::ns) []:=vL n (n+1) ns;rw[e1]at hR1;rw[e2]at hI1;cases hy with
 |list _ _ _ yb yo yc vs hm hyl hyc hyr hy1 hyt hyp hyx=>
 have hvl:vs.length=5:=by rw[<-hyl,hd]
 have hnews:∀ (j:Nat) (u:Value),vs[j]? =some u->w.cell? ((⟨yb,yo,none⟩:Addr).add j)=some u:=fun j u hj=>by rw[Addr.add_lit];exact hI.com _ _ _ (hyc j u hj)
 have hnews':∀ (j:Nat) (u:Value),vs[j]? =some u->w.cell? ⟨yb,yo+j,none⟩=some u:=fun j u hj=>hI.com _ _ _ (hyc j u hj);have hvne:vs≠ []:=by rintro rfl;simp at hvl
 by_cases hin:i=n
 ·subst hin;have h1:cs.take (i*5)=cs:=bA (by omega);have h2:cs.drop (i*5)=[]:=fG (by omega);rw[h1,h2,aD];cases hx with
  |listN=>
   refine(yl none 0 0 yc ⟨yb,yo,none⟩ w w1 v (aE _) (by omega) (fun _=>rfl) (fun ty=>hrun)).mono fun e w1 h=>?_;obtain⟨rfl,rfl⟩:=h;exact⟨v,G1,rfl,hR1,hI1,hS1,hbx1⟩
  |list _ _ _ xb xo xc us hnc hxl hxc hxr hx1 hxt hxp hxx=>
   obtain⟨x0,hx0⟩:=hI.live 0 (by simp[bn]);have hcnt:=(hI.cnt 0 x0 hx0).2;have hcap:xc<=9223372036854775807:=by
    have hxn:x0.cnt=i:=by rw[<-hcnt];simp[bn]
    have:=(hxt.2 x0 hx0).2 hxn.symm;cases x0 with
    |full m=>have:=this.1;omega
    |room r=>
     obtain⟨_,_,hrc,_⟩:=this;have:=(hI.room 0 r hx0).2.1;rw[hrc]at this;exact this
   refine(yl (some ⟨xb,xo,none⟩) i xc yc ⟨yb,yo,none⟩ w w1 v hnc hcap (fun h=>by cases h) (fun ty=>hrun)).mono fun e w1 h=>?_;obtain⟨rfl,rfl⟩:=h;exact⟨v,G1,rfl,hR1,hI1,hS1,hbx1⟩
 have hlt:i<n:=by omega
 cases hx with
 |listN=>omega
 |list _ _ _ xb xo xc us hnc hxl hxc hxr hx1 hxt hxp hxx=>
 obtain⟨x0,hx0⟩:=hI.live 0 (by simp[bn]);have hcnt:=(hI.cnt 0 x0 hx0).2;have hxn:x0.cnt=n:=by rw[<-hcnt];simp[bn]
 have h4:=(hxt.2 x0 hx0).2 hxn.symm;cases x0 with
 |full m=>have:=hI.ful 0 m hx0;simp only[mi.cnt]at hxn;omega
 |room r=>
 obtain⟨rfl,rfl,hrc,hre,hrl⟩:=h4;obtain⟨hsh,hcm,hmc,hsz,hno,hxr⟩:=hI.room 0 r hx0;have hpv:G.pv r.b=some 0:=(hI.priv 0 r hx0).1 (aE _);have hul:us.length=n*5:=by rw[<-hxl,hc]
 have hus:∀ (j:Nat) (u:Value),us[j]? =some u->w.cell? ⟨r.b,j,none⟩=some u:=fun j u hj=>by have:=hI.com _ _ _ (hxc j u hj);rwa [aq]at this
 have hszr:r.sz=5:=by
  have:fK Tryz.prog 68=some 5:=by unfold fK;rw[hq];simp[hs]
  rw[hre,this]at hsz;exact(Option.some.inj hsz).symm
 obtain⟨cur,hcur,hcs⟩:=hI.sh _ _ _ hsh;rw[hrc,hszr]at hcs;rw[hre]at hcur;have hvb:yb≠r.b:=by
  rintro rfl;have:=hyp 0 hvne hpv;cases this
 have hxcap:xc<=9223372036854775807:=by rw[hrc]at hcm;exact hcm
 have hyw:yb<w.heap.size:=block_lt_of_cell (hnews' 0 _ (ax (by omega)));have hlen1:(us.drop (i*5)).length=n*5-i*5:=by rw[aU,hul]
 have hx0l:cur.toList.length=xc*5:=by simpa using hcs
 have htk:cur.toList.take (n*5)=us:=by
  apply fR;intro j;by_cases hj:j<n*5
  ·have:=hus j us[j] (ax (by omega));simp only[World.cell?,hcur,gP,bG,if_false]at this;rw[cY hj,gE,this,ax (by omega)]
  ·rw[bB (by rw[aG];omega),bB (by omega)]
 by_cases hroom:n+1<=xc
 ·
  have hsp:∀ j,j<n*5+5->(w.cell? ⟨r.b,j,none⟩).isSome=true:=fun j hj=>by
   simp only[World.cell?,hcur,gP,bG,if_false];rw[gB (by omega)];rfl
  have hfz:∀ j,w.frozen? ⟨r.b,j,none⟩=false:=fun j=>by simp[World.frozen?,hcur]
  have hsrc:Src Tryz.prog i0.size 30 (.slice (some ⟨yb,yo,none⟩) 1 yc) 1 vs w:=Src.ofSlice w r6 ⟨yb,yo,none⟩ 1 yc vs (by rw[hvl,hs]) hnews hy1;have hr2:=run_append_room_src w 30 30 30 68 i0 r6 hq r.b 0 n xc _ 1 vs hsrc hroom (fun j hj=>by rw[hs];exact hsp _ (by omega)) (fun j _=>hfz _);rw[hrun]at hr2;obtain⟨rfl,rfl⟩:=Result.ok.inj hr2;rw[hs,aq]at hI1 hS1;have hcur':w.heap[r.b]? =some (.cells cur.toList.toArray 68 (0,0)):=by simpa using hcur
  have hw1:=fh r.b vs (n*5) w cur.toList hcur' (by omega);rw[htk,hvl]at hw1;rw[hw1]at hI1 hS1;have hrow:=setRow_heap w r.b _ (us++vs++cur.toList.drop (n*5+5)).toArray 68 (0,0) hcur;obtain⟨k,hk⟩:∃ k,xc*5=k+1:=⟨xc*5-1,by omega⟩;have hov:∀ o lb cb,(callFunc 202 #[.slice (some ⟨yb,yo,none⟩) 1 yc,.slice (some ⟨r.b,o,none⟩) lb cb]).run Tryz.prog w= .ok (.value (.bool false)) w:=fun o lb cb=>by
   obtain⟨ra,ta,fa,ha,ha0⟩:=Df (hnews' 0 _ (ax (by omega)));rw[run_callFunc_extern Tryz.func202 (by kernel_rfl) (by kernel_rfl) (by kernel_rfl) (e:=Extern.SlicesOverlaps.overlaps #[30,30] #[4]) (by kernel_rfl),
    sP w 30 4 68 r6 5 Bl ⟨yb,yo,none⟩ ⟨r.b,o,none⟩ 1 yc lb cb hvb ha hcur (fun h=>by
     rw[Array.getElem?_eq_none (by omega)]at ha0;cases ha0) (by omega)]
   rfl
  refine(H9 r.b n xc i yb yo yc us vs w hlt hroom hxcap hvb hul hvl hus hsp hfz hnews' hx1 hy1 hov).mono fun e w2 h=>?_;obtain⟨rfl,rfl⟩:=h;have hy2:=fh r.b (us.drop (i*5)) (i*5+5) w.drew cur.toList hcur' (by omega);have hrow2:=setRow_heap w.drew r.b _ (cur.toList.take (i*5+5)++us.drop (i*5)++cur.toList.drop (i*5+5+(us.drop (i*5)).length)).toArray 68 (0,0) hcur;have hl2:(cur.toList.take (i*5+5)++us.drop (i*5)++cur.toList.drop (i*5+5+(us.drop (i*5)).length)).length=xc*5:=by
   simp only[af,aG,aU,hul,hx0l];omega
  have hy3:=fh r.b vs (i*5) _ _ hrow2 (by rw[hl2];omega);have hfin:(cur.toList.take (i*5+5)++us.drop (i*5)++cur.toList.drop (i*5+5+(us.drop (i*5)).length)).take (i*5)++vs++(cur.toList.take (i*5+5)++us.drop (i*5)++cur.toList.drop (i*5+5+(us.drop (i*5)).length)).drop (i*5+vs.length)=us.take (i*5)++vs++us.drop (i*5)++cur.toList.drop (n*5+5):=by
   have ha:(cur.toList.take (i*5+5)).length=i*5+5:=by rw[aG];omega
   rw[hvl,hlen1,show i*5+5+(n*5-i*5)=n*5+5 by omega,bl (cur.toList.take (i*5+5)),gJ (by omega),nR,fB (by omega),List.drop_left' ha,<-htk,nR,fB (by omega)];simp only[bl]
  rw[hfin]at hy3;obtain⟨G2,hR2,hI2,hS2,hbx2⟩:=w5 (w2:=(w.drew.setCells r.b (i*5+5) (us.drop (i*5))).setCells r.b (i*5) vs) (us:=us) (vs:=vs) (rest:=cur.toList.drop (n*5+5)) hR1 hI1 hc hd hul hvl hi hrow ht1 ht2 hn1 hn2 (by
   rw[hy2,hy3,il,il];rfl) (by rw[hy2,hy3];exact⟨rfl,rfl⟩)
  exact⟨_,G2,rfl,hR2,hI2,hS1.trans hS2,hbx2.trans hbx1⟩
 ·
  obtain⟨i0',z,hi',hzz,hRz,_⟩:=mj (P:=Tryz.prog) (G:=G) K1;rw[hq]at hi';cases hi';have hzc:z.cells.size=5:=by have:=hRz.1;simpa using this.symm
  have hsrc:Src Tryz.prog i0.size 30 (.slice (some ⟨yb,yo,none⟩) 1 yc) 1 vs w:=Src.ofSlice w r6 ⟨yb,yo,none⟩ 1 yc vs (by rw[hvl,hs]) hnews hy1;have hold:(Builtin.firstCells i0.size n (.slice (some ⟨r.b,0,none⟩) n xc)).run Tryz.prog w.drew= .ok us.toArray w.drew:=
   run_firstCells_some w.drew i0.size n ⟨r.b,0,none⟩ n xc us (by rw[hul,hs]) (fun j v hj=>by rw[Addr.add_lit,aq];exact hus j v hj)
  have hr2:=run_append_grow_src w 30 30 30 68 i0 z r6 hq hzz (some ⟨r.b,0,none⟩) n xc us hold _ 1 vs hsrc (by omega) (by omega) (by rw[hb];exact growslice_fits (by omega) (by omega));rw[hrun]at hr2;obtain⟨rfl,rfl⟩:=Result.ok.inj hr2;have hrow:(w.drew.alloc (.cells ((us++vs).toArray++Builtin.zeroCells z.cells (grownCap w (n+1) xc 68- (n+1))) 68)).heap[w.heap.size]? =some (.cells (us++vs++(Builtin.zeroCells z.cells (grownCap w (n+1) xc 68- (n+1))).toList).toArray 68 (0,0)):=by
   refine(tx w.drew ((us++vs).toArray++Builtin.zeroCells z.cells (grownCap w (n+1) xc 68- (n+1))) 68).trans ?_;generalize Builtin.zeroCells z.cells (grownCap w (n+1) xc 68- (n+1))=Z;refine bq (fun q=>some (Obj.cells q 68 (0,0))) ?_;apply Array.ext';simp
  refine(Ib r.b n xc i yb yo yc us vs [] w hlt hnc (by omega) hn hyw hul hvl hus hnews' hx1 hy1 hq hzz hs hb hzc).mono fun e w2 h=>?_;obtain⟨rfl,rfl⟩:=h;generalize grownCap w (n+1) xc 68=cap at*;generalize hZ1:Builtin.zeroCells z.cells (n+1-i)=Z1;have hZl:Z1.toList.length=n*5+5-i*5:=by rw[<-hZ1];simp only[ep,size_zeroCells,hzc];omega
  generalize Builtin.zeroCells z.cells (cap- (n+1))=Z2 at hrow hR1 hI1 hS1 ⊢;have htl:(us.take (i*5)).length=i*5:=by rw[aG];omega
  have hA:=tx w.drew ((us.take (i*5)).toArray++Z1++Z2) 68;have hA1:((us.take (i*5)).toArray++Z1++Z2)=(us.take (i*5)++Z1.toList++Z2.toList).toArray:=by apply Array.ext';simp
  rw[hA1]at hA;have hy2:=fh w.heap.size vs (i*5) (w.drew.alloc (.cells (us.take (i*5)++Z1.toList++Z2.toList).toArray 68 (0,0))) _ hA (by simp only[af];omega);have hrow2:=setRow_heap (w.drew.alloc (.cells (us.take (i*5)++Z1.toList++Z2.toList).toArray 68 (0,0))) w.heap.size _ ((us.take (i*5)++Z1.toList++Z2.toList).take (i*5)++vs++(us.take (i*5)++Z1.toList++Z2.toList).drop (i*5+vs.length)).toArray 68 (0,0) hA;have hfirst:(us.take (i*5)++Z1.toList++Z2.toList).take (i*5)++vs++(us.take (i*5)++Z1.toList++Z2.toList).drop (i*5+vs.length)=us.take (i*5)++vs++(Z1.toList.drop 5++Z2.toList):=by
   rw[hvl,bl (us.take (i*5))];have h1:(us.take (i*5)++(Z1.toList++Z2.toList)).take (i*5)=us.take (i*5):=by
    have:=gZ (l₁:=us.take (i*5)) (l₂:=Z1.toList++Z2.toList);rwa [htl]at this
   rw[h1];refine bq (us.take (i*5)++vs++ ·) ?_;rw[<-fU];have h2:(us.take (i*5)++(Z1.toList++Z2.toList)).drop (i*5)=Z1.toList++Z2.toList:=by
    have:=fe (l₁:=us.take (i*5)) (l₂:=Z1.toList++Z2.toList);rwa [htl]at this
   rw[h2,iZ (by omega)]
  rw[hfirst]at hy2 hrow2;have hy3:=fh w.heap.size (us.drop (i*5)) (i*5+5) ((w.drew.alloc (.cells (us.take (i*5)++Z1.toList++Z2.toList).toArray 68 (0,0))).setRow w.heap.size (us.take (i*5)++vs++(Z1.toList.drop 5++Z2.toList)).toArray) _ hrow2 (by simp only[af,aU];omega);have hfin:(us.take (i*5)++vs++(Z1.toList.drop 5++Z2.toList)).take (i*5+5)++us.drop (i*5)++(us.take (i*5)++vs++(Z1.toList.drop 5++Z2.toList)).drop (i*5+5+(us.drop (i*5)).length)=us.take (i*5)++vs++us.drop (i*5)++Z2.toList:=by
   have h0:(us.take (i*5)++vs).length=i*5+5:=by rw[af,htl,hvl]
   have h1:(us.take (i*5)++vs++(Z1.toList.drop 5++Z2.toList)).take (i*5+5)=us.take (i*5)++vs:=by
    have:=gZ (l₁:=us.take (i*5)++vs) (l₂:=Z1.toList.drop 5++Z2.toList);rwa [h0]at this
   have h2:(us.take (i*5)++vs++(Z1.toList.drop 5++Z2.toList)).drop (i*5+5)=Z1.toList.drop 5++Z2.toList:=by
    have:=fe (l₁:=us.take (i*5)++vs) (l₂:=Z1.toList.drop 5++Z2.toList);rwa [h0]at this
   rw[h1,<-fU,h2,hlen1,show n*5-i*5=(Z1.toList.drop 5).length by rw[aU,hZl];omega,fe]
  rw[hfin]at hy3;obtain⟨G2,hR2,hI2,hS2,hbx2⟩:=w5 (us:=us) (vs:=vs) (rest:=Z2.toList) (w2:=(((w.alloc (.cells ((us.take (i*5)).toArray++Z1++Z2) 68)).drew.setCells w.heap.size (i*5) vs).drew).setCells w.heap.size (i*5+5) (us.drop (i*5))) hR1 hI1 hc hd hul hvl hi hrow ht1 ht2 hn1 hn2 (by
   rw[hA1];have q1:((w.alloc (.cells (us.take (i*5)++Z1.toList++Z2.toList).toArray 68)).drew.setCells w.heap.size (i*5) vs).drew.setCells w.heap.size (i*5+5) (us.drop (i*5))=(((w.drew.alloc (.cells (us.take (i*5)++Z1.toList++Z2.toList).toArray 68 (0,0))).setCells w.heap.size (i*5) vs).setCells w.heap.size (i*5+5) (us.drop (i*5))).drew:=by
    have dc:∀ (b:Nat) (vs:List Value) (o:Nat) (w:World),(w.drew).setCells b o vs=(w.setCells b o vs).drew:=fun b vs=>by
     induction vs with
     |nil=>intro o w;rfl
     |cons v vs ih=>intro o w;rw[World.setCells,World.setCells,<-ih];rfl
    rw[dc];rfl
   rw[q1,hy2,hy3,il];show((w.drew.alloc _).setRow w.drew.heap.size _).heap=((w.drew.alloc _).setRow w.drew.heap.size _).heap;rw[pV,pV]) (by
   obtain⟨a1,a2⟩:=iH w.heap.size (us.drop (i*5)) (i*5+5) ((w.alloc (.cells ((us.take (i*5)).toArray++Z1++Z2) 68)).drew.setCells w.heap.size (i*5) vs).drew;obtain⟨b1,b2⟩:=iH w.heap.size vs (i*5) (w.alloc (.cells ((us.take (i*5)).toArray++Z1++Z2) 68)).drew;exact⟨a1.trans b1,a2.trans b2⟩)
  exact⟨_,G2,rfl,hR2,hI2,hS1.trans hS2,hbx2.trans hbx1⟩
def Kg{G:Gh}{w:World}{n i:Nat}{ns:List Nat}{cs:List PV}{x:Value}(hI:bz Tryz.prog B G (bn (n::ns) []) w)(hx:R G (.list n cs (.own 0 68)) x)
  (hc:cs.length=n*5) (hi:i<n) (hn1:aI cs=true) (ht1:dw ([0].contains ·) cs=true):
  Calls Tryz.prog 163 #[x,.int .i64 (i:Int),.int .i64 ((i:Int)+1)] w fun e w'=>∃ v G',e= .returned v/\R G' (.list (n-1) (cs.take (i*5)++cs.drop ((i+1) *5)) (.own 0 68)) v/\bz Tryz.prog B G' (bn ((n-1)::ns) []) w'/\cu G w G' w'/\G'.bx=G.bx:=by
 have hi68:=Bl;obtain⟨i0,z,hq,hzz,hRz,hzn⟩:=mj (P:=Tryz.prog) (G:=G) K1;rw[hq]at hi68;have hs:i0.size=5:=Option.some.inj hi68;have hzl:z.cells.size=5:=by have:=hRz.1;simpa using this.symm
 generalize hzc:z.cells.toList=zs at*;have hR0:=hx;cases hx with
 |listN=>omega
 |list _ _ _ xb xo xc us hnc hxl hxc hxr hx1 hxt hxp hxx=>
 obtain⟨x0,hx0⟩:=hI.live 0 (by simp[bn]);have hcnt:=(hI.cnt 0 x0 hx0).2;have hxn:x0.cnt=n:=by rw[<-hcnt];simp[bn]
 have h4:=(hxt.2 x0 hx0).2 hxn.symm;cases x0 with
 |full m=>have:=hI.ful 0 m hx0;simp only[mi.cnt]at hxn;omega
 |room r=>
 obtain⟨rfl,rfl,hrc,hre,hrl⟩:=h4;obtain⟨hsh,hcm,hmc,hsz,hno,hxr⟩:=hI.room 0 r hx0;have hul:us.length=n*5:=by rw[<-hxl,hc]
 have hus:∀ (j:Nat) (u:Value),us[j]? =some u->w.cell? ⟨r.b,j,none⟩=some u:=fun j u hj=>by have:=hI.com _ _ _ (hxc j u hj);rwa [aq]at this
 have hszr:r.sz=5:=by
  have:fK Tryz.prog 68=some 5:=by unfold fK;rw[hq];simp[hs]
  rw[hre,this]at hsz;exact(Option.some.inj hsz).symm
 obtain⟨cur,hcur,hcs⟩:=hI.sh _ _ _ hsh;rw[hrc,hszr]at hcs;rw[hre]at hcur;have hxcap:xc<=9223372036854775807:=by rw[hrc]at hcm;exact hcm
 have hx0l:cur.toList.length=xc*5:=by simpa using hcs
 have htk:cur.toList.take (n*5)=us:=by
  apply fR;intro j;by_cases hj:j<n*5
  ·have:=hus j us[j] (ax (by omega));simp only[World.cell?,hcur,gP,bG,if_false]at this;rw[cY hj,gE,this,ax (by omega)]
  ·rw[bB (by rw[aG];omega),bB (by omega)]
 have hcl:cur.toList=us++cur.toList.drop (n*5):=by rw[<-htk,dn]
 generalize cur.toList.drop (n*5)=rest at hcl;have hcur':w.drew.heap[r.b]? =some (.cells (us++rest).toArray 68 (0,0)):=by
  show w.heap[r.b]? =_;rw[<-hcl];simpa using hcur
 refine(Iv r.b n xc i us zs w hi hnc hxcap hul hus (fun j=>by simp[World.frozen?,hcur]) hx1 hq hzz hs hzl hzc hRz.2.2).mono fun e w' h=>?_;obtain⟨rfl,rfl⟩:=h;have hvz:zs.length=5:=by rw[<-hzc];simpa using hzl
 have hul1:(us++rest).length=n*5+rest.length:=by rw[af,hul]
 have hdl:(us.drop ((i+1) *5)).length=n*5- (i*5+5):=by rw[aU,hul];omega
 have hw1:=fh r.b (us.drop ((i+1) *5)) (i*5) w.drew _ hcur' (by rw[hdl,hul1];omega);have hrow1:=setRow_heap w.drew r.b _ ((us++rest).take (i*5)++us.drop ((i+1) *5)++(us++rest).drop (i*5+(us.drop ((i+1) *5)).length)).toArray 68 (0,0) hcur';have hl1:((us++rest).take (i*5)++us.drop ((i+1) *5)++(us++rest).drop (i*5+(us.drop ((i+1) *5)).length)).length=n*5+rest.length:=by
  simp only[af,aG,aU,hul];omega
 have hw2:=fh r.b zs ((n-1) *5) _ _ hrow1 (by rw[hl1,hvz];omega);have hfin:((us++rest).take (i*5)++us.drop ((i+1) *5)++(us++rest).drop (i*5+(us.drop ((i+1) *5)).length)).take ((n-1) *5)++zs++((us++rest).take (i*5)++us.drop ((i+1) *5)++(us++rest).drop (i*5+(us.drop ((i+1) *5)).length)).drop ((n-1) *5+zs.length)=us.take (i*5)++us.drop ((i+1) *5)++zs++rest:=by
  have h0:(us++rest).take (i*5)=us.take (i*5):=gJ (by omega);have h1:(us.take (i*5)++us.drop ((i+1) *5)).length=(n-1) *5:=by rw[af,hdl,aG,hul];omega
  rw[h0,<-h1,gZ,<-fU,fe,fU,hvz,hdl,show i*5+(n*5- (i*5+5))+5=us.length by omega,fe]
 rw[hfin]at hw2;exact⟨_,(Ff (zs:=_) (w2:=(w.drew.setCells r.b (i*5) (us.drop ((i+1) *5))).setCells r.b ((n-1) *5) zs) hR0 (hI.drawn (w':=w.drew) rfl) hRz hzn rfl hc rfl hul hi hcur' ht1 hn1 (by rw[hw1,hw2,il]) (by
   obtain⟨a1,a2⟩:=iH r.b zs ((n-1) *5) (w.drew.setCells r.b (i*5) (us.drop ((i+1) *5)));obtain⟨b1,b2⟩:=iH r.b (us.drop ((i+1) *5)) (i*5) w.drew;exact⟨a1.trans b1,a2.trans b2⟩)).elim fun G2 h=>⟨G2,rfl,h.1,h.2.1,cu.drew.trans h.2.2.1,h.2.2.2⟩⟩
end Go.PM
namespace Go.PM
open Go Go.Proofs Go.Lib Go.Sort
def wQ(m e:Nat):List PV->List Nat->List (List PV)->Option (PV×List Nat×List (List PV))
 | [.list n cs tk,.int .i64 i,.list 1 ds (.full _)],ns,[]=>
  if ds.length=m/\aI ds=true then match tk,n,cs,ns with
   | .nil,0,[],ns=>if i=0 then some (.list 1 ds (.own ns.length e),ns++[1],[])else none
   | .own 0 e0,n,cs,n0::ns=>if e0=e/\n0=n/\0<=i/\i<=n/\cs.length=n*m/\aI cs=true/\dw ([0].contains ·) cs=true/\dw ([0].contains ·) ds=true/\n<=10000000 then
     some (.list (n+1) (cs.take (i.toNat*m)++ds++cs.drop (i.toNat*m)) (.own 0 e),(n+1)::ns,[])else none
   |_,_,_,_=>none
  else none
 |_,_,_=>none
def y8(m e:Nat):List PV->List Nat->List (List PV)->Option (PV×List Nat×List (List PV))
 | [.list n cs (.own 0 e0),.int .i64 i,.int .i64 j],n0::ns,[]=>
  if e0=e/\n0=n/\0<=i/\i<n/\j=i+1/\cs.length=n*m/\aI cs=true/\dw ([0].contains ·) cs=true then
   some (.list (n-1) (cs.take (i.toNat*m)++cs.drop ((i.toNat+1) *m)) (.own 0 e),(n-1)::ns,[])else none
 |_,_,_=>none
def tX:aA:=fun f xs ns cs=>match f with
 |128=>wQ 3 72 xs ns cs
 |189=>wQ 5 68 xs ns cs
 |160=>y8 3 72 xs ns cs
 |163=>y8 5 68 xs ns cs
 |f=>AV f xs ns cs
def Ip:lj Tryz.prog 128:=⟨Tryz.f128,Tryz.func128,of_decide_eq_true (by kernel_rfl),by kernel_rfl⟩
def Il:lj Tryz.prog 189:=⟨Tryz.f189,Tryz.func189,of_decide_eq_true (by kernel_rfl),by kernel_rfl⟩
def In:lj Tryz.prog 160:=⟨Tryz.f160,Tryz.func160,of_decide_eq_true (by kernel_rfl),by kernel_rfl⟩
def Im:lj Tryz.prog 163:=⟨Tryz.f163,Tryz.func163,of_decide_eq_true (by kernel_rfl),by kernel_rfl⟩
def NG(B:Nat->Nat->Option Value)(f:Nat)(g:List PV->List Nat->List (List PV)->Option (PV×List Nat×List (List PV))):Prop:=∀ xs ns cs r rs cs',g xs ns cs=some (r,rs,cs')->
 cs'.length=cs.length/\np r=true/\(∀ c∈cs',aI c=true)/\
 ∀ G w (vs:List Value),bz Tryz.prog B G (bn ns cs) w->xs.length=vs.length->(∀ (j:Nat) p v,xs[j]? =some p->vs[j]? =some v->R G p v/\cz p=true)->
  Calls Tryz.prog f vs.toArray w fun e w'=>∃ v G',pW f vs v e/\R G' r v/\bz Tryz.prog B G' (bn rs cs') w'/\cu G w G' w'/\G'.ob=G.ob/\∀ k,k<cs.length->G'.oe k=G.oe k
section
variable {B:Nat->Nat->Option Value}
def Ia{f m e:Nat}(hf:f<1000000)
  (h1:∀ {G:Gh} {w:World} {ds:List PV} {ns:List Nat} {e':Nat} {x y:Value},bz Tryz.prog B G (bn ns []) w->R G (.list 0 [] .nil) x->R G (.list 1 ds (.full e')) y->ds.length=m->xm (B:=B) f G w x y 0 (.list 1 ds (.own ns.length e)) (ns++[1]))
  (h2:∀ {G:Gh} {w:World} {n i:Nat} {ns:List Nat} {cs ds:List PV} {e':Nat} {x y:Value},bz Tryz.prog B G (bn (n::ns) []) w->R G (.list n cs (.own 0 e)) x->R G (.list 1 ds (.full e')) y->cs.length=n*m->ds.length=m->i<=n->n<=10000000->aI cs=true->aI ds=true->dw ([0].contains ·) cs=true->dw ([0].contains ·) ds=true->
   xm (B:=B) f G w x y i (.list (n+1) (cs.take (i*m)++ds++cs.drop (i*m)) (.own 0 e)) ((n+1)::ns)):NG B f (wQ m e):=by
 intro xs ns cs r rs cs' h;unfold wQ at h;split at h
 ·rename_i n c tk i ds e' ns0;split at h
  ·rename_i hd;split at h
   ·split at h
    ·rename_i hi;subst hi;cases h;refine⟨rfl,hd.2,fun c hc=>(by cases hc),fun G w vs hI hl hR=>?_⟩;obtain⟨v0,v1,v2,rfl⟩:=Gi hl;have a0:=(hR 0 _ _ rfl rfl).1;have a1:=(hR 1 _ _ rfl rfl).1;have a2:=(hR 2 _ _ rfl rfl).1;cases a1;exact(h1 hI a0 a2 hd.1).mono fun e w' h=>by
      obtain⟨v,G',rfl,b1,b2,b3,b4⟩:=h;exact⟨v,G',(nz hf).2 rfl,b1,b2,b3,funext fun s=>lL (congrFun b4 s),fun k hk=>absurd hk (iR _)⟩
    ·cases h
   ·split at h
    ·rename_i hc;obtain⟨rfl,rfl,c1,c2,c3,c4,c5,c6,c7⟩:=hc;cases h;refine⟨rfl,?_,fun c hc=>(by cases hc),fun G w vs hI hl hR=>?_⟩
     ·show aI _=true;refine io (io (rT c4 fun p hp=>eV hp) hd.2) (rT c4 fun p hp=>cW hp)
     obtain⟨v0,v1,v2,rfl⟩:=Gi hl;have a0:=(hR 0 _ _ rfl rfl).1;have a1:=(hR 1 _ _ rfl rfl).1;have a2:=(hR 2 _ _ rfl rfl).1;cases a1;obtain⟨k,rfl⟩:=Int.eq_ofNat_of_zero_le c1;exact(h2 hI a0 a2 c3 hd.1 (i:=k) (by omega) c7 c4 hd.2 c5 c6).mono fun e w' h=>by
      obtain⟨v,G',rfl,b1,b2,b3,b4⟩:=h;exact⟨v,G',(nz hf).2 rfl,b1,b2,b3,funext fun s=>lL (congrFun b4 s),fun k hk=>absurd hk (iR _)⟩
    ·cases h
   ·cases h
  ·cases h
 ·cases h
def It{f m e:Nat}(hf:f<1000000)
  (h1:∀ {G:Gh} {w:World} {n i:Nat} {ns:List Nat} {cs:List PV} {x:Value},bz Tryz.prog B G (bn (n::ns) []) w->R G (.list n cs (.own 0 e)) x->cs.length=n*m->i<n->aI cs=true->dw ([0].contains ·) cs=true->
   Calls Tryz.prog f #[x,.int .i64 (i:Int),.int .i64 ((i:Int)+1)] w fun e1 w'=>∃ v G',e1= .returned v/\R G' (.list (n-1) (cs.take (i*m)++cs.drop ((i+1) *m)) (.own 0 e)) v/\bz Tryz.prog B G' (bn ((n-1)::ns) []) w'/\cu G w G' w'/\G'.bx=G.bx):NG B f (y8 m e):=by
 intro xs ns cs r rs cs' h;unfold y8 at h;split at h
 ·split at h
  ·rename_i hc;obtain⟨rfl,rfl,c1,c2,rfl,c3,c4,c5⟩:=hc;cases h;refine⟨rfl,?_,fun c hc=>(by cases hc),fun G w vs hI hl hR=>?_⟩
   ·show aI _=true;exact io (rT c4 fun p hp=>eV hp) (rT c4 fun p hp=>cW hp)
   obtain⟨v0,v1,v2,rfl⟩:=Gi hl;have a0:=(hR 0 _ _ rfl rfl).1;have a1:=(hR 1 _ _ rfl rfl).1;have a2:=(hR 2 _ _ rfl rfl).1;cases a1;cases a2;obtain⟨k,rfl⟩:=Int.eq_ofNat_of_zero_le c1;exact(h1 hI a0 c3 (i:=k) (by omega) c4 c5).mono fun e w' h=>by
    obtain⟨v,G',rfl,b1,b2,b3,b4⟩:=h;exact⟨v,G',(nz hf).2 rfl,b1,b2,b3,funext fun s=>lL (congrFun b4 s),fun k hk=>absurd hk (iR _)⟩
  ·cases h
 ·cases h
end
def MD(tS tR:TypeId)(pS pR:Value):ja Tryz.prog (jy (.iface tS pS) (.iface tR pR)) tX:=by
 intro f xs ns cs r rs cs' h;unfold tX at h;split at h
 ·rw[nJ (by decide)];exact⟨Ip,Ia (by decide) (fun a b c d=>LP a b c d) (fun a b c d e f g h i j k=>LO a b c d e f g h i j k) _ _ _ _ _ _ h⟩
 ·rw[nJ (by decide)];exact⟨Il,Ia (by decide) (fun a b c d=>J4 a b c d) (fun a b c d e f g h i j k=>J3 a b c d e f g h i j k) _ _ _ _ _ _ h⟩
 ·rw[nJ (by decide)];exact⟨In,It (by decide) (fun a b c d e f=>LX a b c d e f) _ _ _ _ _ _ h⟩
 ·rw[nJ (by decide)];exact⟨Im,It (by decide) (fun a b c d e f=>Kg a b c d e f) _ _ _ _ _ _ h⟩
 ·exact ME tS tR pS pR _ _ _ _ _ _ _ h
end Go.PM
namespace Go.PM
open Go Go.Proofs Go.Lib
noncomputable def Fg:aA:=tt T tX
def M0(tS tR:TypeId)(pS pR:Value):ja Tryz.prog (jy (.iface tS pS) (.iface tR pR)) Fg:=Km T tX (by kernel_rfl) Lm (MD tS tR pS pR)
def OJ:iF Fg:=fun f F hF N xs ns cs r h=>Kn T tX hF (by
 unfold tX;split
 ·cases hF
 ·cases hF
 ·cases hF
 ·cases hF
 unfold AV;split
 ·rename_i hf;subst hf;cases hF
 ·split
  ·rename_i hf;subst hf;cases hF
  ·rfl) N h
def OT:bJ Fg where
 tab:=OJ
 parse l hl:=sG T tX (by
  show AV 239 _ _ _=_;unfold AV;rw[ak rfl];show(if(10:Int)=10/\(64:Int)=64/\ByteArray.size ⟨l.toArray⟩<=2000000 then _ else _)=_;rw[ak ⟨rfl,rfl,by simpa [ByteArray.size]using hl⟩]
  show some (vY l.toArray.toList,_,_)=_;unfold vY;simp only[];cases parseIntB 64 l<;>rfl)
 fmt n h1 h2:=sG T tX (by
  show AV 135 _ _ _=_;unfold AV;rw[ad (by decide),ak rfl];show(if(10:Int)=10/\_/\_ then _ else _)=_;rw[ak ⟨rfl,h1,h2⟩])
def MR{a m e:Nat}(h:∀ xs ns cs,tX a xs ns cs=wQ m e xs ns cs):Ca Fg a m e where
 nil ds ns e' h1 h2:=sG T tX (by
  rw[h];simp only[wQ,h1,h2,kx,if_true])
 own n i cs ds ns e' h1 h2 h3 h4 h5 h6 h7 h8:=sG T tX (by
  rw[h];show(if ds.length=m/\aI ds=true then(if e=e/\n=n/\(0:Int)<=(i:Int)/\(i:Int)<=n/\cs.length=n*m/\aI cs=true/\dw ([0].contains ·) cs=true/\dw ([0].contains ·) ds=true/\n<=10000000 then _ else none)else none)=_;rw[ak ⟨h2,h4⟩,ak ⟨rfl,rfl,by omega,by omega,h1,h3,h5,h6,h8⟩];rfl)
def MY{b m e:Nat}(h:∀ xs ns cs,tX b xs ns cs=y8 m e xs ns cs):zW Fg b m e where
 own n i cs ns h1 h2 h3 h4 _:=sG T tX (by
  rw[h];show(if e=e/\n=n/\(0:Int)<=(i:Int)/\(i:Int)<n/\((i+1:Nat):Int)=(i:Int)+1/\cs.length=n*m/\aI cs=true/\dw ([0].contains ·) cs=true then _ else none)=_;rw[ak ⟨rfl,rfl,by omega,by omega,by omega,h1,h2,h3⟩];rfl)
def OO:rQ Fg:=⟨MR fun _ _ _=>rfl,MR fun _ _ _=>rfl,MY fun _ _ _=>rfl,MY fun _ _ _=>rfl⟩
end Go.PM
namespace Go.PM
open Go Go.Proofs Go.ChangeShapes Go.Deep
section
variable {H:Type} {enc:TypeId×Value->H} {w:World} {base:Nat} {held:Bool}
def OW:Tryz.prog.cellsOf 104=3:=by kernel_rfl
def OV:Tryz.prog.cellsOf 106=5:=by kernel_rfl
def Mz{cs:List Value}(h:cs.length=12):∃ a b c d e f g h i j k l,cs=[a,b,c,d,e,f,g,h,i,j,k,l]:=by
 match cs,h with
 | [a,b,c,d,e,f,g,h,i,j,k,l],_=>exact⟨a,b,c,d,e,f,g,h,i,j,k,l,rfl⟩
def Hv{fuel:Nat}{cs:List Value}{x:DataW H×List MemPlace}(h:DataW.trod enc Tryz.prog w base (fun _=>true) held fuel 108 cs=some x)(hl:cs.length=12):∃ y:Ch,Rs (kn w) (cc y) cs/\ul y:=by
 obtain⟨n,hf⟩:=rj (L:=[(2,0),(104,1),(106,4),(9,9),(9,10),(9,11)]) (by kernel_rfl) (by decide) h;obtain⟨a,b,c,d,e,f,g,h6,i,j,k,l,rfl⟩:=Mz hl;obtain⟨y0,h0⟩:=hf 0 _ rfl;obtain⟨y1,h1⟩:=hf 1 _ rfl;obtain⟨y2,h2⟩:=hf 2 _ rfl;obtain⟨y3,h3⟩:=hf 3 _ rfl;obtain⟨y4,h4⟩:=hf 4 _ rfl;obtain⟨y5,h5⟩:=hf 5 _ rfl;rw[c2]at h0;rw[OW]at h1;rw[OV]at h2;rw[c9]at h3 h4 h5;have h0:DataW.trod enc Tryz.prog w base (fun _=>true) held n 2 [a]=some y0:=h0;have h1:DataW.trod enc Tryz.prog w base (fun _=>true) held n 104 [b,c,d]=some y1:=h1;have h2:DataW.trod enc Tryz.prog w base (fun _=>true) held n 106 [e,f,g,h6,i]=some y2:=h2;have h3:DataW.trod enc Tryz.prog w base (fun _=>true) held n 9 [j]=some y3:=h3;have h4:DataW.trod enc Tryz.prog w base (fun _=>true) held n 9 [k]=some y4:=h4;have h5:DataW.trod enc Tryz.prog w base (fun _=>true) held n 9 [l]=some y5:=h5;obtain⟨kd,r0⟩:=vR (by kernel_rfl) h0;obtain⟨nd,r1,l1,m1⟩:=EL h1 rfl;obtain⟨eg,r2,l2,m2⟩:=EM h2 rfl;obtain⟨s3,r3,l3⟩:=sk h3;obtain⟨s4,r4,l4⟩:=sk h4;obtain⟨s5,r5,l5⟩:=sk h5;exact⟨{kind:=kd,node:=nd,edge:=eg,value:=s3,name:=s4,text:=s5},(((((r0.append r1).append r2).append r3).append r4).append r5),⟨l1,m1,l2,m2,l4,l3,l5⟩⟩
def F2{fuel:Nat}{cs:List Value}{x:DataW H×List MemPlace}(h:DataW.trod enc Tryz.prog w base (fun _=>true) held fuel 53 cs=some x):∃ (l:List Ch) (v:Value),cs=[v]/\R (kn w) (HX l) v/\l.length<=fC/\∀ c∈l,ul c:=by
 obtain⟨l,v,rfl,h1,h2,h3,h4⟩:=sm (α:=Ch) (e:=108) (sz:=12) (by kernel_rfl) (by kernel_rfl) (by decide) cc ul oq (fun fuel cs x h hl=>Hv h hl) h;exact⟨l,v,rfl,h1,h3,h4⟩
end
def NK:Tryz.prog.underlying 53=some (.slice 108):=by kernel_rfl
set_option maxRecDepth 100000 in
def Mp{w:World}{base:Nat}{v u:Value}(h:v.okWide Tryz.prog w .any base 53)(hc:v.cells.toList=[u]):v=u:=by
 cases v with
 |agg cs=>
  unfold Value.okWide Cell.okWide Cell.ok at h;simp only[NK]at h
 |_=>simpa [Value.cells]using hc
end Go.PM
namespace Go.Proofs.YtdpamjikmlbmhaaGreatDoor.ApplyChanges
open Go Go.PM Go.ChangeShapes Go.WideShapes Go.ChangeAt Go.RowKit
def own:ownKnob Tryz.prog.godebug=none:=by kernel_rfl
def OI:Tryz.prog.underlying 4=some .bool:=by kernel_rfl
def N9:Tryz.prog.cellsOf 25=2:=by kernel_rfl
def OS{g:bY}(h:OH g):G5 g:=⟨h.ns,h.es,fun x hx=>(h.n x hx).1,fun x hx=>(h.n x hx).2,fun x hx=>(h.e x hx).1,fun x hx=>(h.e x hx).2⟩
set_option maxRecDepth 100000 in
def Ki(H:Type)(enc:TypeId×Value->H)(W:World)(base:Nat)(args:Array Value)(ds gs:List (DataW H))(before:List MemPlace)
  (hval:∀ (j:Nat) t v,Tryz.f6.params[j]? =some t->args[j]? =some v->Value.okWide Tryz.prog W .any base t v)
  (hW:DataW.Whole enc Tryz.prog Tryz.f6.params.toList Rows.fnExactApplyChangesSpec.vars false W args.toList ds gs before) (hL:laidMetH Tryz.prog zo W) (hsh:W.ShapedOpen Tryz.prog):
  Calls Tryz.prog 6 args W fun e W'=>∃ v,e= .returned v/\Rows.fnExactApplyChangesSpec.post enc Tryz.prog Tryz.f6 false true false false W args v W':=by
 have hW':=hW;have hlt:=hW.lt;obtain⟨p,q,hA0,hV,rfl,hfz,hnd⟩:=hW;have hA:DataW.TrodAll enc Tryz.prog W 0 (fun _=>true) true Tryz.f6.params.toList args.toList ds p:=hA0;have hp:Tryz.f6.params= #[25,53]:=by kernel_rfl
 rw[hp]at hA hval;obtain⟨v0,v1,d0,d1,p0,p1,rfl,rfl,rfl,h0,h1⟩:=trodAll_two hA;obtain⟨rfl,rfl⟩:=trodVars_none hV;have hv1:=hval 1 53 v1 rfl rfl;have hv0:=hval 0 25 v0 rfl rfl;have row:∀ {v:Value},v.okWide Tryz.prog W .any base 25->∃ cs,v= .agg cs/\cs.size=Tryz.prog.cellsOf 25:=fun{v} h=>by
  unfold Value.okWide at h;rw[Tryz.underlying25]at h;obtain⟨cs,h1,h2,_⟩:=h;exact⟨cs,h1,h2⟩
 obtain⟨cs,rfl,hcs⟩:=row hv0;obtain⟨fuel,hf⟩:=h0;obtain⟨fuel2,hf2⟩:=h1;obtain⟨g,hg,hok⟩:=Jy hf (ep.trans (hcs.trans N9));obtain⟨l2,u2,hu2,hR1,hl2,hok2⟩:=F2 hf2;obtain rfl:=Mp hv1 hu2;obtain⟨pS,pR,hI⟩:=Jc hL hsh;have hR0:R (kn W) (.agg (gc g)) (.agg cs):=by
  have:=R.agg (G:=kn W) (gc g) cs.toList hg.1 hg.2.1 hg.2.2;simpa using this
 obtain⟨_,_,hc⟩:=qX (M0 270 270 pS pR) hI (f:=6) (show([.agg (gc g),HX l2]:List PV).length=([.agg cs,v1]:List Value).length from rfl) (fun j p v hp hv=>by
  match j with
  |0=>simp at hp hv;subst hp hv;exact⟨hR0,fy (dW g).1⟩
  |1=>simp at hp hv;subst hp hv;exact⟨hR1,fy (iU l2).1⟩
  |j+2=>simp at hp) (Nj OT OO g l2 (OS hok) hl2 hok2)
 refine hc.mono fun e W' h=>?_;obtain⟨v,G',hret,hRv,_,hS,_⟩:=h;cases hRv;obtain rfl:=(nz (by decide)).1 hret;have hb:=LS hS;have hargs:=vC (enc:=enc) LL hb (ts:=[25,53]) (fun t ht=>by
  simp only[aX,eK,or_false]at ht;rcases ht with rfl|rfl
  ·exact⟨by kernel_rfl,of_decide_eq_true (by kernel_rfl)⟩
  ·exact⟨by kernel_rfl,of_decide_eq_true (by kernel_rfl)⟩) (fun x hx=>hlt x (cM _ hx)) (by rw[hp]at hA0;exact hA0)
 refine⟨_,rfl,[d0,d1],[],_,[],p0++p1,[],hW',trodAll_mk1 (shut_bool OI true),?_,rfl,Ea hS.eff hb _,fun h=>by cases h⟩;rw[hp];exact hargs
def JX(os:Os)(a:Array Value):laidMetH Tryz.prog zo ((World.doorLaid Tryz.prog 400 os).forCall (fun _ _=>0) ⟨#[],a,[]⟩).memory:=
 laidMetH_of_parts3 (fuel:=8) (laidMet_of_run' 8 (by kernel_rfl) (by kernel_rfl)) (by kernel_rfl) (by kernel_rfl)
def reads(os:Os){H:Type}(enc:TypeId×Value->H):∃ places,DataW.whole enc Tryz.prog ((World.doorLaid Tryz.prog 400 os).forCall (fun _ _=>0) ⟨#[], #[.agg #[.slice none 0 0,.slice none 0 0],.slice none 0 0],[]⟩).memory Tryz.f6.params.toList Rows.fnExactApplyChangesSpec.vars false #[Value.agg #[.slice none 0 0,.slice none 0 0],.slice none 0 0].toList 8=some ([.agg [.nil,.nil],.nil],[],places):=
 ⟨[],by kernel_rfl⟩
set_option maxRecDepth 100000 in
def MO(os:Os)(started:os.Started)(H:Type)(enc:TypeId×Value->H)(F:Stop.Interp):
  ReturnsInHanded {} Tryz.checked os 6 .any ((OpenSpec.ofChange Rows.fnExactApplyChangesSpec).preRow enc Tryz.prog Tryz.f6 Rows.fnExactApplyChangesRow.domain false Rows.fnExactApplyChangesRow.laid) (((OpenSpec.ofChange Rows.fnExactApplyChangesSpec).at F).post enc Tryz.prog Tryz.f6 false true false false):=by
 obtain⟨places,hx⟩:=reads os enc;refine returnsInHanded_of_row (C:=Tryz.checked) (s:=OpenSpec.ofChange Rows.fnExactApplyChangesSpec) own started (by kernel_rfl) Tryz.func6
  (witness_row_atRef (enc:=enc) (C:=Tryz.checked) false (World.doorLaid Tryz.prog 400 os) #[.agg #[.slice none 0 0,.slice none 0 0],.slice none 0 0] rfl (by kernel_rfl) (by kernel_rfl) (by kernel_rfl)
   (OpenSpec.preRow_of_cond 8 hx (by kernel_rfl) (fun k hk=>by cases hk) (by kernel_rfl) (JX os _))) ?_
 intro W base args ds gs before hval hW _ _ _ hL hsh _;exact Ki H enc W base args ds gs before hval hW hL hsh
def OM:Rows.FnExactApplyChangesSaid:=
 OpenClaim.holds_of_cond 6 Tryz.f6 rfl rfl rfl rfl rfl rfl rfl ⟨rfl,rfl,rfl,rfl,rfl⟩ rfl rfl rfl rfl rfl (by kernel_rfl) Tryz.func6 (by kernel_rfl)
  (of_decide_eq_true (by kernel_rfl)) (by unfold Func.isWrapper;first|(rw[ak (by decide+kernel)];kernel_rfl)|(rw[ad (by decide+kernel)];exact⟨rfl,rfl⟩))
  (fun os started H enc _ F=>by rw[OpenClaim.pre_eq_preRow];exact MO os started H enc F)
def plain(f:FuncId)(fn:Func)(hf:Tryz.pinned.checked.prog.funcNamed "loop.example/g00042/laws.FnExactApplyChanges" =some f)(hfn:Tryz.pinned.checked.prog.funcs[f]? =some fn):
  true=Tryz.pinned.checked.prog.looks []/\∀ (j:Nat) t,fn.params[j]? =some t->Tryz.pinned.checked.prog.wantsStandIn t=false:=by
 obtain rfl:f=6:=Option.some.inj ((show Tryz.prog.funcNamed "loop.example/g00042/laws.FnExactApplyChanges" =some 6 by kernel_rfl).symm.trans hf)|>.symm;obtain rfl:fn=Tryz.f6:=(Option.some.inj (Tryz.func6.symm.trans hfn)).symm;refine⟨by kernel_rfl,fun j t ht=>?_⟩;have hp:Tryz.f6.params= #[25,53]:=by kernel_rfl
 rw[hp]at ht;have hm:=Array.mem_of_getElem? ht;simp only[List.mem_toArray,aX,eK,or_false]at hm;rcases hm with rfl|rfl
 ·exact(show Tryz.prog.wantsStandIn 25=false by kernel_rfl)
 ·exact(show Tryz.prog.wantsStandIn 53=false by kernel_rfl)
theorem card : Rows.FnExactApplyChangesCardSaid :=
 Claim7.holds_tied_plain_at .later [] _ _ _ _ OM (fun _ h=>by cases h) (by kernel_rfl) (fun _ h=>by cases h) fnExactApplyChanges_row_tie rfl ⟨rfl,rfl⟩ (by kernel_rfl) rfl plain (by kernel_rfl)
#print axioms card
end Go.Proofs.YtdpamjikmlbmhaaGreatDoor.ApplyChanges
