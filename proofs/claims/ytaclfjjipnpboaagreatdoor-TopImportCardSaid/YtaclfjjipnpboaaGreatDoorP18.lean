/- Part 18 of the proof. Conditions: what each theorem states. -/
import Derived.Test.YtaclfjjipnpboaaGreatDoorP01
import Derived.Test.YtaclfjjipnpboaaGreatDoorP17
import Derived.Test.YtaclfjjipnpboaaGreatDoorP07
import Derived.Test.YtaclfjjipnpboaaGreatDoorP04
set_option linter.all false
set_option maxHeartbeats 4000000
set_option maxRecDepth 4000
namespace Go.Proofs.YtaclfjjipnpboaaGreatDoor
open Go Go.Eng Go.RowKit
namespace TW
instance(s:ByteArray):Decidable (Cln s):=by unfold Cln cB;infer_instance
theorem Vd_er:∀{d:Nat} {x y:J},Sj x y→Vd d y→Vd d x
 |0,_,_,_,h=>h
 |d+1,x,y,hs,h=>by
  have e1:=hs.op;have e2:=hs.n;have e3:=hs.s;have e4:=hs.ks;have e5:=hs.kids;have e6:=hs.len;have kn:y.kids=[]→x.kids=[]:=fun q=>by rw[q]at e5;simpa using e5
  have kd:(∀z∈y.kids,Vd d z)→∀z∈x.kids,Vd d z:=fun q z hz=>by
   obtain⟨i,hi,rfl⟩:=List.mem_iff_getElem.1 hz;have:=hs.kid hi;rw[bang_eq hi,bang_eq Om]at this;exact Vd_er this (q _ (List.getElem_mem _))
  unfold Vd at h ⊢;rw[e1,e2,e3,e4,e6];rcases h with h|h|h|h
  ·exact .inl ⟨h.1,h.2.1,h.2.2.1,h.2.2.2.1,kn h.2.2.2.2⟩
  ·exact .inr (.inl ⟨h.1,h.2.1,h.2.2.1,h.2.2.2.1,kn h.2.2.2.2⟩)
  ·exact .inr (.inr (.inl ⟨h.1,h.2.1,h.2.2.1,h.2.2.2.1,kd h.2.2.2.2⟩))
  ·exact .inr (.inr (.inr ⟨h.1,h.2.1,h.2.2.1,h.2.2.2.1,h.2.2.2.2.1,kd h.2.2.2.2.2⟩))
theorem vd_num{n:Int}(d:Nat)(h: -1000000000000000≤n∧n≤1000000000000000):Vd (d+1) (j0 3 n ⟨#[]⟩):=.inl ⟨rfl,h,rfl,rfl,rfl⟩
theorem vd_txt{s:ByteArray}(d:Nat)(h:Cln s):Vd (d+1) (j0 4 0 s):=.inr (.inl ⟨rfl,rfl,h,rfl,rfl⟩)
theorem vd_arr{l:List J}{d:Nat}(h:∀y∈l,Vd d y):Vd (d+1) (.mk 5 0 ⟨#[]⟩ none 0 0 [] none 0 0 l):=.inr (.inr (.inl ⟨rfl,rfl,rfl,rfl,h⟩))
theorem vd_obj{ks:List ByteArray}{l:List J}{d:Nat}(h1:ks.length=l.length)(h2:ks.Nodup)(h3:∀k∈ks,Cln k)(h:∀y∈l,Vd d y):Vd (d+1) (.mk 6 0 ⟨#[]⟩ none 0 0 ks none 0 0 l):=.inr (.inr (.inr ⟨rfl,rfl,rfl,h1,⟨h2,h3⟩,h⟩))
theorem cf_all:∀f∈cfL,Cln f.ph∧∀on:Bool,(keysF f on).Nodup∧(∀k∈keysF f on,Cln k)∧(∀k∈keysF f on,k=⟨#[110,97,109,101]⟩→f.nm=true)∧(∀k∈keysF f on,k=⟨#[115,116,97,99,107]⟩→f.hs=true):=by decide+kernel
theorem cfE_mem{x:Ev}(hk:1≤x.kd∧x.kd≤12):cfE x∈cfL:=by
 have h:(x.kd-1).toNat<cfL.length:=by show _<12;omega
 unfold cfE;rw[bang_eq h];exact List.getElem_mem h
theorem cf_fm:∀k:Fin 12,cfL[k.val]!.nm=(formF (((k.val:Nat):Int)+1)).nm∧(cfL[k.val]!.fn≠⟨#[]⟩↔(formF (((k.val:Nat):Int)+1)).n=true)∧(cfL[k.val]!.fm≠⟨#[]⟩↔(formF (((k.val:Nat):Int)+1)).m=true)∧cfL[k.val]!.hs=(formF (((k.val:Nat):Int)+1)).st∧cfL[k.val]!.kd=((k.val:Nat):Int)+1∧
  (cfL[k.val]!.ph=⟨#[83]⟩↔((k.val:Nat):Int)+1=9)∧((formF (((k.val:Nat):Int)+1)).st=true→(formF (((k.val:Nat):Int)+1)).nm=false)∧-1000000000000000≤(formF (((k.val:Nat):Int)+1)).lo∧(formF (((k.val:Nat):Int)+1)).hi≤1000000000000000∧-1000000000000000≤(formF (((k.val:Nat):Int)+1)).mlo∧(formF (((k.val:Nat):Int)+1)).mhi≤1000000000000000:=by decide+kernel
theorem fr_ok{l:List ByteArray}(h:frF l=0):l.length≤32∧∀s∈l,Cln s:=by
 unfold frF at h;split at h
 ·cases h
 ·refine⟨Om,fun s hs=> ?_⟩;obtain⟨i,hi,rfl⟩:=List.mem_iff_getElem.1 hs;have:=fE_ok.1 h i hi;simp only[bang_eq hi]at this;exact nm_cln this
structure EvX(x:Ev):Prop where
 kd:1≤x.kd∧x.kd≤12
 at_:0≤x.at_∧x.at_≤1000000000000
 nm:(cfE x).nm=true→Cln x.nm
 nm0:(cfE x).nm=false→x.nm=⟨#[]⟩
 n: -1000000000000000≤x.n∧x.n≤1000000000000000
 n0:(cfE x).fn=⟨#[]⟩→x.n=0
 m: -1000000000000000≤x.m∧x.m≤1000000000000000
 m0:(cfE x).fm=⟨#[]⟩∨onE x=false→x.m=0
 st:x.st.length≤32∧∀s∈x.st,Cln s
 st0:(cfE x).hs=false→x.st=[]
 kd0:(cfE x).kd=x.kd
theorem evX{x:Ev}(hl:x.st.length=x.k)(h:evE x=0):EvX x:=by
 unfold evE at h;split at h
 ·cases h
 rename_i ha;simp only at h;split at h
 ·cases h
 rename_i h1;have hk:1≤x.kd∧x.kd<13:=by
  have:¬fmOk x.kd=false:=fun q=>h1 (.inl (.inl (.inl (.inl q))));unfold fmOk at this;simp at this;exact this
 have hc:=cf_fm ⟨(x.kd-1).toNat,Om⟩;simp only at hc;rw[show(((x.kd-1).toNat:Nat):Int)+1=x.kd from Om]at hc;obtain⟨c1,c2,c3,c4,c5,c6,c7,c8,c9,c10,c11⟩:=hc;change (cfE x).nm=_ at c1;change (cfE x).fn≠_↔_ at c2;change (cfE x).fm≠_↔_ at c3;change (cfE x).hs=_ at c4;change (cfE x).kd=_ at c5;change (cfE x).ph=_↔_ at c6;generalize hf:formF x.kd=f at*;generalize h2:(if f.nm=true then nmF x.nm else frF x.st)=z at h;split at h
 ·rename_i r;exact absurd h r
 rename_i r;rw[Decidable.of_not_not r]at h2;split at h
 ·cases h
 rename_i h3;split at h
 ·cases h
 rename_i h4;split at h
 ·cases h
 rename_i h5;have n0:f.n=false→x.n=0:=fun q=>Classical.byContradiction fun r=>h1 (.inl (.inl (.inr ⟨q,r⟩)));have m0:f.m=false→x.m=0:=fun q=>Classical.byContradiction fun r=>h1 (.inl (.inr ⟨q,r⟩));have s0:f.st=false→x.st=[]:=fun q=>List.eq_nil_of_length_eq_zero (Classical.byContradiction fun r=>h1 (.inr ⟨q,Om⟩));have m9:onE x=false→x.m=0:=fun q=>by
  unfold onE at q;rw[Bool.or_eq_false_iff]at q;have q1:(cfE x).ph=⟨#[83]⟩:=beqB_eq.1 (by simpa using q.1);have q2:x.n≠2:=by simpa using q.2
  exact Classical.byContradiction fun r=>h4 ⟨⟨c6.1 q1,q2⟩,r⟩
 refine⟨Om,Om,fun q=> ?_,fun q=> ?_,?_,fun q=> ?_,?_,fun q=> ?_,?_,fun q=>s0 (c4▸q),c5⟩
 ·rw[c1]at q;rw[if_pos q]at h2;exact nm_cln h2
 ·exact Classical.byContradiction fun r=>h1 (.inl (.inl (.inl (.inr ⟨c1▸q,r⟩))))
 ·cases q:f.n with
  |false=>rw[n0 q];decide
  |true=>have r:¬(x.n<f.lo∨x.n>f.hi):=fun r=>h3 ⟨q,r⟩;omega
 ·exact n0 (by cases r:f.n with|false=>rfl|true=>exact absurd q (c2.2 r))
 ·cases q:f.m with
  |false=>rw[m0 q];decide
  |true=>
   by_cases r:x.kd≠9∨x.n=2
   ·have s:¬(x.m<f.mlo∨x.m>f.mhi):=fun s=>h5 ⟨⟨q,s⟩,r⟩;omega
   ·rw[show x.m=0 from Classical.byContradiction fun s=>h4 ⟨⟨Om,Om⟩,s⟩];decide
 ·rcases q with q|q
  ·exact m0 (by cases r:f.m with|false=>rfl|true=>exact absurd q (c3.2 r))
  ·exact m9 q
 ·cases q:f.st with
  |false=>rw[s0 q];exact⟨Dc,fun s hs=>by cases hs⟩
  |true=>rw[if_neg (by rw[c7 q];decide)]at h2;exact fr_ok h2
theorem wr_vd{x:Ev}{i:Int}(h:EvX x)(hi:0≤i∧i≤1000000000000000):Vd 3 (wrJ i x):=by
 obtain⟨q1,q2⟩:=cf_all _ (cfE_mem h.kd);obtain⟨q2,q3,q4,q5⟩:=q2 (onE x);refine vd_obj (by simp) q2 q3 fun y hy=> ?_;obtain⟨k,hk,rfl⟩:=List.mem_map.1 hy;unfold valF;split
 ·exact vd_txt 1 q1
 split
 ·exact vd_num 1 Om
 split
 ·rename_i e;exact vd_txt 1 (h.nm (q4 k hk e))
 split
 ·exact vd_num 1 (by have:=h.at_;omega)
 split
 ·refine vd_arr fun y hy=> ?_;obtain⟨s,hs,rfl⟩:=List.mem_map.1 hy;exact vd_txt 0 (h.st.2 s hs)
 split
 ·exact vd_num 1 h.n
 ·exact vd_num 1 h.m
theorem mt_vd{t:Th}(h:(0≤t.id∧t.id≤1000000000000000)∧Cln t.nm):Vd 3 (mtJ t):=by
 refine vd_obj rfl Dc (by decide+kernel) fun y hy=> ?_;simp only[List.mem_cons,List.not_mem_nil,or_false]at hy;rcases hy with rfl|rfl|rfl
 ·exact vd_txt 1 (by decide+kernel)
 ·exact vd_num 1 Om
 ·exact vd_txt 1 h.2
theorem bd_bound{o:Bool}{ks:List ByteArray}{l:List (List UInt8)}{B:Nat}(hk:∀k∈ks,k.size≤40)(hl:∀x∈l,x.length≤B):∀j,j≤l.length→(o=true→l.length≤ks.length)→(bdB o ks l j).length≤j*(B+44)
 |0,_,_=>by simp[bdB]
 |j+1,hj,ho=>by
  have ih:=bd_bound (o:=o) (ks:=ks) hk hl j Om ho;have h1:l[j]!.length≤B:=hl _ (mem_b Om);have h2:(hdB o ks j).length≤44:=by
   unfold hdB;rw[List.length_append];have a:(if j=0 then([]:List UInt8)else[44]).length≤1:=by split<;>decide
   cases o with
   |false=>simp only[Bool.false_eq_true,if_false,List.length_nil];omega
   |true=>
    have:=hk _ (mem_b (show j<ks.length by have:=ho rfl;omega));simp only[if_true,List.length_append,List.length_cons,List.length_nil,toL_len];omega
  rw[bdB_next,List.length_append,List.length_append,Nat.add_mul];omega
theorem pr_arr{l:List J}{B:Nat}(h:∀y∈l,(pr y).length≤B):(pr (.mk 5 0 ⟨#[]⟩ none 0 0 [] none 0 0 l)).length≤l.length*(B+44)+2:=by
 rw[pr_len5 rfl];have:=bd_bound (o:=false) (ks:=[]) (l:=l.map pr) (B:=B) (fun k hk=>by cases hk) (fun x hx=>by obtain⟨y,hy,rfl⟩:=List.mem_map.1 hx;exact h y hy) l.length (by simp) (fun q=>by cases q);exact Nat.add_le_add_right this 2
theorem pr_obj{ks:List ByteArray}{l:List J}{B:Nat}(hk:∀k∈ks,Cln k)(hl:ks.length=l.length)(h:∀y∈l,(pr y).length≤B):(pr (.mk 6 0 ⟨#[]⟩ none 0 0 ks none 0 0 l)).length≤l.length*(B+44)+2:=by
 rw[pr_len6 rfl];have:=bd_bound (o:=true) (ks:=ks) (l:=l.map pr) (B:=B) (fun k hh=>(hk k hh).2.1) (fun x hx=>by obtain⟨y,hy,rfl⟩:=List.mem_map.1 hx;exact h y hy) l.length (by simp) (fun _=>by simp[hl]);exact Nat.add_le_add_right this 2
theorem pr_num{n:Int}(h: -1000000000000000≤n∧n≤1000000000000000):(pr (j0 3 n ⟨#[]⟩)).length≤2754:=by rw[pr_3 rfl];have:=Lib.itoa_length_le n Om Om;exact Nat.le_trans this Dc
theorem pr_txt{s:ByteArray}(h:Cln s):(pr (j0 4 0 s)).length≤42:=by rw[pr_4 rfl,List.length_append,List.length_cons];show s.size+1+1≤42;have:=h.2.1;omega
theorem wr_pr{x:Ev}{i:Int}(h:EvX x)(hi:0≤i∧i≤1000000000000000):(pr (wrJ i x)).length≤19588:=by
 obtain⟨q1,q2⟩:=cf_all _ (cfE_mem h.kd);obtain⟨q2,q3,q4,q5⟩:=q2 (onE x);have b:=pr_obj (ks:=wrK x) (l:=(wrK x).map (valF (cfE x) i x)) (B:=2754) q3 (by simp) fun y hy=>by
  obtain⟨k,hk,rfl⟩:=List.mem_map.1 hy;unfold valF;split
  ·exact Nat.le_trans (pr_txt q1) Dc
  split
  ·exact pr_num Om
  split
  ·rename_i e;exact Nat.le_trans (pr_txt (h.nm (q4 k hk e))) Dc
  split
  ·exact pr_num (by have:=h.at_;omega)
  split
  ·have:=pr_arr (l:=x.st.map fun s=>j0 4 0 s) (B:=42) fun y hy=>by obtain⟨s,hs,rfl⟩:=List.mem_map.1 hy;exact pr_txt (h.st.2 s hs)
   rw[List.length_map]at this;have:=h.st.1;omega
  split
  ·exact pr_num h.n
  ·exact pr_num h.m
 rw[List.length_map]at b;have:=wrK_len x;unfold wrJ;omega
theorem mt_pr{t:Th}(h:(0≤t.id∧t.id≤1000000000000000)∧Cln t.nm):(pr (mtJ t)).length≤19588:=by
 have b:=pr_obj (ks:=[⟨#[112,104]⟩,⟨#[116,105,100]⟩,⟨#[110,97,109,101]⟩]) (l:=[j0 4 0 ⟨#[77]⟩,j0 3 t.id ⟨#[]⟩,j0 4 0 t.nm]) (B:=2754) (by decide+kernel) rfl fun y hy=>by
  simp only[List.mem_cons,List.not_mem_nil,or_false]at hy;rcases hy with rfl|rfl|rfl
  ·exact Nat.le_trans (pr_txt (by decide+kernel)) Dc
  ·exact pr_num Om
  ·exact Nat.le_trans (pr_txt h.2) Dc
 exact Nat.le_trans b (show 3*(2754+44)+2≤19588 from Dc)
theorem lg_hd{ths:List Th}{d:List Dm}{s:List Sn}{l:List Pk}(h:lgE ths d s l=0):hdE ths d s=0:=by
 have:=(lg_pk h).1;unfold ofE at this;split at this
 ·rename_i q;exact absurd this q
 ·rename_i q;exact Decidable.of_not_not q
theorem lg_ths{ths:List Th}{d:List Dm}{s:List Sn}{l:List Pk}(h:lgE ths d s l=0):∀t∈ths,(0≤t.id∧t.id≤1000000000000000)∧Cln t.nm:=by
 have h:=lg_hd h;unfold hdE at h;split at h
 ·cases h
 split at h
 ·cases h
 split at h
 ·rename_i q;exact absurd h q
 rename_i q;have q:=Decidable.of_not_not q;intro t ht;obtain⟨i,hi,rfl⟩:=List.mem_iff_getElem.1 ht;have:=fE_ok.1 q i hi;unfold th1 at this;rw[bang_eq hi]at this;split at this
 ·rename_i r;exact absurd this r
 rename_i r;have r:=Decidable.of_not_not r;unfold thE at r;split at r
 ·cases r
 ·exact⟨Om,nm_cln r⟩
theorem lg_evx{ths:List Th}{d:List Dm}{s:List Sn}{l:List Pk}(h:lgE ths d s l=0){p:Pk}(hp:p∈l)(hl:∀x∈p.es,x.st.length=x.k):∀x∈p.es,EvX x:=by
 intro x hx;have q:=(lg_pkok h p hp).e;obtain⟨i,hi,rfl⟩:=List.mem_iff_getElem.1 hx;have:=fE_ok.1 q i hi;unfold ev1 at this;rw[bang_eq hi]at this;split at this
 ·rename_i r;exact absurd this r
 ·rename_i r;exact evX (hl _ hx) (Decidable.of_not_not r)
def xs3(t:List Th)(p:List Pk)(j q:Nat):List J:=(t.map mtJ++(p.take j).flatMap pkJ++(p[j]!.es.take q).map (wrJ p[j]!.th)).map er
def xs2(t:List Th)(p:List Pk)(j:Nat):List J:=(t.map mtJ++(p.take j).flatMap pkJ).map er
theorem xs2_0(t:List Th)(p:List Pk):xs2 t p 0=(t.map mtJ).map er:=by unfold xs2;simp
theorem xs3_0(t:List Th)(p:List Pk)(j:Nat):xs3 t p j 0=xs2 t p j:=by unfold xs3 xs2;simp
theorem xs3_s{t:List Th}{p:List Pk}{j q:Nat}(h:q<p[j]!.es.length):xs3 t p j (q+1)=xs3 t p j q++[er (wrJ p[j]!.th p[j]!.es[q]!)]:=by
 unfold xs3;rw[take_bang h,List.map_append (f:=wrJ _),←List.append_assoc,List.map_append (f:=er)];rfl
theorem xs3_e{t:List Th}{p:List Pk}{j q:Nat}(h:q=p[j]!.es.length)(hj:j<p.length):xs3 t p j q=xs2 t p (j+1):=by
 unfold xs3 xs2;rw[h,List.take_length,take_bang hj,List.flatMap_append,←List.append_assoc];simp[pkJ]
theorem xs2_e(t:List Th)(p:List Pk):xs2 t p p.length=(t.map mtJ++p.flatMap pkJ).map er:=by unfold xs2;rw[List.take_length]
def LgL(p:List Pk):Prop:=∀x∈p,x.es.length=x.k∧∀y∈x.es,y.st.length=y.k
theorem lgL{w:World}{p:List Pk}(g:PksOk w p):LgL p:=fun x hx=>⟨(g x hx).l.len,fun y hy=>((g x hx).e y hy).len⟩
theorem fl_len{p:List Pk}(h:LgL p):∀j,j≤p.length→((p.take j).flatMap pkJ).length=evsum p j
 |0,_=>by simp[evsum,fN]
 |j+1,hj=>by
  rw[take_bang (show j<p.length from hj),List.flatMap_append,List.length_append,fl_len h j Om,evsum_mono];have:=(h _ (mem_b (show j<p.length from hj))).1;rw[←this,List.flatMap_cons,List.flatMap_nil,List.append_nil,pkJ,List.length_map]
theorem xs3_len{t:List Th}{p:List Pk}{j q:Nat}(h:LgL p)(hj:j≤p.length):(xs3 t p j q).length≤t.length+evsum p p.length+q:=by
 unfold xs3;rw[List.length_map,List.length_append,List.length_append,List.length_map,List.length_map,List.length_take,fl_len h j hj];have:=evsum_le_all p j p.length hj;omega
theorem all_kid{ths:List Th}{d:List Dm}{s:List Sn}{l:List Pk}(h:lgE ths d s l=0)(hl:LgL l):∀y∈ths.map mtJ++l.flatMap pkJ,(∃t,((0≤t.id∧t.id≤1000000000000000)∧Cln t.nm)∧y=mtJ t)∨∃p∈l,∃x∈p.es,EvX x∧(0≤p.th∧p.th≤1000000000000000)∧y=wrJ p.th x:=by
 intro y hy;rcases List.mem_append.1 hy with hy|hy
 ·obtain⟨t,ht,rfl⟩:=List.mem_map.1 hy;exact .inl ⟨t,lg_ths h t ht,rfl⟩
 ·obtain⟨p,hp,hy⟩:=List.mem_flatMap.1 hy;obtain⟨x,hx,rfl⟩:=List.mem_map.1 hy;exact .inr ⟨p,hp,x,hx,lg_evx h hp (hl p hp).2 x hx,(lg_pkok h p hp).th,rfl⟩
theorem all_vd{ths:List Th}{d:List Dm}{s:List Sn}{l:List Pk}(h:lgE ths d s l=0)(hl:LgL l):Vd 4 (allJ ths l):=vd_arr fun y hy=>by
 rcases all_kid h hl y hy with⟨t,ht,rfl⟩|⟨p,_,x,_,hx,hi,rfl⟩
 ·exact mt_vd ht
 ·exact wr_vd hx hi
theorem all_pr{ths:List Th}{d:List Dm}{s:List Sn}{l:List Pk}(h:lgE ths d s l=0)(hl:LgL l)(ht:ths.length≤10)(he:evsum l l.length≤24):(pr (allJ ths l)).length≤800000:=by
 have b:=pr_arr (l:=ths.map mtJ++l.flatMap pkJ) (B:=19588) fun y hy=>by
  rcases all_kid h hl y hy with⟨t,ht,rfl⟩|⟨p,_,x,_,hx,hi,rfl⟩
  ·exact mt_pr ht
  ·exact wr_pr hx hi
 have e:=fl_len hl l.length Nl;rw[List.take_length]at e;rw[List.length_append,List.length_map,e]at b;unfold allJ;omega
end TW
end Go.Proofs.YtaclfjjipnpboaaGreatDoor
section
attribute [local irreducible] Go.Eng.WC Go.Eng.WL Go.Eng.WK Go.Eng.WQ Go.Eng.WX Go.Eng.Yld
namespace Go.Proofs.YtaclfjjipnpboaaGreatDoor
open Go Go.Eng Go.RowKit
namespace TW
theorem Hp.jB{W w:World}{L:List Res}(H:Hp W w L)(l:List J)(h:∀y∈l,∃a n s,y=j0 a n s):Hp W w (big jL l::L):=by
 have h:∀n,n≤l.length→Hp W w (big jL (l.take n)::L):=by
  intro n
  induction n with
  |zero=>exact fun _=>H.bigNil jL
  |succ n ih=>
   intro hn;rw[take_bang (show n<l.length from hn)];obtain⟨a,b,c,e⟩:=h _ (mem_b (show n<l.length from hn));rw[e];exact Hp.bigPush jL _ (Hp_j0 (ih Om) a b c)
 have:=h l.length Nl;rwa[List.take_length]at this
theorem export_any(A_ta:Option Addr)(n_ta c_ta:Nat)(ta:List Th)(A_da:Option Addr)(n_da c_da:Nat)(da:List Dm)(A_na:Option Addr)(n_na c_na:Nat)(na:List Sn)(A_pa:Option Addr)(n_pa c_pa:Nat)(pa:List Pk)(w:World)(h_ta:Ls w A_ta n_ta c_ta Th.c 3 ta)(h_da:Ls w A_da n_da c_da Dm.c 2 da)(h_na:Ls w A_na n_na c_na Sn.c 5 na)(h_pa:Ls w A_pa n_pa c_pa Pk.c 4 pa)(g_pa:PksOk w pa)(hk:∀x∈pa,x.k≤1000000)(hl:n_pa≤1000)(ht:n_ta≤1000)(he:evsum pa pa.length≤1000)(hT:Tabs w)(h40:n_pa≤40∧n_ta≤10)(he4:evsum pa pa.length≤24):
  Calls Tryz.prog 6 #[.agg #[.slice A_ta n_ta c_ta,.slice A_da n_da c_da,.slice A_na n_na c_na,.slice A_pa n_pa c_pa]] w fun e w'=>∃s er,e= .returned (.tuple #[.string s,.int .i64 er])∧Ext w w'∧(er=0→(lgE ta da na pa=0∧da.length≤1∧na=[]∧∀x∈pa,x.ls≤0)∧s=⟨(pr (allJ ta pa)).toArray⟩∧(pr (allJ ta pa)).length≤65536):=by
 have H:=(Hp.nil w);have e_ta:=h_ta.len;have z_ta:=h_ta.nle;have e_da:=h_da.len;have z_da:=h_da.nle;have e_na:=h_na.len;have z_na:=h_na.nle;have e_pa:=h_pa.len;have z_pa:=h_pa.nle;have hes:=lgL g_pa;refine Wb Tryz.func6 ?_;refine go ?_;refine bx H fun g2 z H=> ?_;refine go ?_;refine c1 H Fh (lgcheck_any _ _ _ ta _ _ _ da _ _ _ na _ _ _ pa _ (h_ta.ext H.ext) (h_da.ext H.ext) (h_na.ext H.ext) (h_pa.ext H.ext) (g_pa.ext H.ext) hk Om Om he) fun z H=> ?_;refine go ?_;refine Cd (fun p7=> ?_) fun p7=> ?_
 ·refine go ?_;refine Rt [_,_] ?_;exact⟨_,_,rfl,H.ext,fun q=>absurd q p7⟩
 ·have h0:lgE ta da na pa=0:=p7;refine go ?_;refine Cd (fun p11=> ?_) fun p11=> ?_
  ·refine G4 ?_;refine sb [2,3] ?_;refine go ?_;refine Rt [_,_] ?_;exact⟨_,_,rfl,H.ext,fun q=>absurd q Dc⟩
  ·refine go ?_;refine c2 H Fh (gaps_any _ _ _ ta _ _ _ da _ _ _ na _ _ _ pa _ (h_ta.ext H.ext) (h_da.ext H.ext) (h_na.ext H.ext) (h_pa.ext H.ext) (g_pa.ext H.ext) hk Om Om he @h0) fun v15 z H=> ?_;obtain⟨A17,n18,c19,rfl,_,_,_⟩:=H.op 0;refine go ?_;refine Cd (fun p20=> ?_) fun p20=> ?_
   ·refine go ?_;refine Rt [_,_] ?_;exact⟨_,_,rfl,H.ext,fun q=>absurd q Dc⟩
   ·refine go ?_;refine al H ti66 fun g23 z H=> ?_;refine st H 0 ti66 fun z H=> ?_;refine G10 ?_;have H:=(H.drop [1]);have H:=H.nilRow 66 J.v 5;have H:=H.bigNil jL;refine sb [40,1,5,38,39] ?_;refine WC.loopS 1 (fun mz Ed W'=>∃j:Nat,∃ys:List J,∃v:Value,mz=n_ta-j∧Ed=[(40,.int .i64 ((j:Nat):Int))]∧Hp w W' (big jL ys::row 66 J.v 5 v ys::box g23 66 [.int .i64 5,.int .i64 0,.string ⟨#[]⟩,.slice none 0 0,v]::_::[])∧(j≤n_ta)∧(ys.map er=(ta.take j).map fun t=>er (mtJ t))) _ ⟨0,[],_,rfl,rfl,(H.pick [0,0,0,0]),(Nat.zero_le _),rfl⟩ ?_;rintro _ _ z ⟨j,ys,v,rfl,rfl,H,jl,hy⟩;refine go ?_;refine Cd (fun p31=> ?_) fun p31=> ?_
    ·have b34:j<n_ta:=Om;refine go ?_;refine al H ti68 fun g35 z H=> ?_;refine st H 0 ti68 fun z H=> ?_;obtain⟨A37,n38,c39,rfl,_,_,_⟩:=H.op 2;refine go ?_;refine WC.regionG (HpC w _) [0,1,2,3,4,5,6,7,8,9,10,11,12,13,14,15] (.load 0 (.load 1 (.load 4 (.load 5 (.load 7 (.load 8 (.alt 2 (.alt 3 (.alt 6 (.alt 9 (.alt 10 (.load 11 (.alt 12 (.alt 13 (.load 14 (.alt 15 (.drop (.fin)) (.none))) (.none)) (.none))) (.none)) (.none)) (.none)) (.none)) (.alt 3 (.alt 2 (.alt 6 (.alt 9 (.alt 10 (.load 11 (.alt 12 (.alt 13 (.load 14 (.alt 15 (.drop (.fin)) (.none))) (.none)) (.none))) (.none)) (.none)) (.none)) (.alt 6 (.alt 2 (.alt 9 (.alt 10 (.load 11 (.alt 12 (.alt 13 (.load 14 (.alt 15 (.drop (.fin)) (.none))) (.none)) (.none))) (.none)) (.none)) (.alt 9 (.alt 2 (.alt 10 (.load 11 (.alt 12 (.alt 13 (.load 14 (.alt 15 (.drop (.fin)) (.none))) (.none)) (.none))) (.none)) (.alt 10 (.alt 2 (.load 11 (.alt 12 (.alt 13 (.load 14 (.alt 15 (.drop (.fin)) (.none))) (.none)) (.none))) (.none)) (.none))) (.none))) (.none))) (.none))))))))) (H.pick [0,0,1,1]) (by kernel_rfl) (by kernel_rfl) (fun z x=> ?_);have H:=H.ex x;refine G6 ?_;refine WX.alt ?_ ?_
     ·refine bsX (H.pick [0,0,1,1]) (zs:=[.string ⟨#[]⟩,.string ⟨#[]⟩,.string ⟨#[]⟩]) (cs:=[_,_,_]) H u63 ti9 fun g40 z H=> ?_;refine c1X (H.pick [1,1,2,2]) H Fh (chtext_any _ _) fun z H=> ?_;refine c1X (H.pick [1,1,2,2]) H Fh (chnum_any _ _) fun z H=> ?_;refine c1X (H.pick [1,1,2,2]) H Fh (chtext_any _ _) fun z H=> ?_;refine bsX (H.pick [1,1,2,2]) (zs:=[.int .i64 0,.int .i64 0,.string ⟨#[]⟩,.slice none 0 0,.slice none 0 0,.int .i64 0,.int .i64 0,.string ⟨#[]⟩,.slice none 0 0,.slice none 0 0,.int .i64 0,.int .i64 0,.string ⟨#[]⟩,.slice none 0 0,.slice none 0 0]) (cs:=[_,_,_,_,_,_,_,_,_,_,_,_,_,_,_]) H u64 ti66 fun g42 z H=> ?_;refine go ?_;refine bs1X (H.pick [2,2,3,3]) H u64 ti66 fun g44 z H=> ?_;refine apX (H.pick [3,3,4,4]) H 5 0 rfl [(.mk 6 0 ⟨#[]⟩ (some ⟨g40,0,none⟩) 3 3 [⟨#[112,104]⟩,⟨#[116,105,100]⟩,⟨#[110,97,109,101]⟩] (some ⟨g42,0,none⟩) 3 3 [j0 4 0 ⟨#[77]⟩,j0 3 ta[j]!.id ⟨#[]⟩,j0 4 0 ta[j]!.nm])] u64 ti66 rfl J.one (by have:=congrArg List.length hy;rw[List.length_map,List.length_map,List.length_take]at this;simp only[List.length_cons,List.length_nil];omega) fun v46 z H=> ?_;obtain⟨A47,n48,c49,rfl,_,_,_⟩:=H.op 5;refine go ?_;refine stX (H.pick [3,3,4,4]) H 6 ti64 fun z H=> ?_;refine WX.drop ?_;refine WX.nil trivial ?_;have H:=boxRow (f:=J.v) (sz:=5) (l:=[j0 4 0 ⟨#[77]⟩,j0 3 ta[j]!.id ⟨#[]⟩,j0 4 0 ta[j]!.nm]) (H.front [1]) 3 rfl rfl rfl Dc;have H:=boxRow (f:=sc) (sz:=1) (l:=[⟨#[112,104]⟩,⟨#[116,105,100]⟩,⟨#[110,97,109,101]⟩]) (H.front [2]) 3 rfl rfl rfl Dc;have H:=mk_J 6 0 ⟨#[]⟩ ((Hp.jB H [j0 4 0 ⟨#[77]⟩,j0 3 ta[j]!.id ⟨#[]⟩,j0 4 0 ta[j]!.nm] (by intro y hy;simp only[List.mem_cons,List.not_mem_nil,or_false]at hy;rcases hy with rfl|rfl|rfl<;>exact⟨_,_,_,rfl⟩)).front [1,1]);have H:=H.front [0,2];have H:Hp w _ (big jL (ys++[(.mk 6 0 ⟨#[]⟩ (some ⟨g40,0,none⟩) 3 3 [⟨#[112,104]⟩,⟨#[116,105,100]⟩,⟨#[110,97,109,101]⟩] (some ⟨g42,0,none⟩) 3 3 [j0 4 0 ⟨#[77]⟩,j0 3 ta[j]!.id ⟨#[]⟩,j0 4 0 ta[j]!.nm])])::_):=Hp.bigPush jL (.mk 6 0 ⟨#[]⟩ (some ⟨g40,0,none⟩) 3 3 [⟨#[112,104]⟩,⟨#[116,105,100]⟩,⟨#[110,97,109,101]⟩] (some ⟨g42,0,none⟩) 3 3 [j0 4 0 ⟨#[77]⟩,j0 3 ta[j]!.id ⟨#[]⟩,j0 4 0 ta[j]!.nm]) H;refine go ?_;exact Rs [(40,_)] Sx ⟨(j+1),(ys++[(.mk 6 0 ⟨#[]⟩ (some ⟨g40,0,none⟩) 3 3 [⟨#[112,104]⟩,⟨#[116,105,100]⟩,⟨#[110,97,109,101]⟩] (some ⟨g42,0,none⟩) 3 3 [j0 4 0 ⟨#[77]⟩,j0 3 ta[j]!.id ⟨#[]⟩,j0 4 0 ta[j]!.nm])]),(.slice A47 n48 c49),rfl,rfl,(H.pick [0,2,2,2]),Om,(by rw[List.map_append,hy,take_bang (show j<ta.length from Om),List.map_append];rfl)⟩
     refine c1X (H.pick [0,0,1,1]) H Fh (chtext_any _ _) fun z H=> ?_;refine WX.alt ?_ ?_
     ·refine bsX (H.pick [0,0,1,1]) (zs:=[.string ⟨#[]⟩,.string ⟨#[]⟩,.string ⟨#[]⟩]) (cs:=[_,_,_]) H u63 ti9 fun g50 z H=> ?_;refine c1X (H.pick [1,1,2,2]) H Fh (chnum_any _ _) fun z H=> ?_;refine c1X (H.pick [1,1,2,2]) H Fh (chtext_any _ _) fun z H=> ?_;refine bsX (H.pick [1,1,2,2]) (zs:=[.int .i64 0,.int .i64 0,.string ⟨#[]⟩,.slice none 0 0,.slice none 0 0,.int .i64 0,.int .i64 0,.string ⟨#[]⟩,.slice none 0 0,.slice none 0 0,.int .i64 0,.int .i64 0,.string ⟨#[]⟩,.slice none 0 0,.slice none 0 0]) (cs:=[_,_,_,_,_,_,_,_,_,_,_,_,_,_,_]) H u64 ti66 fun g52 z H=> ?_;refine go ?_;refine bs1X (H.pick [2,2,3,3]) H u64 ti66 fun g54 z H=> ?_;refine apX (H.pick [3,3,4,4]) H 5 0 rfl [(.mk 6 0 ⟨#[]⟩ (some ⟨g50,0,none⟩) 3 3 [⟨#[112,104]⟩,⟨#[116,105,100]⟩,⟨#[110,97,109,101]⟩] (some ⟨g52,0,none⟩) 3 3 [j0 4 0 ⟨#[77]⟩,j0 3 ta[j]!.id ⟨#[]⟩,j0 4 0 ta[j]!.nm])] u64 ti66 rfl J.one (by have:=congrArg List.length hy;rw[List.length_map,List.length_map,List.length_take]at this;simp only[List.length_cons,List.length_nil];omega) fun v56 z H=> ?_;obtain⟨A57,n58,c59,rfl,_,_,_⟩:=H.op 5;refine go ?_;refine stX (H.pick [3,3,4,4]) H 6 ti64 fun z H=> ?_;refine WX.drop ?_;refine WX.nil trivial ?_;have H:=boxRow (f:=J.v) (sz:=5) (l:=[j0 4 0 ⟨#[77]⟩,j0 3 ta[j]!.id ⟨#[]⟩,j0 4 0 ta[j]!.nm]) (H.front [1]) 3 rfl rfl rfl Dc;have H:=boxRow (f:=sc) (sz:=1) (l:=[⟨#[112,104]⟩,⟨#[116,105,100]⟩,⟨#[110,97,109,101]⟩]) (H.front [2]) 3 rfl rfl rfl Dc;have H:=mk_J 6 0 ⟨#[]⟩ ((Hp.jB H [j0 4 0 ⟨#[77]⟩,j0 3 ta[j]!.id ⟨#[]⟩,j0 4 0 ta[j]!.nm] (by intro y hy;simp only[List.mem_cons,List.not_mem_nil,or_false]at hy;rcases hy with rfl|rfl|rfl<;>exact⟨_,_,_,rfl⟩)).front [1,1]);have H:=H.front [0,2];have H:Hp w _ (big jL (ys++[(.mk 6 0 ⟨#[]⟩ (some ⟨g50,0,none⟩) 3 3 [⟨#[112,104]⟩,⟨#[116,105,100]⟩,⟨#[110,97,109,101]⟩] (some ⟨g52,0,none⟩) 3 3 [j0 4 0 ⟨#[77]⟩,j0 3 ta[j]!.id ⟨#[]⟩,j0 4 0 ta[j]!.nm])])::_):=Hp.bigPush jL (.mk 6 0 ⟨#[]⟩ (some ⟨g50,0,none⟩) 3 3 [⟨#[112,104]⟩,⟨#[116,105,100]⟩,⟨#[110,97,109,101]⟩] (some ⟨g52,0,none⟩) 3 3 [j0 4 0 ⟨#[77]⟩,j0 3 ta[j]!.id ⟨#[]⟩,j0 4 0 ta[j]!.nm]) H;refine go ?_;exact Rs [(40,_)] Sx ⟨(j+1),(ys++[(.mk 6 0 ⟨#[]⟩ (some ⟨g50,0,none⟩) 3 3 [⟨#[112,104]⟩,⟨#[116,105,100]⟩,⟨#[110,97,109,101]⟩] (some ⟨g52,0,none⟩) 3 3 [j0 4 0 ⟨#[77]⟩,j0 3 ta[j]!.id ⟨#[]⟩,j0 4 0 ta[j]!.nm])]),(.slice A57 n58 c59),rfl,rfl,(H.pick [0,2,2,2]),Om,(by rw[List.map_append,hy,take_bang (show j<ta.length from Om),List.map_append];rfl)⟩
     refine c1X (H.pick [0,0,1,1]) H Fh (chnum_any _ _) fun z H=> ?_;refine WX.alt ?_ ?_
     ·refine bsX (H.pick [0,0,1,1]) (zs:=[.string ⟨#[]⟩,.string ⟨#[]⟩,.string ⟨#[]⟩]) (cs:=[_,_,_]) H u63 ti9 fun g60 z H=> ?_;refine c1X (H.pick [1,1,2,2]) H Fh (chtext_any _ _) fun z H=> ?_;refine bsX (H.pick [1,1,2,2]) (zs:=[.int .i64 0,.int .i64 0,.string ⟨#[]⟩,.slice none 0 0,.slice none 0 0,.int .i64 0,.int .i64 0,.string ⟨#[]⟩,.slice none 0 0,.slice none 0 0,.int .i64 0,.int .i64 0,.string ⟨#[]⟩,.slice none 0 0,.slice none 0 0]) (cs:=[_,_,_,_,_,_,_,_,_,_,_,_,_,_,_]) H u64 ti66 fun g62 z H=> ?_;refine go ?_;refine bs1X (H.pick [2,2,3,3]) H u64 ti66 fun g64 z H=> ?_;refine apX (H.pick [3,3,4,4]) H 5 0 rfl [(.mk 6 0 ⟨#[]⟩ (some ⟨g60,0,none⟩) 3 3 [⟨#[112,104]⟩,⟨#[116,105,100]⟩,⟨#[110,97,109,101]⟩] (some ⟨g62,0,none⟩) 3 3 [j0 4 0 ⟨#[77]⟩,j0 3 ta[j]!.id ⟨#[]⟩,j0 4 0 ta[j]!.nm])] u64 ti66 rfl J.one (by have:=congrArg List.length hy;rw[List.length_map,List.length_map,List.length_take]at this;simp only[List.length_cons,List.length_nil];omega) fun v66 z H=> ?_;obtain⟨A67,n68,c69,rfl,_,_,_⟩:=H.op 5;refine go ?_;refine stX (H.pick [3,3,4,4]) H 6 ti64 fun z H=> ?_;refine WX.drop ?_;refine WX.nil trivial ?_;have H:=boxRow (f:=J.v) (sz:=5) (l:=[j0 4 0 ⟨#[77]⟩,j0 3 ta[j]!.id ⟨#[]⟩,j0 4 0 ta[j]!.nm]) (H.front [1]) 3 rfl rfl rfl Dc;have H:=boxRow (f:=sc) (sz:=1) (l:=[⟨#[112,104]⟩,⟨#[116,105,100]⟩,⟨#[110,97,109,101]⟩]) (H.front [2]) 3 rfl rfl rfl Dc;have H:=mk_J 6 0 ⟨#[]⟩ ((Hp.jB H [j0 4 0 ⟨#[77]⟩,j0 3 ta[j]!.id ⟨#[]⟩,j0 4 0 ta[j]!.nm] (by intro y hy;simp only[List.mem_cons,List.not_mem_nil,or_false]at hy;rcases hy with rfl|rfl|rfl<;>exact⟨_,_,_,rfl⟩)).front [1,1]);have H:=H.front [0,2];have H:Hp w _ (big jL (ys++[(.mk 6 0 ⟨#[]⟩ (some ⟨g60,0,none⟩) 3 3 [⟨#[112,104]⟩,⟨#[116,105,100]⟩,⟨#[110,97,109,101]⟩] (some ⟨g62,0,none⟩) 3 3 [j0 4 0 ⟨#[77]⟩,j0 3 ta[j]!.id ⟨#[]⟩,j0 4 0 ta[j]!.nm])])::_):=Hp.bigPush jL (.mk 6 0 ⟨#[]⟩ (some ⟨g60,0,none⟩) 3 3 [⟨#[112,104]⟩,⟨#[116,105,100]⟩,⟨#[110,97,109,101]⟩] (some ⟨g62,0,none⟩) 3 3 [j0 4 0 ⟨#[77]⟩,j0 3 ta[j]!.id ⟨#[]⟩,j0 4 0 ta[j]!.nm]) H;refine G2 ?_;refine sb [1,5,38,39,40] ?_;refine go ?_;exact Rs [(40,_)] Sx ⟨(j+1),(ys++[(.mk 6 0 ⟨#[]⟩ (some ⟨g60,0,none⟩) 3 3 [⟨#[112,104]⟩,⟨#[116,105,100]⟩,⟨#[110,97,109,101]⟩] (some ⟨g62,0,none⟩) 3 3 [j0 4 0 ⟨#[77]⟩,j0 3 ta[j]!.id ⟨#[]⟩,j0 4 0 ta[j]!.nm])]),(.slice A67 n68 c69),rfl,rfl,(H.pick [0,2,2,2]),Om,(by rw[List.map_append,hy,take_bang (show j<ta.length from Om),List.map_append];rfl)⟩
     refine c1X (H.pick [0,0,1,1]) H Fh (chtext_any _ _) fun z H=> ?_;refine WX.alt ?_ ?_
     ·refine bsX (H.pick [0,0,1,1]) (zs:=[.string ⟨#[]⟩,.string ⟨#[]⟩,.string ⟨#[]⟩]) (cs:=[_,_,_]) H u63 ti9 fun g70 z H=> ?_;refine bsX (H.pick [1,1,2,2]) (zs:=[.int .i64 0,.int .i64 0,.string ⟨#[]⟩,.slice none 0 0,.slice none 0 0,.int .i64 0,.int .i64 0,.string ⟨#[]⟩,.slice none 0 0,.slice none 0 0,.int .i64 0,.int .i64 0,.string ⟨#[]⟩,.slice none 0 0,.slice none 0 0]) (cs:=[_,_,_,_,_,_,_,_,_,_,_,_,_,_,_]) H u64 ti66 fun g72 z H=> ?_;refine go ?_;refine bs1X (H.pick [2,2,3,3]) H u64 ti66 fun g74 z H=> ?_;refine apX (H.pick [3,3,4,4]) H 5 0 rfl [(.mk 6 0 ⟨#[]⟩ (some ⟨g70,0,none⟩) 3 3 [⟨#[112,104]⟩,⟨#[116,105,100]⟩,⟨#[110,97,109,101]⟩] (some ⟨g72,0,none⟩) 3 3 [j0 4 0 ⟨#[77]⟩,j0 3 ta[j]!.id ⟨#[]⟩,j0 4 0 ta[j]!.nm])] u64 ti66 rfl J.one (by have:=congrArg List.length hy;rw[List.length_map,List.length_map,List.length_take]at this;simp only[List.length_cons,List.length_nil];omega) fun v76 z H=> ?_;obtain⟨A77,n78,c79,rfl,_,_,_⟩:=H.op 5;refine go ?_;refine stX (H.pick [3,3,4,4]) H 6 ti64 fun z H=> ?_;refine WX.drop ?_;refine WX.nil trivial ?_;have H:=boxRow (f:=J.v) (sz:=5) (l:=[j0 4 0 ⟨#[77]⟩,j0 3 ta[j]!.id ⟨#[]⟩,j0 4 0 ta[j]!.nm]) (H.front [1]) 3 rfl rfl rfl Dc;have H:=boxRow (f:=sc) (sz:=1) (l:=[⟨#[112,104]⟩,⟨#[116,105,100]⟩,⟨#[110,97,109,101]⟩]) (H.front [2]) 3 rfl rfl rfl Dc;have H:=mk_J 6 0 ⟨#[]⟩ ((Hp.jB H [j0 4 0 ⟨#[77]⟩,j0 3 ta[j]!.id ⟨#[]⟩,j0 4 0 ta[j]!.nm] (by intro y hy;simp only[List.mem_cons,List.not_mem_nil,or_false]at hy;rcases hy with rfl|rfl|rfl<;>exact⟨_,_,_,rfl⟩)).front [1,1]);have H:=H.front [0,2];have H:Hp w _ (big jL (ys++[(.mk 6 0 ⟨#[]⟩ (some ⟨g70,0,none⟩) 3 3 [⟨#[112,104]⟩,⟨#[116,105,100]⟩,⟨#[110,97,109,101]⟩] (some ⟨g72,0,none⟩) 3 3 [j0 4 0 ⟨#[77]⟩,j0 3 ta[j]!.id ⟨#[]⟩,j0 4 0 ta[j]!.nm])])::_):=Hp.bigPush jL (.mk 6 0 ⟨#[]⟩ (some ⟨g70,0,none⟩) 3 3 [⟨#[112,104]⟩,⟨#[116,105,100]⟩,⟨#[110,97,109,101]⟩] (some ⟨g72,0,none⟩) 3 3 [j0 4 0 ⟨#[77]⟩,j0 3 ta[j]!.id ⟨#[]⟩,j0 4 0 ta[j]!.nm]) H;refine go ?_;exact Rs [(40,_)] Sx ⟨(j+1),(ys++[(.mk 6 0 ⟨#[]⟩ (some ⟨g70,0,none⟩) 3 3 [⟨#[112,104]⟩,⟨#[116,105,100]⟩,⟨#[110,97,109,101]⟩] (some ⟨g72,0,none⟩) 3 3 [j0 4 0 ⟨#[77]⟩,j0 3 ta[j]!.id ⟨#[]⟩,j0 4 0 ta[j]!.nm])]),(.slice A77 n78 c79),rfl,rfl,(H.pick [0,2,2,2]),Om,(by rw[List.map_append,hy,take_bang (show j<ta.length from Om),List.map_append];rfl)⟩
     refine bsX (H.pick [0,0,1,1]) (zs:=[.int .i64 0,.int .i64 0,.string ⟨#[]⟩,.slice none 0 0,.slice none 0 0,.int .i64 0,.int .i64 0,.string ⟨#[]⟩,.slice none 0 0,.slice none 0 0,.int .i64 0,.int .i64 0,.string ⟨#[]⟩,.slice none 0 0,.slice none 0 0]) (cs:=[_,_,_,_,_,_,_,_,_,_,_,_,_,_,_]) H u64 ti66 fun g80 z H=> ?_;refine bsX (H.pick [1,1,2,2]) (zs:=[.string ⟨#[]⟩,.string ⟨#[]⟩,.string ⟨#[]⟩]) (cs:=[_,_,_]) H u63 ti9 fun g82 z H=> ?_;refine go ?_;refine bs1X (H.pick [2,2,3,3]) H u64 ti66 fun g84 z H=> ?_;refine apX (H.pick [3,3,4,4]) H 5 0 rfl [(.mk 6 0 ⟨#[]⟩ (some ⟨g82,0,none⟩) 3 3 [⟨#[112,104]⟩,⟨#[116,105,100]⟩,⟨#[110,97,109,101]⟩] (some ⟨g80,0,none⟩) 3 3 [j0 4 0 ⟨#[77]⟩,j0 3 ta[j]!.id ⟨#[]⟩,j0 4 0 ta[j]!.nm])] u64 ti66 rfl J.one (by have:=congrArg List.length hy;rw[List.length_map,List.length_map,List.length_take]at this;simp only[List.length_cons,List.length_nil];omega) fun v86 z H=> ?_;obtain⟨A87,n88,c89,rfl,_,_,_⟩:=H.op 5;refine go ?_;refine stX (H.pick [3,3,4,4]) H 6 ti64 fun z H=> ?_;refine WX.drop ?_;refine WX.nil trivial ?_;have H:=boxRow (f:=J.v) (sz:=5) (l:=[j0 4 0 ⟨#[77]⟩,j0 3 ta[j]!.id ⟨#[]⟩,j0 4 0 ta[j]!.nm]) (H.front [2]) 3 rfl rfl rfl Dc;have H:=boxRow (f:=sc) (sz:=1) (l:=[⟨#[112,104]⟩,⟨#[116,105,100]⟩,⟨#[110,97,109,101]⟩]) (H.front [2]) 3 rfl rfl rfl Dc;have H:=mk_J 6 0 ⟨#[]⟩ ((Hp.jB H [j0 4 0 ⟨#[77]⟩,j0 3 ta[j]!.id ⟨#[]⟩,j0 4 0 ta[j]!.nm] (by intro y hy;simp only[List.mem_cons,List.not_mem_nil,or_false]at hy;rcases hy with rfl|rfl|rfl<;>exact⟨_,_,_,rfl⟩)).front [1,1]);have H:=H.front [0,2];have H:Hp w _ (big jL (ys++[(.mk 6 0 ⟨#[]⟩ (some ⟨g82,0,none⟩) 3 3 [⟨#[112,104]⟩,⟨#[116,105,100]⟩,⟨#[110,97,109,101]⟩] (some ⟨g80,0,none⟩) 3 3 [j0 4 0 ⟨#[77]⟩,j0 3 ta[j]!.id ⟨#[]⟩,j0 4 0 ta[j]!.nm])])::_):=Hp.bigPush jL (.mk 6 0 ⟨#[]⟩ (some ⟨g82,0,none⟩) 3 3 [⟨#[112,104]⟩,⟨#[116,105,100]⟩,⟨#[110,97,109,101]⟩] (some ⟨g80,0,none⟩) 3 3 [j0 4 0 ⟨#[77]⟩,j0 3 ta[j]!.id ⟨#[]⟩,j0 4 0 ta[j]!.nm]) H;refine go ?_;exact Rs [(40,_)] Sx ⟨(j+1),(ys++[(.mk 6 0 ⟨#[]⟩ (some ⟨g82,0,none⟩) 3 3 [⟨#[112,104]⟩,⟨#[116,105,100]⟩,⟨#[110,97,109,101]⟩] (some ⟨g80,0,none⟩) 3 3 [j0 4 0 ⟨#[77]⟩,j0 3 ta[j]!.id ⟨#[]⟩,j0 4 0 ta[j]!.nm])]),(.slice A87 n88 c89),rfl,rfl,(H.pick [0,2,2,2]),Om,(by rw[List.map_append,hy,take_bang (show j<ta.length from Om),List.map_append];rfl)⟩
    ·refine G13 ?_;have H:=((H.drop [3]).front [2,1,0]);refine sb [63,5,61,62] ?_;refine WC.loopS 1 (fun mz Ed W'=>∃j:Nat,∃ys:List J,∃v:Value,mz=n_pa-j∧Ed=[(63,.int .i64 ((j:Nat):Int))]∧Hp w W' (box g23 66 [.int .i64 5,.int .i64 0,.string ⟨#[]⟩,.slice none 0 0,v]::row 66 J.v 5 v ys::big jL ys::[])∧(j≤n_pa)∧(ys.map er=xs2 ta pa j)) _ ⟨0,ys,_,rfl,rfl,(H.pick [0,0,0]),(Nat.zero_le _),(by rw[xs2_0,hy,show j=ta.length from Om,List.take_length,List.map_map];rfl)⟩ ?_;rintro _ _ z ⟨j,ys,v,rfl,rfl,H,jl,hy⟩;refine go ?_;refine Cd (fun p94=> ?_) fun p94=> ?_
     ·have jlt:j<pa.length:=Om;have gp:=g_pa _ (mem_b jlt);have el:=gp.l.len;have zl:=gp.l.nle;have b97:j<n_pa:=Om;refine go ?_;refine al H ti55 fun g98 z H=> ?_;refine st H 0 ti55 fun z H=> ?_;refine go ?_;refine sb [70,5,9,61,62,63,68,69] ?_;refine WC.loopS 1 (fun mz Ed W'=>∃q:Nat,∃zs:List J,∃vq:Value,mz=pa[j]!.k-q∧Ed=[(70,.int .i64 ((q:Nat):Int))]∧Hp w W' (_::box g23 66 [.int .i64 5,.int .i64 0,.string ⟨#[]⟩,.slice none 0 0,vq]::row 66 J.v 5 vq zs::big jL zs::[])∧(q≤pa[j]!.k)∧(zs.map er=xs3 ta pa j q)) _ ⟨0,ys,_,rfl,rfl,(H.pick [0,0,0,0]),(Nat.zero_le _),(hy.trans (xs3_0 ta pa j).symm)⟩ ?_;rintro _ _ z ⟨q,zs,vq,rfl,rfl,H,ql,hq⟩;refine go ?_;refine Cd (fun p103=> ?_) fun p103=> ?_
      ·have gx:=gp.e _ (mem_b (show q<pa[j]!.es.length from Om));have ex:=lg_evx h0 (mem_b jlt) (hes _ (mem_b jlt)).2 _ (mem_b (show q<pa[j]!.es.length from Om));have b106:q<pa[j]!.k:=Om;refine G5 ?_;refine yy (Y.indexLs q ((g_pa _ (mem_b (show j<pa.length from Om))).ext H.ext).l rfl u53 ti73 rfl rfl rfl b106) ?_;refine yy (Y.loadS (cs:=[_,_,_,_,_,_]) rfl u73 rfl ti73 rfl (Ls.part_eq ((g_pa _ (mem_b (show j<pa.length from Om))).ext H.ext).l b106 rfl)) ?_;refine al H ti73 fun g107 z H=> ?_;refine st H 0 ti73 fun z H=> ?_;obtain⟨A109,n110,c111,rfl,_,_,_⟩:=H.op 3;refine go ?_;refine WC.regionG (HpC w _) [0,1,2,3,4,5,6,7,8,9] (.load 0 (.load 1 (.load 2 (.load 3 (.load 4 (.alt 5 (.alt 6 (.alt 7 (.load 8 (.alt 9 (.drop (.fin)) (.none))) (.none)) (.none)) (.none))))))) (H.pick [0,0,0,1]) (by kernel_rfl) (by kernel_rfl) (fun z x=> ?_);have H:=H.ex x;refine go ?_;refine c3X (H.pick [0,0,0,1]) Fh (written_any pa[j]!.th pa[j]!.es[q]! _ _ _ (H.front []) gx ex.kd ex.st.1) ?_;rintro _ z ⟨y112,rfl,h113,H⟩;refine⟨_,rfl,?_⟩;refine bs1X (H.pick [1,1,1,2]) H u64 ti66 fun g115 z H=> ?_;refine apX (H.pick [2,2,2,3]) H 5 0 rfl [y112] u64 ti66 rfl J.one (by have:=congrArg List.length hq;rw[List.length_map]at this;have:=xs3_len (t:=ta) (q:=q) hes (show j≤pa.length from Om);have:=(lg_pkok h0 _ (mem_b jlt)).k;simp only[List.length_cons,List.length_nil];omega) fun v117 z H=> ?_;obtain⟨A118,n119,c120,rfl,_,_,_⟩:=H.op 5;refine go ?_;refine stX (H.pick [2,2,2,3]) H 4 ti64 fun z H=> ?_;refine WX.drop ?_;refine WX.nil trivial ?_;have H:=H.front [1,5];have H:Hp w _ (big jL (zs++[y112])::_):=Hp.bigPush jL y112 H;refine go ?_;exact Rs [(70,_)] Sx ⟨(q+1),(zs++[y112]),(.slice A118 n119 c120),rfl,rfl,(H.pick [3,3,3,0]),Om,(by rw[List.map_append,hq,xs3_s Om];exact congrArg (_++[·]) h113)⟩
      ·refine go ?_;exact Rs [(63,_)] Sx ⟨(j+1),zs,vq,rfl,rfl,(H.pick [1,1,1]),Om,(hq.trans (xs3_e Om Om))⟩
     ·obtain⟨A122,n123,c124,rfl,_,_,_⟩:=H.op 1;refine G7 ?_;have H:=(H.drop [0]);have H:=mk_J 5 0 ⟨#[]⟩ (H.nilRow 9 sc 1);have gj:=Hp_gm H 0;have sj:Sj (.mk 5 0 ⟨#[]⟩ none 0 0 [] A122 n123 c124 ys) (allJ ta pa):=Sj.mk rfl rfl rfl rfl (show ys.map er=_ by rw[hy,show j=pa.length from Om];exact xs2_e ta pa);have vj:=Vd_er sj (all_vd h0 hes);have lj:(pr (.mk 5 0 ⟨#[]⟩ none 0 0 [] A122 n123 c124 ys)).length≤800000:=by rw[sj.pr];exact all_pr h0 hes Om he4
      refine c1 H Fh (Print_any (.mk 5 0 ⟨#[]⟩ none 0 0 [] A122 n123 c124 ys) 4 _ gj vj (hT.ext H.ext) Dc (Int.le_refl 5) lj) fun z H=> ?_;refine G6 ?_;refine sb [12,13] ?_;refine G3 ?_;refine yy (Yld.cast (Y.neq rfl rfl rfl) (vb rfl)) ?_;refine go ?_;refine WC.condF rfl ?_;refine G5 ?_;refine yy (Y.lenStr rfl rfl rfl u9 rfl) ?_;refine go ?_;refine Cd (fun p129=> ?_) fun p129=> ?_
      ·refine go ?_;refine Rt [_,_] ?_;exact⟨_,_,rfl,H.ext,fun q=>absurd q Dc⟩
      ·refine go ?_;refine Rt [_,_] ?_;exact⟨_,0,rfl,H.ext,fun _=>⟨⟨h0,Om,List.eq_nil_of_length_eq_zero Om,gap_no (List.eq_nil_of_length_eq_zero Om)⟩,congrArg (fun l=>(⟨l.toArray⟩:ByteArray)) sj.pr,by rw[←sj.pr];exact Int.ofNat_le.1 (Int.not_lt.1 p129)⟩⟩
def ixS(l:List ByteArray)(k:ByteArray):Int:=ixP (fun y=>k==y) l
def kv(u:J)(k:ByteArray):J:=u.kids[(ixS u.ks k).toNat]!
theorem ixS_mem{l:List ByteArray}{k:ByteArray}(h:k∈l):0≤ixS l k∧(ixS l k).toNat<l.length∧l[(ixS l k).toNat]! =k:=by
 have h1:ixS l k≥0:=by
  unfold ixS ixP;have:l.findIdx (fun y=>k==y)<l.length:=List.findIdx_lt_length_of_exists ⟨k,h,beqB_eq.2 rfl⟩;rw[if_pos this];omega
 have:=ixP_lt (fun y=>k==y) l;have q:=ixP_some (p:=fun y=>k==y) (l:=l) (by unfold ixS at h1;omega);exact⟨h1,q.2.1,(beqB_eq.1 q.2.2.1).symm⟩
theorem gm_kv{w:World}{u:J}{k:ByteArray}(g:Gm w u)(h:k∈u.ks)(hl:u.ks.length=u.kids.length):Gm w (kv u k):=g.kid (hl▸(ixS_mem h).2.1)
theorem kv_map{u:J}{ks:List ByteArray}{f:ByteArray→J}{k:ByteArray}(h:Sj u (.mk 6 0 ⟨#[]⟩ none 0 0 ks none 0 0 (ks.map f)))(hk:k∈ks):Sj (kv u k) (f k):=by
 have e:u.ks=ks:=h.ks;have hl:u.kids.length=ks.length:=by rw[h.len];exact List.length_map _
 have q:=ixS_mem (e▸hk:k∈u.ks);have s:=h.kid (i:=(ixS u.ks k).toNat) (by rw[hl,←e];exact q.2.1);unfold kv;refine s.trans ?_;have lt:(ixS u.ks k).toNat<ks.length:=by rw[←e];exact q.2.1
 show er (ks.map f)[(ixS u.ks k).toNat]! =er (f k);rw[bang_eq (by rw[List.length_map];exact lt),List.getElem_map,←bang_eq lt];rw[show ks[(ixS u.ks k).toNat]! =k from by have:=q.2.2;rw[e]at this ⊢;exact this]
theorem kv_wr{u:J}{i:Int}{x:Ev}{k:ByteArray}(h:Sj u (wrJ i x))(hk:k∈wrK x):Sj (kv u k) (valF (cfE x) i x k):=kv_map h hk
structure Obj(u:J):Prop where
 op:u.op=6
 len:u.ks.length=u.kids.length
theorem wr_obj{u:J}{i:Int}{x:Ev}(h:Sj u (wrJ i x)):Obj u:=⟨h.op,by rw[h.ks,h.len];exact(List.length_map _).symm⟩
theorem mt_obj{u:J}{t:Th}(h:Sj u (mtJ t)):Obj u:=⟨h.op,by rw[h.ks,h.len];rfl⟩
theorem cf_k1:∀f∈cfL,∀on:Bool,(∃k∈keysF f on,k=⟨#[112,104]⟩)∧(∃k∈keysF f on,k=⟨#[116,105,100]⟩)∧(∃k∈keysF f on,k=⟨#[116,115]⟩):=by decide+kernel
theorem cf_k2:∀f∈cfL,∀on:Bool,(f.nm=true→∃k∈keysF f on,k=⟨#[110,97,109,101]⟩)∧(f.hs=true→∃k∈keysF f on,k=⟨#[115,116,97,99,107]⟩):=by decide+kernel
theorem cf_k3:∀f∈cfL,∀on:Bool,(f.fn≠⟨#[]⟩→∃k∈keysF f on,k=f.fn)∧(f.fm≠⟨#[]⟩→on=true→∃k∈keysF f on,k=f.fm):=by decide+kernel
theorem cf_k4:∀f∈cfL,(f.fn≠⟨#[112,104]⟩∧f.fn≠⟨#[116,105,100]⟩∧f.fn≠⟨#[116,115]⟩∧f.fn≠⟨#[110,97,109,101]⟩∧f.fn≠⟨#[115,116,97,99,107]⟩):=by decide+kernel
theorem cf_k5:∀f∈cfL,(f.fm≠⟨#[112,104]⟩∧f.fm≠⟨#[116,105,100]⟩∧f.fm≠⟨#[116,115]⟩∧f.fm≠⟨#[110,97,109,101]⟩∧f.fm≠⟨#[115,116,97,99,107]⟩∧(f.fm≠⟨#[]⟩→f.fm≠f.fn))∧f.ph≠⟨#[77]⟩:=by decide+kernel
theorem cf_ph:∀k:Fin 12,ixP (fun f:Cf=>f.ph==cfL[k.val]!.ph) cfL=((k.val:Nat):Int):=by decide+kernel
theorem ixph{x:Ev}(h:1≤x.kd∧x.kd≤12):ixP (fun f:Cf=>f.ph==(cfE x).ph) cfL=(((x.kd-1).toNat:Nat):Int):=cf_ph ⟨(x.kd-1).toNat,Om⟩
structure WrV(u:J)(i:Int)(x:Ev):Prop where
 ob:Obj u
 ks:u.ks=wrK x
 ph:(⟨#[112,104]⟩:ByteArray)∈u.ks∧(kv u ⟨#[112,104]⟩).op=4∧(kv u ⟨#[112,104]⟩).s=(cfE x).ph
 tid:(⟨#[116,105,100]⟩:ByteArray)∈u.ks∧(kv u ⟨#[116,105,100]⟩).op=3∧(kv u ⟨#[116,105,100]⟩).n=i
 ts:(⟨#[116,115]⟩:ByteArray)∈u.ks∧(kv u ⟨#[116,115]⟩).op=3∧(kv u ⟨#[116,115]⟩).n=x.at_
 nm:(cfE x).nm=true→(⟨#[110,97,109,101]⟩:ByteArray)∈u.ks∧(kv u ⟨#[110,97,109,101]⟩).op=4∧(kv u ⟨#[110,97,109,101]⟩).s=x.nm
 n:(cfE x).fn≠⟨#[]⟩→(cfE x).fn∈u.ks∧(kv u (cfE x).fn).op=3∧(kv u (cfE x).fn).n=x.n
 m:(cfE x).fm≠⟨#[]⟩→onE x=true→(cfE x).fm∈u.ks∧(kv u (cfE x).fm).op=3∧(kv u (cfE x).fm).n=x.m
 st:(cfE x).hs=true→(⟨#[115,116,97,99,107]⟩:ByteArray)∈u.ks∧(kv u ⟨#[115,116,97,99,107]⟩).op=5∧(kv u ⟨#[115,116,97,99,107]⟩).kids.map er=x.st.map fun s=>er (j0 4 0 s)
theorem wrV{u:J}{i:Int}{x:Ev}(h:Sj u (wrJ i x))(hk:1≤x.kd∧x.kd≤12):WrV u i x:=by
 obtain⟨⟨_,c1,rfl⟩,⟨_,c2,rfl⟩,⟨_,c3,rfl⟩⟩:=cf_k1 _ (cfE_mem hk) (onE x);obtain⟨c4,c5⟩:=cf_k2 _ (cfE_mem hk) (onE x);obtain⟨c6,c7⟩:=cf_k3 _ (cfE_mem hk) (onE x);have c8:=cf_k4 _ (cfE_mem hk);have c9:=(cf_k5 _ (cfE_mem hk)).1;have e:u.ks=wrK x:=h.ks;have go:∀{k:ByteArray} {y:J},k∈wrK x→valF (cfE x) i x k=y→k∈u.ks∧Sj (kv u k) y:=fun{k y} hk hv=>⟨e▸hk,hv▸kv_wr h hk⟩;refine⟨wr_obj h,e,?_,?_,?_,fun q=> ?_,fun q=> ?_,fun q r=> ?_,fun q=> ?_⟩
 ·have g:=go (y:=j0 4 0 (cfE x).ph) c1 rfl;exact⟨g.1,g.2.op,g.2.s⟩
 ·have g:=go (y:=j0 3 i ⟨#[]⟩) c2 rfl;exact⟨g.1,g.2.op,g.2.n⟩
 ·have g:=go (y:=j0 3 x.at_ ⟨#[]⟩) c3 rfl;exact⟨g.1,g.2.op,g.2.n⟩
 ·obtain⟨_,c,rfl⟩:=c4 q;have g:=go (y:=j0 4 0 x.nm) c rfl;exact⟨g.1,g.2.op,g.2.s⟩
 ·obtain⟨_,c,rfl⟩:=c6 q;have g:=go (y:=j0 3 x.n ⟨#[]⟩) c (by unfold valF;rw[if_neg c8.1,if_neg c8.2.1,if_neg c8.2.2.2.1,if_neg c8.2.2.1,if_neg c8.2.2.2.2,if_pos rfl]);exact⟨g.1,g.2.op,g.2.n⟩
 ·obtain⟨_,c,rfl⟩:=c7 q r;have g:=go (y:=j0 3 x.m ⟨#[]⟩) c (by unfold valF;rw[if_neg c9.1,if_neg c9.2.1,if_neg c9.2.2.2.1,if_neg c9.2.2.1,if_neg c9.2.2.2.2.1,if_neg (c9.2.2.2.2.2 q)]);exact⟨g.1,g.2.op,g.2.n⟩
 ·obtain⟨_,c,rfl⟩:=c5 q;have g:=go (y:=.mk 5 0 ⟨#[]⟩ none 0 0 [] none 0 0 (x.st.map fun s=>j0 4 0 s)) c rfl;exact⟨g.1,g.2.op,g.2.kids.trans (List.map_map ..)⟩
theorem ixStr_any(A_l:Option Addr)(n_l c_l:Nat)(l:List ByteArray)(s:ByteArray)(w:World)(h_l:Ls w A_l n_l c_l sc 1 l):
  Cr 155 #[.slice A_l n_l c_l,.string s] w (.int .i64 (ixS l s)):=by
 have H:=(Hp.nil w);have e_l:=h_l.len;have z_l:=h_l.nle;refine Wb Tryz.func155 ?_;refine go ?_;refine sb [8,0,1,7] ?_;refine WC.loopS 1 (fun mz Ed W'=>∃j:Nat,mz=n_l-j∧Ed=[(8,.int .i64 ((j:Nat):Int))]∧Hp w W' ([])∧(j≤n_l)∧(∀k,k<j→(s==l[k]!)=false)) _ ⟨0,rfl,rfl,(H.pick []),(Nat.zero_le _),(fun k h=>absurd h (Nat.not_lt_zero k))⟩ ?_;rintro _ _ z ⟨j,rfl,rfl,H,jl,hp⟩;refine go ?_;refine Cd (fun p6=> ?_) fun p6=> ?_
 ·have b10:j<n_l:=Om;refine go ?_;refine WC.cond rfl (fun h11=> ?_) (fun h11=> ?_)
  ·have p11:=(beqB_eq.1 h11);refine go ?_;refine Rt [_] ?_;exact⟨ret1 (vi (ixP_at (p:=fun y=>s==y) Om hp h11).symm),H.ext⟩
  ·have p11:=(beqB_ne.1 h11);refine go ?_;exact Rs [(8,_)] Sx ⟨(j+1),rfl,rfl,(H.pick []),Om,(fun k h=>(Nat.lt_succ_iff_lt_or_eq.1 h).elim (hp k) fun e=>e▸h11)⟩
 ·refine go ?_;refine Rt [_] ?_;exact⟨ret1 (vi (ixP_no (fun k hk=>hp k Om)).symm),H.ext⟩
theorem hasStr_any(A_l:Option Addr)(n_l c_l:Nat)(l:List ByteArray)(s:ByteArray)(w:World)(h_l:Ls w A_l n_l c_l sc 1 l):
  Cr 118 #[.slice A_l n_l c_l,.string s] w (.bool (decide (ixS l s≥0))):=by
 have H:=(Hp.nil w);have e_l:=h_l.len;have z_l:=h_l.nle;refine Wb Tryz.func118 ?_;refine G3 ?_;refine sb [0,1] ?_;refine go ?_;refine c1 H Fh (ixStr_any _ _ _ l s _ (h_l.ext H.ext)) fun z H=> ?_;refine go ?_;refine Rt [_] ?_;exact⟨rfl,H.ext⟩
theorem Get_any(u:J)(key:ByteArray)(w:World)(g_u:Gm w u)(ob:Obj u)(hk:key∈u.ks):
  Cr 115 #[.agg #[.int .i64 u.op,.int .i64 u.n,.string u.s,.slice u.A u.k u.c,.slice u.B u.m u.d],.string key] w (.tuple #[.agg #[.int .i64 (kv u key).op,.int .i64 (kv u key).n,.string (kv u key).s,.slice (kv u key).A (kv u key).k (kv u key).c,.slice (kv u key).B (kv u key).m (kv u key).d],.bool true]):=by
 have H:=(Hp.nil w);have e_k:=g_u.a.len;have e_b:=g_u.b.len;have z_b:=g_u.b.nle;have z_k:=g_u.a.nle;obtain⟨i1,i2,i3⟩:=ixS_mem hk;have ol:=ob.len;have oo:=ob.op;refine Wb Tryz.func115 ?_;refine go ?_;refine bx H fun g2 z H=> ?_;refine al H ti66 fun g4 z H=> ?_;refine go ?_;refine c1 H Fh (ixStr_any _ _ _ u.ks key _ (g_u.ext H.ext).a) fun z H=> ?_;refine G17 ?_;refine yy (Yld.cast (Y.or rfl rfl rfl rfl) (vb (by rw[oo,decide_eq_false Om,decide_eq_false Om]))) ?_;refine go ?_;refine WC.condF rfl ?_;have b10:(ixS u.ks key).toNat<u.m:=Om;refine G6 ?_;refine yy (Y.indexLs (ixS u.ks key).toNat (g_u.ext H.ext).b rfl u64 ti66 rfl rfl Om b10) ?_;refine yy (Y.loadS (cs:=[_,_,_,_,_]) rfl u66 rfl ti66 rfl (Ls.part_eq (g_u.ext H.ext).b b10 rfl)) ?_;refine st H 0 ti66 fun z H=> ?_;refine G2 ?_;refine sb [4,5] ?_;refine go ?_;refine WK.ret [_,_] rfl ⟨⟨_,rfl,run_loadVar_blk u66 rfl ti66 (H.b 0)⟩,rfl,trivial⟩ ?_;exact⟨rfl,H.ext⟩
theorem get_any(g:Nat)(u:J)(key:ByteArray)(op:Int)(w:World)(hg:Blk w g 162 [.int .i64 u.op,.int .i64 u.n,.string u.s,.slice u.A u.k u.c,.slice u.B u.m u.d,.bool false])(g_u:Gm w u)(ob:Obj u)(hk:key∈u.ks)(ho:(kv u key).op=op):
  Cr 63 #[.pointer (some ⟨g,0,none⟩),.string key,.int .i64 op] w (.agg #[.int .i64 (kv u key).op,.int .i64 (kv u key).n,.string (kv u key).s,.slice (kv u key).A (kv u key).k (kv u key).c,.slice (kv u key).B (kv u key).m (kv u key).d]):=by
 have H:=(Hp.nil w);have e_k:=g_u.a.len;have e_b:=g_u.b.len;have z_b:=g_u.b.nle;have z_k:=g_u.a.nle;refine Wb Tryz.func63 ?_;refine go ?_;refine al H ti66 fun g2 z H=> ?_;refine go ?_;refine c1 H Fh (Get_any u key _ (g_u.ext H.ext) ob hk) fun z H=> ?_;refine go ?_;refine al H ti66 fun g5 z H=> ?_;refine st H 0 ti66 fun z H=> ?_;refine G11 ?_;refine yy (Yld.cast (Y.pickF rfl rfl rfl) (vb (by rw[ho,beq_yes rfl]))) ?_;refine go ?_;refine WC.condF rfl ?_;refine go ?_;refine st H 1 ti66 fun z H=> ?_;refine go ?_;refine WK.ret [_] rfl ⟨⟨_,rfl,run_loadVar_blk u66 rfl ti66 (H.b 1)⟩,trivial⟩ ?_;exact⟨rfl,H.ext⟩
theorem thr_any(g:Nat)(u:J)(W:World)(R:List Res)(w:World)(H:Hp W w (box g 162 [.int .i64 u.op,.int .i64 u.n,.string u.s,.slice u.A u.k u.c,.slice u.B u.m u.d,.bool false]::R))(g_u:Gm W u)(ob:Obj u)(hi:⟨#[116,105,100]⟩∈u.ks∧(kv u ⟨#[116,105,100]⟩).op=3∧0≤(kv u ⟨#[116,105,100]⟩).n)(hp:⟨#[112,104]⟩∈u.ks∧(kv u ⟨#[112,104]⟩).op=4):
  Calls Tryz.prog 60 #[.pointer (some ⟨g,0,none⟩)] w fun e w'=>e= .returned (.tuple #[.int .i64 (kv u ⟨#[116,105,100]⟩).n,.string (kv u ⟨#[112,104]⟩).s])∧Hp W w' (box g 162 [.int .i64 u.op,.int .i64 u.n,.string u.s,.slice u.A u.k u.c,.slice u.B u.m u.d,.bool false]::R):=by
 have e_k:=g_u.a.len;have e_b:=g_u.b.len;have z_b:=g_u.b.nle;have z_k:=g_u.a.nle;refine Wb Tryz.func60 ?_;refine go ?_;refine c1 H Fh (get_any _ u ⟨#[116,105,100]⟩ 3 _ (H.b 0) (g_u.ext H.ext) ob hi.1 hi.2.1) fun z H=> ?_;refine yy (Y.field1 rfl u66 rfl u3 rfl rfl rfl) ?_;refine G2 ?_;refine sb [0,4] ?_;refine G9 ?_;refine yy (Yld.cast (Y.pickF rfl rfl rfl) (vb (show _=false from by rw[decide_eq_false Om]))) ?_;refine go ?_;refine st H 0 ti4 fun z H=> ?_;refine go ?_;refine c1 H Fh (get_any _ u ⟨#[112,104]⟩ 4 _ (H.b 0) (g_u.ext H.ext) ob hp.1 hp.2) fun z H=> ?_;refine yy (Y.field1 rfl u66 rfl u9 rfl rfl rfl) ?_;refine go ?_;refine Rt [_,_] ?_;exact⟨rfl,H⟩
theorem exk_any(k:ByteArray)(b g:Nat)(u:J)(w:World)(hb:Blk w b 160 [.pointer (some ⟨g,0,none⟩)])(hg:Blk w g 162 [.int .i64 u.op,.int .i64 u.n,.string u.s,.slice u.A u.k u.c,.slice u.B u.m u.d,.bool false])(g_u:Gm w u)(hk:k∈u.ks):
  Cr 117 #[.string k,.pointer (some ⟨b,0,none⟩)] w (.bool false):=by
 have H:=(Hp.nil w);have e_k:=g_u.a.len;have e_b:=g_u.b.len;have z_b:=g_u.b.nle;have z_k:=g_u.a.nle;refine Wb Tryz.func117 ?_;refine go ?_;refine c1 H Fh (hasStr_any _ _ _ u.ks k _ (g_u.ext H.ext).a) fun z H=> ?_;refine yy (Yld.cast (Y.not rfl rfl) (vb (by rw[decide_eq_true (ixS_mem hk).1];first|done|rfl))) ?_;refine go ?_;refine Rt [_] ?_;exact⟨rfl,H.ext⟩
theorem exactly_any(g:Nat)(u:J)(A_l:Option Addr)(n_l c_l:Nat)(l:List ByteArray)(w:World)(hg:Blk w g 162 [.int .i64 u.op,.int .i64 u.n,.string u.s,.slice u.A u.k u.c,.slice u.B u.m u.d,.bool false])(g_u:Gm w u)(h_l:Ls w A_l n_l c_l sc 1 l)(hl:l=u.ks):
  Cr 64 #[.pointer (some ⟨g,0,none⟩),.slice A_l n_l c_l] w (.bool true):=by
 have H:=(Hp.nil w);have e_k:=g_u.a.len;have e_b:=g_u.b.len;have z_b:=g_u.b.nle;have z_k:=g_u.a.nle;have e_l:=h_l.len;have z_l:=h_l.nle;have el:l.length=u.ks.length:=by rw[hl]
 refine Wb Tryz.func64 ?_;refine go ?_;refine bx H fun g2 z H=> ?_;refine G2 ?_;refine sb [1,2] ?_;refine G9 ?_;refine yy (Yld.cast (Y.eql rfl rfl rfl) (vb (beq_yes Om))) ?_;refine G2 ?_;refine WL.yldW rfl (blt rfl) rfl rfl rfl (Y.func rfl rfl rfl) ?_;refine WL.guarded rfl rfl rfl ?_;refine c1 H Fh (cfS_no _ _ _ l 117 [.pointer (some ⟨g2,0,none⟩)] _ (h_l.ext H.ext) Fh (fun k hk w1 x1=>exk_any l[k]! g2 g u w1 (Blk.ext (H.b 0) x1) (Blk.ext (hg.ext H.ext) x1) ((g_u.ext H.ext).ext x1) (hl▸mem_b hk))) fun z H=> ?_;refine G1 ?_;refine yy (Yld.cast (Y.pickT rfl rfl rfl) rfl) ?_;refine go ?_;refine Rt [_] ?_;exact⟨rfl,H.ext⟩
theorem stk_any(g:Nat)(u:J)(W:World)(R:List Res)(w:World)(H:Hp W w (box g 162 [.int .i64 u.op,.int .i64 u.n,.string u.s,.slice u.A u.k u.c,.slice u.B u.m u.d,.bool false]::R))(g_u:Gm W u)(ob:Obj u)(hs:⟨#[115,116,97,99,107]⟩∈u.ks∧(kv u ⟨#[115,116,97,99,107]⟩).op=5)(hq:∀y∈(kv u ⟨#[115,116,97,99,107]⟩).kids,y.op=4)(hz:(kv u ⟨#[115,116,97,99,107]⟩).kids.length≤1000):
  Calls Tryz.prog 112 #[.pointer (some ⟨g,0,none⟩)] w fun e w'=>∃v,e= .returned v∧Hp W w' (row 9 sc 1 v ((kv u ⟨#[115,116,97,99,107]⟩).kids.map J.s)::box g 162 [.int .i64 u.op,.int .i64 u.n,.string u.s,.slice u.A u.k u.c,.slice u.B u.m u.d,.bool false]::R):=by
 have e_k:=g_u.a.len;have e_b:=g_u.b.len;have z_b:=g_u.b.nle;have z_k:=g_u.a.nle;have gk:=gm_kv g_u hs.1 ob.len;have e_q:=gk.b.len;have z_q:=gk.b.nle;refine Wb Tryz.func112 ?_;refine go ?_;refine c1 H Fh (get_any _ u ⟨#[115,116,97,99,107]⟩ 5 _ (H.b 0) (g_u.ext H.ext) ob hs.1 hs.2) fun z H=> ?_;refine yy (Y.field1 rfl u66 rfl u64 rfl rfl rfl) ?_;have H:=H.nilRow 9 sc 1;refine go ?_;refine sb [10,3,0,8,9] ?_;refine WC.loopS 2 (fun mz Ed W'=>∃j:Nat,∃v:Value,mz=(kv u ⟨#[115,116,97,99,107]⟩).m-j∧Ed=[(10,.int .i64 ((j:Nat):Int)),(3,v)]∧Hp W W' (row 9 sc 1 v (((kv u ⟨#[115,116,97,99,107]⟩).kids.take j).map J.s)::_::R)∧(j≤(kv u ⟨#[115,116,97,99,107]⟩).m)) _ ⟨0,_,rfl,rfl,H,(Nat.zero_le _)⟩ ?_;rintro _ _ z ⟨j,v,rfl,rfl,H,jl⟩;refine go ?_;refine Cd (fun p11=> ?_) fun p11=> ?_
 ·have jq:=hq _ (mem_b (show j<(kv u ⟨#[115,116,97,99,107]⟩).kids.length from Om));have b14:j<(kv u ⟨#[115,116,97,99,107]⟩).m:=Om;refine G5 ?_;refine yy (Y.indexLs j ((gm_kv g_u hs.1 ob.len).ext H.ext).b rfl u64 ti66 rfl rfl rfl b14) ?_;refine yy (Y.loadS (cs:=[_,_,_,_,_]) rfl u66 rfl ti66 rfl (Ls.part_eq ((gm_kv g_u hs.1 ob.len).ext H.ext).b b14 rfl)) ?_;refine al H ti66 fun g15 z H=> ?_;refine st H 0 ti66 fun z H=> ?_;refine G11 ?_;refine yy (Yld.cast (Y.pickF rfl rfl rfl) (vb (show _=false from by rw[jq];rfl))) ?_;refine go ?_;refine st H 2 ti4 fun z H=> ?_;refine go ?_;refine bs1 H u63 ti9 fun g18 z H=> ?_;refine ap H 2 0 rfl [(kv u ⟨#[115,116,97,99,107]⟩).kids[j]!.s] u63 ti9 rfl sc_one (by simp only[List.length_map,List.length_take,List.length_cons,List.length_nil];omega) fun v20 z H=> ?_;refine go ?_;exact Rs [(10,_),(3,_)] Sx ⟨(j+1),v20,rfl,rfl,(by rw[take_bang (show j<(kv u ⟨#[115,116,97,99,107]⟩).kids.length from Om),List.map_append];exact(H.drop [0,0])),Om⟩
 ·refine G9 ?_;refine sb [2] ?_;refine go ?_;refine Rt [_] ?_;exact⟨_,rfl,(by rw[show(kv u ⟨#[115,116,97,99,107]⟩).kids=(kv u ⟨#[115,116,97,99,107]⟩).kids.take j from(List.take_of_length_le Om).symm];exact H)⟩
theorem evix_any(A:Option Addr)(n c g:Nat)(y:Ev)(s:ByteArray)(w:World)(h:Ls w A n c Cf.c 6 cfL)(hg:Blk w g 9 [.string s])(hk:1≤y.kd∧y.kd≤12)(hs:s=(cfE y).ph):
  Cr 49 #[.slice A n c,.func (.func 111) #[] #[.pointer (some ⟨g,0,none⟩)]] w (.int .i64 (((y.kd-1).toNat:Nat):Int)):=by
 subst hs;exact(ixfC_any A n c cfL 111 [.pointer (some ⟨g,0,none⟩)] (fun f=>f.ph==(cfE y).ph) w h Fh (fun k _ w1 x1=>ev1_any cfL[k]! g (cfE y).ph w1 (Blk.ext hg x1))).mono fun e w' ⟨he,xw⟩=>⟨he.trans (ret1 (vi (ixph hk))),xw⟩
theorem evE_k{y:Ev}{A:Option Addr}{n c:Nat}(h:n=y.k):evE ⟨y.at_,y.kd,y.nm,y.n,y.m,A,n,c,y.st⟩=evE y:=by subst h;rfl
theorem st_of:∀{K:List J} {l:List ByteArray},(K.map er=l.map fun s=>er (j0 4 0 s))→(∀y∈K,y.op=4)∧K.map J.s=l∧K.length=l.length
 |[],[],_=>⟨fun y h=>(by cases h),rfl,rfl⟩
 |k::K,s::l,h=>by
  have h1:er k=er (j0 4 0 s):=(List.cons.inj h).1;have h1:Sj k (j0 4 0 s):=h1;obtain⟨a,b,c⟩:=st_of (List.cons.inj h).2;refine⟨fun y hy=>(List.mem_cons.1 hy).elim (fun e=>e▸h1.op) (a y),?_,congrArg (·+1) c⟩;rw[List.map_cons,b,h1.s];rfl
 |[],_::_,h=>by cases h
 |_::_,[],h=>by cases h
theorem event_any(u:J)(i:Int)(y:Ev)(W:World)(R:List Res)(w:World)(H:Hp W w R)(g_u:Gm W u)(hu:Sj u (wrJ i y))(hy:EvX y)(he:evE y=0)(hk:y.st.length=y.k)(hi:0≤i∧i≤1000000000000000):
  Calls Tryz.prog 61 #[.agg #[.int .i64 u.op,.int .i64 u.n,.string u.s,.slice u.A u.k u.c,.slice u.B u.m u.d]] w fun e w'=>∃v,e= .returned (.tuple #[.int .i64 i,.agg #[.int .i64 y.at_,.int .i64 y.kd,.string y.nm,.int .i64 y.n,.int .i64 y.m,v],.int .i64 0])∧Hp W w' (row 9 sc 1 v y.st::R):=by
 have e_k:=g_u.a.len;have e_b:=g_u.b.len;have z_b:=g_u.b.nle;have z_k:=g_u.a.nle;have hv:=wrV hu hy.kd;have vd:=Vd_er hu (wr_vd hy hi);have ob:=hv.ob;have kd:=hy.kd;have cl:cfL.length=12:=rfl;have kl:=wrK_len y;have sl:=hy.st.1;refine Wb Tryz.func61 ?_;refine go ?_;refine bx H fun g3 z H=> ?_;refine go ?_;refine al H ti73 fun g5 z H=> ?_;refine go ?_;refine c1 H Fh (Check_any u 3 _ (g_u.ext H.ext) vd Dc) fun z H=> ?_;refine G4 ?_;refine yy (Yld.cast (Y.neq rfl rfl rfl) (vb rfl)) ?_;refine go ?_;refine WC.condF rfl ?_;refine G6 ?_;refine yy (Yld.cast (Y.neq rfl rfl rfl) (vb (by rw[ob.op];first|done|rfl))) ?_;refine go ?_;refine bx H fun g11 z H=> ?_;refine go ?_;refine c3 Fh (thr_any _ u _ _ _ (H.front [0]) g_u ob ⟨hv.tid.1,hv.tid.2.1,(by rw[hv.tid.2.2];omega)⟩ ⟨hv.ph.1,hv.ph.2.1⟩) ?_;rintro _ z ⟨rfl,H⟩;refine⟨_,rfl,?_⟩;refine go ?_;refine al H ti9 fun g14 z H=> ?_;refine go ?_;refine st H 0 ti9 fun z H=> ?_;refine go ?_;refine c3 Fh (chforms_any _ _ _ (H.front [])) ?_;rintro _ z ⟨v17,rfl,H⟩;refine⟨_,rfl,?_⟩;refine yy (Y.func rfl rfl rfl) ?_;obtain⟨A19,n20,c21,rfl,_,_,_⟩:=H.op 0;refine c1 H Fh (evix_any _ _ _ g14 y _ _ (H.l 0) (H.b 1) hy.kd hv.ph.2.2) fun z H=> ?_;refine G10 ?_;refine WL.yldW rfl (blt rfl) rfl rfl rfl (Yld.cast (Y.lss rfl rfl rfl) (bf Om)) ?_;refine yy (Y.pickF rfl rfl rfl) ?_;refine go ?_;refine WC.condF rfl ?_;refine G2 ?_;refine sb [3,6,7,9] ?_;refine go ?_;refine c3 Fh (chforms_any _ _ _ (H.front [])) ?_;rintro _ z ⟨v25,rfl,H⟩;refine⟨_,rfl,?_⟩;obtain⟨A27,n28,c29,rfl,_,_,_⟩:=H.op 0;have b30:(y.kd-1).toNat<n28:=Om;refine G1 ?_;refine yy (Y.indexLs (y.kd-1).toNat (H.l 0) rfl u140 ti142 rfl rfl Om b30) ?_;refine go ?_;refine al H ti142 fun g31 z H=> ?_;refine st H 0 ti142 fun z H=> ?_;refine go ?_;refine Xr H (HpC W _) (.load 0 (.load 1 (.load 2 (.alt 3 (.load 4 (.load 5 (.alt 6 (.alt 7 (.fin) (.none)) (.none)))) (.alt 6 (.alt 3 (.load 4 (.load 5 (.alt 7 (.fin) (.none)))) (.none)) (.none)))))) (H.pick [0,0,0,0,0,0,0]) fun z H=> ?_;refine G3 ?_;refine WX.alt ?_ ?_
 ·refine c1X (H.pick [0,0,0,0,0,0,0]) H Fh (get_any _ u ⟨#[116,115]⟩ 3 _ (H.b 4) (g_u.ext H.ext) ob hv.ts.1 hv.ts.2.1) fun z H=> ?_;refine yx rfl (Y.field1 rfl u66 rfl u3 rfl rfl rfl) ?_;refine go ?_;refine alX (H.pick [0,0,0,0,0,0,0]) H ti73 fun g34 z H=> ?_;refine stX (H.pick [1,1,1,1,1,1,1]) H 0 ti73 fun z H=> ?_;refine WX.nil (H.pick [1,1,1,1,1,1,1]) ?_;refine G1 ?_;refine sb [3,6,7,10,11] ?_;refine jI (fun Ed w'=>Ed=[]∧Hp W w' (box g11 162 [.int .i64 u.op,.int .i64 u.n,.string u.s,.slice u.A u.k u.c,.slice u.B u.m u.d,.bool false]::box g31 142 (Cf.c (cfE y))::box g34 73 [.int .i64 y.at_,.int .i64 y.kd,.string y.nm,.int .i64 0,.int .i64 0,.slice none 0 0]::box g5 73 [.int .i64 0,.int .i64 0,.string ⟨#[]⟩,.int .i64 0,.int .i64 0,.slice none 0 0]::R)) ?_ ?_
  ·refine go ?_;refine WC.cond rfl (fun h37=> ?_) (fun h37=> ?_)
   ·refine go ?_;refine c1 H Fh (get_any _ u ⟨#[110,97,109,101]⟩ 4 _ (H.b 5) (g_u.ext H.ext) ob (hv.nm h37).1 (hv.nm h37).2.1) fun z H=> ?_;refine yy (Y.field1 rfl u66 rfl u9 rfl rfl rfl) ?_;refine go ?_;refine st H 0 ti9 fun z H=> ?_;refine G1 ?_;exact kI [] Sx ⟨rfl,(by rw[←hy.kd0,←hv.ts.2.2,←(hv.nm h37).2.2];exact((H.drop [2,2,2,4]).front [2,1,0,0]))⟩
   ·refine G1 ?_;exact kI [] Sx ⟨rfl,(by rw[←hy.kd0,←hv.ts.2.2,hy.nm0 h37];exact((H.drop [2,2,2,4]).front [2,1,0,0]))⟩
  ·rintro _ z ⟨rfl,H⟩;refine sb [3,6,7,10,11] ?_;refine jI (fun Ed w'=>Ed=[]∧Hp W w' (box g11 162 [.int .i64 u.op,.int .i64 u.n,.string u.s,.slice u.A u.k u.c,.slice u.B u.m u.d,.bool false]::box g31 142 (Cf.c (cfE y))::box g34 73 [.int .i64 y.at_,.int .i64 y.kd,.string y.nm,.int .i64 y.n,.int .i64 0,.slice none 0 0]::box g5 73 [.int .i64 0,.int .i64 0,.string ⟨#[]⟩,.int .i64 0,.int .i64 0,.slice none 0 0]::R)) ?_ ?_
   ·refine go ?_;refine Cd (fun p39=> ?_) fun p39=> ?_
    ·refine go ?_;refine c1 H Fh (get_any _ u (cfE y).fn 3 _ (H.b 0) (g_u.ext H.ext) ob (hv.n p39).1 (hv.n p39).2.1) fun z H=> ?_;refine yy (Y.field1 rfl u66 rfl u3 rfl rfl rfl) ?_;refine go ?_;refine st H 2 ti3 fun z H=> ?_;refine G1 ?_;exact kI [] Sx ⟨rfl,(by rw[←(hv.n p39).2.2];exact H)⟩
    ·refine G1 ?_;exact kI [] Sx ⟨rfl,(by rw[hy.n0 p39];exact H)⟩
   ·rintro _ z ⟨rfl,H⟩;refine G11 ?_;refine sb [3,6,7,10,11,12] ?_;refine jI (fun Ed w'=>Ed=[]∧Hp W w' (box g11 162 [.int .i64 u.op,.int .i64 u.n,.string u.s,.slice u.A u.k u.c,.slice u.B u.m u.d,.bool false]::box g31 142 (Cf.c (cfE y))::box g34 73 [.int .i64 y.at_,.int .i64 y.kd,.string y.nm,.int .i64 y.n,.int .i64 y.m,.slice none 0 0]::box g5 73 [.int .i64 0,.int .i64 0,.string ⟨#[]⟩,.int .i64 0,.int .i64 0,.slice none 0 0]::R)) ?_ ?_
    ·refine go ?_;refine WC.cond rfl (fun h42=> ?_) (fun h42=> ?_)
     ·have p42:=(And.intro (beqB_ne.1 (not_t (and_t h42).1)) ((or_t (and_t h42).2).imp (fun h=>(beqB_ne.1 (not_t h))) (fun h=>(eq_t h))));refine go ?_;refine c1 H Fh (get_any _ u (cfE y).fm 3 _ (H.b 0) (g_u.ext H.ext) ob (hv.m p42.1 (and_t h42).2).1 (hv.m p42.1 (and_t h42).2).2.1) fun z H=> ?_;refine yy (Y.field1 rfl u66 rfl u3 rfl rfl rfl) ?_;refine go ?_;refine st H 2 ti3 fun z H=> ?_;refine G1 ?_;exact kI [] Sx ⟨rfl,(by rw[←(hv.m p42.1 (and_t h42).2).2.2];exact H)⟩
     ·have p42:=((and_f h42).imp (fun h=>(beqB_eq.1 (not_f h))) (fun h=>(And.intro (beqB_eq.1 (not_f (or_f h).1)) (eq_f (or_f h).2))));refine G1 ?_;exact kI [] Sx ⟨rfl,(by rw[hy.m0 ((and_f h42).imp (fun q=>beqB_eq.1 (not_f q)) fun q=>q)];exact H)⟩
    ·rintro _ z ⟨rfl,H⟩;refine sb [3,6,7,10,11,12] ?_;refine jI (fun Ed w'=>∃v:Value,Ed=[]∧Hp W w' (row 9 sc 1 v y.st::box g11 162 [.int .i64 u.op,.int .i64 u.n,.string u.s,.slice u.A u.k u.c,.slice u.B u.m u.d,.bool false]::box g31 142 (Cf.c (cfE y))::box g34 73 [.int .i64 y.at_,.int .i64 y.kd,.string y.nm,.int .i64 y.n,.int .i64 y.m,v]::box g5 73 [.int .i64 0,.int .i64 0,.string ⟨#[]⟩,.int .i64 0,.int .i64 0,.slice none 0 0]::R)) ?_ ?_
     ·refine go ?_;refine WC.cond rfl (fun h44=> ?_) (fun h44=> ?_)
      ·refine go ?_;refine c3 Fh (stk_any _ u _ _ _ (H.front [0]) g_u ob ⟨(hv.st h44).1,(hv.st h44).2.1⟩ (st_of (hv.st h44).2.2).1 (by rw[(st_of (hv.st h44).2.2).2.2];omega)) ?_;rintro _ z ⟨v45,rfl,H⟩;refine⟨_,rfl,?_⟩;obtain⟨A47,n48,c49,rfl,_,_,_⟩:=H.op 0;refine go ?_;refine st H 3 ti63 fun z H=> ?_;refine G1 ?_;exact kI [] Sx ⟨(.slice A47 n48 c49),rfl,(by rw[←(st_of (hv.st h44).2.2).2.1];exact H)⟩
      ·have H:=H.nilRow 9 sc 1;refine G1 ?_;exact kI [] Sx ⟨(.slice none 0 0),rfl,(by rw[hy.st0 h44];exact H)⟩
     ·rintro _ z ⟨v,rfl,H⟩;refine G8 ?_;refine WL.yldW rfl (blt rfl) rfl rfl rfl (Y.loadS rfl u142 rfl ti142 rfl (Blk.row_eq (H.b 2))) ?_;refine G1 ?_;refine WL.guarded rfl rfl rfl ?_;refine c3 Fh (keys_any (cfE y) (onE y) _ _ _ (H.front [])) ?_;rintro _ z ⟨v53,rfl,H⟩;refine⟨_,rfl,?_⟩;refine WL.guarded rfl rfl rfl ?_;obtain⟨A55,n56,c57,rfl,_,_,_⟩:=H.op 0;refine c1 H Fh (exactly_any _ u _ _ _ (wrK y) _ (H.b 2) (g_u.ext H.ext) (H.l 0) hv.ks.symm) fun z H=> ?_;refine WL.yldW rfl (blt rfl) rfl rfl rfl (Yld.cast (Y.not rfl rfl) (vb rfl)) ?_;refine yy (Y.pickF rfl rfl rfl) ?_;refine go ?_;refine WC.condF rfl ?_;obtain⟨A60,n61,c62,rfl,_,_,_⟩:=H.op 1;have he2:evE ⟨y.at_,y.kd,y.nm,y.n,y.m,A60,n61,c62,y.st⟩=0:=(evE_k Om).trans he;refine go ?_;refine c1 H Fh (evcheck_any ⟨y.at_,y.kd,y.nm,y.n,y.m,A60,n61,c62,y.st⟩ _ (H.l 1)) fun z H=> ?_;refine G4 ?_;refine yy (Yld.cast (Y.neq rfl rfl rfl) (vb (by rw[he2];first|done|rfl))) ?_;refine go ?_;refine WC.condF rfl ?_;refine go ?_;refine Xr H (HpC W _) (.load 0 (.load 1 (.load 2 (.alt 3 (.load 4 (.fin)) (.none))))) (H.pick [0,0,0,0,0]) fun z H=> ?_;refine go ?_;refine stX (H.pick [0,0,0,0,0]) H 5 ti73 fun z H=> ?_;refine go ?_;refine WX.nil (H.pick [0,0,0,0,0]) ?_;refine go ?_;refine WK.ret [_,_,_] rfl ⟨rfl,⟨_,rfl,run_loadVar_blk u73 rfl ti73 (H.b 5)⟩,rfl,trivial⟩ ?_;exact⟨_,(by rw[hv.tid.2.2];rfl),(H.drop [0,1,1,1,1])⟩
 refine alX (H.pick [0,0,0,0,0,0,0]) H ti73 fun g65 z H=> ?_;refine c1X (H.pick [1,1,1,1,1,1,1]) H Fh (get_any _ u ⟨#[116,115]⟩ 3 _ (H.b 5) (g_u.ext H.ext) ob hv.ts.1 hv.ts.2.1) fun z H=> ?_;refine yx rfl (Y.field1 rfl u66 rfl u3 rfl rfl rfl) ?_;refine go ?_;refine stX (H.pick [1,1,1,1,1,1,1]) H 0 ti73 fun z H=> ?_;refine WX.nil (H.pick [1,1,1,1,1,1,1]) ?_;refine G1 ?_;refine sb [3,6,7,10,11] ?_;refine jI (fun Ed w'=>Ed=[]∧Hp W w' (box g11 162 [.int .i64 u.op,.int .i64 u.n,.string u.s,.slice u.A u.k u.c,.slice u.B u.m u.d,.bool false]::box g31 142 (Cf.c (cfE y))::box g65 73 [.int .i64 y.at_,.int .i64 y.kd,.string y.nm,.int .i64 0,.int .i64 0,.slice none 0 0]::box g5 73 [.int .i64 0,.int .i64 0,.string ⟨#[]⟩,.int .i64 0,.int .i64 0,.slice none 0 0]::R)) ?_ ?_
 ·refine go ?_;refine WC.cond rfl (fun h68=> ?_) (fun h68=> ?_)
  ·refine go ?_;refine c1 H Fh (get_any _ u ⟨#[110,97,109,101]⟩ 4 _ (H.b 5) (g_u.ext H.ext) ob (hv.nm h68).1 (hv.nm h68).2.1) fun z H=> ?_;refine yy (Y.field1 rfl u66 rfl u9 rfl rfl rfl) ?_;refine go ?_;refine st H 0 ti9 fun z H=> ?_;refine G1 ?_;exact kI [] Sx ⟨rfl,(by rw[←hy.kd0,←hv.ts.2.2,←(hv.nm h68).2.2];exact((H.drop [2,2,2,4]).front [2,1,0,0]))⟩
  ·refine G1 ?_;exact kI [] Sx ⟨rfl,(by rw[←hy.kd0,←hv.ts.2.2,hy.nm0 h68];exact((H.drop [2,2,2,4]).front [2,1,0,0]))⟩
 ·rintro _ z ⟨rfl,H⟩;refine sb [3,6,7,10,11] ?_;refine jI (fun Ed w'=>Ed=[]∧Hp W w' (box g11 162 [.int .i64 u.op,.int .i64 u.n,.string u.s,.slice u.A u.k u.c,.slice u.B u.m u.d,.bool false]::box g31 142 (Cf.c (cfE y))::box g65 73 [.int .i64 y.at_,.int .i64 y.kd,.string y.nm,.int .i64 y.n,.int .i64 0,.slice none 0 0]::box g5 73 [.int .i64 0,.int .i64 0,.string ⟨#[]⟩,.int .i64 0,.int .i64 0,.slice none 0 0]::R)) ?_ ?_
  ·refine go ?_;refine Cd (fun p70=> ?_) fun p70=> ?_
   ·refine go ?_;refine c1 H Fh (get_any _ u (cfE y).fn 3 _ (H.b 0) (g_u.ext H.ext) ob (hv.n p70).1 (hv.n p70).2.1) fun z H=> ?_;refine yy (Y.field1 rfl u66 rfl u3 rfl rfl rfl) ?_;refine go ?_;refine st H 2 ti3 fun z H=> ?_;refine G1 ?_;exact kI [] Sx ⟨rfl,(by rw[←(hv.n p70).2.2];exact H)⟩
   ·refine G1 ?_;exact kI [] Sx ⟨rfl,(by rw[hy.n0 p70];exact H)⟩
  ·rintro _ z ⟨rfl,H⟩;refine G11 ?_;refine sb [3,6,7,10,11,12] ?_;refine jI (fun Ed w'=>Ed=[]∧Hp W w' (box g11 162 [.int .i64 u.op,.int .i64 u.n,.string u.s,.slice u.A u.k u.c,.slice u.B u.m u.d,.bool false]::box g31 142 (Cf.c (cfE y))::box g65 73 [.int .i64 y.at_,.int .i64 y.kd,.string y.nm,.int .i64 y.n,.int .i64 y.m,.slice none 0 0]::box g5 73 [.int .i64 0,.int .i64 0,.string ⟨#[]⟩,.int .i64 0,.int .i64 0,.slice none 0 0]::R)) ?_ ?_
   ·refine go ?_;refine WC.cond rfl (fun h73=> ?_) (fun h73=> ?_)
    ·have p73:=(And.intro (beqB_ne.1 (not_t (and_t h73).1)) ((or_t (and_t h73).2).imp (fun h=>(beqB_ne.1 (not_t h))) (fun h=>(eq_t h))));refine go ?_;refine c1 H Fh (get_any _ u (cfE y).fm 3 _ (H.b 0) (g_u.ext H.ext) ob (hv.m p73.1 (and_t h73).2).1 (hv.m p73.1 (and_t h73).2).2.1) fun z H=> ?_;refine yy (Y.field1 rfl u66 rfl u3 rfl rfl rfl) ?_;refine go ?_;refine st H 2 ti3 fun z H=> ?_;refine G1 ?_;exact kI [] Sx ⟨rfl,(by rw[←(hv.m p73.1 (and_t h73).2).2.2];exact H)⟩
    ·have p73:=((and_f h73).imp (fun h=>(beqB_eq.1 (not_f h))) (fun h=>(And.intro (beqB_eq.1 (not_f (or_f h).1)) (eq_f (or_f h).2))));refine G1 ?_;exact kI [] Sx ⟨rfl,(by rw[hy.m0 ((and_f h73).imp (fun q=>beqB_eq.1 (not_f q)) fun q=>q)];exact H)⟩
   ·rintro _ z ⟨rfl,H⟩;refine sb [3,6,7,10,11,12] ?_;refine jI (fun Ed w'=>∃v:Value,Ed=[]∧Hp W w' (row 9 sc 1 v y.st::box g11 162 [.int .i64 u.op,.int .i64 u.n,.string u.s,.slice u.A u.k u.c,.slice u.B u.m u.d,.bool false]::box g31 142 (Cf.c (cfE y))::box g65 73 [.int .i64 y.at_,.int .i64 y.kd,.string y.nm,.int .i64 y.n,.int .i64 y.m,v]::box g5 73 [.int .i64 0,.int .i64 0,.string ⟨#[]⟩,.int .i64 0,.int .i64 0,.slice none 0 0]::R)) ?_ ?_
    ·refine go ?_;refine WC.cond rfl (fun h75=> ?_) (fun h75=> ?_)
     ·refine go ?_;refine c3 Fh (stk_any _ u _ _ _ (H.front [0]) g_u ob ⟨(hv.st h75).1,(hv.st h75).2.1⟩ (st_of (hv.st h75).2.2).1 (by rw[(st_of (hv.st h75).2.2).2.2];omega)) ?_;rintro _ z ⟨v76,rfl,H⟩;refine⟨_,rfl,?_⟩;obtain⟨A78,n79,c80,rfl,_,_,_⟩:=H.op 0;refine go ?_;refine st H 3 ti63 fun z H=> ?_;refine G1 ?_;exact kI [] Sx ⟨(.slice A78 n79 c80),rfl,(by rw[←(st_of (hv.st h75).2.2).2.1];exact H)⟩
     ·have H:=H.nilRow 9 sc 1;refine G1 ?_;exact kI [] Sx ⟨(.slice none 0 0),rfl,(by rw[hy.st0 h75];exact H)⟩
    ·rintro _ z ⟨v,rfl,H⟩;refine G8 ?_;refine WL.yldW rfl (blt rfl) rfl rfl rfl (Y.loadS rfl u142 rfl ti142 rfl (Blk.row_eq (H.b 2))) ?_;refine G1 ?_;refine WL.guarded rfl rfl rfl ?_;refine c3 Fh (keys_any (cfE y) (onE y) _ _ _ (H.front [])) ?_;rintro _ z ⟨v84,rfl,H⟩;refine⟨_,rfl,?_⟩;refine WL.guarded rfl rfl rfl ?_;obtain⟨A86,n87,c88,rfl,_,_,_⟩:=H.op 0;refine c1 H Fh (exactly_any _ u _ _ _ (wrK y) _ (H.b 2) (g_u.ext H.ext) (H.l 0) hv.ks.symm) fun z H=> ?_;refine WL.yldW rfl (blt rfl) rfl rfl rfl (Yld.cast (Y.not rfl rfl) (vb rfl)) ?_;refine yy (Y.pickF rfl rfl rfl) ?_;refine go ?_;refine WC.condF rfl ?_;obtain⟨A91,n92,c93,rfl,_,_,_⟩:=H.op 1;have he2:evE ⟨y.at_,y.kd,y.nm,y.n,y.m,A91,n92,c93,y.st⟩=0:=(evE_k Om).trans he;refine go ?_;refine c1 H Fh (evcheck_any ⟨y.at_,y.kd,y.nm,y.n,y.m,A91,n92,c93,y.st⟩ _ (H.l 1)) fun z H=> ?_;refine G4 ?_;refine yy (Yld.cast (Y.neq rfl rfl rfl) (vb (by rw[he2];first|done|rfl))) ?_;refine go ?_;refine WC.condF rfl ?_;refine go ?_;refine Xr H (HpC W _) (.load 0 (.load 1 (.load 2 (.alt 3 (.load 4 (.fin)) (.none))))) (H.pick [0,0,0,0,0]) fun z H=> ?_;refine go ?_;refine stX (H.pick [0,0,0,0,0]) H 5 ti73 fun z H=> ?_;refine go ?_;refine WX.nil (H.pick [0,0,0,0,0]) ?_;refine go ?_;refine WK.ret [_,_,_] rfl ⟨rfl,⟨_,rfl,run_loadVar_blk u73 rfl ti73 (H.b 5)⟩,rfl,trivial⟩ ?_;exact⟨_,(by rw[hv.tid.2.2];rfl),(H.drop [0,1,1,1,1])⟩
end TW
end Go.Proofs.YtaclfjjipnpboaaGreatDoor
end
