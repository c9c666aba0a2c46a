/- Part 16 of the proof. Conditions: what each theorem states. -/
import Derived.Test.YtaclfjjipnpboaaGreatP01
import Derived.Test.YtaclfjjipnpboaaGreatP15
import Derived.Test.YtaclfjjipnpboaaGreatP13
import Derived.Test.YtaclfjjipnpboaaGreatP04
import Derived.Test.YtaclfjjipnpboaaGreatP14
import Derived.Test.YtaclfjjipnpboaaGreatP05
set_option linter.all false
set_option maxHeartbeats 4000000
set_option maxRecDepth 4000
namespace Go.Proofs.YtaclfjjipnpboaaGreat
open Go Go.Eng Go.RowKit
namespace TW
structure TmV(x:Tm):Prop where
 kd:1≤x.kd∧x.kd<13
 nm:(formF x.kd).nm=true→nmF x.nm=0
 st:(formF x.kd).nm=false→frF x.st=0
 n:(formF x.kd).n=true→(formF x.kd).lo≤x.n∧x.n≤(formF x.kd).hi
 m:(formF x.kd).m=true→x.kd≠9∨x.n=2→(formF x.kd).mlo≤x.m∧x.m≤(formF x.kd).mhi
theorem fmOk_rng{k:Int}(h:fmOk k=true):1≤k∧k<13:=by
 unfold fmOk at h;grind
theorem ev_ok{x:Tm}(h:evE (tmV x)=0):TmV x:=by
 unfold evE at h;split at h
 ·cases h
 dsimp only at h;split at h
 ·cases h
 rename_i q;generalize hX:(if(formF (tmV x).kd).nm=true then nmF (tmV x).nm else frF (tmV x).st)=X at h;split at h
 ·rename_i q2;omega
 rename_i q2;have q2:=hX.trans (Decidable.of_not_not q2);split at h
 ·cases h
 rename_i q3;split at h
 ·cases h
 split at h
 ·cases h
 rename_i q4;refine⟨fmOk_rng ?_,fun e=> ?_,fun e=> ?_,fun e=> ?_,fun e g=> ?_⟩
 ·cases e:fmOk x.kd with
  |true=>rfl
  |false=>exact absurd (.inl (.inl (.inl (.inl e)))) q
 ·rw[show(formF (tmV x).kd).nm=true from e,if_pos rfl]at q2;exact q2
 ·simp_all [formF,tmV,false,if_neg]
 ·have:¬((tmV x).n<(formF (tmV x).kd).lo∨(tmV x).n>(formF (tmV x).kd).hi):=fun z=>q3 ⟨e,z⟩;simp_all [And,tmV,Int.not_lt]
 ·have:¬((tmV x).m<(formF (tmV x).kd).mlo∨(tmV x).m>(formF (tmV x).kd).mhi):=fun z=>q4 ⟨⟨e,z⟩,g⟩;simp_all [And,tmV,Int.not_lt]
theorem evs_ev{l:List Ev}(h:evsE l=0):∀e∈l,evE e=0:=fun e he=>by
 obtain⟨i,hi,rfl⟩:=mem_at he;have:=fE_ok.1 h i hi;unfold ev1 at this;omega
theorem frF_len{l:List ByteArray}(h:frF l=0):l.length≤32:=by
 unfold frF at h;omega
theorem ev_stk{e:Ev}(h:evE e=0)(hk:e.k=e.st.length):e.st.length≤1000:=by
 unfold evE at h;split at h
 ·cases h
 dsimp only at h;split at h
 ·cases h
 rename_i q;generalize hX:(if(formF e.kd).nm=true then nmF e.nm else frF e.st)=X at h;split at h
 ·rename_i q2;exact absurd h q2
 rename_i q2;have q2:=hX.trans (Decidable.of_not_not q2);cases e1:(formF e.kd).nm with
 |false=>
  rw[if_neg (by rw[e1];decide)]at q2;have:=frF_len q2;omega
 |true=>
  cases e2:(formF e.kd).st with
  |false=>
   have:¬(e.k:Int)>0:=fun z=>q (.inr ⟨e2,z⟩);omega
  |true=>
   exfalso;have key:∀k:Int,(formF k).nm=true→(formF k).st=true→False:=by
    intro k h1 h2;unfold formF at h1 h2;split at h1
    ·cases h1
    ·rename_i z;rw[if_neg z]at h2;have:∀n:Fin 13,formsL[n.val]!.nm=true→formsL[n.val]!.st=true→False:=by decide
     exact this ⟨k.toNat,Om⟩ h1 h2
   exact key _ e1 e2
theorem hd_len{ths:List Th}{d:List Dm}{s:List Sn}(h:hdE ths d s=0):ths.length≤64:=by
 unfold hdE at h;omega
structure OrdOk(ids:List Int)(o:List Tm):Prop where
 s:o.Pairwise fun a b=>a.lo≤b.lo
 v:∀x∈o,TmV x
 th:∀x∈o,x.th∈ids∧0≤x.th∧x.th≤1000000000000000
 sr:∀x∈o,0≤x.sr∧x.sr≤1000000000000000
theorem or_lg{ths:List Th}{d:List Dm}{s:List Sn}{l:List Pk}(h:orE ths d s l=0):lgE ths d s l=0:=so_lg (rw_so (tg_rw (by
 unfold orE at h;omega)))
theorem orL_ok{ths:List Th}{d:List Dm}{s:List Sn}{l:List Pk}(hk:∀p∈l,p.es.length=p.k)(hn:evsum l l.length≤24)(h:orE ths d s l=0):OrdOk (ths.map (·.id)) (orL ths d s l):=by
 have hl:=or_lg h;have hp:=lg_pkok hl;refine⟨orL_srt hk hl hn,fun x hx=> ?_,fun x hx=> ?_,fun x hx=> ?_⟩
 ·obtain⟨p,hpm,_,he⟩:=orL_ev x hx;exact ev_ok (evs_ev (hp p hpm).e _ he)
 ·obtain⟨p,hpm,e,_⟩:=orL_ev x hx;rw[e];exact⟨lg_th hl p hpm,(hp p hpm).th⟩
 ·have h2:tmI x∈idsOf l:=by grind [tgX_ids,List.mem_map_of_mem,orL_mem]
  exact ids_sr hk hp _ h2
section
variable{ids:List Int}{o:List Tm}
theorem OrdOk.le(h:OrdOk ids o){i j:Nat}(hij:i≤j)(hj:j<o.length):clk o[i]!.lo≤clk o[j]!.lo:=by
 rcases Nat.lt_or_ge i j with q|q
 ·have:=List.pairwise_iff_getElem.1 h.s i j Om hj q;rw[←bang_eq Om,←bang_eq hj]at this;exact clk_mono this
 grind
theorem OrdOk.at_(h:OrdOk ids o){j:Nat}(hj:j<o.length):TmV o[j]!∧(o[j]!.th∈ids∧0≤o[j]!.th∧o[j]!.th≤1000000000000000)∧0≤o[j]!.sr∧o[j]!.sr≤1000000000000000:=
 ⟨h.v _ (mem_b hj),h.th _ (mem_b hj),h.sr _ (mem_b hj)⟩
theorem tn_ge(o:List Tm):∀j i,i<j→clk o[i]!.lo+1≤tnN o j
 |0,i,h=>by omega
 |j+1,i,h=>by
  show _≤max (tnN o j) (clk o[j]!.lo+1);by_cases q:i=j
  ·grind
  ·have:=tn_ge o j i Om;omega
theorem tnF_gt(o:List Tm){x:Tm}(hx:x∈o):clk x.lo<tnF o:=by
 obtain⟨i,hi,rfl⟩:=mem_at hx;have:=tn_ge o o.length i hi;grind [tnF]
theorem OrdOk.st(h:OrdOk ids o):∀x∈o,TmSt x:=fun x hx=>by
 have v:=h.v x hx;refine⟨(h.th x hx).2,fun e=> ?_,fun e=> ?_,fun e g=> ?_⟩
 ·have:=v.n;rw[e]at this;have:=this rfl;have h2:(0:Int)≤x.n∧x.n≤63:=this;omega
 ·have:=v.n;rw[e]at this;exact this rfl
 ·have:=v.m;rw[e]at this;exact this rfl (.inr g)
theorem OrdOk.srt(h:OrdOk ids o):TmSorted o:=fun p q hpq hq=>h.le hpq hq
structure FwOk(ids:List Int)(E:Int)(l:List Fw):Prop where
 v:∀f∈l,(0≤f.id∧f.id≤1000000000000000)∧(0≤f.fth∧f.fth≤1000000000000000)∧(0≤f.fsr∧f.fsr≤1000000000000000)∧(0≤f.tth∧f.tth≤1000000000000000)∧(0≤f.tsr∧f.tsr≤1000000000000000)∧0≤f.snd∧f.snd≤f.rcv∧f.rcv<E
 k:∀f∈l,f.fth∈ids∧f.tth∈ids
 s:l.Pairwise fun a b=>a.rcv≤b.rcv
theorem flN_ok(h:OrdOk ids o):∀j,j≤o.length→(∀k t,xget (flN o j).1 k=some t→∃i,i<j∧t=o[i]!)∧FwOk ids (tnF o) (flN o j).2∧∀f∈(flN o j).2,∃i,i<j∧f.rcv=clk o[i]!.lo
 |0,_=>⟨fun k t h=>(by cases h),⟨fun f hf=>(by cases hf),fun f hf=>(by cases hf),List.Pairwise.nil⟩,fun f hf=>(by cases hf)⟩
 |j+1,hj=>by
  obtain⟨a,b,c⟩:=flN_ok h j Om;have hx:=h.at_ (show j<o.length from hj);have c':∀f∈(flN o j).2,∃i,i<j+1∧f.rcv=clk o[i]!.lo:=fun f hf=>by
   grind
  have a':∀k t,xget (flN o j).1 k=some t→∃i,i<j+1∧t=o[i]! :=fun k t hk=>by
   grind
  rw[show flN o (j+1)=fl1 (flN o j) o[j]! from rfl];unfold fl1;split
  ·refine⟨fun k t hk=> ?_,b,c'⟩;rw[xget_xset]at hk;grind
  split
  ·rename_i q;cases e:xget (flN o j).1 o[j]!.n with
   |none=>exact⟨a',b,c'⟩
   |some t=>
    obtain⟨i,hi,rfl⟩:=a _ _ e;have hy:=h.at_ (show i<o.length by omega);have hle:=h.le (show i≤j by omega) hj;have hn:=hx.1.n;rw[q]at hn;have hn:(0:Int)≤o[j]!.n∧o[j]!.n≤1000000000000000:=hn rfl;have ht:=tnF_gt o (mem_b (show j<o.length from hj));have h0:=clk_rng o[i]!.lo;refine⟨a',⟨fun f hf=> ?_,fun f hf=> ?_,?_⟩,fun f hf=> ?_⟩
    ·rcases List.mem_append.1 hf with r|r
     ·exact b.v f r
     grind
    ·rcases List.mem_append.1 hf with r|r
     ·exact b.k f r
     grind
    ·show((flN o j).2++[_]).Pairwise _;rw[List.pairwise_append];refine⟨b.s,List.pairwise_singleton _ _,fun f hf g hg=> ?_⟩;rw[List.mem_singleton.1 hg];obtain⟨i2,hi2,e2⟩:=c f hf;rw[e2];exact h.le Om hj
    ·rcases List.mem_append.1 hf with r|r<;>grind
  grind
theorem flF_ok(h:OrdOk ids o):FwOk ids (tnF o) (flF o):=(flN_ok h _ Nl).2.1
structure SqOk(ids:List Int)(E:Int)(l:List Sq):Prop where
 v:∀x∈l,(0≤x.th∧x.th≤1000000000000000)∧(0≤x.at_∧x.at_<E∧x.at_≤1000000000000)∧(1≤x.w∧x.w≤1000000000000)∧frF x.st=0
 k:∀x∈l,x.th∈ids
 s:l.Pairwise fun a b=>a.at_≤b.at_
theorem smN_ok(h:OrdOk ids o):∀j,j≤o.length→SqOk ids (tnF o) (smN o j)∧∀f∈smN o j,∃i,i<j∧f.at_=clk o[i]!.lo
 |0,_=>⟨⟨fun f hf=>(by cases hf),fun f hf=>(by cases hf),List.Pairwise.nil⟩,fun f hf=>(by cases hf)⟩
 |j+1,hj=>by
  obtain⟨b,c⟩:=smN_ok h j Om;have hx:=h.at_ (show j<o.length from hj);have c':∀f∈smN o j,∃i,i<j+1∧f.at_=clk o[i]!.lo:=fun f hf=>by
   grind
  unfold smN;split
  ·rename_i q;have hn:=hx.1.n;rw[q]at hn;have hn:(1:Int)≤o[j]!.n∧o[j]!.n≤1000000000000:=hn rfl;have hs:=hx.1.st;rw[q]at hs;have hs:=hs rfl;have ht:=tnF_gt o (mem_b (show j<o.length from hj));have h0:=clk_rng o[j]!.lo;refine⟨⟨fun f hf=> ?_,fun f hf=> ?_,?_⟩,fun f hf=> ?_⟩
   ·rcases List.mem_append.1 hf with r|r
    ·exact b.v f r
    grind
   ·rcases List.mem_append.1 hf with r|r
    ·exact b.k f r
    grind
   ·rw[List.pairwise_append];refine⟨b.s,List.pairwise_singleton _ _,fun f hf g hg=> ?_⟩;rw[List.mem_singleton.1 hg];obtain⟨i2,hi2,e2⟩:=c f hf;rw[e2];exact h.le Om hj
   grind
  grind
theorem smFo_ok(h:OrdOk ids o):SqOk ids (tnF o) (smFo o):=(smN_ok h _ Nl).1
structure LsOk(ids:List Int)(l:List Lo):Prop where
 v:∀x∈l,x.th∈ids∧(0≤x.fr∧x.fr<x.to∧x.to≤1000000000000)∧1≤x.ct∧x.ct≤1000000000000000
theorem miF_ok{a b:Int}(h:0≤a∧a≤1000000000000)(g:0≤b∧b≤1000000000000):0≤(miF a b).1∧(miF a b).1<(miF a b).2∧(miF a b).2≤1000000000000:=by
 grind [miF]
theorem lsN_v(h:OrdOk ids o):∀j,j≤o.length→LsOk ids (lsN o j).2
 |0,_=>⟨fun x hx=>by cases hx⟩
 |j+1,hj=>by
  have b:=lsN_v h j Om;have hx:=h.at_ (show j<o.length from hj);have hr:=lsB_rng (o:=o) (fun x hx=>by have:=h.sr x hx;omega) (show j≤o.length by omega) o[j]!;refine⟨fun x hx'=> ?_⟩;rw[show(lsN o (j+1)).2=(ls1 (lsN o j) o[j]!).2 from rfl]at hx';unfold ls1 at hx';dsimp only at hx';split at hx'
  ·rename_i q;rcases List.mem_append.1 hx' with r|r
   ·exact b.v x r
   ·rw[List.mem_singleton.1 r];exact⟨hx.2.1.1,miF_ok hr.2 (clk_rng _),by grind,by grind⟩
  ·exact b.v x hx'
theorem lsF_ok(h:OrdOk ids o):LsOk ids (lsF o):=lsN_v h _ Nl
structure SpOk(E:Int)(l:List Sp):Prop where
 v:∀x∈l,nmF x.nm=0∧(0≤x.at_∧x.at_<E∧x.at_≤1000000000000)∧-1000000000000000≤x.v∧x.v≤1000000000000000
 s:∀i,i+1<l.length→cmpSp l[i]! l[i+1]! <0∧¬(l[i]!.nm=l[i+1]!.nm∧l[i]!.v=l[i+1]!.v)
theorem coA_ok(h:OrdOk ids o):∀j,j≤o.length→∀x∈coA o j,nmF x.nm=0∧(0≤x.at_∧x.at_<tnF o∧x.at_≤1000000000000)∧-1000000000000000≤x.v∧x.v≤1000000000000000
 |0,_,x,hx=>by cases hx
 |j+1,hj,x,hx=>by
  have b:=coA_ok h j Om;have hy:=h.at_ (show j<o.length from hj);unfold coA at hx;split at hx
  ·rename_i q;rcases List.mem_append.1 hx with r|r
   ·grind
   ·rw[List.mem_singleton.1 r];have hn:=hy.1.n;rw[q]at hn;have hm:=hy.1.nm;rw[q]at hm;have ht:=tnF_gt o (mem_b (show j<o.length from hj));have h0:=clk_rng o[j]!.lo;exact⟨hm rfl,⟨h0.1,ht,h0.2⟩,hn rfl⟩
  grind
theorem orF2(a b:Int):orF [a,b]=if a≠0 then a else b:=by
 show fE (fun i=>[a,b][i]!) 2=_;show(if(if(0:Int)=0 then a else 0)=0 then b else(if(0:Int)=0 then a else 0))=_;omega
end
theorem bl_irr:∀x:List UInt8,Op.bytesLess x x=false
 |[]=>rfl
 |a::x=>by
  show(decide (a<a)||(a==a&&Op.bytesLess x x))=false;rw[bl_irr x,Bool.and_false,Bool.or_false,decide_eq_false_iff_not];grind
theorem bl_tri:∀x y:List UInt8,Op.bytesLess x y=false→Op.bytesLess y x=false→x=y
 |[],[],_,_=>rfl
 |[],_::_,h,_=>by cases h
 |_::_,[],_,h=>by cases h
 |a::x,b::y,h,g=>by
  have h:(decide (a<b)||(a==b&&Op.bytesLess x y))=false:=h;have g:(decide (b<a)||(b==a&&Op.bytesLess y x))=false:=g;rw[Bool.or_eq_false_iff,decide_eq_false_iff_not,UInt8.lt_iff_toNat_lt]at h g;have e:a=b:=UInt8.toNat_inj.1 Om;subst e;rw[beq_self_eq_true,Bool.true_and]at h g;rw[bl_tri x y h.2 g.2]
theorem bl_tr:∀x y z:List UInt8,Op.bytesLess x y=true→Op.bytesLess y z=true→Op.bytesLess x z=true
 |[],[],_,h,_=>by cases h
 |_::_,[],_,h,_=>by cases h
 |_,_::_,[],_,h=>by cases h
 |[],_::_,_::_,_,_=>rfl
 |a::x,b::y,c::z,h,g=>by
  have h1:(decide (a<b)||(a==b&&Op.bytesLess x y))=true:=h;have g1:(decide (b<c)||(b==c&&Op.bytesLess y z))=true:=g;clear h g;show(decide (a<c)||(a==c&&Op.bytesLess x z))=true;rw[Bool.or_eq_true,decide_eq_true_eq,Bool.and_eq_true,beq_iff_eq,UInt8.lt_iff_toNat_lt]at h1 g1 ⊢;rcases h1 with h|⟨e,h⟩
  ·grind
  ·rcases g1 with g|⟨e2,g⟩
   ·grind
   ·exact .inr ⟨e.trans e2,bl_tr x y z h g⟩
theorem str_ext{a b:ByteArray}(h:a.toList=b.toList):a=b:=by
 rw[ByteArray.toList_eq,ByteArray.toList_eq]at h;cases a<;>simp_all
theorem ylt_irr(a:ByteArray):Y.lt a a=false:=bl_irr _
theorem ylt_tr{a b c:ByteArray}(h:Y.lt a b=true)(g:Y.lt b c=true):Y.lt a c=true:=bl_tr _ _ _ h g
theorem ylt_tri{a b:ByteArray}(h:Y.lt a b=false)(g:Y.lt b a=false):a=b:=str_ext (bl_tri _ _ h g)
theorem ylt_as{a b:ByteArray}(h:Y.lt a b=true):Y.lt b a=false:=by
 cases e:Y.lt b a with
 |false=>rfl
 |true=>grind [ylt_tr,ylt_irr]
theorem ygt_lt(a b:ByteArray):Y.gt a b=Y.lt b a:=by
 unfold Y.gt;cases e1:Y.lt a b with
 |true=>rw[ylt_as e1];rfl
 |false=>
  cases e2:Y.lt b a with
  |true=>
   have:(a.toList==b.toList)=false:=by
    grind [beq_eq_false_iff_ne,str_ext,ylt_irr]
   grind
  |false=>rw[ylt_tri e1 e2,beq_self_eq_true];rfl
theorem cmpS_c(a b:ByteArray):(cmpS a b<0↔Y.lt a b=true)∧(cmpS a b>0↔Y.lt b a=true)∧(cmpS a b=0↔a=b):=by
 unfold cmpS;rw[ygt_lt];cases e1:Y.lt a b with
 |true=>
  rw[if_pos rfl,ylt_as e1];refine⟨Dc,Dc,⟨fun h=>(by cases h),fun h=> ?_⟩⟩;grind [ylt_irr]
 |false=>
  rw[if_neg Dc];cases e2:Y.lt b a with
  |true=>
   grind
  |false=>
   rw[if_neg Dc];exact⟨Dc,Dc,⟨fun _=>ylt_tri e1 e2,fun _=>rfl⟩⟩
theorem cmpSp_lt(a b:Sp):cmpSp a b<0↔Y.lt a.nm b.nm=true∨a.nm=b.nm∧a.at_<b.at_:=by
 unfold cmpSp;rw[orF2];have h1:=cmpS_c a.nm b.nm;have h2:=cmpI_c a.at_ b.at_;grind
theorem cmpSp_0(a b:Sp):cmpSp a b=0↔a.nm=b.nm∧a.at_=b.at_:=by
 unfold cmpSp;rw[orF2];have h1:=cmpS_c a.nm b.nm;have h2:=cmpI_c a.at_ b.at_;grind
theorem cmpSp_tri(a b:Sp)(h0:cmpSp a b≠0)(h:¬cmpSp b a<0):cmpSp a b<0:=by
 rw[cmpSp_lt]at h ⊢;have h0:¬(a.nm=b.nm∧a.at_=b.at_):=fun e=>h0 ((cmpSp_0 a b).2 e);cases e1:Y.lt a.nm b.nm with
 |true=>grind
 |false=>
  cases e2:Y.lt b.nm a.nm with
  |true=>grind
  |false=>
   have e:=ylt_tri e1 e2;grind
theorem cmpSp_tr{a b c:Sp}(h:cmpSp a b<0)(g:cmpSp b c<0):cmpSp a c<0:=by
 rw[cmpSp_lt]at h g ⊢;rcases h with h|⟨h1,h2⟩
 ·grind [ylt_tr]
 grind
theorem cmpSp_Cmp:Cmp cmpSp:=by
 refine⟨fun x y h q=> ?_,fun x y z h g q=> ?_⟩
 ·grind [cmpSp_tr,cmpSp_lt,ylt_irr]
 ·by_cases e:cmpSp y z=0
  ·obtain⟨e1,e2⟩:=(cmpSp_0 y z).1 e;refine h ?_;simp_all [cmpSp_lt]
  ·exact h (cmpSp_tr (cmpSp_tri y z e g) q)
theorem ctR_ok{l:List Sp}(hs:l.Pairwise fun x y=>¬cmpSp y x<0):∀i,i≤l.length→(ctR l i).Pairwise (fun a b=>cmpSp a b<0)∧(∀x∈ctR l i,∃k,k<i∧x=l[k]!∧(k+1<l.length→cmpSp l[k]! l[k+1]!≠0))∧∀j,j+1<(ctR l i).length→¬((ctR l i)[j]!.nm=(ctR l i)[j+1]!.nm∧(ctR l i)[j]!.v=(ctR l i)[j+1]!.v)
 |0,_=>⟨List.Pairwise.nil,fun x hx=>(by cases hx),fun j hj=>absurd hj (Nat.not_lt_zero _)⟩
 |i+1,hi=>by
  obtain⟨a,b,c⟩:=ctR_ok hs i Om;have b':∀x∈ctR l i,∃k,k<i+1∧x=l[k]!∧(k+1<l.length→cmpSp l[k]! l[k+1]!≠0):=fun x hx=>by
   grind
  rw[show ctR l (i+1)=ct1 l (ctR l i) i from rfl];unfold ct1;split
  ·grind
  rename_i q1;split
  ·grind
  rename_i q2;refine⟨?_,fun x hx=> ?_,fun j hj=> ?_⟩
  ·rw[List.pairwise_append];refine⟨a,List.pairwise_singleton _ _,fun x hx y hy=> ?_⟩;rw[List.mem_singleton.1 hy];obtain⟨k,h1,rfl,h3⟩:=b x hx;have g1:=List.pairwise_iff_getElem.1 hs k (k+1) Om Om Om;rw[←bang_eq Om,←bang_eq Om]at g1;have g2:=cmpSp_tri _ _ (h3 Om) g1;by_cases e:k+1=i
   ·grind
   ·have g3:=List.pairwise_iff_getElem.1 hs (k+1) i Om Om Om;rw[←bang_eq Om,←bang_eq Om]at g3;by_cases z:cmpSp l[k+1]! l[i]! =0
    ·simp_all [cmpSp_0,cmpSp_lt]
    ·exact cmpSp_tr g2 (cmpSp_tri _ _ z g3)
  ·grind
  grind
section
variable{ids:List Int}{o:List Tm}
theorem coF_ok(h:OrdOk ids o):SpOk (tnF o) (coF o):=by
 obtain⟨a,b,c⟩:=ctR_ok (l:=coL o) (stabF_sorted cmpSp_Cmp _) (coL o).length Nl;show SpOk (tnF o) (ctR (coL o) (coL o).length);generalize ctR (coL o) (coL o).length=r at a b c ⊢;refine⟨fun x hx=> ?_,fun i hi=>⟨?_,c i hi⟩⟩
 ·obtain⟨k,hk,rfl,_⟩:=b x hx;exact coA_ok h o.length Nl _ ((stabF_perm _).mem_iff.1 (mem_b hk))
 grind [List.pairwise_iff_getElem,bang_eq]
structure BkOk(ids:List Int)(E:Int)(l:List Bk):Prop where
 v:∀x∈l,(0≤x.id∧x.id≤1000000000000000)∧(x.th∈ids∧0≤x.th∧x.th≤1000000000000000)∧(1≤x.sz∧x.sz≤1000000000000)∧(0≤x.fr∧x.fr<x.to∧x.to≤E)∧frF x.st=0
 s:l.Pairwise fun a b=>a.fr≤b.fr∧(a.id=b.id→¬(a.fr<b.to∧b.fr<a.to))
theorem xdel_keys{α:Type}{T:List (Int×α)}{k:Int}(h:(T.map (·.1)).Nodup):((xdel T k).map (·.1)).Nodup∧∀j,xget (xdel T k) j=if j=k then none else xget T j:=by
 induction T with
 |nil=>exact⟨List.nodup_nil,fun j=>by split<;>rfl⟩
 |cons p r ih=>
  obtain⟨a,b⟩:=p;rw[List.map_cons,List.nodup_cons]at h;obtain⟨i1,i2⟩:=ih h.2;have e:xdel ((a,b)::r) k=if k=a then r else(a,b)::xdel r k:=rfl
  rw[e];by_cases q:k=a
  ·subst q;rw[if_pos rfl];refine⟨h.2,fun j=> ?_⟩;show xget r j=if j=k then none else(if j=k then some b else xget r j)
   by_cases z:j=k
   ·subst z;rw[if_pos rfl];cases e2:xget r j with
    |none=>rfl
    |some v=>exact absurd (List.mem_map_of_mem (f:=(·.1)) (xget_mem e2)) h.1
   grind
  ·rw[if_neg q];refine⟨?_,fun j=> ?_⟩
   ·rw[List.map_cons,List.nodup_cons];refine⟨fun hm=>h.1 ?_,i1⟩;obtain⟨p,hp,e2⟩:=List.mem_map.1 hm;exact List.mem_map.2 ⟨p,xdel_mem hp,e2⟩
   ·show(if j=a then some b else xget (xdel r k) j)=if j=k then none else(if j=a then some b else xget r j)
    grind
structure Bm(ids:List Int)(en z:Int)(s:List (Int×Int)×List Bk):Prop where
 kd:(s.1.map (·.1)).Nodup
 op:∀k i,xget s.1 k=some i→0≤i∧i<(s.2.length:Int)∧s.2[i.toNat]!.id=k∧s.2[i.toNat]!.to=en
 v:∀x∈s.2,(0≤x.id∧x.id≤1000000000000000)∧(x.th∈ids∧0≤x.th∧x.th≤1000000000000000)∧(1≤x.sz∧x.sz≤1000000000000)∧(0≤x.fr∧x.fr≤z)∧frF x.st=0
 cl:∀i,i<s.2.length→xget s.1 s.2[i]!.id=some (i:Int)∧s.2[i]!.to=en∨s.2[i]!.to≤z
 di:∀i j,i<j→j<s.2.length→s.2[i]!.id=s.2[j]!.id→s.2[i]!.to≤s.2[j]!.fr
 z0:0≤z∧z<en
theorem Bm.up{en z z':Int}{s:List (Int×Int)×List Bk}(h:Bm ids en z s)(hz:z≤z')(he:z'<en):Bm ids en z' s:=
 ⟨h.kd,h.op,fun x hx=>by have:=h.v x hx;grind,fun i hi=>(h.cl i hi).imp id fun q=>by omega,h.di,by have:=h.z0;omega,he⟩
theorem Bm.free{en z:Int}{s:List (Int×Int)×List Bk}{x:Tm}(h:Bm ids en z s)(hz:clk x.lo=z):Bm ids en z (mmC s x (xget s.1 x.n))∧xget (mmC s x (xget s.1 x.n)).1 x.n=none:=by
 cases e:xget s.1 x.n with
 |none=>exact⟨h,e⟩
 |some i=>
  obtain⟨o1,o2,o3,o4⟩:=h.op _ _ e;obtain⟨d1,d2⟩:=xdel_keys (k:=x.n) h.kd;have z0:=h.z0;have hi:i.toNat<s.2.length:=Om;have hat:∀p,p<s.2.length→(s.2.set i.toNat {s.2[i.toNat]! with to:=clk x.lo,lv:=false})[p]! =if i.toNat=p then{s.2[i.toNat]! with to:=clk x.lo,lv:=false}else s.2[p]! :=fun p hp=>set_at _ _ _ _ hp
  have fid:∀p,p<s.2.length→(s.2.set i.toNat {s.2[i.toNat]! with to:=clk x.lo,lv:=false})[p]!.id=s.2[p]!.id:=fun p hp=>by grind
  have ffr:∀p,p<s.2.length→(s.2.set i.toNat {s.2[i.toNat]! with to:=clk x.lo,lv:=false})[p]!.fr=s.2[p]!.fr:=fun p hp=>by grind
  refine⟨⟨d1,fun k j hk=> ?_,fun y hy=> ?_,fun p hp=> ?_,fun p q hpq hq he=> ?_,h.z0⟩,?_⟩
  ·have hk:xget (xdel s.1 x.n) k=some j:=hk;rw[d2]at hk;split at hk
   ·cases hk
   ·rename_i hne;obtain⟨q1,q2,q3,q4⟩:=h.op k j hk;refine⟨q1,by show j<((s.2.set _ _).length:Int);grind,?_,?_⟩
    ·show(s.2.set _ _)[j.toNat]!.id=k;grind
    ·show(s.2.set _ _)[j.toNat]!.to=en;grind
  ·rcases List.mem_or_eq_of_mem_set hy with r|rfl
   ·exact h.v y r
   ·exact h.v s.2[i.toNat]! (mem_b hi)
  ·have hp:p<s.2.length:=by have:p<(s.2.set _ _).length:=hp;grind
   show xget (xdel s.1 x.n) (s.2.set _ _)[p]!.id=_∧(s.2.set _ _)[p]!.to=en∨(s.2.set _ _)[p]!.to≤z;rw[fid p hp,hat p hp,d2];by_cases c:i.toNat=p
   ·grind
   ·rw[if_neg c];refine(h.cl p hp).imp (fun r=>⟨?_,r.2⟩) id;grind
  ·have hq:q<s.2.length:=by have:q<(s.2.set _ _).length:=hq;grind
   have he:(s.2.set _ _)[p]!.id=(s.2.set _ _)[q]!.id:=he;rw[fid p Om,fid q hq]at he;show(s.2.set _ _)[p]!.to≤(s.2.set _ _)[q]!.fr;rw[ffr q hq,hat p Om];by_cases c:i.toNat=p
   ·exfalso;subst c;have:=h.di _ q hpq hq he;have f:=(h.v _ (mem_b hq)).2.2.2.1;omega
   ·rw[if_neg c];exact h.di p q hpq hq he
  ·show xget (xdel s.1 x.n) x.n=none;grind
theorem Bm.alloc{en z:Int}{s:List (Int×Int)×List Bk}{x:Tm}{A:Option Addr}{k c:Nat}(h:Bm ids en z s)(hz:clk x.lo=z)(h0:xget s.1 x.n=none)(hn:0≤x.n∧x.n≤1000000000000000)(ht:x.th∈ids∧0≤x.th∧x.th≤1000000000000000)(hm:1≤x.m∧x.m≤1000000000000)(hs:frF x.st=0):
  Bm ids en z (xset s.1 x.n (s.2.length:Int),s.2++[⟨x.n,x.th,x.m,clk x.lo,en,A,k,c,x.st,true⟩]):=by
 have hL:(s.2++[(⟨x.n,x.th,x.m,clk x.lo,en,A,k,c,x.st,true⟩:Bk)]).length=s.2.length+1:=by grind
 have a1:∀i,i<s.2.length→(s.2++[(⟨x.n,x.th,x.m,clk x.lo,en,A,k,c,x.st,true⟩:Bk)])[i]! =s.2[i]! :=fun i hi=>bang_app_left hi;have a2:(s.2++[(⟨x.n,x.th,x.m,clk x.lo,en,A,k,c,x.st,true⟩:Bk)])[s.2.length]! =⟨x.n,x.th,x.m,clk x.lo,en,A,k,c,x.st,true⟩:=by grind
 have cl':∀i,i<s.2.length→s.2[i]!.id=x.n→s.2[i]!.to≤z:=fun i hi e=>by
  rcases h.cl i hi with r|r<;>grind
 have sp:∀i,i<s.2.length+1→i<s.2.length∨i=s.2.length:=fun i hi=>by omega
 refine⟨xset_nodup h.kd,fun k' i hk=> ?_,fun y hy=> ?_,fun p hp=> ?_,fun p q hpq hq he=> ?_,h.z0⟩
 ·dsimp only at hk ⊢;rw[xget_xset]at hk;rw[hL];split at hk
  ·rename_i e;grind
  ·obtain⟨q1,q2,q3⟩:=h.op k' i hk;grind
 ·rcases List.mem_append.1 hy with r|r
  ·exact h.v y r
  ·rw[List.mem_singleton.1 r];exact⟨hn,ht,hm,⟨(clk_rng _).1,by grind⟩,hs⟩
 ·dsimp only at hp ⊢;rw[hL]at hp;rcases sp p hp with q|rfl
  ·rw[a1 p q,xget_xset];by_cases e:s.2[p]!.id=x.n
   ·grind
   ·rw[if_neg e];exact h.cl p q
  ·rw[a2,xget_xset,if_pos rfl];grind
 ·dsimp only at hq he ⊢;rw[hL]at hq;rw[a1 p Om]at he ⊢;rcases sp q hq with r|rfl
  ·rw[a1 q r]at he ⊢;exact h.di p q hpq r he
  grind
theorem mmN_v(h:OrdOk ids o){en:Int}(he:∀x∈o,clk x.lo<en)(h0:0<en):∀j,j≤o.length→Bm ids en (if j=0 then 0 else clk o[j-1]!.lo) (mmN en o j)
 |0,_=>⟨List.nodup_nil,fun k i hk=>(by cases hk),fun x hx=>(by cases hx),fun i hi=>absurd hi (Nat.not_lt_zero _),fun i j _ hj=>absurd hj (Nat.not_lt_zero _),by rw[if_pos rfl];exact⟨Int.le_refl _,h0⟩⟩
 |j+1,hj=>by
  have b:=mmN_v h he h0 j Om;have hx:=h.at_ (show j<o.length from hj);have hlt:=he _ (mem_b (show j<o.length from hj));have hc:=clk_rng o[j]!.lo;have b:=b.up (z':=clk o[j]!.lo) (by
   split
   ·exact hc.1
   ·exact h.le Om hj) hlt
  rw[if_neg Om,Nat.add_sub_cancel,show mmN en o (j+1)=mm1 en (mmN en o j) o[j]! from rfl];generalize mmN en o j=s at b;obtain⟨c1,c2⟩:=b.free (x:=o[j]!) rfl;unfold mm1;split
  ·exact b
  split
  ·rename_i q;have hn:=hx.1.n;rw[q]at hn;have hm:=hx.1.m;rw[q]at hm;have hs:=hx.1.st;rw[q]at hs;exact c1.alloc rfl c2 (hn rfl) hx.2.1 (hm rfl (.inl Dc)) (hs rfl)
  ·exact c1
theorem mmF_ok(h:OrdOk ids o)(h1:tnF o≤1000000000000)(h0:0<tnF o):BkOk ids (tnF o) (mmF o (tnF o)):=by
 have e:mmE o (tnF o)=tnF o:=by
  unfold mmE;have c:(if o.length>0 then max (tnF o) (clk o[o.length-1]!.lo)else tnF o)=tnF o:=by
   split
   ·have:=tnF_gt o (mem_b (show o.length-1<o.length by omega));omega
   ·rfl
  grind [clk]
 have B:=mmN_v h (en:=tnF o) (fun x hx=>tnF_gt o hx) h0 o.length Nl;unfold mmF;rw[e];generalize (mmN (tnF o) o o.length)=s at B;have P0:s.2.Pairwise fun a b=>a.id=b.id→¬(a.fr<b.to∧b.fr<a.to):=by
  rw[List.pairwise_iff_getElem];intro i j hi hj hij e;rw[←bang_eq hi,←bang_eq hj]at e ⊢;have:=B.di i j hij hj e;omega
 have P1:=(stabF_perm (c:=cmpBk) (s.2.filter fun b=> !decide (b.to≤b.fr))).symm.pairwise (P0.filter _) (fun{a b} h=>fun e q=>h e.symm ⟨q.2,q.1⟩);have P2:=stabF_sorted (c:=cmpBk) (cmpI_Cmp fun b:Bk=>b.fr) (s.2.filter fun b=> !decide (b.to≤b.fr));refine⟨fun x hx=> ?_,P1.imp₂ (fun a b h g=>⟨?_,h⟩) P2⟩
 ·have hx:=(stabF_perm _).mem_iff.1 hx;obtain⟨x1,x2⟩:=List.mem_filter.1 hx;rw[Bool.not_eq_true',decide_eq_false_iff_not]at x2;obtain⟨v1,v2,v3,v4,v5⟩:=B.v x x1;obtain⟨i,hi,rfl⟩:=mem_at x1;have z0:=B.z0;refine⟨v1,v2,v3,⟨v4.1,Om,?_⟩,v5⟩;rcases B.cl i hi with r|r<;>grind
 ·have:=(cmpI_c b.fr a.fr).1;have g:¬cmpI b.fr a.fr<0:=g;omega
end
end TW
end Go.Proofs.YtaclfjjipnpboaaGreat
section
attribute [local irreducible] Go.Eng.WC Go.Eng.WL Go.Eng.WK Go.Eng.WQ Go.Eng.WX Go.Eng.Yld
namespace Go.Proofs.YtaclfjjipnpboaaGreat
open Go Go.Eng Go.RowKit
namespace TW
theorem or_tg{ths:List Th}{d:List Dm}{s:List Sn}{l:List Pk}(h:orE ths d s l=0):tgE ths d s l=0:=by
 unfold orE at h;split at h
 ·rename_i q;exact absurd h q
 ·rename_i q;exact Decidable.of_not_not q
theorem trace_any(A_ta:Option Addr)(n_ta c_ta:Nat)(ta:List Th)(A_da:Option Addr)(n_da c_da:Nat)(da:List Dm)(A_na:Option Addr)(n_na c_na:Nat)(na:List Sn)(A_pa:Option Addr)(n_pa c_pa:Nat)(pa:List Pk)(w:World)(h_ta:Ls w A_ta n_ta c_ta Th.c 3 ta)(h_da:Ls w A_da n_da c_da Dm.c 2 da)(h_na:Ls w A_na n_na c_na Sn.c 5 na)(h_pa:Ls w A_pa n_pa c_pa Pk.c 4 pa)(g_pa:PksOk w pa)(hk:∀x∈pa,x.k≤1000000)(hl:n_pa≤1000)(ht:n_ta≤1000)(he:evsum pa pa.length≤24)(hsn:n_na≤12):
  Calls Tryz.prog 6 #[.agg #[.slice A_ta n_ta c_ta,.slice A_da n_da c_da,.slice A_na n_na c_na,.slice A_pa n_pa c_pa]] w fun e w'=>∃tv,e= .returned (.tuple #[tv,.int .i64 (trE ta da na pa)])∧Ext w w'∧(trE ta da na pa≠0→tv= .agg #[.int .i64 0,.int .i64 0,.slice none 0 0,.slice none 0 0,.slice none 0 0,.slice none 0 0,.slice none 0 0,.slice none 0 0,.slice none 0 0,.slice none 0 0])∧(trE ta da na pa=0→∃v1 v2 v3 v4 v5 v6 v7 xs,tv= .agg #[.int .i64 0,.int .i64 (tnF (orL ta da na pa)),.slice A_ta n_ta c_ta,v1,v2,v3,v4,v5,v6,v7]∧Hp w w' [row 100 Sc.c 8 v1 (slF (orL ta da na pa) (tnF (orL ta da na pa))),row 113 Sg.c 7 v2 (stOf ta (orL ta da na pa) (tnF (orL ta da na pa))),row 170 Fw.c 7 v3 (flF (orL ta da na pa)),row 53 Sm.c 4 v4 xs,big smR xs,row 172 Sp.c 3 v5 (coF (orL ta da na pa)),row 176 Bk.c 7 v6 (mmF (orL ta da na pa) (tnF (orL ta da na pa))),row 186 Lo.c 4 v7 (lsF (orL ta da na pa))]∧xs.map Sm.q=smFo (orL ta da na pa)):=by
 have H:=(Hp.nil w);have e_ta:=h_ta.len;have z_ta:=h_ta.nle;have e_da:=h_da.len;have z_da:=h_da.nle;have e_na:=h_na.len;have z_na:=h_na.nle;have e_pa:=h_pa.len;have z_pa:=h_pa.nle;have hkl:∀p∈pa,p.es.length=p.k:=fun p hp=>(g_pa p hp).l.len;refine Wb Tryz.func6 ?_;refine go ?_;refine bx H fun g2 z H=> ?_;refine al H ti42 fun g4 z H=> ?_;refine go ?_;refine c3 Fh (order_any _ _ _ _ _ _ _ _ _ _ _ _ _ _ _ _ _ (h_ta.ext H.ext) (h_da.ext H.ext) (h_na.ext H.ext) (h_pa.ext H.ext) (g_pa.ext H.ext) hk Om Om he Om) ?_;rintro _ z ⟨v1,rfl,ow,x⟩;have H:=H.newRow ow x;refine⟨_,rfl,?_⟩;refine go ?_;refine Cd (fun p10=> ?_) fun p10=> ?_
 ·refine go ?_;refine st H 1 ti42 fun z H=> ?_;refine go ?_;refine WK.ret [_,_] rfl ⟨⟨_,rfl,run_loadVar_blk u42 rfl ti42 (H.b 1)⟩,rfl,trivial⟩ ?_;have e1:trE ta da na pa=orE ta da na pa:=if_pos p10;exact⟨_,(by rw[e1];rfl),H.ext,fun _=>rfl,fun q=>absurd q (by rw[e1];exact p10)⟩
 ·obtain⟨A15,n16,c17,rfl,_,_,_⟩:=H.op 0;have hor:orE ta da na pa=0:=Decidable.of_not_not (fun q=>q p10);obtain⟨O,hO⟩:∃q,q=orL ta da na pa:=⟨_,rfl⟩;rw[←hO]at H;have e_O:=(H.l 0).len;refine go ?_;refine sb [21,6,1,2,4,19,20] ?_;refine WC.loopS 2 (fun mz Ed W'=>∃j:Nat,mz=n16-j∧Ed=[(21,.int .i64 ((j:Nat):Int)),(6,.int .i64 (tnN O j))]∧Hp w W' (_::_::_::[])∧(j≤n16)) _ ⟨0,rfl,rfl,(H.pick [0,0,0]),(Nat.zero_le _)⟩ ?_;rintro _ _ z ⟨j,rfl,rfl,H,jl⟩;have tr:=tnN_rng O j;have cr:=clk_rng O[j]!.lo;refine go ?_;refine Cd (fun p20=> ?_) fun p20=> ?_
  ·have b23:j<n16:=Om;refine go ?_;refine al H ti85 fun g24 z H=> ?_;refine st H 0 ti85 fun z H=> ?_;refine go ?_;refine c1 H Fh (clock_any O[j]! _) fun z H=> ?_;refine go ?_;exact Rs [(21,_),(6,_)] Sx ⟨(j+1),rfl,rfl,(H.pick [1,1,1]),Om⟩
  ·have htn:tnF O=tnN O j:=by unfold tnF;rw[show O.length=j from Om]
   refine go ?_;refine Cd (fun p28=> ?_) fun p28=> ?_
   ·refine go ?_;refine st H 1 ti42 fun z H=> ?_;refine G2 ?_;refine sb [2,3] ?_;refine go ?_;refine WK.ret [_,_] rfl ⟨⟨_,rfl,run_loadVar_blk u42 rfl ti42 (H.b 1)⟩,rfl,trivial⟩ ?_;have e1:trE ta da na pa=2:=(if_neg (not_not_intro hor)).trans (if_pos (by rw[←hO,htn];exact p28));exact⟨_,(by rw[e1];rfl),H.ext,fun _=>rfl,fun q=>absurd q (by rw[e1];decide)⟩
   ·have hOK:OrdOk (ta.map (·.id)) O:=by rw[hO];exact orL_ok hkl he hor
    have hpa2:=hpa_of (tnN O j) hOK.s;have ht2:=hd_len (of_zero (lg_pk (or_lg hor)).1).1;have hso:=rw_so (tg_rw (or_tg hor));have hsr:∀x∈O,0≤x.sr∧x.sr≤2000000000000000:=fun x hx=>by have:=hOK.sr x hx;omega
    have hOl:O.length≤24:=by rw[hO];refine Nat.le_trans orL_mem.2 ?_;rw[tgX_len hkl];show(idsN pa pa.length).length≤24;rw[idsN_len];exact he
    have hst:∀x∈O,Ls w x.A x.k x.c_ sc 1 x.st∧x.st.length≤1000:=fun x hx=>by
     rw[hO]at hx;obtain⟨p,hp,_,he⟩:=orL_ev x hx;exact⟨(g_pa p hp).e _ he,ev_stk (evs_ev (lg_pkok (or_lg hor) p hp).e _ he) ((g_pa p hp).e _ he).len.symm⟩
    refine go ?_;refine c2 H Fh (slice_any _ _ _ _ _ _ (H.l 0) Om hsr hpa2) fun v32 z H=> ?_;refine go ?_;refine c2 H Fh (stOf_any _ _ _ _ _ _ _ _ _ _ (h_ta.ext H.ext) (H.l 1) Om Om hsr) fun v34 z H=> ?_;refine go ?_;refine c2 H Fh (flow_any _ _ _ _ _ (H.l 2) Om) fun v36 z H=> ?_;refine go ?_;refine c3 Fh (sample_any _ _ _ _ _ (H.l 3) (fun x hx=>(hst x hx).1.ext H.ext) Om (fun x hx=>(hst x hx).2)) ?_;rintro _ z ⟨vs,xs,rfl,K,hxs⟩;have H:=H.join K;refine⟨_,rfl,?_⟩;refine go ?_;refine c2 H Fh (counter_any _ _ _ _ _ (H.l 5) Om) fun v40 z H=> ?_;refine go ?_;refine c2 H Fh (mem_any _ _ _ _ _ _ (H.l 6) Om) fun v42 z H=> ?_;refine go ?_;refine c2 H Fh (losses_any _ _ _ _ _ (H.l 7) Om hsr) fun v44 z H=> ?_;obtain⟨A46,n47,c48,rfl,_,_,_⟩:=H.op 7;obtain⟨A49,n50,c51,rfl,_,_,_⟩:=H.op 6;obtain⟨A52,n53,c54,rfl,_,_,_⟩:=H.op 5;obtain⟨A55,n56,c57,rfl,_,_,_⟩:=H.op 3;obtain⟨A58,n59,c60,rfl,_,_,_⟩:=H.op 2;obtain⟨A61,n62,c63,rfl,_,_,_⟩:=H.op 1;obtain⟨A64,n65,c66,rfl,_,_,_⟩:=H.op 0;refine go ?_;refine st H 9 ti42 fun z H=> ?_;refine go ?_;refine WK.ret [_,_] rfl ⟨⟨_,rfl,run_loadVar_blk u42 rfl ti42 (H.b 9)⟩,rfl,trivial⟩ ?_;have e1:trE ta da na pa=0:=(if_neg (not_not_intro hor)).trans (if_neg (by rw[←hO,htn];exact p28));exact⟨_,(by rw[e1];rfl),H.ext,fun q=>absurd e1 q,fun _=>⟨_,_,_,_,_,_,_,xs,(by rw[←hO,htn]),(by rw[←hO,htn];exact(H.pick [7,6,5,3,3,2,1,0])),(by rw[←hO];exact hxs)⟩⟩

def spV(f t:Int):Bool:=(decide (f≥0)&&decide (f<t))&&decide (t≤1000000000000)
theorem spV_iff{f t:Int}:spV f t=true↔0≤f∧f<t∧t≤1000000000000:=by unfold spV;rw[Bool.and_eq_true,Bool.and_eq_true,decide_eq_true_eq,decide_eq_true_eq,decide_eq_true_eq];omega
theorem spv_any(f t:Int)(w:World):
  Cr 36 #[.agg #[.int .i64 f,.int .i64 t]] w (.bool (spV f t)):=by
 have H:=(Hp.nil w);refine Wb Tryz.func36 ?_;refine go ?_;refine bx H fun g2 z H=> ?_;refine go ?_;refine Rt [_] ?_;exact⟨rfl,H.ext⟩
theorem within_any(f t:Int)(a b:Int)(w:World):
  Cr 120 #[.agg #[.int .i64 f,.int .i64 t],.agg #[.int .i64 a,.int .i64 b]] w (.bool (decide (a≤f)&&decide (t≤b))):=by
 have H:=(Hp.nil w);refine Wb Tryz.func120 ?_;refine go ?_;refine bx H fun g2 z H=> ?_;refine bx H fun g4 z H=> ?_;refine G17 ?_;refine sb [4] ?_;refine go ?_;refine Rt [_] ?_;exact⟨rfl,H.ext⟩
theorem inside_any(a b:Int)(t:Int)(w:World):
  Cr 127 #[.agg #[.int .i64 a,.int .i64 b],.int .i64 t] w (.bool (decide (a≤t)&&decide (t<b))):=by
 have H:=(Hp.nil w);refine Wb Tryz.func127 ?_;refine go ?_;refine bx H fun g2 z H=> ?_;refine go ?_;refine Rt [_] ?_;exact⟨rfl,H.ext⟩
theorem fbad_any(n:Int)(mo:Int)(w:World):
  Cr 169 #[.int .i64 n,.int .i64 mo] w (.bool (decide (n<0)||decide (mo<n))):=by
 have H:=(Hp.nil w);refine Wb Tryz.func169 ?_;refine go ?_;refine Rt [_] ?_;exact⟨rfl,H.ext⟩
theorem pw_at{α:Type}[Inhabited α]{R:α→α→Prop}{l:List α}(h:l.Pairwise R){i j:Nat}(hij:i<j)(hj:j<l.length):R l[i]! l[j]! :=by
 have:=List.pairwise_iff_getElem.1 h i j Om hj hij;rwa[←bang_eq Om,←bang_eq hj]at this
theorem andF{p q:Prop}[Decidable p][Decidable q](h:p→¬q):(decide p&&decide q)=false:=by
 by_cases hp:p
 ·rw[decide_eq_false (h hp),Bool.and_false]
 ·rw[decide_eq_false hp,Bool.false_and]
theorem fbad_no(n mo:Int)(w:World)(h:0≤n∧n≤mo):Cr 169 #[.int .i64 n,.int .i64 mo] w (.bool false):=
 (fbad_any n mo w).mono fun e w' r=>⟨by rw[r.1,decide_eq_false Om,decide_eq_false Om];rfl,r.2⟩
theorem spv_yes(f t:Int)(w:World)(h:0≤f∧f<t∧t≤1000000000000):Cr 36 #[.agg #[.int .i64 f,.int .i64 t]] w (.bool true):=
 (spv_any f t w).mono fun e w' r=>⟨by rw[r.1,spV_iff.2 h],r.2⟩
theorem flowchk_any(A_l:Option Addr)(n_l c_l:Nat)(l:List Fw)(w:World)(h_l:Ls w A_l n_l c_l Fw.c 7 l)(ids:List Int)(E:Int)(hv:FwOk ids E l)(hE:E≤1000000000000):
  Cr 108 #[.slice A_l n_l c_l] w (.int .i64 0):=by
 have H:=(Hp.nil w);have e_l:=h_l.len;have z_l:=h_l.nle;refine Wb Tryz.func108 ?_;refine go ?_;refine sb [7,0,5,6] ?_;refine WC.loopS 1 (fun mz Ed W'=>∃j:Nat,mz=n_l-j∧Ed=[(7,.int .i64 ((j:Nat):Int))]∧Hp w W' ([])∧(j≤n_l)) _ ⟨0,rfl,rfl,(H.pick []),(Nat.zero_le _)⟩ ?_;rintro _ _ z ⟨j,rfl,rfl,H,jl⟩;refine go ?_;refine Cd (fun p6=> ?_) fun p6=> ?_
 ·have vj:=hv.v _ (mem_b (show j<l.length by omega));have sj:(j:Int)>0→l[j-1]!.rcv≤l[j]!.rcv:=fun q=>pw_at hv.s Om Om;have b9:j<n_l:=Om;refine go ?_;refine al H ti170 fun g10 z H=> ?_;refine go ?_;refine st H 0 ti170 fun z H=> ?_;refine go ?_;refine c1 H Fh (fbad_no (l[j]!.id) (1000000000000000) _ Om) fun z H=> ?_;refine go ?_;refine WC.condF rfl ?_;refine go ?_;refine c1 H Fh (fbad_no (l[j]!.fth) (1000000000000000) _ Om) fun z H=> ?_;refine go ?_;refine WC.condF rfl ?_;refine go ?_;refine c1 H Fh (fbad_no (l[j]!.fsr) (1000000000000000) _ Om) fun z H=> ?_;refine go ?_;refine WC.condF rfl ?_;refine go ?_;refine c1 H Fh (fbad_no (l[j]!.tth) (1000000000000000) _ Om) fun z H=> ?_;refine go ?_;refine WC.condF rfl ?_;refine go ?_;refine c1 H Fh (fbad_no (l[j]!.tsr) (1000000000000000) _ Om) fun z H=> ?_;refine G2 ?_;refine sb [0,3,4,5,6,7,12] ?_;refine WC.condF rfl ?_;refine go ?_;refine c1 H Fh (fbad_no (l[j]!.snd) (1000000000000) _ Om) fun z H=> ?_;refine go ?_;refine WC.condF rfl ?_;refine go ?_;refine c1 H Fh (fbad_no (l[j]!.rcv) (1000000000000) _ Om) fun z H=> ?_;refine go ?_;refine WC.condF rfl ?_;refine G6 ?_;refine yy (Yld.cast (Y.gtr rfl rfl rfl) (bf Om)) ?_;refine go ?_;refine WC.condF rfl ?_;refine Qr ?_;refine G8 ?_;refine qg (fun hb=>Y.indexLs (j-1) (h_l.ext H.ext) rfl u36 ti170 (evg rfl hb) (evg rfl hb) (by have q0:=(dec_t hb);omega) (by have q0:=(dec_t hb);omega)) ?_;refine G3 ?_;refine yq (Yld.cast (Y.and rfl rfl rfl rfl) (vb (andF fun q=>by have:=sj q;omega))) ?_;refine go ?_;refine Qd H fun z H=> ?_;refine go ?_;refine WC.condF rfl ?_;refine go ?_;exact Rs [(7,_)] Sx ⟨(j+1),rfl,rfl,(H.pick []),Om⟩
 ·refine go ?_;refine Rt [_] ?_;exact⟨rfl,H.ext⟩
theorem good_yes(x:Sm)(w:World)(hv:(0≤x.th∧x.th≤1000000000000000)∧(0≤x.at_∧x.at_≤1000000000000)∧1≤x.w∧x.w≤1000000000000):
  Cr 80 #[.agg #[.int .i64 x.th,.int .i64 x.at_,.int .i64 x.w,.slice x.A x.n x.cp]] w (.bool true):=by
 have H:=(Hp.nil w);refine Wb Tryz.func80 ?_;refine go ?_;refine bx H fun g2 z H=> ?_;refine go ?_;refine Rt [_] ?_;exact⟨ret1 (vb (by simp only[Bool.and_eq_true,Bool.or_eq_true,Bool.not_eq_true',decide_eq_true_eq,decide_eq_false_iff_not,Bool.and_eq_false_iff,Bool.or_eq_false_iff];omega)),H.ext⟩
theorem smpchk_any(A_l:Option Addr)(n_l c_l:Nat)(l:List Sm)(w:World)(h_l:Ls w A_l n_l c_l Sm.c 4 l)(g_l:∀x∈l,Ls w x.A x.n x.cp sc 1 x.st)(ids:List Int)(E:Int)(hv:SqOk ids E (l.map Sm.q)):
  Cr 35 #[.slice A_l n_l c_l] w (.int .i64 0):=by
 have H:=(Hp.nil w);have e_l:=h_l.len;have z_l:=h_l.nle;refine Wb Tryz.func35 ?_;refine G3 ?_;refine sb [0] ?_;refine go ?_;refine sb [8,0,6,7] ?_;refine WC.loopS 1 (fun mz Ed W'=>∃j:Nat,mz=n_l-j∧Ed=[(8,.int .i64 ((j:Nat):Int))]∧Hp w W' ([])∧(j≤n_l)) _ ⟨0,rfl,rfl,(H.pick []),(Nat.zero_le _)⟩ ?_;rintro _ _ z ⟨j,rfl,rfl,H,jl⟩;refine go ?_;refine Cd (fun p6=> ?_) fun p6=> ?_
 ·have vj:=hv.v (Sm.q l[j]!) (List.mem_map_of_mem (mem_b (show j<l.length by omega)));have vj:((0≤l[j]!.th∧l[j]!.th≤1000000000000000)∧(0≤l[j]!.at_∧l[j]!.at_<E∧l[j]!.at_≤1000000000000)∧(1≤l[j]!.w∧l[j]!.w≤1000000000000)∧frF l[j]!.st=0):=vj;have fj:=vj.2.2.2;have sj:(j:Int)>0→l[j-1]!.at_≤l[j]!.at_:=fun q=>by
   have:=pw_at hv.s (i:=j-1) (j:=j) Om (by rw[List.length_map];omega);rw[map_b Sm.q Om,map_b Sm.q Om]at this;exact this
  have b9:j<n_l:=Om;refine go ?_;refine al H ti53 fun g10 z H=> ?_;refine go ?_;refine st H 0 ti53 fun z H=> ?_;refine go ?_;refine c1 H Fh (good_yes l[j]! _ Om) fun z H=> ?_;refine go ?_;refine WC.condF rfl ?_;refine go ?_;refine c1 H Fh (frames_any _ _ _ _ _ ((g_l _ (mem_b (show j<l.length from Om))).ext H.ext)) fun z H=> ?_;refine G4 ?_;refine yy (Yld.cast (Y.neq rfl rfl rfl) (vb (by rw[fj];first|done|rfl))) ?_;refine go ?_;refine WC.condF rfl ?_;refine go ?_;refine Qr ?_;refine G8 ?_;refine qg (fun hb=>Y.indexLs (j-1) (h_l.ext H.ext) rfl u37 ti53 (evg rfl hb) (evg rfl hb) (by have q0:=(dec_t hb);omega) (by have q0:=(dec_t hb);omega)) ?_;refine go ?_;refine Qd H fun z H=> ?_;refine G1 ?_;refine sb [0,6,7,8,34] ?_;refine Cd (fun p18=> ?_) fun p18=> ?_
  ·omega
  ·refine go ?_;exact Rs [(8,_)] Sx ⟨(j+1),rfl,rfl,(H.pick []),Om⟩
 ·refine go ?_;refine Rt [_] ?_;exact⟨rfl,H.ext⟩
theorem in_yes(n:Int)(w:World)(h: -1000000000000000≤n∧n≤1000000000000000):Cr 170 #[.int .i64 n] w (.bool true):=
 (NumF.in_any n w).mono fun e w' r=>⟨by rw[r.1];exact congrArg (fun b=>Ending.returned (.bool b)) (by unfold Iv.inB;simp only[Bool.and_eq_true,decide_eq_true_eq];omega),r.2⟩
theorem stpchk_any(A_l:Option Addr)(n_l c_l:Nat)(l:List Sp)(w:World)(h_l:Ls w A_l n_l c_l Sp.c 3 l)(E:Int)(hv:SpOk E l):
  Cr 113 #[.slice A_l n_l c_l] w (.int .i64 0):=by
 have H:=(Hp.nil w);have e_l:=h_l.len;have z_l:=h_l.nle;refine Wb Tryz.func113 ?_;refine go ?_;refine sb [8,0,6,7] ?_;refine WC.loopS 1 (fun mz Ed W'=>∃j:Nat,mz=n_l-j∧Ed=[(8,.int .i64 ((j:Nat):Int))]∧Hp w W' ([])∧(j≤n_l)) _ ⟨0,rfl,rfl,(H.pick []),(Nat.zero_le _)⟩ ?_;rintro _ _ z ⟨j,rfl,rfl,H,jl⟩;refine go ?_;refine Cd (fun p6=> ?_) fun p6=> ?_
 ·have vj:=hv.v _ (mem_b (show j<l.length by omega));have fj:=vj.1;have sj:(j:Int)>0→¬cmpSp l[j-1]! l[j]!≥0∧¬(l[j-1]!.nm=l[j]!.nm∧l[j-1]!.v=l[j]!.v):=fun q=>by
   have:=hv.s (j-1) Om;rw[show j-1+1=j from Om]at this;exact⟨Int.not_le.2 this.1,this.2⟩
  have b9:j<n_l:=Om;refine go ?_;refine al H ti172 fun g10 z H=> ?_;refine go ?_;refine st H 0 ti172 fun z H=> ?_;refine go ?_;refine c1 H Fh (name_any _ _) fun z H=> ?_;refine G4 ?_;refine yy (Yld.cast (Y.neq rfl rfl rfl) (vb (by rw[fj];first|done|rfl))) ?_;refine go ?_;refine WC.condF rfl ?_;refine G15 ?_;refine WL.callG rfl (blt rfl) rfl rfl rfl rfl rfl Fh (fun hb=>(evs_cons (evg rfl hb) evs_nil)) (fun hb=>in_yes (l[j]!.v) _ (by have q0:=(And.intro (dec_f (or_f hb).1) (dec_f (or_f hb).2));omega)) (fun z x=> ?_);have H:=H.ex x;refine G3 ?_;refine sb [0,3,4,6,7,8,32] ?_;refine WC.cond rfl (fun h17=> ?_) (fun h17=> ?_)
  ·have p17:=((or_t h17).imp (fun h=>((or_t h).imp (fun h=>(dec_t h)) (fun h=>(dec_t h)))) (fun h=>h));exact(p17).elim (fun q=>by omega) (fun q=>by cases q)
  ·have p17:=(And.intro (dec_f (or_f (or_f h17).1).1) (dec_f (or_f (or_f h17).1).2));refine go ?_;refine Qr ?_;refine G6 ?_;refine qg (fun hb=>Y.indexLs (j-1) (h_l.ext H.ext) rfl u38 ti172 (evg rfl hb) (evg rfl hb) (by have q0:=(dec_t hb);omega) (by have q0:=(dec_t hb);omega)) ?_;refine G2 ?_;refine WQ.callG rfl (blt rfl) rfl rfl rfl rfl rfl Fh (fun hb=>(evs_cons (evg rfl hb) (evs_cons (evg rfl hb) evs_nil))) (fun hb w hw=>calls_ext hw (corder_any _ _ _)) ?_;refine G2 ?_;refine WQ.yldGs [(_,_)] rfl (blt rfl) rfl rfl rfl (fun hb=>Y.move rfl rfl) ?_;refine WQ.yldGs [(_,_)] rfl (blt rfl) rfl rfl rfl (fun hb=>Y.move rfl rfl) ?_;refine WQ.yldGs [(_,_)] rfl (blt rfl) rfl rfl rfl (fun hb=>Y.sub rfl (evg (evg rfl hb.1) hb.2.1) rfl (wrap_i64 (by have q0:=(dec_t hb.1);have q1:=(dec_f hb.2.1);first|omega|(dsimp only;omega)))) ?_;refine WQ.yldGs [(_,_)] rfl (blt rfl) rfl rfl rfl (fun hb=>Y.indexLs (j-1) (h_l.ext H.ext) rfl u38 ti172 (evg (evg rfl hb.1) hb.2.1) (evg (evg rfl hb.1) hb.2.1) (by have q0:=(dec_t hb.1);have q1:=(dec_f hb.2.1);omega) (by have q0:=(dec_t hb.1);have q1:=(dec_f hb.2.1);omega)) ?_;refine WQ.yldGs [(_,_)] rfl (blt rfl) rfl rfl rfl (fun hb=>Y.fieldE rfl u172 rfl ti9 Dc (evg (evg rfl hb.1) hb.2.1)) ?_;refine WQ.yldGs [(_,_)] rfl (blt rfl) rfl rfl rfl (fun hb=>Y.load1 rfl u9 rfl (evg (evg rfl hb.1) hb.2.1) (Ls.at_ext (h_l.ext H.ext) (by have q0:=(dec_t hb.1);have q1:=(dec_f hb.2.1);omega) rfl)) ?_;refine WQ.yldGs [(_,_)] rfl (blt rfl) rfl rfl rfl (fun hb=>Y.fieldAddr rfl u172 rfl ti9 Dc rfl) ?_;refine WQ.yldGs [(_,_)] rfl (blt rfl) rfl rfl rfl (fun hb=>Y.load1 rfl u9 rfl (evg (evg rfl hb.1) hb.2.1) (Blk.at_ext (H.b 0) rfl)) ?_;refine WQ.yldGs [(_,_)] rfl (blt rfl) rfl rfl rfl (fun hb=>Y.eqlStr rfl (evg (evg rfl hb.1) hb.2.1) (evg (evg rfl hb.1) hb.2.1)) ?_;refine WQ.yldGs [(_,_)] rfl (blt rfl) rfl rfl rfl (fun hb=>Y.move rfl (evg (evg rfl hb.1) hb.2.1)) ?_;refine WQ.yldGs [(_,_),(_,_)] rfl (blt rfl) rfl rfl rfl (fun hb=>Y.move rfl rfl) ?_;refine WQ.yldGs [(_,_),(_,_)] rfl (blt rfl) rfl rfl rfl (fun hb=>Y.move rfl rfl) ?_;refine WQ.yldGs [(_,_),(_,_)] rfl (blt rfl) rfl rfl rfl (fun hb=>Y.sub rfl (evg (evg (evg rfl hb.1) hb.2.1) hb.2.2.1) rfl (wrap_i64 (by have q0:=(dec_t hb.1);have q1:=(dec_f hb.2.1);have q2:=(beqB_eq.1 hb.2.2.1);first|omega|(dsimp only;omega)))) ?_;refine WQ.yldGs [(_,_),(_,_)] rfl (blt rfl) rfl rfl rfl (fun hb=>Y.indexLs (j-1) (h_l.ext H.ext) rfl u38 ti172 (evg (evg (evg rfl hb.1) hb.2.1) hb.2.2.1) (evg (evg (evg rfl hb.1) hb.2.1) hb.2.2.1) (by have q0:=(dec_t hb.1);have q1:=(dec_f hb.2.1);have q2:=(beqB_eq.1 hb.2.2.1);omega) (by have q0:=(dec_t hb.1);have q1:=(dec_f hb.2.1);have q2:=(beqB_eq.1 hb.2.2.1);omega)) ?_;refine WQ.yldGs [(_,_),(_,_)] rfl (blt rfl) rfl rfl rfl (fun hb=>Y.fieldE rfl u172 rfl ti3 Dc (evg (evg (evg rfl hb.1) hb.2.1) hb.2.2.1)) ?_;refine WQ.yldGs [(_,_),(_,_)] rfl (blt rfl) rfl rfl rfl (fun hb=>Y.load1 rfl u3 rfl (evg (evg (evg rfl hb.1) hb.2.1) hb.2.2.1) (Ls.at_ext (h_l.ext H.ext) (by have q0:=(dec_t hb.1);have q1:=(dec_f hb.2.1);have q2:=(beqB_eq.1 hb.2.2.1);omega) rfl)) ?_;refine WQ.yldGs [(_,_),(_,_)] rfl (blt rfl) rfl rfl rfl (fun hb=>Y.fieldAddr rfl u172 rfl ti3 Dc rfl) ?_;refine WQ.yldGs [(_,_),(_,_)] rfl (blt rfl) rfl rfl rfl (fun hb=>Y.load1 rfl u3 rfl (evg (evg (evg rfl hb.1) hb.2.1) hb.2.2.1) (Blk.at_ext (H.b 0) rfl)) ?_;refine WQ.yldGs [(_,_),(_,_)] rfl (blt rfl) rfl rfl rfl (fun hb=>Y.eql rfl (evg (evg (evg rfl hb.1) hb.2.1) hb.2.2.1) (evg (evg (evg rfl hb.1) hb.2.1) hb.2.2.1)) ?_;refine WQ.yldGs [(_,_)] rfl (blt rfl) rfl rfl rfl (fun hb=>Y.and rfl (evg (evg rfl hb.1) hb.2.1) (evg (evg rfl hb.1) hb.2.1) rfl) ?_;refine go ?_;refine Qd H fun z H=> ?_;refine go ?_;refine Cd (fun p19=> ?_) fun p19=> ?_
   ·exact absurd p19 (by have:=sj;grind)
   ·refine go ?_;exact Rs [(8,_)] Sx ⟨(j+1),rfl,rfl,(H.pick []),Om⟩
 ·refine go ?_;refine Rt [_] ?_;exact⟨rfl,H.ext⟩
theorem tk_at{α:Type}[Inhabited α]{l:List α}{j k:Nat}(h:k<j):(l.take j)[k]! =l[k]! :=by
 rw[List.getElem!_eq_getElem?_getD,List.getElem?_take_of_lt h,←List.getElem!_eq_getElem?_getD]
theorem blkchk_any(A_l:Option Addr)(n_l c_l:Nat)(l:List Bk)(w:World)(h_l:Ls w A_l n_l c_l Bk.c 7 l)(g_l:∀x∈l,Ls w x.A x.k x.c_ sc 1 x.st)(ids:List Int)(E:Int)(hv:BkOk ids E l)(hE:E≤1000000000000):
  Cr 115 #[.slice A_l n_l c_l] w (.int .i64 0):=by
 have H:=(Hp.nil w);have e_l:=h_l.len;have z_l:=h_l.nle;refine Wb Tryz.func115 ?_;refine go ?_;refine sb [10,0,8,9] ?_;refine WC.loopS 1 (fun mz Ed W'=>∃j:Nat,mz=n_l-j∧Ed=[(10,.int .i64 ((j:Nat):Int))]∧Hp w W' ([])∧(j≤n_l)) _ ⟨0,rfl,rfl,(H.pick []),(Nat.zero_le _)⟩ ?_;rintro _ _ z ⟨j,rfl,rfl,H,jl⟩;refine go ?_;refine Cd (fun p6=> ?_) fun p6=> ?_
 ·have vj:=hv.v _ (mem_b (show j<l.length by omega));have fj:=vj.2.2.2.2;have sj:(j:Int)>0→l[j-1]!.fr≤l[j]!.fr:=fun q=>(pw_at hv.s Om Om).1;have b9:j<n_l:=Om;refine go ?_;refine al H ti176 fun g10 z H=> ?_;refine go ?_;refine st H 0 ti176 fun z H=> ?_;refine G1 ?_;refine sb [0,3,4,8,9,10] ?_;refine G30 ?_;refine G3 ?_;refine WL.callG rfl (blt rfl) rfl rfl rfl rfl rfl Fh (fun hb=>(evs_cons (evg rfl hb) evs_nil)) (fun hb=>spv_yes (l[j]!.fr) (l[j]!.to) _ (by have q0:=(And.intro (And.intro (And.intro (And.intro (And.intro (dec_f (or_f (or_f (or_f (or_f (or_f hb).1).1).1).1).1) (dec_f (or_f (or_f (or_f (or_f (or_f hb).1).1).1).1).2)) (dec_f (or_f (or_f (or_f (or_f hb).1).1).1).2)) (dec_f (or_f (or_f (or_f hb).1).1).2)) (dec_f (or_f (or_f hb).1).2)) (dec_f (or_f hb).2));omega)) (fun z x=> ?_);have H:=H.ex x;refine go ?_;refine WC.cond rfl (fun h14=> ?_) (fun h14=> ?_)
  ·have p14:=((or_t h14).imp (fun h=>((or_t h).imp (fun h=>((or_t h).imp (fun h=>((or_t h).imp (fun h=>((or_t h).imp (fun h=>((or_t h).imp (fun h=>(dec_t h)) (fun h=>(dec_t h)))) (fun h=>(dec_t h)))) (fun h=>(dec_t h)))) (fun h=>(dec_t h)))) (fun h=>(dec_t h)))) (fun h=>h));exact(p14).elim (fun q=>by omega) (fun q=>by cases q)
  ·have p14:=(And.intro (And.intro (And.intro (And.intro (And.intro (dec_f (or_f (or_f (or_f (or_f (or_f (or_f h14).1).1).1).1).1).1) (dec_f (or_f (or_f (or_f (or_f (or_f (or_f h14).1).1).1).1).1).2)) (dec_f (or_f (or_f (or_f (or_f (or_f h14).1).1).1).1).2)) (dec_f (or_f (or_f (or_f (or_f h14).1).1).1).2)) (dec_f (or_f (or_f (or_f h14).1).1).2)) (dec_f (or_f (or_f h14).1).2));refine G2 ?_;refine sb [0,3,4,8,9,10] ?_;refine go ?_;refine c1 H Fh (frames_any _ _ _ _ _ ((g_l _ (mem_b (show j<l.length from Om))).ext H.ext)) fun z H=> ?_;refine G4 ?_;refine yy (Yld.cast (Y.neq rfl rfl rfl) (vb (by rw[fj];first|done|rfl))) ?_;refine go ?_;refine WC.condF rfl ?_;refine go ?_;refine Qr ?_;refine G9 ?_;refine qg (fun hb=>Y.indexLs (j-1) (h_l.ext H.ext) rfl u39 ti176 (evg rfl hb) (evg rfl hb) (by have q0:=(dec_t hb);omega) (by have q0:=(dec_t hb);omega)) ?_;refine go ?_;refine Qd H fun z H=> ?_;refine go ?_;refine Cd (fun p20=> ?_) fun p20=> ?_
   ·omega
   ·have b22:j≤n_l:=Om;refine G5 ?_;refine yy (Y.sliceH j rfl u39 ti176 rfl rfl rfl (Nat.le_trans b22 (h_l.ext H.ext).le)) ?_;have tk:∀k,k<j→(l.take j)[k]! =l[k]! :=fun k hk=>tk_at hk;refine go ?_;refine sb [74,0,4,8,9,10,72,73] ?_;refine WC.loopS 1 (fun mz Ed W'=>∃k:Nat,mz=j-k∧Ed=[(74,.int .i64 ((k:Nat):Int))]∧Hp w W' (_::[])∧(k≤j)) _ ⟨0,rfl,rfl,(H.pick [0]),(Nat.zero_le _)⟩ ?_;rintro _ _ z ⟨k,rfl,rfl,H,kl⟩;refine go ?_;refine Cd (fun p25=> ?_) fun p25=> ?_
    ·have pk:=(pw_at hv.s (i:=k) (j:=j) Om Om).2;rw[←tk k Om]at pk;have b28:k<j:=Om;refine G5 ?_;refine yy (Y.indexLs k ((h_l.ext H.ext).take b22) rfl u39 ti176 rfl rfl rfl b28) ?_;refine yy (Y.loadS (cs:=[_,_,_,_,_,_,_]) rfl u176 rfl ti176 rfl (Ls.part_eq ((h_l.ext H.ext).take b22) b28 rfl)) ?_;refine al H ti176 fun g29 z H=> ?_;refine st H 0 ti176 fun z H=> ?_;refine go ?_;refine Cd (fun p32=> ?_) fun p32=> ?_
     ·omega
     ·refine G3 ?_;refine sb [0,4,8,9,10,72,73,74] ?_;refine go ?_;exact Rs [(74,_)] Sx ⟨(k+1),rfl,rfl,(H.pick [1]),Om⟩
    ·refine go ?_;exact Rs [(10,_)] Sx ⟨(j+1),rfl,rfl,(H.pick []),Om⟩
 ·refine go ?_;refine Rt [_] ?_;exact⟨rfl,H.ext⟩
def thM(ths:List Th):Nat→List (Int×Value)
 |0=>[]
 |j+1=>mset (thM ths j) ths[j]!.id (.string ths[j]!.nm)
theorem mget_mset:∀(m:List (Int×Value)) (i:Int) (u:Value) (j:Int),mget (mset m i u) j=if j=i then some u else mget m j
 |[],i,u,j=>by simp[mset,mget]
 |(k,v)::r,i,u,j=>by
  have ih:=mget_mset r i u j;show mget (if i=k then(k,u)::r else(k,v)::mset r i u) j=_;by_cases h:i=k
  ·subst h;rw[if_pos rfl];show(if j=i then some u else mget r j)=if j=i then some u else(if j=i then some v else mget r j)
   split<;>rfl
  ·rw[if_neg h];show(if j=k then some v else mget (mset r i u) j)=if j=i then some u else(if j=k then some v else mget r j)
   rw[ih];by_cases q:j=k
   ·subst q;rw[if_pos rfl,if_pos rfl,if_neg (fun e=>h e.symm)]
   ·rw[if_neg q,if_neg q]
theorem thM_has{ths:List Th}(k:Int):∀n,n≤ths.length→((mget (thM ths n) k).isSome=true↔k∈(ths.take n).map (·.id))
 |0,_=>⟨fun h=>(by cases h),fun h=>(by rw[List.take_zero]at h;cases h)⟩
 |n+1,hn=>by
  show(mget (mset (thM ths n) ths[n]!.id _) k).isSome=true↔_;rw[mget_mset,take_1 hn,List.map_append,List.mem_append,List.map_singleton,List.mem_singleton];by_cases e:k=ths[n]!.id
  ·rw[if_pos e];exact⟨fun _=>.inr e,fun _=>rfl⟩
  ·rw[if_neg e,thM_has k n Om];exact⟨.inl,fun h=>h.elim id fun q=>absurd q e⟩
theorem thM_ids{ths:List Th}{k:Int}(h:k∈ths.map (·.id)):(mget (thM ths ths.length) k).isSome=true:=(thM_has k _ Nl).2 (by rw[List.take_length];exact h)
theorem loschk_any(g:Nat)(m:List (Int×Value))(A_l:Option Addr)(n_l c_l:Nat)(l:List Lo)(w:World)(hm:Mp w g m)(h_l:Ls w A_l n_l c_l Lo.c 4 l)(ids:List Int)(hv:LsOk ids l)(hi:∀k∈ids,(mget m k).isSome=true):
  Cr 117 #[.map (some g),.slice A_l n_l c_l] w (.int .i64 0):=by
 have H:=(Hp.nil w);have e_l:=h_l.len;have z_l:=h_l.nle;refine Wb Tryz.func117 ?_;refine go ?_;refine sb [11,0,9,10] ?_;refine WC.loopS 1 (fun mz Ed W'=>∃j:Nat,mz=n_l-j∧Ed=[(11,.int .i64 ((j:Nat):Int))]∧Hp w W' ([])∧(j≤n_l)) _ ⟨0,rfl,rfl,(H.pick []),(Nat.zero_le _)⟩ ?_;rintro _ _ z ⟨j,rfl,rfl,H,jl⟩;refine go ?_;refine Cd (fun p6=> ?_) fun p6=> ?_
 ·have vj:=hv.v _ (mem_b (show j<l.length by omega));have ij:=hi _ vj.1;have b9:j<n_l:=Om;refine go ?_;refine al H ti186 fun g10 z H=> ?_;refine st H 0 ti186 fun z H=> ?_;refine G6 ?_;refine yy (Y.lookupOk rfl u213 u3 ti9 rfl rfl (fun _ h=>h▸(hm.ext H.ext))) ?_;refine G1 ?_;refine yy (Yld.cast (Y.extract rfl rfl rfl) rfl) ?_;refine yy (Yld.cast (Y.extract rfl rfl rfl) (vb ij)) ?_;refine go ?_;refine WC.condF rfl ?_;refine go ?_;refine c1 H Fh (spv_yes (l[j]!.fr) (l[j]!.to) _ Om) fun z H=> ?_;refine G5 ?_;refine yy (Y.pickF rfl rfl rfl) ?_;refine G6 ?_;refine sb [0,9,10,11,37] ?_;refine Cd (fun p16=> ?_) fun p16=> ?_
  ·omega
  ·refine go ?_;exact Rs [(11,_)] Sx ⟨(j+1),rfl,rfl,(H.pick []),Om⟩
 ·refine go ?_;refine Rt [_] ?_;exact⟨rfl,H.ext⟩
theorem thf1_any(x:Sc)(w:World):
  Cr 105 #[.agg #[.int .i64 x.th,.int .i64 x.pa,.int .i64 x.de,.string x.nm,.int .i64 x.fr,.int .i64 x.to,.int .i64 x.se,.bool x.op]] w (.int .i64 x.th):=by
 have H:=(Hp.nil w);refine Wb Tryz.func105 ?_;refine go ?_;refine bx H fun g2 z H=> ?_;refine go ?_;refine Rt [_] ?_;exact⟨rfl,H.ext⟩
theorem thf2_any(x:Fw)(w:World):
  Cr 109 #[.agg #[.int .i64 x.id,.int .i64 x.fth,.int .i64 x.fsr,.int .i64 x.tth,.int .i64 x.tsr,.int .i64 x.snd,.int .i64 x.rcv]] w (.int .i64 x.fth):=by
 have H:=(Hp.nil w);refine Wb Tryz.func109 ?_;refine go ?_;refine bx H fun g2 z H=> ?_;refine go ?_;refine Rt [_] ?_;exact⟨rfl,H.ext⟩
theorem thf3_any(x:Fw)(w:World):
  Cr 110 #[.agg #[.int .i64 x.id,.int .i64 x.fth,.int .i64 x.fsr,.int .i64 x.tth,.int .i64 x.tsr,.int .i64 x.snd,.int .i64 x.rcv]] w (.int .i64 x.tth):=by
 have H:=(Hp.nil w);refine Wb Tryz.func110 ?_;refine go ?_;refine bx H fun g2 z H=> ?_;refine G8 ?_;refine sb [2] ?_;refine go ?_;refine Rt [_] ?_;exact⟨rfl,H.ext⟩
theorem thf4_any(x:Sm)(w:World):
  Cr 112 #[.agg #[.int .i64 x.th,.int .i64 x.at_,.int .i64 x.w,.slice x.A x.n x.cp]] w (.int .i64 x.th):=by
 have H:=(Hp.nil w);refine Wb Tryz.func112 ?_;refine go ?_;refine bx H fun g2 z H=> ?_;refine go ?_;refine Rt [_] ?_;exact⟨rfl,H.ext⟩
theorem thf5_any(x:Bk)(w:World):
  Cr 116 #[.agg #[.int .i64 x.id,.int .i64 x.th,.int .i64 x.sz,.int .i64 x.fr,.int .i64 x.to,.slice x.A x.k x.c_,.bool x.lv]] w (.int .i64 x.th):=by
 have H:=(Hp.nil w);refine Wb Tryz.func116 ?_;refine go ?_;refine bx H fun g2 z H=> ?_;refine go ?_;refine Rt [_] ?_;exact⟨rfl,H.ext⟩
theorem knownS_any(g:Nat)(m:List (Int×Value))(A_l:Option Addr)(n_l c_l:Nat)(l:List Sc)(f:FuncId)(th:Sc→Int)(w:World)(hm:Mp w g m)(h_l:Ls w A_l n_l c_l Sc.c 8 l)(hF:Has Tryz.prog f)(hp:∀(x:Sc) (w1:World),Calls Tryz.prog f ([]++[Value.agg (Sc.c x).toArray]++[]).toArray w1 fun e w2=>e= .returned (.int .i64 (th x))∧Ext w1 w2)(hi:∀x∈l,(mget m (th x)).isSome=true):
  Cr 103 #[.int .i64 0,.map (some g),.slice A_l n_l c_l,.func (.func f) #[] #[]] w (.int .i64 0):=by
 have H:=(Hp.nil w);have e_l:=h_l.len;have z_l:=h_l.nle;refine Wb Tryz.func103 ?_;refine G6 ?_;refine Kd ?_;refine go ?_;refine WC.condF rfl ?_;refine go ?_;refine sb [18,1,3,16,17] ?_;refine WC.loopS 1 (fun mz Ed W'=>∃j:Nat,mz=n_l-j∧Ed=[(18,.int .i64 ((j:Nat):Int))]∧Hp w W' ([])∧(j≤n_l)) _ ⟨0,rfl,rfl,(H.pick []),(Nat.zero_le _)⟩ ?_;rintro _ _ z ⟨j,rfl,rfl,H,jl⟩;refine go ?_;refine Cd (fun p8=> ?_) fun p8=> ?_
 ·have ij:=hi _ (mem_b (show j<l.length by omega));have b11:j<n_l:=Om;refine go ?_;refine al H ti100 fun g12 z H=> ?_;refine st H 0 ti100 fun z H=> ?_;refine go ?_;refine c1V rfl H hF (hp l[j]! _) fun z H=> ?_;refine yy (Y.lookupOk rfl u213 u3 ti9 rfl rfl (fun _ h=>h▸(hm.ext H.ext))) ?_;refine G1 ?_;refine yy (Yld.cast (Y.extract rfl rfl rfl) rfl) ?_;refine yy (Yld.cast (Y.extract rfl rfl rfl) (vb ij)) ?_;refine go ?_;refine WC.condF rfl ?_;refine go ?_;exact Rs [(18,_)] Sx ⟨(j+1),rfl,rfl,(H.pick []),Om⟩
 ·refine go ?_;refine Rt [_] ?_;exact⟨rfl,H.ext⟩
theorem knownF_any(g:Nat)(m:List (Int×Value))(A_l:Option Addr)(n_l c_l:Nat)(l:List Fw)(f:FuncId)(th:Fw→Int)(w:World)(hm:Mp w g m)(h_l:Ls w A_l n_l c_l Fw.c 7 l)(hF:Has Tryz.prog f)(hp:∀(x:Fw) (w1:World),Calls Tryz.prog f ([]++[Value.agg (Fw.c x).toArray]++[]).toArray w1 fun e w2=>e= .returned (.int .i64 (th x))∧Ext w1 w2)(hi:∀x∈l,(mget m (th x)).isSome=true):
  Cr 107 #[.int .i64 0,.map (some g),.slice A_l n_l c_l,.func (.func f) #[] #[]] w (.int .i64 0):=by
 have H:=(Hp.nil w);have e_l:=h_l.len;have z_l:=h_l.nle;refine Wb Tryz.func107 ?_;refine G3 ?_;refine sb [0,1,2,3] ?_;refine G3 ?_;refine Kd ?_;refine go ?_;refine WC.condF rfl ?_;refine go ?_;refine sb [18,1,3,16,17] ?_;refine WC.loopS 1 (fun mz Ed W'=>∃j:Nat,mz=n_l-j∧Ed=[(18,.int .i64 ((j:Nat):Int))]∧Hp w W' ([])∧(j≤n_l)) _ ⟨0,rfl,rfl,(H.pick []),(Nat.zero_le _)⟩ ?_;rintro _ _ z ⟨j,rfl,rfl,H,jl⟩;refine go ?_;refine Cd (fun p8=> ?_) fun p8=> ?_
 ·have ij:=hi _ (mem_b (show j<l.length by omega));have b11:j<n_l:=Om;refine go ?_;refine al H ti170 fun g12 z H=> ?_;refine st H 0 ti170 fun z H=> ?_;refine go ?_;refine c1V rfl H hF (hp l[j]! _) fun z H=> ?_;refine yy (Y.lookupOk rfl u213 u3 ti9 rfl rfl (fun _ h=>h▸(hm.ext H.ext))) ?_;refine G1 ?_;refine yy (Yld.cast (Y.extract rfl rfl rfl) rfl) ?_;refine yy (Yld.cast (Y.extract rfl rfl rfl) (vb ij)) ?_;refine go ?_;refine WC.condF rfl ?_;refine go ?_;exact Rs [(18,_)] Sx ⟨(j+1),rfl,rfl,(H.pick []),Om⟩
 ·refine go ?_;refine Rt [_] ?_;exact⟨rfl,H.ext⟩
theorem knownM_any(g:Nat)(m:List (Int×Value))(A_l:Option Addr)(n_l c_l:Nat)(l:List Sm)(f:FuncId)(th:Sm→Int)(w:World)(hm:Mp w g m)(h_l:Ls w A_l n_l c_l Sm.c 4 l)(hF:Has Tryz.prog f)(hp:∀(x:Sm) (w1:World),Calls Tryz.prog f ([]++[Value.agg (Sm.c x).toArray]++[]).toArray w1 fun e w2=>e= .returned (.int .i64 (th x))∧Ext w1 w2)(hi:∀x∈l,(mget m (th x)).isSome=true):
  Cr 111 #[.int .i64 0,.map (some g),.slice A_l n_l c_l,.func (.func f) #[] #[]] w (.int .i64 0):=by
 have H:=(Hp.nil w);have e_l:=h_l.len;have z_l:=h_l.nle;refine Wb Tryz.func111 ?_;refine G3 ?_;refine sb [0,1,2,3] ?_;refine G3 ?_;refine Kd ?_;refine go ?_;refine WC.condF rfl ?_;refine go ?_;refine sb [18,1,3,16,17] ?_;refine WC.loopS 1 (fun mz Ed W'=>∃j:Nat,mz=n_l-j∧Ed=[(18,.int .i64 ((j:Nat):Int))]∧Hp w W' ([])∧(j≤n_l)) _ ⟨0,rfl,rfl,(H.pick []),(Nat.zero_le _)⟩ ?_;rintro _ _ z ⟨j,rfl,rfl,H,jl⟩;refine go ?_;refine Cd (fun p8=> ?_) fun p8=> ?_
 ·have ij:=hi _ (mem_b (show j<l.length by omega));have b11:j<n_l:=Om;refine go ?_;refine al H ti53 fun g12 z H=> ?_;refine st H 0 ti53 fun z H=> ?_;refine go ?_;refine c1V rfl H hF (hp l[j]! _) fun z H=> ?_;refine yy (Y.lookupOk rfl u213 u3 ti9 rfl rfl (fun _ h=>h▸(hm.ext H.ext))) ?_;refine G1 ?_;refine yy (Yld.cast (Y.extract rfl rfl rfl) rfl) ?_;refine yy (Yld.cast (Y.extract rfl rfl rfl) (vb ij)) ?_;refine go ?_;refine WC.condF rfl ?_;refine go ?_;exact Rs [(18,_)] Sx ⟨(j+1),rfl,rfl,(H.pick []),Om⟩
 ·refine go ?_;refine Rt [_] ?_;exact⟨rfl,H.ext⟩
theorem knownB_any(g:Nat)(m:List (Int×Value))(A_l:Option Addr)(n_l c_l:Nat)(l:List Bk)(f:FuncId)(th:Bk→Int)(w:World)(hm:Mp w g m)(h_l:Ls w A_l n_l c_l Bk.c 7 l)(hF:Has Tryz.prog f)(hp:∀(x:Bk) (w1:World),Calls Tryz.prog f ([]++[Value.agg (Bk.c x).toArray]++[]).toArray w1 fun e w2=>e= .returned (.int .i64 (th x))∧Ext w1 w2)(hi:∀x∈l,(mget m (th x)).isSome=true):
  Cr 114 #[.int .i64 0,.map (some g),.slice A_l n_l c_l,.func (.func f) #[] #[]] w (.int .i64 0):=by
 have H:=(Hp.nil w);have e_l:=h_l.len;have z_l:=h_l.nle;refine Wb Tryz.func114 ?_;refine G3 ?_;refine sb [0,1,2,3] ?_;refine G3 ?_;refine Kd ?_;refine go ?_;refine WC.condF rfl ?_;refine go ?_;refine sb [18,1,3,16,17] ?_;refine WC.loopS 1 (fun mz Ed W'=>∃j:Nat,mz=n_l-j∧Ed=[(18,.int .i64 ((j:Nat):Int))]∧Hp w W' ([])∧(j≤n_l)) _ ⟨0,rfl,rfl,(H.pick []),(Nat.zero_le _)⟩ ?_;rintro _ _ z ⟨j,rfl,rfl,H,jl⟩;refine go ?_;refine Cd (fun p8=> ?_) fun p8=> ?_
 ·have ij:=hi _ (mem_b (show j<l.length by omega));have b11:j<n_l:=Om;refine go ?_;refine al H ti176 fun g12 z H=> ?_;refine st H 0 ti176 fun z H=> ?_;refine go ?_;refine c1V rfl H hF (hp l[j]! _) fun z H=> ?_;refine yy (Y.lookupOk rfl u213 u3 ti9 rfl rfl (fun _ h=>h▸(hm.ext H.ext))) ?_;refine G1 ?_;refine yy (Yld.cast (Y.extract rfl rfl rfl) rfl) ?_;refine yy (Yld.cast (Y.extract rfl rfl rfl) (vb ij)) ?_;refine go ?_;refine WC.condF rfl ?_;refine go ?_;exact Rs [(18,_)] Sx ⟨(j+1),rfl,rfl,(H.pick []),Om⟩
 ·refine go ?_;refine Rt [_] ?_;exact⟨rfl,H.ext⟩
theorem fields_yes(x:Sg)(w:World)(hs:StF x.s x.cpu x.on)(hb:ByF x.s x.by_):
  Cr 168 #[.agg #[.int .i64 x.th,.int .i64 x.s,.int .i64 x.f,.int .i64 x.t,.int .i64 x.cpu,.int .i64 x.on,.int .i64 x.by_]] w (.bool true):=by
 have H:=(Hp.nil w);unfold StF at hs;unfold ByF at hb;refine Wb Tryz.func168 ?_;refine go ?_;refine bx H fun g2 z H=> ?_;refine go ?_;refine Cd (fun p7=> ?_) fun p7=> ?_
 ·omega
 ·refine G10 ?_;refine WL.yldGs [(_,_)] rfl (blt rfl) rfl rfl rfl (fun hb=>Y.fieldAddr rfl u113 rfl ti3 Dc rfl) ?_;refine WL.yldGs [(_,_)] rfl (blt rfl) rfl rfl rfl (fun hb=>Y.load1 rfl u3 rfl (evg (evg rfl hb.1) hb.2.1) (Blk.at_eq (H.b 0) rfl)) ?_;refine WL.yldGs [(_,_)] rfl (blt rfl) rfl rfl rfl (fun hb=>Y.geq rfl (evg (evg rfl hb.1) hb.2.1) rfl) ?_;refine G4 ?_;refine sb [1,3,21] ?_;refine Cd (fun p10=> ?_) fun p10=> ?_
  ·omega
  ·refine go ?_;refine Cd (fun p11=> ?_) fun p11=> ?_
   ·omega
   ·refine G10 ?_;refine WL.yldGs [(_,_)] rfl (blt rfl) rfl rfl rfl (fun hb=>Y.fieldAddr rfl u113 rfl ti3 Dc rfl) ?_;refine WL.yldGs [(_,_)] rfl (blt rfl) rfl rfl rfl (fun hb=>Y.load1 rfl u3 rfl (evg (evg rfl hb.1) hb.2.1) (Blk.at_eq (H.b 0) rfl)) ?_;refine WL.yldGs [(_,_)] rfl (blt rfl) rfl rfl rfl (fun hb=>Y.gtr rfl (evg (evg rfl hb.1) hb.2.1) rfl) ?_;refine go ?_;refine Cd (fun p14=> ?_) fun p14=> ?_
    ·omega
    ·refine go ?_;refine Cd (fun p15=> ?_) fun p15=> ?_
     ·omega
     ·refine G3 ?_;refine sb [1,3] ?_;refine G7 ?_;refine WL.yldGs [(_,_)] rfl (blt rfl) rfl rfl rfl (fun hb=>Y.fieldAddr rfl u113 rfl ti3 Dc rfl) ?_;refine WL.yldGs [(_,_)] rfl (blt rfl) rfl rfl rfl (fun hb=>Y.load1 rfl u3 rfl (evg (evg rfl hb.1) hb.2.1) (Blk.at_eq (H.b 0) rfl)) ?_;refine WL.yldGs [(_,_)] rfl (blt rfl) rfl rfl rfl (fun hb=>Y.geq rfl (evg (evg rfl hb.1) hb.2.1) rfl) ?_;refine G2 ?_;refine WL.yldGs [(_,_)] rfl (blt rfl) rfl rfl rfl (fun hb=>Y.fieldAddr rfl u113 rfl ti3 Dc rfl) ?_;refine WL.yldGs [(_,_)] rfl (blt rfl) rfl rfl rfl (fun hb=>Y.load1 rfl u3 rfl (evg (evg rfl hb.1) hb.2.1) (Blk.at_eq (H.b 0) rfl)) ?_;refine WL.yldGs [(_,_)] rfl (blt rfl) rfl rfl rfl (fun hb=>Y.leq rfl (evg (evg rfl hb.1) hb.2.1) rfl) ?_;refine go ?_;refine Rt [_] ?_;exact⟨ret1 (vb (by simp only[Bool.and_eq_true,Bool.or_eq_true,Bool.not_eq_true',decide_eq_true_eq,decide_eq_false_iff_not,beq_iff_eq,bne_iff_ne];omega)),H.ext⟩
theorem stachk_any(A_ths:Option Addr)(n_ths c_ths:Nat)(ths:List Th)(A_l:Option Addr)(n_l c_l:Nat)(l:List Sg)(w:World)(h_ths:Ls w A_ths n_ths c_ths Th.c 3 ths)(h_l:Ls w A_l n_l c_l Sg.c 7 l)(E:Int)(ht:n_ths≤1000)(hv:StChk (dsF ths) l E (dsF ths).length)(hE:E≤1000000000000):
  Cr 106 #[.slice A_ths n_ths c_ths,.slice A_l n_l c_l] w (.int .i64 0):=by
 have H:=(Hp.nil w);have e_ths:=h_ths.len;have z_ths:=h_ths.nle;have e_l:=h_l.len;have z_l:=h_l.nle;refine Wb Tryz.func106 ?_;refine go ?_;refine c2 H Fh (dst_any _ _ _ _ _ (h_ths.ext H.ext) Om) fun v3 z H=> ?_;refine go ?_;refine sb [18,6,1,5,16,17] ?_;refine WC.loopS 2 (fun mz Ed W'=>∃j:Nat,mz=n_l-j∧Ed=[(18,.int .i64 ((j:Nat):Int)),(6,.int .i64 (if j=0 then(-1:Int)else(((dsF ths).idxOf l[j-1]!.th:Nat):Int)))]∧Hp w W' (_::[])∧(j≤n_l)) _ ⟨0,rfl,rfl,(H.pick [0]),(Nat.zero_le _)⟩ ?_;rintro _ _ z ⟨j,rfl,rfl,H,jl⟩;refine go ?_;refine Cd (fun p10=> ?_) fun p10=> ?_
 ·have vj:=hv.v j Om;have kj:=hv.k j Om;obtain⟨I_,hI⟩:∃q,q=(dsF ths).idxOf l[j]!.th:=⟨_,rfl⟩;have ixj:ixF (dsF ths) l[j]!.th=(I_:Int):=by unfold ixF;rw[←hI,if_pos Om]
  obtain⟨A_,hA⟩:∃q,q=(if j=0 then(-1:Int)else(((dsF ths).idxOf l[j-1]!.th:Nat):Int)):=⟨_,rfl⟩;rw[←hA];have aj:(A_=(I_:Int)∧1≤j∧l[j]!.f=l[j-1]!.t∧sameF l[j]! l[j-1]! =false)∨(A_+1=(I_:Int)∧l[j]!.f=0):=by
   by_cases q:j=0
   ·subst q;right;rw[hA,if_pos rfl];have:=hv.a Om;rw[←hI]at this;omega
   ·have:=hv.nx (j-1) Om;rw[show j-1+1=j from Om,←hI]at this;rw[hA,if_neg q];rcases this with h|h
    ·left;rw[←h.1,←hI];exact⟨rfl,Om,h.2⟩
    ·right;omega
  have b13:j<n_l:=Om;refine go ?_;refine al H ti113 fun g14 z H=> ?_;refine go ?_;refine st H 0 ti113 fun z H=> ?_;obtain⟨A17,n18,c19,rfl,_,_,_⟩:=H.op 1;refine go ?_;refine c1 H Fh (ixI_any _ _ _ _ _ _ (H.l 1)) fun z H=> ?_;refine go ?_;refine Cd (fun p22=> ?_) fun p22=> ?_
  ·omega
  ·refine go ?_;refine c1 H Fh (spv_yes (l[j]!.f) (l[j]!.t) _ Om) fun z H=> ?_;refine go ?_;refine WC.condF rfl ?_;refine go ?_;refine c1 H Fh (fields_yes l[j]! _ vj.2.2.2.1 vj.2.2.2.2) fun z H=> ?_;refine go ?_;refine WC.condF rfl ?_;refine go ?_;refine Qr ?_;refine G10 ?_;refine qg (fun hb=>Y.indexLs (j-1) (h_l.ext H.ext) rfl u35 ti113 (evg rfl hb) (evg rfl hb) (by have q0:=(eq_t hb);omega) (by have q0:=(eq_t hb);omega)) ?_;refine G5 ?_;refine WQ.yldGs [(_,_)] rfl (blt rfl) rfl rfl rfl (fun hb=>Y.loadS rfl u113 rfl ti113 rfl (Blk.row_ext (H.b 0))) ?_;refine WQ.yldGs [(_,_)] rfl (blt rfl) rfl rfl rfl (fun hb=>Y.move rfl rfl) ?_;refine WQ.yldGs [(_,_)] rfl (blt rfl) rfl rfl rfl (fun hb=>Y.move rfl rfl) ?_;refine WQ.yldGs [(_,_)] rfl (blt rfl) rfl rfl rfl (fun hb=>Y.sub rfl (evg (evg rfl hb.1) hb.2.1) rfl (wrap_i64 (by have q0:=(eq_t hb.1);have q1:=(eq_t (not_f hb.2.1));first|omega|(dsimp only;omega)))) ?_;refine WQ.yldGs [(_,_)] rfl (blt rfl) rfl rfl rfl (fun hb=>Y.indexLs (j-1) (h_l.ext H.ext) rfl u35 ti113 (evg (evg rfl hb.1) hb.2.1) (evg (evg rfl hb.1) hb.2.1) (by have q0:=(eq_t hb.1);have q1:=(eq_t (not_f hb.2.1));omega) (by have q0:=(eq_t hb.1);have q1:=(eq_t (not_f hb.2.1));omega)) ?_;refine WQ.yldGs [(_,_)] rfl (blt rfl) rfl rfl rfl (fun hb=>Y.loadS (cs:=[_,_,_,_,_,_,_]) rfl u113 rfl ti113 (evg (evg rfl hb.1) hb.2.1) (Ls.part_ext (h_l.ext H.ext) (by have q0:=(eq_t hb.1);have q1:=(eq_t (not_f hb.2.1));omega) rfl)) ?_;refine WQ.callGs [(_,_)] rfl (blt rfl) rfl rfl rfl rfl rfl Fh (fun hb=>(evs_cons (evg (evg rfl hb.1) hb.2.1) (evs_cons (evg (evg rfl hb.1) hb.2.1) evs_nil))) (fun hb w hw=>calls_ext hw (stsame_any l[j]! l[(j-1)]! _)) ?_;refine go ?_;refine Qd H fun z H=> ?_;refine G1 ?_;refine sb [1,5,6,8,9,16,17,18,39] ?_;refine Cd (fun p26=> ?_) fun p26=> ?_
   ·grind
   ·have p26:=(p26.imp (fun h=>h) (fun h=>h.1));refine G10 ?_;refine WL.yldGs [(_,_)] rfl (blt rfl) rfl rfl rfl (fun hb=>Y.fieldAddr rfl u113 rfl ti33 Dc rfl) ?_;refine WL.yldGs [(_,_)] rfl (blt rfl) rfl rfl rfl (fun hb=>Y.fieldAddr rfl u33 rfl ti3 Dc (evg (evg rfl hb.1) hb.2.1)) ?_;refine WL.yldGs [(_,_)] rfl (blt rfl) rfl rfl rfl (fun hb=>Y.load1 rfl u3 rfl (evg (evg rfl hb.1) hb.2.1) (Blk.at_eq (H.b 0) rfl)) ?_;refine WL.yldGs [(_,_)] rfl (blt rfl) rfl rfl rfl (fun hb=>Y.neq rfl (evg (evg rfl hb.1) hb.2.1) rfl) ?_;refine go ?_;refine Cd (fun p28=> ?_) fun p28=> ?_
    ·omega
    ·refine G5 ?_;refine yy (Yld.cast (Y.assign rfl rfl) (vi (show ixF (dsF ths) l[j]!.th=(if j+1=0 then(-1:Int)else(((dsF ths).idxOf l[j+1-1]!.th:Nat):Int))from by rw[ixj,hI,if_neg Om,Nat.add_sub_cancel]))) ?_;refine go ?_;exact Rs [(18,_),(6,_)] Sx ⟨(j+1),rfl,rfl,(H.pick [1]),Om⟩
 ·obtain⟨AZ,hAZ⟩:∃q,q=(if j=0 then(-1:Int)else(((dsF ths).idxOf l[j-1]!.th:Nat):Int)):=⟨_,rfl⟩;refine G7 ?_;rw[←hAZ];have jn:j=l.length:=Om;have az:0<l.length→(AZ+1=((dsF ths).length:Int)∧l[l.length-1]!.t=E):=fun q=>by
   have k0:=hv.k 0 q;have z0:=hv.z Om;rw[hAZ,if_neg Om,jn];omega
  have az0: -1≤AZ∧AZ≤1000:=by
   by_cases q:0<l.length
   ·have a1:=az q;have a2:(dsF ths).length≤ths.length:=dsT_len ths ths.length;omega
   ·rw[hAZ,if_pos Om];omega
  refine go ?_;refine Cd (fun p31=> ?_) fun p31=> ?_
  ·refine G3 ?_;refine sb [4] ?_;refine go ?_;refine Rt [_] ?_;exact⟨rfl,H.ext⟩
  ·have b34:(n_l-1)<n_l:=Om;refine G7 ?_;refine yy (Y.indexLs (n_l-1) (h_l.ext H.ext) rfl u35 ti113 rfl rfl Om b34) ?_;refine go ?_;refine sb [96,1,5,6,10,94,95] ?_;refine WC.loopS 1 (fun mz Ed W'=>∃j:Nat,mz=n_l-j∧Ed=[(96,.int .i64 ((j:Nat):Int))]∧Hp w W' (_::[])∧(j≤n_l)) _ ⟨0,rfl,rfl,(H.pick [0]),(Nat.zero_le _)⟩ ?_;rintro _ _ z ⟨j,rfl,rfl,H,jl⟩;refine go ?_;refine Cd (fun p39=> ?_) fun p39=> ?_
   ·have b42:j<n_l:=Om;refine go ?_;refine al H ti113 fun g43 z H=> ?_;refine go ?_;refine st H 0 ti113 fun z H=> ?_;refine go ?_;refine Qr ?_;refine G9 ?_;refine qg (fun hb=>Y.indexLs (j+1) (h_l.ext H.ext) rfl u35 ti113 (evg rfl hb) (evg rfl hb) rfl (by have q0:=(eq_f hb);omega)) ?_;refine go ?_;refine Qd H fun z H=> ?_;refine G11 ?_;refine sb [1,5,6,10,94,95,96,124] ?_;refine Cd (fun p47=> ?_) fun p47=> ?_
    ·have az2:=az Om;rw[e_l]at az2;have p:=p47;rcases Nat.lt_or_ge (j+1) l.length with q|q
     ·have:=hv.nx j q;omega
     ·have e:j=n_l-1:=Om;subst e;omega
    ·refine go ?_;exact Rs [(96,_)] Sx ⟨(j+1),rfl,rfl,(H.pick [1]),Om⟩
   ·obtain⟨A50,n51,c52,rfl,_,_,_⟩:=H.op 0;refine go ?_;refine Cd (fun p53=> ?_) fun p53=> ?_
    ·have az2:=az Om;have p:=p53;omega
    ·refine go ?_;refine Rt [_] ?_;exact⟨rfl,H.ext⟩
end TW
end Go.Proofs.YtaclfjjipnpboaaGreat
end
