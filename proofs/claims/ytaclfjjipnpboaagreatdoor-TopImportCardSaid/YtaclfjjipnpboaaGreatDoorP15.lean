/- Part 15 of the proof. Conditions: what each theorem states. -/
import Derived.Test.YtaclfjjipnpboaaGreatDoorP01
import Derived.Test.YtaclfjjipnpboaaGreatDoorP14
import Derived.Test.YtaclfjjipnpboaaGreatDoorP13
import Derived.Test.YtaclfjjipnpboaaGreatDoorP08
import Derived.Test.YtaclfjjipnpboaaGreatDoorP06
import Derived.Test.YtaclfjjipnpboaaGreatDoorP04
import Derived.Test.YtaclfjjipnpboaaGreatDoorP05
set_option linter.all false
set_option maxHeartbeats 4000000
set_option maxRecDepth 4000
namespace Go.Proofs.YtaclfjjipnpboaaGreatDoor
open Go Go.Eng Go.RowKit
namespace TW
def Tgt(ids:List Ix):Prop:=ids.Pairwise (fun a b=>a.th=b.th→a.sr<b.sr)∧∀i j m,i≤m→m≤j→j<ids.length→ids[i]!.th=ids[j]!.th→ids[m]!.th=ids[i]!.th
theorem bang_app_left{α:Type}[Inhabited α]{a b:List α}{i:Nat}(h:i<a.length):(a++b)[i]! =a[i]! :=by
 rw[List.getElem!_eq_getElem?_getD,List.getElem?_append_left h,←List.getElem!_eq_getElem?_getD]
theorem bang_app_right{α:Type}[Inhabited α]{a b:List α}{i:Nat}(h:a.length≤i):(a++b)[i]! =b[i-a.length]! :=by
 rw[List.getElem!_eq_getElem?_getD,List.getElem?_append_right h,←List.getElem!_eq_getElem?_getD]
theorem tlN_next(ids:List Int)(l:List Pk)(j:Nat):tlN ids l (j+1)=tlS ids (tlN ids l j) l[j]! :=rfl
theorem tlN_len(ids:List Int)(l:List Pk):∀j,(tlN ids l j).length=ids.length
 |0=>by show(ids.map _).length=_;grind
 |j+1=>by rw[tlN_next];unfold tlS;rw[List.length_set];exact tlN_len ids l j
theorem lg_pk1{ths:List Th}{d:List Dm}{s:List Sn}{l:List Pk}(h:lgE ths d s l=0){j:Nat}(hj:j<l.length):(ths.map (·.id)).idxOf l[j]!.th<ths.length∧l[j]!.sr=(tlN (ths.map (·.id)) l j)[(ths.map (·.id)).idxOf l[j]!.th]!.nx+l[j]!.ls:=by
 have h2:tlE (ths.map (·.id)) (tlN (ths.map (·.id)) l j) l[j]! =0:=lch_zero (of_zero (lg_pk h).1).2 j hj;unfold tlE at h2;grind
theorem nx_ge{ths:List Th}{d:List Dm}{s:List Sn}{l:List Pk}(h:lgE ths d s l=0){a:Nat}(ha:a<ths.length):∀j,j≤l.length→0≤(tlN (ths.map (·.id)) l j)[a]!.nx∧∀i,i<j→(ths.map (·.id)).idxOf l[i]!.th=a→l[i]!.sr+(l[i]!.k:Int)≤(tlN (ths.map (·.id)) l j)[a]!.nx
 |0,_=>⟨by
   rw[show tlN (ths.map (·.id)) l 0=(ths.map (·.id)).map (fun _=>(default:Tl))from rfl,map_b _ (by grind)];exact Int.le_refl _,fun i hi=>by omega⟩
 |j+1,hj=>by
  obtain⟨i0,i1⟩:=nx_ge h ha j Om;obtain⟨q1,q2⟩:=lg_pk1 h (show j<l.length from hj);have ok:=lg_pkok h _ (mem_b (show j<l.length from hj));have ok1:=ok.ls;rw[tlN_next];unfold tlS;rw[set_at _ _ _ _ (by grind [tlN_len,List.length_map])];grind
theorem ids_inc{ths:List Th}{d:List Dm}{s:List Sn}{l:List Pk}(h:lgE ths d s l=0):∀j,j≤l.length→(idsN l j).Pairwise (fun a b=>a.th=b.th→a.sr<b.sr)
 |0,_=>List.Pairwise.nil
 |j+1,hj=>by
  rw[idsN_next,List.pairwise_append];refine⟨ids_inc h j Om,?_,fun x hx y hy e=> ?_⟩
  ·unfold idsK;rw[List.pairwise_map];grind [List.pairwise_lt_range,getElem!,Int]
  ·unfold idsK at hy;obtain⟨k,hk,rfl⟩:=List.mem_map.1 hy;have hx2:∃i,i<j∧x.th=l[i]!.th∧x.sr<l[i]!.sr+(l[i]!.k:Int):=by
    clear e hy;have key:∀j,x∈idsN l j→∃i,i<j∧x.th=l[i]!.th∧x.sr<l[i]!.sr+(l[i]!.k:Int):=by
     intro j
     induction j with
     |zero=>intro q;cases q
     |succ j ih=>
      intro q;rw[idsN_next]at q;rcases List.mem_append.1 q with q|q
      ·grind
      ·unfold idsK at q;grind
    grind
   obtain⟨i,hi,e1,e2⟩:=hx2;obtain⟨q1,q2⟩:=lg_pk1 h (show j<l.length from hj);have ok1:=(lg_pkok h _ (mem_b (show j<l.length from hj))).ls;have e3:x.th=l[j]!.th:=e;have:=(nx_ge h q1 j Om).2 i hi (by rw[←e1,e3]);grind
def Cst(t:Int)(l:List Int):Prop:=∀x∈l,x=t
theorem aget_aset:∀(G:List (Int×List Pp)) (x:Int) (u:List Pp) (y:Int),aget (aset G x u) y=if y=x then u else aget G y
 |[],x,u,y=>by rfl
 |(k,v)::r,x,u,y=>by
  have ih:=aget_aset r x u y;by_cases h:x=k
  ·simp_all [aset,if_true,aget]
  ·simp only[aset,h,if_false,aget];grind
theorem gr_th(l:List Pk)(x:Int):∀j,∀p∈aget (grN l j) x,p.th=x
 |0,p,hp=>by cases hp
 |j+1,p,hp=>by
  have hq:p∈aget (aset (grN l j) l[j]!.th (ppPut (aget (grN l j) l[j]!.th) l[j]!)) x:=hp;rw[aget_aset]at hq;clear hp;split at hq
  ·rename_i e;rw[e];have ih:=gr_th l l[j]!.th j;have ho:∀p∈ppOpen (aget (grN l j) l[j]!.th) l[j]!,p.th=l[j]!.th:=by
    unfold ppOpen;grind
   have hl:0<(ppOpen (aget (grN l j) l[j]!.th) l[j]!).length:=by
    unfold ppOpen;grind
   unfold ppPut at hq;dsimp only at hq;grind
  ·exact gr_th l x j p hq
def Tog(l:List Int):Prop:=∀i j m,i≤m→m≤j→j<l.length→l[i]! =l[j]!→l[m]! =l[i]!
theorem Tog.app{a b:List Int}{t:Int}(ha:Tog a)(hb:Cst t b)(hn:t∉a):Tog (a++b):=by
 intro i j m h1 h2 h3 h;rw[List.length_append]at h3;by_cases c1:j<a.length
 ·rw[bang_app_left Om,bang_app_left c1]at h;rw[bang_app_left Om,bang_app_left Om];exact ha i j m h1 h2 c1 h
 ·rw[bang_app_right (i:=j) Om]at h;have hj:=hb _ (mem_b (l:=b) (show j-a.length<b.length by omega));by_cases c2:i<a.length
  ·grind
  ·rw[bang_app_right (i:=m) Om,bang_app_right (i:=i) Om,hb _ (mem_b (show m-a.length<b.length by omega)),hb _ (mem_b (show i-a.length<b.length by omega))]
theorem lgN_th(ths:List Th)(l:List Pk)(hn:(ths.map (·.id)).Nodup):∀j,j≤ths.length→Tog ((lgN ths l j).map (·.th))∧∀x∈(lgN ths l j).map (·.th),∃i,i<j∧x=ths[i]!.id
 |0,_=>⟨fun i j m _ _ h=>(by cases h),fun x hx=>(by cases hx)⟩
 |j+1,hj=>by
  obtain⟨a,b⟩:=lgN_th ths l hn j Om;have e:lgN ths l (j+1)=lgN ths l j++aget (grN l l.length) ths[j]!.id:=rfl;rw[e,List.map_append];have hc:Cst ths[j]!.id ((aget (grN l l.length) ths[j]!.id).map (·.th)):=fun x hx=>by
   obtain⟨p,hp,rfl⟩:=List.mem_map.1 hx;grind [gr_th]
  refine⟨a.app hc fun q=> ?_,fun x hx=> ?_⟩
  ·obtain⟨i,hi,e⟩:=b _ q;rw[←map_b (fun t:Th=>t.id) (show j<ths.length from hj),←map_b (fun t:Th=>t.id) (show i<ths.length by omega),bang_eq (by grind),bang_eq (by grind)]at e;grind [List.getElem_inj]
  ·rcases List.mem_append.1 hx with q|q
   ·grind
   ·exact⟨j,Om,hc x q⟩
theorem pk_tog{ths:List Th}{d:List Dm}{s:List Sn}{l:List Pk}(h:lgE ths d s l=0):Tog (l.map (·.th)):=by
 obtain⟨h1,h2⟩:=lg_pk h;have hn:=hd_nodup (of_zero h1).1;have ht:=(lgN_th ths l hn ths.length Nl).1;unfold eqW at h2;rw[Bool.and_eq_true,decide_eq_true_eq,List.all_eq_true]at h2;obtain⟨e1,e2⟩:=h2;rw[List.length_map]at e1;have e3:(lgParts ths l).map (·.th)=l.map (·.th):=by
  refine List.ext_getElem (by grind) fun i i1 i2=> ?_;rw[List.length_map]at i1 i2;simp_all [List.mem_range,ppSame,Bool.and_eq_true,beq_iff_eq,map_b,Pk.pp,List.getElem_map,bang_eq]
 rw[←e3];exact ht
theorem Tog.ids{l:List Pk}(h:Tog (l.map (·.th)))(hk:∀p∈l,1≤p.k):Tog ((idsOf l).map (·.th)):=by
 have key:∀j,j≤l.length→Tog ((idsN l j).map (·.th))∧(∀x∈(idsN l j).map (·.th),∃i,i<j∧x=l[i]!.th)∧(0<j→0<(idsN l j).length∧((idsN l j).map (·.th))[(idsN l j).length-1]! =l[j-1]!.th):=by
  intro j
  induction j with
  |zero=>intro _;exact⟨fun i j m _ _ h=>(by cases h),fun x hx=>(by cases hx),fun h=>by omega⟩
  |succ j ih=>
   intro hj;obtain⟨a,b,c⟩:=ih Om;have hk1:=hk _ (mem_b (show j<l.length from hj));have hc:Cst l[j]!.th ((idsK l[j]! l[j]!.k).map (·.th)):=fun x hx=>by
    simp_all [List.mem_map,idsK]
   have hl:(idsN l (j+1)).length=(idsN l j).length+l[j]!.k:=by rw[idsN_next,List.length_append,idsK_len]
   refine⟨?_,fun x hx=> ?_,fun _=>⟨Om,?_⟩⟩
   ·rw[idsN_next,List.map_append];by_cases q:l[j]!.th∈(idsN l j).map (·.th)
    ·intro i k m h1 h2 h3 e;rw[List.length_append,List.length_map,List.length_map,idsK_len]at h3;have la:((idsN l j).map (·.th)).length=(idsN l j).length:=List.length_map _;have hlast:∀m,(idsN l j).length≤m→m<(idsN l j).length+l[j]!.k→((idsN l j).map (·.th)++(idsK l[j]! l[j]!.k).map (·.th))[m]! =l[j]!.th:=fun m h1 h2=>by
      rw[bang_app_right Om];exact hc _ (mem_b (by grind [List.length_map,idsK_len]))
     by_cases c1:k<(idsN l j).length
     ·rw[bang_app_left Om,bang_app_left Om]at e;rw[bang_app_left Om,bang_app_left Om];exact a i k m h1 h2 Om e
     ·rw[hlast k Om Om]at e;by_cases c2:i<(idsN l j).length
      ·by_cases c3:m<(idsN l j).length
       ·rw[bang_app_left Om]at e;rw[bang_app_left Om,bang_app_left Om];have hj0:0<j:=by
         grind
        obtain⟨c4,c5⟩:=c hj0;refine a i ((idsN l j).length-1) m h1 Om Om ?_;rw[c5,e];obtain⟨i2,hi2,e2⟩:=b _ q;have:=h i2 j (j-1) Om Om (by grind) (by grind);grind
       grind
      grind
    ·exact a.app hc q
   ·rw[idsN_next,List.map_append]at hx;rcases List.mem_append.1 hx with q|q
    ·grind
    ·exact⟨j,Om,hc x q⟩
   ·rw[idsN_next,List.map_append,List.length_append,idsK_len,bang_app_right (by grind)];exact hc _ (mem_b (by grind [List.length_map,idsK_len]))
 exact(key l.length Nl).1
theorem lg_tgt{ths:List Th}{d:List Dm}{s:List Sn}{l:List Pk}(h:lgE ths d s l=0):Tgt (idsOf l):=by
 refine⟨ids_inc h _ Nl,fun i j m h1 h2 h3 e=> ?_⟩;have:=(pk_tog h).ids (fun p hp=>(lg_pkok h p hp).k.1) i j m h1 h2 (by grind) (by grind);grind
theorem nxt1_sub{ids:List Ix}{N:List (List Int)}{i p:Nat}{x:Int}(hp:p<N.length)(h:x∈N[p]!):x∈(nxt1 ids N i)[p]! :=by
 grind [nxt1,set_at,List.mem_append_left]
theorem nxt2_sub{es:List Ev}{m:List (Int×Int)}{N:List (List Int)}{i p:Nat}{x:Int}(hp:p<N.length)(h:x∈N[p]!):x∈(nxt2 es m N i)[p]! :=by
 grind [nxt2,set_at,List.mem_append_left]
theorem nxt1_len{ids:List Ix}{N:List (List Int)}{i:Nat}:(nxt1 ids N i).length=N.length:=by
 grind [nxt1,List.length_set]
theorem nxt2_len{es:List Ev}{m:List (Int×Int)}{N:List (List Int)}{i:Nat}:(nxt2 es m N i).length=N.length:=by
 grind [nxt2,List.length_set]
theorem nxtN_len(ids:List Ix)(es:List Ev)(m:List (Int×Int)):∀i,(nxtN ids es m i).length=ids.length
 |0=>List.length_replicate
 |i+1=>(nxt2_len.trans nxt1_len).trans (nxtN_len ids es m i)
theorem nxtN_has{ids:List Ix}{es:List Ev}{m:List (Int×Int)}{p:Nat}(hp:p+1<ids.length)(e:ids[p]!.th=ids[p+1]!.th):∀i,p+1<i→((p+1:Nat):Int)∈(nxtN ids es m i)[p]!
 |0,h=>by omega
 |i+1,h=>by
  have hl:=nxtN_len ids es m i;show _∈(nxt2 es m (nxt1 ids (nxtN ids es m i) i) i)[p]!;refine nxt2_sub (by rw[nxt1_len];omega) ?_;by_cases q:p+1<i
  ·exact nxt1_sub Om (nxtN_has hp e i q)
  ·have:i=p+1:=Om;subst this;unfold nxt1;grind
theorem caN_has{ths:List Th}{l:List Pk}(hk:∀p∈l,p.es.length=p.k){p:Nat}(hp:p+1<(idsOf l).length)(e:(idsOf l)[p]!.th=(idsOf l)[p+1]!.th):((p+1:Nat):Int)∈(caN ths l)[p]! :=by
 have h1:=nxtN_has (es:=evsOf l) (m:=sndN (evsOf l) (evsOf l).length) hp e (evsOf l).length (by grind [ids_evs]);have hl:=nxtN_len (idsOf l) (evsOf l) (sndN (evsOf l) (evsOf l).length) (evsOf l).length;obtain⟨e1,e2⟩:=edK_at (N:=nxtN (idsOf l) (evsOf l) (sndN (evsOf l) (evsOf l).length) (evsOf l).length) (idsOf l).length Om;have h2:((p+1:Nat):Int)∈(edF (idsOf l) (evsOf l))[p]! :=by
  show _∈(edK _ _)[p]!;rw[e2 p Om,if_pos Om];exact csF_mem.2 h1
 have hE:(edF (idsOf l) (evsOf l)).length=(idsOf l).length:=(edF_ok (ids_evs hk)).1;unfold caN rdF;grind
theorem rch_th{ths:List Th}{l:List Pk}(hk:∀p∈l,p.es.length=p.k)(ht:Tgt (idsOf l)){i:Nat}:∀d,i+(d+1)<(idsOf l).length→(idsOf l)[i]!.th=(idsOf l)[i+(d+1)]!.th→Rch (caN ths l) i (i+(d+1))
 |0,h,e=>.one (caN_has hk h e)
 |d+1,h,e=>by
  have e2:=ht.2 i (i+(d+1+1)) (i+(d+1)) Om Om h e;exact .step (rch_th hk ht d Om e2.symm) (caN_has hk (p:=i+(d+1)) h (e2.trans e))
theorem tgt_lt{ids:List Ix}(h:Tgt ids){i j:Nat}(hij:i<j)(hj:j<ids.length)(e:ids[i]!.th=ids[j]!.th):ids[i]!.sr<ids[j]!.sr:=by
 have:=List.pairwise_iff_getElem.1 h.1 i j Om hj hij;grind
theorem vcI_gt{ids:List Ix}{N:List (List Int)}{th:Int}{a:Nat}{B:Int}(h0:0≤B):∀n,vcI ids N th a n>B→∃m,m<n∧ids[m]!.th=th∧(m=a∨(aftF N m)[a]! =true)∧B≤ids[m]!.sr
 |0,h=>by have:(0:Int)>B:=h;omega
 |n+1,h=>by
  unfold vcI at h;split at h
  ·rename_i q;grind
  ·obtain⟨m,a,b⟩:=vcI_gt h0 n h;grind
theorem vcI_ge{ids:List Ix}{N:List (List Int)}{th:Int}{a k:Nat}(ht:Tgt ids)(h1:ids[k]!.th=th)(h2:k=a∨(aftF N k)[a]! =true):∀n,k<n→n≤ids.length→ids[k]!.sr<vcI ids N th a n
 |0,h,_=>by omega
 |n+1,h,hn=>by
  unfold vcI;split
  ·rename_i q;by_cases c:k=n
   ·grind
   ·have:=tgt_lt ht (show k<n by omega) Om (h1.trans q.1.symm);omega
  ·rename_i q;by_cases c:k=n
   ·grind
   ·exact vcI_ge ht h1 h2 n Om Om
theorem coM_id{ths:List Th}{x v:Int}:∀n,iget (coM ths n) x=some v→ths[v.toNat]!.id=x
 |0,h=>by cases h
 |n+1,h=>by
  rw[show coM ths (n+1)=iset (coM ths n) ths[n]!.id (n:Int)from rfl,iget_iset]at h;split at h
  ·rename_i e;grind
  ·exact coM_id n h
theorem coM_has{ths:List Th}{x:Int}:∀n,(∃i,i<n∧ths[i]!.id=x)→∃v,iget (coM ths n) x=some v
 |0,h=>by omega
 |n+1,h=>by
  obtain⟨i,hi,e⟩:=h;rw[show coM ths (n+1)=iset (coM ths n) ths[n]!.id (n:Int)from rfl,iget_iset];split
  ·grind
  ·rename_i q;exact coM_has n ⟨i,by
    grind,e⟩
theorem coO_id{ths:List Th}{x:Int}(h:x∈ths.map (·.id)):ths[(coO ths x).toNat]!.id=x∧0≤coO ths x∧coO ths x<(ths.length:Int):=by
 obtain⟨t,ht,rfl⟩:=List.mem_map.1 h;obtain⟨i,hi,rfl⟩:=mem_at ht;obtain⟨v,hv⟩:=coM_has (ths:=ths) (x:=ths[i]!.id) ths.length ⟨i,hi,rfl⟩;have e:coO ths ths[i]!.id=v:=by grind [coO]
 have h2:=coM_rng _ v hv;rw[e];exact⟨coM_id _ hv,h2⟩
structure LgOk(ths:List Th)(l:List Pk):Prop where
 k:∀p∈l,p.es.length=p.k
 t:Tgt (idsOf l)
 m:∀x∈idsOf l,x.th∈ths.map (·.id)
 r:∀x∈idsOf l,0≤x.sr
 n:(idsOf l).length≤24
def Bfr(ths:List Th)(l:List Pk)(k i:Nat):Prop:=k=i∨Rch (caN ths l) k i
theorem Bfr.trans{ths:List Th}{l:List Pk}{a b c:Nat}(h:Bfr ths l a b)(g:Bfr ths l b c):Bfr ths l a c:=by
 rcases h with rfl|h
 ·exact g
 ·rcases g with rfl|g
  ·exact .inr h
  ·exact .inr (h.trans g)
theorem LgOk.nok{ths:List Th}{l:List Pk}(h:LgOk ths l):NOk (caN ths l)∧(caN ths l).length=(idsOf l).length:=by
 have:=caN_ok (ths:=ths) h.k;exact⟨this.nok (by have:=h.n;omega),this.1⟩
theorem LgOk.pos{ths:List Th}{l:List Pk}(h:LgOk ths l){i:Nat}(hi:i<(idsOf l).length):posI (idsOf l) i=i:=by
 obtain⟨_,a,b⟩:=posI_ok hi;injection b with b1 b2
 rcases Nat.lt_trichotomy (posI (idsOf l) i) i with q|q|q
 ·have:=tgt_lt h.t q hi b1.symm;omega
 ·exact q
 ·have:=tgt_lt h.t q a b1;omega
theorem LgOk.th{ths:List Th}{l:List Pk}(h:LgOk ths l){i k:Nat}(hik:i≤k)(hk:k<(idsOf l).length)(e:(idsOf l)[i]!.th=(idsOf l)[k]!.th):Bfr ths l i k:=by
 by_cases c:i=k
 ·exact .inl c
 ·obtain⟨d,rfl⟩:∃d,k=i+(d+1):=⟨k-i-1,Om⟩;exact .inr (rch_th h.k h.t d hk e)
theorem LgOk.vec{ths:List Th}{l:List Pk}(h:LgOk ths l){i k:Nat}(hi:i<(idsOf l).length)(hk:k<(idsOf l).length):(veN ths l (idsOf l).length)[i]![(coO ths (idsOf l)[k]!.th).toNat]! >(idsOf l)[k]!.sr↔Bfr ths l k i:=by
 obtain⟨c1,c2,c3⟩:=coO_id (h.m _ (mem_b hk));obtain⟨nk,nl⟩:=h.nok;rw[veN_at ths l hi];unfold veI;rw[h.pos hi];unfold vcF;rw[map_b _ (by grind),List.take_length,c1];have af:∀m,m<(idsOf l).length→((m=i∨(aftF (caN ths l) m)[i]! =true)↔Bfr ths l m i):=fun m hm=>by
  unfold Bfr;rw[aft_iff nk Om Om]
 constructor
 ·intro q;obtain⟨m,hm,e,a,b⟩:=vcI_gt (h.r _ (mem_b hk)) _ q;rw[af m hm]at a;have hmk:k≤m:=by
   rcases Nat.lt_or_ge m k with q|q
   ·have:=tgt_lt h.t q hk e;omega
   ·exact q
  exact(h.th hmk hm e.symm).trans a
 ·intro q;exact vcI_ge h.t rfl ((af k hk).2 q) _ hk Nl
def mxl(c:Nat→Bool)(r:Nat→Int)(z:Int):Nat→Int
 |0=>z
 |k+1=>if c k=true then max (mxl c r z k) (r k)else mxl c r z k
theorem mxl_ge(c:Nat→Bool)(r:Nat→Int)(z:Int):∀n,z≤mxl c r z n∧∀k,k<n→c k=true→r k≤mxl c r z n
 |0=>⟨Int.le_refl _,fun k h=>by omega⟩
 |n+1=>by
  obtain⟨a,b⟩:=mxl_ge c r z n;unfold mxl;grind
theorem mxl_is(c:Nat→Bool)(r:Nat→Int)(z:Int):∀n,mxl c r z n=z∨∃k,k<n∧c k=true∧mxl c r z n=r k
 |0=>.inl rfl
 |n+1=>by
  have ih:=mxl_is c r z n;unfold mxl;grind
theorem tg1_lo(c:Bool)(raw:List Tm)(i:Nat)(o:List Tm)(k p:Nat)(hp:p<o.length):(tg1 c raw i o k)[p]!.lo=if p=i∧c=true then max o[i]!.lo raw[k]!.lo else o[p]!.lo:=by
 unfold tg1;split
 ·rename_i hc;have h1:∀(q:Nat),q<o.length→(o.set i (tgL o[i]! (max o[i]!.lo raw[k]!.lo)))[q]!.lo=if q=i then max o[i]!.lo raw[k]!.lo else o[q]!.lo:=fun q hq=>by
   rw[set_at _ _ _ _ hq];by_cases e:i=q
   ·rw[if_pos e,if_pos e.symm];rfl
   grind
  rw[set_at _ _ _ _ (by grind)];by_cases e:k=p
  ·rw[if_pos e];subst e;show(o.set i _)[k]!.lo=_;grind
  grind
 grind
theorem tgI_lo(V:List (List Int))(ths:List Th)(raw:List Tm)(i:Nat)(o:List Tm)(p:Nat)(hp:p<o.length)(hi:i<o.length):∀n,(tgI V ths raw i o n)[p]!.lo=if p=i then mxl (aftB V ths raw i) (fun k=>raw[k]!.lo) o[i]!.lo n else o[p]!.lo
 |0=>by
  show o[p]!.lo=_;split
  ·rename_i e;rw[e];rfl
  ·rfl
 |n+1=>by
  show(tg1 _ raw i _ n)[p]!.lo=_;rw[tg1_lo _ _ _ _ _ _ (by rw[tgI_len];exact hp),tgI_lo V ths raw i o p hp hi n,tgI_lo V ths raw i o i hi hi n,if_pos rfl];by_cases e:p=i
  ·rw[if_pos e,if_pos e];show _=if aftB V ths raw i n=true then _ else _
   by_cases e2:aftB V ths raw i n=true
   ·rw[if_pos ⟨e,e2⟩,if_pos e2]
   ·rw[if_neg fun h=>e2 h.2,if_neg e2]
  ·rw[if_neg e,if_neg e,if_neg fun h=>e h.1]
theorem tgN_lo(V:List (List Int))(ths:List Th)(raw:List Tm)(p:Nat)(hp:p<raw.length):∀i,i≤raw.length→(tgN V ths raw i)[p]!.lo=if p<i then mxl (aftB V ths raw p) (fun k=>raw[k]!.lo) raw[p]!.lo raw.length else raw[p]!.lo
 |0,_=>by rfl
 |i+1,hi=>by
  have ih:=tgN_lo V ths raw p hp i Om;show(tgI V ths raw i (tgN V ths raw i) raw.length)[p]!.lo=_;rw[tgI_lo _ _ _ _ _ _ (by grind [tgN_len]) (by rw[tgN_len];omega)];grind
section
variable{ths:List Th}{d:List Dm}{s:List Sn}{l:List Pk}
theorem LgOk.X(h:LgOk ths l){k:Nat}(hk:k<(idsOf l).length):(tgX ths d s l)[k]!.th=(idsOf l)[k]!.th∧(tgX ths d s l)[k]!.sr=(idsOf l)[k]!.sr∧(rwN ths d s l l.length)[k]!.th=(idsOf l)[k]!.th∧(rwN ths d s l l.length)[k]!.sr=(idsOf l)[k]!.sr:=by
 have e1:=tgX_ids (ths:=ths) (d:=d) (s:=s) h.k;have e2:=rwN_ids (ths:=ths) (d:=d) (s:=s) h.k l.length Nl;have l1:=tgX_len (ths:=ths) (d:=d) (s:=s) h.k;have l2:(rwN ths d s l l.length).length=(idsOf l).length:=by
  have:=congrArg List.length e2;rw[List.length_map]at this;exact this
 have h1:=map_b tmI (l:=tgX ths d s l) (k:=k) Om;have h2:=map_b tmI (l:=rwN ths d s l l.length) (k:=k) Om;rw[e1]at h1;rw[e2]at h2;have h2:(idsOf l)[k]! =tmI (rwN ths d s l l.length)[k]! :=h2;exact⟨by rw[h1];rfl,by rw[h1];rfl,by rw[h2];rfl,by rw[h2];rfl⟩
theorem LgOk.lo(h:LgOk ths l){a b:Nat}(hb:b<(idsOf l).length)(ha:a<(idsOf l).length)(hab:Bfr ths l a b):(tgX ths d s l)[a]!.lo≤(tgX ths d s l)[b]!.lo:=by
 have l2:(rwN ths d s l l.length).length=(idsOf l).length:=by
  have:=congrArg List.length (rwN_ids (ths:=ths) (d:=d) (s:=s) h.k l.length Nl);rw[List.length_map]at this;exact this
 have hc:∀i k,i<(idsOf l).length→k<(idsOf l).length→(aftB (veN ths l (idsOf l).length) ths (rwN ths d s l l.length) i k=true↔Bfr ths l k i):=fun i k hi hk=>by
  unfold aftB;rw[decide_eq_true_eq,(h.X (d:=d) (s:=s) hk).2.2.1,(h.X (d:=d) (s:=s) hk).2.2.2,h.vec hi hk]
 have e:∀p,p<(idsOf l).length→(tgX ths d s l)[p]!.lo=mxl (aftB (veN ths l (idsOf l).length) ths (rwN ths d s l l.length) p) (fun k=>(rwN ths d s l l.length)[k]!.lo) (rwN ths d s l l.length)[p]!.lo (rwN ths d s l l.length).length:=fun p hp=>by
  unfold tgX;rw[tgN_lo _ _ _ _ Om _ Nl,if_pos Om]
 rw[e a ha,e b hb];obtain⟨g1,g2⟩:=mxl_ge (aftB (veN ths l (idsOf l).length) ths (rwN ths d s l l.length) b) (fun k=>(rwN ths d s l l.length)[k]!.lo) (rwN ths d s l l.length)[b]!.lo (rwN ths d s l l.length).length;rcases mxl_is (aftB (veN ths l (idsOf l).length) ths (rwN ths d s l l.length) a) (fun k=>(rwN ths d s l l.length)[k]!.lo) (rwN ths d s l l.length)[a]!.lo (rwN ths d s l l.length).length with q|⟨k,hk,c,q⟩
 ·grind
 ·rw[q];exact g2 k hk ((hc b k hb Om).2 (((hc a k ha Om).1 c).trans hab))
end
section
variable{C:Int→Int}{X:List Tm}{V:List (List Int)}
theorem beN_min{W:List (List Int)}:∀c,(∀c2,c2<c→0<W[c2]!.length→frB C X V W W[c2]![0]!.toNat=true→0≤beN C X V W c∧X[W[(beN C X V W c).toNat]![0]!.toNat]!.lo≤X[W[c2]![0]!.toNat]!.lo)∧(0≤beN C X V W c→frB C X V W W[(beN C X V W c).toNat]![0]!.toNat=true)
 |0=>⟨fun _ h=>by omega,fun h=>absurd h (by show¬(0:Int)≤-1;decide)⟩
 |c+1=>by
  obtain⟨a,b⟩:=beN_min (W:=W) c;rw[show beN C X V W (c+1)=be1 C X V W (beN C X V W c) c from rfl];unfold be1;split
  ·rename_i q;rw[Int.toNat_natCast];grind
  grind
structure QOk(C:Int→Int)(X:List Tm)(B:Nat→Nat→Prop)(W:List (List Int)):Prop where
 r:∀c,c<W.length→∀x∈W[c]!,0≤x∧x.toNat<X.length∧(C X[x.toNat]!.th)=(c:Int)
 p:∀c,c<W.length→W[c]!.Pairwise fun a b=>B a.toNat b.toNat
theorem QOk.drop{B:Nat→Nat→Prop}{W:List (List Int)}(h:QOk C X B W)(c:Nat):QOk C X B (W.set c (W[c]!.drop 1)):=by
 refine⟨fun k hk x hx=> ?_,fun k hk=> ?_⟩
 ·rw[List.length_set]at hk;rw[set_at _ _ _ _ hk]at hx;split at hx
  ·rename_i e;subst e;exact h.r c hk x (List.mem_of_mem_drop hx)
  ·exact h.r k hk x hx
 ·rw[List.length_set]at hk;rw[set_at _ _ _ _ hk];split
  ·rename_i e;subst e;exact(h.p c hk).sublist (List.drop_sublist _ _)
  ·exact h.p k hk
theorem or_step{B:Nat→Nat→Prop}{W:List (List Int)}(h:QOk C X B W)
  (hB:∀a b,a<X.length→b<X.length→B a b→X[a]!.lo≤X[b]!.lo)
  (hV:∀a b,a<X.length→b<X.length→X[a]!.sr<V[b]![(C X[a]!.th).toNat]!→B a b)
  (h0:0≤beF C X V W) (h1:0≤beF C X V (W.set (beF C X V W).toNat (W[(beF C X V W).toNat]!.drop 1))):
  X[W[(beF C X V W).toNat]![0]!.toNat]!.lo≤X[(W.set (beF C X V W).toNat (W[(beF C X V W).toNat]!.drop 1))[(beF C X V (W.set (beF C X V W).toNat (W[(beF C X V W).toNat]!.drop 1))).toNat]![0]!.toNat]!.lo:=by
 obtain⟨-,a2,a3⟩:=beN_rng (C:=C) (X:=X) (V:=V) (W:=W) W.length;have a3:0<W[(beF C X V W).toNat]!.length:=a3 h0;have a2:beF C X V W<(W.length:Int):=a2;obtain⟨m1,-⟩:=beN_min (C:=C) (X:=X) (V:=V) (W:=W) W.length;have m1:∀c2,c2<W.length→0<W[c2]!.length→frB C X V W W[c2]![0]!.toNat=true→0≤beF C X V W∧X[W[(beF C X V W).toNat]![0]!.toNat]!.lo≤X[W[c2]![0]!.toNat]!.lo:=m1;generalize hc:(beF C X V W).toNat=c at*;have hcl:c<W.length:=Om;generalize hW:W.set c (W[c]!.drop 1)=W' at*;have hl:W'.length=W.length:=by grind
 obtain⟨-,b2,b3⟩:=beN_rng (C:=C) (X:=X) (V:=V) (W:=W') W'.length;have b3:0<W'[(beF C X V W').toNat]!.length:=b3 h1;have b2:beF C X V W'<(W'.length:Int):=b2;have n2:frB C X V W' W'[(beF C X V W').toNat]![0]!.toNat=true:=(beN_min (C:=C) (X:=X) (V:=V) (W:=W') W'.length).2 h1;generalize hd:(beF C X V W').toNat=e at*;have hel:e<W.length:=Om;have hat:∀k,k<W.length→W'[k]! =if c=k then W[c]!.drop 1 else W[k]! :=fun k hk=>by rw[←hW,set_at _ _ _ _ hk]
 have r0:=h.r c hcl _ (mem_b a3);by_cases ec:c=e
 ·subst ec;have e1:=hat c hcl;rw[if_pos rfl]at e1;rw[e1]at b3 ⊢;rw[List.length_drop]at b3;have e2:(W[c]!.drop 1)[0]! =W[c]![1]! :=by
   grind
  rw[e2];have:=List.pairwise_iff_getElem.1 (h.p c hcl) 0 1 Om Om Om;rw[←bang_eq Om,←bang_eq Om]at this;exact hB _ _ r0.2.1 (h.r c hcl _ (mem_b (show 1<W[c]!.length by omega))).2.1 this
 ·have e1:=hat e hel;rw[if_neg ec]at e1;rw[e1]at b3 n2 ⊢;have re:=h.r e hel _ (mem_b b3);by_cases q:frB C X V W W[e]![0]!.toNat=true
  ·grind
  ·unfold frB at q n2;rw[decide_eq_true_eq,fE_ok]at q n2;obtain⟨c2,q⟩:=Classical.not_forall.1 q;obtain⟨hc2,q⟩:=Classical.not_imp.1 q;have n3:=n2 c2 Om;unfold blk1 at q n3;have q:(((c2:Int)≠C X[W[e]![0]!.toNat]!.th∧(W[c2]!.length:Int)>0)∧X[W[c2]![0]!.toNat]!.sr<V[W[e]![0]!.toNat]![c2]!):=by
    omega
   by_cases e3:c=c2
   ·grind [Int.toNat_natCast]
   grind
theorem orR_srt{B:Nat→Nat→Prop}
  (hB:∀a b,a<X.length→b<X.length→B a b→X[a]!.lo≤X[b]!.lo)
  (hV:∀a b,a<X.length→b<X.length→X[a]!.sr<V[b]![(C X[a]!.th).toNat]!→B a b):∀(k:Nat) (W:List (List Int)) (out r:List Tm),QOk C X B W→orR C X V k W out=some r→
  ∃t,r=out++t∧t.Pairwise (fun a b=>a.lo≤b.lo)∧(t≠[]→0≤beF C X V W)∧∀y∈t,X[W[(beF C X V W).toNat]![0]!.toNat]!.lo≤y.lo
 |0,W,out,r,_,h=>by
  injection h with h
  simp_all
 |k+1,W,out,r,hW,h=>by
  have h':(if beF C X V W<0 then none else orR C X V k (W.set (beF C X V W).toNat (W[(beF C X V W).toNat]!.drop 1)) (out++[X[W[(beF C X V W).toNat]![0]!.toNat]!]))=some r:=h;split at h'
  ·cases h'
  ·rename_i q;obtain⟨t,e,p1,p2,p3⟩:=orR_srt hB hV k _ _ r (hW.drop _) h';have key:∀y∈t,X[W[(beF C X V W).toNat]![0]!.toNat]!.lo≤y.lo:=fun y hy=>
    Int.le_trans (or_step hW hB hV Om (p2 (List.ne_nil_of_mem hy))) (p3 y hy)
   simp_all
theorem wq_ok{B:Nat→Nat→Prop}{n:Nat}(hC:∀x∈X,0≤C x.th)(hB:∀a b,a<b→b<X.length→C X[a]!.th=C X[b]!.th→B a b):∀k,k≤X.length→QOk C X B (wqN C X n k)∧∀c,c<n→∀x∈(wqN C X n k)[c]!,x<(k:Int)
 |0,_=>by
  have e:∀c,c<n→(wqN C X n 0)[c]! =[]:=fun c hc=>by
   show(List.replicate n [])[c]! =[];grind
  simp_all [wqN,List.length_replicate,And.intro,Go.Proofs.YtaclfjjipnpboaaGreatDoor.TW.QOk.mk,List.Pairwise.nil]
 |k+1,hk=>by
  obtain⟨ih,i2⟩:=wq_ok (n:=n) hC hB k Om;have hl:=(wqN_ok (C:=C) (X:=X) (n:=n) k Om).1.l;have h0:=hC _ (mem_b (show k<X.length from hk));have hat:∀c,c<n→(wqN C X n (k+1))[c]! =if(C X[k]!.th).toNat=c then(wqN C X n k)[c]! ++[(k:Int)]else(wqN C X n k)[c]! :=fun c hc=>by
   grind [getElem!,wq1,wqN,set_at]
  have hl2:(wqN C X n (k+1)).length=n:=(wqN_ok (C:=C) (X:=X) (n:=n) (k+1) hk).1.l;refine⟨⟨fun c hc x hx=> ?_,fun c hc=> ?_⟩,fun c hc x hx=> ?_⟩
  ·rw[hat c Om]at hx;split at hx
   ·rename_i e;rcases List.mem_append.1 hx with q|q
    ·exact ih.r c Om x q
    grind
   ·exact ih.r c Om x hx
  ·rw[hat c Om];split
   ·rename_i e;rw[List.pairwise_append];refine⟨ih.p c Om,List.pairwise_singleton _ _,fun x hx y hy=> ?_⟩;rw[List.mem_singleton.1 hy,Int.toNat_natCast];have r:=ih.r c Om x hx;grind
   ·exact ih.p c Om
  grind
end
theorem lg_ok{ths:List Th}{d:List Dm}{s:List Sn}{l:List Pk}(hk:∀p∈l,p.es.length=p.k)(h:lgE ths d s l=0)(hn:evsum l l.length≤24):LgOk ths l:=by
 refine⟨hk,lg_tgt h,fun x hx=> ?_,fun x hx=>(ids_sr hk (lg_pkok h) x hx).1,by show(idsN l l.length).length≤24;grind [idsN_len]⟩;obtain⟨p,hp,e,_⟩:=idsN_mem l.length Nl hx;grind [lg_th]
theorem orL_srt{ths:List Th}{d:List Dm}{s:List Sn}{l:List Pk}(hk:∀p∈l,p.es.length=p.k)(h:lgE ths d s l=0)(hn:evsum l l.length≤24):(orL ths d s l).Pairwise fun a b=>a.lo≤b.lo:=by
 have L:=lg_ok hk h hn;have hX:=tgX_len (ths:=ths) (d:=d) (s:=s) hk;unfold orL;split
 ·decide
 cases e:orO ths d s l with
 |none=>decide
 |some r=>
  have hth:∀x∈tgX ths d s l,x.th∈ths.map (·.id):=fun x hx=>by
   obtain⟨i,hi,rfl⟩:=mem_at hx;rw[(L.X Om).1];exact L.m _ (mem_b Om)
  have hB:∀a b,a<(tgX ths d s l).length→b<(tgX ths d s l).length→Bfr ths l a b→(tgX ths d s l)[a]!.lo≤(tgX ths d s l)[b]!.lo:=fun a b ha hb h=>L.lo Om Om h;have hV:∀a b,a<(tgX ths d s l).length→b<(tgX ths d s l).length→(tgX ths d s l)[a]!.sr<(veN ths l (idsOf l).length)[b]![(coO ths (tgX ths d s l)[a]!.th).toNat]!→Bfr ths l a b:=fun a b ha hb h=>by
   rw[(L.X Om).1,(L.X Om).2.1]at h;exact(L.vec Om Om).1 h
  have hQ:=(wq_ok (C:=coO ths) (X:=tgX ths d s l) (B:=Bfr ths l) (n:=ths.length) (fun x hx=>(coO_id (hth x hx)).2.1) (fun a b hab hb q=>by
   have h1:=coO_id (hth _ (mem_b (show a<_ by omega)));have h2:=coO_id (hth _ (mem_b hb));have e3:(tgX ths d s l)[a]!.th=(tgX ths d s l)[b]!.th:=by grind
   rw[(L.X Om).1,(L.X Om).1]at e3;exact L.th Om Om e3) (tgX ths d s l).length Nl).1
  obtain⟨t,e1,e2,_⟩:=orR_srt hB hV _ _ _ r hQ e;grind
inductive Anc(A:List Int):Nat→Nat→Prop
 |one {i j:Nat}:A[j]! =(i:Int)→Anc A i j
 |step {i k j:Nat}:Anc A i k→A[j]! =(k:Int)→Anc A i j
def upd(G:Int→Tq)(th:Int)(t:Tq):Int→Tq:=fun x=>if x=th then t else G x
theorem upd_at(G:Int→Tq)(th:Int)(t:Tq):upd G th t th=t:=if_pos rfl
theorem upd_ne{G:Int→Tq}{th x:Int}{t:Tq}(h:x≠th):upd G th t x=G x:=if_neg h
theorem upd_two(G:Int→Tq)(th:Int)(a b:Tq):upd (upd G th a) th b=upd G th b:=funext fun x=>by grind [upd]
theorem upd_self(G:Int→Tq)(th:Int):upd G th (G th)=G:=funext fun x=>by
 grind [upd]
def arL(P:List Pq):List Int:=P.map (·.ar)
theorem arL_at{P:List Pq}{i:Nat}(h:i<P.length):(arL P)[i]! =P[i]!.ar:=map_b _ h
theorem Anc.app{A:List Int}{x:Int}{i j:Nat}(hA:∀k,k<A.length→A[k]! <(k:Int))(h:Anc A i j)(hj:j<A.length):Anc (A++[x]) i j:=by
 induction h<;>grind [one,bang_app_left,step]
structure Ns(P:List Pq)(G:Int→Tq):Prop where
 no:PqOk P
 rg:∀th,∀y∈(G th).l,0≤y∧y<(P.length:Int)∧P[y.toNat]!.cl=false∧P[y.toNat]!.th=th
 op:∀i,i<P.length→P[i]!.cl=false→(i:Int)∈(G P[i]!.th).l
 ch:∀th k,k<(G th).l.length→P[(G th).l[k]!.toNat]!.ar=if k=0 then-1 else(G th).l[k-1]!
 l0:∀th,0≤(G th).la
 fr:∀i,i<P.length→0≤P[i]!.fr∧P[i]!.fr≤(G P[i]!.th).la
 to:∀i,i<P.length→P[i]!.cl=true→P[i]!.fr≤P[i]!.to∧P[i]!.to≤(G P[i]!.th).la
 ne:∀i,i<P.length→0≤P[i]!.ar→P[P[i]!.ar.toNat]!.th=P[i]!.th∧P[P[i]!.ar.toNat]!.fr≤P[i]!.fr∧(P[P[i]!.ar.toNat]!.cl=true→P[i]!.cl=true∧P[i]!.to≤P[P[i]!.ar.toNat]!.to)
 ap:∀i j,i<j→j<P.length→P[i]!.th=P[j]!.th→Anc (arL P) i j∨P[i]!.cl=true∧P[i]!.to≤P[j]!.fr
theorem Ns.nil(G:Int→Tq)(h:∀th,(G th).l=[])(h0:∀th,0≤(G th).la):Ns [] G:=
 ⟨fun i hi=>absurd hi (Nat.not_lt_zero i),fun th y hy=>(by grind),fun i hi=>absurd hi (Nat.not_lt_zero i),fun th k hk=>(by grind),h0,fun i hi=>absurd hi (Nat.not_lt_zero i),fun i hi=>absurd hi (Nat.not_lt_zero i),fun i hi=>absurd hi (Nat.not_lt_zero i),fun i j _ hj=>absurd hj (Nat.not_lt_zero j)⟩
section
variable{P:List Pq}{G:Int→Tq}
theorem Ns.asc(h:Ns P G)(th:Int){k m:Nat}(hkm:k<m)(hm:m<(G th).l.length):(G th).l[k]! <(G th).l[m]! :=by
 induction m with
 |zero=>omega
 |succ m ih=>
  have r:=h.rg th _ (mem_b hm);have c:=h.ch th (m+1) hm;rw[if_neg Om,Nat.add_sub_cancel]at c;have:=(h.no (G th).l[m+1]!.toNat Om).2.2;grind
theorem Ns.up(h:Ns P G){th e a:Int}(ha:(G th).la≤a):Ns P (upd G th {(G th)with ex:=e,la:=a}):=by
 have hl:∀x,(upd G th {(G th)with ex:=e,la:=a} x).l=(G x).l:=fun x=>by
  grind [upd]
 have hla:∀x,(G x).la≤(upd G th {(G th)with ex:=e,la:=a} x).la:=fun x=>by
  unfold upd;grind
 exact⟨h.no,fun x y hy=>h.rg x y (by grind),fun i hi hc=>by rw[hl];exact h.op i hi hc,fun x k hk=>by rw[hl]at hk ⊢;exact h.ch x k hk,fun x=>Int.le_trans (h.l0 x) (hla x),
  fun i hi=>⟨(h.fr i hi).1,Int.le_trans (h.fr i hi).2 (hla _)⟩,fun i hi hc=>⟨(h.to i hi hc).1,Int.le_trans (h.to i hi hc).2 (hla _)⟩,h.ne,h.ap⟩
theorem Ns.close(h:Ns P G){th a:Int}{o:Bool}(h0:0<(G th).l.length)(ha:a=(G th).la):Ns (slE P (G th) a o).1 (upd G th (slE P (G th) a o).2):=by
 have hr:=h.rg th _ (mem_b (show(G th).l.length-1<(G th).l.length by omega));have e1:(slE P (G th) a o).1=P.set (G th).l[(G th).l.length-1]!.toNat {P[(G th).l[(G th).l.length-1]!.toNat]! with to:=a,op:=o,cl:=true}:=by unfold slE;rw[if_neg Om]
 have e2:(slE P (G th) a o).2={(G th)with l:=(G th).l.take ((G th).l.length-1)}:=by unfold slE;rw[if_neg Om]
 rw[e1,e2];generalize hy:(G th).l[(G th).l.length-1]! =y at*;have hk:y.toNat<P.length:=Om;have hat:∀p,p<P.length→(P.set y.toNat {P[y.toNat]! with to:=a,op:=o,cl:=true})[p]! =if y.toNat=p then{P[y.toNat]! with to:=a,op:=o,cl:=true}else P[p]! :=fun p hp=>set_at _ _ _ _ hp
 have far:∀p,p<P.length→(P.set y.toNat {P[y.toNat]! with to:=a,op:=o,cl:=true})[p]!.ar=P[p]!.ar:=fun p hp=>by rw[hat p hp];split;{rename_i e;rw[e]};rfl
 have fth:∀p,p<P.length→(P.set y.toNat {P[y.toNat]! with to:=a,op:=o,cl:=true})[p]!.th=P[p]!.th:=fun p hp=>by rw[hat p hp];split;{rename_i e;rw[e]};rfl
 have ffr:∀p,p<P.length→(P.set y.toNat {P[y.toNat]! with to:=a,op:=o,cl:=true})[p]!.fr=P[p]!.fr:=fun p hp=>by rw[hat p hp];split;{rename_i e;rw[e]};rfl
 have fno:∀p,p<P.length→(P.set y.toNat {P[y.toNat]! with to:=a,op:=o,cl:=true})[p]!.no=P[p]!.no:=fun p hp=>by rw[hat p hp];split;{rename_i e;rw[e]};rfl
 have hll:∀x,(upd G th {(G th)with l:=(G th).l.take ((G th).l.length-1)} x).la=(G x).la:=fun x=>by
  unfold upd;split
  ·rename_i q;rw[q]
  ·rfl
 have hsub:∀x,∀z∈(upd G th {(G th)with l:=(G th).l.take ((G th).l.length-1)} x).l,z∈(G x).l∧z≠y:=fun x z hz=>by
  by_cases q:x=th
  ·subst q;rw[upd_at]at hz;refine⟨List.mem_of_mem_take hz,fun e=> ?_⟩;obtain⟨k,hk1,hk2⟩:=mem_at hz;have hk1':k<(G x).l.length-1:=by have:=hk1;simp only[List.length_take]at this;omega
   have h3:(G x).l[k]! =z:=by rw[←hk2,bang_eq hk1,List.getElem_take,bang_eq Om]
   have:=h.asc x (k:=k) (m:=(G x).l.length-1) hk1' Om;omega
  ·rw[upd_ne q]at hz;refine⟨hz,fun e=> ?_⟩;subst e;exact q ((h.rg x z hz).2.2.2.symm.trans hr.2.2.2)
 refine⟨fun i hi=> ?_,fun x z hz=> ?_,fun i hi hc=> ?_,fun x k hk2=> ?_,fun x=>by rw[hll];exact h.l0 x,fun i hi=> ?_,fun i hi hc=> ?_,fun i hi har=> ?_,fun i j hij hj hth=> ?_⟩
 ·rw[List.length_set]at hi;rw[fno i hi,far i hi];exact h.no i hi
 ·obtain⟨z1,z2⟩:=hsub x z hz;have r:=h.rg x z z1;have hz:z.toNat<P.length:=Om;refine⟨r.1,by rw[List.length_set];exact r.2.1,?_,by rw[fth _ hz];exact r.2.2.2⟩;rw[hat _ hz,if_neg Om];exact r.2.2.1
 ·rw[List.length_set]at hi;rw[hat i hi]at hc;split at hc
  ·cases hc
  ·rename_i q;rw[fth i hi];have:=h.op i hi hc;by_cases q2:P[i]!.th=th
   ·rw[q2]at this ⊢;rw[upd_at];obtain⟨k,k1,k2⟩:=mem_at this;have hk3:k≠(G th).l.length-1:=fun e=>by rw[e,hy]at k2;omega
    show(i:Int)∈(G th).l.take _;rw[List.mem_iff_getElem];exact⟨k,by rw[List.length_take];omega,by rw[List.getElem_take,←bang_eq k1];exact k2⟩
   ·rw[upd_ne q2];exact this
 ·by_cases q:x=th
  ·subst q;rw[upd_at]at hk2 ⊢;have hk3:k<(G x).l.length-1:=by have:=hk2;simp only[List.length_take]at this;omega
   have g:∀m,m<(G x).l.length-1→((G x).l.take ((G x).l.length-1))[m]! =(G x).l[m]! :=fun m hm=>by
    rw[bang_eq (by rw[List.length_take];omega),List.getElem_take,bang_eq Om]
   show(P.set _ _)[((G x).l.take ((G x).l.length-1))[k]!.toNat]!.ar=if k=0 then-1 else((G x).l.take ((G x).l.length-1))[k-1]!
   rw[g k hk3,g (k-1) Om];have r:=h.rg x _ (mem_b (show k<(G x).l.length by omega));rw[far _ Om];exact h.ch x k Om
  ·rw[upd_ne q]at hk2 ⊢;have r:=h.rg x _ (mem_b hk2);rw[far _ Om];exact h.ch x k hk2
 ·rw[List.length_set]at hi;rw[ffr i hi,fth i hi,hll];exact h.fr i hi
 ·rw[List.length_set]at hi;rw[fth i hi,hll,ffr i hi];rw[hat i hi]at hc ⊢;split
  ·rename_i q;subst q;have f:=h.fr y.toNat hk;rw[hr.2.2.2]at f ⊢;show P[y.toNat]!.fr≤a∧a≤_;rw[ha];exact⟨f.2,Int.le_refl _⟩
  ·rename_i q;rw[if_neg q]at hc;exact h.to i hi hc
 ·rw[List.length_set]at hi;rw[far i hi]at har ⊢;have n1:=h.no i hi;have hai:P[i]!.ar.toNat<P.length:=Om;rw[fth _ hai,fth i hi,ffr _ hai,ffr i hi];obtain⟨n2,n3,n4⟩:=h.ne i hi har;refine⟨n2,n3,fun hc=> ?_⟩;rw[hat _ hai]at hc ⊢;rw[hat i hi];by_cases q:y.toNat=P[i]!.ar.toNat
  ·rw[if_pos q,if_neg Om];have hcl:P[i]!.cl=true:=by
    cases e:P[i]!.cl with
    |true=>rfl
    |false=>
     have:=h.op i hi e;rw[←n2,←q,hr.2.2.2]at this;obtain⟨k,k1,k2⟩:=mem_at this;have hk3:k<(G th).l.length-1∨k=(G th).l.length-1:=Om;rcases hk3 with hk3|hk3
     ·have:=h.asc th hk3 Om;omega
     ·rw[hk3,hy]at k2;omega
   have t:=h.to i hi hcl;rw[←n2,←q,hr.2.2.2]at t;exact⟨hcl,by show P[i]!.to≤a;rw[ha];exact t.2⟩
  ·rw[if_neg q]at hc ⊢;obtain⟨m1,m2⟩:=n4 hc;by_cases q2:y.toNat=i
   ·subst q2;rw[hr.2.2.1]at m1;cases m1
   ·rw[if_neg q2];exact⟨m1,m2⟩
 ·rw[List.length_set]at hj;have hi:i<P.length:=Om;rw[fth i hi,fth j hj]at hth;have e3:arL (P.set y.toNat {P[y.toNat]! with to:=a,op:=o,cl:=true})=arL P:=set_same_map (fun x:Pq=>x.ar) P y.toNat _ rfl;rw[e3,ffr j hj];rcases h.ap i j hij hj hth with q|q
  ·exact .inl q
  ·refine .inr ?_;rw[hat i hi];split
   ·rename_i e;subst e;rw[hr.2.2.1]at q;exact absurd q.1 Dc
   ·exact q
theorem Ns.anc(h:Ns P G)(th:Int):∀m,m<(G th).l.length→∀k,k<m→Anc (arL P) (G th).l[k]!.toNat (G th).l[m]!.toNat
 |0,_,k,hk=>by omega
 |m+1,hm,k,hk=>by
  have r:=h.rg th _ (mem_b hm);have r2:=h.rg th _ (mem_b (show m<(G th).l.length by omega));have c:=h.ch th (m+1) hm;rw[if_neg Om,Nat.add_sub_cancel]at c;have e:(arL P)[(G th).l[m+1]!.toNat]! =((G th).l[m]!.toNat:Int):=by grind [arL_at]
  by_cases q:k=m
  ·subst q;exact .one e
  ·exact .step (h.anc th m Om k Om) e
theorem Ns.open_(h:Ns P G){th:Int}(nm:ByteArray):Ns (P++[⟨th,nm,(G th).la,0,false,(P.length:Int),if((G th).l.length:Int)>0 then(G th).l[(G th).l.length-1]! else-1,false⟩]) (upd G th {(G th)with l:=(G th).l++[(P.length:Int)]}):=by
 generalize hx:(⟨th,nm,(G th).la,0,false,(P.length:Int),if((G th).l.length:Int)>0 then(G th).l[(G th).l.length-1]! else-1,false⟩:Pq)=x;have x1:x.th=th:=by rw[←hx]
 have x2:x.fr=(G th).la:=by rw[←hx]
 have x3:x.no=(P.length:Int):=by rw[←hx]
 have x4:x.ar=if((G th).l.length:Int)>0 then(G th).l[(G th).l.length-1]! else-1:=by rw[←hx]
 have x5:x.cl=false:=by rw[←hx]
 have hL:(P++[x]).length=P.length+1:=by rw[List.length_append];rfl
 have a1:∀i,i<P.length→(P++[x])[i]! =P[i]! :=fun i hi=>bang_app_left hi;have a2:(P++[x])[P.length]! =x:=by rw[bang_app_right Nl,Nat.sub_self];rfl
 have hla:∀z,(upd G th {(G th)with l:=(G th).l++[(P.length:Int)]} z).la=(G z).la:=fun z=>by
  unfold upd;split
  ·rename_i q;rw[q]
  ·rfl
 have xa: -1≤x.ar∧x.ar<(P.length:Int)∧(0≤x.ar→0<(G th).l.length∧x.ar=(G th).l[(G th).l.length-1]!):=by
  rw[x4];split
  ·have:=h.rg th _ (mem_b (show(G th).l.length-1<(G th).l.length by omega));exact⟨Om,this.2.1,fun _=>⟨Om,rfl⟩⟩
  ·exact⟨Int.le_refl _,Om,fun q=>absurd q Dc⟩
 have sp:∀i,i<P.length+1→i<P.length∨i=P.length:=fun i hi=>by omega
 refine⟨fun i hi=> ?_,fun z y hy=> ?_,fun i hi hc=> ?_,fun z k hk=> ?_,fun z=>by rw[hla];exact h.l0 z,fun i hi=> ?_,fun i hi hc=> ?_,fun i hi har=> ?_,fun i j hij hj hth=> ?_⟩
 ·rcases sp i Om with q|rfl
  ·rw[a1 i q];exact h.no i q
  ·rw[a2];exact⟨x3,xa.1,xa.2.1⟩
 ·rw[hL];by_cases q:z=th
  ·subst q;rw[upd_at]at hy;rcases List.mem_append.1 hy with r|r
   ·have:=h.rg z y r;refine⟨this.1,Om,?_⟩;rw[a1 _ Om];exact this.2.2
   ·rw[List.mem_singleton.1 r,Int.toNat_natCast,a2];exact⟨Om,Om,x5,x1⟩
  ·rw[upd_ne q]at hy;have:=h.rg z y hy;refine⟨this.1,Om,?_⟩;rw[a1 _ Om];exact this.2.2
 ·rcases sp i Om with q|rfl
  ·rw[a1 i q]at hc ⊢;have:=h.op i q hc;by_cases q2:P[i]!.th=th
   ·rw[q2]at this ⊢;rw[upd_at];exact List.mem_append_left _ this
   ·rw[upd_ne q2];exact this
  ·rw[a2,x1,upd_at];exact List.mem_append_right _ (List.mem_singleton.2 rfl)
 ·by_cases q:z=th
  ·subst q;rw[upd_at]at hk ⊢;have hk:k<((G z).l++[(P.length:Int)]).length:=hk;rw[List.length_append]at hk;show(P++[x])[((G z).l++[(P.length:Int)])[k]!.toNat]!.ar=if k=0 then-1 else((G z).l++[(P.length:Int)])[k-1]!
   by_cases q2:k<(G z).l.length
   ·have:=h.rg z _ (mem_b q2);rw[bang_app_left q2,a1 _ Om,bang_app_left Om];exact h.ch z k q2
   ·have:k=(G z).l.length:=by simp only[List.length_cons,List.length_nil]at hk;omega
    subst this;rw[bang_app_right Nl,Nat.sub_self];show(P++[x])[(P.length:Int).toNat]!.ar=_;rw[Int.toNat_natCast,a2,x4];by_cases q3:(G z).l.length=0
    ·rw[if_neg Om,if_pos q3]
    ·rw[if_pos Om,if_neg q3,bang_app_left Om]
  ·rw[upd_ne q]at hk ⊢;have:=h.rg z _ (mem_b hk);rw[a1 _ Om];exact h.ch z k hk
 ·rw[hla];rcases sp i Om with q|rfl
  ·rw[a1 i q];exact h.fr i q
  ·rw[a2,x1,x2];exact⟨h.l0 th,Int.le_refl _⟩
 ·rw[hla];rcases sp i Om with q|rfl
  ·rw[a1 i q]at hc ⊢;exact h.to i q hc
  ·rw[a2,x5]at hc;cases hc
 ·rcases sp i Om with q|rfl
  ·rw[a1 i q]at har ⊢;have:=(h.no i q).2.2;rw[a1 _ Om];exact h.ne i q har
  ·rw[a2]at har ⊢;obtain⟨y1,y2⟩:=xa.2.2 har;rw[a1 _ Om,x1,x2];have r:=h.rg th _ (mem_b (show(G th).l.length-1<(G th).l.length by omega));rw[←y2]at r;have f:=h.fr x.ar.toNat Om;rw[r.2.2.2]at f;exact⟨r.2.2.2,f.2,fun q=>by rw[r.2.2.1]at q;cases q⟩
 ·have eA:arL (P++[x])=arL P++[x.ar]:=by unfold arL;rw[List.map_append];rfl
  have hA:∀k,k<(arL P).length→(arL P)[k]! <(k:Int):=fun k hk=>by
   have hk:k<P.length:=by unfold arL at hk;rwa[List.length_map]at hk
   rw[arL_at hk];exact(h.no k hk).2.2
  have eL:(arL P).length=P.length:=List.length_map _;rw[eA];rw[a1 i Om]at hth ⊢;rcases sp j Om with q|rfl
  ·rw[a1 j q]at hth ⊢;exact(h.ap i j hij q hth).imp (fun r=>r.app hA Om) id
  ·rw[a2]at hth ⊢;rw[x1]at hth;cases ec:P[i]!.cl with
   |true=>
    have:=(h.to i hij ec).2;rw[hth]at this;exact .inr ⟨rfl,by rw[x2];exact this⟩
   |false=>
    refine .inl ?_;have hm:=h.op i hij ec;rw[hth]at hm;obtain⟨k,k1,k2⟩:=mem_at hm;have l1:0<(G th).l.length:=Om;have xe:x.ar=(G th).l[(G th).l.length-1]! :=by rw[x4,if_pos Om]
    have r:=h.rg th _ (mem_b (show(G th).l.length-1<(G th).l.length by omega));have e:(arL P++[x.ar])[P.length]! =(((G th).l[(G th).l.length-1]!.toNat:Nat):Int):=by
     rw[bang_app_right Om,eL,Nat.sub_self];show x.ar=_;rw[xe];omega
    by_cases q:k=(G th).l.length-1
    ·subst q;exact .one (by rw[e,k2];omega)
    ·have:=h.anc th ((G th).l.length-1) Om k Om;rw[k2,Int.toNat_natCast]at this;exact .step (this.app hA Om) e
end
def trG(T:List (Int×Tq)):Int→Tq:=fun th=>(xget T th).getD default
theorem trG_set(T:List (Int×Tq))(th:Int)(t:Tq):trG (xset T th t)=upd (trG T) th t:=funext fun x=>by
 grind [trG,upd,xget_xset]
theorem Ns.all{P:List Pq}{G:Int→Tq}{th:Int}:∀(k:Nat),Ns P G→(G th).l.length=k→Ns (slA k P (G th) (G th).la).1 (upd G th (slA k P (G th) (G th).la).2)∧(slA k P (G th) (G th).la).2.la=(G th).la
 |0,h,_=>⟨by show Ns P (upd G th (G th));grind [upd_self],rfl⟩
 |k+1,h,hl=>by
  have h0:0<(G th).l.length:=Om;have e1:=h.close (o:=true) h0 rfl;have e2:=slE_len (P:=P) (at_:=(G th).la) (o:=true) h0;have e3:(slE P (G th) (G th).la true).2.la=(G th).la:=by rw[slE_tq]
  have ih:=Ns.all (th:=th) k e1 (by rw[upd_at];omega);rw[upd_at,e3,upd_two]at ih;exact ih
theorem Ns.one{P:List Pq}{T:List (Int×Tq)}{x:Tm}(h:Ns P (trG T))(hx:(trG T x.th).la≤clk x.lo):Ns (sl1 (P,T) x).1 (trG (sl1 (P,T) x).2)∧∀th,(trG (sl1 (P,T) x).2 th).la=if th=x.th then clk x.lo else(trG T th).la:=by
 have h1:Ns (slG P (trG T x.th) x).1 (upd (trG T) x.th (slG P (trG T x.th) x).2)∧(slG P (trG T x.th) x).2.la=(trG T x.th).la:=by
  unfold slG;split
  ·exact h.all _ rfl
  ·exact⟨by grind [upd_self],rfl⟩
 obtain⟨a,b⟩:=h1;have h2:=a.up (th:=x.th) (e:=x.sr+1) (a:=clk x.lo) (by grind [upd_at]);rw[upd_at,upd_two]at h2;have e0:(sl1 (P,T) x)=((slV (slG P (trG T x.th) x).1 {(slG P (trG T x.th) x).2 with ex:=x.sr+1,la:=clk x.lo} x).1,xset T x.th (slV (slG P (trG T x.th) x).1 {(slG P (trG T x.th) x).2 with ex:=x.sr+1,la:=clk x.lo} x).2):=rfl;rw[e0];dsimp only;rw[trG_set];generalize (slG P (trG T x.th) x).1=Q at h2 ⊢;generalize ht:({(slG P (trG T x.th) x).2 with ex:=x.sr+1,la:=clk x.lo}:Tq)=t at h2 ⊢;have tl:t.la=clk x.lo:=by grind
 have key:Ns (slV Q t x).1 (upd (trG T) x.th (slV Q t x).2)∧(slV Q t x).2.la=clk x.lo:=by
  unfold slV;split
  ·refine⟨?_,tl⟩;have:=h2.open_ (th:=x.th) x.nm;grind [upd_at,upd_two]
  split
  ·by_cases q:t.l.length=0
   ·simp_all [slE,if_pos,And.intro]
   ·have:=h2.close (th:=x.th) (a:=clk x.lo) (o:=false) (by rw[upd_at];omega) (by rw[upd_at,tl]);rw[upd_at,upd_two]at this;exact⟨this,by grind [slE_tq]⟩
  grind
 refine⟨key.1,fun th=> ?_⟩;grind [upd]
theorem clk_mono{a b:Int}(h:a≤b):clk a≤clk b:=by grind [clk]
theorem slN_ns{o:List Tm}(ho:o.Pairwise fun a b=>a.lo≤b.lo):∀j,j≤o.length→Ns (slN o j).1 (trG (slN o j).2)∧∀th,(trG (slN o j).2 th).la=0∨∃i,i<j∧(trG (slN o j).2 th).la=clk o[i]!.lo
 |0,_=>⟨Ns.nil _ (fun th=>rfl) (fun th=>Int.le_refl _),fun th=>.inl rfl⟩
 |j+1,hj=>by
  obtain⟨a,b⟩:=slN_ns ho j Om;have hla:(trG (slN o j).2 o[j]!.th).la≤clk o[j]!.lo:=by
   rcases b o[j]!.th with q|⟨i,hi,q⟩
   ·simp_all [clk_rng]
   ·rw[q];have:=List.pairwise_iff_getElem.1 ho i j Om Om hi;rw[←bang_eq Om,←bang_eq Om]at this;exact clk_mono this
  obtain⟨c,d⟩:=a.one (x:=o[j]!) hla;refine⟨c,fun th=> ?_⟩;have d:=d th;show(trG (sl1 (slN o j) o[j]!).2 th).la=0∨∃i,i<j+1∧(trG (sl1 (slN o j) o[j]!).2 th).la=_;grind
theorem xset_keys{α:Type}:∀(T:List (Int×α)) (k:Int) (v:α),(xset T k v).map (·.1)=if k∈T.map (·.1)then T.map (·.1)else T.map (·.1)++[k]
 |[],k,v=>by rfl
 |(a,b)::r,k,v=>by
  have ih:=xset_keys r k v;show((if k=a then(a,v)::r else(a,b)::xset r k v).map (·.1))=_;grind
theorem xset_nodup{α:Type}{T:List (Int×α)}{k:Int}{v:α}(h:(T.map (·.1)).Nodup):((xset T k v).map (·.1)).Nodup:=by
 rw[xset_keys];grind
theorem xget_of{α:Type}:∀{T:List (Int×α)} {k:Int} {v:α},(T.map (·.1)).Nodup→(k,v)∈T→xget T k=some v
 |(a,b)::r,k,v,hn,h=>by
  rw[List.map_cons,List.nodup_cons]at hn;show(if k=a then some b else xget r k)=_;rcases List.mem_cons.1 h with e|e
  ·grind
  ·rw[if_neg fun q=>hn.1 (by grind)];exact xget_of hn.2 e
theorem slN_keys(o:List Tm):∀j,((slN o j).2.map (·.1)).Nodup
 |0=>List.nodup_nil
 |j+1=>xset_nodup (slN_keys o j)
structure Nst(P:List Pq)(E:Int):Prop where
 no:PqOk P
 le:∀i,i<P.length→0≤P[i]!.fr∧P[i]!.fr≤P[i]!.to∧P[i]!.to≤E
 ne:∀i,i<P.length→0≤P[i]!.ar→P[P[i]!.ar.toNat]!.th=P[i]!.th∧P[P[i]!.ar.toNat]!.fr≤P[i]!.fr∧P[i]!.to≤P[P[i]!.ar.toNat]!.to
 ap:∀i j,i<j→j<P.length→P[i]!.th=P[j]!.th→Anc (arL P) i j∨P[i]!.to≤P[j]!.fr
theorem enN_ge(en:Int)(o:List Tm):∀j i,i<j→clk o[i]!.lo≤enN en o j
 |0,i,h=>by omega
 |j+1,i,h=>by
  show _≤max (enN en o j) (clk o[j]!.lo);by_cases q:i=j
  ·grind
  ·have:=enN_ge en o j i Om;omega
theorem enF_ge(en:Int)(o:List Tm){i:Nat}(h:i<o.length):clk o[i]!.lo≤enF en o:=by
 have h1:=enN_ge en o o.length i h;have h2:=clk_rng o[i]!.lo;unfold enF;have:clk (clk o[i]!.lo)=clk o[i]!.lo:=by rw[clk];omega
 rw[←this];exact clk_mono h1
theorem slP2_nst{o:List Tm}(en:Int)(ho:o.Pairwise fun a b=>a.lo≤b.lo):Nst (slP2 o en) (enF en o):=by
 obtain⟨N,la⟩:=slN_ns ho o.length Nl;have kd:=slN_keys o o.length;have hE:∀th,(trG (slN o o.length).2 th).la≤enF en o:=fun th=>by
  rcases la th with q|⟨i,hi,q⟩
  ·rw[q];exact(clk_rng _).1
  ·rw[q];exact enF_ge en o hi
 have hb:∀i,i<(slN o o.length).1.length→(((slN o o.length).2.any fun t=>decide ((i:Int)∈t.2.l))=true↔(slN o o.length).1[i]!.cl=false):=fun i hi=>by
  rw[List.any_eq_true];constructor
  ·rintro⟨⟨k,t⟩,ht,h⟩;have h:=of_decide_eq_true h;have e:trG (slN o o.length).2 k=t:=by unfold trG;rw[xget_of kd ht];rfl
   have:=N.rg k i (by rw[e];exact h);rw[Int.toNat_natCast]at this;exact this.2.2.1
  ·intro h;have:=N.op i hi h;unfold trG at this;cases e:xget (slN o o.length).2 (slN o o.length).1[i]!.th with
   |none=>rw[e]at this;cases this
   |some t=>rw[e]at this;exact⟨_,xget_mem e,decide_eq_true this⟩
 have sp:∀i,i<(slN o o.length).1.length→(slP2 o en)[i]! =if(slN o o.length).1[i]!.cl=false then clP (enF en o) (slN o o.length).1[i]! else(slN o o.length).1[i]! :=fun i hi=>by
  unfold slP2;rw[clM_at hi];by_cases q:(slN o o.length).1[i]!.cl=false
  ·rw[if_pos q,if_pos ((hb i hi).2 q)]
  ·rw[if_neg q,if_neg fun h=>q ((hb i hi).1 h)]
 have hl:(slP2 o en).length=(slN o o.length).1.length:=clM_len _ _ _;have far:∀i,i<(slN o o.length).1.length→(slP2 o en)[i]!.ar=(slN o o.length).1[i]!.ar:=fun i hi=>by rw[sp i hi];split<;>rfl
 have fth:∀i,i<(slN o o.length).1.length→(slP2 o en)[i]!.th=(slN o o.length).1[i]!.th:=fun i hi=>by rw[sp i hi];split<;>rfl
 have ffr:∀i,i<(slN o o.length).1.length→(slP2 o en)[i]!.fr=(slN o o.length).1[i]!.fr:=fun i hi=>by rw[sp i hi];split<;>rfl
 have ct:∀i:Nat,(slN o o.length).1[i]!.cl≠false→(slN o o.length).1[i]!.cl=true:=fun i h=>by cases q:(slN o o.length).1[i]!.cl with|true=>rfl|false=>exact absurd q h
 refine⟨slP2_ok o en,fun i hi=> ?_,fun i hi har=> ?_,fun i j hij hj hth=> ?_⟩
 ·rw[hl]at hi;rw[ffr i hi,sp i hi];have f:=N.fr i hi;split
  ·exact⟨f.1,Int.le_trans f.2 (hE _),Int.le_refl _⟩
  ·rename_i q;have t:=N.to i hi (ct i q);exact⟨f.1,t.1,Int.le_trans t.2 (hE _)⟩
 ·rw[hl]at hi;rw[far i hi]at har ⊢;have n1:=N.no i hi;have ha:(slN o o.length).1[i]!.ar.toNat<(slN o o.length).1.length:=Om;rw[fth _ ha,fth i hi,ffr _ ha,ffr i hi];obtain⟨m1,m2,m3⟩:=N.ne i hi har;refine⟨m1,m2,?_⟩;rw[sp i hi,sp _ ha];by_cases q:(slN o o.length).1[(slN o o.length).1[i]!.ar.toNat]!.cl=false
  ·rw[if_pos q];split
   ·exact Int.le_refl _
   ·rename_i q2;exact Int.le_trans (N.to i hi (ct i q2)).2 (hE _)
  ·rw[if_neg q];obtain⟨r1,r2⟩:=m3 (ct _ q);rw[if_neg (by rw[r1];decide)];exact r2
 ·rw[hl]at hj;rw[fth i Om,fth j hj]at hth;have eA:arL (slP2 o en)=arL (slN o o.length).1:=by
   refine list_ext (by unfold arL;rw[List.length_map,List.length_map,hl]) fun i hi=> ?_;have hi:i<(slN o o.length).1.length:=by unfold arL at hi;rw[List.length_map,hl]at hi;exact hi
   rw[arL_at Om,arL_at hi,far i hi]
  rw[eA,ffr j hj,sp i Om];rcases N.ap i j hij hj hth with q|q
  ·exact .inl q
  ·exact .inr (by rw[if_neg (by rw[q.1];decide)];exact q.2)
theorem orF3(a b c:Int):orF [a,b,c]=if a≠0 then a else if b≠0 then b else c:=by
 show(if(if(if(0:Int)=0 then a else 0)=0 then b else(if(0:Int)=0 then a else 0))=0 then c else(if(if(0:Int)=0 then a else 0)=0 then b else(if(0:Int)=0 then a else 0)))=_;omega
theorem cmpI_c(a b:Int):(cmpI a b<0↔a<b)∧(cmpI a b>0↔b<a)∧(cmpI a b=0↔a=b):=by
 unfold cmpI;omega
theorem cmpSc_lt(a b:Sc):cmpSc a b<0↔a.fr<b.fr∨a.fr=b.fr∧(b.to<a.to∨a.to=b.to∧a.th<b.th):=by
 unfold cmpSc;rw[orF3];have h1:=cmpI_c a.fr b.fr;grind [cmpI_c]
theorem cmpPq_lt(a b:Pq):cmpPq a b<0↔a.fr<b.fr∨a.fr=b.fr∧(b.to<a.to∨a.to=b.to∧a.th<b.th):=cmpSc_lt a.s b.s
theorem cmpPq_Cmp:Cmp cmpPq:=⟨fun x y h=>by grind [cmpPq_lt],fun x y z h g=>by rw[cmpPq_lt]at h g ⊢;omega⟩
section
variable{P:List Pq}{E:Int}
theorem Nst.anc(h:Nst P E){p i:Nat}(ha:Anc (arL P) p i):i<P.length→p<i∧P[p]!.th=P[i]!.th∧P[p]!.fr≤P[i]!.fr∧P[i]!.to≤P[p]!.to:=by
 induction ha with
 | @one j e=>
  intro hi;rw[arL_at hi]at e;have n:=h.no j hi;have m:=h.ne j hi Om;grind
 | @step k j _ e ih=>
  intro hi;rw[arL_at hi]at e;have n:=h.no j hi;have m:=h.ne j hi Om;grind
theorem anc_up{A:List Int}{q i:Nat}(h:Anc A q i):A[i]! =(q:Int)∨(0≤A[i]!∧Anc A q A[i]!.toNat):=by
 cases h<;>grind
theorem Nst.near(h:Nst P E){i:Nat}(hi:i<P.length):∀(k:Nat) (n:Int),(n= -1∨0≤n∧Anc (arL P) n.toNat i)→n<(k:Int)→
  (slP P k n= -1∨0≤slP P k n∧Anc (arL P) (slP P k n).toNat i∧P[(slP P k n).toNat]!.fr<P[(slP P k n).toNat]!.to)∧
  ∀q,Anc (arL P) q i→P[q]!.fr<P[q]!.to→(n=(q:Int)∨0≤n∧Anc (arL P) q n.toNat)→slP P k n=(q:Int)∨0≤slP P k n∧Anc (arL P) q (slP P k n).toNat
 |0,n,hn,hk=>by
  have:n= -1:=Om;subst this;exact⟨.inl rfl,fun q _ _ hq=>by omega⟩
 |k+1,n,hn,hk=>by
  unfold slP;split
  ·rename_i c;rcases hn with hn|⟨n0,hn⟩
   ·omega
   have hl:=(h.anc hn hi).1;have hl2:n.toNat<P.length:=Om;have no:=h.no n.toNat hl2;have hn':P[n.toNat]!.ar= -1∨0≤P[n.toNat]!.ar∧Anc (arL P) P[n.toNat]!.ar.toNat i:=by
    by_cases z:P[n.toNat]!.ar= -1
    ·omega
    ·refine .inr ⟨Om,?_⟩;clear c;have e:(arL P)[n.toNat]! =((P[n.toNat]!.ar.toNat:Nat):Int):=by grind [arL_at]
     generalize n.toNat=m at hn e;generalize P[m]!.ar.toNat=p at e;clear hl2 hl no z
     induction hn with
     |one e2=>exact .step (.one e) e2
     |step h1 e2 ih=>exact .step (ih (by have:=h.no _ hi;grind [arL_at])) e2
   obtain⟨a,b⟩:=h.near hi k P[n.toNat]!.ar hn' Om;refine⟨a,fun q hq hne hqn=>b q hq hne ?_⟩;rcases hqn with e|⟨_,hq2⟩
   ·grind
   ·rcases anc_up hq2 with e|e<;>grind [anc_up,arL_at]
  ·rename_i c;refine⟨?_,fun q _ _ hqn=>hqn⟩;rcases hn with hn|⟨n0,hn⟩
   ·omega
   ·have hl:=(h.anc hn hi).1;have:=h.le n.toNat Om;grind
structure Kpt(P K:List Pq):Prop where
 m:∀x,x∈K↔x∈P∧x.fr<x.to
 s:K.Pairwise (Bef cmpPq fun a b=>a.no<b.no)
 n:(K.map (·.no)).Nodup
theorem kpt_of(h:PqOk P):Kpt P (stabF cmpPq (P.filter fun x=>decide (x.fr<x.to))):=by
 have hp:(P.filter fun x=>decide (x.fr<x.to)).Pairwise fun a b=>a.no<b.no:=by
  refine List.Pairwise.filter _ ?_;rw[List.pairwise_iff_getElem];intro i j hi hj hij;rw[←bang_eq hi,←bang_eq hj];have:=h i hi;have:=h j hj;omega
 refine⟨fun x=>by rw[(stabF_perm _).mem_iff,List.mem_filter,decide_eq_true_eq],stabF_ok cmpPq_Cmp hp,?_⟩;rw[((stabF_perm _).map _).nodup_iff];grind
variable{K:List Pq}
theorem Kpt.at_(k:Kpt P K)(h:PqOk P){i:Nat}(hi:i<K.length):0≤K[i]!.no∧K[i]!.no.toNat<P.length∧P[K[i]!.no.toNat]! =K[i]!∧K[i]!.fr<K[i]!.to:=by
 obtain⟨a,b⟩:=(k.m _).1 (mem_b hi);obtain⟨j,hj,e⟩:=mem_at a;have:=h j hj;grind
theorem Kpt.inj(k:Kpt P K){i j:Nat}(hi:i<K.length)(hj:j<K.length)(e:K[i]!.no=K[j]!.no):i=j:=by
 rw[←map_b (fun x:Pq=>x.no) hi,←map_b (fun x:Pq=>x.no) hj,bang_eq (by grind),bang_eq (by grind)]at e;exact(List.getElem_inj k.n).1 e
theorem Kpt.has(k:Kpt P K)(h:PqOk P){p:Nat}(hp:p<P.length)(hn:P[p]!.fr<P[p]!.to):∃j,j<K.length∧K[j]! =P[p]!∧K[j]!.no=(p:Int):=by
 obtain⟨j,hj,e⟩:=mem_at ((k.m _).2 ⟨mem_b hp,hn⟩);exact⟨j,hj,e,by rw[e];exact(h p hp).1⟩
theorem Kpt.lt(k:Kpt P K)(h:Nst P E){i j:Nat}(hi:i<K.length)(hj:j<K.length)(ha:Anc (arL P) K[j]!.no.toNat K[i]!.no.toNat):j<i:=by
 obtain⟨i1,i2,i3,i4⟩:=k.at_ h.no hi;obtain⟨j1,j2,j3,j4⟩:=k.at_ h.no hj;obtain⟨a1,a2,a3,a4⟩:=h.anc ha i2;rw[i3,j3]at a2 a3 a4;rcases Nat.lt_trichotomy j i with q|q|q
 ·exact q
 ·grind
 ·have:=List.pairwise_iff_getElem.1 k.s i j hi hj q;rw[←bang_eq hi,←bang_eq hj]at this;rcases this with b|⟨-,b⟩<;>grind [cmpPq_lt]
theorem plM_at(k:Kpt P K)(h:PqOk P):∀n,n≤K.length→xget (plM K n) (-1)=some (-1)∧∀j,j<n→xget (plM K n) K[j]!.no=some (j:Int)
 |0,_=>⟨rfl,fun j hj=>by omega⟩
 |n+1,hn=>by
  obtain⟨a,b⟩:=plM_at k h n Om;have r:=k.at_ h (show n<K.length from hn);refine⟨?_,fun j hj=> ?_⟩
  ·show xget (xset (plM K n) K[n]!.no (n:Int)) (-1)=_;rw[xget_xset,if_neg Om];exact a
  ·show xget (xset (plM K n) K[n]!.no (n:Int)) _=_;rw[xget_xset];by_cases q:j=n
   ·grind
   ·rw[if_neg fun e=>q (k.inj Om Om e)];grind
theorem paF_at(k:Kpt P K)(h:Nst P E){i:Nat}(hi:i<K.length):
  (paF P K i= -1∨∃j,j<i∧paF P K i=(j:Int)∧Anc (arL P) K[j]!.no.toNat K[i]!.no.toNat)∧
  ∀m,m<K.length→Anc (arL P) K[m]!.no.toNat K[i]!.no.toNat→0≤paF P K i∧(paF P K i=(m:Int)∨Anc (arL P) K[m]!.no.toNat K[(paF P K i).toNat]!.no.toNat):=by
 obtain⟨i1,i2,i3,i4⟩:=k.at_ h.no hi;obtain⟨g1,g2⟩:=plM_at k h.no (i+1) hi;have n:=h.no K[i]!.no.toNat i2;rw[i3]at n;obtain⟨a,b⟩:=h.near i2 P.length K[i]!.ar (by
  by_cases z:K[i]!.ar= -1
  ·omega
  ·exact .inr ⟨Om,.one (by grind [arL_at])⟩) Om
 have hb:∀m,m<K.length→Anc (arL P) K[m]!.no.toNat K[i]!.no.toNat→slP P P.length K[i]!.ar=((K[m]!.no.toNat:Nat):Int)∨0≤slP P P.length K[i]!.ar∧Anc (arL P) K[m]!.no.toNat (slP P P.length K[i]!.ar).toNat:=fun m hm ha=>by
  obtain⟨m1,m2,m3,m4⟩:=k.at_ h.no hm;refine b _ ha (by grind) ?_;rcases anc_up ha with e|e<;>grind [anc_up,arL_at]
 clear b;unfold paF;rcases a with e|⟨p0,pa,pn⟩
 ·grind
 ·generalize slP P P.length K[i]!.ar=p at*;have pl:=(h.anc pa i2).1;obtain⟨j,hj,j1,j2⟩:=k.has h.no (p:=p.toNat) Om pn;have e:K[j]!.no=p:=Om;have ha:Anc (arL P) K[j]!.no.toNat K[i]!.no.toNat:=by grind
  have hlt:=k.lt h hi hj ha;rw[←e,g2 j Om];refine⟨.inr ⟨j,hlt,rfl,ha⟩,fun m hm hma=> ?_⟩;show 0≤(j:Int)∧((j:Int)=(m:Int)∨Anc _ _ K[(j:Int).toNat]!.no.toNat);refine⟨Om,?_⟩;rw[Int.toNat_natCast];rcases hb m hm hma with q|q
  ·refine .inl ?_;have m1:=k.at_ h.no hm;have:K[j]!.no=K[m]!.no:=Om;rw[k.inj hj hm this]
  grind
end
theorem hpa_of{o:List Tm}(en:Int)(ho:o.Pairwise fun a b=>a.lo≤b.lo):∀i,i<(slK o en).length→-1≤paF (slP2 o en) (slK o en) i∧paF (slP2 o en) (slK o en) i<(i:Int):=fun i hi=>by
 have h:=slP2_nst en ho;have k:Kpt (slP2 o en) (slK o en):=kpt_of h.no;rcases(paF_at k h hi).1 with e|⟨j,hj,e,_⟩<;>grind

structure TmV(x:Tm):Prop where
 kd:1≤x.kd∧x.kd<13
 nm:(formF x.kd).nm=true→nmF x.nm=0
 st:(formF x.kd).nm=false→frF x.st=0
 n:(formF x.kd).n=true→(formF x.kd).lo≤x.n∧x.n≤(formF x.kd).hi
 m:(formF x.kd).m=true→x.kd≠9∨x.n=2→(formF x.kd).mlo≤x.m∧x.m≤(formF x.kd).mhi
theorem fmOk_rng{k:Int}(h:fmOk k=true):1≤k∧k<13:=by
 unfold fmOk at h;grind
theorem ev_ok{x:Tm}(h:evE (tmV x)=0):TmV x:=by
 unfold evE at h;split at h
 ·cases h
 dsimp only at h;split at h
 ·cases h
 rename_i q;generalize hX:(if(formF (tmV x).kd).nm=true then nmF (tmV x).nm else frF (tmV x).st)=X at h;split at h
 ·rename_i q2;omega
 rename_i q2;have q2:=hX.trans (Decidable.of_not_not q2);split at h
 ·cases h
 rename_i q3;split at h
 ·cases h
 split at h
 ·cases h
 rename_i q4;refine⟨fmOk_rng ?_,fun e=> ?_,fun e=> ?_,fun e=> ?_,fun e g=> ?_⟩
 ·cases e:fmOk x.kd with
  |true=>rfl
  |false=>exact absurd (.inl (.inl (.inl (.inl e)))) q
 ·rw[show(formF (tmV x).kd).nm=true from e,if_pos rfl]at q2;exact q2
 ·simp_all [formF,tmV,false,if_neg]
 ·have:¬((tmV x).n<(formF (tmV x).kd).lo∨(tmV x).n>(formF (tmV x).kd).hi):=fun z=>q3 ⟨e,z⟩;simp_all [And,tmV,Int.not_lt]
 ·have:¬((tmV x).m<(formF (tmV x).kd).mlo∨(tmV x).m>(formF (tmV x).kd).mhi):=fun z=>q4 ⟨⟨e,z⟩,g⟩;simp_all [And,tmV,Int.not_lt]
theorem evs_ev{l:List Ev}(h:evsE l=0):∀e∈l,evE e=0:=fun e he=>by
 obtain⟨i,hi,rfl⟩:=mem_at he;have:=fE_ok.1 h i hi;unfold ev1 at this;omega
theorem frF_len{l:List ByteArray}(h:frF l=0):l.length≤32:=by
 unfold frF at h;omega
theorem ev_stk{e:Ev}(h:evE e=0)(hk:e.k=e.st.length):e.st.length≤1000:=by
 unfold evE at h;split at h
 ·cases h
 dsimp only at h;split at h
 ·cases h
 rename_i q;generalize hX:(if(formF e.kd).nm=true then nmF e.nm else frF e.st)=X at h;split at h
 ·rename_i q2;exact absurd h q2
 rename_i q2;have q2:=hX.trans (Decidable.of_not_not q2);cases e1:(formF e.kd).nm with
 |false=>
  rw[if_neg (by rw[e1];decide)]at q2;have:=frF_len q2;omega
 |true=>
  cases e2:(formF e.kd).st with
  |false=>
   have:¬(e.k:Int)>0:=fun z=>q (.inr ⟨e2,z⟩);omega
  |true=>
   exfalso;have key:∀k:Int,(formF k).nm=true→(formF k).st=true→False:=by
    intro k h1 h2;unfold formF at h1 h2;split at h1
    ·cases h1
    ·rename_i z;rw[if_neg z]at h2;have:∀n:Fin 13,formsL[n.val]!.nm=true→formsL[n.val]!.st=true→False:=by decide
     exact this ⟨k.toNat,Om⟩ h1 h2
   exact key _ e1 e2
theorem hd_len{ths:List Th}{d:List Dm}{s:List Sn}(h:hdE ths d s=0):ths.length≤64:=by
 unfold hdE at h;omega
structure OrdOk(ids:List Int)(o:List Tm):Prop where
 s:o.Pairwise fun a b=>a.lo≤b.lo
 v:∀x∈o,TmV x
 th:∀x∈o,x.th∈ids∧0≤x.th∧x.th≤1000000000000000
 sr:∀x∈o,0≤x.sr∧x.sr≤1000000000000000
theorem or_lg{ths:List Th}{d:List Dm}{s:List Sn}{l:List Pk}(h:orE ths d s l=0):lgE ths d s l=0:=so_lg (rw_so (tg_rw (by
 unfold orE at h;omega)))
theorem orL_ok{ths:List Th}{d:List Dm}{s:List Sn}{l:List Pk}(hk:∀p∈l,p.es.length=p.k)(hn:evsum l l.length≤24)(h:orE ths d s l=0):OrdOk (ths.map (·.id)) (orL ths d s l):=by
 have hl:=or_lg h;have hp:=lg_pkok hl;refine⟨orL_srt hk hl hn,fun x hx=> ?_,fun x hx=> ?_,fun x hx=> ?_⟩
 ·obtain⟨p,hpm,_,he⟩:=orL_ev x hx;exact ev_ok (evs_ev (hp p hpm).e _ he)
 ·obtain⟨p,hpm,e,_⟩:=orL_ev x hx;rw[e];exact⟨lg_th hl p hpm,(hp p hpm).th⟩
 ·have h2:tmI x∈idsOf l:=by grind [tgX_ids,List.mem_map_of_mem,orL_mem]
  exact ids_sr hk hp _ h2
section
variable{ids:List Int}{o:List Tm}
end
section
variable{ids:List Int}{o:List Tm}
end
end TW
end Go.Proofs.YtaclfjjipnpboaaGreatDoor
section
attribute [local irreducible] Go.Eng.WC Go.Eng.WL Go.Eng.WK Go.Eng.WQ Go.Eng.WX Go.Eng.Yld
namespace Go.Proofs.YtaclfjjipnpboaaGreatDoor
open Go Go.Eng Go.RowKit
namespace TW
theorem or_tg{ths:List Th}{d:List Dm}{s:List Sn}{l:List Pk}(h:orE ths d s l=0):tgE ths d s l=0:=by
 unfold orE at h;split at h
 ·rename_i q;exact absurd h q
 ·rename_i q;exact Decidable.of_not_not q
theorem trace_any(A_ta:Option Addr)(n_ta c_ta:Nat)(ta:List Th)(A_da:Option Addr)(n_da c_da:Nat)(da:List Dm)(A_na:Option Addr)(n_na c_na:Nat)(na:List Sn)(A_pa:Option Addr)(n_pa c_pa:Nat)(pa:List Pk)(w:World)(h_ta:Ls w A_ta n_ta c_ta Th.c 3 ta)(h_da:Ls w A_da n_da c_da Dm.c 2 da)(h_na:Ls w A_na n_na c_na Sn.c 5 na)(h_pa:Ls w A_pa n_pa c_pa Pk.c 4 pa)(g_pa:PksOk w pa)(hk:∀x∈pa,x.k≤1000000)(hl:n_pa≤1000)(ht:n_ta≤1000)(he:evsum pa pa.length≤24)(hsn:n_na≤12):
  Calls Tryz.prog 9 #[.agg #[.slice A_ta n_ta c_ta,.slice A_da n_da c_da,.slice A_na n_na c_na,.slice A_pa n_pa c_pa]] w fun e w'=>∃tv,e= .returned (.tuple #[tv,.int .i64 (trE ta da na pa)])∧Ext w w'∧(trE ta da na pa≠0→tv= .agg #[.int .i64 0,.int .i64 0,.slice none 0 0,.slice none 0 0,.slice none 0 0,.slice none 0 0,.slice none 0 0,.slice none 0 0,.slice none 0 0,.slice none 0 0])∧(trE ta da na pa=0→∃v1 v2 v3 v4 v5 v6 v7 xs,tv= .agg #[.int .i64 0,.int .i64 (tnF (orL ta da na pa)),.slice A_ta n_ta c_ta,v1,v2,v3,v4,v5,v6,v7]∧Hp w w' [row 58 Sc.c 8 v1 (slF (orL ta da na pa) (tnF (orL ta da na pa))),row 119 Sg.c 7 v2 (stOf ta (orL ta da na pa) (tnF (orL ta da na pa))),row 122 Fw.c 7 v3 (flF (orL ta da na pa)),row 131 Sm.c 4 v4 xs,big smR xs,row 125 Sp.c 3 v5 (coF (orL ta da na pa)),row 135 Bk.c 7 v6 (mmF (orL ta da na pa) (tnF (orL ta da na pa))),row 128 Lo.c 4 v7 (lsF (orL ta da na pa))]∧xs.map Sm.q=smFo (orL ta da na pa)):=by
 have H:=(Hp.nil w);have e_ta:=h_ta.len;have z_ta:=h_ta.nle;have e_da:=h_da.len;have z_da:=h_da.nle;have e_na:=h_na.len;have z_na:=h_na.nle;have e_pa:=h_pa.len;have z_pa:=h_pa.nle;have hkl:∀p∈pa,p.es.length=p.k:=fun p hp=>(g_pa p hp).l.len;refine Wb Tryz.func9 ?_;refine go ?_;refine bx H fun g2 z H=> ?_;refine al H ti48 fun g4 z H=> ?_;refine go ?_;refine c3 Fh (order_any _ _ _ _ _ _ _ _ _ _ _ _ _ _ _ _ _ (h_ta.ext H.ext) (h_da.ext H.ext) (h_na.ext H.ext) (h_pa.ext H.ext) (g_pa.ext H.ext) hk Om Om he Om) ?_;rintro _ z ⟨v1,rfl,ow,x⟩;have H:=H.newRow ow x;refine⟨_,rfl,?_⟩;refine go ?_;refine Cd (fun p10=> ?_) fun p10=> ?_
 ·refine go ?_;refine st H 1 ti48 fun z H=> ?_;refine go ?_;refine WK.ret [_,_] rfl ⟨⟨_,rfl,run_loadVar_blk u48 rfl ti48 (H.b 1)⟩,rfl,trivial⟩ ?_;have e1:trE ta da na pa=orE ta da na pa:=if_pos p10;exact⟨_,(by rw[e1];rfl),H.ext,fun _=>rfl,fun q=>absurd q (by rw[e1];exact p10)⟩
 ·obtain⟨A15,n16,c17,rfl,_,_,_⟩:=H.op 0;have hor:orE ta da na pa=0:=Decidable.of_not_not (fun q=>q p10);obtain⟨O,hO⟩:∃q,q=orL ta da na pa:=⟨_,rfl⟩;rw[←hO]at H;have e_O:=(H.l 0).len;refine go ?_;refine sb [21,6,1,2,4,19,20] ?_;refine WC.loopS 2 (fun mz Ed W'=>∃j:Nat,mz=n16-j∧Ed=[(21,.int .i64 ((j:Nat):Int)),(6,.int .i64 (tnN O j))]∧Hp w W' (_::_::_::[])∧(j≤n16)) _ ⟨0,rfl,rfl,(H.pick [0,0,0]),(Nat.zero_le _)⟩ ?_;rintro _ _ z ⟨j,rfl,rfl,H,jl⟩;have tr:=tnN_rng O j;have cr:=clk_rng O[j]!.lo;refine go ?_;refine Cd (fun p20=> ?_) fun p20=> ?_
  ·have b23:j<n16:=Om;refine go ?_;refine al H ti107 fun g24 z H=> ?_;refine st H 0 ti107 fun z H=> ?_;refine go ?_;refine c1 H Fh (clock_any O[j]! _) fun z H=> ?_;refine go ?_;exact Rs [(21,_),(6,_)] Sx ⟨(j+1),rfl,rfl,(H.pick [1,1,1]),Om⟩
  ·have htn:tnF O=tnN O j:=by unfold tnF;rw[show O.length=j from Om]
   refine go ?_;refine Cd (fun p28=> ?_) fun p28=> ?_
   ·refine go ?_;refine st H 1 ti48 fun z H=> ?_;refine G2 ?_;refine sb [2,3] ?_;refine go ?_;refine WK.ret [_,_] rfl ⟨⟨_,rfl,run_loadVar_blk u48 rfl ti48 (H.b 1)⟩,rfl,trivial⟩ ?_;have e1:trE ta da na pa=2:=(if_neg (not_not_intro hor)).trans (if_pos (by rw[←hO,htn];exact p28));exact⟨_,(by rw[e1];rfl),H.ext,fun _=>rfl,fun q=>absurd q (by rw[e1];decide)⟩
   ·have hOK:OrdOk (ta.map (·.id)) O:=by rw[hO];exact orL_ok hkl he hor
    have hpa2:=hpa_of (tnN O j) hOK.s;have ht2:=hd_len (of_zero (lg_pk (or_lg hor)).1).1;have hso:=rw_so (tg_rw (or_tg hor));have hsr:∀x∈O,0≤x.sr∧x.sr≤2000000000000000:=fun x hx=>by have:=hOK.sr x hx;omega
    have hOl:O.length≤24:=by rw[hO];refine Nat.le_trans orL_mem.2 ?_;rw[tgX_len hkl];show(idsN pa pa.length).length≤24;rw[idsN_len];exact he
    have hst:∀x∈O,Ls w x.A x.k x.c_ sc 1 x.st∧x.st.length≤1000:=fun x hx=>by
     rw[hO]at hx;obtain⟨p,hp,_,he⟩:=orL_ev x hx;exact⟨(g_pa p hp).e _ he,ev_stk (evs_ev (lg_pkok (or_lg hor) p hp).e _ he) ((g_pa p hp).e _ he).len.symm⟩
    refine go ?_;refine c2 H Fh (slice_any _ _ _ _ _ _ (H.l 0) Om hsr hpa2) fun v32 z H=> ?_;refine go ?_;refine c2 H Fh (stOf_any _ _ _ _ _ _ _ _ _ _ (h_ta.ext H.ext) (H.l 1) Om Om hsr) fun v34 z H=> ?_;refine go ?_;refine c2 H Fh (flow_any _ _ _ _ _ (H.l 2) Om) fun v36 z H=> ?_;refine go ?_;refine c3 Fh (sample_any _ _ _ _ _ (H.l 3) (fun x hx=>(hst x hx).1.ext H.ext) Om (fun x hx=>(hst x hx).2)) ?_;rintro _ z ⟨vs,xs,rfl,K,hxs⟩;have H:=H.join K;refine⟨_,rfl,?_⟩;refine go ?_;refine c2 H Fh (counter_any _ _ _ _ _ (H.l 5) Om) fun v40 z H=> ?_;refine go ?_;refine c2 H Fh (mem_any _ _ _ _ _ _ (H.l 6) Om) fun v42 z H=> ?_;refine go ?_;refine c2 H Fh (losses_any _ _ _ _ _ (H.l 7) Om hsr) fun v44 z H=> ?_;obtain⟨A46,n47,c48,rfl,_,_,_⟩:=H.op 7;obtain⟨A49,n50,c51,rfl,_,_,_⟩:=H.op 6;obtain⟨A52,n53,c54,rfl,_,_,_⟩:=H.op 5;obtain⟨A55,n56,c57,rfl,_,_,_⟩:=H.op 3;obtain⟨A58,n59,c60,rfl,_,_,_⟩:=H.op 2;obtain⟨A61,n62,c63,rfl,_,_,_⟩:=H.op 1;obtain⟨A64,n65,c66,rfl,_,_,_⟩:=H.op 0;refine go ?_;refine st H 9 ti48 fun z H=> ?_;refine go ?_;refine WK.ret [_,_] rfl ⟨⟨_,rfl,run_loadVar_blk u48 rfl ti48 (H.b 9)⟩,rfl,trivial⟩ ?_;have e1:trE ta da na pa=0:=(if_neg (not_not_intro hor)).trans (if_neg (by rw[←hO,htn];exact p28));exact⟨_,(by rw[e1];rfl),H.ext,fun q=>absurd e1 q,fun _=>⟨_,_,_,_,_,_,_,xs,(by rw[←hO,htn]),(by rw[←hO,htn];exact(H.pick [7,6,5,3,3,2,1,0])),(by rw[←hO];exact hxs)⟩⟩

def bA(g:Nat):Bool→Value
 |true=>.pointer (some ⟨g,0,none⟩)
 |false=>.pointer none
theorem cc_any(g:Nat)(q:Bool)(v:Value)(W:World)(R:List Res)(w:World)(H:Hp W w (box g 149 [bA g q,v]::R)):
  Calls Tryz.prog 146 #[.pointer (some ⟨g,0,none⟩)] w fun e w'=>e= .returned (resVal [])∧Hp W w' (box g 149 [bA g true,v]::R):=by
 refine Wb Tryz.func146 ?_;cases q with
 |false=>
  refine G5 ?_;refine yy (Y.eqlPN rfl u146 rfl) ?_;refine go ?_;refine WC.condT rfl ?_;refine G3 ?_;refine yy (cvU (H.b 0) u146 u309 ti149) ?_;refine yy (nesc Tryz.func176 (by kernel_rfl) (by kernel_rfl) (by kernel_rfl) (by kernel_rfl)) ?_;refine yy (cvP (H.b 0) u309 u146 ti149 (by kernel_rfl)) ?_;refine go ?_;refine st H 0 ti146 fun z H=> ?_;refine go ?_;refine En ?_;exact⟨rfl,H⟩
 |true=>
  refine G5 ?_;refine yy (Y.eqlPS rfl u146 rfl) ?_;refine go ?_;refine WC.condF rfl ?_;refine G6 ?_;refine yy (neqS u146 ti149) ?_;refine go ?_;refine WC.condF rfl ?_;refine go ?_;refine En ?_;exact⟨rfl,H⟩
theorem wb_any(g:Nat)(q:Bool)(v:Value)(bs:List UInt8)(i:Int)(c:UInt8)(W:World)(R:List Res)(w:World)(H:Hp W w (box g 149 [bA g q,v]::row 5 yc 1 v bs::R))(hc:i=((c.toNat:Nat):Int))(hm:bs.length≤900000):
  Calls Tryz.prog 103 #[.pointer (some ⟨g,0,none⟩),.int .u8 i] w fun e w'=>∃v',e= .returned .nilIface∧Hp W w' (box g 149 [bA g true,v']::row 5 yc 1 v' (bs++[c])::R):=by
 subst hc;refine Wb Tryz.func103 ?_;refine go ?_;refine c3 Fh (cc_any _ _ _ _ _ _ (H.front [0])) ?_;rintro _ z ⟨rfl,H⟩;refine⟨_,rfl,?_⟩;refine go ?_;refine bs1 H u147 ti5 fun g7 z H=> ?_;refine ap H 2 0 rfl [c] u147 ti5 rfl yc_one (by simp only[List.length_cons,List.length_nil];omega) fun v9 z H=> ?_;obtain⟨A10,n11,c12,rfl,_,_,_⟩:=H.op 2;refine go ?_;refine st H 1 ti147 fun z H=> ?_;refine go ?_;refine Rt [_] ?_;exact⟨_,rfl,(H.drop [0])⟩
theorem ws_any(g:Nat)(q:Bool)(v:Value)(bs:List UInt8)(x:ByteArray)(W:World)(R:List Res)(w:World)(H:Hp W w (box g 149 [bA g q,v]::row 5 yc 1 v bs::R))(hb:bs≠[])(hm:bs.length+x.size≤900000):
  Calls Tryz.prog 101 #[.pointer (some ⟨g,0,none⟩),.string x] w fun e w'=>∃v',e= .returned (.tuple #[.int .i64 (x.size:Int),.nilIface])∧Hp W w' (box g 149 [bA g true,v']::row 5 yc 1 v' (bs++x.data.toList)::R):=by
 refine Wb Tryz.func101 ?_;refine G4 ?_;refine sb [0,1] ?_;refine go ?_;refine c3 Fh (cc_any _ _ _ _ _ _ (H.front [0])) ?_;rintro _ z ⟨rfl,H⟩;refine⟨_,rfl,?_⟩;refine go ?_;refine aps (s:=x) H 1 rfl u147 u9 ti5 hb Om fun v7 z H=> ?_;obtain⟨A8,n9,c10,rfl,_,_,_⟩:=H.op 1;refine go ?_;refine st H 0 ti147 fun z H=> ?_;refine G3 ?_;refine yy (Y.lenStr rfl rfl rfl u9 rfl) ?_;refine go ?_;refine Rt [_,_] ?_;exact⟨_,rfl,H⟩
theorem opS{W w:World}{L:List Res}{e:TypeId}{v:Value}{l:List UInt8}(H:Hp W w L)(k:Nat)(hl:l≠[])(hk:L[k]? =some (row e yc 1 v l):=by exact rfl):∃g c,v= .slice (some ⟨g,0,none⟩) l.length c∧0<l.length∧l.length≤c:=by
 have ow:OwnL w 0 e yc 1 v l:=H.get hk;rcases ow.2 with⟨_,h⟩|⟨g,c,_,h,_,_,h3,_⟩
 ·exact absurd (List.eq_nil_of_length_eq_zero h) hl
 ·exact⟨g,c,h,List.length_pos_iff.2 hl,h3⟩
theorem bs_any(g:Nat)(q:Bool)(v:Value)(bs:List UInt8)(W:World)(R:List Res)(w:World)(H:Hp W w (box g 149 [bA g q,v]::row 5 yc 1 v bs::R))(hb:bs≠[]):
  Calls Tryz.prog 55 #[.pointer (some ⟨g,0,none⟩)] w fun e w'=>e= .returned (.string ⟨bs.toArray⟩)∧Hp W w' R:=by
 refine Wb Tryz.func55 ?_;obtain⟨g6,c7,rfl,hc_c7⟩:=opS H 1 hb;refine go ?_;refine WC.regionT 10 (by kernel_rfl) (by kernel_rfl) ?_;refine G4 ?_;refine yq (usd (cap:=c7) (by have:=hc_c7;omega)) ?_;refine go ?_;refine WQ.tail (fun z x=> ?_);have H:=H.ex x;refine ust H 1 rfl u233 (by kernel_rfl) hb fun z H=> ?_;refine go ?_;refine Rt [_] ?_;exact⟨rfl,(H.drop [0])⟩
end TW
end Go.Proofs.YtaclfjjipnpboaaGreatDoor
end
