/- Part 20 of the proof. Conditions: what each theorem states. -/
import Derived.Test.YtaclfjjipnpboaaGreatDoorP01
import Derived.Test.YtaclfjjipnpboaaGreatDoorP19
import Derived.Test.YtaclfjjipnpboaaGreatDoorP04
import Derived.Test.YtaclfjjipnpboaaGreatDoorP15
import Derived.Test.YtaclfjjipnpboaaGreatDoorP14
set_option linter.all false
set_option maxHeartbeats 4000000
set_option maxRecDepth 4000
namespace Go.Proofs.YtaclfjjipnpboaaGreatDoor
open Go Go.Eng Go.RowKit
namespace TW
def idK(t:List Th)(k:Nat):List Int:=(t.take k).map (·.id)
def nmK(t:List Th)(k:Nat):List (Int×Value):=(t.take k).map fun t=>(t.id,.string t.nm)
def evZ(p:List Pk)(n k:Nat):List (Int×Ev):=(evl p).take (k-n)
section
variable{t:List Th}{p:List Pk}{k:Nat}
theorem pkJ_evl:p.flatMap pkJ=(evl p).map fun y=>wrJ y.1 y.2:=by
 unfold evl pkJ;rw[List.map_flatMap]
 congr 1
 funext x;rw[List.map_map];rfl
theorem kid_len{y:J}(h:Sj y (allJ t p)):y.kids.length=t.length+(evl p).length:=by
 rw[h.len];show(t.map mtJ++p.flatMap pkJ).length=_;rw[List.length_append,List.length_map,pkJ_evl,List.length_map]
theorem kid_lo{y:J}(h:Sj y (allJ t p))(hk:k<t.length):Sj y.kids[k]! (mtJ t[k]!):=by
 have s:=h.kid (i:=k) (by rw[kid_len h];omega);rwa[show(allJ t p).kids[k]! =mtJ t[k]! from by
  show(t.map mtJ++p.flatMap pkJ)[k]! =_;rw[bang_app_left (by rw[List.length_map];exact hk),map_b mtJ hk]]at s
theorem kid_hi{y:J}(h:Sj y (allJ t p))(hk:t.length≤k)(hl:k<y.kids.length):k-t.length<(evl p).length∧Sj y.kids[k]! (wrJ (evl p)[k-t.length]!.1 (evl p)[k-t.length]!.2):=by
 have e:=kid_len h;have lt:k-t.length<(evl p).length:=Om;have s:=h.kid (i:=k) hl;refine⟨lt,?_⟩;rwa[show(allJ t p).kids[k]! =wrJ (evl p)[k-t.length]!.1 (evl p)[k-t.length]!.2 from by
  show(t.map mtJ++p.flatMap pkJ)[k]! =_;rw[bang_app_right (by rw[List.length_map];exact hk),List.length_map,pkJ_evl,map_b _ lt]]at s
theorem evl_mem{y:Int×Ev}(h:y∈evl p):∃q∈p,y.1=q.th∧y.2∈q.es:=by
 obtain⟨q,hq,hy⟩:=List.mem_flatMap.1 h;obtain⟨e,he,rfl⟩:=List.mem_map.1 hy;exact⟨q,hq,rfl,he⟩
theorem evl_len(hk:∀q∈p,q.es.length=q.k):(evl p).length=evsum p p.length:=by
 have h:∀j,j≤p.length→(evl (p.take j)).length=evsum p j:=by
  intro j
  induction j with
  |zero=>exact fun _=>rfl
  |succ j ih=>intro hj;rw[evl_s hj,List.length_append,List.length_map,ih Om,hk _ (mem_b hj)];rfl
 have:=h p.length Nl;rwa[List.take_length]at this
theorem idK_s(hk:k<t.length):idK t (k+1)=idK t k++[t[k]!.id]:=by unfold idK;rw[take_bang hk,List.map_append];rfl
theorem nmK_s(hk:k<t.length):nmK t (k+1)=nmK t k++[(t[k]!.id,.string t[k]!.nm)]:=by unfold nmK;rw[take_bang hk,List.map_append];rfl
theorem idK_hi(hk:t.length≤k):idK t k=t.map (·.id):=by unfold idK;rw[List.take_of_length_le hk]
theorem idK_up(hk:t.length≤k):idK t (k+1)=idK t k:=by rw[idK_hi hk,idK_hi Om]
theorem nmK_up(hk:t.length≤k):nmK t (k+1)=nmK t k:=by unfold nmK;rw[List.take_of_length_le hk,List.take_of_length_le Om]
theorem evZ_lo(hk:k<t.length):evZ p t.length (k+1)=evZ p t.length k:=by unfold evZ;rw[show k+1-t.length=0 from Om,show k-t.length=0 from Om]
theorem evZ_s(hk:t.length≤k)(hl:k-t.length<(evl p).length):imF (evZ p t.length (k+1))=im1 (imF (evZ p t.length k)) ((evl p)[k-t.length]!.1,(evl p)[k-t.length]!.2):=by
 unfold evZ;rw[show k+1-t.length=k-t.length+1 from Om,take_bang hl,imF_s]
theorem id_new(hn:(t.map (·.id)).Nodup)(hk:k<t.length):t[k]!.id∉idK t k:=by
 intro h;unfold idK at h;obtain⟨x,hx,e⟩:=List.mem_map.1 h;obtain⟨i,hi,rfl⟩:=List.mem_iff_getElem.1 hx;rw[List.length_take]at hi;have hi':i<t.length:=Om;have e2:(t.map (·.id))[i]'(by rw[List.length_map];exact hi')=(t.map (·.id))[k]'(by rw[List.length_map];exact hk):=by
  rw[List.getElem_map,List.getElem_map,←bang_eq hk,←e,List.getElem_take]
 have:=(List.getElem_inj hn).1 e2;omega
theorem nm_new(hn:(t.map (·.id)).Nodup)(hk:k<t.length):mget (nmK t k) t[k]!.id=none:=by
 cases h:mget (nmK t k) t[k]!.id with
 |none=>rfl
 |some v=>
  have:∀(m:List (Int×Value)) i v,mget m i=some v→i∈m.map (·.1):=by
   intro m
   induction m with
   |nil=>intro i v h;cases h
   |cons x r ih=>
    intro i v h;have h:(if i=x.1 then some x.2 else mget r i)=some v:=h;split at h
    ·rename_i q;rw[q];exact List.mem_cons_self
    ·exact List.mem_cons_of_mem _ (ih i v h)
  have h2:=this _ _ _ h;unfold nmK at h2;rw[List.map_map]at h2;exact absurd h2 (id_new hn hk)
theorem nmK_m(hn:(t.map (·.id)).Nodup)(hk:k<t.length):mset (nmK t k) t[k]!.id (.string t[k]!.nm)=nmK t (k+1):=by rw[mset_none _ _ _ (nm_new hn hk),nmK_s hk]
theorem nmK_get(hn:(t.map (·.id)).Nodup):∀j,j≤t.length→∀k,k<j→mget (nmK t j) t[k]!.id=some (.string t[k]!.nm)
 |0,_,k,h=>absurd h (Nat.not_lt_zero k)
 |j+1,hj,k,h=>by
  rw[←nmK_m hn (show j<t.length from hj),mget_mset];split
  ·rename_i q;have e2:(t.map (·.id))[k]'(by rw[List.length_map];omega)=(t.map (·.id))[j]'(by rw[List.length_map];omega):=by
    rw[List.getElem_map,List.getElem_map,←bang_eq (show k<t.length by omega),←bang_eq (show j<t.length from hj)];exact q
   have:=(List.getElem_inj hn).1 e2;rw[this]
  ·rename_i q;exact nmK_get hn j Om k (by
    rcases Nat.lt_succ_iff_lt_or_eq.1 h with h|h
    ·exact h
    ·exact absurd (by rw[h]) q)
theorem imF_len:∀(L:List (Int×Ev)) (m:List (Int×List Ev)) (B:Nat),(∀y∈m,y.2.length≤B)→∀y∈L.foldl im1 m,y.2.length≤B+L.length
 |[],m,B,h,y,hy=>h y hy
 |z::L,m,B,h,y,hy=>by
  have:=imF_len L (im1 m z) (B+1) (fun x hx=>by
   rcases xset_mem hx with q|rfl
   ·exact Nat.le_succ_of_le (h x q)
   ·show((xget m z.1).getD []++[eQ z.2]).length≤B+1;rw[List.length_append];cases e:xget m z.1 with
    |none=>show 0+1≤B+1;omega
    |some v=>have:=h _ (xget_mem e);show v.length+1≤B+1;simpa using this) y hy
  show y.2.length≤B+(L.length+1);omega
theorem ge_len{gl:List Ge}{L:List (Int×Ev)}(h:gl.map geP=imF L):∀x∈gl,x.l.length≤L.length:=fun x hx=>by
 have h2:geP x∈imF L:=by rw[←h];exact List.mem_map_of_mem hx
 have:=imF_len L [] 0 (fun y hy=>by cases hy) _ h2;rw[Nat.zero_add,show(geP x).2.length=x.l.length from List.length_map _]at this;exact this
end
theorem lg_nmF{ths:List Th}{d:List Dm}{s:List Sn}{l:List Pk}(h:lgE ths d s l=0):∀t∈ths,nmF t.nm=0∧t.nm≠⟨#[]⟩:=by
 have h:=lg_hd h;unfold hdE at h;split at h
 ·cases h
 split at h
 ·cases h
 split at h
 ·rename_i q;exact absurd h q
 rename_i q;have q:=Decidable.of_not_not q;intro t ht;obtain⟨i,hi,rfl⟩:=List.mem_iff_getElem.1 ht;have:=fE_ok.1 q i hi;unfold th1 at this;rw[bang_eq hi]at this;split at this
 ·rename_i r;exact absurd this r
 rename_i r;have r:=Decidable.of_not_not r;unfold thE at r;split at r
 ·cases r
 ·refine⟨r,fun e=> ?_⟩;unfold nmF at r;rw[if_pos (.inl e)]at r;cases r
theorem lg_dm{ths:List Th}{d:List Dm}{s:List Sn}{l:List Pk}(h:lgE ths d s l=0)(hd:d.length≤1):d=[⟨0,0⟩]∧∀t∈ths,t.dom=0:=by
 have h:=lg_hd h;unfold hdE at h;split at h
 ·cases h
 split at h
 ·cases h
 split at h
 ·rename_i q;exact absurd h q
 split at h
 ·rename_i q;exact absurd h q
 rename_i q;have q:=Decidable.of_not_not q;have e:d=[⟨0,0⟩]:=by
  unfold ckE at q;split at q
  ·cases q
  split at q
  ·cases q
  split at q
  ·cases q
  rename_i h1 _ h2;cases d with
  |nil=>exact absurd rfl h1
  |cons x r=>
   have hr:r=[]:=List.eq_nil_of_length_eq_zero (by have hd:r.length+1≤1:=hd;omega);subst hr;have h3:(x.id==0&&x.ppm==0)=true:=(Bool.not_eq_false _).mp h2;rw[Bool.and_eq_true,beq_iff_eq,beq_iff_eq]at h3;cases x;simp only at h3;rw[h3.1,h3.2]
 refine⟨e,fun t ht=> ?_⟩;obtain⟨i,hi,rfl⟩:=List.mem_iff_getElem.1 ht;have:=fE_ok.1 h i hi;rw[bang_eq hi]at this;split at this
 ·cases this
 ·rename_i r;have r:=Decidable.of_not_not r;rw[e]at r;unfold ixP at r;split at r
  ·rename_i w;have w:List.findIdx (fun x:Dm=>x.id==ths[i].dom) [⟨0,0⟩]<1:=w;have h2:=List.findIdx_getElem (w:=w);have h3:List.findIdx (fun x:Dm=>x.id==ths[i].dom) [⟨0,0⟩]=0:=Om;simp only[h3]at h2;have h2:((0:Int)==ths[i].dom)=true:=h2;rw[beq_iff_eq]at h2;exact h2.symm
  ·exact absurd r Dc
theorem lg_in{ths:List Th}{d:List Dm}{s:List Sn}{l:List Pk}(h:lgE ths d s l=0):∀y∈evl l,y.1∈ths.map (·.id):=fun y hy=>by
 obtain⟨q,hq,e,_⟩:=evl_mem hy;obtain⟨j,hj,rfl⟩:=List.mem_iff_getElem.1 hq;have:=(lg_pk1 h hj).1;rw[e,←bang_eq hj];exact List.idxOf_lt_length_iff.1 (by rw[List.length_map];exact this)
def th0(t:Th):Th:=⟨t.id,t.nm,0⟩
theorem th0_map{ths:List Th}(h:∀t∈ths,t.dom=0):ths.map th0=ths:=by
 conv=>rhs;rw[←List.map_id ths]
 refine List.map_congr_left fun t ht=> ?_;show(⟨t.id,t.nm,0⟩:Th)=t;rw[←h t ht]
theorem imP_s{t:List Th}{p:List Pk}{j:Nat}(h:j<t.length):imP (t.take (j+1)) p=imP (t.take j) p++imO t[j]!.id (imE (evl p) t[j]!.id):=by
 unfold imP;rw[take_bang h,List.flatMap_append]
 congr 1
 exact List.append_nil _
theorem imO_0{x:Int}{l:List Ev}{n:Nat}(h:l.length=n)(h0:n=0):imO x (l.map eQ)=[]:=by
 rw[List.eq_nil_of_length_eq_zero (h.trans h0)];rfl
theorem imO_1{x:Int}{l:List Ev}{n:Nat}(A:Option Addr)(h:l.length=n)(h0:0<n):(([⟨x,0,0,A,n,n,l⟩]:List Pk).map Pk.pp).map eR=imO x (l.map eQ):=by
 unfold imO;rw[if_neg (fun e=>by have:=congrArg List.length e;rw[List.length_map]at this;simp at this;rw[this]at h;simp at h;omega)];rfl
def PkR(gl:List Ge)(qs:List Pk):Prop:=∀q∈qs,∃y∈gl,q.A=y.A∧q.k=y.n∧q.c_=y.n∧q.es=y.l
theorem PkR.put{gl:List Ge}{qs:List Pk}{q:Pk}(h:PkR gl qs)(hq:∃y∈gl,q.A=y.A∧q.k=y.n∧q.c_=y.n∧q.es=y.l):PkR gl (qs++[q]):=fun x hx=>(List.mem_append.1 hx).elim (h x) fun e=>by rw[List.mem_singleton.1 e];exact hq
theorem ge_look{gl:List Ge}{w:World}(hb:(big geF gl).holds w)(x:Int):∃A n c l,mval (gl.map geM) x (.slice none 0 0)= .slice A n c∧l.length=n∧n≤c∧l.map eQ=(xget (gl.map geP) x).getD []∧(0<n→∃y∈gl,A=y.A∧n=y.n∧l=y.l):=by
 cases h:mget (gl.map geM) x with
 |none=>exact⟨none,0,0,[],by unfold mval;rw[h];rfl,rfl,Nat.le_refl _,by rw[(ge_none h).1];rfl,fun q=>absurd q (Nat.lt_irrefl 0)⟩
 |some v=>
  obtain⟨i,hi,_,rfl,ga,_⟩:=ge_some h;have hm:=mem_b hi;have h1:OwnL w 0 _ Ev.c 6 (.slice gl[i]!.A gl[i]!.n gl[i]!.c) gl[i]!.l:=hb.1 (row _ Ev.c 6 (.slice gl[i]!.A gl[i]!.n gl[i]!.c) gl[i]!.l) (List.mem_flatMap.2 ⟨_,hm,List.mem_cons_self⟩);have h2:=OwnL.ls h1 (fun _=>rfl) Dc;exact⟨_,_,_,gl[i]!.l,by unfold mval;rw[h];rfl,h2.len,h2.le,by rw[ga];rfl,fun _=>⟨_,hm,rfl,rfl,rfl⟩⟩
theorem pks_ok{gl:List Ge}{qs:List Pk}{w:World}(hb:(big geF gl).holds w)(h:PkR gl qs):PksOk w qs:=fun q hq=>by
 obtain⟨y,hy,e1,e2,e3,e4⟩:=h q hq;have h1:OwnL w 0 _ Ev.c 6 (.slice y.A y.n y.c) y.l:=hb.1 (row _ Ev.c 6 (.slice y.A y.n y.c) y.l) (List.mem_flatMap.2 ⟨_,hy,List.mem_cons_self⟩);have h2:=OwnL.ls h1 (fun _=>rfl) Dc;have h3:=hb.1 (big stR y.l) (List.mem_flatMap.2 ⟨_,hy,List.mem_cons_of_mem _ List.mem_cons_self⟩);refine⟨?_,fun e he=> ?_⟩
 ·rw[e1,e2,e3,e4];exact⟨h2.len,Nat.le_refl _,Nat.le_trans h2.le h2.max,h2.rd⟩
 ·rw[e4]at he;have h4:OwnL w 0 _ sc 1 (.slice e.A e.k e.c_) e.st:=h3.1 (row _ sc 1 (.slice e.A e.k e.c_) e.st) (List.mem_flatMap.2 ⟨_,he,List.mem_cons_self⟩);exact OwnL.ls h4 (fun _=>rfl) Dc
theorem idK_len(t:List Th)(k:Nat):(idK t k).length≤t.length:=by unfold idK;rw[List.length_map,List.length_take];omega
theorem evZ_len(p:List Pk)(n k:Nat):(evZ p n k).length≤(evl p).length:=by unfold evZ;rw[List.length_take];omega
theorem evZ_all{p:List Pk}{n k:Nat}(h:k=n+(evl p).length):evZ p n k=evl p:=by unfold evZ;rw[List.take_of_length_le Om]
theorem nmK_all{t:List Th}{k:Nat}(h:t.length≤k):nmK t k=nmK t t.length:=by unfold nmK;rw[List.take_of_length_le h,List.take_length]
theorem im_same{t:List Th}{d:List Dm}{s:List Sn}{l m:List Pk}(h:lgE t d s l=0)(hl:LgL l)(h0:∀p∈l,p.ls≤0)(hm:(m.map Pk.pp).map eR=imP t l)(hk:∀q∈m,q.es.length=q.k):
  m.map eP=l.map eP∧ofE t d s m=0∧(lgParts t m).map eR=(l.map Pk.pp).map eR∧m.length=l.length∧evsum m m.length=evsum l l.length∧∀q∈m,q.k≤1000:=by
 have hlk:∀p∈l,p.es.length=p.k:=fun p hp=>(hl p hp).1;obtain⟨i1,i2⟩:=im_parts h hlk h0 (fun p hp=>(hl p hp).2);have e2:=eP_of hk hlk (hm.trans i2);have e3:m.length=l.length:=by have:=congrArg List.length e2;simpa using this
 refine⟨e2,?_,?_,e3,?_,?_⟩
 ·rw[←ofE_e m,e2,ofE_e];exact(lg_pk h).1
 ·rw[←lgParts_e,e2,lgParts_e,i1,i2]
 ·rw[←evsum_e m,e2,evsum_e,e3]
 ·intro q hq;have:eP q∈l.map eP:=e2▸List.mem_map_of_mem hq;obtain⟨p,hp,e⟩:=List.mem_map.1 this;have h1:=(lg_pkok h p hp).k;have e4:(eP p).k=(eP q).k:=congrArg Pk.k e;have e4:p.k=q.k:=e4;omega
end TW
end Go.Proofs.YtaclfjjipnpboaaGreatDoor
section
attribute [local irreducible] Go.Eng.WC Go.Eng.WL Go.Eng.WK Go.Eng.WQ Go.Eng.WX Go.Eng.Yld
namespace Go.Proofs.YtaclfjjipnpboaaGreatDoor
open Go Go.Eng Go.RowKit
namespace TW
theorem import_any(ta:List Th)(da:List Dm)(na:List Sn)(pa:List Pk)(w:World)(hT:Tabs w)(vd:Vd 16 (allJ ta pa))(hz:(pr (allJ ta pa)).length≤65536)(h0:lgE ta da na pa=0)(hd1:da.length≤1)(hna:na=[])(hls:∀x∈pa,x.ls≤0)(hes:LgL pa)(hta:ta.length≤10)(he:evsum pa pa.length≤24):
  Calls Tryz.prog 7 #[.string ⟨(pr (allJ ta pa)).toArray⟩] w fun e w'=>∃A1 n1 c1 A2 n2 c2 A4 n4 c4 ps,e= .returned (.tuple #[.agg #[.slice A1 n1 c1,.slice A2 n2 c2,.slice none 0 0,.slice A4 n4 c4],.int .i64 0])∧Ext w w'∧Ls w' A1 n1 c1 Th.c 3 ta∧Ls w' A2 n2 c2 Dm.c 2 [⟨0,0⟩]∧Ls w' A4 n4 c4 Pk.c 4 ps∧PksOk w' ps∧(ps.map Pk.pp).map eR=(pa.map Pk.pp).map eR:=by
 have H:=(Hp.nil w);subst hna;obtain⟨rfl,hdm⟩:=lg_dm h0 hd1;have hth:=lg_ths h0;have hnm:=lg_nmF h0;have hnd:=hd_nodup (of_zero (lg_pk h0).1).1;have hin:=lg_in h0;have hel:=evl_len (fun p hp=>(hes p hp).1);refine calls_of_WCm (m:=3) (args:=[.string ⟨(pr (allJ ta pa)).toArray⟩]) Tryz.func7 rfl rfl (ble rfl) ?_;refine go ?_;refine al H ti29 fun g2 z H=> ?_;refine go ?_;refine c3 Fh (Parse_any (allJ ta pa) _ _ _ (H.front []) hT vd hz) ?_;rintro _ z ⟨yj,rfl,hyj,H⟩;refine⟨_,rfl,?_⟩;refine go ?_;refine al H ti66 fun g6 z H=> ?_;refine st H 0 ti66 fun z H=> ?_;obtain⟨w1,rfl⟩:∃q,q=z:=⟨_,rfl⟩;have gj:=Hp_gm H 1;have B4:=H.b 0;have H0:=H;have e_yk:=gj.b.len;have z_yk:=gj.b.nle;have oj:yj.op=5:=hyj.op;have H:=Hp.nil w1;refine G6 ?_;refine yy (Yld.cast (Y.neq rfl rfl rfl) (vb rfl)) ?_;refine go ?_;refine WC.condF rfl ?_;refine G6 ?_;refine yy (Yld.cast (Y.neq rfl rfl rfl) (vb (by rw[oj];first|done|rfl))) ?_;refine go ?_;refine WC.condF rfl ?_;refine G3 ?_;refine mm H fun g13 z H=> ?_;refine mm H fun g15 z H=> ?_;refine go ?_;refine bx H fun g17 z H=> ?_;have H:=H.nilRow 3 ic 1;have H:=H.bigNil geF;refine go ?_;refine sb [39,2,7,37,38] ?_;refine WC.loopS 1 (fun mz Ed W'=>∃k:Nat,∃v:Value,∃gl:List Ge,mz=yj.m-k∧Ed=[(39,.int .i64 ((k:Nat):Int))]∧Hp w1 W' (box g17 83 [v,.map (some g13),.map (some g15)]::row 3 ic 1 v (idK ta k)::mpi g13 (nmK ta k)::mpi g15 (gl.map geM)::big geF gl::[])∧(k≤yj.m)∧(gl.map geP=imF (evZ pa ta.length k))) _ ⟨0,_,[],rfl,rfl,(H.pick [2,1,2,1,0]),(Nat.zero_le _),(by unfold evZ;rw[Nat.zero_sub];rfl)⟩ ?_;rintro _ _ z ⟨k,v,gl,rfl,rfl,H,kl,hg⟩;refine go ?_;refine Cd (fun p25=> ?_) fun p25=> ?_
 ·have b28:k<yj.m:=Om;refine G5 ?_;refine yy (Y.indexLs k (gj.ext H.ext).b rfl u64 ti66 rfl rfl rfl b28) ?_;refine yy (Y.loadS (cs:=[_,_,_,_,_]) rfl u66 rfl ti66 rfl (Ls.part_eq (gj.ext H.ext).b b28 rfl)) ?_;refine al H ti66 fun g29 z H=> ?_;refine st H 0 ti66 fun z H=> ?_;have ekl:=kid_len hyj;refine G2 ?_;rcases Nat.lt_or_ge k ta.length with hk|hk
  ·have hu:=kid_lo hyj hk;refine go ?_;refine c3 Fh (obM_any _ _ _ _ (idK ta k) (nmK ta k) yj.kids[k]! ta[k]! _ _ _ (H.front [1,1,1]) (gj.kid (show k<yj.kids.length from Om)) hu (hth _ (mem_b hk)).1.1 (hnm _ (mem_b hk)).1 (nm_new hnd hk) (Nat.le_trans (idK_len ta k) Om)) ?_;rintro _ z ⟨v32,rfl,H⟩;refine⟨_,rfl,?_⟩;refine G4 ?_;refine yy (Yld.cast (Y.neq rfl rfl rfl) (vb rfl)) ?_;refine go ?_;refine WC.condF rfl ?_;refine go ?_;exact Rs [(39,_)] Sx ⟨(k+1),v32,gl,rfl,rfl,(by rw[idK_s hk,←addK_no (id_new hnd hk),←nmK_m hnd hk];exact(H.pick [0,0,0,1,1])),Om,(by rw[evZ_lo hk];exact hg)⟩
  ·obtain⟨hl2,hu⟩:=kid_hi hyj hk (show k<yj.kids.length by omega);obtain⟨q0,hq0,hq1,hq2⟩:=evl_mem (mem_b hl2);have hev:=lg_evx h0 hq0 (hes _ hq0).2 _ hq2;have hpk:=lg_pkok h0 _ hq0;have hth0:=hpk.th;have hik:(evl pa)[k-ta.length]!.1∈idK ta k:=by rw[idK_hi hk];exact hin _ (mem_b hl2)
   refine go ?_;refine c3 Fh (obE_any _ _ _ _ (idK ta k) gl yj.kids[k]! (evl pa)[k-ta.length]!.1 (evl pa)[k-ta.length]!.2 _ _ _ (H.front [1,1,2,2]) (gj.kid (show k<yj.kids.length from Om)) hu hev (evs_ev hpk.e _ hq2) ((hes _ hq0).2 _ hq2) (by rw[hq1];exact hth0) (Nat.le_trans (idK_len ta k) Om) (fun x hx=>Nat.le_trans (ge_len hg x hx) (Nat.le_trans (evZ_len _ _ _) Om))) ?_;rintro _ z ⟨v34,q35,rfl,H,h36⟩;refine⟨_,rfl,?_⟩;refine G4 ?_;refine yy (Yld.cast (Y.neq rfl rfl rfl) (vb rfl)) ?_;refine go ?_;refine WC.condF rfl ?_;refine go ?_;exact Rs [(39,_)] Sx ⟨(k+1),v34,q35,rfl,rfl,(by rw[idK_up hk,nmK_up hk,←addK_yes hik];exact(H.pick [0,0,3,0,0])),Om,(by rw[evZ_s hk hl2,←hg];exact h36)⟩
 ·have ekl:=kid_len hyj;have hk9:k=ta.length+(evl pa).length:=Om;rw[idK_hi (show ta.length≤k by omega),nmK_all (show ta.length≤k by omega)]at H;rw[evZ_all hk9]at hg;refine G5 ?_;refine sb [2,7] ?_;refine go ?_;refine bs1 H u23 ti86 fun g39 z H=> ?_;refine go ?_;refine al H ti26 fun g41 z H=> ?_;refine st H 0 ti26 fun z H=> ?_;refine go ?_;refine al H ti27 fun g44 z H=> ?_;refine G1 ?_;refine ofD ?_;refine seqD ?_;refine srD fun K47 k47=> ?_;obtain⟨A48,n49,c50,rfl,e_n49,_,_⟩:=H.op 4;refine G6 ?_;refine nkD k47 [2,7,11,12,57,58,59] ?_;refine blockD ?_;have en_:n49=ta.length:=by have:=e_n49;first|omega|(rw[List.length_map]at this;omega)
  have H:=H.nilRow 68 Th.c 3;have H:=H.nilRow 55 Pk.c 4;have H:=H.bigNil mkF;refine sbD [59,2,7,11,12,57,58] ?_;refine loopDS 1 (fun mz ds Ed W'=>∃j:Nat,∃vh:Value,∃vl:Value,∃qs:List Pk,mz=n49-j∧Ed=[(59,.int .i64 ((j:Nat):Int))]∧Hp w1 W' (big mkF ds.reverse::row 55 Pk.c 4 vl qs::row 68 Th.c 3 vh ((ta.take j).map th0)::box g44 27 [vl]::box g41 26 [vh,.slice (some ⟨g39,0,none⟩) 1 1,.slice none 0 0]::_::_::_::_::_::_::[])∧(j≤n49)∧((qs.map Pk.pp).map eR=imP (ta.take j) pa)∧(PkR gl qs)∧(qs.length≤j)) _ [] ⟨0,_,_,[],rfl,rfl,(H.pick [0,0,0,0,0,0,0,0,0,0,0]),(Nat.zero_le _),rfl,(fun _ h=>(by cases h)),(Nat.zero_le _)⟩ ?_;rintro _ ds _ z ⟨j,vh,vl,qs,rfl,rfl,H,jl,hq,hr,hql⟩;refine sbD [59,2,7,11,12,57,58] ?_;obtain⟨A0,n0,c0,l0,hmv,hl0,hc0,hle0,hy0⟩:=ge_look (H.get (k:=10) rfl) ta[j]!.id;have hle:l0.map eQ=imE (evl pa) ta[j]!.id:=by rw[hle0,hg];rfl
  have hn1:n0≤1000:=by
   rcases Nat.eq_zero_or_pos n0 with q|q
   ·omega
   ·obtain⟨y,hy,_,_,e⟩:=hy0 q;have:=ge_len hg y hy;rw[←e]at this;omega
  refine srD fun K54 k54=> ?_;refine G1 ?_;refine njD k54 ?_;refine seqD ?_;refine condD rfl (fun h56=> ?_) (fun h56=> ?_)
  ·have p56:=(dec_t h56);refine skipD ?_;refine sbD [2,7,11,12,57,58,59] ?_;refine seqD ?_;refine blockD ?_;refine srD fun K58 k58=> ?_;have b59:j<n49:=Om;refine G1 ?_;refine yy (Yld.cast (ld rfl u3 rfl (Ls.at_eq (H.l 7) b59 rfl)) (vi (map_b (fun t:Th=>t.id) Om))) ?_;refine al H ti3 fun g60 z H=> ?_;refine st H 0 ti3 fun z H=> ?_;refine nkD k58 [2,7,11,12,14,57,58,59] ?_;refine stD H 6 fun K62 k62=> ?_;refine G5 ?_;refine yq (Yld.cast (Y.lookup rfl u79 u3 ti9 rfl rfl (fun _ h=>Mp.ext (H.mi 9) h)) (by unfold mval;rw[nmK_get hnd ta.length Nl j Om];first|done|rfl)) ?_;refine WQ.tail (fun z x=> ?_);have H:=H.ex x;refine G1 ?_;refine nkD k62 [2,7,11,12,14,15,57,58,59] ?_;refine seqD ?_;refine srD fun K64 k64=> ?_;refine G1 ?_;refine yy (Yld.cast (Y.eqlStr rfl rfl rfl) (vb (beqB_ne.2 (hnm _ (mem_b (show j<ta.length by omega))).2))) ?_;refine nkD k64 [2,7,11,12,14,15,57,58,59,70] ?_;refine condFD ?_;refine skipD ?_;refine sbD [2,7,11,12,14,15,57,58,59] ?_;refine srD fun K65 k65=> ?_;refine go ?_;refine bs1 H u22 ti68 fun g66 z H=> ?_;refine ap H 4 0 rfl [⟨ta[j]!.id,ta[j]!.nm,0⟩] u22 ti68 rfl Th.one (by simp only[List.length_map,List.length_take,List.length_cons,List.length_nil];omega) fun v68 z H=> ?_;obtain⟨A69,n70,c71,rfl,_,_,_⟩:=H.op 4;refine go ?_;refine st H 6 ti22 fun z H=> ?_;refine nkD k65 [2,7,11,12,14,57,58,59] ?_;refine srD fun K72 k72=> ?_;refine al H ti3 fun g73 z H=> ?_;refine st H 0 ti3 fun z H=> ?_;refine njD k72 ?_;refine stD H 6 fun K75 k75=> ?_;refine G5 ?_;refine yq (Yld.cast (Y.lookup rfl u80 u3 ti53 rfl rfl (fun _ h=>Mp.ext (H.mi 12) h)) hmv) ?_;refine WQ.tail (fun z x=> ?_);have H:=H.ex x;refine c3 Fh (chunk_any A0 n0 c0 _ _ _ (H.front [])) ?_;rintro _ z ⟨g76,g77,rfl,H⟩;refine⟨_,rfl,?_⟩;refine nkD k75 [2,7,11,12,14,16,57,58,59,88] ?_;have H:=H.drop [3];refine rfDb (pt:=17) (fun v9=>[box g76 53 [.slice A0 n0 c0],box g77 3 [.int .i64 1000],box g73 3 [.int .i64 ((n0:Nat):Int)],box g60 3 [.int .i64 ta[j]!.id],big mkF (ds.reverse),row 55 Pk.c 4 v9 (qs++[⟨ta[j]!.id,0,0,A0,n0,n0,l0⟩]),row 68 Th.c 3 (.slice A69 n70 c71) ((((ta.take j).map th0)++[⟨ta[j]!.id,ta[j]!.nm,0⟩])),box g44 27 [v9],box g41 26 [(.slice A69 n70 c71),.slice (some ⟨g39,0,none⟩) 1 1,.slice none 0 0],box g39 86 [.int .i64 0,.int .i64 0],box g17 83 [(.slice A48 n49 c50),.map (some g13),.map (some g15)],row 3 ic 1 (.slice A48 n49 c50) ((ta.map (·.id))),mpi g13 (nmK ta ta.length),mpi g15 (gl.map geM),big geF (gl)]) (decide (0<n0)) H (chunk_stops _ _ A0 n0 c0 _ (H.b 0) (H.b 1) hn1 hc0) (fun a w=>run_callFunc Fh a w) (H.b 0).lt (H.b 1).lt (fun v9=>Sfe.same (Sfe.same (.cel cel_box (Sfe.same (Sfe.same (.cel cel_row (Sfe.same (.cel cel_box (Sfe.same (Sfe.same (Sfe.same (Sfe.same (Sfe.same (Sfe.same (Sfe.same (.rest (fun _ h=>(by cases h)))))))))))))))))) ?_ ?_ ?_
   ·rintro lr z1 H;have c1:=H.b 1;have c2:=H.b 2;refine WCi.block ?_;refine WCi.seq fun K1 k1=> ?_;refine WCi.region ?_ (fun _ _ h=>(by cases h.1));refine go ?_;refine bs1 H u27 ti55 fun g80 z H=> ?_;refine ap H 7 0 rfl [⟨ta[j]!.id,0,0,A0,n0,n0,l0⟩] u27 ti55 rfl Pk.one (by simp only[List.length_cons,List.length_nil];omega) fun v82 z H=> ?_;obtain⟨A83,n84,c85,rfl,_,_,_⟩:=H.op 7;refine st H 9 ti27 fun z H=> ?_;refine WL.nil (WK.then_normal (k1 _ _ ?_));refine WCi.region ?_ (fun _ _ h=>(by cases h.1));refine G3 ?_;refine yy (Yld.cast (Y.add rfl rfl rfl Wo) (vi (Int.zero_add _))) ?_;refine st H 4 ti3 fun z H=> ?_;refine G1 ?_;unfold WK;exact fun a ha=>⟨rfl,(show _=_ from(H.b 2).trans c1.symm),(show _=_ from(H.b 3).trans c2.symm),(.slice A83 n84 c85),(H.pick [1,1,1,1,1,1,1,1,1,1,1,1,1,1,1,1])⟩
   ·rintro hn d z H;have hn0:n0=0:=by have:=of_decide_eq_false hn;omega
    have H:=H.front [0,4];have H:Hp w1 _ (big mkF (ds.reverse++[d])::_):=Hp.bigPush mkF d H;refine rlD ?_;refine G3 ?_;refine roundDS _ [(59,_)] Sx ?_ ⟨(j+1),(.slice A69 n70 c71),vl,qs,rfl,rfl,(by rw[take_bang (show j<ta.length by omega),List.map_append,List.reverse_cons];exact(H.pick [0,4,4,4,4,4,4,4,4,4,4])),Om,(by rw[imP_s (show j<ta.length by omega),hq,←hle,imO_0 hl0 hn0,List.append_nil]),hr,Om⟩;omega
   ·rintro hn d z v9 H;have hn0:0<n0:=by have:=of_decide_eq_true hn;omega
    have H:=H.front [0,4];have H:Hp w1 _ (big mkF (ds.reverse++[d])::_):=Hp.bigPush mkF d H;refine rlD ?_;refine G3 ?_;refine roundDS _ [(59,_)] Sx ?_ ⟨(j+1),(.slice A69 n70 c71),v9,(qs++[⟨ta[j]!.id,0,0,A0,n0,n0,l0⟩]),rfl,rfl,(by rw[take_bang (show j<ta.length by omega),List.map_append,List.reverse_cons];exact(H.pick [0,4,4,4,4,4,4,4,4,4,4])),Om,(by rw[imP_s (show j<ta.length by omega),←hq,←hle,←imO_1 A0 hl0 hn0,List.map_append,List.map_append]),(hr.put (by obtain⟨y,h1,h2,h3,h4⟩:=hy0 hn0;exact⟨y,h1,h2,h3,h3,h4⟩)),(by rw[List.length_append];simp only[List.length_cons,List.length_nil];omega)⟩;omega
  ·have p56:=(dec_f h56);refine exitDb ?_;refine sbD [2,11,12] ?_;have ej:j=ta.length:=Om;rw[show ta.take j=ta from List.take_of_length_le Om]at hq H;rw[th0_map hdm]at H;have H:=H0.join H;refine srD fun K86 k86=> ?_;obtain⟨A87,n88,c89,rfl,_,_,_⟩:=H.op 2;obtain⟨A90,n91,c92,rfl,_,_,_⟩:=H.op 1;have gq:=pks_ok (H.get (k:=10) rfl) hr;have hm_:=im_same h0 hes hls hq (fun q hq=>(gq q hq).l.len);refine go ?_;refine c3 Fh (lgOfH_any _ _ _ ta _ _ _ [⟨0,0⟩] _ _ _ [] _ _ _ qs _ (H.l 2) (show Ls _ (some ⟨g39,0,none⟩) 1 1 Dm.c 2 [⟨0,0⟩]from Ls.lit (f:=Dm.c) (sz:=2) (l:=[⟨0,0⟩]) (H.b 5) (fun _=>rfl) rfl (show 1≤maxLen by decide) rfl) (show Ls _ none 0 0 Sn.c 5 []from Ls.nil Dc) (H.l 1) gq (fun q hq=>Nat.le_trans (hm_.2.2.2.2.2 q hq) (show 1000≤1000000 by decide)) Om Om Om) ?_;rintro _ z ⟨x1,x2,x3,x4,rfl,x,hof,_⟩;obtain⟨A4,n4,c4,ps,g4,rfl,rfl,rfl,rfl,K,ho,hN⟩:=hof hm_.2.1;have H:=H.join K;refine⟨_,rfl,?_⟩;refine go ?_;refine st H 15 ti29 fun z H=> ?_;refine G1 ?_;refine nkD k86 [2,3] ?_;refine retM [_,_] rfl (H.front [2]) fun z H=>⟨⟨⟨_,rfl,run_loadVar_blk u29 rfl ti29 (H.b 14)⟩,rfl,trivial⟩,?_⟩;have gq:=pks_ok (H.get (k:=11) rfl) hr;refine⟨_,_,_,_,_,_,_,_,_,ps,(by rw[hm_.2.1];rfl),H.ext,H.l 3,(show Ls _ (some ⟨g39,0,none⟩) 1 1 Dm.c 2 [⟨0,0⟩]from Ls.lit (f:=Dm.c) (sz:=2) (l:=[⟨0,0⟩]) (H.b 6) (fun _=>rfl) rfl (show 1≤maxLen by decide) rfl),H.l 0,fun p hp=> ?_,(by rw[hN];exact hm_.2.2.1)⟩;obtain⟨x,hx,hpx⟩:=ho p hp;refine⟨gr_ls (H.get (k:=1) rfl) hx hpx,fun e he=> ?_⟩;obtain⟨p2,h3,h4⟩:=lgN_es (ths:=ta) (fun q hq=>(gq q hq).l.len) ta.length p.pp (by rw[show lgN ta qs ta.length=lgParts ta qs from rfl,←hN];exact List.mem_map_of_mem hp) e he;exact(gq _ h3).e e h4
theorem eqg58:Tryz.prog.eqGuardType Tryz.prog.depth 58=false:=by kernel_rfl
theorem eq58(a0:Int)(a1:Int)(a2:Int)(a3:ByteArray)(a4:Int)(a5:Int)(a6:Int)(a7:Bool)(b0:Int)(b1:Int)(b2:Int)(b3:ByteArray)(b4:Int)(b5:Int)(b6:Int)(b7:Bool)(w:World):(Op.equalIn 10000 58 (.agg #[.int .i64 a0,.int .i64 a1,.int .i64 a2,.string a3,.int .i64 a4,.int .i64 a5,.int .i64 a6,.bool a7]) (.agg #[.int .i64 b0,.int .i64 b1,.int .i64 b2,.string b3,.int .i64 b4,.int .i64 b5,.int .i64 b6,.bool b7])).run Tryz.prog w= .ok ((a0==b0)&&(a1==b1)&&(a2==b2)&&(a3==b3)&&((a4==b4)&&(a5==b5))&&(a6==b6)&&(a7==b7)) w:=by
 go_simp
 (repeat' split)<;>simp_all [beq_toListBytes]
theorem eqg119:Tryz.prog.eqGuardType Tryz.prog.depth 119=false:=by kernel_rfl
theorem eq119(a0:Int)(a1:Int)(a2:Int)(a3:Int)(a4:Int)(a5:Int)(a6:Int)(b0:Int)(b1:Int)(b2:Int)(b3:Int)(b4:Int)(b5:Int)(b6:Int)(w:World):(Op.equalIn 10000 119 (.agg #[.int .i64 a0,.int .i64 a1,.int .i64 a2,.int .i64 a3,.int .i64 a4,.int .i64 a5,.int .i64 a6]) (.agg #[.int .i64 b0,.int .i64 b1,.int .i64 b2,.int .i64 b3,.int .i64 b4,.int .i64 b5,.int .i64 b6])).run Tryz.prog w= .ok ((a0==b0)&&(a1==b1)&&((a2==b2)&&(a3==b3))&&(a4==b4)&&(a5==b5)&&(a6==b6)) w:=by
 go_simp
 (repeat' split)<;>simp_all
theorem eqg122:Tryz.prog.eqGuardType Tryz.prog.depth 122=false:=by kernel_rfl
theorem eq122(a0:Int)(a1:Int)(a2:Int)(a3:Int)(a4:Int)(a5:Int)(a6:Int)(b0:Int)(b1:Int)(b2:Int)(b3:Int)(b4:Int)(b5:Int)(b6:Int)(w:World):(Op.equalIn 10000 122 (.agg #[.int .i64 a0,.int .i64 a1,.int .i64 a2,.int .i64 a3,.int .i64 a4,.int .i64 a5,.int .i64 a6]) (.agg #[.int .i64 b0,.int .i64 b1,.int .i64 b2,.int .i64 b3,.int .i64 b4,.int .i64 b5,.int .i64 b6])).run Tryz.prog w= .ok ((a0==b0)&&((a1==b1)&&(a2==b2))&&((a3==b3)&&(a4==b4))&&(a5==b5)&&(a6==b6)) w:=by
 go_simp
 (repeat' split)<;>simp_all
theorem eqg125:Tryz.prog.eqGuardType Tryz.prog.depth 125=false:=by kernel_rfl
theorem eq125(a0:ByteArray)(a1:Int)(a2:Int)(b0:ByteArray)(b1:Int)(b2:Int)(w:World):(Op.equalIn 10000 125 (.agg #[.string a0,.int .i64 a1,.int .i64 a2]) (.agg #[.string b0,.int .i64 b1,.int .i64 b2])).run Tryz.prog w= .ok ((a0==b0)&&(a1==b1)&&(a2==b2)) w:=by
 go_simp
 (repeat' split)<;>simp_all [beq_toListBytes]
theorem eqg128:Tryz.prog.eqGuardType Tryz.prog.depth 128=false:=by kernel_rfl
theorem eq128(a0:Int)(a1:Int)(a2:Int)(a3:Int)(b0:Int)(b1:Int)(b2:Int)(b3:Int)(w:World):(Op.equalIn 10000 128 (.agg #[.int .i64 a0,.int .i64 a1,.int .i64 a2,.int .i64 a3]) (.agg #[.int .i64 b0,.int .i64 b1,.int .i64 b2,.int .i64 b3])).run Tryz.prog w= .ok ((a0==b0)&&((a1==b1)&&(a2==b2))&&(a3==b3)) w:=by
 go_simp
 (repeat' split)<;>simp_all
theorem eqSl_any(A_l:Option Addr)(n_l c_l:Nat)(l:List Sc)(A_m:Option Addr)(n_m c_m:Nat)(m:List Sc)(w:World)(h_l:Ls w A_l n_l c_l Sc.c 8 l)(h_m:Ls w A_m n_m c_m Sc.c 8 m)(hm:m=l):
  Cr 38 #[.slice A_l n_l c_l,.slice A_m n_m c_m] w (.bool true):=by
 have H:=(Hp.nil w);have e_l:=h_l.len;have z_l:=h_l.nle;have e_m:=h_m.len;have z_m:=h_m.nle;subst hm;refine Wb Tryz.func38 ?_;refine go ?_;refine Cd (fun p4=> ?_) fun p4=> ?_
 ·omega
 ·refine go ?_;refine sb [13,0,1,12] ?_;refine WC.loopS 1 (fun mz Ed W'=>∃j:Nat,mz=n_l-j∧Ed=[(13,.int .i64 ((j:Nat):Int))]∧Hp w W' ([])∧(j≤n_l)) _ ⟨0,rfl,rfl,(H.pick []),(Nat.zero_le _)⟩ ?_;rintro _ _ z ⟨j,rfl,rfl,H,jl⟩;refine go ?_;refine Cd (fun p9=> ?_) fun p9=> ?_
  ·refine go ?_;refine Qr ?_;have b13:j<n_l:=Om;have b14:j<n_m:=Om;refine G8 ?_;refine yq (Y.neqS rfl eqg58 (eq58 _ _ _ _ _ _ _ _ _ _ _ _ _ _ _ _) rfl rfl) ?_;refine Qd H fun z H=> ?_;refine go ?_;refine WC.cond rfl (fun h15=> ?_) (fun h15=> ?_)
   ·exact absurd h15 (by simp[beqB_self])
   ·refine go ?_;exact Rs [(13,_)] Sx ⟨(j+1),rfl,rfl,(H.pick []),Om⟩
  ·refine go ?_;refine Rt [_] ?_;exact⟨rfl,H.ext⟩
theorem eqSg_any(A_l:Option Addr)(n_l c_l:Nat)(l:List Sg)(A_m:Option Addr)(n_m c_m:Nat)(m:List Sg)(w:World)(h_l:Ls w A_l n_l c_l Sg.c 7 l)(h_m:Ls w A_m n_m c_m Sg.c 7 m)(hm:m=l):
  Cr 39 #[.slice A_l n_l c_l,.slice A_m n_m c_m] w (.bool true):=by
 have H:=(Hp.nil w);have e_l:=h_l.len;have z_l:=h_l.nle;have e_m:=h_m.len;have z_m:=h_m.nle;subst hm;refine Wb Tryz.func39 ?_;refine G11 ?_;refine sb [0,1,10] ?_;refine Cd (fun p4=> ?_) fun p4=> ?_
 ·omega
 ·refine go ?_;refine sb [13,0,1,12] ?_;refine WC.loopS 1 (fun mz Ed W'=>∃j:Nat,mz=n_l-j∧Ed=[(13,.int .i64 ((j:Nat):Int))]∧Hp w W' ([])∧(j≤n_l)) _ ⟨0,rfl,rfl,(H.pick []),(Nat.zero_le _)⟩ ?_;rintro _ _ z ⟨j,rfl,rfl,H,jl⟩;refine go ?_;refine Cd (fun p9=> ?_) fun p9=> ?_
  ·refine go ?_;refine Qr ?_;have b13:j<n_l:=Om;have b14:j<n_m:=Om;refine G8 ?_;refine yq (Y.neqS rfl eqg119 (eq119 _ _ _ _ _ _ _ _ _ _ _ _ _ _) rfl rfl) ?_;refine Qd H fun z H=> ?_;refine go ?_;refine WC.cond rfl (fun h15=> ?_) (fun h15=> ?_)
   ·exact absurd h15 (by simp[beqB_self])
   ·refine go ?_;exact Rs [(13,_)] Sx ⟨(j+1),rfl,rfl,(H.pick []),Om⟩
  ·refine go ?_;refine Rt [_] ?_;exact⟨rfl,H.ext⟩
theorem eqFw_any(A_l:Option Addr)(n_l c_l:Nat)(l:List Fw)(A_m:Option Addr)(n_m c_m:Nat)(m:List Fw)(w:World)(h_l:Ls w A_l n_l c_l Fw.c 7 l)(h_m:Ls w A_m n_m c_m Fw.c 7 m)(hm:m=l):
  Cr 40 #[.slice A_l n_l c_l,.slice A_m n_m c_m] w (.bool true):=by
 have H:=(Hp.nil w);have e_l:=h_l.len;have z_l:=h_l.nle;have e_m:=h_m.len;have z_m:=h_m.nle;subst hm;refine Wb Tryz.func40 ?_;refine G11 ?_;refine sb [0,1,10] ?_;refine Cd (fun p4=> ?_) fun p4=> ?_
 ·omega
 ·refine go ?_;refine sb [13,0,1,12] ?_;refine WC.loopS 1 (fun mz Ed W'=>∃j:Nat,mz=n_l-j∧Ed=[(13,.int .i64 ((j:Nat):Int))]∧Hp w W' ([])∧(j≤n_l)) _ ⟨0,rfl,rfl,(H.pick []),(Nat.zero_le _)⟩ ?_;rintro _ _ z ⟨j,rfl,rfl,H,jl⟩;refine go ?_;refine Cd (fun p9=> ?_) fun p9=> ?_
  ·refine go ?_;refine Qr ?_;have b13:j<n_l:=Om;have b14:j<n_m:=Om;refine G8 ?_;refine yq (Y.neqS rfl eqg122 (eq122 _ _ _ _ _ _ _ _ _ _ _ _ _ _) rfl rfl) ?_;refine Qd H fun z H=> ?_;refine go ?_;refine WC.cond rfl (fun h15=> ?_) (fun h15=> ?_)
   ·exact absurd h15 (by simp[beqB_self])
   ·refine go ?_;exact Rs [(13,_)] Sx ⟨(j+1),rfl,rfl,(H.pick []),Om⟩
  ·refine go ?_;refine Rt [_] ?_;exact⟨rfl,H.ext⟩
theorem eqSp_any(A_l:Option Addr)(n_l c_l:Nat)(l:List Sp)(A_m:Option Addr)(n_m c_m:Nat)(m:List Sp)(w:World)(h_l:Ls w A_l n_l c_l Sp.c 3 l)(h_m:Ls w A_m n_m c_m Sp.c 3 m)(hm:m=l):
  Cr 41 #[.slice A_l n_l c_l,.slice A_m n_m c_m] w (.bool true):=by
 have H:=(Hp.nil w);have e_l:=h_l.len;have z_l:=h_l.nle;have e_m:=h_m.len;have z_m:=h_m.nle;subst hm;refine Wb Tryz.func41 ?_;refine G11 ?_;refine sb [0,1,10] ?_;refine Cd (fun p4=> ?_) fun p4=> ?_
 ·omega
 ·refine go ?_;refine sb [13,0,1,12] ?_;refine WC.loopS 1 (fun mz Ed W'=>∃j:Nat,mz=n_l-j∧Ed=[(13,.int .i64 ((j:Nat):Int))]∧Hp w W' ([])∧(j≤n_l)) _ ⟨0,rfl,rfl,(H.pick []),(Nat.zero_le _)⟩ ?_;rintro _ _ z ⟨j,rfl,rfl,H,jl⟩;refine go ?_;refine Cd (fun p9=> ?_) fun p9=> ?_
  ·refine go ?_;refine Qr ?_;have b13:j<n_l:=Om;have b14:j<n_m:=Om;refine G8 ?_;refine yq (Y.neqS rfl eqg125 (eq125 _ _ _ _ _ _) rfl rfl) ?_;refine Qd H fun z H=> ?_;refine go ?_;refine WC.cond rfl (fun h15=> ?_) (fun h15=> ?_)
   ·exact absurd h15 (by simp[beqB_self])
   ·refine go ?_;exact Rs [(13,_)] Sx ⟨(j+1),rfl,rfl,(H.pick []),Om⟩
  ·refine go ?_;refine Rt [_] ?_;exact⟨rfl,H.ext⟩
theorem eqLo_any(A_l:Option Addr)(n_l c_l:Nat)(l:List Lo)(A_m:Option Addr)(n_m c_m:Nat)(m:List Lo)(w:World)(h_l:Ls w A_l n_l c_l Lo.c 4 l)(h_m:Ls w A_m n_m c_m Lo.c 4 m)(hm:m=l):
  Cr 42 #[.slice A_l n_l c_l,.slice A_m n_m c_m] w (.bool true):=by
 have H:=(Hp.nil w);have e_l:=h_l.len;have z_l:=h_l.nle;have e_m:=h_m.len;have z_m:=h_m.nle;subst hm;refine Wb Tryz.func42 ?_;refine G11 ?_;refine sb [0,1,10] ?_;refine Cd (fun p4=> ?_) fun p4=> ?_
 ·omega
 ·refine go ?_;refine sb [13,0,1,12] ?_;refine WC.loopS 1 (fun mz Ed W'=>∃j:Nat,mz=n_l-j∧Ed=[(13,.int .i64 ((j:Nat):Int))]∧Hp w W' ([])∧(j≤n_l)) _ ⟨0,rfl,rfl,(H.pick []),(Nat.zero_le _)⟩ ?_;rintro _ _ z ⟨j,rfl,rfl,H,jl⟩;refine go ?_;refine Cd (fun p9=> ?_) fun p9=> ?_
  ·refine go ?_;refine Qr ?_;have b13:j<n_l:=Om;have b14:j<n_m:=Om;refine G8 ?_;refine yq (Y.neqS rfl eqg128 (eq128 _ _ _ _ _ _ _ _) rfl rfl) ?_;refine Qd H fun z H=> ?_;refine go ?_;refine WC.cond rfl (fun h15=> ?_) (fun h15=> ?_)
   ·exact absurd h15 (by simp[beqB_self])
   ·refine go ?_;exact Rs [(13,_)] Sx ⟨(j+1),rfl,rfl,(H.pick []),Om⟩
  ·refine go ?_;refine Rt [_] ?_;exact⟨rfl,H.ext⟩
theorem eqg39:Tryz.prog.eqGuardType Tryz.prog.depth 39=false:=by kernel_rfl
theorem eq39(a0:Int)(a1:Int)(b0:Int)(b1:Int)(w:World):(Op.equalIn 10000 39 (.agg #[.int .i64 a0,.int .i64 a1]) (.agg #[.int .i64 b0,.int .i64 b1])).run Tryz.prog w= .ok ((a0==b0)&&(a1==b1)) w:=by
 go_simp
 (repeat' split)<;>simp_all
def smS(a b:Sm):Bool:=((a.th==b.th&&a.at_==b.at_)&&a.w==b.w)&&eqW (fun x y=>x==y) a.st b.st
def bkS(a b:Bk):Bool:=((((a.id==b.id&&a.th==b.th)&&a.sz==b.sz)&&(a.fr==b.fr&&a.to==b.to))&&a.lv==b.lv)&&eqW (fun x y=>x==y) a.st b.st
theorem st_refl(l:List ByteArray):eqW (fun x y:ByteArray=>x==y) l l=true:=eqW_refl (fun x=>beqB_self x) l
theorem smS_yes{l m:List Sm}(h:l.map Sm.q=m.map Sm.q):eqW smS l m=true:=by
 have e:smS=fun a b=>(fun x y:Sq=>((x.th==y.th&&x.at_==y.at_)&&x.w==y.w)&&eqW (fun x y=>x==y) x.st y.st) a.q b.q:=rfl;rw[e,eqW_map (p:=fun x y:Sq=>((x.th==y.th&&x.at_==y.at_)&&x.w==y.w)&&eqW (fun x y=>x==y) x.st y.st) Sm.q,h];exact eqW_refl (fun x=>by simp[st_refl]) _
theorem bkS_yes{l m:List Bk}(h:l.map eB=m.map eB):eqW bkS l m=true:=by
 have e:bkS=fun a b=>bkS (eB a) (eB b):=rfl;rw[e,eqW_map (p:=bkS) eB,h];exact eqW_refl (fun x=>by unfold bkS;simp[st_refl]) _
theorem smsame_any(x:Sm)(y:Sm)(w:World)(h_x:Ls w x.A x.n x.cp sc 1 x.st)(h_y:Ls w y.A y.n y.cp sc 1 y.st):
  Cr 45 #[.agg #[.int .i64 x.th,.int .i64 x.at_,.int .i64 x.w,.slice x.A x.n x.cp],.agg #[.int .i64 y.th,.int .i64 y.at_,.int .i64 y.w,.slice y.A y.n y.cp]] w (.bool (smS x y)):=by
 have H:=(Hp.nil w);have e_x:=h_x.len;have z_x:=h_x.nle;have e_y:=h_y.len;have z_y:=h_y.nle;refine Wb Tryz.func45 ?_;refine go ?_;refine bx H fun g2 z H=> ?_;refine bx H fun g4 z H=> ?_;refine G27 ?_;refine WL.callG rfl (blt rfl) rfl rfl rfl rfl rfl Fh (fun hb=>(evs_cons (evg rfl hb) (evs_cons (evg rfl hb) evs_nil))) (fun hb=>eqS_any _ _ _ _ _ _ _ _ _ (h_x.ext H.ext) (h_y.ext H.ext)) (fun z x=> ?_);have H:=H.ex x;refine go ?_;refine Rt [_] ?_;exact⟨rfl,H.ext⟩
theorem smsame1_any(x:Sm)(y:Sm)(w:World)(h_x:Ls w x.A x.n x.cp sc 1 x.st)(h_y:Ls w y.A y.n y.cp sc 1 y.st):
  Cr 44 #[.agg #[.int .i64 x.th,.int .i64 x.at_,.int .i64 x.w,.slice x.A x.n x.cp],.agg #[.int .i64 y.th,.int .i64 y.at_,.int .i64 y.w,.slice y.A y.n y.cp]] w (.bool (smS x y)):=by
 have H:=(Hp.nil w);have e_x:=h_x.len;have z_x:=h_x.nle;have e_y:=h_y.len;have z_y:=h_y.nle;refine Wb Tryz.func44 ?_;refine go ?_;refine bx H fun g2 z H=> ?_;refine bx H fun g4 z H=> ?_;refine go ?_;refine c1 H Fh (smsame_any x y _ (h_x.ext H.ext) (h_y.ext H.ext)) fun z H=> ?_;refine G2 ?_;refine sb [4] ?_;refine go ?_;refine Rt [_] ?_;exact⟨rfl,H.ext⟩
theorem bksame_any(x:Bk)(y:Bk)(w:World)(h_x:Ls w x.A x.k x.c_ sc 1 x.st)(h_y:Ls w y.A y.k y.c_ sc 1 y.st):
  Cr 48 #[.agg #[.int .i64 x.id,.int .i64 x.th,.int .i64 x.sz,.int .i64 x.fr,.int .i64 x.to,.slice x.A x.k x.c_,.bool x.lv],.agg #[.int .i64 y.id,.int .i64 y.th,.int .i64 y.sz,.int .i64 y.fr,.int .i64 y.to,.slice y.A y.k y.c_,.bool y.lv]] w (.bool (bkS x y)):=by
 have H:=(Hp.nil w);have e_x:=h_x.len;have z_x:=h_x.nle;have e_y:=h_y.len;have z_y:=h_y.nle;refine Wb Tryz.func48 ?_;refine go ?_;refine bx H fun g2 z H=> ?_;refine bx H fun g4 z H=> ?_;refine G27 ?_;refine yg (fun hb=>Y.eqlS rfl eqg39 (eq39 _ _ _ _) (evg rfl hb) (evg rfl hb)) ?_;refine G6 ?_;refine yg (fun hb=>Y.eqlB rfl u4 (evg rfl hb) (evg rfl hb)) ?_;refine G6 ?_;refine WL.callG rfl (blt rfl) rfl rfl rfl rfl rfl Fh (fun hb=>(evs_cons (evg rfl hb) (evs_cons (evg rfl hb) evs_nil))) (fun hb=>eqS_any _ _ _ _ _ _ _ _ _ (h_x.ext H.ext) (h_y.ext H.ext)) (fun z x=> ?_);have H:=H.ex x;refine G3 ?_;refine sb [4] ?_;refine go ?_;refine Rt [_] ?_;exact⟨rfl,H.ext⟩
theorem bksame1_any(x:Bk)(y:Bk)(w:World)(h_x:Ls w x.A x.k x.c_ sc 1 x.st)(h_y:Ls w y.A y.k y.c_ sc 1 y.st):
  Cr 47 #[.agg #[.int .i64 x.id,.int .i64 x.th,.int .i64 x.sz,.int .i64 x.fr,.int .i64 x.to,.slice x.A x.k x.c_,.bool x.lv],.agg #[.int .i64 y.id,.int .i64 y.th,.int .i64 y.sz,.int .i64 y.fr,.int .i64 y.to,.slice y.A y.k y.c_,.bool y.lv]] w (.bool (bkS x y)):=by
 have H:=(Hp.nil w);have e_x:=h_x.len;have z_x:=h_x.nle;have e_y:=h_y.len;have z_y:=h_y.nle;refine Wb Tryz.func47 ?_;refine go ?_;refine bx H fun g2 z H=> ?_;refine bx H fun g4 z H=> ?_;refine go ?_;refine c1 H Fh (bksame_any x y _ (h_x.ext H.ext) (h_y.ext H.ext)) fun z H=> ?_;refine go ?_;refine Rt [_] ?_;exact⟨rfl,H.ext⟩
theorem eqSm_any(A_l:Option Addr)(n_l c_l:Nat)(l:List Sm)(A_m:Option Addr)(n_m c_m:Nat)(m:List Sm)(w:World)(h_l:Ls w A_l n_l c_l Sm.c 4 l)(g_l:∀x∈l,Ls w x.A x.n x.cp sc 1 x.st)(h_m:Ls w A_m n_m c_m Sm.c 4 m)(g_m:∀x∈m,Ls w x.A x.n x.cp sc 1 x.st):
  Cr 43 #[.slice A_l n_l c_l,.slice A_m n_m c_m,.func (.func 44) #[] #[]] w (.bool (eqW smS l m)):=by
 have H:=(Hp.nil w);have e_l:=h_l.len;have z_l:=h_l.nle;have e_m:=h_m.len;have z_m:=h_m.nle;refine Wb Tryz.func43 ?_;refine go ?_;refine Cd (fun p4=> ?_) fun p4=> ?_
 ·refine go ?_;refine Rt [_] ?_;exact⟨ret1 (vb (eqW_len Om).symm),H.ext⟩
 ·refine go ?_;refine sb [17,1,2,15,16] ?_;refine WC.loopS 1 (fun mz Ed W'=>∃j:Nat,mz=n_l-j∧Ed=[(17,.int .i64 ((j:Nat):Int))]∧Hp w W' ([])∧(j≤n_l)∧(∀k,k<j→smS l[k]! m[k]! =true)) _ ⟨0,rfl,rfl,(H.pick []),(Nat.zero_le _),(fun k h=>absurd h (Nat.not_lt_zero k))⟩ ?_;rintro _ _ z ⟨j,rfl,rfl,H,jl,he⟩;refine go ?_;refine Cd (fun p10=> ?_) fun p10=> ?_
  ·have b13:j<n_l:=Om;refine go ?_;refine al H ti131 fun g14 z H=> ?_;refine go ?_;refine st H 0 ti131 fun z H=> ?_;have b17:j<n_m:=Om;refine go ?_;refine al H ti131 fun g18 z H=> ?_;refine st H 0 ti131 fun z H=> ?_;refine go ?_;refine c1V (fst:=[]) (cap:=[]) rfl H Fh (smsame1_any l[j]! m[j]! _ ((g_l _ (mem_b (show j<l.length from Om))).ext H.ext) ((g_m _ (mem_b (show j<m.length from Om))).ext H.ext)) fun z H=> ?_;refine go ?_;refine WC.cond rfl (fun h21=> ?_) (fun h21=> ?_)
   ·refine go ?_;refine Rt [_] ?_;exact⟨ret1 (vb (eqW_no (j:=j) Om (not_t h21)).symm),H.ext⟩
   ·refine G3 ?_;refine sb [1,2,15,16,17] ?_;refine go ?_;exact Rs [(17,_)] Sx ⟨(j+1),rfl,rfl,(H.pick []),Om,(all_next he (not_f h21))⟩
  ·refine go ?_;refine Rt [_] ?_;exact⟨ret1 (vb (eqW_yes Om (fun k hk=>he k Om)).symm),H.ext⟩
theorem eqBk_any(A_l:Option Addr)(n_l c_l:Nat)(l:List Bk)(A_m:Option Addr)(n_m c_m:Nat)(m:List Bk)(w:World)(h_l:Ls w A_l n_l c_l Bk.c 7 l)(g_l:∀x∈l,Ls w x.A x.k x.c_ sc 1 x.st)(h_m:Ls w A_m n_m c_m Bk.c 7 m)(g_m:∀x∈m,Ls w x.A x.k x.c_ sc 1 x.st):
  Cr 46 #[.slice A_l n_l c_l,.slice A_m n_m c_m,.func (.func 47) #[] #[]] w (.bool (eqW bkS l m)):=by
 have H:=(Hp.nil w);have e_l:=h_l.len;have z_l:=h_l.nle;have e_m:=h_m.len;have z_m:=h_m.nle;refine Wb Tryz.func46 ?_;refine go ?_;refine Cd (fun p4=> ?_) fun p4=> ?_
 ·refine go ?_;refine Rt [_] ?_;exact⟨ret1 (vb (eqW_len Om).symm),H.ext⟩
 ·refine go ?_;refine sb [17,1,2,15,16] ?_;refine WC.loopS 1 (fun mz Ed W'=>∃j:Nat,mz=n_l-j∧Ed=[(17,.int .i64 ((j:Nat):Int))]∧Hp w W' ([])∧(j≤n_l)∧(∀k,k<j→bkS l[k]! m[k]! =true)) _ ⟨0,rfl,rfl,(H.pick []),(Nat.zero_le _),(fun k h=>absurd h (Nat.not_lt_zero k))⟩ ?_;rintro _ _ z ⟨j,rfl,rfl,H,jl,he⟩;refine go ?_;refine Cd (fun p10=> ?_) fun p10=> ?_
  ·have b13:j<n_l:=Om;refine go ?_;refine al H ti135 fun g14 z H=> ?_;refine go ?_;refine st H 0 ti135 fun z H=> ?_;have b17:j<n_m:=Om;refine go ?_;refine al H ti135 fun g18 z H=> ?_;refine st H 0 ti135 fun z H=> ?_;refine go ?_;refine c1V (fst:=[]) (cap:=[]) rfl H Fh (bksame1_any l[j]! m[j]! _ ((g_l _ (mem_b (show j<l.length from Om))).ext H.ext) ((g_m _ (mem_b (show j<m.length from Om))).ext H.ext)) fun z H=> ?_;refine go ?_;refine WC.cond rfl (fun h21=> ?_) (fun h21=> ?_)
   ·refine go ?_;refine Rt [_] ?_;exact⟨ret1 (vb (eqW_no (j:=j) Om (not_t h21)).symm),H.ext⟩
   ·refine G3 ?_;refine sb [1,2,15,16,17] ?_;refine go ?_;exact Rs [(17,_)] Sx ⟨(j+1),rfl,rfl,(H.pick []),Om,(all_next he (not_f h21))⟩
  ·refine go ?_;refine Rt [_] ?_;exact⟨ret1 (vb (eqW_yes Om (fun k hk=>he k Om)).symm),H.ext⟩
theorem eqT1_any(A_l:Option Addr)(n_l c_l:Nat)(l:List Th)(A_m:Option Addr)(n_m c_m:Nat)(w:World)(h_l:Ls w A_l n_l c_l Th.c 3 l)(h_m:Ls w A_m n_m c_m Th.c 3 l)(_h:l=l):Cr 23 #[.slice A_l n_l c_l,.slice A_m n_m c_m] w (.bool true):=
 (eqT_any _ _ _ l _ _ _ l w h_l h_m).mono fun e w' ⟨he,x⟩=>⟨by rw[he,eqW_refl thSame_refl],x⟩
theorem eqSm1_any(A_l:Option Addr)(n_l c_l:Nat)(l:List Sm)(A_m:Option Addr)(n_m c_m:Nat)(m:List Sm)(w:World)(h_l:Ls w A_l n_l c_l Sm.c 4 l)(g_l:∀x∈l,Ls w x.A x.n x.cp sc 1 x.st)(h_m:Ls w A_m n_m c_m Sm.c 4 m)(g_m:∀x∈m,Ls w x.A x.n x.cp sc 1 x.st)(h:l.map Sm.q=m.map Sm.q):Cr 43 #[.slice A_l n_l c_l,.slice A_m n_m c_m,.func (.func 44) #[] #[]] w (.bool true):=
 (eqSm_any _ _ _ l _ _ _ m w h_l g_l h_m g_m).mono fun e w' ⟨he,x⟩=>⟨by rw[he,smS_yes h],x⟩
theorem eqBk1_any(A_l:Option Addr)(n_l c_l:Nat)(l:List Bk)(A_m:Option Addr)(n_m c_m:Nat)(m:List Bk)(w:World)(h_l:Ls w A_l n_l c_l Bk.c 7 l)(g_l:∀x∈l,Ls w x.A x.k x.c_ sc 1 x.st)(h_m:Ls w A_m n_m c_m Bk.c 7 m)(g_m:∀x∈m,Ls w x.A x.k x.c_ sc 1 x.st)(h:l.map eB=m.map eB):Cr 46 #[.slice A_l n_l c_l,.slice A_m n_m c_m,.func (.func 47) #[] #[]] w (.bool true):=
 (eqBk_any _ _ _ l _ _ _ m w h_l g_l h_m g_m).mono fun e w' ⟨he,x⟩=>⟨by rw[he,bkS_yes h],x⟩
theorem trsame_any(f t:Int)(lth:List Th)(lsl:List Sc)(lsg:List Sg)(lfw:List Fw)(lsp:List Sp)(llo:List Lo)(xs:List Sm)(bs:List Bk)(A_ath:Option Addr)(n_ath c_ath:Nat)(A_asl:Option Addr)(n_asl c_asl:Nat)(A_asg:Option Addr)(n_asg c_asg:Nat)(A_afw:Option Addr)(n_afw c_afw:Nat)(A_asm:Option Addr)(n_asm c_asm:Nat)(A_asp:Option Addr)(n_asp c_asp:Nat)(A_abk:Option Addr)(n_abk c_abk:Nat)(A_alo:Option Addr)(n_alo c_alo:Nat)(ys:List Sm)(cs:List Bk)(A_bth:Option Addr)(n_bth c_bth:Nat)(A_bsl:Option Addr)(n_bsl c_bsl:Nat)(A_bsg:Option Addr)(n_bsg c_bsg:Nat)(A_bfw:Option Addr)(n_bfw c_bfw:Nat)(A_bsm:Option Addr)(n_bsm c_bsm:Nat)(A_bsp:Option Addr)(n_bsp c_bsp:Nat)(A_bbk:Option Addr)(n_bbk c_bbk:Nat)(A_blo:Option Addr)(n_blo c_blo:Nat)(w:World)(h_ath:Ls w A_ath n_ath c_ath Th.c 3 lth)(h_asl:Ls w A_asl n_asl c_asl Sc.c 8 lsl)(h_asg:Ls w A_asg n_asg c_asg Sg.c 7 lsg)(h_afw:Ls w A_afw n_afw c_afw Fw.c 7 lfw)(h_asm:Ls w A_asm n_asm c_asm Sm.c 4 xs)(g_asm:∀x∈xs,Ls w x.A x.n x.cp sc 1 x.st)(h_asp:Ls w A_asp n_asp c_asp Sp.c 3 lsp)(h_abk:Ls w A_abk n_abk c_abk Bk.c 7 bs)(g_abk:∀x∈bs,Ls w x.A x.k x.c_ sc 1 x.st)(h_alo:Ls w A_alo n_alo c_alo Lo.c 4 llo)(h_bth:Ls w A_bth n_bth c_bth Th.c 3 lth)(h_bsl:Ls w A_bsl n_bsl c_bsl Sc.c 8 lsl)(h_bsg:Ls w A_bsg n_bsg c_bsg Sg.c 7 lsg)(h_bfw:Ls w A_bfw n_bfw c_bfw Fw.c 7 lfw)(h_bsm:Ls w A_bsm n_bsm c_bsm Sm.c 4 ys)(g_bsm:∀x∈ys,Ls w x.A x.n x.cp sc 1 x.st)(h_bsp:Ls w A_bsp n_bsp c_bsp Sp.c 3 lsp)(h_bbk:Ls w A_bbk n_bbk c_bbk Bk.c 7 cs)(g_bbk:∀x∈cs,Ls w x.A x.k x.c_ sc 1 x.st)(h_blo:Ls w A_blo n_blo c_blo Lo.c 4 llo)(hsm:xs.map Sm.q=ys.map Sm.q)(hbk:bs.map eB=cs.map eB):
  Cr 10 #[.agg #[.int .i64 f,.int .i64 t,.slice A_ath n_ath c_ath,.slice A_asl n_asl c_asl,.slice A_asg n_asg c_asg,.slice A_afw n_afw c_afw,.slice A_asm n_asm c_asm,.slice A_asp n_asp c_asp,.slice A_abk n_abk c_abk,.slice A_alo n_alo c_alo],.agg #[.int .i64 f,.int .i64 t,.slice A_bth n_bth c_bth,.slice A_bsl n_bsl c_bsl,.slice A_bsg n_bsg c_bsg,.slice A_bfw n_bfw c_bfw,.slice A_bsm n_bsm c_bsm,.slice A_bsp n_bsp c_bsp,.slice A_bbk n_bbk c_bbk,.slice A_blo n_blo c_blo]] w (.bool true):=by
 have H:=(Hp.nil w);refine Wb Tryz.func10 ?_;refine go ?_;refine bx H fun g2 z H=> ?_;refine bx H fun g4 z H=> ?_;refine G7 ?_;refine yy (Yld.cast (Y.eqlS rfl eqg39 (eq39 _ _ _ _) rfl rfl) (vb (show((f==f)&&(t==t))=true from by simp))) ?_;refine G5 ?_;refine WL.guarded rfl rfl rfl ?_;refine c1 H Fh (eqT1_any _ _ _ lth _ _ _ _ (h_ath.ext H.ext) (h_bth.ext H.ext) rfl) fun z H=> ?_;refine yy (Y.pickT rfl rfl rfl) ?_;refine G5 ?_;refine WL.guarded rfl rfl rfl ?_;refine c1 H Fh (eqSl_any _ _ _ lsl _ _ _ lsl _ (h_asl.ext H.ext) (h_bsl.ext H.ext) rfl) fun z H=> ?_;refine yy (Y.pickT rfl rfl rfl) ?_;refine G5 ?_;refine WL.guarded rfl rfl rfl ?_;refine c1 H Fh (eqSg_any _ _ _ lsg _ _ _ lsg _ (h_asg.ext H.ext) (h_bsg.ext H.ext) rfl) fun z H=> ?_;refine yy (Y.pickT rfl rfl rfl) ?_;refine G5 ?_;refine WL.guarded rfl rfl rfl ?_;refine c1 H Fh (eqFw_any _ _ _ lfw _ _ _ lfw _ (h_afw.ext H.ext) (h_bfw.ext H.ext) rfl) fun z H=> ?_;refine yy (Y.pickT rfl rfl rfl) ?_;refine G5 ?_;refine WL.guarded rfl rfl rfl ?_;refine c1 H Fh (eqSp_any _ _ _ lsp _ _ _ lsp _ (h_asp.ext H.ext) (h_bsp.ext H.ext) rfl) fun z H=> ?_;refine yy (Y.pickT rfl rfl rfl) ?_;refine G5 ?_;refine WL.guarded rfl rfl rfl ?_;refine c1 H Fh (eqLo_any _ _ _ llo _ _ _ llo _ (h_alo.ext H.ext) (h_blo.ext H.ext) rfl) fun z H=> ?_;refine yy (Y.pickT rfl rfl rfl) ?_;refine G5 ?_;refine WL.guarded rfl rfl rfl ?_;refine c1 H Fh (eqSm1_any _ _ _ xs _ _ _ ys _ (h_asm.ext H.ext) (fun x hx=>(g_asm x hx).ext H.ext) (h_bsm.ext H.ext) (fun x hx=>(g_bsm x hx).ext H.ext) hsm) fun z H=> ?_;refine yy (Y.pickT rfl rfl rfl) ?_;refine G5 ?_;refine WL.guarded rfl rfl rfl ?_;refine c1 H Fh (eqBk1_any _ _ _ bs _ _ _ cs _ (h_abk.ext H.ext) (fun x hx=>(g_abk x hx).ext H.ext) (h_bbk.ext H.ext) (fun x hx=>(g_bbk x hx).ext H.ext) hbk) fun z H=> ?_;refine yy (Y.pickT rfl rfl rfl) ?_;refine G2 ?_;refine sb [4] ?_;refine go ?_;refine Rt [_] ?_;exact⟨rfl,H.ext⟩
def thC:List Th:=[⟨1,⟨#[97]⟩,0⟩]
def dmC:List Dm:=[⟨0,0⟩]
def esC:List Ev:=[⟨2,1,⟨#[102]⟩,0,0,none,0,0,[]⟩,⟨6,2,⟨#[]⟩,0,0,none,0,0,[]⟩]
def pkC(A:Option Addr):List Pk:=[⟨1,0,0,A,2,2,esC⟩]
def slC:List Sc:=[⟨1,-1,0,⟨#[102]⟩,2,6,4,false⟩]
theorem trC_e(A:Option Addr):trE thC dmC [] (pkC A)=0:=by kernel_rfl
theorem trC_s(A:Option Addr):slF (orL thC dmC [] (pkC A)) (tnF (orL thC dmC [] (pkC A)))=slC:=by kernel_rfl
theorem call_any(w:World):
  Calls Tryz.prog 11 #[] w fun e w'=>∃A1 A2 A3 A4,e= .returned (.agg #[.slice A1 1 1,.slice A2 1 1,.slice none 0 0,.slice A3 1 1])∧Ls w' A1 1 1 Th.c 3 thC∧Ls w' A2 1 1 Dm.c 2 dmC∧Ls w' A3 1 1 Pk.c 4 (pkC A4)∧Ls w' A4 2 2 Ev.c 6 esC∧Ext w w':=by
 have H:=(Hp.nil w);refine Wb Tryz.func11 ?_;refine go ?_;refine al H ti29 fun g2 z H=> ?_;refine go ?_;refine bs1 H u22 ti68 fun g5 z H=> ?_;refine go ?_;refine bs1 H u23 ti86 fun g7 z H=> ?_;refine go ?_;refine bs (zs:=[.int .i64 0,.int .i64 0,.string ⟨#[]⟩,.int .i64 0,.int .i64 0,.slice none 0 0,.int .i64 0,.int .i64 0,.string ⟨#[]⟩,.int .i64 0,.int .i64 0,.slice none 0 0]) (cs:=[_,_,_,_,_,_,_,_,_,_,_,_]) H u53 ti73 fun g9 z H=> ?_;refine go ?_;refine bs1 H u27 ti55 fun g11 z H=> ?_;refine go ?_;refine st H 4 ti29 fun z H=> ?_;refine go ?_;refine WK.ret [_] rfl ⟨⟨_,rfl,run_loadVar_blk u29 rfl ti29 (H.b 4)⟩,trivial⟩ ?_;exact⟨_,_,_,_,rfl,Ls.lit (l:=thC) (H.b 3) (fun _=>rfl) rfl Dc rfl,Ls.lit (l:=dmC) (H.b 2) (fun _=>rfl) rfl Dc rfl,Ls.lit (l:=pkC _) (H.b 0) (fun _=>rfl) rfl Dc rfl,Ls.lit (l:=esC) (H.b 1) (fun _=>rfl) rfl Dc rfl,H.ext⟩
def sl3(x:Option Addr×Nat×Nat):Value:=.slice x.1 x.2.1 x.2.2
theorem sl_row{α:Type}{w:World}{e:TypeId}{f:α→List Value}{sz:Nat}{v:Value}{l:List α}(h:(row e f sz v l).holds w):∃x,v=sl3 x:=by
 obtain⟨A,c,h,_⟩:=OwnL.form h;exact⟨(A,_,c),h⟩
theorem altr_any(A1 A2 A3 A4:Option Addr)(w:World)(h1:Ls w A1 1 1 Th.c 3 thC)(h2:Ls w A2 1 1 Dm.c 2 dmC)(h3:Ls w A3 1 1 Pk.c 4 (pkC A4))(h4:Ls w A4 2 2 Ev.c 6 esC):
  Calls Tryz.prog 9 #[.agg #[.slice A1 1 1,.slice A2 1 1,.slice none 0 0,.slice A3 1 1]] w fun e w'=>∃v x2 x3 x4 x5 x6 x7 x8,∃t:Int,e= .returned (.tuple #[.agg #[.int .i64 0,.int .i64 t,sl3 x8,v,sl3 x2,sl3 x3,sl3 x4,sl3 x5,sl3 x6,sl3 x7],.int .i64 0])∧Hp w w' [row 58 Sc.c 8 v slC]:=by
 have hp:PksOk w (pkC A4):=fun x hx=>by
  rw[List.mem_singleton.1 hx];refine⟨h4,fun y hy=> ?_⟩;rcases List.mem_cons.1 hy with rfl|hy
  ·exact Ls.nil Dc
  ·rw[List.mem_singleton.1 hy];exact Ls.nil Dc
 refine(trace_any A1 1 1 thC A2 1 1 dmC none 0 0 [] A3 1 1 (pkC A4) w h1 h2 (Ls.nil Dc) h3 hp (fun x hx=>by rw[List.mem_singleton.1 hx];show 2≤1000000;omega) Dc Dc (by show 2≤24;omega) Dc).mono fun e w' h=> ?_;obtain⟨tv,rfl,x,_,h⟩:=h;obtain⟨v1,v2,v3,v4,v5,v6,v7,xs,rfl,H,hx⟩:=h (trC_e A4);obtain⟨x2,rfl⟩:=sl_row (H.get (k:=1) rfl);obtain⟨x3,rfl⟩:=sl_row (H.get (k:=2) rfl);obtain⟨x4,rfl⟩:=sl_row (H.get (k:=3) rfl);obtain⟨x5,rfl⟩:=sl_row (H.get (k:=5) rfl);obtain⟨x6,rfl⟩:=sl_row (H.get (k:=6) rfl);obtain⟨x7,rfl⟩:=sl_row (H.get (k:=7) rfl);exact⟨v1,x2,x3,x4,x5,x6,x7,(A1,1,1),_,by rw[trC_e];rfl,by rw[←trC_s A4];exact H.pick [0]⟩
section
theorem map_same{α β:Type}[Inhabited α](f:α→β){l:List α}{i:Nat}{y:α}(h:f y=f l[i]!):(l.set i y).map f=l.map f:=by
 rw[List.map_set,h];refine List.ext_getElem (by simp) fun k a b=> ?_;rw[List.getElem_set];split
 ·rename_i e;subst e;rw[List.getElem_map,getElem!_pos]
 ·rfl
def bstF(y:Bk):Option Addr×Nat×Nat×List ByteArray:=(y.A,y.k,y.c_,y.st)
theorem mmC_bs(s:List (Int×Int)×List Bk)(x:Tm):∀a,(mmC s x a).2.map bstF=s.2.map bstF
 |none=>rfl
 |some i=>map_same bstF rfl
theorem mmN_bs(en:Int)(o:List Tm):∀j,j≤o.length→∀y∈(mmN en o j).2.map bstF,∃x∈o,y=(x.A,x.k,x.c_,x.st)
 |0,_=>fun y hy=>by cases hy
 |j+1,hj=>by
  have ih:=mmN_bs en o j Om;have hx:o[j]!∈o:=mem_b Om;show∀y∈(mm1 en (mmN en o j) o[j]!).2.map bstF,_;unfold mm1;split
  ·exact ih
  ·split
   ·show∀y∈((mmC _ _ _).2++_).map bstF,_;rw[List.map_append,mmC_bs];intro y hy;rcases List.mem_append.1 hy with q|q
    ·exact ih y q
    ·exact⟨_,hx,List.mem_singleton.1 q⟩
   ·rw[mmC_bs];exact ih
theorem mmF_ls{w:World}{o:List Tm}{en:Int}(h:∀x∈o,Ls w x.A x.k x.c_ sc 1 x.st):∀y∈mmF o en,Ls w y.A y.k y.c_ sc 1 y.st:=fun y hy=>by
 have h1:=(stabF_perm (c:=cmpBk) _).mem_iff.1 hy;have h2:=(List.mem_filter.1 h1).1;obtain⟨x,hx,e⟩:=mmN_bs _ o o.length Nl _ (List.mem_map_of_mem (f:=bstF) h2);injection e with e1 e
 injection e with e2 e
 injection e with e3 e4
 rw[e1,e2,e3,e4];exact h x hx
def TqD(t:List Th)(d:List Dm)(s:List Sn)(l:List Pk)(E tn:Int)(lth:List Th)(lsl:List Sc)(lsg:List Sg)(lfw:List Fw)(sq:List Sq)(lsp:List Sp)(bq:List Bk)(llo:List Lo):Prop:=
 trE t d s l=E∧(E=0→tn=tnF (orL t d s l)∧lth=t∧lsl=slF (orL t d s l) (tnF (orL t d s l))∧lsg=stOf t (orL t d s l) (tnF (orL t d s l))∧lfw=flF (orL t d s l)∧sq=smFo (orL t d s l)∧lsp=coF (orL t d s l)∧bq=(mmF (orL t d s l) (tnF (orL t d s l))).map eB∧llo=lsF (orL t d s l))∧
  (E≠0→tn=0∧lth=[]∧lsl=[]∧lsg=[]∧lfw=[]∧sq=[]∧lsp=[]∧bq=[]∧llo=[])
theorem tq_ex(t:List Th)(d:List Dm)(s:List Sn)(l:List Pk):∃E tn lth lsl lsg lfw sq lsp bq llo,TqD t d s l E tn lth lsl lsg lfw sq lsp bq llo:=by
 by_cases h:trE t d s l=0
 ·exact⟨0,_,_,_,_,_,_,_,_,_,h,fun _=>⟨rfl,rfl,rfl,rfl,rfl,rfl,rfl,rfl,rfl⟩,fun q=>absurd rfl q⟩
 ·exact⟨_,_,_,_,_,_,_,_,_,_,rfl,fun q=>absurd q h,fun _=>⟨rfl,rfl,rfl,rfl,rfl,rfl,rfl,rfl,rfl⟩⟩
variable{t:List Th}{d:List Dm}{s:List Sn}{l:List Pk}{E tn:Int}{lth:List Th}{lsl:List Sc}{lsg:List Sg}{lfw:List Fw}{sq:List Sq}{lsp:List Sp}{bq:List Bk}{llo:List Lo}
theorem tq_same{m:List Pk}(h:l.map eP=m.map eP)(q:TqD t d s l E tn lth lsl lsg lfw sq lsp bq llo):TqD t d s m E tn lth lsl lsg lfw sq lsp bq llo:=by
 obtain⟨a1,a2,a3,a4,a5,a6,a7,a8,a9⟩:=tab_eq (t:=t) (d:=d) (s:=s) h;unfold TqD at q;rwa[a1,a3,a4,a5,a6,a7,a8,a9,a2]at q
def TrD(w:World)(E tn:Int)(lth:List Th)(lsl:List Sc)(lsg:List Sg)(lfw:List Fw)(sq:List Sq)(lsp:List Sp)(bq:List Bk)(llo:List Lo)(e:Ending)(w':World):Prop:=
 ∃A1 n1 c1 A2 n2 c2 A3 n3 c3 A4 n4 c4 A5 n5 c5 A6 n6 c6 A7 n7 c7 A8 n8 c8 xs bs,e= .returned (.tuple #[.agg #[.int .i64 0,.int .i64 tn,.slice A1 n1 c1,.slice A2 n2 c2,.slice A3 n3 c3,.slice A4 n4 c4,.slice A5 n5 c5,.slice A6 n6 c6,.slice A7 n7 c7,.slice A8 n8 c8],.int .i64 E])∧Ext w w'∧
  Ls w' A1 n1 c1 Th.c 3 lth∧Ls w' A2 n2 c2 Sc.c 8 lsl∧Ls w' A3 n3 c3 Sg.c 7 lsg∧Ls w' A4 n4 c4 Fw.c 7 lfw∧Ls w' A5 n5 c5 Sm.c 4 xs∧(∀x∈xs,Ls w' x.A x.n x.cp sc 1 x.st)∧xs.map Sm.q=sq∧Ls w' A6 n6 c6 Sp.c 3 lsp∧Ls w' A7 n7 c7 Bk.c 7 bs∧(∀x∈bs,Ls w' x.A x.k x.c_ sc 1 x.st)∧bs.map eB=bq∧Ls w' A8 n8 c8 Lo.c 4 llo
theorem op_ls{α:Type}{w:World}{e:TypeId}{f:α→List Value}{sz:Nat}{v:Value}{l:List α}(h:(row e f sz v l).holds w)(hf:∀x,(f x).length=sz)(hp:0<sz):∃A n c,v= .slice A n c∧Ls w A n c f sz l:=by
 obtain⟨A,c,rfl,_⟩:=OwnL.form h;exact⟨A,_,c,rfl,OwnL.ls h hf hp⟩
theorem trD_any(A_ta:Option Addr)(n_ta c_ta:Nat)(ta:List Th)(A_da:Option Addr)(n_da c_da:Nat)(da:List Dm)(A_na:Option Addr)(n_na c_na:Nat)(na:List Sn)(A_pa:Option Addr)(n_pa c_pa:Nat)(pa:List Pk)(w:World)(h_ta:Ls w A_ta n_ta c_ta Th.c 3 ta)(h_da:Ls w A_da n_da c_da Dm.c 2 da)(h_na:Ls w A_na n_na c_na Sn.c 5 na)(h_pa:Ls w A_pa n_pa c_pa Pk.c 4 pa)(g_pa:PksOk w pa)(hk:∀x∈pa,x.k≤1000000)(hl:n_pa≤40)(ht:n_ta≤10)(he:evsum pa pa.length≤24)(hsn:n_na≤12)(q:TqD ta da na pa E tn lth lsl lsg lfw sq lsp bq llo):
  Calls Tryz.prog 9 #[.agg #[.slice A_ta n_ta c_ta,.slice A_da n_da c_da,.slice A_na n_na c_na,.slice A_pa n_pa c_pa]] w (TrD w E tn lth lsl lsg lfw sq lsp bq llo):=by
 refine(trace_any A_ta n_ta c_ta ta A_da n_da c_da da A_na n_na c_na na A_pa n_pa c_pa pa w h_ta h_da h_na h_pa g_pa hk Om Om he hsn).mono fun e w' h=> ?_;obtain⟨tv,rfl,x,h1,h2⟩:=h;obtain⟨q1,q2,q3⟩:=q;rw[q1]at h1 h2 ⊢;by_cases e0:E=0
 ·obtain⟨v1,v2,v3,v4,v5,v6,v7,xs,rfl,H,hx⟩:=h2 e0;obtain⟨rfl,rfl,rfl,rfl,rfl,rfl,rfl,rfl,rfl⟩:=q2 e0;obtain⟨_,_,_,rfl,L1⟩:=op_ls (H.get (k:=0) rfl) (fun _=>rfl) Dc;obtain⟨_,_,_,rfl,L2⟩:=op_ls (H.get (k:=1) rfl) (fun _=>rfl) Dc;obtain⟨_,_,_,rfl,L3⟩:=op_ls (H.get (k:=2) rfl) (fun _=>rfl) Dc;obtain⟨_,_,_,rfl,L4⟩:=op_ls (H.get (k:=3) rfl) (fun _=>rfl) Dc;obtain⟨_,_,_,rfl,L5⟩:=op_ls (H.get (k:=5) rfl) (fun _=>rfl) Dc;obtain⟨_,_,_,rfl,L6⟩:=op_ls (H.get (k:=6) rfl) (fun _=>rfl) Dc;obtain⟨_,_,_,rfl,L7⟩:=op_ls (H.get (k:=7) rfl) (fun _=>rfl) Dc;have hs:∀y∈orL lth da na pa,Ls w' y.A y.k y.c_ sc 1 y.st:=fun y hy=>by
   obtain⟨p,hp,_,h⟩:=orL_ev y hy;exact((g_pa p hp).e _ h).ext x
  exact⟨_,_,_,_,_,_,_,_,_,_,_,_,_,_,_,_,_,_,_,_,_,_,_,_,xs,_,rfl,x,h_ta.ext x,L1,L2,L3,L4,fun y hy=>by
   obtain⟨j,hj,rfl⟩:=mem_at hy;exact(show OwnL w' 0 9 sc 1 (.slice _ _ _) _ from(H.get (k:=4) rfl).1 (row 9 sc 1 (.slice xs[j]!.A xs[j]!.n xs[j]!.cp) xs[j]!.st) (List.mem_flatMap.2 ⟨_,mem_b hj,List.mem_cons_self⟩)).ls (fun _=>rfl) Dc,hx,L5,L6,mmF_ls hs,rfl,L7⟩
 ·rw[h1 e0];obtain⟨rfl,rfl,rfl,rfl,rfl,rfl,rfl,rfl,rfl⟩:=q3 e0;exact⟨_,_,_,_,_,_,_,_,_,_,_,_,_,_,_,_,_,_,_,_,_,_,_,_,[],[],rfl,x,Ls.nil Dc,Ls.nil Dc,Ls.nil Dc,Ls.nil Dc,Ls.nil Dc,(fun y hy=>by cases hy),rfl,Ls.nil Dc,Ls.nil Dc,(fun y hy=>by cases hy),rfl,Ls.nil Dc⟩
end
def wsum(l:List Pk)(j:Nat):Int:=fN (fun n p=>IntKind.i64.wrap (n+(p.k:Int))) 0 l j
def shW(t:List Th)(d:List Dm)(s:List Sn)(p:List Pk)(n:Int):Bool:=(((decide (wsum p p.length≤n)&&decide ((p.length:Int)≤40))&&decide ((t.length:Int)≤10))&&decide ((d.length:Int)≤10))&&decide ((s.length:Int)≤12)
theorem short2_any(A_ta:Option Addr)(n_ta c_ta:Nat)(ta:List Th)(A_da:Option Addr)(n_da c_da:Nat)(da:List Dm)(A_na:Option Addr)(n_na c_na:Nat)(na:List Sn)(A_pa:Option Addr)(n_pa c_pa:Nat)(pa:List Pk)(n:Int)(w:World)(h_ta:Ls w A_ta n_ta c_ta Th.c 3 ta)(h_da:Ls w A_da n_da c_da Dm.c 2 da)(h_na:Ls w A_na n_na c_na Sn.c 5 na)(h_pa:Ls w A_pa n_pa c_pa Pk.c 4 pa)(g_pa:PksOk w pa):
  Cr 4 #[.agg #[.slice A_ta n_ta c_ta,.slice A_da n_da c_da,.slice A_na n_na c_na,.slice A_pa n_pa c_pa],.int .i64 n] w (.bool (shW ta da na pa n)):=by
 have H:=(Hp.nil w);have e_ta:=h_ta.len;have z_ta:=h_ta.nle;have e_da:=h_da.len;have z_da:=h_da.nle;have e_na:=h_na.len;have z_na:=h_na.nle;have e_pa:=h_pa.len;have z_pa:=h_pa.nle;refine Wb Tryz.func4 ?_;refine go ?_;refine bx H fun g2 z H=> ?_;refine go ?_;refine sb [11,5,1,2,9,10] ?_;refine WC.loopS 2 (fun mz Ed W'=>∃j:Nat,mz=n_pa-j∧Ed=[(11,.int .i64 ((j:Nat):Int)),(5,.int .i64 (wsum pa j))]∧Hp w W' (_::[])∧(j≤n_pa)) _ ⟨0,rfl,rfl,(H.pick [0]),(Nat.zero_le _)⟩ ?_;rintro _ _ z ⟨j,rfl,rfl,H,jl⟩;refine go ?_;refine Cd (fun p9=> ?_) fun p9=> ?_
 ·have b12:j<n_pa:=Om;refine go ?_;refine al H ti55 fun g13 z H=> ?_;refine st H 0 ti55 fun z H=> ?_;refine G6 ?_;refine yy (Y.add rfl rfl rfl rfl) ?_;refine go ?_;exact Rs [(11,_),(5,_)] Sx ⟨(j+1),rfl,rfl,(H.pick [1]),Om⟩
 ·refine G30 ?_;refine G8 ?_;refine sb [4] ?_;refine go ?_;refine Rt [_] ?_;exact⟨ret1 (vb (by unfold shW;rw[e_ta,e_da,e_na,e_pa,show n_pa=j from Om])),H.ext⟩
theorem wsum_ev{l:List Pk}(h:∀x∈l,x.k≤1000)(hl:l.length≤40):∀j,j≤l.length→wsum l j=((evsum l j:Nat):Int)∧evsum l j≤1000*j
 |0,_=>⟨rfl,Nat.le_refl _⟩
 |j+1,hj=>by
  obtain⟨a,b⟩:=wsum_ev h hl j Om;have hk:=h _ (mem_b (show j<l.length by omega));rw[evsum_mono];refine⟨?_,Om⟩;show IntKind.i64.wrap (wsum l j+((l[j]!.k:Nat):Int))=_;rw[a,wrap_i64 Om];omega
theorem shW_num{t:List Th}{d:List Dm}{s:List Sn}{p:List Pk}{n:Int}(h:shW t d s p n=true):p.length≤40∧t.length≤10∧d.length≤10∧s.length≤12:=by
 unfold shW at h;simp only[Bool.and_eq_true,decide_eq_true_eq]at h;omega
theorem shW_ev{t:List Th}{d:List Dm}{s:List Sn}{p:List Pk}{n:Int}(h:shW t d s p n=true)(hk:∀x∈p,x.k≤1000):((evsum p p.length:Nat):Int)≤n:=by
 have a:=shW_num h;unfold shW at h;simp only[Bool.and_eq_true,decide_eq_true_eq]at h;have:=(wsum_ev hk Om p.length Nl).1;omega
theorem lch_big{ids:List Int}{l:List Pk}(h:∃x∈l,1000<x.k):lchE ids l≠0:=fun e=>by
 obtain⟨x,hx,hk⟩:=h;obtain⟨j,hj,rfl⟩:=mem_at hx;have h2:tlE ids (tlN ids l j) l[j]! =0:=lch_zero e j hj;unfold tlE at h2;split at h2
 ·rename_i q;exact absurd h2 q
 ·rename_i q;have:=(pk_ok (Decidable.of_not_not q)).k.2;omega
theorem of_big{ths:List Th}{d:List Dm}{s:List Sn}{l:List Pk}(h:lchE (ths.map (·.id)) l≠0):ofE ths d s l≠0:=by
 unfold ofE;split
 ·assumption
 ·exact h
theorem lgOfB_any(A_ths:Option Addr)(n_ths c_ths:Nat)(ths:List Th)(A_ds:Option Addr)(n_ds c_ds:Nat)(ds:List Dm)(A_sn:Option Addr)(n_sn c_sn:Nat)(sn:List Sn)(A_l:Option Addr)(n_l c_l:Nat)(l:List Pk)(w:World)(h_ths:Ls w A_ths n_ths c_ths Th.c 3 ths)(h_ds:Ls w A_ds n_ds c_ds Dm.c 2 ds)(h_sn:Ls w A_sn n_sn c_sn Sn.c 5 sn)(h_l:Ls w A_l n_l c_l Pk.c 4 l)(g_l:PksOk w l)(hl:n_l≤1000)(hx:lchE (ths.map (·.id)) l≠0):
  Cr 22 #[.agg #[.slice A_ths n_ths c_ths,.slice A_ds n_ds c_ds,.slice A_sn n_sn c_sn],.slice A_l n_l c_l] w (.tuple #[.agg #[.slice none 0 0,.slice none 0 0,.slice none 0 0,.slice none 0 0],.int .i64 (ofE ths ds sn l)]):=by
 have H:=(Hp.nil w);have e_ths:=h_ths.len;have z_ths:=h_ths.nle;have e_ds:=h_ds.len;have z_ds:=h_ds.nle;have e_sn:=h_sn.len;have z_sn:=h_sn.nle;have e_l:=h_l.len;have z_l:=h_l.nle;refine Wb Tryz.func22 ?_;refine go ?_;refine bx H fun g2 z H=> ?_;refine al H ti29 fun g4 z H=> ?_;refine go ?_;refine c1 H Fh (head_any _ _ _ _ _ _ _ _ _ _ _ _ _ (h_ths.ext H.ext) (h_ds.ext H.ext) (h_sn.ext H.ext)) fun z H=> ?_;refine go ?_;refine Cd (fun p9=> ?_) fun p9=> ?_
 ·refine go ?_;refine st H 0 ti29 fun z H=> ?_;refine go ?_;refine WK.ret [_,_] rfl ⟨⟨_,rfl,run_loadVar_blk u29 rfl ti29 (H.b 0)⟩,rfl,trivial⟩ ?_;exact⟨(by rw[show ofE ths ds sn l=_ from(ite_to p9 rfl)];exact rfl),H.ext⟩
 ·refine go ?_;refine c1 H Fh (lgchk_any _ _ _ _ _ _ _ _ _ _ _ _ _ _ _ _ _ (h_ths.ext H.ext) (h_ds.ext H.ext) (h_sn.ext H.ext) (h_l.ext H.ext) (g_l.ext H.ext) (hd_nodup (Decidable.of_not_not (fun q=>q p9))) hl) fun z H=> ?_;refine G4 ?_;refine yy (Yld.cast (Y.neq rfl rfl rfl) (vb (bne_iff_ne.2 hx))) ?_;refine go ?_;refine WC.condT rfl ?_;refine go ?_;refine st H 0 ti29 fun z H=> ?_;refine go ?_;refine WK.ret [_,_] rfl ⟨⟨_,rfl,run_loadVar_blk u29 rfl ti29 (H.b 0)⟩,rfl,trivial⟩ ?_;exact⟨(by rw[show ofE ths ds sn l=_ from(ite_no (fun q=>q p9) rfl)];exact rfl),H.ext⟩
theorem lgcheckB_any(A_ta:Option Addr)(n_ta c_ta:Nat)(ta:List Th)(A_da:Option Addr)(n_da c_da:Nat)(da:List Dm)(A_na:Option Addr)(n_na c_na:Nat)(na:List Sn)(A_pa:Option Addr)(n_pa c_pa:Nat)(pa:List Pk)(w:World)(h_ta:Ls w A_ta n_ta c_ta Th.c 3 ta)(h_da:Ls w A_da n_da c_da Dm.c 2 da)(h_na:Ls w A_na n_na c_na Sn.c 5 na)(h_pa:Ls w A_pa n_pa c_pa Pk.c 4 pa)(g_pa:PksOk w pa)(hl:n_pa≤1000)(hx:lchE (ta.map (·.id)) pa≠0)(hE:ofE ta da na pa≠0):
  Cr 12 #[.agg #[.slice A_ta n_ta c_ta,.slice A_da n_da c_da,.slice A_na n_na c_na,.slice A_pa n_pa c_pa]] w (.int .i64 (ofE ta da na pa)):=by
 have H:=(Hp.nil w);have e_ta:=h_ta.len;have z_ta:=h_ta.nle;have e_da:=h_da.len;have z_da:=h_da.nle;have e_na:=h_na.len;have z_na:=h_na.nle;have e_pa:=h_pa.len;have z_pa:=h_pa.nle;refine Wb Tryz.func12 ?_;refine go ?_;refine bx H fun g2 z H=> ?_;refine G2 ?_;refine sb [1] ?_;refine go ?_;refine c1 H Fh (lgOfB_any _ _ _ _ _ _ _ _ _ _ _ _ _ _ _ _ _ (h_ta.ext H.ext) (h_da.ext H.ext) (h_na.ext H.ext) (h_pa.ext H.ext) (g_pa.ext H.ext) Om hx) fun z H=> ?_;refine go ?_;refine al H ti29 fun g5 z H=> ?_;refine st H 0 ti29 fun z H=> ?_;refine G5 ?_;refine yy (Yld.cast (Y.eql rfl rfl rfl) (vb (beq_eq_false_iff_ne.2 hE))) ?_;refine G5 ?_;refine yy (Y.pickF rfl rfl rfl) ?_;refine go ?_;refine WC.condF rfl ?_;refine go ?_;refine Rt [_] ?_;exact⟨rfl,H.ext⟩
theorem exportB_any(A_ta:Option Addr)(n_ta c_ta:Nat)(ta:List Th)(A_da:Option Addr)(n_da c_da:Nat)(da:List Dm)(A_na:Option Addr)(n_na c_na:Nat)(na:List Sn)(A_pa:Option Addr)(n_pa c_pa:Nat)(pa:List Pk)(w:World)(h_ta:Ls w A_ta n_ta c_ta Th.c 3 ta)(h_da:Ls w A_da n_da c_da Dm.c 2 da)(h_na:Ls w A_na n_na c_na Sn.c 5 na)(h_pa:Ls w A_pa n_pa c_pa Pk.c 4 pa)(g_pa:PksOk w pa)(hl:n_pa≤1000)(hx:lchE (ta.map (·.id)) pa≠0)(hE:ofE ta da na pa≠0):
  Cr 6 #[.agg #[.slice A_ta n_ta c_ta,.slice A_da n_da c_da,.slice A_na n_na c_na,.slice A_pa n_pa c_pa]] w (.tuple #[.string ⟨#[]⟩,.int .i64 (ofE ta da na pa)]):=by
 have H:=(Hp.nil w);have e_ta:=h_ta.len;have z_ta:=h_ta.nle;have e_da:=h_da.len;have z_da:=h_da.nle;have e_na:=h_na.len;have z_na:=h_na.nle;have e_pa:=h_pa.len;have z_pa:=h_pa.nle;refine Wb Tryz.func6 ?_;refine go ?_;refine bx H fun g2 z H=> ?_;refine go ?_;refine c1 H Fh (lgcheckB_any _ _ _ _ _ _ _ _ _ _ _ _ _ _ _ _ _ (h_ta.ext H.ext) (h_da.ext H.ext) (h_na.ext H.ext) (h_pa.ext H.ext) (g_pa.ext H.ext) Om hx hE) fun z H=> ?_;refine G4 ?_;refine yy (Yld.cast (Y.neq rfl rfl rfl) (vb (bne_iff_ne.2 hE))) ?_;refine go ?_;refine WC.condT rfl ?_;refine G5 ?_;refine sb [2,3] ?_;refine go ?_;refine Rt [_,_] ?_;exact⟨rfl,H.ext⟩
theorem Vd.up:∀{d:Nat} {x:J},Vd d x→Vd (d+1) x
 |0,_,h=>h.elim
 |d+1,x,h=>by
  rcases h with h|h|⟨h1,h2,h3,h4,h5⟩|⟨h1,h2,h3,h4,h5,h6⟩
  ·exact .inl h
  ·exact .inr (.inl h)
  ·exact .inr (.inr (.inl ⟨h1,h2,h3,h4,fun y hy=>(h5 y hy).up⟩))
  ·exact .inr (.inr (.inr ⟨h1,h2,h3,h4,h5,fun y hy=>(h6 y hy).up⟩))
theorem Vd.by{d:Nat}{x:J}(h:Vd d x):∀k,Vd (d+k) x
 |0=>h
 |k+1=>(h.by k).up
theorem lgSame_of{t:List Th}{d:List Dm}{s:List Sn}{l m:List Pk}(h:eqW pkSame l m=true):lgSame t t d d s s l m=true:=by
 unfold lgSame;rw[h,eqW_refl thSame_refl,eqW_refl (fun x=>by unfold dmSame;simp),eqW_refl (fun x=>by unfold snSame;simp)];rfl
structure Im(l m:List Pk):Prop where
 ie:l.map eP=m.map eP
 il:m.length=l.length
 is:eqW pkSame l m=true
 ik:∀K,(∀x∈l,x.k≤K)→∀x∈m,x.k≤K
 iv:evsum m m.length=evsum l l.length
theorem im_of{w:World}{l m:List Pk}(hl:LgL l)(g:PksOk w m)(h:(m.map Pk.pp).map eR=(l.map Pk.pp).map eR):Im l m:=by
 have e:l.map eP=m.map eP:=eP_of (fun p hp=>(hl p hp).1) (fun p hp=>(lgL g p hp).1) h.symm;have n:m.length=l.length:=by have:=congrArg List.length e;simpa using this.symm
 refine⟨e,n,pk_same h.symm,fun K hK x hx=> ?_,by rw[←evsum_e,←e,n,evsum_e]⟩;have hx:=List.mem_map_of_mem (f:=eP) hx;rw[←e]at hx;obtain⟨y,hy,q⟩:=List.mem_map.1 hx;have:=hK y hy;rw[←show y.k=x.k from(congrArg Pk.k q:(eP y).k=(eP x).k)];exact this
structure Xq(t:List Th)(d:List Dm)(s:List Sn)(l:List Pk)(b:ByteArray):Prop where
 xg:lgE t d s l=0
 xd:d.length≤1
 xs:s=[]
 xl:∀x∈l,x.ls≤0
 xb:b=⟨(pr (allJ t l)).toArray⟩
 xz:(pr (allJ t l)).length≤65536
 xk:∀x∈l,x.k≤1000000
 xe:evsum l l.length≤24
theorem exp2_any(A_ta:Option Addr)(n_ta c_ta:Nat)(ta:List Th)(A_da:Option Addr)(n_da c_da:Nat)(da:List Dm)(A_na:Option Addr)(n_na c_na:Nat)(na:List Sn)(A_pa:Option Addr)(n_pa c_pa:Nat)(pa:List Pk)(w:World)(h_ta:Ls w A_ta n_ta c_ta Th.c 3 ta)(h_da:Ls w A_da n_da c_da Dm.c 2 da)(h_na:Ls w A_na n_na c_na Sn.c 5 na)(h_pa:Ls w A_pa n_pa c_pa Pk.c 4 pa)(g_pa:PksOk w pa)(hT:Tabs w)(hb:shW ta da na pa 24=true):
  Calls Tryz.prog 6 #[.agg #[.slice A_ta n_ta c_ta,.slice A_da n_da c_da,.slice A_na n_na c_na,.slice A_pa n_pa c_pa]] w fun e w'=>∃s er,e= .returned (.tuple #[.string s,.int .i64 er])∧Ext w w'∧(er=0→Xq ta da na pa s):=by
 have e_ta:=h_ta.len;have e_pa:=h_pa.len;have b:=shW_num hb;by_cases hk:∀x∈pa,x.k≤1000
 ·have he:=shW_ev hb hk;have hk2:∀x∈pa,x.k≤1000000:=fun x hx=>by have:=hk x hx;omega
  exact(export_any A_ta n_ta c_ta ta A_da n_da c_da da A_na n_na c_na na A_pa n_pa c_pa pa w h_ta h_da h_na h_pa g_pa hk2 Om Om Om hT Om Om).mono fun e w' ⟨s,er,h,x,hq⟩=>⟨s,er,h,x,fun e0=>⟨(hq e0).1.1,(hq e0).1.2.1,(hq e0).1.2.2.1,(hq e0).1.2.2.2,(hq e0).2.1,(hq e0).2.2,hk2,Om⟩⟩
 ·have hB:∃x∈pa,1000<x.k:=Classical.byContradiction fun q=>hk fun x hx=>Nat.le_of_not_lt fun c=>q ⟨x,hx,c⟩;exact(exportB_any A_ta n_ta c_ta ta A_da n_da c_da da A_na n_na c_na na A_pa n_pa c_pa pa w h_ta h_da h_na h_pa g_pa Om (lch_big hB) (of_big (lch_big hB))).mono fun e w' ⟨h,x⟩=>⟨_,_,h,x,fun q=>absurd q (of_big (lch_big hB))⟩
theorem alive_any(w:World):
  Cr 5 #[] w (.bool true):=by
 have H:=(Hp.nil w);refine Wb Tryz.func5 ?_;refine go ?_;refine c3 Fh (call_any _) ?_;rintro _ w1 ⟨A1,A2,A3,A4,rfl,h1,h2,h3,h4,x1⟩;have H:=H.ex x1;refine⟨_,rfl,?_⟩;refine c3 Fh (altr_any _ _ _ _ _ h1 h2 h3 h4) ?_;rintro _ w2 ⟨v1,x2,x3,x4,x5,x6,x7,x8,t,rfl,K⟩;have H:=H.join K;have e_sl:slC.length=1:=rfl;have e_s0:slC[0]!.se=4:=rfl;refine⟨_,rfl,?_⟩;refine go ?_;refine al H ti48 fun g4 z H=> ?_;obtain⟨A6,n7,c8,rfl,_,_,_⟩:=H.op 1;refine st H 0 ti48 fun z H=> ?_;refine G4 ?_;refine Kd ?_;refine G3 ?_;refine WL.yldW rfl (blt rfl) rfl rfl rfl (Y.lenSl rfl rfl rfl u40 rfl) ?_;refine WL.yldW rfl (blt rfl) rfl rfl rfl (Yld.cast (Y.eql rfl rfl rfl) (vb (beq_iff_eq.2 Om))) ?_;refine yy (Y.pickT rfl rfl rfl) ?_;have b10:0<n7:=Om;refine G3 ?_;refine WL.yldW rfl (blt rfl) rfl rfl rfl (Y.indexLs 0 (H.l 1) rfl u40 ti58 rfl rfl rfl b10) ?_;refine G2 ?_;refine WL.yldW rfl (blt rfl) rfl rfl rfl (Yld.cast (Y.eql rfl rfl rfl) (vb (beq_iff_eq.2 Om))) ?_;refine yy (Y.pickT rfl rfl rfl) ?_;refine go ?_;refine Rt [_] ?_;exact⟨rfl,H.ext⟩
theorem lgsT_any(A_ta:Option Addr)(n_ta c_ta:Nat)(ta:List Th)(A_da:Option Addr)(n_da c_da:Nat)(da:List Dm)(A_na:Option Addr)(n_na c_na:Nat)(na:List Sn)(A_pa:Option Addr)(n_pa c_pa:Nat)(pa:List Pk)(A_tb:Option Addr)(n_tb c_tb:Nat)(A_db:Option Addr)(n_db c_db:Nat)(A_nb:Option Addr)(n_nb c_nb:Nat)(A_pb:Option Addr)(n_pb c_pb:Nat)(pb:List Pk)(w:World)(h_ta:Ls w A_ta n_ta c_ta Th.c 3 ta)(h_da:Ls w A_da n_da c_da Dm.c 2 da)(h_na:Ls w A_na n_na c_na Sn.c 5 na)(h_pa:Ls w A_pa n_pa c_pa Pk.c 4 pa)(g_pa:PksOk w pa)(h_tb:Ls w A_tb n_tb c_tb Th.c 3 ta)(h_db:Ls w A_db n_db c_db Dm.c 2 da)(h_nb:Ls w A_nb n_nb c_nb Sn.c 5 na)(h_pb:Ls w A_pb n_pb c_pb Pk.c 4 pb)(g_pb:PksOk w pb)(h:eqW pkSame pa pb=true):
  Cr 8 #[.agg #[.slice A_ta n_ta c_ta,.slice A_da n_da c_da,.slice A_na n_na c_na,.slice A_pa n_pa c_pa],.agg #[.slice A_tb n_tb c_tb,.slice A_db n_db c_db,.slice A_nb n_nb c_nb,.slice A_pb n_pb c_pb]] w (.bool true):=
 (lgsame_any _ _ _ ta _ _ _ da _ _ _ na _ _ _ pa _ _ _ ta _ _ _ da _ _ _ na _ _ _ pb w h_ta h_da h_na h_pa g_pa h_tb h_db h_nb h_pb g_pb).mono fun e w' ⟨he,x⟩=>⟨by rw[he,lgSame_of h],x⟩
theorem top_any(A_ta:Option Addr)(n_ta c_ta:Nat)(ta:List Th)(A_da:Option Addr)(n_da c_da:Nat)(da:List Dm)(A_na:Option Addr)(n_na c_na:Nat)(na:List Sn)(A_pa:Option Addr)(n_pa c_pa:Nat)(pa:List Pk)(w:World)(h_ta:Ls w A_ta n_ta c_ta Th.c 3 ta)(h_da:Ls w A_da n_da c_da Dm.c 2 da)(h_na:Ls w A_na n_na c_na Sn.c 5 na)(h_pa:Ls w A_pa n_pa c_pa Pk.c 4 pa)(g_pa:PksOk w pa)(hT:Tabs w):
  Cr 3 #[.agg #[.slice A_ta n_ta c_ta,.slice A_da n_da c_da,.slice A_na n_na c_na,.slice A_pa n_pa c_pa]] w (.bool true):=by
 have H:=(Hp.nil w);have e_ta:=h_ta.len;have z_ta:=h_ta.nle;have e_da:=h_da.len;have z_da:=h_da.nle;have e_na:=h_na.len;have z_na:=h_na.nle;have e_pa:=h_pa.len;have z_pa:=h_pa.nle;refine Wb Tryz.func3 ?_;refine go ?_;refine bx H fun g2 z H=> ?_;refine go ?_;refine c1 H Fh (short2_any _ _ _ ta _ _ _ da _ _ _ na _ _ _ pa 24 _ (h_ta.ext H.ext) (h_da.ext H.ext) (h_na.ext H.ext) (h_pa.ext H.ext) (g_pa.ext H.ext)) fun z H=> ?_;refine go ?_;refine WC.cond rfl (fun h6=> ?_) (fun h6=> ?_)
 ·refine go ?_;refine c1 H Fh (alive_any _) fun z H=> ?_;refine go ?_;refine Rt [_] ?_;exact⟨rfl,H.ext⟩
 ·have hb:shW ta da na pa 24=true:=by simpa using h6
  have hb2:=shW_num hb;refine go ?_;refine c3 Fh (exp2_any _ _ _ ta _ _ _ da _ _ _ na _ _ _ pa _ (h_ta.ext H.ext) (h_da.ext H.ext) (h_na.ext H.ext) (h_pa.ext H.ext) (g_pa.ext H.ext) (hT.ext H.ext) hb) ?_;rintro _ w1 ⟨s,er,rfl,x,hq⟩;have H:=H.ex x;refine⟨_,rfl,?_⟩;refine go ?_;refine Cd (fun p11=> ?_) fun p11=> ?_
  ·refine go ?_;refine c1 H Fh (alive_any _) fun z H=> ?_;refine go ?_;refine Rt [_] ?_;exact⟨rfl,H.ext⟩
  ·obtain rfl:er=0:=Om;have hX:=hq rfl;obtain rfl:=hX.xb;obtain rfl:=hX.xs;obtain⟨rfl,_⟩:=lg_dm hX.xg hX.xd;have hL:=lgL g_pa;obtain⟨E,tn,lth,lsl,lsg,lfw,sq,lsp,bq,llo,hTq⟩:=tq_ex ta [⟨0,0⟩] [] pa;refine go ?_;refine c3 Fh (import_any ta _ _ pa _ (hT.ext H.ext) ((all_vd hX.xg hL).by 12) hX.xz hX.xg Dc rfl hX.xl hL Om hX.xe) ?_;rintro _ w2 ⟨iA1,iN1,iC1,iA2,iN2,iC2,iA4,iN4,iC4,ps,rfl,x,m1,m2,m4,gm,hps⟩;have H:=H.ex x;have X0:=H.ext;have h_ta:=h_ta.ext X0;have h_da:=h_da.ext X0;have h_na:=h_na.ext X0;have h_pa:=h_pa.ext X0;have g_pa:=g_pa.ext X0;have B0:=H.b 0;have H:=Hp.nil w2;have hI:=im_of hL gm hps;have e_1:=m1.len;have e_2:=m2.len;have e_4:=m4.len;have e_5:=hI.il;have X2:=X0;refine⟨_,rfl,?_⟩;refine go ?_;refine al H ti29 fun g14 z H=> ?_;refine st H 0 ti29 fun z H=> ?_;refine G2 ?_;refine sb [1,4,5] ?_;refine G3 ?_;refine Kd ?_;refine G1 ?_;refine WL.yldW rfl (blt rfl) rfl rfl rfl (Y.loadS rfl u29 rfl ti29 rfl (Blk.row_eq (B0.ext H.ext))) ?_;refine WL.yldW rfl (blt rfl) rfl rfl rfl (Y.loadS rfl u29 rfl ti29 rfl (Blk.row_eq (H.b 0))) ?_;refine WL.guarded rfl rfl rfl ?_;refine c1 H Fh (lgsT_any _ _ _ ta _ _ _ [⟨0,0⟩] _ _ _ [] _ _ _ pa _ _ _ _ _ _ _ _ _ _ _ _ ps _ (h_ta.ext H.ext) (h_da.ext H.ext) (h_na.ext H.ext) (h_pa.ext H.ext) (g_pa.ext H.ext) (m1.ext H.ext) (m2.ext H.ext) (Ls.nil (show 0≤maxLen by decide)) (m4.ext H.ext) (gm.ext H.ext) hI.is) fun z H=> ?_;refine G1 ?_;refine yy (Y.pickF rfl rfl rfl) ?_;refine go ?_;refine WC.condF rfl ?_;refine go ?_;refine c3 Fh (trD_any _ _ _ ta _ _ _ [⟨0,0⟩] _ _ _ [] _ _ _ pa _ (h_ta.ext H.ext) (h_da.ext H.ext) (h_na.ext H.ext) (h_pa.ext H.ext) (g_pa.ext H.ext) hX.xk Om Om hX.xe Om hTq) ?_;rintro _ w3 ⟨pA1,pn1,pc1,pA2,pn2,pc2,pA3,pn3,pc3,pA4,pn4,pc4,pA5,pn5,pc5,pA6,pn6,pc6,pA7,pn7,pc7,pA8,pn8,pc8,xs,bs,rfl,x,p1,p2,p3,p4,p5,pg,hpS,p6,p7,ph,pb,p8⟩;have H:=H.ex x;have X0:=H.ext;have h_ta:=h_ta.ext X0;have h_da:=h_da.ext X0;have h_na:=h_na.ext X0;have h_pa:=h_pa.ext X0;have g_pa:=g_pa.ext X0;have m1:=m1.ext X0;have m2:=m2.ext X0;have m4:=m4.ext X0;have gm:=gm.ext X0;have B0:=H.b 0;have H:=Hp.nil w3;have X3:=X2.trans X0;have ep1:=p1.len;have ep2:=p2.len;have ep3:=p3.len;have ep4:=p4.len;have ep5:=p5.len;have ep6:=p6.len;have ep7:=p7.len;have ep8:=p8.len;refine⟨_,rfl,?_⟩;refine go ?_;refine al H ti48 fun g19 z H=> ?_;refine st H 0 ti48 fun z H=> ?_;refine go ?_;refine c3 Fh (trD_any _ _ _ ta _ _ _ [⟨0,0⟩] _ _ _ [] _ _ _ ps _ (m1.ext H.ext) (m2.ext H.ext) (Ls.nil (show 0≤maxLen by decide)) (m4.ext H.ext) (gm.ext H.ext) (hI.ik _ hX.xk) Om Om (by rw[hI.iv];exact hX.xe) (Nat.zero_le _) (tq_same hI.ie hTq)) ?_;rintro _ w4 ⟨qA1,qn1,qc1,qA2,qn2,qc2,qA3,qn3,qc3,qA4,qn4,qc4,qA5,qn5,qc5,qA6,qn6,qc6,qA7,qn7,qc7,qA8,qn8,qc8,ys,cs,rfl,x,q1,q2,q3,q4,q5,qg,qs,q6,q7,qh,qb,q8⟩;have H:=H.ex x;have X0:=H.ext;have h_ta:=h_ta.ext X0;have h_da:=h_da.ext X0;have h_na:=h_na.ext X0;have h_pa:=h_pa.ext X0;have g_pa:=g_pa.ext X0;have m1:=m1.ext X0;have m2:=m2.ext X0;have m4:=m4.ext X0;have gm:=gm.ext X0;have p1:=p1.ext X0;have p2:=p2.ext X0;have p3:=p3.ext X0;have p4:=p4.ext X0;have p5:=p5.ext X0;have p6:=p6.ext X0;have p7:=p7.ext X0;have p8:=p8.ext X0;have B0:=H.b 0;have H:=Hp.nil w4;have X4:=X3.trans X0;have pg:=fun x hx=>(pg x hx).ext X0;have ph:=fun x hx=>(ph x hx).ext X0;have eq1:=q1.len;have eq2:=q2.len;have eq3:=q3.len;have eq4:=q4.len;have eq5:=q5.len;have eq6:=q6.len;have eq7:=q7.len;have eq8:=q8.len;refine⟨_,rfl,?_⟩;refine go ?_;refine al H ti48 fun g22 z H=> ?_;refine st H 0 ti48 fun z H=> ?_;refine G5 ?_;refine yy (Yld.cast (Y.eql rfl rfl rfl) (vb (show(E==E)=true from beq_self_eq_true E))) ?_;refine G1 ?_;refine WL.yldW rfl (blt rfl) rfl rfl rfl (Y.loadS rfl u48 rfl ti48 rfl (Blk.row_eq (B0.ext H.ext))) ?_;refine WL.yldW rfl (blt rfl) rfl rfl rfl (Y.loadS rfl u48 rfl ti48 rfl (Blk.row_eq (H.b 0))) ?_;refine WL.guarded rfl rfl rfl ?_;refine c1 H Fh (trsame_any 0 tn lth lsl lsg lfw lsp llo xs bs _ _ _ _ _ _ _ _ _ _ _ _ _ _ _ _ _ _ _ _ _ _ _ _ ys cs _ _ _ _ _ _ _ _ _ _ _ _ _ _ _ _ _ _ _ _ _ _ _ _ _ (p1.ext H.ext) (p2.ext H.ext) (p3.ext H.ext) (p4.ext H.ext) (p5.ext H.ext) (fun x hx=>(pg x hx).ext H.ext) (p6.ext H.ext) (p7.ext H.ext) (fun x hx=>(ph x hx).ext H.ext) (p8.ext H.ext) (q1.ext H.ext) (q2.ext H.ext) (q3.ext H.ext) (q4.ext H.ext) (q5.ext H.ext) (fun x hx=>(qg x hx).ext H.ext) (q6.ext H.ext) (q7.ext H.ext) (fun x hx=>(qh x hx).ext H.ext) (q8.ext H.ext) (hpS.trans qs.symm) (pb.trans qb.symm)) fun z H=> ?_;refine yy (Y.pickT rfl rfl rfl) ?_;refine G1 ?_;refine WL.guarded rfl rfl rfl ?_;refine c1 H Fh (alive_any _) fun z H=> ?_;refine yy (Y.pickT rfl rfl rfl) ?_;refine go ?_;refine Rt [_] ?_;exact⟨rfl,X4.trans H.ext⟩
end TW
end Go.Proofs.YtaclfjjipnpboaaGreatDoor
end
