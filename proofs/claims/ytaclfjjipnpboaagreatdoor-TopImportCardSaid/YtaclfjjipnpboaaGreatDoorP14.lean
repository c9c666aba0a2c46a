/- Part 14 of the proof. Conditions: what each theorem states. -/
import Derived.Test.YtaclfjjipnpboaaGreatDoorP04
import Derived.Test.YtaclfjjipnpboaaGreatDoorP01
import Derived.Test.YtaclfjjipnpboaaGreatDoorP13
import Derived.Test.YtaclfjjipnpboaaGreatDoorP08
import Derived.Test.YtaclfjjipnpboaaGreatDoorP09
import Derived.Test.YtaclfjjipnpboaaGreatDoorP12
set_option linter.all false
set_option maxHeartbeats 4000000
set_option maxRecDepth 4000
section
attribute [local irreducible] Go.Eng.WC Go.Eng.WL Go.Eng.WK Go.Eng.WQ Go.Eng.WX Go.Eng.Yld
namespace Go.Proofs.YtaclfjjipnpboaaGreatDoor
open Go Go.Eng Go.RowKit
namespace TW
theorem memory_nil(A_o:Option Addr)(n_o c_o:Nat)(o:List Tm)(en:Int)(w:World)(h_o:Ls w A_o n_o c_o Tm.c 10 o)(h0:n_o=0):
  Calls Tryz.prog 36 #[.slice A_o n_o c_o,.int .i64 en] w fun e w'=>∃v,e= .returned v∧OwnL w' w.heap.size 135 Bk.c 7 v (mmF o en)∧Ext w w':=by
 have H:=(Hp.nil w);have e_o:=h_o.len;have z_o:=h_o.nle;refine Wb Tryz.func36 ?_;refine go ?_;refine WC.cond rfl (fun h4=> ?_) (fun h4=> ?_)
 ·exfalso;have q:=dec_t h4;omega
 ·have p4:=(dec_f h4);refine G12 ?_;refine mm H fun g8 z H=> ?_;have H:=H.nilRow 135 Bk.c 7;refine go ?_;refine sb [30,5,1,6,28,29] ?_;refine WC.loopS 2 (fun mz Ed W'=>∃j:Nat,mz=n_o-j∧Ed=[(30,.int .i64 ((j:Nat):Int)),(5,.slice none 0 0)]∧Hp w W' (_::_::[])∧(j≤n_o)) _ ⟨0,rfl,rfl,(H.pick [0,0]),(Nat.zero_le _)⟩ ?_;rintro _ _ z ⟨j,rfl,rfl,H,jl⟩;refine go ?_;refine WC.cond rfl (fun h16=> ?_) (fun h16=> ?_)
  ·exfalso;have q:=dec_t h16;omega
  ·have p16:=(dec_f h16);refine go ?_;refine c3 Fh (delB_any _ _ 94 [] (fun b=>decide (b.to≤b.fr)) _ _ _ (H.front [0]) Fh (fun x _ w1=>mdel_any x w1)) ?_;rintro _ z ⟨v18,rfl,H⟩;refine⟨_,rfl,?_⟩;obtain⟨A20,n21,c22,rfl,_,_,_⟩:=H.op 0;have e_F:=(H.l 0).len;rw[List.filter_nil,List.length_nil]at e_F;refine go ?_;refine c3 Fh (sstB_any _ _ _ _ 96 [] cmpBk _ _ _ (H.front [0]) Om Fh (fun l1 _ w1 H1 a ha b hb=>mcmp_any a b w1)) ?_;rintro _ z ⟨rfl,H⟩;refine⟨_,rfl,?_⟩;refine go ?_;refine Rt [_] ?_;have e:o=[]:=List.length_eq_zero_iff.1 Om;subst e;exact⟨_,rfl,H.out 0,H.ext⟩
theorem mem_any(A_o:Option Addr)(n_o c_o:Nat)(o:List Tm)(en:Int)(w:World)(h_o:Ls w A_o n_o c_o Tm.c 10 o)(hn:n_o≤39):
  Calls Tryz.prog 36 #[.slice A_o n_o c_o,.int .i64 en] w fun e w'=>∃v,e= .returned v∧OwnL w' w.heap.size 135 Bk.c 7 v (mmF o en)∧Ext w w':=
 if h:n_o=0 then memory_nil A_o n_o c_o o en w h_o h else memory_any A_o n_o c_o o en w h_o hn (Nat.pos_of_ne_zero h)
theorem par_none{τ δ:Type}{K:τ→Int}{M:τ→Value}{D:τ→δ}{k:Int}:∀{tl:List τ},mget (tl.map fun t=>(K t,M t)) k=none→xget (tl.map fun t=>(K t,D t)) k=none∧(∀d,xset (tl.map fun t=>(K t,D t)) k d=(tl.map fun t=>(K t,D t))++[(k,d)])∧∀u,mset (tl.map fun t=>(K t,M t)) k u=(tl.map fun t=>(K t,M t))++[(k,u)]
 |[],_=>⟨rfl,fun _=>rfl,fun _=>rfl⟩
 |t::r,h=>by
  have h':(if k=K t then some (M t)else mget (r.map fun t=>(K t,M t)) k)=none:=h;by_cases q:k=K t
  ·grind
  ·rw[if_neg q]at h';obtain⟨a,b,c⟩:=par_none (D:=D) h';refine⟨?_,fun d=> ?_,fun u=> ?_⟩
   ·simp_all [ite,some,xget,Prod.mk,none,if_neg]
   ·simp_all [ite,List.cons,Prod.mk,xset,if_neg]
   simp_all [ite,List.cons,Prod.mk,mset,if_neg]
theorem par_some{τ δ:Type}[Inhabited τ]{K:τ→Int}{M:τ→Value}{D:τ→δ}{k:Int}{v:Value}:∀{tl:List τ},mget (tl.map fun t=>(K t,M t)) k=some v→∃q,q<tl.length∧K tl[q]! =k∧v=M tl[q]!∧xget (tl.map fun t=>(K t,D t)) k=some (D tl[q]!)∧∀d,xset (tl.map fun t=>(K t,D t)) k d=(tl.map fun t=>(K t,D t)).set q (k,d)
 |t::r,h=>by
  have h':(if k=K t then some (M t)else mget (r.map fun t=>(K t,M t)) k)=some v:=h;by_cases q:k=K t
  ·rw[if_pos q]at h';injection h' with h'
   refine⟨0,Nat.zero_lt_succ _,q.symm,h'.symm,if_pos q,fun d=> ?_⟩;simp_all [ite,List.cons,Prod.mk,xset,if_pos]
  ·rw[if_neg q]at h';obtain⟨i,a,b,c,e,f⟩:=par_some (D:=D) h';have hi:(t::r)[i+1]! =r[i]! :=by rfl
   refine⟨i+1,Nat.succ_lt_succ a,by grind,by grind,?_,fun d=> ?_⟩
   ·simp_all [ite,some,xget,Prod.mk,if_neg]
   simp_all [ite,List.cons,Prod.mk,xset,if_neg]
theorem mval_mset:∀(m:List (Int×Value)) (i:Int) (u z:Value),mval (mset m i u) i z=u
 |[],i,u,z=>by unfold mval;show((if i=i then some u else none).getD z)=u;grind
 |(k,v)::r,i,u,z=>by
  have ih:=mval_mset r i u z;unfold mval at ih ⊢;show(mget (if i=k then(k,u)::r else(k,v)::mset r i u) i).getD z=u;by_cases h:i=k<;>simp_all [dite,if_pos,ite,some,mget,if_neg,mset]
structure Pq where(th:Int)(nm:ByteArray)(fr to:Int)(op:Bool)(no ar:Int)(cl:Bool)
instance:Inhabited Pq:=⟨⟨0,⟨#[]⟩,0,0,false,0,0,false⟩⟩
structure Pc where(g:Nat)(q:Pq)
instance:Inhabited Pc:=⟨⟨0,default⟩⟩
def Pc.c(x:Pc):List Value:=[.pointer (some ⟨x.g,0,none⟩)]
theorem Pc.one(x:Pc):∀u∈x.c,u.oneCell'=true:=by simp[Pc.c,Value.oneCell']
def Pq.c(x:Pq):List Value:=[.int .i64 x.th,.int .i64 0,.int .i64 0,.string x.nm,.int .i64 x.fr,.int .i64 x.to,.int .i64 0,.bool x.op,.int .i64 x.no,.int .i64 x.ar,.bool x.cl]
structure Tq where(l:List Int)(ex la:Int)
instance:Inhabited Tq:=⟨⟨[],0,0⟩⟩
structure Tw where(id:Int)(g:Nat)(A:Option Addr)(n cp:Nat)(l:List Int)(ex la:Int)
instance:Inhabited Tw:=⟨⟨0,0,none,0,0,[],0,0⟩⟩
def Tw.q(x:Tw):Tq:=⟨x.l,x.ex,x.la⟩
def Tw.m(x:Tw):Int×Value:=(x.id,.pointer (some ⟨x.g,0,none⟩))
def Tw.p(x:Tw):Int×Tq:=(x.id,x.q)
def slE(P:List Pq)(t:Tq)(at_:Int)(o:Bool):List Pq×Tq:=
 if t.l.length=0 then(P,t)
 else(P.set t.l[t.l.length-1]!.toNat {P[t.l[t.l.length-1]!.toNat]! with to:=at_,op:=o,cl:=true},{t with l:=t.l.take (t.l.length-1)})
theorem slE_len{P:List Pq}{t:Tq}{at_:Int}{o:Bool}(h:0<t.l.length):(slE P t at_ o).2.l.length+1=t.l.length:=by
 unfold slE;grind
theorem slE_tq(P:List Pq)(t:Tq)(at_:Int)(o:Bool):(slE P t at_ o).2={t with l:=(slE P t at_ o).2.l}:=by
 unfold slE;split<;>rfl
theorem slE_sub{P:List Pq}{t:Tq}{at_:Int}{o:Bool}(y:Int)(h:y∈(slE P t at_ o).2.l):y∈t.l:=by
 unfold slE at h;grind
theorem slE_P{P:List Pq}{t:Tq}{at_:Int}{o:Bool}:(slE P t at_ o).1.length=P.length:=by
 grind [slE,List.length_set]
def slA:Nat→List Pq→Tq→Int→List Pq×Tq
 |0,P,t,_=>(P,t)
 |k+1,P,t,at_=>slA k (slE P t at_ true).1 (slE P t at_ true).2 at_
theorem slA_step{P:List Pq}{t:Tq}{at_:Int}(h:0<t.l.length):slA t.l.length P t at_=slA (slE P t at_ true).2.l.length (slE P t at_ true).1 {t with l:=(slE P t at_ true).2.l} at_:=by
 have e:=slE_len (P:=P) (at_:=at_) (o:=true) h;rw[←slE_tq,←e];rfl
def slG(P:List Pq)(t:Tq)(x:Tm):List Pq×Tq:=if x.sr≠t.ex then slA t.l.length P t t.la else(P,t)
def slV(P:List Pq)(t:Tq)(x:Tm):List Pq×Tq:=
 if x.kd=1 then(P++[⟨x.th,x.nm,clk x.lo,0,false,(P.length:Int),if(t.l.length:Int)>0 then t.l[t.l.length-1]! else-1,false⟩],{t with l:=t.l++[(P.length:Int)]})
 else if x.kd=2 then slE P t (clk x.lo) false else(P,t)
def sl1(s:List Pq×List (Int×Tq))(x:Tm):List Pq×List (Int×Tq):=
 let t:=(xget s.2 x.th).getD default
 let u:=slG s.1 t x
 let r:=slV u.1 {u.2 with ex:=x.sr+1,la:=clk x.lo} x
 (r.1,xset s.2 x.th r.2)
def slN(o:List Tm)(j:Nat):List Pq×List (Int×Tq):=fN sl1 ([],[]) o j
def slP(P:List Pq):Nat→Int→Int
 |0,n=>n
 |k+1,n=>if n≥0∧P[n.toNat]!.fr=P[n.toNat]!.to then slP P k P[n.toNat]!.ar else n
theorem slP_step{P:List Pq}{k:Nat}{n:Int}(hk:1≤k)(h:n≥0∧P[n.toNat]!.fr=P[n.toNat]!.to):slP P k n=slP P (k-1) P[n.toNat]!.ar:=by
 obtain⟨g,rfl⟩:∃g,k=g+1:=⟨k-1,Om⟩;exact if_pos h
theorem slP_stop{P:List Pq}{k:Nat}{n:Int}(h:¬(n≥0∧P[n.toNat]!.fr=P[n.toNat]!.to)):slP P k n=n:=by
 cases k with
 |zero=>rfl
 |succ g=>exact if_neg h
structure Sc where(th pa de:Int)(nm:ByteArray)(fr to se:Int)(op:Bool)
instance:Inhabited Sc:=⟨⟨0,0,0,⟨#[]⟩,0,0,0,false⟩⟩
def Sc.c(x:Sc):List Value:=[.int .i64 x.th,.int .i64 x.pa,.int .i64 x.de,.string x.nm,.int .i64 x.fr,.int .i64 x.to,.int .i64 x.se,.bool x.op]
theorem Sc.one(x:Sc):∀u∈x.c,u.oneCell'=true:=by simp[Sc.c,Value.oneCell']
def Pq.s(x:Pq):Sc:=⟨x.th,0,0,x.nm,x.fr,x.to,0,x.op⟩
def cmpSc(a b:Sc):Int:=orF [cmpI a.fr b.fr,cmpI b.to a.to,cmpI a.th b.th]
theorem pc_blk{e:TypeId}{w:World}{xs:List Pc}(h:(big (fun x:Pc=>[box x.g e x.q.c]) xs).holds w):∀x∈xs,Blk w x.g e x.q.c:=fun x hx=>
 h.1 (box x.g e x.q.c) (List.mem_flatMap.2 ⟨x,hx,List.mem_cons_self⟩)
def twF(x:Tw):List Res:=[box x.g 193 [.slice x.A x.n x.cp,.int .i64 x.ex,.int .i64 x.la],row 3 ic 1 (.slice x.A x.n x.cp) x.l]
def pcF(x:Pc):List Res:=[box x.g 197 x.q.c]
theorem lastb{α:Type}[Inhabited α](l:List α)(x:α):(l++[x])[l.length]! =x:=by rw[List.getElem!_eq_getElem?_getD,List.getElem?_append_right Nl,Nat.sub_self];rfl
theorem sltrack_any(b gm:Nat)(av:Value)(tl:List Tw)(th:Int)(W:World)(R:List Res)(w:World)(H:Hp W w (box b 189 [av,.map (some gm)]::mpi gm (tl.map Tw.m)::big twF tl::R)):
  Calls Tryz.prog 130 #[.pointer (some ⟨b,0,none⟩),.int .i64 th] w fun e w'=>∃tl' q,e= .returned (.pointer (some ⟨tl'[q]!.g,0,none⟩))∧q<tl'.length∧tl'[q]!.id=th∧Hp W w' (box b 189 [av,.map (some gm)]::mpi gm (tl'.map Tw.m)::big twF tl'::R)∧tl'[q]!.q=(xget (tl.map Tw.p) th).getD default∧∀d,xset (tl.map Tw.p) th d=(tl'.map Tw.p).set q (th,d):=by
 refine Wb Tryz.func130 ?_;refine G10 ?_;rcases hg:mget (tl.map Tw.m) th with _|v
 ·obtain⟨q1,q2,q3⟩:=par_none (D:=Tw.q) hg;have r1:xget (tl.map Tw.p) th=none:=q1;have r2:∀d,xset (tl.map Tw.p) th d=tl.map Tw.p++[(th,d)]:=q2;have r3:∀u,mset (tl.map Tw.m) th u=tl.map Tw.m++[(th,u)]:=q3;refine yy (Yld.cast (Y.lookup rfl u186 u3 ti191 rfl rfl (fun _ h=>h▸(H.mi 1))) (show mval _ _ _=Value.pointer none from by unfold mval;rw[hg];rfl)) ?_;refine yy (Y.eqlPN rfl u191 rfl) ?_;refine go ?_;refine WC.condT rfl ?_;refine go ?_;refine bx H fun g8 z H=> ?_;refine mu H 2 u186 u3 fun z H=> ?_;refine G7 ?_;refine yy (Yld.cast (Y.lookup rfl u186 u3 ti191 rfl rfl (fun _ h=>h▸(H.mi 2))) (mval_mset _ _ _ _)) ?_;refine go ?_;refine Rt [_] ?_;have H:=H.nilRow 3 ic 1;have H:=H.front [1,0,2];have H:Hp W _ (big twF (tl++[⟨th,g8,none,0,0,[],0,0⟩])::_):=Hp.bigPush twF ⟨th,g8,none,0,0,[],0,0⟩ H;exact⟨tl++[⟨th,g8,none,0,0,[],0,0⟩],tl.length,(by rw[lastb];rfl),(by rw[List.length_append];exact Nat.lt_succ_self _),(by rw[lastb]),(by rw[List.map_append,show List.map Tw.m [(⟨th,g8,none,0,0,[],0,0⟩:Tw)]=[(th,.pointer (some ⟨g8,0,none⟩))]from rfl,←r3];exact(H.front [1,1,0])),(by rw[lastb,r1];rfl),(fun d=>by rw[r2 d,List.map_append,List.set_append_right _ _ (by rw[List.length_map];exact Nat.le_refl _),List.length_map,Nat.sub_self];rfl)⟩
 ·obtain⟨q,q1,q2,rfl,q4,q5⟩:=par_some (D:=Tw.q) hg;have r4:xget (tl.map Tw.p) th=some tl[q]!.q:=q4;refine yy (Yld.cast (Y.lookup rfl u186 u3 ti191 rfl rfl (fun _ h=>h▸(H.mi 1))) (show mval _ _ _=Value.pointer (some ⟨tl[q]!.g,0,none⟩)from by unfold mval;rw[hg];rfl)) ?_;refine yy (Y.eqlPS rfl u191 rfl) ?_;refine go ?_;refine WC.condF rfl ?_;refine G8 ?_;refine yy (Yld.cast (Y.lookup rfl u186 u3 ti191 rfl rfl (fun _ h=>h▸(H.mi 1))) (show mval _ _ _=Value.pointer (some ⟨tl[q]!.g,0,none⟩)from by unfold mval;rw[hg];rfl)) ?_;refine go ?_;refine Rt [_] ?_;exact⟨tl,q,rfl,q1,q2,H,by rw[r4];rfl,q5⟩
theorem row_same{α:Type}{e:TypeId}{f:α→List Value}{sz:Nat}{v:Value}{l l':List α}(h:l'.length=l.length)(h2:l'.flatMap f=l.flatMap f):row e f sz v l'=row e f sz v l:=by
 simp only[row,OwnL,h,h2]
theorem pc_row{v:Value}{xs:List Pc}{i:Nat}{x:Pc}(hi:i<xs.length)(h:x.g=xs[i]!.g):row 195 Pc.c 1 v (xs.set i x)=row 195 Pc.c 1 v xs:=by
 refine row_same List.length_set ?_;rw[List.flatMap_def,List.flatMap_def,List.map_set,show Pc.c x=(xs.map Pc.c)[i]'(by simpa using hi)from by rw[List.getElem_map,←getElem!_pos xs i hi];unfold Pc.c;rw[h],List.set_getElem_self]
theorem slend_any(b gm g:Nat)(aA:Option Addr)(an ac:Nat)(A:Option Addr)(n cp:Nat)(xs:List Pc)(l:List Int)(ex la at_:Int)(o:Bool)(W:World)(R:List Res)(w:World)(H:Hp W w (box b 189 [.slice aA an ac,.map (some gm)]::row 195 Pc.c 1 (.slice aA an ac) xs::big pcF xs::box g 193 [.slice A n cp,.int .i64 ex,.int .i64 la]::row 3 ic 1 (.slice A n cp) l::R))(hl:∀x∈l,0≤x∧x<(xs.length:Int)):
  Calls Tryz.prog 77 #[.pointer (some ⟨b,0,none⟩),.pointer (some ⟨g,0,none⟩),.int .i64 at_,.bool o] w fun e w'=>∃xs' n',e= .returned (resVal [])∧Hp W w' (box b 189 [.slice aA an ac,.map (some gm)]::row 195 Pc.c 1 (.slice aA an ac) xs'::big pcF xs'::box g 193 [.slice A n' cp,.int .i64 ex,.int .i64 la]::row 3 ic 1 (.slice A n' cp) (slE (xs.map Pc.q) ⟨l,ex,la⟩ at_ o).2.l::R)∧xs'.map Pc.q=(slE (xs.map Pc.q) ⟨l,ex,la⟩ at_ o).1∧xs'.length=xs.length:=by
 have e_n:=(H.l 4).len;have z_n:=(H.l 4).nle;have c_n:=(H.l 4).le;have e_an:=(H.l 1).len;refine Wb Tryz.func77 ?_;refine go ?_;refine Cd (fun p10=> ?_) fun p10=> ?_
 ·refine go ?_;refine Rt [] ?_;have e0:l.length=0:=Om;have e1:slE (xs.map Pc.q) ⟨l,ex,la⟩ at_ o=(xs.map Pc.q,⟨l,ex,la⟩):=if_pos e0;exact⟨xs,n,rfl,(by rw[e1];exact H),by rw[e1],rfl⟩
 ·have hn1:1≤n:=Om;have hlk:=hl _ (mem_b (show n-1<l.length by omega));obtain⟨⟨gp,q⟩,hx⟩:∃y,xs[l[n-1]!.toNat]! =y:=⟨_,rfl⟩;have hk:l[n-1]!.toNat<xs.length:=Om;have H:=H.front [2];have H:Hp W _ (box gp 197 q.c::hole pcF xs (l[n-1]!.toNat)::_):=Hp.bigOutX pcF ⟨gp,q⟩ hx H hk;have H:Hp W _ (box gp 197 [.int .i64 q.th,.int .i64 0,.int .i64 0,.string q.nm,.int .i64 q.fr,.int .i64 q.to,.int .i64 0,.bool q.op,.int .i64 q.no,.int .i64 q.ar,.bool q.cl]::_):=H;refine go ?_;refine Qr ?_;have b14:(n-1)<n:=Om;refine G9 ?_;refine yq (Y.indexLs (n-1) (H.l 5) rfl u81 ti3 rfl rfl Om b14) ?_;have b15:l[n-1]!.toNat<an:=Om;refine G1 ?_;refine yq (Y.indexLs l[n-1]!.toNat (H.l 3) rfl u187 ti195 rfl rfl Om b15) ?_;refine yq (Yld.cast (ld rfl u195 rfl (Ls.at_ext (H.l 3) b15 rfl)) (show Value.pointer (some ⟨xs[l[n-1]!.toNat]!.g,0,none⟩)= .pointer (some ⟨gp,0,none⟩)from by rw[hx])) ?_;refine go ?_;refine Qd H fun z H=> ?_;refine G1 ?_;refine sb [1,2,3,8,9] ?_;refine go ?_;refine st H 0 ti3 fun z H=> ?_;refine go ?_;refine st H 0 ti4 fun z H=> ?_;refine go ?_;refine st H 0 ti4 fun z H=> ?_;have b17:(n-1)≤n:=Om;refine G8 ?_;refine yy (Y.sliceH (n-1) rfl u81 ti3 rfl rfl Om Om) ?_;refine go ?_;refine st H 4 ti81 fun z H=> ?_;have H:=H.cut 5 (n-1) rfl Om;refine go ?_;refine En ?_;have H:Hp W _ (big pcF (xs.set (l[n-1]!.toNat) ⟨gp,{q with to:=at_,op:=o,cl:=true}⟩)::_):=Hp.bigIn pcF ⟨gp,{q with to:=at_,op:=o,cl:=true}⟩ H hk;have e0:¬l.length=0:=Om;have e1:slE (xs.map Pc.q) ⟨l,ex,la⟩ at_ o=((xs.map Pc.q).set l[n-1]!.toNat {q with to:=at_,op:=o,cl:=true},⟨l.take (n-1),ex,la⟩):=(if_neg e0).trans (by rw[e_n];rw[map_b Pc.q hk,hx]);rw[←pc_row (x:=(⟨gp,{q with to:=at_,op:=o,cl:=true}⟩:Pc)) hk (by rw[hx])]at H;exact⟨xs.set l[n-1]!.toNat ⟨gp,{q with to:=at_,op:=o,cl:=true}⟩,n-1,rfl,(by rw[e1];exact(H.front [1,1,0,0,0])),by rw[e1,List.map_set],List.length_set⟩
theorem slevent_any(b gm:Nat)(aA:Option Addr)(an ac:Nat)(xs:List Pc)(tl:List Tw)(tt:Tm)(W:World)(R:List Res)(w:World)(H:Hp W w (box b 189 [.slice aA an ac,.map (some gm)]::row 195 Pc.c 1 (.slice aA an ac) xs::mpi gm (tl.map Tw.m)::big pcF xs::big twF tl::R))(hok:∀t:Tq,t=(xget (tl.map Tw.p) tt.th).getD default→(∀y∈t.l,0≤y∧y<(xs.length:Int))∧t.l.length≤xs.length)(hsr:0≤tt.sr∧tt.sr≤2000000000000000)(hal:xs.length≤1000):
  Calls Tryz.prog 75 #[.pointer (some ⟨b,0,none⟩),.agg #[.int .i64 tt.th,.int .i64 tt.sr,.int .i64 tt.at_,.int .i64 tt.kd,.string tt.nm,.int .i64 tt.n,.int .i64 tt.m,.slice tt.A tt.k tt.c_,.int .i64 tt.lo,.int .i64 tt.hi]] w fun e w'=>∃aA' an' ac' xs' tl',e= .returned (resVal [])∧Hp W w' (box b 189 [.slice aA' an' ac',.map (some gm)]::row 195 Pc.c 1 (.slice aA' an' ac') xs'::mpi gm (tl'.map Tw.m)::big pcF xs'::big twF tl'::R)∧xs'.map Pc.q=(sl1 (xs.map Pc.q,tl.map Tw.p) tt).1∧tl'.map Tw.p=(sl1 (xs.map Pc.q,tl.map Tw.p) tt).2:=by
 have e_an:=(H.l 1).len;refine Wb Tryz.func75 ?_;refine go ?_;refine bx H fun g8 z H=> ?_;refine go ?_;refine Xr H (HpC W _) (.load 0 (.load 1 (.load 2 (.load 3 (.load 5 (.alt 4 (.alt 6 (.load 7 (.load 8 (.fin))) (.none)) (.none))))))) (H.pick [0,0,0,1]) fun z H=> ?_;refine go ?_;refine c3X (H.pick [0,0,0,1]) Fh (sltrack_any _ _ _ _ tt.th _ _ _ (H.front [1,2,3])) ?_;rintro _ z ⟨tl1,q,rfl,q1,q2,H,q3,q4⟩;obtain⟨⟨id,g,A,n,cp,l,ex,la⟩,hx⟩:∃y,tl1[q]! =y:=⟨_,rfl⟩;rw[hx]at q2 q3 ⊢;have q5:id=tt.th:=q2;have H:=H.front [2];have H:Hp W _ (box g 193 [.slice A n cp,.int .i64 ex,.int .i64 la]::row 3 ic 1 (.slice A n cp) l::hole twF tl1 (q)::_):=Hp.bigOutX twF ⟨id,g,A,n,cp,l,ex,la⟩ hx H q1;have hT:(⟨l,ex,la⟩:Tq)=(xget (tl.map Tw.p) tt.th).getD default:=q3;have hlr:∀y∈l,0≤y∧y<(xs.length:Int):=(hok ⟨l,ex,la⟩ hT).1;have hll:l.length≤xs.length:=(hok ⟨l,ex,la⟩ hT).2;have nn:=(H.l 1).len;have c_n:=(H.l 1).le;have z_n:=(H.l 1).nle;refine⟨_,rfl,?_⟩;refine c1X (H.pick [5,3,4,4]) H Fh (stime_any tt _) fun z H=> ?_;refine go ?_;refine WX.nil (H.pick [5,3,4,4]) ?_;refine go ?_;refine Qr ?_;refine go ?_;refine Qd H fun z H=> ?_;refine go ?_;refine Cd (fun p16=> ?_) fun p16=> ?_
 ·have nn0:=nn;refine go ?_;refine sb [0,3,4,5] ?_;refine WC.loopS 0 (fun mz Ed W'=>∃ys:List Pc,∃k:Nat,∃m:List Int,mz=2*k∧Ed=[]∧Hp W W' (box g 193 [.slice A k cp,.int .i64 ex,.int .i64 la]::row 3 ic 1 (.slice A k cp) m::_::box b 189 [.slice aA an ac,.map (some gm)]::_::_::row 195 Pc.c 1 (.slice aA an ac) ys::big pcF ys::R)∧(slA m.length (ys.map Pc.q) ⟨m,ex,la⟩ la=slA l.length (xs.map Pc.q) ⟨l,ex,la⟩ la)∧(∀y∈m,0≤y∧y<(ys.length:Int))∧(ys.length=xs.length)) _ ⟨xs,n,l,rfl,rfl,H,rfl,hlr,rfl⟩ ?_;rintro _ _ z ⟨ys,k,m,rfl,rfl,H,hs,hmr,hyl⟩;have nk_:=(H.l 1).len;have ck_:=(H.l 1).le;refine go ?_;refine Cd (fun p19=> ?_) fun p19=> ?_
  ·refine go ?_;refine c3 Fh (slend_any _ _ _ _ _ _ _ _ _ (ys) (m) (ex) (la) (la) true _ _ _ (H.front [3,5,5,0,0]) hmr) ?_;rintro _ z ⟨xse20,ne20,rfl,H,h1e20,h2e20⟩;refine⟨_,rfl,?_⟩;refine go ?_;refine WK.roundS _ [] Sx ?_ ⟨xse20,ne20,(slE (ys.map Pc.q) ⟨m,ex,la⟩ la true).2.l,rfl,rfl,(H.front [3,3,3,0,2,2,0,0]),(by rw[h1e20];exact(slA_step (P:=ys.map Pc.q) (t:=⟨m,ex,la⟩) (show 0<m.length by omega)).symm.trans hs),(fun y hy=>by rw[h2e20];exact hmr y (slE_sub y hy)),(h2e20.trans hyl)⟩;have e:=slE_len (P:=ys.map Pc.q) (t:=⟨m,ex,la⟩) (at_:=la) (o:=true) (show 0<m.length by omega);dsimp only at e;have e2:=(H.l 4).len;omega
  ·have m0:m.length=0:=Om;have hG:slG (xs.map Pc.q) ⟨l,ex,la⟩ tt=(ys.map Pc.q,⟨m,ex,la⟩):=(if_pos p16).trans (hs.symm.trans (by rw[m0];rfl));refine go ?_;refine st H 0 ti3 fun z H=> ?_;refine go ?_;refine st H 0 ti3 fun z H=> ?_;refine G11 ?_;refine sb [0,3,4,5,49,50] ?_;refine Cd (fun p24=> ?_) fun p24=> ?_
   ·refine go ?_;refine WC.regionT 15 (by kernel_rfl) (by kernel_rfl) ?_;refine go ?_;refine WQ.tail (fun z x=> ?_);have H:=H.ex x;refine bx H fun g26 z H=> ?_;refine go ?_;refine Cd (fun p31=> ?_) fun p31=> ?_
    ·refine G7 ?_;refine yy (Yld.cast (Y.sub rfl rfl rfl Wo) (vi (show((k:Nat):Int)-1=((k-1:Nat):Int)from Om))) ?_;have b32:(k-1)<k:=Om;refine yy (Y.indexLs (k-1) (H.l 2) rfl u81 ti3 rfl rfl Om b32) ?_;refine go ?_;refine st H 0 ti3 fun z H=> ?_;refine G1 ?_;refine sb [0,4,6] ?_;refine go ?_;refine Xr H (HpC W _) (.load 0 (.load 1 (.load 2 (.load 3 (.load 5 (.load 6 (.load 7 (.load 8 (.alt 4 (.alt 9 (.alt 10 (.load 11 (.load 12 (.alt 13 (.fin) (.none)))) (.none)) (.none)) (.alt 9 (.alt 4 (.alt 10 (.load 11 (.load 12 (.alt 13 (.fin) (.none)))) (.none)) (.none)) (.none))))))))))) (H.pick [0,2,2,2,2,2,2]) fun z H=> ?_;refine go ?_;refine bs1L (H.pick [0,2,2,2,2,2,2]) H (fun z H=>Y.load1 rfl u81 rfl rfl (Blk.at_eq (H.b 1) rfl)) u81 ti3 fun g34 z H=> ?_;refine apX (H.pick [1,3,3,3,3,3,3]) H 3 0 rfl [(an:Int)] u81 ti3 rfl ic_one (by simp only[List.length_cons,List.length_nil];omega) fun v36 z H=> ?_;obtain⟨A37,n38,c39,rfl,_,_,_⟩:=H.op 3;refine go ?_;refine stX (H.pick [1,3,3,3,3,3,3]) H 2 ti81 fun z H=> ?_;refine WX.nil (H.pick [1,3,3,3,3,3,3]) ?_;refine go ?_;refine bs1 H u187 ti195 fun g40 z H=> ?_;refine ap H 9 0 rfl [⟨g26,⟨tt.th,tt.nm,clk tt.lo,0,false,(an:Int),m[k-1]!,false⟩⟩] u187 ti195 rfl Pc.one (by simp only[List.length_cons,List.length_nil];omega) fun v42 z H=> ?_;obtain⟨A43,n44,c45,rfl,_,_,_⟩:=H.op 9;refine go ?_;refine st H 6 ti187 fun z H=> ?_;refine go ?_;refine En ?_;have H:=H.front [2,9];have H:Hp W _ (big pcF (ys++[(⟨g26,⟨tt.th,tt.nm,clk tt.lo,0,false,(an:Int),m[k-1]!,false⟩⟩:Pc)])::_):=Hp.bigPush pcF (⟨g26,⟨tt.th,tt.nm,clk tt.lo,0,false,(an:Int),m[k-1]!,false⟩⟩:Pc) H;have hV:slV (ys.map Pc.q) ⟨m,tt.sr+1,clk tt.lo⟩ tt=((ys.map Pc.q)++[⟨tt.th,tt.nm,clk tt.lo,0,false,(an:Int),m[k-1]!,false⟩],⟨(m++[(an:Int)]),tt.sr+1,clk tt.lo⟩):=(if_pos p24).trans (by rw[List.length_map,show ys.length=an from Om,show(if((m.length:Int)>0)then m[m.length-1]! else-1)=m[k-1]! from by rw[show m.length=k from Om];exact if_pos p31]);have H:=H.front [3,3,3];have H:Hp W _ (big twF (tl1.set (q) ⟨id,g,A37,n38,c39,(m++[(an:Int)]),tt.sr+1,clk tt.lo⟩)::_):=Hp.bigIn twF ⟨id,g,A37,n38,c39,(m++[(an:Int)]),tt.sr+1,clk tt.lo⟩ H q1;have h1:sl1 (xs.map Pc.q,tl.map Tw.p) tt=((ys++[(⟨g26,⟨tt.th,tt.nm,clk tt.lo,0,false,(an:Int),m[k-1]!,false⟩⟩:Pc)]).map Pc.q,xset (tl.map Tw.p) tt.th ⟨(m++[(an:Int)]),tt.sr+1,clk tt.lo⟩):=by show((slV (slG _ _ tt).1 _ tt).1,xset _ _ (slV (slG _ _ tt).1 _ tt).2)=_;rw[←hT,hG];dsimp only;rw[hV];rw[List.map_append];rfl
     have hm:(tl1.set q ⟨id,g,A37,n38,c39,(m++[(an:Int)]),tt.sr+1,clk tt.lo⟩).map Tw.m=tl1.map Tw.m:=set_same_map Tw.m _ _ _ (by rw[hx];rfl);exact⟨A43,n44,c45,(ys++[(⟨g26,⟨tt.th,tt.nm,clk tt.lo,0,false,(an:Int),m[k-1]!,false⟩⟩:Pc)]),tl1.set q ⟨id,g,A37,n38,c39,(m++[(an:Int)]),tt.sr+1,clk tt.lo⟩,rfl,(by rw[hm];exact((H.drop [2,2,4]).front [2,3,2,1,0])),by rw[h1],by rw[h1,q4,List.map_set];show List.set _ _ (id,_)=_;rw[q5];rfl⟩
    ·refine go ?_;refine Xr H (HpC W _) (.load 0 (.load 1 (.load 2 (.load 3 (.load 5 (.load 6 (.load 7 (.load 8 (.alt 4 (.alt 9 (.alt 10 (.load 11 (.load 12 (.alt 13 (.fin) (.none)))) (.none)) (.none)) (.alt 9 (.alt 4 (.alt 10 (.load 11 (.load 12 (.alt 13 (.fin) (.none)))) (.none)) (.none)) (.none))))))))))) (H.pick [0,2,2,2,2,2,2]) fun z H=> ?_;refine go ?_;refine bs1L (H.pick [0,2,2,2,2,2,2]) H (fun z H=>Y.load1 rfl u81 rfl rfl (Blk.at_eq (H.b 1) rfl)) u81 ti3 fun g47 z H=> ?_;refine apX (H.pick [1,3,3,3,3,3,3]) H 3 0 rfl [(an:Int)] u81 ti3 rfl ic_one (by simp only[List.length_cons,List.length_nil];omega) fun v49 z H=> ?_;obtain⟨A50,n51,c52,rfl,_,_,_⟩:=H.op 3;refine go ?_;refine stX (H.pick [1,3,3,3,3,3,3]) H 2 ti81 fun z H=> ?_;refine WX.nil (H.pick [1,3,3,3,3,3,3]) ?_;refine G1 ?_;refine sb [0,6] ?_;refine go ?_;refine bs1 H u187 ti195 fun g53 z H=> ?_;refine ap H 9 0 rfl [⟨g26,⟨tt.th,tt.nm,clk tt.lo,0,false,(an:Int),-1,false⟩⟩] u187 ti195 rfl Pc.one (by simp only[List.length_cons,List.length_nil];omega) fun v55 z H=> ?_;obtain⟨A56,n57,c58,rfl,_,_,_⟩:=H.op 9;refine go ?_;refine st H 6 ti187 fun z H=> ?_;refine go ?_;refine En ?_;have H:=H.front [2,9];have H:Hp W _ (big pcF (ys++[(⟨g26,⟨tt.th,tt.nm,clk tt.lo,0,false,(an:Int),-1,false⟩⟩:Pc)])::_):=Hp.bigPush pcF (⟨g26,⟨tt.th,tt.nm,clk tt.lo,0,false,(an:Int),-1,false⟩⟩:Pc) H;have hV:slV (ys.map Pc.q) ⟨m,tt.sr+1,clk tt.lo⟩ tt=((ys.map Pc.q)++[⟨tt.th,tt.nm,clk tt.lo,0,false,(an:Int),-1,false⟩],⟨(m++[(an:Int)]),tt.sr+1,clk tt.lo⟩):=(if_pos p24).trans (by rw[List.length_map,show ys.length=an from Om,show(if((m.length:Int)>0)then m[m.length-1]! else-1)= -1 from by rw[show m.length=k from Om];exact if_neg p31]);have H:=H.front [3,3,3];have H:Hp W _ (big twF (tl1.set (q) ⟨id,g,A50,n51,c52,(m++[(an:Int)]),tt.sr+1,clk tt.lo⟩)::_):=Hp.bigIn twF ⟨id,g,A50,n51,c52,(m++[(an:Int)]),tt.sr+1,clk tt.lo⟩ H q1;have h1:sl1 (xs.map Pc.q,tl.map Tw.p) tt=((ys++[(⟨g26,⟨tt.th,tt.nm,clk tt.lo,0,false,(an:Int),-1,false⟩⟩:Pc)]).map Pc.q,xset (tl.map Tw.p) tt.th ⟨(m++[(an:Int)]),tt.sr+1,clk tt.lo⟩):=by show((slV (slG _ _ tt).1 _ tt).1,xset _ _ (slV (slG _ _ tt).1 _ tt).2)=_;rw[←hT,hG];dsimp only;rw[hV];rw[List.map_append];rfl
     have hm:(tl1.set q ⟨id,g,A50,n51,c52,(m++[(an:Int)]),tt.sr+1,clk tt.lo⟩).map Tw.m=tl1.map Tw.m:=set_same_map Tw.m _ _ _ (by rw[hx];rfl);exact⟨A56,n57,c58,(ys++[(⟨g26,⟨tt.th,tt.nm,clk tt.lo,0,false,(an:Int),-1,false⟩⟩:Pc)]),tl1.set q ⟨id,g,A50,n51,c52,(m++[(an:Int)]),tt.sr+1,clk tt.lo⟩,rfl,(by rw[hm];exact((H.drop [2,2,4]).front [2,3,2,1,0])),by rw[h1],by rw[h1,q4,List.map_set];show List.set _ _ (id,_)=_;rw[q5];rfl⟩
   ·refine go ?_;refine Cd (fun p60=> ?_) fun p60=> ?_
    ·refine go ?_;refine c3 Fh (slend_any _ _ _ _ _ _ _ _ _ (ys) (m) ((tt.sr+1)) ((clk tt.lo)) ((clk tt.lo)) false _ _ _ (H.front [3,5,5,0,0]) hmr) ?_;rintro _ z ⟨xse61,ne61,rfl,H,h1e61,h2e61⟩;refine⟨_,rfl,?_⟩;refine go ?_;refine En ?_;have hV:slV (ys.map Pc.q) ⟨m,tt.sr+1,clk tt.lo⟩ tt=(xse61.map Pc.q,⟨(slE (ys.map Pc.q) ⟨m,tt.sr+1,clk tt.lo⟩ (clk tt.lo) false).2.l,tt.sr+1,clk tt.lo⟩):=(if_neg p24).trans ((if_pos p60).trans (by rw[h1e61];exact Prod.ext rfl (slE_tq _ _ _ _)));have H:=H.front [3,3,3];have H:Hp W _ (big twF (tl1.set (q) ⟨id,g,A,ne61,cp,(slE ((ys).map Pc.q) ⟨m,(tt.sr+1),(clk tt.lo)⟩ ((clk tt.lo)) false).2.l,tt.sr+1,clk tt.lo⟩)::_):=Hp.bigIn twF ⟨id,g,A,ne61,cp,(slE ((ys).map Pc.q) ⟨m,(tt.sr+1),(clk tt.lo)⟩ ((clk tt.lo)) false).2.l,tt.sr+1,clk tt.lo⟩ H q1;have h1:sl1 (xs.map Pc.q,tl.map Tw.p) tt=(xse61.map Pc.q,xset (tl.map Tw.p) tt.th ⟨(slE (ys.map Pc.q) ⟨m,tt.sr+1,clk tt.lo⟩ (clk tt.lo) false).2.l,tt.sr+1,clk tt.lo⟩):=by show((slV (slG _ _ tt).1 _ tt).1,xset _ _ (slV (slG _ _ tt).1 _ tt).2)=_;rw[←hT,hG];dsimp only;rw[hV]
     have hm:(tl1.set q ⟨id,g,A,ne61,cp,(slE ((ys).map Pc.q) ⟨m,(tt.sr+1),(clk tt.lo)⟩ ((clk tt.lo)) false).2.l,tt.sr+1,clk tt.lo⟩).map Tw.m=tl1.map Tw.m:=set_same_map Tw.m _ _ _ (by rw[hx];rfl);exact⟨aA,an,ac,xse61,tl1.set q ⟨id,g,A,ne61,cp,(slE ((ys).map Pc.q) ⟨m,(tt.sr+1),(clk tt.lo)⟩ ((clk tt.lo)) false).2.l,tt.sr+1,clk tt.lo⟩,rfl,(by rw[hm];exact((H.drop [5]).front [1,1,2,1,0])),by rw[h1],by rw[h1,q4,List.map_set];show List.set _ _ (id,_)=_;rw[q5];rfl⟩
    ·refine go ?_;refine En ?_;have hV:slV (ys.map Pc.q) ⟨m,tt.sr+1,clk tt.lo⟩ tt=((ys.map Pc.q),⟨m,tt.sr+1,clk tt.lo⟩):=(if_neg p24).trans (if_neg p60);have H:Hp W _ (big twF (tl1.set (q) ⟨id,g,A,k,cp,m,tt.sr+1,clk tt.lo⟩)::_):=Hp.bigIn twF ⟨id,g,A,k,cp,m,tt.sr+1,clk tt.lo⟩ H q1;have h1:sl1 (xs.map Pc.q,tl.map Tw.p) tt=(ys.map Pc.q,xset (tl.map Tw.p) tt.th ⟨m,tt.sr+1,clk tt.lo⟩):=by show((slV (slG _ _ tt).1 _ tt).1,xset _ _ (slV (slG _ _ tt).1 _ tt).2)=_;rw[←hT,hG];dsimp only;rw[hV]
     have hm:(tl1.set q ⟨id,g,A,k,cp,m,tt.sr+1,clk tt.lo⟩).map Tw.m=tl1.map Tw.m:=set_same_map Tw.m _ _ _ (by rw[hx];rfl);exact⟨aA,an,ac,ys,tl1.set q ⟨id,g,A,k,cp,m,tt.sr+1,clk tt.lo⟩,rfl,(by rw[hm];exact((H.drop [3]).front [1,2,1,1,0])),by rw[h1],by rw[h1,q4,List.map_set];show List.set _ _ (id,_)=_;rw[q5];rfl⟩
 ·have hG:slG (xs.map Pc.q) ⟨l,ex,la⟩ tt=(xs.map Pc.q,⟨l,ex,la⟩):=if_neg (fun q=>q p16);have hmr:=hlr;have hyl:xs.length=xs.length:=rfl;refine go ?_;refine st H 0 ti3 fun z H=> ?_;refine go ?_;refine st H 0 ti3 fun z H=> ?_;refine G11 ?_;refine sb [0,3,4,5,49,50] ?_;refine Cd (fun p65=> ?_) fun p65=> ?_
  ·refine go ?_;refine WC.regionT 15 (by kernel_rfl) (by kernel_rfl) ?_;refine go ?_;refine WQ.tail (fun z x=> ?_);have H:=H.ex x;refine bx H fun g67 z H=> ?_;refine go ?_;refine Cd (fun p72=> ?_) fun p72=> ?_
   ·refine G7 ?_;refine yy (Yld.cast (Y.sub rfl rfl rfl Wo) (vi (show((n:Nat):Int)-1=((n-1:Nat):Int)from Om))) ?_;have b73:(n-1)<n:=Om;refine yy (Y.indexLs (n-1) (H.l 2) rfl u81 ti3 rfl rfl Om b73) ?_;refine go ?_;refine st H 0 ti3 fun z H=> ?_;refine G1 ?_;refine sb [0,4,6] ?_;refine go ?_;refine Xr H (HpC W _) (.load 0 (.load 1 (.load 2 (.load 3 (.load 5 (.load 6 (.load 7 (.load 8 (.alt 4 (.alt 9 (.alt 10 (.load 11 (.load 12 (.alt 13 (.fin) (.none)))) (.none)) (.none)) (.alt 9 (.alt 4 (.alt 10 (.load 11 (.load 12 (.alt 13 (.fin) (.none)))) (.none)) (.none)) (.none))))))))))) (H.pick [0,2,2,2,2,2,2]) fun z H=> ?_;refine go ?_;refine bs1L (H.pick [0,2,2,2,2,2,2]) H (fun z H=>Y.load1 rfl u81 rfl rfl (Blk.at_eq (H.b 1) rfl)) u81 ti3 fun g75 z H=> ?_;refine apX (H.pick [1,3,3,3,3,3,3]) H 3 0 rfl [(an:Int)] u81 ti3 rfl ic_one (by simp only[List.length_cons,List.length_nil];omega) fun v77 z H=> ?_;obtain⟨A78,n79,c80,rfl,_,_,_⟩:=H.op 3;refine go ?_;refine stX (H.pick [1,3,3,3,3,3,3]) H 2 ti81 fun z H=> ?_;refine WX.nil (H.pick [1,3,3,3,3,3,3]) ?_;refine go ?_;refine bs1 H u187 ti195 fun g81 z H=> ?_;refine ap H 9 0 rfl [⟨g67,⟨tt.th,tt.nm,clk tt.lo,0,false,(an:Int),l[n-1]!,false⟩⟩] u187 ti195 rfl Pc.one (by simp only[List.length_cons,List.length_nil];omega) fun v83 z H=> ?_;obtain⟨A84,n85,c86,rfl,_,_,_⟩:=H.op 9;refine go ?_;refine st H 6 ti187 fun z H=> ?_;refine go ?_;refine En ?_;have H:=H.front [2,9];have H:Hp W _ (big pcF (xs++[(⟨g67,⟨tt.th,tt.nm,clk tt.lo,0,false,(an:Int),l[n-1]!,false⟩⟩:Pc)])::_):=Hp.bigPush pcF (⟨g67,⟨tt.th,tt.nm,clk tt.lo,0,false,(an:Int),l[n-1]!,false⟩⟩:Pc) H;have hV:slV (xs.map Pc.q) ⟨l,tt.sr+1,clk tt.lo⟩ tt=((xs.map Pc.q)++[⟨tt.th,tt.nm,clk tt.lo,0,false,(an:Int),l[n-1]!,false⟩],⟨(l++[(an:Int)]),tt.sr+1,clk tt.lo⟩):=(if_pos p65).trans (by rw[List.length_map,show xs.length=an from Om,show(if((l.length:Int)>0)then l[l.length-1]! else-1)=l[n-1]! from by rw[show l.length=n from Om];exact if_pos p72]);have H:=H.front [3,3,3];have H:Hp W _ (big twF (tl1.set (q) ⟨id,g,A78,n79,c80,(l++[(an:Int)]),tt.sr+1,clk tt.lo⟩)::_):=Hp.bigIn twF ⟨id,g,A78,n79,c80,(l++[(an:Int)]),tt.sr+1,clk tt.lo⟩ H q1;have h1:sl1 (xs.map Pc.q,tl.map Tw.p) tt=((xs++[(⟨g67,⟨tt.th,tt.nm,clk tt.lo,0,false,(an:Int),l[n-1]!,false⟩⟩:Pc)]).map Pc.q,xset (tl.map Tw.p) tt.th ⟨(l++[(an:Int)]),tt.sr+1,clk tt.lo⟩):=by show((slV (slG _ _ tt).1 _ tt).1,xset _ _ (slV (slG _ _ tt).1 _ tt).2)=_;rw[←hT,hG];dsimp only;rw[hV];rw[List.map_append];rfl
    have hm:(tl1.set q ⟨id,g,A78,n79,c80,(l++[(an:Int)]),tt.sr+1,clk tt.lo⟩).map Tw.m=tl1.map Tw.m:=set_same_map Tw.m _ _ _ (by rw[hx];rfl);exact⟨A84,n85,c86,(xs++[(⟨g67,⟨tt.th,tt.nm,clk tt.lo,0,false,(an:Int),l[n-1]!,false⟩⟩:Pc)]),tl1.set q ⟨id,g,A78,n79,c80,(l++[(an:Int)]),tt.sr+1,clk tt.lo⟩,rfl,(by rw[hm];exact((H.drop [2,2,4]).front [2,3,2,1,0])),by rw[h1],by rw[h1,q4,List.map_set];show List.set _ _ (id,_)=_;rw[q5];rfl⟩
   ·refine go ?_;refine Xr H (HpC W _) (.load 0 (.load 1 (.load 2 (.load 3 (.load 5 (.load 6 (.load 7 (.load 8 (.alt 4 (.alt 9 (.alt 10 (.load 11 (.load 12 (.alt 13 (.fin) (.none)))) (.none)) (.none)) (.alt 9 (.alt 4 (.alt 10 (.load 11 (.load 12 (.alt 13 (.fin) (.none)))) (.none)) (.none)) (.none))))))))))) (H.pick [0,2,2,2,2,2,2]) fun z H=> ?_;refine go ?_;refine bs1L (H.pick [0,2,2,2,2,2,2]) H (fun z H=>Y.load1 rfl u81 rfl rfl (Blk.at_eq (H.b 1) rfl)) u81 ti3 fun g88 z H=> ?_;refine apX (H.pick [1,3,3,3,3,3,3]) H 3 0 rfl [(an:Int)] u81 ti3 rfl ic_one (by simp only[List.length_cons,List.length_nil];omega) fun v90 z H=> ?_;obtain⟨A91,n92,c93,rfl,_,_,_⟩:=H.op 3;refine go ?_;refine stX (H.pick [1,3,3,3,3,3,3]) H 2 ti81 fun z H=> ?_;refine WX.nil (H.pick [1,3,3,3,3,3,3]) ?_;refine G1 ?_;refine sb [0,6] ?_;refine go ?_;refine bs1 H u187 ti195 fun g94 z H=> ?_;refine ap H 9 0 rfl [⟨g67,⟨tt.th,tt.nm,clk tt.lo,0,false,(an:Int),-1,false⟩⟩] u187 ti195 rfl Pc.one (by simp only[List.length_cons,List.length_nil];omega) fun v96 z H=> ?_;obtain⟨A97,n98,c99,rfl,_,_,_⟩:=H.op 9;refine go ?_;refine st H 6 ti187 fun z H=> ?_;refine go ?_;refine En ?_;have H:=H.front [2,9];have H:Hp W _ (big pcF (xs++[(⟨g67,⟨tt.th,tt.nm,clk tt.lo,0,false,(an:Int),-1,false⟩⟩:Pc)])::_):=Hp.bigPush pcF (⟨g67,⟨tt.th,tt.nm,clk tt.lo,0,false,(an:Int),-1,false⟩⟩:Pc) H;have hV:slV (xs.map Pc.q) ⟨l,tt.sr+1,clk tt.lo⟩ tt=((xs.map Pc.q)++[⟨tt.th,tt.nm,clk tt.lo,0,false,(an:Int),-1,false⟩],⟨(l++[(an:Int)]),tt.sr+1,clk tt.lo⟩):=(if_pos p65).trans (by rw[List.length_map,show xs.length=an from Om,show(if((l.length:Int)>0)then l[l.length-1]! else-1)= -1 from by rw[show l.length=n from Om];exact if_neg p72]);have H:=H.front [3,3,3];have H:Hp W _ (big twF (tl1.set (q) ⟨id,g,A91,n92,c93,(l++[(an:Int)]),tt.sr+1,clk tt.lo⟩)::_):=Hp.bigIn twF ⟨id,g,A91,n92,c93,(l++[(an:Int)]),tt.sr+1,clk tt.lo⟩ H q1;have h1:sl1 (xs.map Pc.q,tl.map Tw.p) tt=((xs++[(⟨g67,⟨tt.th,tt.nm,clk tt.lo,0,false,(an:Int),-1,false⟩⟩:Pc)]).map Pc.q,xset (tl.map Tw.p) tt.th ⟨(l++[(an:Int)]),tt.sr+1,clk tt.lo⟩):=by show((slV (slG _ _ tt).1 _ tt).1,xset _ _ (slV (slG _ _ tt).1 _ tt).2)=_;rw[←hT,hG];dsimp only;rw[hV];rw[List.map_append];rfl
    have hm:(tl1.set q ⟨id,g,A91,n92,c93,(l++[(an:Int)]),tt.sr+1,clk tt.lo⟩).map Tw.m=tl1.map Tw.m:=set_same_map Tw.m _ _ _ (by rw[hx];rfl);exact⟨A97,n98,c99,(xs++[(⟨g67,⟨tt.th,tt.nm,clk tt.lo,0,false,(an:Int),-1,false⟩⟩:Pc)]),tl1.set q ⟨id,g,A91,n92,c93,(l++[(an:Int)]),tt.sr+1,clk tt.lo⟩,rfl,(by rw[hm];exact((H.drop [2,2,4]).front [2,3,2,1,0])),by rw[h1],by rw[h1,q4,List.map_set];show List.set _ _ (id,_)=_;rw[q5];rfl⟩
  ·refine go ?_;refine Cd (fun p101=> ?_) fun p101=> ?_
   ·refine go ?_;refine c3 Fh (slend_any _ _ _ _ _ _ _ _ _ (xs) (l) ((tt.sr+1)) ((clk tt.lo)) ((clk tt.lo)) false _ _ _ (H.front [3,5,5,0,0]) hmr) ?_;rintro _ z ⟨xse102,ne102,rfl,H,h1e102,h2e102⟩;refine⟨_,rfl,?_⟩;refine go ?_;refine En ?_;have hV:slV (xs.map Pc.q) ⟨l,tt.sr+1,clk tt.lo⟩ tt=(xse102.map Pc.q,⟨(slE (xs.map Pc.q) ⟨l,tt.sr+1,clk tt.lo⟩ (clk tt.lo) false).2.l,tt.sr+1,clk tt.lo⟩):=(if_neg p65).trans ((if_pos p101).trans (by rw[h1e102];exact Prod.ext rfl (slE_tq _ _ _ _)));have H:=H.front [3,3,3];have H:Hp W _ (big twF (tl1.set (q) ⟨id,g,A,ne102,cp,(slE ((xs).map Pc.q) ⟨l,(tt.sr+1),(clk tt.lo)⟩ ((clk tt.lo)) false).2.l,tt.sr+1,clk tt.lo⟩)::_):=Hp.bigIn twF ⟨id,g,A,ne102,cp,(slE ((xs).map Pc.q) ⟨l,(tt.sr+1),(clk tt.lo)⟩ ((clk tt.lo)) false).2.l,tt.sr+1,clk tt.lo⟩ H q1;have h1:sl1 (xs.map Pc.q,tl.map Tw.p) tt=(xse102.map Pc.q,xset (tl.map Tw.p) tt.th ⟨(slE (xs.map Pc.q) ⟨l,tt.sr+1,clk tt.lo⟩ (clk tt.lo) false).2.l,tt.sr+1,clk tt.lo⟩):=by show((slV (slG _ _ tt).1 _ tt).1,xset _ _ (slV (slG _ _ tt).1 _ tt).2)=_;rw[←hT,hG];dsimp only;rw[hV]
    have hm:(tl1.set q ⟨id,g,A,ne102,cp,(slE ((xs).map Pc.q) ⟨l,(tt.sr+1),(clk tt.lo)⟩ ((clk tt.lo)) false).2.l,tt.sr+1,clk tt.lo⟩).map Tw.m=tl1.map Tw.m:=set_same_map Tw.m _ _ _ (by rw[hx];rfl);exact⟨aA,an,ac,xse102,tl1.set q ⟨id,g,A,ne102,cp,(slE ((xs).map Pc.q) ⟨l,(tt.sr+1),(clk tt.lo)⟩ ((clk tt.lo)) false).2.l,tt.sr+1,clk tt.lo⟩,rfl,(by rw[hm];exact((H.drop [5]).front [1,1,2,1,0])),by rw[h1],by rw[h1,q4,List.map_set];show List.set _ _ (id,_)=_;rw[q5];rfl⟩
   ·refine go ?_;refine En ?_;have hV:slV (xs.map Pc.q) ⟨l,tt.sr+1,clk tt.lo⟩ tt=((xs.map Pc.q),⟨l,tt.sr+1,clk tt.lo⟩):=(if_neg p65).trans (if_neg p101);have H:Hp W _ (big twF (tl1.set (q) ⟨id,g,A,n,cp,l,tt.sr+1,clk tt.lo⟩)::_):=Hp.bigIn twF ⟨id,g,A,n,cp,l,tt.sr+1,clk tt.lo⟩ H q1;have h1:sl1 (xs.map Pc.q,tl.map Tw.p) tt=(xs.map Pc.q,xset (tl.map Tw.p) tt.th ⟨l,tt.sr+1,clk tt.lo⟩):=by show((slV (slG _ _ tt).1 _ tt).1,xset _ _ (slV (slG _ _ tt).1 _ tt).2)=_;rw[←hT,hG];dsimp only;rw[hV]
    have hm:(tl1.set q ⟨id,g,A,n,cp,l,tt.sr+1,clk tt.lo⟩).map Tw.m=tl1.map Tw.m:=set_same_map Tw.m _ _ _ (by rw[hx];rfl);exact⟨aA,an,ac,xs,tl1.set q ⟨id,g,A,n,cp,l,tt.sr+1,clk tt.lo⟩,rfl,(by rw[hm];exact((H.drop [3]).front [1,2,1,1,0])),by rw[h1],by rw[h1,q4,List.map_set];show List.set _ _ (id,_)=_;rw[q5];rfl⟩
theorem slcmp_any(a:Sc)(b:Sc)(w:World):
  Cr 80 #[.agg #[.int .i64 a.th,.int .i64 a.pa,.int .i64 a.de,.string a.nm,.int .i64 a.fr,.int .i64 a.to,.int .i64 a.se,.bool a.op],.agg #[.int .i64 b.th,.int .i64 b.pa,.int .i64 b.de,.string b.nm,.int .i64 b.fr,.int .i64 b.to,.int .i64 b.se,.bool b.op]] w (.int .i64 (cmpSc a b)):=by
 have H:=(Hp.nil w);refine Wb Tryz.func80 ?_;refine go ?_;refine bx H fun g2 z H=> ?_;refine bx H fun g4 z H=> ?_;refine go ?_;refine WC.regionT 19 (by kernel_rfl) (by kernel_rfl) ?_;refine G6 ?_;refine WQ.call rfl (blt rfl) rfl rfl rfl Fh rfl (fun w hw=>calls_ext hw (cmpI_any _ _ _)) ?_;refine G6 ?_;refine WQ.call rfl (blt rfl) rfl rfl rfl Fh rfl (fun w hw=>calls_ext hw (cmpI_any _ _ _)) ?_;refine G4 ?_;refine WQ.call rfl (blt rfl) rfl rfl rfl Fh rfl (fun w hw=>calls_ext hw (cmpI_any _ _ _)) ?_;refine WQ.tail (fun z x=> ?_);have H:=H.ex x;refine bs (zs:=[.int .i64 0,.int .i64 0,.int .i64 0]) (cs:=[_,_,_]) H u81 ti3 fun g7 z H=> ?_;refine c1 H Fh (or_any _ _ _ _ _ (Ls.lit (f:=ic) (sz:=1) (l:=[cmpI a.fr b.fr,cmpI b.to a.to,cmpI a.th b.th]) (H.b 0) (fun _=>rfl) rfl (by first|decide|exact(show 3≤maxLen by decide)) rfl)) fun z H=> ?_;refine go ?_;refine Rt [_] ?_;exact⟨rfl,H.ext⟩
theorem slof1_any(x:Pc)(y:Pc)(w:World)(h_x:Blk w x.g 197 x.q.c)(h_y:Blk w y.g 197 y.q.c):
  Cr 79 #[.pointer (some ⟨x.g,0,none⟩),.pointer (some ⟨y.g,0,none⟩)] w (.int .i64 (cmpSc x.q.s y.q.s)):=by
 have H:=(Hp.nil w);refine Wb Tryz.func79 ?_;refine go ?_;refine Qr ?_;refine G8 ?_;refine WQ.call rfl (blt rfl) rfl rfl rfl Fh rfl (fun w hw=>calls_ext hw (slcmp_any x.q.s y.q.s _)) ?_;refine go ?_;refine Qd H fun z H=> ?_;refine go ?_;refine Rt [_] ?_;exact⟨rfl,H.ext⟩
theorem slpar_any(b:Nat)(aA:Option Addr)(an ac:Nat)(xs:List Pc)(mv:Value)(pp:Pc)(w:World)(hbx:Blk w b 189 [.slice aA an ac,mv])(hr:Ls w aA an ac Pc.c 1 xs)(hp:∀x∈xs,Blk w x.g 197 x.q.c)(h_pp:Blk w pp.g 197 pp.q.c)(hx: -1≤pp.q.ar∧pp.q.ar<(xs.length:Int)∧pp.q.ar<(xs.length:Int))(har:∀i,i<xs.length→-1≤xs[i]!.q.ar∧xs[i]!.q.ar<(i:Int))(h0:0<xs.length):
  Cr 81 #[.pointer (some ⟨b,0,none⟩),.pointer (some ⟨pp.g,0,none⟩)] w (.int .i64 (slP (xs.map Pc.q) xs.length pp.q.ar)):=by
 have H:=(Hp.nil w);have e_xs:=hr.len;refine Wb Tryz.func81 ?_;refine G10 ?_;refine sb [0,5] ?_;refine go ?_;refine sb [5,0] ?_;refine WC.loopS 1 (fun mz Ed W'=>∃n:Int,∃k:Nat,mz=2*k∧Ed=[(5,.int .i64 n)]∧Hp w W' ([])∧(-1≤n∧n<(k:Int)∧n<(xs.length:Int))∧(slP (xs.map Pc.q) k n=slP (xs.map Pc.q) xs.length pp.q.ar)) _ ⟨pp.q.ar,xs.length,rfl,rfl,(H.pick []),hx,rfl⟩ ?_;rintro _ _ z ⟨n,k,rfl,rfl,H,hn,hs⟩;refine go ?_;refine Qr ?_;refine G8 ?_;refine qg (fun hb=>Y.indexLs n.toNat (hr.ext H.ext) rfl u187 ti195 (evg rfl hb) (evg rfl hb) (by have q0:=(dec_t hb);omega) (by have q0:=(dec_t hb);omega)) ?_;refine G5 ?_;refine qg (fun hb=>Y.load1 rfl u3 rfl (evg rfl hb) (Blk.at_ext ((hp _ (mem_b (show n.toNat<xs.length from Om))).ext H.ext) rfl)) ?_;refine G5 ?_;refine qg (fun hb=>Y.indexLs n.toNat (hr.ext H.ext) rfl u187 ti195 (evg rfl hb) (evg rfl hb) (by have q0:=(dec_t hb);omega) (by have q0:=(dec_t hb);omega)) ?_;refine G5 ?_;refine qg (fun hb=>Y.load1 rfl u3 rfl (evg rfl hb) (Blk.at_ext ((hp _ (mem_b (show n.toNat<xs.length from Om))).ext H.ext) rfl)) ?_;refine go ?_;refine Qd H fun z H=> ?_;refine go ?_;refine Cd (fun p6=> ?_) fun p6=> ?_
 ·have b7:n.toNat<an:=Om;refine G9 ?_;refine yy (Y.indexLs n.toNat (hr.ext H.ext) rfl u187 ti195 rfl rfl Om b7) ?_;refine G3 ?_;refine yy (ld rfl u3 rfl (Blk.at_eq ((hp _ (mem_b (show n.toNat<xs.length from Om))).ext H.ext) rfl)) ?_;refine go ?_;exact Rs [(5,_)] Sx ⟨xs[n.toNat]!.q.ar,(k-1),rfl,rfl,(H.pick []),(by have q:=har n.toNat Om;omega),(by rw[←hs,slP_step (k:=k) (n:=n) Om (by rw[map_b Pc.q (show n.toNat<xs.length by omega)];exact p6),map_b Pc.q (show n.toNat<xs.length by omega)])⟩
 ·refine G9 ?_;refine sb [4] ?_;refine go ?_;refine Rt [_] ?_;have e1:slP (xs.map Pc.q) xs.length pp.q.ar=n:=hs.symm.trans (slP_stop (by rw[map_b Pc.q (show n.toNat<xs.length by omega)];exact(fun q=>p6.elim (fun h=>h q.1) (fun h=>h q.2))));exact⟨by rw[e1];rfl,H.ext⟩
theorem sgP:SG Pc.c 1 (fun x:Pc=>.pointer (some ⟨x.g,0,none⟩)) (187,195,200) (fun f=>match f with|224=>222|173=>168|201=>199|174=>169|139=>131|95=>78|f=>f) where
 u:=Tryz.underlying187
 t0:=⟨_,_,ti195⟩
 len:=fun _=>rfl
 pos:=by decide
 cells:=fun _=>rfl
 one:=fun x=>List.all_eq_true.2 (Pc.one x)
 ld0:=fun o n E C x A m cap l k ho hx h hk=>ld ho Tryz.underlying195 hx (Ls.at_c h hk rfl)
 f224:=⟨_,Tryz.func222,by kernel_rfl,by kernel_rfl,by kernel_rfl,by kernel_rfl⟩
 f173:=⟨_,Tryz.func168,by kernel_rfl,by kernel_rfl,by kernel_rfl,by kernel_rfl⟩
 f201:=⟨_,Tryz.func199,by kernel_rfl,by kernel_rfl,by kernel_rfl,by kernel_rfl⟩
 f174:=⟨_,Tryz.func169,by kernel_rfl,by kernel_rfl,by kernel_rfl,by kernel_rfl⟩
 f139:=⟨_,Tryz.func131,by kernel_rfl,by kernel_rfl,by kernel_rfl,by kernel_rfl⟩
 f95:=⟨_,Tryz.func78,by kernel_rfl,by kernel_rfl,by kernel_rfl,by kernel_rfl⟩
theorem sstP_any(A:Option Addr)(n q:Nat)(l:List Pc)(f:FuncId)(cap:List Value)(c:Pc→Pc→Int)(W:World)(R:List Res)(w:World)(H:Hp W w (row 195 Pc.c 1 (.slice A n q) l::R))(h1:n≤39)(hF:Has Tryz.prog f)(hc:∀l1:List Pc,(∀x∈l1,x∈l)→∀w1,Hp W w1 (row 195 Pc.c 1 (.slice A n q) l1::R)→∀x∈l,∀y∈l,Calls Tryz.prog f ([]++[(Value.pointer (some ⟨x.g,0,none⟩)),(Value.pointer (some ⟨y.g,0,none⟩))]++cap).toArray w1 fun e w2=>e= .returned (.int .i64 (c x y))∧Ext w1 w2):
  Calls Tryz.prog 78 #[.slice A n q,.func (.func f) #[] cap.toArray] w fun e w'=>e= .returned (resVal [])∧Hp W w' (row 195 Pc.c 1 (.slice A n q) (stabF c l)::R):=sstG_any sgP A n q l f cap c W R w H h1 hF hc
section
variable{α β:Type}[Inhabited α][Inhabited β]{f:α→β}{c:α→α→Int}{d:β→β→Int}
theorem map_bg(hf:f default=default)(l:List α)(i:Nat):(l.map f)[i]! =f l[i]! :=by
 grind
theorem swp_map(hf:f default=default)(l:List α)(i j:Nat):(swp l i j).map f=swp (l.map f) i j:=by
 grind [swp,List.map_set,map_bg]
theorem insJ_map(hf:f default=default)(hc:∀x y,d (f x) (f y)=c x y)(a:Nat):∀(j:Nat) (l:List α),(insJ c a j l).map f=insJ d a j (l.map f)
 |0,_=>rfl
 |j+1,l=>by
  unfold insJ;rw[map_bg hf,map_bg hf,hc];split
  ·rw[insJ_map hf hc a j,swp_map hf]
  ·rfl
theorem insN_map(hf:f default=default)(hc:∀x y,d (f x) (f y)=c x y)(a:Nat):∀(k:Nat) (l:List α),(insN c a k l).map f=insN d a k (l.map f)
 |0,_=>rfl
 |k+1,l=>by show(insJ c a _ _).map f=insJ d a _ _;rw[insJ_map hf hc,insN_map hf hc a k]
theorem insF_map(hf:f default=default)(hc:∀x y,d (f x) (f y)=c x y)(a b:Nat)(l:List α):(insF c a b l).map f=insF d a b (l.map f):=insN_map hf hc _ _ _
theorem swr_map(hf:f default=default)(a b:Nat):∀(k:Nat) (l:List α),(swr a b k l).map f=swr a b k (l.map f)
 |0,_=>rfl
 |k+1,l=>by show(swp _ _ _).map f=swp _ _ _;rw[swp_map hf,swr_map hf a b k]
theorem rotL_map(hf:f default=default):∀(k m i j:Nat) (l:List α),(rotL k m i j l).map f=rotL k m i j (l.map f)
 |0,_,_,_,_=>rfl
 |k+1,m,i,j,l=>by
  unfold rotL;split
  ·split
   ·rw[rotL_map hf k,swr_map hf]
   ·rw[rotL_map hf k,swr_map hf]
  grind [swr_map]
theorem rotF_map(hf:f default=default)(a m b:Nat)(l:List α):(rotF a m b l).map f=rotF a m b (l.map f):=rotL_map hf _ _ _ _ _
theorem bsF_congr{p q:Nat→Prop}[DecidablePred p][DecidablePred q](h:∀x,p x↔q x):∀(k i j:Nat),bsF p k i j=bsF q k i j
 |0,_,_=>rfl
 |k+1,i,j=>by
  unfold bsF;split
  ·by_cases hp:p ((i+j)/2)
   ·rw[if_pos hp,if_pos ((h _).1 hp),bsF_congr h k]
   ·rw[if_neg hp,if_neg (fun hq=>hp ((h _).2 hq)),bsF_congr h k]
  ·rfl
theorem mvU_map(hf:f default=default)(a:Nat):∀(k:Nat) (l:List α),(mvU a k l).map f=mvU a k (l.map f)
 |0,_=>rfl
 |k+1,l=>by show(swp _ _ _).map f=swp _ _ _;rw[swp_map hf,mvU_map hf a k]
theorem mvD_map(hf:f default=default)(m:Nat):∀(k:Nat) (l:List α),(mvD m k l).map f=mvD m k (l.map f)
 |0,_=>rfl
 |k+1,l=>by show(swp _ _ _).map f=swp _ _ _;rw[swp_map hf,mvD_map hf m k]
theorem symStart_map(hf:f default=default)(hc:∀x y,d (f x) (f y)=c x y)(a m b:Nat)(l:List α):symStart d a m b (l.map f)=symStart c a m b l:=by
 unfold symStart;exact bsF_congr (fun h=>by rw[map_bg hf,map_bg hf,hc]) _ _ _
theorem sym3_map{r:Nat→Nat→Nat→List α→List α}{r':Nat→Nat→Nat→List β→List β}(hf:f default=default)(hr:∀a m b l,(r a m b l).map f=r' a m b (l.map f))(a m b s:Nat)(l:List α):(sym3 r a m b s l).map f=sym3 r' a m b s (l.map f):=by
 unfold sym3;dsimp only;have h1:(if(s:Int)<(m:Int)∧(m:Int)<(((a+b)/2+m-s:Nat):Int)then rotF s m ((a+b)/2+m-s) l else l).map f=if(s:Int)<(m:Int)∧(m:Int)<(((a+b)/2+m-s:Nat):Int)then rotF s m ((a+b)/2+m-s) (l.map f)else l.map f:=by
  grind [rotF_map]
 grind
theorem symF_map(hf:f default=default)(hc:∀x y,d (f x) (f y)=c x y):∀(k a m b:Nat) (l:List α),(symF c k a m b l).map f=symF d k a m b (l.map f)
 |0,_,_,_,_=>rfl
 |k+1,a,m,b,l=>by
  unfold symF;split
  ·rw[mvU_map hf,bsF_congr (p:=fun h=>d (l.map f)[h]! (l.map f)[a]! <0) (q:=fun h=>c l[h]! l[a]! <0) (fun h=>by rw[map_bg hf,map_bg hf,hc])]
  split
  ·rw[mvD_map hf,bsF_congr (p:=fun h=>¬d (l.map f)[m]! (l.map f)[h]! <0) (q:=fun h=>¬c l[m]! l[h]! <0) (fun h=>by rw[map_bg hf,map_bg hf,hc])]
  ·rw[sym3_map hf (symF_map hf hc k),symStart_map hf hc]
theorem stabF_map(hf:f default=default)(hc:∀x y,d (f x) (f y)=c x y)(l:List α):(stabF c l).map f=stabF d (l.map f):=by
 unfold stabF;rw[List.length_map];split
 ·dsimp only;split
  ·rw[symF_map hf hc,insF_map hf hc,insF_map hf hc]
  ·rw[insF_map hf hc,insF_map hf hc]
 grind [insF_map]
end
def clP(E:Int)(x:Pq):Pq:={x with to:=E,op:=true,cl:=true}
def clM(E:Int)(b:Nat→Bool)(P:List Pq):List Pq:=(List.range P.length).map fun i=>if b i=true then clP E P[i]! else P[i]!
theorem clM_len(E:Int)(b:Nat→Bool)(P:List Pq):(clM E b P).length=P.length:=by simp[clM]
theorem clM_at{E:Int}{b:Nat→Bool}{P:List Pq}{i:Nat}(h:i<P.length):(clM E b P)[i]! =if b i=true then clP E P[i]! else P[i]! :=by
 simp_all [getElem!_pos,clM_len,clM,List.getElem_map,List.getElem_range]
theorem list_ext{α:Type}[Inhabited α]{l m:List α}(h:l.length=m.length)(he:∀i,i<l.length→l[i]! =m[i]!):l=m:=by
 refine List.ext_getElem h fun i h1 h2=> ?_;grind
theorem clM_none(E:Int)(P:List Pq):clM E (fun _=>false) P=P:=list_ext (clM_len _ _ _) fun i hi=>by
 grind [clM_len,clM_at]
theorem clM_two(E:Int)(b1 b2:Nat→Bool)(P:List Pq):clM E b2 (clM E b1 P)=clM E (fun i=>b1 i||b2 i) P:=list_ext (by rw[clM_len,clM_len,clM_len]) fun i hi=>by
 rw[clM_len,clM_len]at hi;rw[clM_at (by grind [clM_len]),clM_at hi,clM_at hi];cases b1 i<;>cases b2 i<;>rfl
theorem clM_congr{E:Int}{b1 b2:Nat→Bool}{P:List Pq}(h:∀i,i<P.length→b1 i=b2 i):clM E b1 P=clM E b2 P:=list_ext (by rw[clM_len,clM_len]) fun i hi=>by
 grind [clM_len,clM_at]
theorem slE_cl{P:List Pq}{t:Tq}{E:Int}(h0:0<t.l.length)(hr:∀y∈t.l,0≤y∧y<(P.length:Int)):(slE P t E true).1=clM E (fun i=>decide ((i:Int)=t.l[t.l.length-1]!)) P:=by
 have hk:=hr _ (mem_b (show t.l.length-1<t.l.length by omega));unfold slE;rw[if_neg Om];refine list_ext (by rw[clM_len];grind) fun i hi=> ?_;have hi':i<P.length:=by grind
 rw[clM_at hi'];show(P.set _ _)[i]! =_;rw[set_at _ _ _ _ hi'];by_cases q:(i:Int)=t.l[t.l.length-1]!
 ·rw[if_pos Om,if_pos (by grind),show t.l[t.l.length-1]!.toNat=i from Om];rfl
 grind
theorem slA_cl{E:Int}:∀(k:Nat) (P:List Pq) (t:Tq),t.l.length=k→(∀y∈t.l,0≤y∧y<(P.length:Int))→(slA k P t E).1=clM E (fun i=>decide ((i:Int)∈t.l)) P∧(slA k P t E).2={t with l:=[]}
 |0,P,t,h,_=>by
  have e:t.l=[]:=List.length_eq_zero_iff.1 h;refine⟨?_,by show t=_;cases t;rw[←e]⟩;show P=_;simp_all [clM_none,clM_congr]
 |k+1,P,t,h,hr=>by
  have h0:0<t.l.length:=Om;have e1:=slE_cl (E:=E) h0 hr;have e2:(slE P t E true).2.l=t.l.take (t.l.length-1):=by simp_all [slE,if_neg]
  have e3:=slE_tq P t E true;obtain⟨a,b⟩:=slA_cl k (slE P t E true).1 (slE P t E true).2 (by grind) (fun y hy=>by grind [slE_P,slE_sub]);show(slA k _ _ E).1=_∧(slA k _ _ E).2=_;refine⟨?_,by rw[b,e3]⟩;rw[a,e1,clM_two];refine clM_congr fun i _=> ?_;rw[e2];have hl:t.l=t.l.take (t.l.length-1)++[t.l[t.l.length-1]!]:=by
   grind [take_1,List.take_length]
  grind
def enN(en:Int)(o:List Tm):Nat→Int
 |0=>en
 |j+1=>max (enN en o j) (clk o[j]!.lo)
def enF(en:Int)(o:List Tm):Int:=clk (enN en o o.length)
def slP2(o:List Tm)(en:Int):List Pq:=clM (enF en o) (fun i=>(slN o o.length).2.any fun t=>decide ((i:Int)∈t.2.l)) (slN o o.length).1
def cmpPq(x y:Pq):Int:=cmpSc x.s y.s
def slK(o:List Tm)(en:Int):List Pq:=stabF cmpPq ((slP2 o en).filter fun x=>decide (x.fr<x.to))
def plM(K:List Pq):Nat→List (Int×Int)
 |0=>[(-1,-1)]
 |i+1=>xset (plM K i) K[i]!.no (i:Int)
def paF(P K:List Pq)(i:Nat):Int:=(xget (plM K (i+1)) (slP P P.length K[i]!.ar)).getD 0
def so1(pa:Int)(x:Pq)(out:List Sc):List Sc:=
 if pa≥0 then(out.set pa.toNat {out[pa.toNat]! with se:=out[pa.toNat]!.se-(x.to-x.fr)})++[⟨x.th,pa,out[pa.toNat]!.de+1,x.nm,x.fr,x.to,x.to-x.fr,x.op⟩]
 else out++[⟨x.th,pa,0,x.nm,x.fr,x.to,x.to-x.fr,x.op⟩]
def slO(P K:List Pq):Nat→List Sc
 |0=>[]
 |i+1=>so1 (paF P K i) K[i]! (slO P K i)
def slF(o:List Tm)(en:Int):List Sc:=slO (slP2 o en) (slK o en) (slK o en).length
theorem so1_len(pa:Int)(x:Pq)(out:List Sc):(so1 pa x out).length=out.length+1:=by
 grind [so1,List.length_append,List.length_set]
theorem slO_len(P K:List Pq):∀i,(slO P K i).length=i
 |0=>rfl
 |i+1=>by show(so1 _ _ _).length=_;rw[so1_len,slO_len P K i]
theorem slO_rng{P K:List Pq}(hk:∀x∈K,-1000000000000≤x.to-x.fr∧x.to-x.fr≤1000000000000):∀i,i≤K.length→∀s∈slO P K i,(0≤s.de∧s.de≤(i:Int))∧-(1000000000000*((i:Int)+1))≤s.se∧s.se≤1000000000000*((i:Int)+1)
 |0,_,s,hs=>by cases hs
 |i+1,hi,s,hs=>by
  have ih:=slO_rng (P:=P) hk i Om;have hx:=hk _ (mem_b (show i<K.length from hi));have hl:=slO_len P K i;have hs':s∈so1 (paF P K i) K[i]! (slO P K i):=hs;have hde:∀k:Nat,0≤(slO P K i)[k]!.de∧(slO P K i)[k]!.de≤(i:Int):=fun k=>by
   by_cases q:k<(slO P K i).length
   ·grind
   ·rw[List.getElem!_eq_getElem?_getD,List.getElem?_eq_none Om];exact⟨Int.le_refl _,by show(0:Int)≤_;omega⟩
  have hse:∀k:Nat,-(1000000000000*((i:Int)+1))≤(slO P K i)[k]!.se∧(slO P K i)[k]!.se≤1000000000000*((i:Int)+1):=fun k=>by
   by_cases q:k<(slO P K i).length
   ·grind
   ·rw[List.getElem!_eq_getElem?_getD,List.getElem?_eq_none Om];show-(1000000000000*((i:Int)+1))≤(0:Int)∧(0:Int)≤_;omega
  unfold so1 at hs';grind
def TqOk(n:Nat)(t:Tq):Prop:=(∀y∈t.l,0≤y∧y<(n:Int))∧t.l.length≤n
theorem TqOk.up{n m:Nat}{t:Tq}(h:TqOk n t)(hm:n≤m):TqOk m t:=⟨fun y hy=>by have:=h.1 y hy;omega,Nat.le_trans h.2 hm⟩
def PqOk(P:List Pq):Prop:=∀i,i<P.length→P[i]!.no=(i:Int)∧-1≤P[i]!.ar∧P[i]!.ar<(i:Int)
theorem PqOk.set{P:List Pq}{k:Nat}{x:Pq}(h:PqOk P)(hx:x.no=P[k]!.no∧x.ar=P[k]!.ar):PqOk (P.set k x):=fun i hi=>by
 have hi':i<P.length:=by simpa using hi
 rw[set_at _ _ _ _ hi'];split
 ·rename_i q;subst q;rw[hx.1,hx.2];exact h k hi'
 ·exact h i hi'
theorem slE_ok{P:List Pq}{t:Tq}{at_:Int}{o:Bool}(h:PqOk P)(ht:TqOk P.length t):PqOk (slE P t at_ o).1∧TqOk (slE P t at_ o).1.length (slE P t at_ o).2:=by
 refine⟨?_,slE_P.symm▸⟨fun y hy=>ht.1 y (slE_sub y hy),?_⟩⟩
 ·unfold slE;split
  ·exact h
  ·exact h.set ⟨rfl,rfl⟩
 ·unfold slE;split
  ·exact ht.2
  ·show(t.l.take _).length≤_;rw[List.length_take];have:=ht.2;omega
theorem slA_ok{at_:Int}:∀(k:Nat) {P:List Pq} {t:Tq},PqOk P→TqOk P.length t→PqOk (slA k P t at_).1∧TqOk (slA k P t at_).1.length (slA k P t at_).2∧(slA k P t at_).1.length=P.length
 |0,_,_,h,ht=>⟨h,ht,rfl⟩
 |k+1,P,t,h,ht=>by
  obtain⟨a,b⟩:=slE_ok (at_:=at_) (o:=true) h ht;obtain⟨c,d,e⟩:=slA_ok k a b;exact⟨c,d,e.trans slE_P⟩
theorem slG_ok{P:List Pq}{t:Tq}{x:Tm}(h:PqOk P)(ht:TqOk P.length t):PqOk (slG P t x).1∧TqOk (slG P t x).1.length (slG P t x).2∧(slG P t x).1.length=P.length:=by
 unfold slG;split
 ·exact slA_ok _ h ht
 grind
theorem slV_ok{P:List Pq}{t:Tq}{x:Tm}(h:PqOk P)(ht:TqOk P.length t):PqOk (slV P t x).1∧TqOk (slV P t x).1.length (slV P t x).2∧P.length≤(slV P t x).1.length∧(slV P t x).1.length≤P.length+1:=by
 unfold slV;split
 ·have e:(P++[(⟨x.th,x.nm,clk x.lo,0,false,(P.length:Int),if(t.l.length:Int)>0 then t.l[t.l.length-1]! else-1,false⟩:Pq)]).length=P.length+1:=by grind
  dsimp only;refine⟨fun i hi=> ?_,⟨fun y hy=> ?_,?_⟩,Om,Om⟩
  ·rw[e]at hi;by_cases q:i<P.length
   ·rw[List.getElem!_eq_getElem?_getD,List.getElem?_append_left q,←List.getElem!_eq_getElem?_getD];exact h i q
   ·have:i=P.length:=Om;subst this;rw[List.getElem!_eq_getElem?_getD,List.getElem?_append_right Nl,Nat.sub_self];show(P.length:Int)=(P.length:Int)∧-1≤(if(t.l.length:Int)>0 then t.l[t.l.length-1]! else-1)∧(if(t.l.length:Int)>0 then t.l[t.l.length-1]! else-1)<(P.length:Int);refine⟨rfl,?_⟩;split
    ·have:=ht.1 _ (mem_b (show t.l.length-1<t.l.length by omega));omega
    ·omega
  ·rw[e];rcases List.mem_append.1 hy with r|r
   ·have:=ht.1 y r;omega
   grind
  ·rw[e,List.length_append];exact Nat.succ_le_succ ht.2
 split
 ·obtain⟨a,b⟩:=slE_ok (at_:=clk x.lo) (o:=false) h ht;simp_all [And.intro,slE_P,Nat.le_refl]
 grind
structure SlInv(s:List Pq×List (Int×Tq)):Prop where
 p:PqOk s.1
 t:∀q∈s.2,TqOk s.1.length q.2
theorem SlInv.get{s:List Pq×List (Int×Tq)}(h:SlInv s)(k:Int):TqOk s.1.length ((xget s.2 k).getD default):=by
 cases e:xget s.2 k with
 |none=>exact⟨fun y hy=>(by cases hy),Nat.zero_le _⟩
 |some t=>exact h.t _ (xget_mem e)
theorem sl1_ok{s:List Pq×List (Int×Tq)}{x:Tm}(h:SlInv s):SlInv (sl1 s x)∧(sl1 s x).1.length≤s.1.length+1:=by
 obtain⟨a,b,c⟩:=slG_ok (x:=x) h.p (h.get x.th);obtain⟨d,e,f,g⟩:=slV_ok (x:=x) (t:={(slG s.1 ((xget s.2 x.th).getD default) x).2 with ex:=x.sr+1,la:=clk x.lo}) a b;refine⟨⟨d,fun q hq=> ?_⟩,by show(slV _ _ x).1.length≤_;omega⟩;rcases xset_mem hq with r|rfl
 ·exact(h.t q r).up (by show s.1.length≤(slV _ _ x).1.length;omega)
 ·exact e
theorem slN_ok(o:List Tm):∀j,SlInv (slN o j)∧(slN o j).1.length≤j
 |0=>⟨⟨fun i hi=>absurd hi (Nat.not_lt_zero i),fun q hq=>(by cases hq)⟩,Nat.le_refl _⟩
 |j+1=>by
  obtain⟨a,b⟩:=slN_ok o j;obtain⟨c,d⟩:=sl1_ok (x:=o[j]!) a;exact⟨c,by show(sl1 (slN o j) o[j]!).1.length≤_;omega⟩
theorem any_all{tl:List Tw}{S:List Nat}(h1:∀i,i<tl.length→i∈S)(h2:∀s∈S,s<tl.length)(f:Tw→Bool):(S.any fun s=>f tl[s]!)=tl.any f:=by
 rw[Bool.eq_iff_iff,List.any_eq_true,List.any_eq_true];constructor
 ·grind
 ·rintro⟨t,ht,h⟩;obtain⟨i,hi,rfl⟩:=mem_at ht;grind
theorem kept_yes{ys:List Pc}{i:Nat}(hi:i<ys.length)(h:ys[i]!.q.fr<ys[i]!.q.to):(ys.take (i+1)).filter (fun x:Pc=>decide (x.q.fr<x.q.to))=(ys.take i).filter (fun x:Pc=>decide (x.q.fr<x.q.to))++[ys[i]!]:=by
 rw[take_1 hi,List.filter_append];grind
theorem kept_no{ys:List Pc}{i:Nat}(hi:i<ys.length)(h:¬ys[i]!.q.fr<ys[i]!.q.to):(ys.take (i+1)).filter (fun x:Pc=>decide (x.q.fr<x.q.to))=(ys.take i).filter (fun x:Pc=>decide (x.q.fr<x.q.to)):=by
 rw[take_1 hi,List.filter_append];grind
theorem mval_pl(m:List (Int×Int))(k:Int):mval (xam intE m) k (.int .i64 0)= .int .i64 ((xget m k).getD 0):=by
 cases h:xget m k<;>simp_all [xget,none,mval_xam0,intE,some,mval_xam]
theorem slP2_ok(o:List Tm)(en:Int):PqOk (slP2 o en):=fun i hi=>by
 unfold slP2 at hi ⊢;rw[clM_len]at hi;rw[clM_at hi];have:=(slN_ok o o.length).1.p i hi;split
 ·exact this
 omega
theorem par_r{ys:List Pc}{P:List Pq}(h:PqOk P)(e:ys.map Pc.q=P):∀i,i<ys.length→-1≤ys[i]!.q.ar∧ys[i]!.q.ar<(i:Int):=fun i hi=>by
 have:=h i (by grind);grind
theorem par_x{ys:List Pc}{P:List Pq}{x:Pc}(h:PqOk P)(e:ys.map Pc.q=P)(hx:x∈ys): -1≤x.q.ar∧x.q.ar<(ys.length:Int)∧x.q.ar<(ys.length:Int):=by
 obtain⟨i,hi,rfl⟩:=mem_at hx;have:=par_r h e i hi;omega
def PqT(P:List Pq):Prop:=∀x∈P,(0≤x.fr∧x.fr≤1000000000000)∧0≤x.to∧x.to≤1000000000000
theorem PqT.at_{P:List Pq}(h:PqT P)(k:Nat):0≤P[k]!.fr∧P[k]!.fr≤1000000000000:=by
 by_cases q:k<P.length
 ·exact(h _ (mem_b q)).1
 ·rw[List.getElem!_eq_getElem?_getD,List.getElem?_eq_none Om];exact⟨Int.le_refl _,Dc⟩
theorem slE_T{P:List Pq}{t:Tq}{a:Int}{o:Bool}(h:PqT P)(ha:0≤a∧a≤1000000000000):PqT (slE P t a o).1∧(slE P t a o).2.la=t.la:=by
 unfold slE;split
 ·grind
 ·refine⟨fun x hx=> ?_,rfl⟩;rcases List.mem_or_eq_of_mem_set hx with r|rfl
  ·exact h x r
  ·exact⟨h.at_ _,ha⟩
theorem slA_T{a:Int}(ha:0≤a∧a≤1000000000000):∀(k:Nat) {P:List Pq} {t:Tq},PqT P→PqT (slA k P t a).1∧(slA k P t a).2.la=t.la
 |0,_,_,h=>⟨h,rfl⟩
 |k+1,P,t,h=>by
  obtain⟨b,c⟩:=slE_T (t:=t) (o:=true) h ha;obtain⟨d,e⟩:=slA_T ha k (t:=(slE P t a true).2) b;exact⟨d,e.trans c⟩
structure SlT_(s:List Pq×List (Int×Tq)):Prop where
 p:PqT s.1
 t:∀q∈s.2,0≤q.2.la∧q.2.la≤1000000000000
theorem sl1_T{s:List Pq×List (Int×Tq)}{x:Tm}(h:SlT_ s):SlT_ (sl1 s x):=by
 have h0:0≤((xget s.2 x.th).getD default).la∧((xget s.2 x.th).getD default).la≤1000000000000:=by
  cases e:xget s.2 x.th with
  |none=>decide
  |some t=>exact h.t _ (xget_mem e)
 have h1:PqT (slG s.1 ((xget s.2 x.th).getD default) x).1:=by
  unfold slG;split
  ·exact(slA_T h0 _ h.p).1
  ·exact h.p
 have hc:=clk_rng x.lo;have h2:∀(P:List Pq) (t:Tq),PqT P→t.la=clk x.lo→PqT (slV P t x).1∧(slV P t x).2.la=clk x.lo:=fun P t hP ht=>by
  unfold slV;split
  ·refine⟨fun y hy=> ?_,ht⟩;rcases List.mem_append.1 hy with r|r
   ·exact hP y r
   grind
  split<;>simp_all [slE_T,false,And.intro]
 obtain⟨a,b⟩:=h2 _ {(slG s.1 ((xget s.2 x.th).getD default) x).2 with ex:=x.sr+1,la:=clk x.lo} h1 rfl;refine⟨a,fun q hq=> ?_⟩;rcases xset_mem hq with r|rfl
 ·exact h.t q r
 grind
theorem slN_T(o:List Tm):∀j,SlT_ (slN o j)
 |0=>⟨fun x hx=>(by cases hx),fun q hq=>(by cases hq)⟩
 |j+1=>sl1_T (slN_T o j)
theorem slP2_T(o:List Tm)(en:Int):PqT (slP2 o en):=fun x hx=>by
 obtain⟨i,hi,rfl⟩:=mem_at hx;unfold slP2 at hi ⊢;rw[clM_len]at hi;rw[clM_at hi];have h:=(slN_T o o.length).p _ (mem_b hi);split
 ·exact⟨h.1,clk_rng _⟩
 ·exact h
theorem slK_rng(o:List Tm)(en:Int):∀x∈slK o en,-1000000000000≤x.to-x.fr∧x.to-x.fr≤1000000000000:=fun x hx=>by
 have h1:=(stabF_perm _).mem_iff.1 hx;have:=slP2_T o en x (List.mem_filter.1 h1).1;omega
theorem slice_any(A_o:Option Addr)(n_o c_o:Nat)(o:List Tm)(ez:Int)(w:World)(h_o:Ls w A_o n_o c_o Tm.c 10 o)(hn:n_o≤39)(hs:∀x∈o,0≤x.sr∧x.sr≤2000000000000000)(hpa:∀i,i<(slK o ez).length→-1≤paF (slP2 o ez) (slK o ez) i∧paF (slP2 o ez) (slK o ez) i<(i:Int)):
  Calls Tryz.prog 31 #[.slice A_o n_o c_o,.int .i64 ez] w fun e w'=>∃v,e= .returned v∧OwnL w' w.heap.size 58 Sc.c 8 v (slF o ez)∧Ext w w':=by
 have H:=(Hp.nil w);have e_o:=h_o.len;have z_o:=h_o.nle;refine Wb Tryz.func31 ?_;refine G4 ?_;refine mm H fun g3 z H=> ?_;refine go ?_;refine bx H fun g5 z H=> ?_;have H:=H.nilRow 195 Pc.c 1;have H:=H.bigNil pcF;have H:=H.bigNil twF;refine go ?_;refine sb [23,1,5,21,22] ?_;refine WC.loopS 2 (fun mz Ed W'=>∃j:Nat,∃aA:Option Addr,∃an:Nat,∃ac:Nat,∃xs:List Pc,∃tl:List Tw,mz=n_o-j∧Ed=[(23,.int .i64 ((j:Nat):Int)),(1,.int .i64 (enN ez o j))]∧Hp w W' (big twF tl::big pcF xs::row 195 Pc.c 1 (.slice aA an ac) xs::box g5 189 [.slice aA an ac,.map (some g3)]::mpi g3 (tl.map Tw.m)::[])∧(j≤n_o)∧((xs.map Pc.q,tl.map Tw.p)=slN o j)) _ ⟨0,none,0,0,[],[],rfl,rfl,(H.pick [0,0,0,0,0]),(Nat.zero_le _),rfl⟩ ?_;rintro _ _ z ⟨j,aA,an,ac,xs,tl,rfl,rfl,H,jl,hN⟩;obtain⟨inv,hxl⟩:=slN_ok o j;rw[←hN]at inv hxl;have hxl2:xs.length≤j:=by rw[←List.length_map (f:=Pc.q)];exact hxl
 refine go ?_;refine Cd (fun p14=> ?_) fun p14=> ?_
 ·have b17:j<n_o:=Om;refine go ?_;refine al H ti107 fun g18 z H=> ?_;refine st H 0 ti107 fun z H=> ?_;refine go ?_;refine c3 Fh (slevent_any _ _ _ _ _ xs tl o[j]! _ _ _ (H.front [4,3,3,2,1]) (fun t ht=>by have q:=inv.get o[j]!.th;rw[ht];rw[List.length_map]at q;exact q) (hs _ (mem_b (show j<o.length by omega))) Om) ?_;rintro _ z ⟨aA',an',ac',xs',tl',rfl,H,e1,e2⟩;refine⟨_,rfl,?_⟩;refine go ?_;refine c1 H Fh (stime_any o[j]! _) fun z H=> ?_;refine go ?_;exact Rs [(23,_),(1,_)] Sx ⟨(j+1),aA',an',ac',xs',tl',rfl,rfl,(H.pick [4,3,1,0,0]),Om,(by show(_,_)=sl1 (slN o j) o[j]!;rw[e1,e2,hN])⟩
 ·refine G8 ?_;refine yy (Yld.cast (Y.minI rfl rfl rfl rfl) (vi (show min (max (enN ez o j) 0) 1000000000000=enF ez o from by rw[clk_mm];unfold enF;congr 2;omega))) ?_;refine G2 ?_;refine sb [1,5] ?_;refine go ?_;refine rg H 4 u186 fun g24 z H=> ?_;obtain⟨inv,hxl⟩:=slN_ok o j;rw[←hN]at inv hxl;have htr:∀t∈tl,∀y∈t.l,0≤y∧y<(xs.length:Int):=fun t ht y hy=>by have q:=(inv.t t.p (List.mem_map_of_mem ht)).1 y hy;rw[List.length_map]at q;exact q
  obtain⟨E,hE⟩:∃q,q=enF ez o:=⟨_,rfl⟩;refine go ?_;refine sb [1,5,42] ?_;refine WC.loopS 0 (fun mz Ed W'=>∃S:List Nat,∃ys:List Pc,∃ts:List Tw,mz=tl.length-S.length∧Ed=[]∧Hp w W' (big twF ts::big pcF ys::row 195 Pc.c 1 (.slice aA an ac) ys::box g5 189 [.slice aA an ac,.map (some g3)]::mrg g24 g3 (tl.map Tw.m) S::[])∧(S.Nodup∧∀j∈S,j<tl.length)∧(ts.map Tw.m=tl.map Tw.m)∧(∀j,j<tl.length→j∉S→ts[j]!.l=tl[j]!.l)∧(ys.map Pc.q=clM (enF ez o) (fun i=>S.any fun s=>decide ((i:Int)∈tl[s]!.l)) (xs.map Pc.q))∧(ys.length=xs.length)) _ ⟨[],xs,tl,rfl,rfl,(H.pick [0,0,0,0,0]),⟨List.nodup_nil,fun j hj=>(by cases hj)⟩,rfl,(fun _ _ _=>rfl),(clM_none _ _).symm,rfl⟩ ?_;rintro _ _ z ⟨S,ys,ts,rfl,rfl,H,hS,hm,hl,hP,hyl⟩;have tsl:ts.length=tl.length:=by rw[←List.length_map (f:=Tw.m),hm,List.length_map]
  refine go ?_;refine nx (ty:=0) H 4 (fun hall z H=> ?_) fun i26 z hi_i26 hS_i26 H=> ?_
  ·refine go ?_;refine WC.condF rfl ?_;have H:=H.front [4];have H:=H.unrange;have ej:o.length=j:=Om;have eN1:xs.map Pc.q=(slN o o.length).1:=by rw[ej,←hN]
   have eN2:(slN o o.length).2=tl.map Tw.p:=by rw[ej,←hN]
   have hP2:ys.map Pc.q=slP2 o ez:=by
    rw[hP,eN1];unfold slP2;rw[eN2];refine clM_congr fun i _=> ?_;rw[any_all (fun q hq=>hall q (by simpa using hq)) hS.2 (fun t:Tw=>decide ((i:Int)∈t.l)),List.any_map];rfl
   have H:=H.nilRow 195 Pc.c 1;have e_ys:=(H.l 4).len;refine go ?_;refine sb [62,10,5,60,61] ?_;refine WC.loopS 2 (fun mz Ed W'=>∃i:Nat,∃vk:Value,mz=an-i∧Ed=[(62,.int .i64 ((i:Nat):Int)),(10,vk)]∧Hp w W' (row 195 Pc.c 1 vk ((ys.take i).filter (fun x:Pc=>decide (x.q.fr<x.q.to)))::_::_::_::_::_::[])∧(i≤an)) _ ⟨0,_,rfl,rfl,(H.pick [0,0,0,0,0,0]),(Nat.zero_le _)⟩ ?_;rintro _ _ z ⟨i,vk,rfl,rfl,H,il⟩;have kl:=Nat.le_trans (List.length_filter_le (fun x:Pc=>decide (x.q.fr<x.q.to)) (ys.take i)) (by rw[List.length_take];exact Nat.min_le_left _ _);refine go ?_;refine Cd (fun p34=> ?_) fun p34=> ?_
   ·have b37:i<an:=Om;have pb39:=pc_blk (H.get (k:=3) rfl) ys[i]! (mem_b (show i<ys.length by omega));refine go ?_;refine Qr ?_;refine G5 ?_;refine yq (ld rfl u3 rfl (Blk.at_ext pb39 rfl)) ?_;refine G5 ?_;refine yq (ld rfl u3 rfl (Blk.at_ext pb39 rfl)) ?_;refine go ?_;refine Qd H fun z H=> ?_;refine go ?_;refine Cd (fun p40=> ?_) fun p40=> ?_
    ·refine go ?_;refine bs1 H u187 ti195 fun g41 z H=> ?_;refine ap H 1 0 rfl [ys[i]!] u187 ti195 rfl Pc.one (room_le kl (Nat.le_refl 1) Om) fun v43 z H=> ?_;refine go ?_;exact Rs [(62,_),(10,_)] Sx ⟨(i+1),v43,rfl,rfl,(by rw[kept_yes (show i<ys.length by omega) p40];exact(H.pick [1,1,1,1,1,1])),Om⟩
    ·refine G3 ?_;refine sb [5,10,60,61,62] ?_;refine go ?_;exact Rs [(62,_),(10,_)] Sx ⟨(i+1),vk,rfl,rfl,(by rw[kept_no (show i<ys.length by omega) p40];exact(H.pick [0,0,0,0,0,0])),Om⟩
   ·have eyi:ys.take i=ys:=List.take_of_length_le Om;rw[eyi]at H kl;obtain⟨A45,n46,c47,rfl,_,_,_⟩:=H.op 0;have e_kp:=(H.l 0).len;refine go ?_;refine c3 Fh (sstP_any _ _ _ _ 79 [] (fun x y:Pc=>cmpSc x.q.s y.q.s) _ _ _ (H.front [0]) Om Fh (fun l1 _ w1 H1 a ha b hb=>slof1_any a b w1 (pc_blk (H1.get (k:=3) rfl) a (List.mem_filter.1 ha).1) (pc_blk (H1.get (k:=3) rfl) b (List.mem_filter.1 hb).1))) ?_;rintro _ z ⟨rfl,H⟩;obtain⟨K,hK⟩:∃q,q=stabF (fun x y:Pc=>cmpSc x.q.s y.q.s) (ys.filter (fun x:Pc=>decide (x.q.fr<x.q.to))):=⟨_,rfl⟩;rw[←hK]at H;have hKq:K.map Pc.q=slK o ez:=by rw[hK];refine(stabF_map (f:=Pc.q) (c:=fun x y:Pc=>cmpSc x.q.s y.q.s) (d:=cmpPq) rfl (fun _ _=>rfl) _).trans ?_;unfold slK;rw[←hP2,List.filter_map];rfl
    have hKm:∀x∈K,x∈ys:=fun x hx=>by rw[hK]at hx;exact(List.mem_filter.1 ((stabF_perm _).mem_iff.1 hx)).1
    refine⟨_,rfl,?_⟩;refine G2 ?_;refine mm H fun g49 z H=> ?_;refine mu H 0 u178 u3 fun z H=> ?_;have H:=H.nilRow 58 Sc.c 8;have e_K:=(H.l 2).len;have hKl:(slK o ez).length=K.length:=by rw[←hKq,List.length_map]
    have PK:=slP2_ok o ez;have hKr:=slK_rng o ez;refine go ?_;refine sb [90,14,5,13,88,89] ?_;refine WC.loopS 2 (fun mz Ed W'=>∃i:Nat,∃vo:Value,mz=n46-i∧Ed=[(90,.int .i64 ((i:Nat):Int)),(14,vo)]∧Hp w W' (row 58 Sc.c 8 vo (slO (slP2 o ez) (slK o ez) i)::mpi g49 (xam intE (plM (slK o ez) i))::_::_::_::_::_::_::[])∧(i≤n46)) _ ⟨0,_,rfl,rfl,(H.pick [0,0,0,0,0,0,0,0]),(Nat.zero_le _)⟩ ?_;rintro _ _ z ⟨i,vo,rfl,rfl,H,il⟩;have ol:=slO_len (slP2 o ez) (slK o ez) i;refine go ?_;refine Cd (fun p57=> ?_) fun p57=> ?_
    ·have hKi:K[i]!∈ys:=hKm _ (mem_b (show i<K.length by omega));have eKi:(slK o ez)[i]! =K[i]!.q:=by rw[←hKq,map_b Pc.q (show i<K.length by omega)]
     have hpi:=hpa i Om;have hkr:=hKr _ (mem_b (show i<(slK o ez).length by omega));rw[eKi]at hkr;have b60:i<n46:=Om;have pb62:=pc_blk (H.get (k:=5) rfl) K[i]! hKi;refine G16 ?_;refine yy (ld rfl u3 rfl (Blk.at_eq pb62 rfl)) ?_;refine G1 ?_;refine mu H 1 u178 u3 fun z H=> ?_;have pb64:=pc_blk (H.get (k:=5) rfl) K[i]! hKi;refine G5 ?_;refine yy (Y.loadS (cs:=[_,_,_,_,_,_,_,_]) rfl u58 rfl ti58 rfl (Blk.part_eq pb64 rfl)) ?_;refine al H ti58 fun g65 z H=> ?_;refine st H 0 ti58 fun z H=> ?_;have hpv:mval (mset (xam intE (plM (slK o ez) i)) K[i]!.q.no (.int .i64 (i:Int))) (slP (ys.map Pc.q) ys.length K[i]!.q.ar) (.int .i64 0)= .int .i64 (paF (slP2 o ez) (slK o ez) i):=by
      rw[show Value.int .i64 (i:Int)=intE (i:Int)from rfl,mset_xam,mval_pl];unfold paF;rw[←hP2,List.length_map,eKi,show plM (slK o ez) (i+1)=xset (plM (slK o ez) i) K[i]!.q.no (i:Int)from by rw[←eKi];rfl]
     refine go ?_;refine WC.regionX (HpP w _ g65 4 5 _ _) (.load 0 (.load 1 (.load 2 (.load 5 (.load 6 (.load 7 (.load 8 (.load 9 (.load 10 (.load 11 (.alt 3 (.load 4 (.load 12 (.alt 13 (.load 14 (.alt 15 (.fin) (.none))) (.none)))) (.none)))))))))))) ⟨(H.pick [1,1,1,1,1,1,1,1]),(H.b 0).cell rfl,(H.b 0).cell rfl⟩ (by kernel_rfl) (by kernel_rfl) (fun z x=> ?_);have H:=H.ex x;refine G5 ?_;refine yx rfl (ld rfl u3 rfl (fun _ h=>h.2.2)) ?_;refine G2 ?_;refine yx rfl (ld rfl u3 rfl (fun _ h=>h.2.1)) ?_;refine go ?_;refine c1X ⟨(H.pick [1,1,1,1,1,1,1,1]),(H.b 0).cell rfl,(H.b 0).cell rfl⟩ H Fh ((slpar_any _ _ _ _ ys _ K[i]! _ (H.b 8) (H.l 7) (pc_blk (H.get (k:=6) rfl)) (pc_blk (H.get (k:=6) rfl) K[i]! hKi) (par_x PK hP2 hKi) (par_r PK hP2) (List.length_pos_of_mem hKi))) fun z H=> ?_;refine yx rfl (Yld.cast (Y.lookup rfl u178 u3 ti3 rfl rfl (fun _ h=>h.1.mi 1)) hpv) ?_;refine go ?_;refine stX ⟨(H.pick [1,1,1,1,1,1,1,1]),(H.b 0).cell rfl,(H.b 0).cell rfl⟩ H 0 ti3 fun z H=> ?_;refine go ?_;refine stX ⟨(H.pick [1,1,1,1,1,1,1,1]),(H.b 0).cell rfl,(H.b 0).cell rfl⟩ H 0 ti3 fun z H=> ?_;refine WX.nil ⟨(H.pick [1,1,1,1,1,1,1,1]),(H.b 0).cell rfl,(H.b 0).cell rfl⟩ ?_;refine G7 ?_;refine sb [5,13,14,17,88,89,90,121] ?_;refine Cd (fun p70=> ?_) fun p70=> ?_
     ·have orr:=slO_rng (P:=slP2 o ez) hKr i Om _ (mem_b (show(paF (slP2 o ez) (slK o ez) i).toNat<(slO (slP2 o ez) (slK o ez) i).length by omega));obtain⟨A72,n73,c74,rfl,_,_,_⟩:=H.op 1;have b75:(paF (slP2 o ez) (slK o ez) i).toNat<n73:=Om;refine G4 ?_;refine yy (Y.indexLs (paF (slP2 o ez) (slK o ez) i).toNat (H.l 1) rfl u40 ti58 rfl rfl Om b75) ?_;refine go ?_;refine st H 0 ti3 fun z H=> ?_;refine go ?_;refine WC.regionT 11 (by kernel_rfl) (by kernel_rfl) ?_;have b76:(paF (slP2 o ez) (slK o ez) i).toNat<n73:=Om;refine G3 ?_;refine yq (Y.indexLs (paF (slP2 o ez) (slK o ez) i).toNat (H.l 1) rfl u40 ti58 rfl rfl Om b76) ?_;have b77:(paF (slP2 o ez) (slK o ez) i).toNat<n73:=Om;refine G5 ?_;refine yq (Y.indexLs (paF (slP2 o ez) (slK o ez) i).toNat (H.l 1) rfl u40 ti58 rfl rfl Om b77) ?_;refine go ?_;refine WQ.tail (fun z x=> ?_);have H:=H.ex x;refine ste H 1 rfl {(slO (slP2 o ez) (slK o ez) i)[(paF (slP2 o ez) (slK o ez) i).toNat]! with se:=(slO (slP2 o ez) (slK o ez) i)[(paF (slP2 o ez) (slK o ez) i).toNat]!.se-(K[i]!.q.to-K[i]!.q.fr)} b77 ti3 rfl fun z H=> ?_;refine go ?_;refine bs1 H u40 ti58 fun g78 z H=> ?_;refine ap H 2 0 rfl [⟨K[i]!.q.th,(paF (slP2 o ez) (slK o ez) i),(slO (slP2 o ez) (slK o ez) i)[(paF (slP2 o ez) (slK o ez) i).toNat]!.de+1,K[i]!.q.nm,K[i]!.q.fr,K[i]!.q.to,K[i]!.q.to-K[i]!.q.fr,K[i]!.q.op⟩] u40 ti58 rfl Sc.one (by simp only[List.length_set,ol,List.length_cons,List.length_nil];omega) fun v80 z H=> ?_;refine go ?_;exact Rs [(90,_),(14,_)] Sx ⟨(i+1),v80,rfl,rfl,(by rw[show slO (slP2 o ez) (slK o ez) (i+1)=(((slO (slP2 o ez) (slK o ez) i).set (paF (slP2 o ez) (slK o ez) i).toNat {(slO (slP2 o ez) (slK o ez) i)[(paF (slP2 o ez) (slK o ez) i).toNat]! with se:=(slO (slP2 o ez) (slK o ez) i)[(paF (slP2 o ez) (slK o ez) i).toNat]!.se-(K[i]!.q.to-K[i]!.q.fr)})++[⟨K[i]!.q.th,(paF (slP2 o ez) (slK o ez) i),(slO (slP2 o ez) (slK o ez) i)[(paF (slP2 o ez) (slK o ez) i).toNat]!.de+1,K[i]!.q.nm,K[i]!.q.fr,K[i]!.q.to,K[i]!.q.to-K[i]!.q.fr,K[i]!.q.op⟩])from(show so1 _ _ _=_ from by rw[eKi];exact if_pos p70),show plM (slK o ez) (i+1)=xset (plM (slK o ez) i) K[i]!.q.no (i:Int)from by rw[←eKi];rfl,←mset_xam];exact(H.pick [2,2,2,2,2,2,2,2])),Om⟩
     ·refine go ?_;refine bs1 H u40 ti58 fun g81 z H=> ?_;refine ap H 2 0 rfl [⟨K[i]!.q.th,(paF (slP2 o ez) (slK o ez) i),0,K[i]!.q.nm,K[i]!.q.fr,K[i]!.q.to,K[i]!.q.to-K[i]!.q.fr,K[i]!.q.op⟩] u40 ti58 rfl Sc.one (by simp only[List.length_set,ol,List.length_cons,List.length_nil];omega) fun v83 z H=> ?_;refine G4 ?_;refine sb [5,13,14,88,89,90] ?_;refine go ?_;exact Rs [(90,_),(14,_)] Sx ⟨(i+1),v83,rfl,rfl,(by rw[show slO (slP2 o ez) (slK o ez) (i+1)=((slO (slP2 o ez) (slK o ez) i)++[⟨K[i]!.q.th,(paF (slP2 o ez) (slK o ez) i),0,K[i]!.q.nm,K[i]!.q.fr,K[i]!.q.to,K[i]!.q.to-K[i]!.q.fr,K[i]!.q.op⟩])from(show so1 _ _ _=_ from by rw[eKi];exact if_neg p70),show plM (slK o ez) (i+1)=xset (plM (slK o ez) i) K[i]!.q.no (i:Int)from by rw[←eKi];rfl,←mset_xam];exact(H.pick [2,2,2,2,2,2,2,2])),Om⟩
    ·refine go ?_;refine Rt [_] ?_;exact⟨_,rfl,(by rw[show slF o ez=slO (slP2 o ez) (slK o ez) i from by unfold slF;congr 1;omega];exact H.out 0),H.ext⟩
  ·refine go ?_;refine WC.condT rfl ?_;have hi_:i26<tl.length:=by simpa using hi_i26
   obtain⟨⟨id,g,A,n,cp,l,ex,la⟩,hx⟩:∃y,ts[i26]! =y:=⟨_,rfl⟩;have hv:((tl.map Tw.m)[i26]!).2= .pointer (some ⟨g,0,none⟩):=by rw[←hm,map_b Tw.m (show i26<ts.length by omega),hx];rfl
   have hll:tl[i26]!.l=l:=by rw[←hl i26 hi_ hS_i26,hx]
   have H:Hp w _ (box g 193 [.slice A n cp,.int .i64 ex,.int .i64 la]::row 3 ic 1 (.slice A n cp) l::hole twF ts (i26)::_):=Hp.bigOutX twF ⟨id,g,A,n,cp,l,ex,la⟩ hx H (show i26<ts.length by omega);have hlr:∀y∈l,0≤y∧y<(ys.length:Int):=fun y hy=>by rw[hyl];exact htr _ (mem_b hi_) y (by rw[hll];exact hy)
   have nn:=(H.l 1).len;refine go ?_;refine en H 6 ?_;refine yy (Yld.cast (Y.extract rfl rfl rfl) hv) ?_;refine go ?_;refine sb [1,5,9,42] ?_;refine WC.loopS 0 (fun mz Ed W'=>∃zs:List Pc,∃k:Nat,∃m:List Int,mz=2*k∧Ed=[]∧Hp w W' (box g 193 [.slice A k cp,.int .i64 ex,.int .i64 la]::row 3 ic 1 (.slice A k cp) m::_::big pcF zs::row 195 Pc.c 1 (.slice aA an ac) zs::box g5 189 [.slice aA an ac,.map (some g3)]::_::[])∧((slA m.length (zs.map Pc.q) ⟨m,ex,la⟩ (enF ez o)).1=(slA l.length (ys.map Pc.q) ⟨l,ex,la⟩ (enF ez o)).1)∧(∀y∈m,0≤y∧y<(zs.length:Int))∧(zs.length=ys.length)) _ ⟨ys,n,l,rfl,rfl,(H.pick [0,0,0,0,0,0,0]),rfl,hlr,rfl⟩ ?_;rintro _ _ z ⟨zs,k,m,rfl,rfl,H,hs2,hmr,hyl2⟩;have nk_:=(H.l 1).len;refine go ?_;refine Cd (fun p92=> ?_) fun p92=> ?_
   ·refine go ?_;refine c3 Fh (slend_any _ _ _ _ _ _ _ _ _ (zs) (m) (ex) (la) ((enF ez o)) true _ _ _ (H.front [5,4,3,0,0]) hmr) ?_;rintro _ z ⟨xse93,ne93,rfl,H,h1e93,h2e93⟩;refine⟨_,rfl,?_⟩;refine go ?_;refine WK.roundS _ [] Sx ?_ ⟨xse93,ne93,(slE (zs.map Pc.q) ⟨m,ex,la⟩ (enF ez o) true).2.l,rfl,rfl,(H.pick [3,3,3,2,1,0,0]),(by rw[h1e93];exact(congrArg Prod.fst (slA_step (P:=zs.map Pc.q) (t:=⟨m,ex,la⟩) (at_:=enF ez o) (show 0<m.length by omega))).symm.trans hs2),(fun y hy=>by rw[h2e93];exact hmr y (slE_sub y hy)),(h2e93.trans hyl2)⟩;have e:=slE_len (P:=zs.map Pc.q) (t:=⟨m,ex,la⟩) (at_:=enF ez o) (o:=true) (show 0<m.length by omega);dsimp only at e;have e2:=(H.l 4).len;omega
   ·have m0:m=[]:=List.length_eq_zero_iff.1 Om;have eZ:zs.map Pc.q=clM (enF ez o) (fun i=>decide ((i:Int)∈l)) (ys.map Pc.q):=by have e:=(slA_cl (E:=enF ez o) l.length (ys.map Pc.q) ⟨l,ex,la⟩ rfl (by rw[List.length_map];exact hlr)).1;rw[←hs2,m0]at e;exact e
    have H:Hp w _ (big twF (ts.set (i26) ⟨id,g,A,k,cp,m,ex,la⟩)::_):=Hp.bigIn twF ⟨id,g,A,k,cp,m,ex,la⟩ H (show i26<ts.length by omega);refine go ?_;refine WK.roundS _ [] Sx ?_ ⟨(i26::S),zs,(ts.set i26 ⟨id,g,A,k,cp,m,ex,la⟩),rfl,rfl,(H.pick [0,0,0,0,0]),⟨List.nodup_cons.2 ⟨hS_i26,hS.1⟩,fun j hj=>(List.mem_cons.1 hj).elim (fun e=>(by rw[e];exact hi_)) (hS.2 j)⟩,((set_same_map Tw.m _ _ _ (by rw[hx];rfl)).trans hm),(fun j hj hn=>by rw[set_at _ _ _ _ Om,if_neg (fun e=>hn (by rw[←e];exact List.mem_cons_self))];exact hl j hj (fun q=>hn (List.mem_cons_of_mem _ q))),(by rw[eZ,hP,clM_two];exact clM_congr fun i _=>by rw[List.any_cons,Bool.or_comm,hll]),(hyl2.trans hyl)⟩;exact left_lt hi_ hS_i26 hS.1 hS.2
theorem orR_mem{C:Int→Int}{X:List Tm}{V:List (List Int)}{n:Nat}:∀(k:Nat) (W:List (List Int)) (out r:List Tm),OrOk W n X.length→orR C X V k W out=some r→(∀x∈r,x∈out∨x∈X)∧r.length=out.length+k
 |0,W,out,r,_,h=>by
  injection h with h
  grind
 |k+1,W,out,r,hW,h=>by
  have h':(if beF C X V W<0 then none else orR C X V k (W.set (beF C X V W).toNat (W[(beF C X V W).toNat]!.drop 1)) (out++[X[W[(beF C X V W).toNat]![0]!.toNat]!]))=some r:=h;split at h'
  ·cases h'
  ·rename_i q;obtain⟨b1,b2,b3⟩:=beN_rng (C:=C) (X:=X) (V:=V) (W:=W) W.length;have q':0≤beN C X V W W.length:=by grind [beF]
   have hlt:(beF C X V W).toNat<W.length:=by show(beN C X V W W.length).toNat<_;omega
   have h0:=b3 q';have hx:=hW.at_ hlt h0;obtain⟨a,b⟩:=orR_mem k _ _ r (hW.set (c:=(beF C X V W).toNat) (q:=W[(beF C X V W).toNat]!.drop 1) fun y hy=>hW.e _ (mem_b hlt) y (List.mem_of_mem_drop hy)) h';grind
theorem orL_mem{ths:List Th}{d:List Dm}{s:List Sn}{l:List Pk}:(∀x∈orL ths d s l,x∈tgX ths d s l)∧(orL ths d s l).length≤(tgX ths d s l).length:=by
 unfold orL;split
 ·grind
 ·cases e:orO ths d s l with
  |none=>grind
  |some r=>
   obtain⟨a,b⟩:=orR_mem _ _ _ r (wqN_ok _ Nl).1 e;grind
def tmV(x:Tm):Ev:=⟨x.at_,x.kd,x.nm,x.n,x.m,x.A,x.k,x.c_,x.st⟩
theorem rwK_ev{ths:List Th}{d:List Dm}{s:List Sn}{p:Pk}{x:Tm}:∀k,k≤p.es.length→x∈rwK ths d s p k→x.th=p.th∧tmV x∈p.es
 |0,_,h=>by cases h
 |k+1,hk,h=>by
  rcases List.mem_append.1 h with q|q
  ·exact rwK_ev k Om q
  ·rw[List.mem_singleton.1 q];exact⟨rfl,mem_b (show k<p.es.length from hk)⟩
theorem rwN_ev{ths:List Th}{d:List Dm}{s:List Sn}{l:List Pk}{x:Tm}:∀j,j≤l.length→x∈rwN ths d s l j→∃p∈l,x.th=p.th∧tmV x∈p.es
 |0,_,h=>by cases h
 |j+1,hj,h=>by
  rcases List.mem_append.1 h with q|q
  ·exact rwN_ev j Om q
  ·exact⟨_,mem_b (show j<l.length from hj),rwK_ev _ Nl q⟩
theorem orL_ev{ths:List Th}{d:List Dm}{s:List Sn}{l:List Pk}:∀x∈orL ths d s l,∃p∈l,x.th=p.th∧tmV x∈p.es:=fun x hx=>by
 have h1:=orL_mem.1 x hx;have h2:(fun y:Tm=>(y.th,tmV y)) x∈(tgX ths d s l).map (fun y:Tm=>(y.th,tmV y)):=List.mem_map_of_mem h1;rw[show(tgX ths d s l).map (fun y:Tm=>(y.th,tmV y))=(rwN ths d s l l.length).map (fun y:Tm=>(y.th,tmV y))from tgN_map _ (fun _ _=>rfl) (fun _ _=>rfl) _ _ _ _]at h2;obtain⟨y,hy,e⟩:=List.mem_map.1 h2;injection e with e1 e2
 rw[←e1,←e2];exact rwN_ev _ Nl hy
def tnN(o:List Tm):Nat→Int
 |0=>0
 |j+1=>max (tnN o j) (clk o[j]!.lo+1)
def tnF(o:List Tm):Int:=tnN o o.length
theorem tnN_rng(o:List Tm):∀j,0≤tnN o j∧tnN o j≤1000000000001
 |0=>⟨Int.le_refl _,(by show(0:Int)≤1000000000001;decide)⟩
 |j+1=>by
  have:=tnN_rng o j;have:=clk_rng o[j]!.lo;show 0≤max (tnN o j) (clk o[j]!.lo+1)∧max (tnN o j) (clk o[j]!.lo+1)≤_;omega
def trE(ths:List Th)(d:List Dm)(s:List Sn)(l:List Pk):Int:=if orE ths d s l≠0 then orE ths d s l else if tnF (orL ths d s l)>1000000000000 then 2 else 0
end TW
end Go.Proofs.YtaclfjjipnpboaaGreatDoor
end
