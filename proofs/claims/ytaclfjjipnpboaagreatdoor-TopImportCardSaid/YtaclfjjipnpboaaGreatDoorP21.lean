/- Part 21 of the proof. Conditions: what each theorem states. -/
import Derived.Test.YtaclfjjipnpboaaGreatDoorP01
import Derived.Test.YtaclfjjipnpboaaGreatDoorP08
import Derived.Test.YtaclfjjipnpboaaGreatDoorP04
import Derived.Test.YtaclfjjipnpboaaGreatDoorP05
import Derived.Test.YtaclfjjipnpboaaGreatDoorRows
import Derived.LaidMore
import Derived.OpenShut
import Derived.Stop.Joined
import Derived.ProofKit
import Derived.Test.YtaclfjjipnpboaaGreatDoorP16
import Derived.Lib.LaidTab
set_option linter.all false
set_option maxHeartbeats 4000000
set_option maxRecDepth 4000
namespace Go.Eng
open Go Go.RowKit Go.WideShapes Go.ChangeShapes Go.WideElems Go.Deep
section
variable{H:Type}{enc:TypeId×Value→H}{P:Program}{w:World}{base:Nat}{spare:Nat→Bool}{held:Bool}
def Opens(H:Type)(enc:TypeId×Value→H)(P:Program)(w:World)(base:Nat)(spare:Nat→Bool)(held:Bool)(t:TypeId){α:Type}(f:α→List Value)(Wf:α→Prop):Prop:=
 ∀(fuel:Nat) (cs:List Value) (x:DataW H×List MemPlace),DataW.trod enc P w base spare held fuel t cs=some x→∃y,cs=f y∧Wf y
theorem opens_flat{α:Type}{f:α→List Value}{Wf:α→Prop}{t:TypeId}{ks:List FK}{m:Nat}(hk:flatK P m t=some ks)(hf:∀cs,okAll ks cs→∃x,cs=f x∧Wf x):Opens H enc P w base spare held t f Wf:=
 fun _ _ _ hx=>hf _ (flat_ok m hk hx)
theorem open_listG{α:Type}[Inhabited α]{f:α→List Value}{Wf:α→Prop}{sz:Nat}{t e:TypeId}{fuel:Nat}{cs:List Value}{x:DataW H×List MemPlace}(hU:P.underlying t=some (.slice e))(hc:P.cellsOf e=sz)(hp:0<sz)
  (hf:Opens H enc P w base spare held e f Wf) (hlen:∀x,(f x).length=sz) (hx:DataW.trod enc P w base spare held fuel t cs=some x):
  ∃A n cap,∃l:List α,cs=[.slice A n cap]∧Ls w A n cap f sz l∧∀x∈l,Wf x:=by
 subst hc;rcases open_slice hU hx with⟨hcs,_⟩|⟨a,n,cap,mm,nn,D,Pl,hcs,hb,hl,hm,hmm,_,hel⟩
 ·exact⟨none,0,0,[],hcs,Ls.nil (Nat.zero_le _),by simp⟩
 ·have hle:n≤mm:=by grind
  obtain⟨g,hg⟩:=choose_lt (α:=α) (n:=n) (p:=fun i x=>w.cells? base (a.add (i*P.cellsOf e)) (P.cellsOf e)=some (f x)∧Wf x) (fun i hi=>by
   obtain⟨cs',h1,h2⟩:=hel i Om;obtain⟨x,rfl,hw⟩:=hf _ _ _ h2;grind)
  refine⟨some a,n,cap,(List.range n).map g,hcs,⟨by simp,hl,hm,?_⟩,?_⟩
  ·intro i x hix;have hi:i<n:=by
    grind
   have hxg:x=g i:=by
    grind
   subst hxg;obtain⟨_,_,hcell⟩:=World.cells?_some (hg i hi).1;have hone:∀j u,(f (g i))[j]? =some u→w.cell? (a.add (i*P.cellsOf e+j))=some u:=fun j u hu=>by
    grind [List.getElem?_eq_some_iff,add_assoc_addr]
   refine⟨a,rfl,Nat.zero_le _,?_,hone⟩;have h0:=hone 0 _ (List.getElem?_eq_getElem Om);have:=cell_lt h0;grind [block_add]
  grind
end
end Go.Eng
namespace Go.Proofs.YtaclfjjipnpboaaGreatDoor
open Go Go.Eng Go.RowKit Go.WideShapes Go.ChangeShapes Go.WideElems Go.Deep
namespace TW
section
variable{H:Type}{enc:TypeId×Value→H}{w:World}{base:Nat}{spare:Nat→Bool}{held:Bool}
theorem cells_of{cs us:List Value}(hl:cs.length=us.length)(h:∀i u,us[i]? =some u→(cs.drop i).take 1=[u]):cs=us:=by
 refine List.ext_getElem hl fun i h1 h2=> ?_;have:=h i us[i] (List.getElem?_eq_getElem h2);rw[List.drop_eq_getElem_cons h1,List.take_succ_cons,List.take_zero]at this;grind
theorem open_ones{P:Program}{t:TypeId}{fs:Array Field}{n fuel:Nat}{cs:List Value}{x:DataW H×List MemPlace}(hU:P.underlying t=some (.struct fs))(ct:P.cellsOf t=n)(hf:∀(i:Nat) (f:Field),fs[i]? =some f→f.offset=i∧P.cellsOf f.type=1)(hx:DataW.trod enc P w base spare held fuel t cs=some x):
  cs.length=n∧∀(i:Nat) (f:Field),fs[i]? =some f→∃fuel' x',DataW.trod enc P w base spare held fuel' f.type ((cs.drop i).take 1)=some x':=by
 obtain⟨xs,m,_,_,hl,hxl,hg⟩:=DataW.trod_struct hU hx;grind
theorem int_one{P:Program}{t:TypeId}{n fuel:Nat}{cs:List Value}{x:DataW H×List MemPlace}(hk:flatK P n t=some [.int .i64])(hx:DataW.trod enc P w base spare held fuel t cs=some x):∃a,cs=[.int .i64 a]:=by
 obtain⟨v,rfl,a,rfl,_⟩:=okAll_1 (flat_ok n hk hx);grind
theorem str_one{P:Program}{t:TypeId}{n fuel:Nat}{cs:List Value}{x:DataW H×List MemPlace}(hk:flatK P n t=some [.str])(hx:DataW.trod enc P w base spare held fuel t cs=some x):∃a,cs=[.string a]:=by
 obtain⟨v,rfl,a,rfl,_⟩:=okAll_1 (flat_ok n hk hx);grind
theorem th_of:∀cs,okAll [.int .i64,.str,.int .i64] cs→∃x,cs=Th.c x∧True:=fun cs h=>by
 obtain⟨v0,v1,v2,rfl,⟨a,rfl,_⟩,⟨b,rfl,_⟩,⟨c,rfl,_⟩⟩:=okAll_3 h;exact⟨⟨a,b,c⟩,rfl,trivial⟩
theorem dm_of:∀cs,okAll [.int .i64,.int .i64] cs→∃x,cs=Dm.c x∧True:=fun cs h=>by
 obtain⟨v0,v1,rfl,⟨a,rfl,_⟩,⟨b,rfl,_⟩⟩:=okAll_2 h;exact⟨⟨a,b⟩,rfl,trivial⟩
theorem sn_of:∀cs,okAll [.int .i64,.int .i64,.int .i64,.int .i64,.int .i64] cs→∃x,cs=Sn.c x∧True:=fun cs h=>by
 obtain⟨v0,v1,v2,v3,v4,rfl,⟨a,rfl,_⟩,⟨b,rfl,_⟩,⟨c,rfl,_⟩,⟨d,rfl,_⟩,⟨e,rfl,_⟩⟩:=okAll_5 h;exact⟨⟨a,b,c,d,e⟩,rfl,trivial⟩
theorem s1_of:∀cs,okAll [.str] cs→∃x,cs=sc x∧True:=fun cs h=>by
 obtain⟨v0,rfl,a,rfl,_⟩:=okAll_1 h;exact⟨a,rfl,trivial⟩
theorem ev_opens:Opens H enc Tryz.prog w base spare held 73 Ev.c (fun e=>Ls w e.A e.k e.c_ sc 1 e.st):=by
 intro fuel cs x hx;obtain⟨hl,g⟩:=open_ones (n:=6) Tryz.underlying73 (by kernel_rfl) (fun i f hf=>by
  match i,hf with
  |0,hf=>injection hf with hf;subst hf;exact⟨rfl,by kernel_rfl⟩
  |1,hf=>injection hf with hf;subst hf;exact⟨rfl,by kernel_rfl⟩
  |2,hf=>injection hf with hf;subst hf;exact⟨rfl,by kernel_rfl⟩
  |3,hf=>injection hf with hf;subst hf;exact⟨rfl,by kernel_rfl⟩
  |4,hf=>injection hf with hf;subst hf;exact⟨rfl,by kernel_rfl⟩
  |5,hf=>injection hf with hf;subst hf;exact⟨rfl,by kernel_rfl⟩
  |i+6,hf=>cases hf) hx
 obtain⟨_,_,g0⟩:=g 0 _ rfl;obtain⟨_,_,g1⟩:=g 1 _ rfl;obtain⟨_,_,g2⟩:=g 2 _ rfl;obtain⟨_,_,g3⟩:=g 3 _ rfl;obtain⟨_,_,g4⟩:=g 4 _ rfl;obtain⟨_,_,g5⟩:=g 5 _ rfl;obtain⟨a,e0⟩:=int_one (n:=6) (by kernel_rfl) g0;obtain⟨k,e1⟩:=int_one (n:=6) (by kernel_rfl) g1;obtain⟨nm,e2⟩:=str_one (n:=6) (by kernel_rfl) g2;obtain⟨b,e3⟩:=int_one (n:=6) (by kernel_rfl) g3;obtain⟨m,e4⟩:=int_one (n:=6) (by kernel_rfl) g4;obtain⟨A,n,c,l,e5,hL,-⟩:=open_listG (sz:=1) Tryz.underlying63 (by kernel_rfl) Dc (opens_flat (ks:=[.str]) (m:=6) (by kernel_rfl) s1_of) (fun _=>rfl) g5;refine⟨⟨a,k,nm,b,m,A,n,c,l⟩,cells_of hl fun i u hu=> ?_,hL⟩
 match i,hu with
 |0,hu=>injection hu with hu;grind
 |1,hu=>injection hu with hu;grind
 |2,hu=>injection hu with hu;grind
 |3,hu=>injection hu with hu;grind
 |4,hu=>injection hu with hu;grind
 |5,hu=>injection hu with hu;grind
 |i+6,hu=>cases hu
theorem pk_opens:Opens H enc Tryz.prog w base spare held 55 Pk.c (fun x=>Pk.ok w x):=by
 intro fuel cs x hx;obtain⟨hl,g⟩:=open_ones (n:=4) Tryz.underlying55 (by kernel_rfl) (fun i f hf=>by
  match i,hf with
  |0,hf=>injection hf with hf;subst hf;exact⟨rfl,by kernel_rfl⟩
  |1,hf=>injection hf with hf;subst hf;exact⟨rfl,by kernel_rfl⟩
  |2,hf=>injection hf with hf;subst hf;exact⟨rfl,by kernel_rfl⟩
  |3,hf=>injection hf with hf;subst hf;exact⟨rfl,by kernel_rfl⟩
  |i+4,hf=>cases hf) hx
 obtain⟨_,_,g0⟩:=g 0 _ rfl;obtain⟨_,_,g1⟩:=g 1 _ rfl;obtain⟨_,_,g2⟩:=g 2 _ rfl;obtain⟨_,_,g3⟩:=g 3 _ rfl;obtain⟨a,e0⟩:=int_one (n:=6) (by kernel_rfl) g0;obtain⟨b,e1⟩:=int_one (n:=6) (by kernel_rfl) g1;obtain⟨m,e2⟩:=int_one (n:=6) (by kernel_rfl) g2;obtain⟨A,n,c,l,e3,hL,hE⟩:=open_listG (sz:=6) Tryz.underlying53 (by kernel_rfl) Dc ev_opens (fun _=>rfl) g3;refine⟨⟨a,b,m,A,n,c,l⟩,cells_of hl fun i u hu=> ?_,⟨hL,hE⟩⟩
 match i,hu with
 |0,hu=>injection hu with hu;grind
 |1,hu=>injection hu with hu;grind
 |2,hu=>injection hu with hu;grind
 |3,hu=>injection hu with hu;grind
 |i+4,hu=>cases hu
theorem open_logG{P:Program}{t:TypeId}{fs gs:Array Field}{f0 f1 g0 g1 g2:Field}{r:Reach}{b0:Nat}{v:Value}{d:DataW H}{p:List MemPlace}(hU:P.underlying t=some (.struct fs))(e0:fs[0]? =some f0)(e1:fs[1]? =some f1)(o0:f0.offset=0)(o1:f1.offset=3)(c0:P.cellsOf f0.type=3)(c1:P.cellsOf f1.type=1)(ct:P.cellsOf t=4)
  (hV:P.underlying f0.type=some (.struct gs)) (hf:∀(i:Nat) (f:Field),gs[i]? =some f→f.offset=i∧P.cellsOf f.type=1) (a0:gs[0]? =some g0) (a1:gs[1]? =some g1) (a2:gs[2]? =some g2) (hv:Value.okWide P w r b0 t v) (h:DataW.Trod enc P w base spare held t v d p):
  ∃cs:Array Value,v= .agg cs∧cs.toList.length=4∧(∃fu x,DataW.trod enc P w base spare held fu g0.type ((cs.toList.drop 0).take 1)=some x)∧(∃fu x,DataW.trod enc P w base spare held fu g1.type ((cs.toList.drop 1).take 1)=some x)∧(∃fu x,DataW.trod enc P w base spare held fu g2.type ((cs.toList.drop 2).take 1)=some x)∧∃fu x,DataW.trod enc P w base spare held fu f1.type ((cs.toList.drop 3).take 1)=some x:=by
 obtain⟨cs,rfl,_⟩:=okWide_struct hU hv;obtain⟨fuel,hx⟩:=h;obtain⟨xs,m,_,_,hl,hxl,hg⟩:=DataW.trod_struct hU hx;have s0:0<fs.size:=(Array.getElem?_eq_some_iff.1 e0).1;have s1:1<fs.size:=(Array.getElem?_eq_some_iff.1 e1).1;have q0:=hg 0 f0 e0;have q1:=hg 1 f1 e1;rw[List.getElem?_eq_getElem Om]at q0 q1;rw[o0,c0]at q0;rw[o1,c1]at q1;rw[ct]at hl;obtain⟨_,g⟩:=open_ones hV c0 hf q0;have sub:∀(l:List Value) i,i<3→(((l.drop 0).take 3).drop i).take 1=(l.drop i).take 1:=fun l i hi=>by
  rw[List.drop_zero,List.drop_take,List.take_take,Nat.min_eq_left Om]
 have k0:=g 0 g0 a0;have k1:=g 1 g1 a1;have k2:=g 2 g2 a2;rw[sub _ 0 Om]at k0;rw[sub _ 1 Om]at k1;rw[sub _ 2 Om]at k2;exact⟨cs,rfl,hl,k0,k1,k2,_,_,q1⟩
set_option maxRecDepth 100000 in
theorem open_log{r:Reach}{b0:Nat}{v:Value}{d:DataW H}{p:List MemPlace}(hv:Value.okWide Tryz.prog w r b0 29 v)(h:DataW.Trod enc Tryz.prog w base spare held 29 v d p):
  ∃A1 n1 c1,∃t:List Th,∃A2 n2 c2,∃d':List Dm,∃A3 n3 c3,∃s:List Sn,∃A4 n4 c4,∃l:List Pk,v= .agg #[.slice A1 n1 c1,.slice A2 n2 c2,.slice A3 n3 c3,.slice A4 n4 c4]∧Ls w A1 n1 c1 Th.c 3 t∧Ls w A2 n2 c2 Dm.c 2 d'∧Ls w A3 n3 c3 Sn.c 5 s∧Ls w A4 n4 c4 Pk.c 4 l∧PksOk w l:=by
 obtain⟨cs,rfl,hl,⟨_,_,f0⟩,⟨_,_,f1⟩,⟨_,_,f2⟩,_,_,g1⟩:=open_logG Tryz.underlying29 rfl rfl rfl rfl (by rfl) (by rfl) (by rfl) Tryz.underlying26 (fun i f hf=>by
  match i,hf with
  |0,hf=>injection hf with hf;subst hf;exact⟨rfl,by rfl⟩
  |1,hf=>injection hf with hf;subst hf;exact⟨rfl,by rfl⟩
  |2,hf=>injection hf with hf;subst hf;exact⟨rfl,by rfl⟩
  |i+3,hf=>cases hf) rfl rfl rfl hv h
 obtain⟨A1,n1,c1,t,e1,L1,-⟩:=open_listG (sz:=3) Tryz.underlying22 (by rfl) Dc (opens_flat (ks:=[.int .i64,.str,.int .i64]) (m:=6) (by rfl) th_of) (fun _=>rfl) f0;obtain⟨A2,n2,c2,d',e2,L2,-⟩:=open_listG (sz:=2) Tryz.underlying23 (by rfl) Dc (opens_flat (ks:=[.int .i64,.int .i64]) (m:=6) (by rfl) dm_of) (fun _=>rfl) f1;obtain⟨A3,n3,c3,s,e3,L3,-⟩:=open_listG (sz:=5) Tryz.underlying24 (by rfl) Dc (opens_flat (ks:=[.int .i64,.int .i64,.int .i64,.int .i64,.int .i64]) (m:=6) (by rfl) sn_of) (fun _=>rfl) f2;obtain⟨A4,n4,c4,l,e4,L4,hE⟩:=open_listG (sz:=4) Tryz.underlying27 (by rfl) Dc pk_opens (fun _=>rfl) g1;refine⟨A1,n1,c1,t,A2,n2,c2,d',A3,n3,c3,s,A4,n4,c4,l,?_,L1,L2,L3,L4,hE⟩;have e:cs.toList=[.slice A1 n1 c1,.slice A2 n2 c2,.slice A3 n3 c3,.slice A4 n4 c4]:=by
  match hc:cs.toList,hl with
  |[x0,x1,x2,x3],_=>
   grind
 rw[show cs=cs.toList.toArray by simp,e]
end
end TW
end Go.Proofs.YtaclfjjipnpboaaGreatDoor
namespace Go.Proofs.YtaclfjjipnpboaaGreatDoor
open Go Go.Eng Go.RowKit
namespace Laid
def laidL:List (String×DataW Unit):=Rows.topImportRow.laid
set_option maxRecDepth 100000 in
theorem tabs{W:World}(h:laidMetH Tryz.prog laidL W):TW.Tabs W:=by
 unfold laidL Rows.topImportRow at h;rw[MakeChecks.laidMetH_plain _ _ _ (by kernel_rfl)]at h;obtain⟨ps,⟨_,_,_,_,_,_,_,_,_,_,⟨_,_,_,_,_,_,_,_,_,_,⟨gp,tp,cp,fp,pp,qp,hgp,htp,hvp,hdp,_⟩,_⟩,_⟩,_⟩:=h;obtain rfl:=Option.some.inj ((show Tryz.prog.globalNamed "internal/strconv.uint64pow10"=some 1 by kernel_rfl).symm.trans hgp);obtain rfl:=Option.some.inj ((show(Tryz.prog.globals[1]?).map (·.type)=some 337 by kernel_rfl).symm.trans htp);unfold TW.Tabs Lib.TabIs;have e:=Lib.cells_of_tab (zs:=Lib.pow10Tab) Tryz.underlying337 Tryz.underlying317 (by kernel_rfl) (by kernel_rfl) hdp;rw[hvp,←e]
theorem door_met(os:Os)(args:Array Value):laidMetH Tryz.prog laidL ((World.doorLaid Tryz.prog 400 os).forCall (fun _ _=>0) ⟨#[],args,[]⟩).memory:=
 laidMetH_of_parts3 (fuel:=8) (laidMet_of_run' 8 (by kernel_rfl) (by kernel_rfl)) (by kernel_rfl) (by kernel_rfl)
end Laid
end Go.Proofs.YtaclfjjipnpboaaGreatDoor
