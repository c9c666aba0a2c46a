/- Part 7 of the proof. Conditions: what each theorem states. -/
import Derived.Test.YtaclfjjipnpboaaGreatDoorP04
import Derived.Test.YtaclfjjipnpboaaGreatDoorP01
import Derived.Test.YtaclfjjipnpboaaGreatDoorP06
import Derived.Test.YtaclfjjipnpboaaGreatDoorProg
import Derived.Shelf.Sort.Plain
import Derived.Shelf.Slices.In.SortNone
import Derived.Shelf.Slices.CompactI
import Derived.Ground.NamesProg
import Derived.Ground.Names2Prog
import Derived.Sort.OwnSortedInts
import Derived.Test.YtaclfjjipnpboaaGreatDoorP03
import Derived.Laws.IdiomRangeMap
import Derived.Test.YtaclfjjipnpboaaGreatDoorP02
set_option linter.all false
set_option maxHeartbeats 4000000
set_option maxRecDepth 4000
section
attribute [local irreducible] Go.Eng.WC Go.Eng.WL Go.Eng.WK Go.Eng.WQ Go.Eng.WX Go.Eng.Yld
namespace Go.Proofs.YtaclfjjipnpboaaGreatDoor
open Go Go.Eng Go.RowKit
namespace TW
theorem hd1_any(x:Dm)(g:Nat)(t:Th)(w:World)(hg:Blk w g 68 [.int .i64 t.id,.string t.nm,.int .i64 t.dom]):
  Cr 124 #[.agg #[.int .i64 x.id,.int .i64 x.ppm],.pointer (some ⟨g,0,none⟩)] w (.bool (x.id==t.dom)):=by
 have H:=(Hp.nil w);refine Wb Tryz.func124 ?_;refine go ?_;refine bx H fun g2 z H=> ?_;refine go ?_;refine Rt [_] ?_;exact⟨rfl,H.ext⟩
theorem head_any(A_ths:Option Addr)(n_ths c_ths:Nat)(ths:List Th)(A_ds:Option Addr)(n_ds c_ds:Nat)(ds:List Dm)(A_sn:Option Addr)(n_sn c_sn:Nat)(sn:List Sn)(w:World)(h_ths:Ls w A_ths n_ths c_ths Th.c 3 ths)(h_ds:Ls w A_ds n_ds c_ds Dm.c 2 ds)(h_sn:Ls w A_sn n_sn c_sn Sn.c 5 sn):
  Cr 68 #[.agg #[.slice A_ths n_ths c_ths,.slice A_ds n_ds c_ds,.slice A_sn n_sn c_sn]] w (.int .i64 (hdE ths ds sn)):=by
 have H:=(Hp.nil w);have e_ths:=h_ths.len;have z_ths:=h_ths.nle;have e_ds:=h_ds.len;have z_ds:=h_ds.nle;have e_sn:=h_sn.len;have z_sn:=h_sn.nle;refine Wb Tryz.func68 ?_;refine go ?_;refine bx H fun g2 z H=> ?_;refine go ?_;refine Cd (fun p6=> ?_) fun p6=> ?_
 ·refine go ?_;refine Rt [_] ?_;subst e_ths;subst e_ds;subst e_sn;exact⟨ret1 (vi (Eq.symm (ite_to p6 rfl))),H.ext⟩
 ·refine go ?_;refine Cd (fun p9=> ?_) fun p9=> ?_
  ·refine G3 ?_;refine sb [2] ?_;refine go ?_;refine Rt [_] ?_;subst e_ths;subst e_ds;subst e_sn;exact⟨ret1 (vi (Eq.symm (ite_no p6 (ite_to p9 rfl)))),H.ext⟩
  ·refine G4 ?_;refine mm H fun g12 z H=> ?_;refine go ?_;refine sb [24,1,3,22,23] ?_;refine WC.loopS 1 (fun mz Ed W'=>∃j:Nat,mz=n_ths-j∧Ed=[(24,.int .i64 ((j:Nat):Int))]∧Hp w W' (mpi g12 (pkb ((ths.take j).map (·.id)))::_::[])∧(j≤n_ths)∧(fE (th1 ths) j=0)) _ ⟨0,rfl,rfl,(H.pick [0,0]),(Nat.zero_le _),rfl⟩ ?_;rintro _ _ z ⟨j,rfl,rfl,H,jl,hp⟩;refine go ?_;refine Cd (fun p18=> ?_) fun p18=> ?_
   ·have b21:j<n_ths:=Om;refine go ?_;refine al H ti68 fun g22 z H=> ?_;refine st H 0 ti68 fun z H=> ?_;refine go ?_;refine c1 H Fh (thread_any ths[j]! _) fun z H=> ?_;refine go ?_;refine Cd (fun p27=> ?_) fun p27=> ?_
    ·refine go ?_;refine Rt [_] ?_;subst e_ths;subst e_ds;subst e_sn;exact⟨ret1 (vi (Eq.symm (ite_no p6 (ite_no p9 (fE_out hp (ite_to p27 rfl) p27 Om))))),H.ext⟩
    ·refine G7 ?_;refine yy (Yld.cast (Y.lookup rfl u246 u3 ti4 rfl rfl (fun _ h=>h▸(H.mi 1))) (mval_pkb _ _)) ?_;refine go ?_;refine Cd (fun p31=> ?_) fun p31=> ?_
     ·refine G3 ?_;refine sb [2] ?_;refine go ?_;refine Rt [_] ?_;subst e_ths;subst e_ds;subst e_sn;exact⟨ret1 (vi (Eq.symm (ite_no p6 (ite_no p9 (fE_out hp (ite_no (fun q=>q p27) (ite_to p31 rfl)) Dc Om))))),H.ext⟩
     ·refine G6 ?_;refine mu H 1 u246 u3 fun z H=> ?_;refine go ?_;exact Rs [(24,_)] Sx ⟨(j+1),rfl,rfl,(by rw[take_1 (show j<ths.length by omega),List.map_append,show List.map (·.id) [ths[j]!]=[ths[j]!.id]from rfl,←mset_pkb p31];exact(H.pick [1,1])),Om,(fE_next hp (ite_no (fun q=>q p27) (ite_no p31 rfl)))⟩
   ·refine go ?_;refine c1 H Fh (clcheck_any _ _ _ _ _ _ _ _ _ (h_ds.ext H.ext) (h_sn.ext H.ext)) fun z H=> ?_;refine go ?_;refine Cd (fun p36=> ?_) fun p36=> ?_
    ·refine G4 ?_;refine sb [2] ?_;refine go ?_;refine Rt [_] ?_;subst e_ths;subst e_ds;subst e_sn;exact⟨ret1 (vi (Eq.symm (ite_no p6 (ite_no p9 (fE_thru hp Om (ite_to p36 rfl)))))),H.ext⟩
    ·refine go ?_;refine sb [52,1,50,51] ?_;refine WC.loopS 1 (fun mz Ed W'=>∃i:Nat,mz=n_ths-i∧Ed=[(52,.int .i64 ((i:Nat):Int))]∧Hp w W' (_::_::[])∧(i≤n_ths)∧(fE (fun i=>if¬(ixP (fun x=>x.id==ths[i]!.dom) ds≥0)then 5 else 0) i=0)) _ ⟨0,rfl,rfl,(H.pick [0,0]),(Nat.zero_le _),rfl⟩ ?_;rintro _ _ z ⟨i,rfl,rfl,H,il,hq⟩;refine go ?_;refine Cd (fun p42=> ?_) fun p42=> ?_
     ·have b45:i<n_ths:=Om;refine go ?_;refine al H ti68 fun g46 z H=> ?_;refine st H 0 ti68 fun z H=> ?_;refine G4 ?_;refine yy (Y.func rfl rfl rfl) ?_;refine c1 H Fh (cfD_any _ _ _ _ 124 [.pointer (some ⟨g46,0,none⟩)] (fun x=>x.id==ths[i]!.dom) _ (h_ds.ext H.ext) Fh (fun k hk w1 x1=>hd1_any ds[k]! g46 ths[i]! w1 (Blk.ext ((H.b 0)) x1))) fun z H=> ?_;refine go ?_;refine Cd (fun p49=> ?_) fun p49=> ?_
      ·refine go ?_;refine Rt [_] ?_;subst e_ths;subst e_ds;subst e_sn;exact⟨ret1 (vi (Eq.symm (ite_no p6 (ite_no p9 (fE_thru hp Om (ite_no (fun q=>q p36) (fE_ret hq (ite_to p49 rfl) Dc Om))))))),H.ext⟩
      ·refine go ?_;exact Rs [(52,_)] Sx ⟨(i+1),rfl,rfl,(H.pick [1,1]),Om,(fE_next hq (ite_no (fun q=>q p49) rfl))⟩
     ·refine go ?_;refine Rt [_] ?_;subst e_ths;subst e_ds;subst e_sn;exact⟨ret1 (vi (Eq.symm (ite_no p6 (ite_no p9 (fE_thru hp Om (ite_no (fun q=>q p36) (fE_end hq Om))))))),H.ext⟩
theorem follows_any(g:Nat)(nx la:Int)(x:Pk)(w:World)(hg:Blk w g 254 [.int .i64 nx,.int .i64 la])(h_x:x.ok w)(ok:PkOk x):
  Cr 126 #[.pointer (some ⟨g,0,none⟩),.agg #[.int .i64 x.th,.int .i64 x.sr,.int .i64 x.ls,.slice x.A x.k x.c_]] w (.bool (x.sr-x.ls==nx&&decide (x.es[0]!.at_≥la))):=by
 have H:=(Hp.nil w);have e_x:=h_x.l.len;have z_x:=h_x.l.nle;have o1:=ok.sr;have o2:=ok.ls;have o3:=ok.k;refine Wb Tryz.func126 ?_;refine go ?_;refine bx H fun g2 z H=> ?_;refine G2 ?_;refine sb [0,3] ?_;refine go ?_;refine Qr ?_;refine G13 ?_;refine qg (fun hb=>Y.indexLs 0 (h_x.ext H.ext).l rfl u53 ti73 (evg rfl hb) rfl rfl (by have q0:=(eq_t hb);omega)) ?_;refine G1 ?_;refine qg (fun hb=>Y.load1 rfl u3 rfl (evg rfl hb) (Ls.at_ext (h_x.ext H.ext).l (by have q0:=(eq_t hb);omega) rfl)) ?_;refine go ?_;refine Qd H fun z H=> ?_;refine go ?_;refine Rt [_] ?_;exact⟨rfl,H.ext⟩
theorem advance_any(g:Nat)(nx la:Int)(x:Pk)(W:World)(R:List Res)(w:World)(H:Hp W w (box g 254 [.int .i64 nx,.int .i64 la]::R))(h_x:x.ok W)(ok:PkOk x):
  Calls Tryz.prog 127 #[.pointer (some ⟨g,0,none⟩),.agg #[.int .i64 x.th,.int .i64 x.sr,.int .i64 x.ls,.slice x.A x.k x.c_]] w fun e w'=>e= .returned (resVal [])∧Hp W w' (box g 254 [.int .i64 (x.sr+x.k),.int .i64 (x.es[x.k-1]!.at_)]::R):=by
 have o1:=ok.sr;have o3:=ok.k;have o4:=ok.to;have e_x:=h_x.l.len;refine Wb Tryz.func127 ?_;refine go ?_;refine bx H fun g4 z H=> ?_;refine go ?_;refine st H 1 ti3 fun z H=> ?_;have b7:(x.k-1)<x.k:=Om;refine G1 ?_;refine sb [0,3] ?_;refine G8 ?_;refine yy (Y.indexLs (x.k-1) (h_x.ext H.ext).l rfl u53 ti73 rfl rfl Om b7) ?_;refine G1 ?_;refine yy (ld rfl u3 rfl (Ls.at_eq (h_x.ext H.ext).l b7 rfl)) ?_;refine go ?_;refine st H 1 ti3 fun z H=> ?_;refine go ?_;refine En ?_;exact⟨rfl,(H.drop [0])⟩
theorem evsum_ok{ids:List Int}{l:List Pk}:∀{j:Nat},fE (lch1 ids l) j=0→evsum l j≤1000*j
 |0,_=>Nat.le_refl _
 |j+1,h=>by
  have h:=fE_ok.1 h;have ih:=evsum_ok (j:=j) (fE_ok.2 fun i hi=>h i Om);have h2:tlE ids (tlN ids l j) l[j]! =0:=h j Om;have h3:l[j]!.k≤1000:=by
   unfold tlE at h2;split at h2
   ·rename_i q;exact absurd h2 q
   ·rename_i q;exact(pk_ok (Decidable.of_not_not q)).k.2
  show evsum l j+l[j]!.k≤_;omega
abbrev tlB:TlK→List Res:=fun t=>[box t.g 254 [.int .i64 t.d.nx,.int .i64 t.d.la]]
theorem lgchk_any(A_ths:Option Addr)(n_ths c_ths:Nat)(ths:List Th)(A_ds:Option Addr)(n_ds c_ds:Nat)(ds:List Dm)(A_sn:Option Addr)(n_sn c_sn:Nat)(sn:List Sn)(A_l:Option Addr)(n_l c_l:Nat)(l:List Pk)(w:World)(h_ths:Ls w A_ths n_ths c_ths Th.c 3 ths)(h_ds:Ls w A_ds n_ds c_ds Dm.c 2 ds)(h_sn:Ls w A_sn n_sn c_sn Sn.c 5 sn)(h_l:Ls w A_l n_l c_l Pk.c 4 l)(g_l:PksOk w l)(hnd:(ths.map (·.id)).Nodup)(hl:n_l≤1000):
  Cr 69 #[.agg #[.slice A_ths n_ths c_ths,.slice A_ds n_ds c_ds,.slice A_sn n_sn c_sn],.slice A_l n_l c_l] w (.int .i64 (lchE (ths.map (·.id)) l)):=by
 have H:=(Hp.nil w);have e_ths:=h_ths.len;have z_ths:=h_ths.nle;have e_ds:=h_ds.len;have z_ds:=h_ds.nle;have e_sn:=h_sn.len;have z_sn:=h_sn.nle;have e_l:=h_l.len;have z_l:=h_l.nle;refine Wb Tryz.func69 ?_;refine go ?_;refine bx H fun g2 z H=> ?_;refine G3 ?_;refine mm H fun g5 z H=> ?_;have H:=H.bigNil tlB;refine go ?_;refine sb [18,1,5,16,17] ?_;refine WC.loopS 1 (fun mz Ed W'=>∃j:Nat,∃tl:List TlK,mz=n_ths-j∧Ed=[(18,.int .i64 ((j:Nat):Int))]∧Hp w W' (big tlB tl::mpi g5 (pkv (tl.map tlF))::_::[])∧(j≤n_ths)∧(tl.map TlK.id=(ths.take j).map (·.id))∧(tl.map TlK.d=(ths.take j).map fun _=>default)) _ ⟨0,[],rfl,rfl,(H.pick [0,0,0]),(Nat.zero_le _),rfl,rfl⟩ ?_;rintro _ _ z ⟨j,tl,rfl,rfl,H,jl,hi,hd⟩;refine go ?_;refine Cd (fun p12=> ?_) fun p12=> ?_
 ·have b15:j<n_ths:=Om;refine go ?_;refine al H ti68 fun g16 z H=> ?_;refine st H 0 ti68 fun z H=> ?_;refine go ?_;refine bx H fun g18 z H=> ?_;refine mu H 3 u251 u3 fun z H=> ?_;have H:=H.front [0,1];have H:Hp w _ (big tlB (tl++[⟨g18,ths[j]!.id,⟨0,0⟩⟩])::_):=Hp.bigPush tlB ⟨g18,ths[j]!.id,⟨0,0⟩⟩ H;have hk:=mset_pkv_new (ks:=tl.map tlF) (x:=ths[j]!.id) (by rw[show(tl.map tlF).map (·.1)=tl.map TlK.id from by rw[List.map_map];rfl,hi];exact nodup_map_take Th.id hnd (show j<ths.length by omega)) g18;refine go ?_;exact Rs [(18,_)] Sx ⟨(j+1),(tl++[⟨g18,ths[j]!.id,⟨0,0⟩⟩]),rfl,rfl,(by rw[List.map_append];rw[show List.map tlF [(⟨g18,ths[j]!.id,⟨0,0⟩⟩:TlK)]=[(ths[j]!.id,g18)]from rfl,←hk];exact(H.pick [0,1,1])),Om,(by rw[List.map_append,hi,take_1 (show j<ths.length by omega),List.map_append];rfl),(by rw[List.map_append,hd,take_1 (show j<ths.length by omega),List.map_append];rfl)⟩
 ·refine go ?_;refine sb [30,8,5,28,29] ?_;refine WC.loopS 2 (fun mz Ed W'=>∃j:Nat,∃tm:List TlK,mz=n_l-j∧Ed=[(30,.int .i64 ((j:Nat):Int)),(8,.int .i64 ((evsum l j:Nat):Int))]∧Hp w W' (big tlB tm::mpi g5 (pkv (tm.map tlF))::_::[])∧(j≤n_l)∧(tm.map TlK.id=ths.map (·.id))∧(tm.map TlK.d=tlN (ths.map (·.id)) l j)∧(fE (lch1 (ths.map (·.id)) l) j=0)) _ ⟨0,tl,rfl,rfl,(H.pick [0,0,0]),(Nat.zero_le _),(by rw[hi,List.take_of_length_le Om]),(by rw[hd,List.take_of_length_le Om];show _=(ths.map (·.id)).map _;rw[List.map_map];rfl),rfl⟩ ?_;rintro _ _ z ⟨j,tm,rfl,rfl,H,jl,hi,hd,hp⟩;have el:=evsum_ok hp;refine go ?_;refine Cd (fun p25=> ?_) fun p25=> ?_
  ·have b28:j<n_l:=Om;refine go ?_;refine al H ti55 fun g29 z H=> ?_;refine st H 0 ti55 fun z H=> ?_;refine go ?_;refine c1 H Fh (packet_any l[j]! _ ⟨((g_l _ (mem_b (show j<l.length from Om))).ext H.ext).l,((g_l _ (mem_b (show j<l.length from Om))).ext H.ext).e⟩) fun z H=> ?_;refine go ?_;refine Cd (fun p34=> ?_) fun p34=> ?_
   ·refine go ?_;refine Rt [_] ?_;subst e_ths;subst e_l;exact⟨ret1 (vi (Eq.symm (fE_out hp (ite_to p34 rfl) p34 Om))),H.ext⟩
   ·have q:=mget_by tlF tm l[j]!.th;rw[show(tm.map fun t=>(tlF t).1)=tm.map TlK.id from rfl,hi]at q;have tn_:tm.length=(ths.map (·.id)).length:=by rw[←hi,List.length_map]
    have ok:=pk_ok (Decidable.of_not_not (fun q=>q p34));refine G6 ?_;rcases q with⟨qb,qa⟩|⟨qa,qb⟩
    ·have qa':¬(ths.map (·.id)).idxOf l[j]!.th<(ths.map (·.id)).length:=Om;refine yy (Yld.cast (Y.lookupOk rfl u251 u3 ti252 rfl rfl (fun _ h=>h▸(H.mi 2))) (by unfold mval;rw[qb];first|done|rfl)) ?_;refine G11 ?_;refine sb [5,8,10,12,28,29,30,47] ?_;refine WC.condT rfl ?_;refine go ?_;refine Rt [_] ?_;subst e_ths;subst e_l;exact⟨ret1 (vi (Eq.symm (fE_out hp (ite_no (fun q=>q p34) (ite_to qa' rfl)) Dc Om))),H.ext⟩
    ·have hkj:=ok.k.2;obtain⟨⟨g,id,nx,la⟩,hx⟩:∃x,tm[(ths.map (·.id)).idxOf l[j]!.th]! =x:=⟨_,rfl⟩;have H:=H.front [1];have H:Hp w _ (box g 254 [.int .i64 nx,.int .i64 la]::hole tlB tm ((ths.map (·.id)).idxOf l[j]!.th)::_):=Hp.bigOutX tlB ⟨g,id,nx,la⟩ hx H qa;have qa':(ths.map (·.id)).idxOf l[j]!.th<(ths.map (·.id)).length:=Om;have hT:(tlN (ths.map (·.id)) l j)[(ths.map (·.id)).idxOf l[j]!.th]! =⟨nx,la⟩:=by rw[←hd,map_b TlK.d qa,hx]
     rw[hx]at qb;refine yy (Yld.cast (Y.lookupOk rfl u251 u3 ti252 rfl rfl (fun _ h=>h▸(H.mi 3))) (by unfold mval;rw[qb];first|done|rfl)) ?_;refine go ?_;refine WC.condF rfl ?_;refine go ?_;refine c1 H Fh (follows_any _ _ _ l[j]! _ (H.b 0) ⟨((g_l _ (mem_b (show j<l.length from Om))).ext H.ext).l,((g_l _ (mem_b (show j<l.length from Om))).ext H.ext).e⟩ ok) fun z H=> ?_;refine go ?_;refine WC.cond rfl (fun h46=> ?_) (fun h46=> ?_)
     ·refine go ?_;refine Rt [_] ?_;subst e_ths;subst e_l;exact⟨ret1 (vi (Eq.symm (fE_out hp ((tlE_at hT).trans (ite_no (fun q=>q p34) (ite_no (not_not_intro qa') (ite_to (not_t h46) rfl)))) Dc Om))),H.ext⟩
     ·refine G2 ?_;refine sb [5,8,10,12,28,29,30] ?_;refine go ?_;refine c3 Fh (advance_any _ _ _ l[j]! _ _ _ (H.front [0]) (g_l _ (mem_b (show j<l.length from Om))) ok) ?_;rintro _ z ⟨rfl,H⟩;refine⟨_,rfl,?_⟩;obtain⟨tn,ht,h1,hi',hd'⟩:=tl_turn (d':=⟨l[j]!.sr+l[j]!.k,l[j]!.es[l[j]!.k-1]!.at_⟩) qa hx hi hd;have H:Hp w _ (big tlB (tm.set ((ths.map (·.id)).idxOf l[j]!.th) ⟨g,id,⟨l[j]!.sr+l[j]!.k,l[j]!.es[l[j]!.k-1]!.at_⟩⟩)::_):=Hp.bigIn tlB ⟨g,id,⟨l[j]!.sr+l[j]!.k,l[j]!.es[l[j]!.k-1]!.at_⟩⟩ H qa;rw[←ht,←h1]at H;refine go ?_;exact Rs [(30,_),(8,_)] Sx ⟨(j+1),tn,rfl,rfl,(H.pick [0,1,1]),Om,hi',hd',(fE_next hp ((tlE_at hT).trans (ite_no (fun q=>q p34) (ite_no (not_not_intro qa') (ite_no (nf_t (not_f h46)) rfl)))))⟩
  ·refine go ?_;refine Cd (fun p51=> ?_) fun p51=> ?_
   ·refine go ?_;refine Rt [_] ?_;have ej:j=l.length:=Om;subst ej;subst e_ths;subst e_l;exact⟨ret1 (vi (Eq.symm (fE_thru hp rfl (ite_to p51 rfl)))),H.ext⟩
   ·refine go ?_;refine Rt [_] ?_;have ej:j=l.length:=Om;subst ej;subst e_ths;subst e_l;exact⟨ret1 (vi (Eq.symm (fE_thru hp rfl (ite_no p51 rfl)))),H.ext⟩
abbrev poF:Pk→List Res:=fun x=>[row 73 Ev.c 6 (.slice x.A x.k x.c_) x.es]
theorem fill_any(v:Value)(ps:List Pk)(A:Option Addr)(k c:Nat)(es:List Ev)(W:World)(R:List Res)(w:World)(H:Hp W w (row 55 Pk.c 4 v ps::big poF ps::R))(hE:Ls W A k c Ev.c 6 es)(h1:1≤ps.length∧ps.length≤1000)(hl:ps[ps.length-1]!.es.length+es.length≤1000):
  Calls Tryz.prog 70 #[v,.slice A k c] w fun e w'=>∃v' q,e= .returned v'∧Hp W w' (row 55 Pk.c 4 v' (ps.set (ps.length-1) q)::big poF (ps.set (ps.length-1) q)::R)∧q.pp=⟨ps[ps.length-1]!.th,ps[ps.length-1]!.sr,ps[ps.length-1]!.ls,ps[ps.length-1]!.es++es⟩:=by
 have e_k:=hE.len;have z_k:=hE.nle;refine Wb Tryz.func70 ?_;obtain⟨A6,n7,c8,rfl,e_n7,_,_⟩:=H.op 0;subst e_n7;refine go ?_;refine sb [1,0] ?_;refine WC.loopS 1 (fun mz Ed W'=>∃A':Option Addr,∃k':Nat,∃c':Nat,∃es':List Ev,∃q:Pk,mz=2*k'∧Ed=[(1,.slice A' k' c')]∧Hp W W' (row 55 Pk.c 4 (.slice A6 ps.length c8) (ps.set (ps.length-1) q)::big poF (ps.set (ps.length-1) q)::R)∧(Ls W A' k' c' Ev.c 6 es')∧(q.es++es'=ps[ps.length-1]!.es++es)∧(q.th=ps[ps.length-1]!.th∧q.sr=ps[ps.length-1]!.sr∧q.ls=ps[ps.length-1]!.ls)) _ ⟨_,_,_,_,ps[ps.length-1]!,rfl,rfl,(by rw[set_same Om];exact H),hE,rfl,⟨rfl,rfl,rfl⟩⟩ ?_;rintro _ _ z ⟨A',k',c',es',q,rfl,rfl,H,hE',he,hq⟩;have e':=hE'.len;have eL:q.es.length+es'.length=ps[ps.length-1]!.es.length+es.length:=by rw[←List.length_append,he,List.length_append]
 refine go ?_;refine Cd (fun p11=> ?_) fun p11=> ?_
 ·have hx:(ps.set (ps.length-1) q)[(ps.length-1)]! =q:=set_b Om;have hi:(ps.length-1)<(ps.set (ps.length-1) q).length:=by rw[List.length_set];omega
  have H:=H.front [1];have H:Hp W _ (row 73 Ev.c 6 (.slice q.A q.k q.c_) q.es::hole poF (ps.set (ps.length-1) q) ((ps.length-1))::_):=Hp.bigOutX poF q hx H hi;have hv:Value.slice (ps.set (ps.length-1) q)[(ps.length-1)]!.A (ps.set (ps.length-1) q)[(ps.length-1)]!.k (ps.set (ps.length-1) q)[(ps.length-1)]!.c_= .slice q.A q.k q.c_:=by rw[hx]
  have el_q:=(H.l 0).len;have zl_q:=(H.l 0).nle;have b15:(ps.length-1)<ps.length:=Om;refine G8 ?_;refine yy (Y.indexLs (ps.length-1) (H.l 2) rfl u27 ti55 rfl rfl Om b15) ?_;refine G6 ?_;refine yy (Yld.cast (Y.load1 rfl u53 rfl rfl (Ls.at_eq (H.l 2) b15 rfl)) hv) ?_;refine go ?_;refine WC.cond rfl (fun h19=> ?_) (fun h19=> ?_)
  ·exfalso;have p:=eq_t h19;omega
  ·have p19:=(eq_f h19);refine go ?_;refine Xr H (HpC W _) (.load 0 (.load 1 (.load 2 (.load 3 (.load 5 (.load 6 (.load 7 (.alt 4 (.alt 8 (.load 9 (.load 10 (.alt 11 (.fin) (.none)))) (.none)) (.none))))))))) (H.pick [1]) fun z H=> ?_;have b21:k'≤k':=Om;refine G6 ?_;refine yx rfl (Y.sliceH k' rfl u53 ti73 rfl rfl Om (Nat.le_trans b21 (hE'.ext H.ext).le)) ?_;refine WX.yldL rfl rfl (blt rfl) rfl (H.pick [1]) (Yld.cast (Y.load1 rfl u53 rfl rfl (Ls.at_eq (H.l 2) b15 rfl)) hv) ?_;refine aplX (H.pick [1]) H 0 rfl ((hE'.ext H.ext).take b21) u53 ti73 Ev.one (by rw[List.length_take];omega) fun v22 z H=> ?_;obtain⟨A23,n24,c25,rfl,_,_,_⟩:=H.op 0;refine go ?_;refine steX (H.pick [1]) H 2 rfl ⟨q.th,q.sr,q.ls,A23,n24,c25,(q.es++(es'.take k'))⟩ b15 ti53 hx fun z H=> ?_;refine WX.nil (H.pick [1]) ?_;have b26:k'≤k':=Om;refine G1 ?_;refine sb [0,1,6] ?_;refine G3 ?_;refine yy (Y.sliceL k' rfl u53 ti73 rfl rfl Om b26) ?_;have H:Hp W _ (big poF ((ps.set (ps.length-1) q).set ((ps.length-1)) ⟨q.th,q.sr,q.ls,A23,n24,c25,(q.es++(es'.take k'))⟩)::_):=Hp.bigIn poF ⟨q.th,q.sr,q.ls,A23,n24,c25,(q.es++(es'.take k'))⟩ H hi;have H:=(H.front [1,0]);rw[set_twice]at H;refine go ?_;refine WK.roundS _ [(1,_)] Sx ?_ ⟨_,_,_,_,⟨q.th,q.sr,q.ls,A23,n24,c25,(q.es++(es'.take k'))⟩,rfl,rfl,H,(hE'.drop Nl),(by show(q.es++es'.take k')++es'.drop k'=_;rw[List.append_assoc,List.take_append_drop];exact he),hq⟩;omega
 ·refine go ?_;refine Rt [_] ?_;have e0:es'=[]:=List.length_eq_zero_iff.1 Om;subst e0;rw[List.append_nil]at he;exact⟨_,q,rfl,H,(by unfold Pk.pp;rw[hq.1,hq.2.1,hq.2.2,he])⟩
structure Gp where(id:Int)(A:Option Addr)(n c:Nat)(ps:List Pk)
instance:Inhabited Gp:=⟨⟨0,none,0,0,[]⟩⟩
def grM(x:Gp):Int×Value:=(x.id,.slice x.A x.n x.c)
def grP(x:Gp):Int×List Pp:=(x.id,x.ps.map Pk.pp)
theorem gr_none:∀{gl:List Gp} {x:Int},mget (gl.map grM) x=none→aget (gl.map grP) x=[]∧(∀u,aset (gl.map grP) x u=gl.map grP++[(x,u)])∧(∀u,mset (gl.map grM) x u=gl.map grM++[(x,u)])
 |[],x,_=>⟨rfl,fun _=>rfl,fun _=>rfl⟩
 |y::r,x,h=>by
  have h1:(if x=y.id then some (Value.slice y.A y.n y.c)else mget (r.map grM) x)=none:=h;by_cases q:x=y.id
  ·grind
  ·rw[if_neg q]at h1;obtain⟨a,b,c⟩:=gr_none h1;refine⟨(if_neg q).trans a,fun u=>(if_neg q).trans ?_,fun u=>(if_neg q).trans ?_⟩
   ·rw[b];rfl
   ·rw[c];rfl
theorem gr_some:∀{gl:List Gp} {x:Int} {v:Value},mget (gl.map grM) x=some v→∃i,i<gl.length∧gl[i]!.id=x∧v= .slice gl[i]!.A gl[i]!.n gl[i]!.c∧aget (gl.map grP) x=gl[i]!.ps.map Pk.pp∧(∀u,aset (gl.map grP) x u=(gl.map grP).set i (x,u))∧(∀u,mset (gl.map grM) x u=(gl.map grM).set i (x,u))
 |[],x,v,h=>by cases h
 |y::r,x,v,h=>by
  have h1:(if x=y.id then some (Value.slice y.A y.n y.c)else mget (r.map grM) x)=some v:=h;by_cases q:x=y.id
  ·rw[if_pos q]at h1;injection h1 with h1
   subst q;exact⟨0,Nat.succ_pos _,rfl,h1.symm,if_pos rfl,fun u=>if_pos rfl,fun u=>if_pos rfl⟩
  ·rw[if_neg q]at h1;obtain⟨i,a,b,c,d,e,f⟩:=gr_some h1;refine⟨i+1,Nat.succ_lt_succ a,b,c,(if_neg q).trans d,fun u=>(if_neg q).trans ?_,fun u=>(if_neg q).trans ?_⟩
   ·rw[e];rfl
   ·rw[f];rfl
def GrOk(l:List Pk)(G:List (Int×List Pp))(j:Nat):Prop:=∀x∈G,x.2.length≤j∧∀q∈x.2,q.es.length≤evsum l j∧∀e∈q.es,∃p∈l,e∈p.es
theorem aget_mem:∀(G:List (Int×List Pp)) (x:Int),aget G x=[]∨∃y∈G,y.2=aget G x
 |[],_=>.inl rfl
 |(k,v)::r,x=>by
  by_cases q:x=k
  ·exact .inr ⟨(k,v),List.mem_cons_self,(if_pos q).symm⟩
  ·have e:aget ((k,v)::r) x=aget r x:=if_neg q;rw[e];exact(aget_mem r x).imp id fun⟨y,h,h'⟩=>⟨y,List.mem_cons_of_mem _ h,h'⟩
theorem aset_mem:∀{G:List (Int×List Pp)} {x:Int} {u:List Pp} {y:Int×List Pp},y∈aset G x u→y∈G∨y=(x,u)
 |[],x,u,y,h=>.inr (List.mem_singleton.1 h)
 |(k,v)::r,x,u,y,h=>by
  by_cases q:x=k
  ·have e:aset ((k,v)::r) x u=(k,u)::r:=if_pos q;grind
  ·have e:aset ((k,v)::r) x u=(k,v)::aset r x u:=if_neg q;rw[e]at h;rcases List.mem_cons.1 h with h|h
   ·grind
   ·exact(aset_mem h).imp (List.mem_cons_of_mem _) id
theorem evsum_mono(l:List Pk)(j:Nat):evsum l (j+1)=evsum l j+l[j]!.k:=rfl
theorem ppOpen_ok{l:List Pk}{o:List Pp}{j:Nat}{p:Pk}(h:o.length≤j∧∀q∈o,q.es.length≤evsum l j∧∀e∈q.es,∃p∈l,e∈p.es):1≤(ppOpen o p).length∧(ppOpen o p).length≤j+1∧∀q∈ppOpen o p,q.es.length≤evsum l j∧∀e∈q.es,∃p∈l,e∈p.es:=by
 unfold ppOpen;grind
theorem grN_ok{l:List Pk}(hk:∀p∈l,p.es.length=p.k):∀j,j≤l.length→GrOk l (grN l j) j
 |0,_=>fun x hx=>by cases hx
 |j+1,hj=>by
  have ih:=grN_ok hk j Om;have hm:=mem_b (show j<l.length from hj);have hkj:=hk _ hm;intro x hx;have key:(aget (grN l j) l[j]!.th).length≤j∧∀q∈aget (grN l j) l[j]!.th,q.es.length≤evsum l j∧∀e∈q.es,∃p∈l,e∈p.es:=by
   rcases aget_mem (grN l j) l[j]!.th with h|⟨y,hy,e⟩
   ·grind
   ·rw[←e];exact ih y hy
  obtain⟨k1,k2,k3⟩:=ppOpen_ok (p:=l[j]!) key;have hx':x∈aset (grN l j) l[j]!.th (ppPut (aget (grN l j) l[j]!.th) l[j]!):=hx;rw[evsum_mono];rcases aset_mem hx' with h|rfl
  ·have:=ih x h;grind
  ·refine⟨by show(List.set _ _ _).length≤_;grind,fun q hq=> ?_⟩;have hq':q∈List.set _ _ _:=hq;grind
theorem evsum_le_all(l:List Pk)(j:Nat):∀n,j≤n→evsum l j≤evsum l n
 |0,h=>by grind
 |n+1,h=>by
  rcases Nat.lt_or_eq_of_le h with h|rfl
  ·exact Nat.le_trans (evsum_le_all l j n Om) (Nat.le_add_right _ _)
  omega
theorem put_pp{ps:List Pk}{own:List Pp}{p:Pk}{q:Pk}(h:ps.map Pk.pp=ppOpen own p)(h1:1≤ps.length)(hq:q.pp=⟨ps[ps.length-1]!.th,ps[ps.length-1]!.sr,ps[ps.length-1]!.ls,ps[ps.length-1]!.es++p.es⟩):(ps.set (ps.length-1) q).map Pk.pp=ppPut own p:=by
 have hl:(ppOpen own p).length=ps.length:=by grind
 have hb:(ppOpen own p)[ps.length-1]! =ps[ps.length-1]!.pp:=by grind
 show _=List.set _ _ _;rw[List.map_set,h,hq,hl,hb];rfl
theorem gr_ls{w:World}{e1 e2:TypeId}{gl:List Gp}(h:(big (fun x:Gp=>[row e1 Pk.c 4 (.slice x.A x.n x.c) x.ps,big (fun p:Pk=>[row e2 Ev.c 6 (.slice p.A p.k p.c_) p.es]) x.ps]) gl).holds w){x:Gp}(hx:x∈gl){p:Pk}(hp:p∈x.ps):Ls w p.A p.k p.c_ Ev.c 6 p.es:=by
 have h1:=h.1 (big (fun p:Pk=>[row e2 Ev.c 6 (.slice p.A p.k p.c_) p.es]) x.ps) (List.mem_flatMap.2 ⟨x,hx,List.mem_cons_of_mem _ List.mem_cons_self⟩);have h2:=h1.1 (row e2 Ev.c 6 (.slice p.A p.k p.c_) p.es) (List.mem_flatMap.2 ⟨p,hp,List.mem_cons_self⟩);exact OwnL.ls h2 (fun _=>rfl) Dc
theorem lgN_es{ths:List Th}{l:List Pk}(hk:∀p∈l,p.es.length=p.k):∀j,∀q∈lgN ths l j,∀e∈q.es,∃p∈l,e∈p.es
 |0,q,hq=>by cases hq
 |j+1,q,hq=>by
  have hq':q∈lgN ths l j++aget (grN l l.length) ths[j]!.id:=hq;rcases List.mem_append.1 hq' with h|h
  ·exact lgN_es hk j q h
  ·rcases aget_mem (grN l l.length) ths[j]!.id with h'|⟨y,hy,e⟩
   ·grind
   ·rw[←e]at h;exact((grN_ok hk l.length Nl y hy).2 q h).2
theorem hd_nodup{ths:List Th}{d:List Dm}{s:List Sn}(h:hdE ths d s=0):(ths.map (·.id)).Nodup:=by
 unfold hdE at h;split at h
 ·cases h
 split at h
 ·cases h
 split at h
 ·rename_i q;omega
 rename_i q;have q:=fE_ok.1 (Decidable.of_not_not q);have key:∀j,j≤ths.length→((ths.take j).map (·.id)).Nodup:=by
  intro j
  induction j with
  |zero=>grind
  |succ j ih=>
   intro hj;rw[take_1 hj,List.map_append,List.nodup_append];refine⟨ih Om,by simp,fun a ha b hb e=> ?_⟩;grind [List.mem_singleton,th1,getElem!]
 have:=key ths.length Nl;grind
abbrev grF:Gp→List Res:=fun x=>[row 55 Pk.c 4 (.slice x.A x.n x.c) x.ps,big poF x.ps]
theorem evsum_up(l:List Pk){j:Nat}(h:j<l.length):evsum l (j+1)≤evsum l l.length:=evsum_le_all l (j+1) l.length h
theorem lgOfH_any(A_ths:Option Addr)(n_ths c_ths:Nat)(ths:List Th)(A_ds:Option Addr)(n_ds c_ds:Nat)(ds:List Dm)(A_sn:Option Addr)(n_sn c_sn:Nat)(sn:List Sn)(A_l:Option Addr)(n_l c_l:Nat)(l:List Pk)(w:World)(h_ths:Ls w A_ths n_ths c_ths Th.c 3 ths)(h_ds:Ls w A_ds n_ds c_ds Dm.c 2 ds)(h_sn:Ls w A_sn n_sn c_sn Sn.c 5 sn)(h_l:Ls w A_l n_l c_l Pk.c 4 l)(g_l:PksOk w l)(hk:∀x∈l,x.k≤1000000)(hl:n_l≤1000)(ht:n_ths≤1000)(he:evsum l l.length≤1000):
  Calls Tryz.prog 22 #[.agg #[.slice A_ths n_ths c_ths,.slice A_ds n_ds c_ds,.slice A_sn n_sn c_sn],.slice A_l n_l c_l] w fun e w'=>∃x1 x2 x3 x4,e= .returned (.tuple #[.agg #[x1,x2,x3,x4],.int .i64 (ofE ths ds sn l)])∧Ext w w'∧(ofE ths ds sn l=0→∃A n c ps,∃gl:List Gp,x1= .slice A_ths n_ths c_ths∧x2= .slice A_ds n_ds c_ds∧x3= .slice A_sn n_sn c_sn∧x4= .slice A n c∧Hp w w' [row 55 Pk.c 4 (.slice A n c) ps,big grF gl]∧(∀p∈ps,∃x∈gl,p∈x.ps)∧ps.map Pk.pp=lgParts ths l)∧(ofE ths ds sn l≠0→x1= .slice none 0 0∧x2= .slice none 0 0∧x3= .slice none 0 0∧x4= .slice none 0 0):=by
 have H:=(Hp.nil w);have e_ths:=h_ths.len;have z_ths:=h_ths.nle;have e_ds:=h_ds.len;have z_ds:=h_ds.nle;have e_sn:=h_sn.len;have z_sn:=h_sn.nle;have e_l:=h_l.len;have z_l:=h_l.nle;have hkl:∀p∈l,p.es.length=p.k:=fun p hp=>(g_l p hp).l.len;refine Wb Tryz.func22 ?_;refine go ?_;refine bx H fun g2 z H=> ?_;refine al H ti29 fun g4 z H=> ?_;refine go ?_;refine c1 H Fh (head_any _ _ _ _ _ _ _ _ _ _ _ _ _ (h_ths.ext H.ext) (h_ds.ext H.ext) (h_sn.ext H.ext)) fun z H=> ?_;refine go ?_;refine Cd (fun p9=> ?_) fun p9=> ?_
 ·refine go ?_;refine st H 0 ti29 fun z H=> ?_;refine go ?_;refine WK.ret [_,_] rfl ⟨⟨_,rfl,run_loadVar_blk u29 rfl ti29 (H.b 0)⟩,rfl,trivial⟩ ?_;exact⟨_,_,_,_,(by rw[show ofE ths ds sn l=_ from(ite_to p9 rfl)];exact rfl),H.ext,fun h=>absurd h (by rw[show ofE ths ds sn l=_ from(ite_to p9 rfl)];exact p9),fun _=>⟨rfl,rfl,rfl,rfl⟩⟩
 ·refine go ?_;refine c1 H Fh (lgchk_any _ _ _ _ _ _ _ _ _ _ _ _ _ _ _ _ _ (h_ths.ext H.ext) (h_ds.ext H.ext) (h_sn.ext H.ext) (h_l.ext H.ext) (g_l.ext H.ext) (hd_nodup (Decidable.of_not_not (fun q=>q p9))) hl) fun z H=> ?_;refine go ?_;refine Cd (fun p14=> ?_) fun p14=> ?_
  ·refine go ?_;refine st H 0 ti29 fun z H=> ?_;refine go ?_;refine WK.ret [_,_] rfl ⟨⟨_,rfl,run_loadVar_blk u29 rfl ti29 (H.b 0)⟩,rfl,trivial⟩ ?_;exact⟨_,_,_,_,(by rw[show ofE ths ds sn l=_ from(ite_no (fun q=>q p9) rfl)];exact rfl),H.ext,fun h=>absurd h (by rw[show ofE ths ds sn l=_ from(ite_no (fun q=>q p9) rfl)];exact p14),fun _=>⟨rfl,rfl,rfl,rfl⟩⟩
  ·refine G2 ?_;refine sb [1,2,4] ?_;refine G1 ?_;refine mm H fun g17 z H=> ?_;have H:=H.bigNil grF;refine go ?_;refine sb [31,2,4,8,29,30] ?_;refine WC.loopS 1 (fun mz Ed W'=>∃j:Nat,∃gl:List Gp,mz=n_l-j∧Ed=[(31,.int .i64 ((j:Nat):Int))]∧Hp w W' (big grF gl::mpi g17 (gl.map grM)::_::_::[])∧(j≤n_l)∧(gl.map grP=grN l j)) _ ⟨0,[],rfl,rfl,(H.pick [0,0,0,0]),(Nat.zero_le _),rfl⟩ ?_;rintro _ _ z ⟨j,gl,rfl,rfl,H,jl,hg⟩;refine go ?_;refine Cd (fun p24=> ?_) fun p24=> ?_
   ·have b27:j<n_l:=Om;refine go ?_;refine al H ti55 fun g28 z H=> ?_;refine st H 0 ti55 fun z H=> ?_;have gk:=grN_ok hkl j Om;have hm:=mem_b (show j<l.length by omega);have gx:(aget (grN l j) l[j]!.th).length≤j∧∀q∈aget (grN l j) l[j]!.th,q.es.length≤evsum l j∧∀e∈q.es,∃p∈l,e∈p.es:=by
     rcases aget_mem (grN l j) l[j]!.th with h|⟨y,hy,e⟩
     ·rw[h];exact⟨Nat.zero_le _,fun q hq=>by cases hq⟩
     ·rw[←e];exact gk y hy
    refine G5 ?_;rcases hq:mget (gl.map grM) l[j]!.th with _|v
    ·obtain⟨ga,gb,gc⟩:=gr_none hq;have hown:([]:List Pk).map Pk.pp=aget (grN l j) l[j]!.th:=by rw[←hg,ga];rfl
     have H:=(H.nilRow 55 Pk.c 4).front [0];have H:=H.bigNil poF;refine yy (Yld.cast (Y.lookup rfl u174 u3 ti27 rfl rfl (fun _ h=>h▸(H.mi 4))) (by unfold mval;rw[hq];first|done|rfl)) ?_;refine go ?_;refine WC.cond rfl (fun h35=> ?_) (fun h35=> ?_)
     ·have p35:=((or_t h35).imp (fun h=>(dec_t h)) (fun h=>(eq_t h)));refine go ?_;refine bs1 H u27 ti55 fun g36 z H=> ?_;refine ap H 2 0 rfl [(⟨l[j]!.th,l[j]!.sr,l[j]!.ls,none,0,0,[]⟩:Pk)] u27 ti55 rfl Pk.one (show 0+1≤1000000 by decide) fun v38 z H=> ?_;have H:=H.nilRow 73 Ev.c 6;have H:=H.front [0,1];have H:Hp w _ (big poF ([]++[(⟨l[j]!.th,l[j]!.sr,l[j]!.ls,none,0,0,[]⟩:Pk)])::_):=Hp.bigPush poF (⟨l[j]!.th,l[j]!.sr,l[j]!.ls,none,0,0,[]⟩:Pk) H;have hop:List.map Pk.pp ([]++[(⟨l[j]!.th,l[j]!.sr,l[j]!.ls,none,0,0,[]⟩:Pk)])=ppOpen (aget (grN l j) l[j]!.th) l[j]! :=by rw[←hown];exact(List.map_append).trans (Eq.symm (if_pos (.inr rfl)))
      obtain⟨P,hP⟩:∃P:List Pk,P=([]++[(⟨l[j]!.th,l[j]!.sr,l[j]!.ls,none,0,0,[]⟩:Pk)]):=⟨_,rfl⟩;rw[←hP]at H hop;obtain⟨k1,k2,k3⟩:=ppOpen_ok (p:=l[j]!) gx;rw[←hop,List.length_map]at k1 k2;have k4:P[(P).length-1]!.es.length≤evsum l j:=(k3 P[(P).length-1]!.pp (by rw[←hop];exact List.mem_map_of_mem (mem_b Om))).1;have k5:=hkl _ hm;have k6:evsum l (j+1)≤1000:=Nat.le_trans (evsum_up l Om) he;rw[evsum_mono]at k6;obtain⟨A40,n41,c42,rfl,_,_,_⟩:=H.op 2;refine go ?_;refine Xr H (HpC w _) (.load 0 (.load 1 (.load 2 (.load 3 (.load 4 (.load 5 (.alt 6 (.alt 7 (.fin) (.none)) (.none)))))))) (H.pick [1,2,2,3,3]) fun z H=> ?_;refine go ?_;refine c3X (H.pick [1,2,2,3,3]) Fh (fill_any _ P _ _ _ l[j]!.es _ _ _ (H.front [2,0]) (g_l _ hm).l ⟨k1,Om⟩ Om) ?_;rintro _ z ⟨v43,q44,rfl,H,hq44⟩;refine⟨_,rfl,?_⟩;obtain⟨A45,n46,c47,rfl,_,_,_⟩:=H.op 0;refine muX (H.pick [2,2,2,3,3]) H 5 u174 u3 fun z H=> ?_;refine WX.nil (H.pick [2,2,2,3,3]) ?_;have hpp:=put_pp hop k1 hq44;have H:=H.front [0,0,2];have H:Hp w _ (big grF (gl++[⟨l[j]!.th,A45,n46,c47,(List.set P (List.length P-1) q44)⟩])::_):=Hp.bigPush grF ⟨l[j]!.th,A45,n46,c47,(List.set P (List.length P-1) q44)⟩ H;refine G2 ?_;refine sb [2,4,8,29,30,31] ?_;refine go ?_;exact Rs [(31,_)] Sx ⟨(j+1),(gl++[⟨l[j]!.th,A45,n46,c47,(List.set P (List.length P-1) q44)⟩]),rfl,rfl,(by rw[List.map_append];rw[show List.map grM [(⟨l[j]!.th,A45,n46,c47,(List.set P (List.length P-1) q44)⟩:Gp)]=[(l[j]!.th,.slice A45 n46 c47)]from rfl,←gc];exact(H.pick [0,2,2,2])),Om,(by rw[List.map_append];show _=aset (grN l j) l[j]!.th (ppPut (aget (grN l j) l[j]!.th) l[j]!);rw[←hpp,←hg,gb];rfl)⟩
     ·exact absurd (or_f h35).2 Dc
    ·obtain⟨i,gi,gid,rfl,ga,gb,gc⟩:=gr_some hq;obtain⟨⟨id,A,n,c,ps⟩,hx⟩:∃x,gl[i]! =x:=⟨_,rfl⟩;rw[hx]at gid ga hq;dsimp only at gid ga hq;have hown:ps.map Pk.pp=aget (grN l j) l[j]!.th:=by rw[←hg,ga]
     have lps:ps.length≤j:=by rw[←List.length_map (f:=Pk.pp),hown];exact gx.1
     have H:=H.front [1];have H:Hp w _ (row 55 Pk.c 4 (.slice A n c) ps::big poF ps::hole grF gl (i)::_):=Hp.bigOutX grF ⟨id,A,n,c,ps⟩ hx H gi;have en:=(H.l 0).len;have zn:=(H.l 0).nle;refine yy (Yld.cast (Y.lookup rfl u174 u3 ti27 rfl rfl (fun _ h=>h▸(H.mi 4))) (by unfold mval;rw[hq];first|done|rfl)) ?_;refine go ?_;refine Cd (fun p53=> ?_) fun p53=> ?_
     ·refine go ?_;refine bs1 H u27 ti55 fun g54 z H=> ?_;refine ap H 1 0 rfl [(⟨l[j]!.th,l[j]!.sr,l[j]!.ls,none,0,0,[]⟩:Pk)] u27 ti55 rfl Pk.one (room_le lps (Nat.le_refl 1) Om) fun v56 z H=> ?_;have H:=H.nilRow 73 Ev.c 6;have H:=H.front [0,2];have H:Hp w _ (big poF (ps++[(⟨l[j]!.th,l[j]!.sr,l[j]!.ls,none,0,0,[]⟩:Pk)])::_):=Hp.bigPush poF (⟨l[j]!.th,l[j]!.sr,l[j]!.ls,none,0,0,[]⟩:Pk) H;have hop:List.map Pk.pp (ps++[(⟨l[j]!.th,l[j]!.sr,l[j]!.ls,none,0,0,[]⟩:Pk)])=ppOpen (aget (grN l j) l[j]!.th) l[j]! :=by rw[←hown];exact(List.map_append).trans (Eq.symm (if_pos (show l[j]!.ls>0∨(ps.map Pk.pp).length=0 from(show l[j]!.ls>0∨((n:Nat):Int)=0 from p53).imp (fun h=>h) fun h=>by rw[List.length_map];omega)))
      obtain⟨P,hP⟩:∃P:List Pk,P=(ps++[(⟨l[j]!.th,l[j]!.sr,l[j]!.ls,none,0,0,[]⟩:Pk)]):=⟨_,rfl⟩;rw[←hP]at H hop;obtain⟨k1,k2,k3⟩:=ppOpen_ok (p:=l[j]!) gx;rw[←hop,List.length_map]at k1 k2;have k4:P[(P).length-1]!.es.length≤evsum l j:=(k3 P[(P).length-1]!.pp (by rw[←hop];exact List.mem_map_of_mem (mem_b Om))).1;have k5:=hkl _ hm;have k6:evsum l (j+1)≤1000:=Nat.le_trans (evsum_up l Om) he;rw[evsum_mono]at k6;obtain⟨A58,n59,c60,rfl,_,_,_⟩:=H.op 2;refine go ?_;refine Xr H (HpC w _) (.load 0 (.load 1 (.load 2 (.load 3 (.load 4 (.load 5 (.alt 6 (.alt 7 (.fin) (.none)) (.none)))))))) (H.pick [1,2,2,3,3]) fun z H=> ?_;refine go ?_;refine c3X (H.pick [1,2,2,3,3]) Fh (fill_any _ P _ _ _ l[j]!.es _ _ _ (H.front [2,0]) (g_l _ hm).l ⟨k1,Om⟩ Om) ?_;rintro _ z ⟨v61,q62,rfl,H,hq62⟩;refine⟨_,rfl,?_⟩;obtain⟨A63,n64,c65,rfl,_,_,_⟩:=H.op 0;refine muX (H.pick [2,2,2,3,3]) H 5 u174 u3 fun z H=> ?_;refine WX.nil (H.pick [2,2,2,3,3]) ?_;have hpp:=put_pp hop k1 hq62;have H:=H.front [0,0,1];have H:Hp w _ (big grF (gl.set (i) ⟨l[j]!.th,A63,n64,c65,(List.set P (List.length P-1) q62)⟩)::_):=Hp.bigIn grF ⟨l[j]!.th,A63,n64,c65,(List.set P (List.length P-1) q62)⟩ H gi;refine go ?_;exact Rs [(31,_)] Sx ⟨(j+1),(gl.set i ⟨l[j]!.th,A63,n64,c65,(List.set P (List.length P-1) q62)⟩),rfl,rfl,(by rw[List.map_set];rw[show grM (⟨l[j]!.th,A63,n64,c65,(List.set P (List.length P-1) q62)⟩:Gp)=(l[j]!.th,.slice A63 n64 c65)from rfl,←gc];exact(H.pick [0,2,2,2])),Om,(by rw[List.map_set];show _=aset (grN l j) l[j]!.th (ppPut (aget (grN l j) l[j]!.th) l[j]!);rw[←hpp,←hg,gb];rfl)⟩
     ·have hop:List.map Pk.pp ps=ppOpen (aget (grN l j) l[j]!.th) l[j]! :=by rw[←hown];exact Eq.symm (if_neg fun q:l[j]!.ls>0∨(ps.map Pk.pp).length=0=>(show¬(l[j]!.ls>0∨((n:Nat):Int)=0)from(fun q=>q.elim p53.1 p53.2)) (q.imp (fun h=>h) fun h=>by rw[List.length_map]at h;omega))
      obtain⟨P,hP⟩:∃P:List Pk,P=ps:=⟨_,rfl⟩;rw[←hP]at H hop;obtain⟨k1,k2,k3⟩:=ppOpen_ok (p:=l[j]!) gx;rw[←hop,List.length_map]at k1 k2;have k4:P[(P).length-1]!.es.length≤evsum l j:=(k3 P[(P).length-1]!.pp (by rw[←hop];exact List.mem_map_of_mem (mem_b Om))).1;have k5:=hkl _ hm;have k6:evsum l (j+1)≤1000:=Nat.le_trans (evsum_up l Om) he;rw[evsum_mono]at k6;refine G2 ?_;refine sb [2,4,8,10,11,29,30,31] ?_;refine Xr H (HpC w _) (.load 0 (.load 1 (.load 2 (.load 3 (.load 4 (.load 5 (.alt 6 (.alt 7 (.fin) (.none)) (.none)))))))) (H.pick [2,2,3,3]) fun z H=> ?_;refine go ?_;refine c3X (H.pick [2,2,3,3]) Fh (fill_any _ P _ _ _ l[j]!.es _ _ _ (H.front [0,0]) (g_l _ hm).l ⟨k1,Om⟩ Om) ?_;rintro _ z ⟨v66,q67,rfl,H,hq67⟩;refine⟨_,rfl,?_⟩;obtain⟨A68,n69,c70,rfl,_,_,_⟩:=H.op 0;refine muX (H.pick [2,2,3,3]) H 4 u174 u3 fun z H=> ?_;refine WX.nil (H.pick [2,2,3,3]) ?_;have hpp:=put_pp hop k1 hq67;have H:Hp w _ (big grF (gl.set (i) ⟨l[j]!.th,A68,n69,c70,(List.set P (List.length P-1) q67)⟩)::_):=Hp.bigIn grF ⟨l[j]!.th,A68,n69,c70,(List.set P (List.length P-1) q67)⟩ H gi;refine go ?_;exact Rs [(31,_)] Sx ⟨(j+1),(gl.set i ⟨l[j]!.th,A68,n69,c70,(List.set P (List.length P-1) q67)⟩),rfl,rfl,(by rw[List.map_set];rw[show grM (⟨l[j]!.th,A68,n69,c70,(List.set P (List.length P-1) q67)⟩:Gp)=(l[j]!.th,.slice A68 n69 c70)from rfl,←gc];exact(H.pick [0,1,1,1])),Om,(by rw[List.map_set];show _=aset (grN l j) l[j]!.th (ppPut (aget (grN l j) l[j]!.th) l[j]!);rw[←hpp,←hg,gb];rfl)⟩
   ·refine go ?_;refine al H ti29 fun g72 z H=> ?_;refine st H 0 ti29 fun z H=> ?_;obtain rfl:j=l.length:=Om;have H:=H.nilRow 55 Pk.c 4;refine go ?_;refine sb [70,4,8,12,68,69] ?_;refine WC.loopS 1 (fun mz Ed W'=>∃i:Nat,∃v:Value,∃os:List Pk,mz=n_ths-i∧Ed=[(70,.int .i64 ((i:Nat):Int))]∧Hp w W' (row 55 Pk.c 4 v os::box g72 29 [.slice A_ths n_ths c_ths,.slice A_ds n_ds c_ds,.slice A_sn n_sn c_sn,v]::_::_::_::_::[])∧(i≤n_ths)∧(∀p∈os,∃x∈gl,p∈x.ps)∧(os.map Pk.pp=lgN ths l i)∧(os.length≤1000*i)) _ ⟨0,_,[],rfl,rfl,(H.pick [0,0,0,0,0,0]),(Nat.zero_le _),(fun p hp=>by cases hp),rfl,(Nat.zero_le _)⟩ ?_;rintro _ _ z ⟨i,v,os,rfl,rfl,H,il,ho,hN,hol⟩;have gok:=hg▸grN_ok hkl l.length Nl;refine go ?_;refine Cd (fun p79=> ?_) fun p79=> ?_
    ·have b82:i<n_ths:=Om;refine go ?_;refine al H ti68 fun g83 z H=> ?_;refine st H 0 ti68 fun z H=> ?_;refine G7 ?_;rcases hq:mget (gl.map grM) ths[i]!.id with _|v1
     ·obtain⟨ga,gb,gc⟩:=gr_none hq;refine yy (Yld.cast (Y.lookup rfl u174 u3 ti27 rfl rfl (fun _ h=>h▸(H.mi 4))) (by unfold mval;rw[hq];first|done|rfl)) ?_;refine apl H 1 rfl (Ls.nil (show 0≤maxLen by decide)) u27 ti55 Pk.one (room_le hol (Nat.zero_le 0) Om) fun v85 z H=> ?_;obtain⟨A86,n87,c88,rfl,_,_,_⟩:=H.op 1;refine go ?_;refine st H 2 ti27 fun z H=> ?_;refine go ?_;exact Rs [(70,_)] Sx ⟨(i+1),(.slice A86 n87 c88),(os++[]),rfl,rfl,(H.pick [1,1,1,1,1,1]),Om,(fun p hp=>(List.mem_append.1 hp).elim (ho p) fun h=>by cases h),(by rw[List.map_append,hN];show _=lgN ths l i++aget (grN l l.length) _;rw[←hg,ga];first|done|rfl),(by rw[List.length_append];show os.length+0≤_;omega)⟩
     ·obtain⟨k,gi,gid,rfl,ga,gb,gc⟩:=gr_some hq;have hgm:=mem_b gi;obtain⟨⟨id,A,n,c,ps⟩,hx⟩:∃x,gl[k]! =x:=⟨_,rfl⟩;rw[hx]at gid ga hq hgm;dsimp only at gid ga hq;have H:=H.front [3];have H:Hp w _ (row 55 Pk.c 4 (.slice A n c) ps::big poF ps::hole grF gl (k)::_):=Hp.bigOutX grF ⟨id,A,n,c,ps⟩ hx H gi;have lp:ps.length≤1000:=by have:=(gok _ (List.mem_map_of_mem hgm)).1;rw[show(grP ⟨id,A,n,c,ps⟩).2=ps.map Pk.pp from rfl,List.length_map]at this;omega
      refine yy (Yld.cast (Y.lookup rfl u174 u3 ti27 rfl rfl (fun _ h=>h▸(H.mi 6))) (by unfold mval;rw[hq];first|done|rfl)) ?_;refine apl H 4 rfl (H.l 0) u27 ti55 Pk.one (room_le hol lp Om) fun v92 z H=> ?_;obtain⟨A93,n94,c95,rfl,_,_,_⟩:=H.op 4;refine go ?_;refine st H 5 ti27 fun z H=> ?_;have H:Hp w _ (big grF gl::_):=Hp.bigBack grF ⟨id,A,n,c,ps⟩ hx H gi;refine go ?_;exact Rs [(70,_)] Sx ⟨(i+1),(.slice A93 n94 c95),(os++ps),rfl,rfl,(H.pick [2,2,0,1,1,1]),Om,(fun p hp=>(List.mem_append.1 hp).elim (ho p) fun h=>⟨_,hgm,h⟩),(by rw[List.map_append,hN];show _=lgN ths l i++aget (grN l l.length) _;rw[←hg,ga];first|done|rfl),(by rw[List.length_append];omega)⟩
    ·obtain⟨A97,n98,c99,rfl,_,_,_⟩:=H.op 0;refine G5 ?_;refine sb [4,12] ?_;refine go ?_;refine st H 4 ti29 fun z H=> ?_;refine go ?_;refine WK.ret [_,_] rfl ⟨⟨_,rfl,run_loadVar_blk u29 rfl ti29 (H.b 4)⟩,rfl,trivial⟩ ?_;exact⟨_,_,_,_,(by rw[show ofE ths ds sn l=0 from(ite_no (fun q=>q p9) (Decidable.of_not_not (fun q=>q p14)))];exact rfl),H.ext,fun _=>⟨A97,n98,c99,os,gl,rfl,rfl,rfl,rfl,(H.pick [0,1]),ho,by rw[hN];unfold lgParts;congr 1;omega⟩,fun h=>absurd (show ofE ths ds sn l=0 from(ite_no (fun q=>q p9) (Decidable.of_not_not (fun q=>q p14)))) h⟩
theorem lgOf_any(A_ths:Option Addr)(n_ths c_ths:Nat)(ths:List Th)(A_ds:Option Addr)(n_ds c_ds:Nat)(ds:List Dm)(A_sn:Option Addr)(n_sn c_sn:Nat)(sn:List Sn)(A_l:Option Addr)(n_l c_l:Nat)(l:List Pk)(w:World)(h_ths:Ls w A_ths n_ths c_ths Th.c 3 ths)(h_ds:Ls w A_ds n_ds c_ds Dm.c 2 ds)(h_sn:Ls w A_sn n_sn c_sn Sn.c 5 sn)(h_l:Ls w A_l n_l c_l Pk.c 4 l)(g_l:PksOk w l)(hk:∀x∈l,x.k≤1000000)(hl:n_l≤1000)(ht:n_ths≤1000)(he:evsum l l.length≤1000):
  Calls Tryz.prog 22 #[.agg #[.slice A_ths n_ths c_ths,.slice A_ds n_ds c_ds,.slice A_sn n_sn c_sn],.slice A_l n_l c_l] w fun e w'=>∃x1 x2 x3 x4,e= .returned (.tuple #[.agg #[x1,x2,x3,x4],.int .i64 (ofE ths ds sn l)])∧Ext w w'∧(ofE ths ds sn l=0→∃A n c ps,x1= .slice A_ths n_ths c_ths∧x2= .slice A_ds n_ds c_ds∧x3= .slice A_sn n_sn c_sn∧x4= .slice A n c∧Ls w' A n c Pk.c 4 ps∧PksOk w' ps∧ps.map Pk.pp=lgParts ths l)∧(ofE ths ds sn l≠0→x1= .slice none 0 0∧x2= .slice none 0 0∧x3= .slice none 0 0∧x4= .slice none 0 0):=
 (lgOfH_any _ _ _ ths _ _ _ ds _ _ _ sn _ _ _ l w h_ths h_ds h_sn h_l g_l hk hl ht he).mono fun e w' h=>by
  obtain⟨x1,x2,x3,x4,he',hx,h1,h2⟩:=h;refine⟨x1,x2,x3,x4,he',hx,fun q=> ?_,h2⟩;obtain⟨A,n,c,ps,gl,e1,e2,e3,e4,K,ho,hN⟩:=h1 q;refine⟨A,n,c,ps,e1,e2,e3,e4,K.l 0,fun p hp=> ?_,hN⟩;obtain⟨x,hx',hpx⟩:=ho p hp;refine⟨gr_ls (K.get (k:=1) rfl) hx' hpx,fun e he=> ?_⟩;obtain⟨p2,h3,h4⟩:=lgN_es (ths:=ths) (fun p hp=>(g_l p hp).l.len) ths.length p.pp (by rw[show lgN ths l ths.length=lgParts ths l from rfl,←hN];exact List.mem_map_of_mem hp) e he;exact((g_l _ h3).ext hx).e e h4
theorem thSame_refl(x:Th):thSame x x=true:=by grind [thSame,beqB_self]
theorem dmSame_refl(x:Dm):dmSame x x=true:=by unfold dmSame;simp
theorem snSame_refl(x:Sn):snSame x x=true:=by unfold snSame;simp
theorem lg_same{t:List Th}{d:List Dm}{s:List Sn}{l m:List Pk}:lgSame t t d d s s l m=eqW ppSame (l.map Pk.pp) (m.map Pk.pp):=by
 unfold lgSame;rw[eqW_refl thSame_refl,eqW_refl dmSame_refl,eqW_refl snSame_refl];exact eqW_map (p:=ppSame) Pk.pp l m
structure Ix where(th sr:Int)
instance:Inhabited Ix:=⟨⟨0,0⟩⟩
def Ix.c(x:Ix):List Value:=[.int .i64 x.th,.int .i64 x.sr]
theorem Ix.one(x:Ix):∀u∈x.c,u.oneCell'=true:=by simp[Ix.c,Value.oneCell']
def idsK(p:Pk)(i:Nat):List Ix:=(List.range i).map fun k:Nat=>⟨p.th,p.sr+(k:Int)⟩
theorem idsK_next(p:Pk)(i:Nat):idsK p (i+1)=idsK p i++[⟨p.th,p.sr+(i:Int)⟩]:=by simp_all [idsK,List.range_succ,List.map_append]
theorem idsK_len(p:Pk)(i:Nat):(idsK p i).length=i:=by simp[idsK]
def idsN(l:List Pk)(j:Nat):List Ix:=fN (fun out p=>out++idsK p p.k) [] l j
theorem idsN_next(l:List Pk)(j:Nat):idsN l (j+1)=idsN l j++idsK l[j]! l[j]!.k:=rfl
theorem idsN_len{l:List Pk}:∀j,(idsN l j).length=evsum l j
 |0=>rfl
 |j+1=>by rw[idsN_next,List.length_append,idsK_len,idsN_len j,evsum_mono]
def idsOf(l:List Pk):List Ix:=idsN l l.length
def idsF(ths:List Th)(d:List Dm)(s:List Sn)(l:List Pk):List Ix:=if lgE ths d s l≠0 then[]else idsOf l
theorem idsF_bad{ths:List Th}{d:List Dm}{s:List Sn}{l:List Pk}(h:lgE ths d s l≠0):idsF ths d s l=[]:=if_pos h
theorem idsF_ok{ths:List Th}{d:List Dm}{s:List Sn}{l:List Pk}(h:lgE ths d s l=0):idsF ths d s l=idsOf l:=if_neg (not_not_intro h)
theorem lg_pk{ths:List Th}{d:List Dm}{s:List Sn}{l:List Pk}(h:lgE ths d s l=0):ofE ths d s l=0∧eqW ppSame (lgParts ths l) (l.map Pk.pp)=true:=by
 unfold lgE at h;grind
theorem of_zero{ths:List Th}{d:List Dm}{s:List Sn}{l:List Pk}(h:ofE ths d s l=0):hdE ths d s=0∧lchE (ths.map (·.id)) l=0:=by
 unfold ofE at h;omega
theorem lch_zero{ids:List Int}{l:List Pk}(h:lchE ids l=0):∀j,j<l.length→lch1 ids l j=0:=by
 unfold lchE at h;split at h<;>simp_all [absurd,fE_ok,Decidable.of_not_not]
theorem lg_pkok{ths:List Th}{d:List Dm}{s:List Sn}{l:List Pk}(h:lgE ths d s l=0):∀p∈l,PkOk p:=by
 intro p hp;obtain⟨j,hj,e⟩:=List.mem_iff_getElem.1 hp;have:=lch_zero (of_zero (lg_pk h).1).2 j hj;have h2:tlE (ths.map (·.id)) (tlN (ths.map (·.id)) l j) l[j]! =0:=this;unfold tlE at h2;split at h2<;>simp_all [absurd,bang_eq,pk_ok,Decidable.of_not_not]
theorem lgcheck_any(A_ta:Option Addr)(n_ta c_ta:Nat)(ta:List Th)(A_da:Option Addr)(n_da c_da:Nat)(da:List Dm)(A_na:Option Addr)(n_na c_na:Nat)(na:List Sn)(A_pa:Option Addr)(n_pa c_pa:Nat)(pa:List Pk)(w:World)(h_ta:Ls w A_ta n_ta c_ta Th.c 3 ta)(h_da:Ls w A_da n_da c_da Dm.c 2 da)(h_na:Ls w A_na n_na c_na Sn.c 5 na)(h_pa:Ls w A_pa n_pa c_pa Pk.c 4 pa)(g_pa:PksOk w pa)(hk:∀x∈pa,x.k≤1000000)(hl:n_pa≤1000)(ht:n_ta≤1000)(he:evsum pa pa.length≤1000):
  Cr 12 #[.agg #[.slice A_ta n_ta c_ta,.slice A_da n_da c_da,.slice A_na n_na c_na,.slice A_pa n_pa c_pa]] w (.int .i64 (lgE ta da na pa)):=by
 have H:=(Hp.nil w);have e_ta:=h_ta.len;have z_ta:=h_ta.nle;have e_da:=h_da.len;have z_da:=h_da.nle;have e_na:=h_na.len;have z_na:=h_na.nle;have e_pa:=h_pa.len;have z_pa:=h_pa.nle;refine Wb Tryz.func12 ?_;refine go ?_;refine bx H fun g2 z H=> ?_;refine go ?_;refine c3 Fh (lgOf_any _ _ _ _ _ _ _ _ _ _ _ _ _ _ _ _ _ (h_ta.ext H.ext) (h_da.ext H.ext) (h_na.ext H.ext) (h_pa.ext H.ext) (g_pa.ext H.ext) hk Om Om he) ?_;rintro _ w1 ⟨x1,x2,x3,x4,rfl,x,hof,hno⟩;have H:=H.ex x;have X0:=H.ext;have h_ta:=h_ta.ext X0;have h_da:=h_da.ext X0;have h_na:=h_na.ext X0;have h_pa:=h_pa.ext X0;have g_pa:=g_pa.ext X0;have B0:=H.b 0;have H:=Hp.nil w1;refine⟨_,rfl,?_⟩;refine G1 ?_;by_cases h0:ofE ta da na pa=0
 ·obtain⟨A9,n9,c9,ps,rfl,rfl,rfl,rfl,hL,hO,hps⟩:=hof h0;have e9:=hL.len;have z9:=hL.nle;refine go ?_;refine al H ti29 fun g5 z H=> ?_;refine st H 0 ti29 fun z H=> ?_;refine G5 ?_;refine yy (Yld.cast (Y.eql rfl rfl rfl) (vb (by rw[h0];first|done|rfl))) ?_;refine G1 ?_;refine WL.yldW rfl (blt rfl) rfl rfl rfl (Y.loadS rfl u29 rfl ti29 rfl (Blk.row_eq (H.b 0))) ?_;refine WL.yldW rfl (blt rfl) rfl rfl rfl (Y.loadS rfl u29 rfl ti29 rfl (Blk.row_eq (B0.ext H.ext))) ?_;refine WL.guarded rfl rfl rfl ?_;refine c1 H Fh (lgsame_any _ _ _ _ _ _ _ _ _ _ _ _ _ _ _ _ _ _ _ _ _ _ _ _ _ _ _ _ _ _ _ _ _ (h_ta.ext H.ext) (h_da.ext H.ext) (h_na.ext H.ext) (hL.ext H.ext) (hO.ext H.ext) (h_ta.ext H.ext) (h_da.ext H.ext) (h_na.ext H.ext) (h_pa.ext H.ext) (g_pa.ext H.ext)) fun z H=> ?_;refine G1 ?_;refine yy (Y.pickT rfl rfl rfl) ?_;refine go ?_;refine WC.cond rfl (fun h9=> ?_) (fun h9=> ?_)
  ·refine go ?_;refine Rt [_] ?_;exact⟨ret1 (vi (Eq.symm (if_pos ⟨h0,by rw[←hps,←lg_same];exact not_t h9⟩))),X0.trans H.ext⟩
  ·refine go ?_;refine Rt [_] ?_;exact⟨ret1 (vi (Eq.symm (if_neg fun q=>absurd q.2 (by rw[←hps,←lg_same,not_f h9];decide)))),X0.trans H.ext⟩
 ·obtain⟨rfl,rfl,rfl,rfl⟩:=hno h0;refine go ?_;refine al H ti29 fun g12 z H=> ?_;refine st H 0 ti29 fun z H=> ?_;refine G5 ?_;refine yy (Yld.cast (Y.eql rfl rfl rfl) (vb (beq_false_of_ne h0))) ?_;refine G5 ?_;refine yy (Y.pickF rfl rfl rfl) ?_;refine G1 ?_;refine sb [4,20] ?_;refine WC.condF rfl ?_;refine go ?_;refine Rt [_] ?_;exact⟨ret1 (vi (Eq.symm (if_neg fun q=>h0 q.1))),X0.trans H.ext⟩
theorem ids_any(A_ta:Option Addr)(n_ta c_ta:Nat)(ta:List Th)(A_da:Option Addr)(n_da c_da:Nat)(da:List Dm)(A_na:Option Addr)(n_na c_na:Nat)(na:List Sn)(A_pa:Option Addr)(n_pa c_pa:Nat)(pa:List Pk)(w:World)(h_ta:Ls w A_ta n_ta c_ta Th.c 3 ta)(h_da:Ls w A_da n_da c_da Dm.c 2 da)(h_na:Ls w A_na n_na c_na Sn.c 5 na)(h_pa:Ls w A_pa n_pa c_pa Pk.c 4 pa)(g_pa:PksOk w pa)(hk:∀x∈pa,x.k≤1000000)(hl:n_pa≤1000)(ht:n_ta≤1000)(he:evsum pa pa.length≤1000):
  Calls Tryz.prog 191 #[.agg #[.slice A_ta n_ta c_ta,.slice A_da n_da c_da,.slice A_na n_na c_na,.slice A_pa n_pa c_pa]] w fun e w'=>∃v,e= .returned v∧OwnL w' w.heap.size 105 Ix.c 2 v (idsF ta da na pa)∧Ext w w':=by
 have H:=(Hp.nil w);have e_ta:=h_ta.len;have z_ta:=h_ta.nle;have e_da:=h_da.len;have z_da:=h_da.nle;have e_na:=h_na.len;have z_na:=h_na.nle;have e_pa:=h_pa.len;have z_pa:=h_pa.nle;have hkl:∀p∈pa,p.es.length=p.k:=fun p hp=>(g_pa p hp).l.len;refine Wb Tryz.func191 ?_;refine go ?_;refine bx H fun g2 z H=> ?_;refine go ?_;refine c1 H Fh (lgcheck_any _ _ _ _ _ _ _ _ _ _ _ _ _ _ _ _ _ (h_ta.ext H.ext) (h_da.ext H.ext) (h_na.ext H.ext) (h_pa.ext H.ext) (g_pa.ext H.ext) hk Om Om he) fun z H=> ?_;refine go ?_;refine Cd (fun p6=> ?_) fun p6=> ?_
 ·refine go ?_;refine Rt [_] ?_;exact⟨_,rfl,(by rw[idsF_bad p6];exact OwnL.nil_),H.ext⟩
 ·have pkok:=lg_pkok (Decidable.of_not_not (fun q=>q p6));have H:=H.nilRow 105 Ix.c 2;refine go ?_;refine sb [13,3,11,12] ?_;refine WC.loopS 2 (fun mz Ed W'=>∃j:Nat,∃v:Value,mz=n_pa-j∧Ed=[(13,.int .i64 ((j:Nat):Int)),(3,v)]∧Hp w W' (row 105 Ix.c 2 v (idsN pa j)::_::[])∧(j≤n_pa)) _ ⟨0,_,rfl,rfl,(H.pick [0,0]),(Nat.zero_le _)⟩ ?_;rintro _ _ z ⟨j,v,rfl,rfl,H,jl⟩;have il:=idsN_len (l:=pa) j;refine go ?_;refine Cd (fun p15=> ?_) fun p15=> ?_
  ·have hmj:=mem_b (show j<pa.length by omega);have ok:=pkok _ hmj;have eu:=evsum_le_all pa j pa.length Om;have b18:j<n_pa:=Om;refine go ?_;refine al H ti55 fun g19 z H=> ?_;refine st H 0 ti55 fun z H=> ?_;refine go ?_;refine sb [20,3,5,11,12,13,19] ?_;refine WC.loopS 2 (fun mz Ed W'=>∃i:Nat,∃v':Value,mz=pa[j]!.k-i∧Ed=[(20,.int .i64 ((i:Nat):Int)),(3,v')]∧Hp w W' (_::row 105 Ix.c 2 v' (idsN pa j++idsK pa[j]! i)::_::[])∧(i≤pa[j]!.k)) _ ⟨0,_,rfl,rfl,(by rw[show idsK pa[j]! 0=[]from rfl,List.append_nil];exact(H.pick [0,0,0])),(Nat.zero_le _)⟩ ?_;rintro _ _ z ⟨i,v',rfl,rfl,H,il⟩;have kl:=idsK_len pa[j]! i;refine go ?_;refine Cd (fun p24=> ?_) fun p24=> ?_
   ·have eu2:=Nat.le_trans (evsum_le_all pa (j+1) pa.length Om) he;rw[evsum_mono]at eu2;have o1:=ok.sr;have o2:=ok.to;refine go ?_;refine bs1 H u297 ti105 fun g27 z H=> ?_;refine ap H 2 0 rfl [⟨pa[j]!.th,pa[j]!.sr+(i:Int)⟩] u297 ti105 rfl Ix.one (by simp only[List.length_append,List.length_cons,List.length_nil];omega) fun v29 z H=> ?_;refine go ?_;exact Rs [(20,_),(3,_)] Sx ⟨(i+1),v29,rfl,rfl,(by rw[idsK_next,←List.append_assoc];exact(H.pick [1,1,1])),Om⟩
   ·refine go ?_;exact Rs [(13,_),(3,_)] Sx ⟨(j+1),v',rfl,rfl,(by rw[show idsN pa (j+1)=idsN pa j++idsK pa[j]! i from by rw[idsN_next];congr 2;omega];exact(H.pick [1,1])),Om⟩
  ·refine G9 ?_;refine sb [2] ?_;refine go ?_;refine Rt [_] ?_;exact⟨_,rfl,(by rw[idsF_ok (Decidable.of_not_not (fun q=>q p6)),show idsOf pa=idsN pa j from by unfold idsOf;congr 1;omega];exact H.out 0),H.ext⟩
end TW
end Go.Proofs.YtaclfjjipnpboaaGreatDoor
end
namespace Go.Proofs.YtaclfjjipnpboaaGreatDoor
open Go Go.Shelf Go.RowKit Go.Lib Go.Sort Go.Proofs Go.Eng
def Tryz.lays217_ren:Go.Shelf.Ren:=⟨fun|189=>217|125=>239|257=>238|128=>258|129=>205|294=>249|295=>250|296=>251|297=>252|298=>253|299=>254|216=>255|300=>256|301=>257|328=>266|329=>267|330=>268|331=>269|332=>270|215=>140|343=>274|n=>n,fun|28=>81|3=>3|46=>333|0=>0|51=>338|53=>317|4=>4|183=>387|182=>386|131=>215|5=>5|9=>9|218=>405|222=>409|228=>414|229=>415|n=>n,fun|n=>n⟩
theorem Tryz.lays217:Go.Proofs.Lays.n189 Tryz.prog Tryz.lays217_ren:={
 mixed:=by rfl
 f125:=Tryz.func239.trans (congrArg some (by rfl))
 f128:=Tryz.func258.trans (congrArg some (by rfl))
 f129:=Tryz.func205.trans (congrArg some (by rfl))
 f189:=Tryz.func217.trans (congrArg some (by rfl))
 f215:=Tryz.func140.trans (congrArg some (by rfl))
 f216:=Tryz.func255.trans (congrArg some (by rfl))
 f257:=Tryz.func238.trans (congrArg some (by rfl))
 f294:=Tryz.func249.trans (congrArg some (by rfl))
 f295:=Tryz.func250.trans (congrArg some (by rfl))
 f296:=Tryz.func251.trans (congrArg some (by rfl))
 f297:=Tryz.func252.trans (congrArg some (by rfl))
 f298:=Tryz.func253.trans (congrArg some (by rfl))
 f299:=Tryz.func254.trans (congrArg some (by rfl))
 f300:=Tryz.func256.trans (congrArg some (by rfl))
 f301:=Tryz.func257.trans (congrArg some (by rfl))
 f328:=Tryz.func266.trans (congrArg some (by rfl))
 f329:=Tryz.func267.trans (congrArg some (by rfl))
 f330:=Tryz.func268.trans (congrArg some (by rfl))
 f331:=Tryz.func269.trans (congrArg some (by rfl))
 f332:=Tryz.func270.trans (congrArg some (by rfl))
 f343:=Tryz.func274.trans (congrArg some (by rfl))
 t0:=Tryz.underlying0
 a0:=Tryz.isAgg0
 z0:=Tryz.sizeOf0
 v0:=Tryz.zeroValue0
 t3:=Tryz.underlying3
 a3:=Tryz.isAgg3
 z3:=Tryz.sizeOf3
 v3:=Tryz.zeroValue3
 t4:=Tryz.underlying4
 a4:=Tryz.isAgg4
 z4:=Tryz.sizeOf4
 v4:=Tryz.zeroValue4
 t5:=Tryz.underlying5
 a5:=Tryz.isAgg5
 z5:=Tryz.sizeOf5
 v5:=Tryz.zeroValue5
 t9:=Tryz.underlying9
 a9:=Tryz.isAgg9
 z9:=Tryz.sizeOf9
 v9:=Tryz.zeroValue9
 t28:=Tryz.underlying81
 a28:=Tryz.isAgg81
 z28:=Tryz.sizeOf81
 v28:=Tryz.zeroValue81
 t46:=Tryz.underlying333
 a46:=Tryz.isAgg333
 z46:=Tryz.sizeOf333
 v46:=Tryz.zeroValue333
 t51:=Tryz.underlying338
 a51:=Tryz.isAgg338
 z51:=Tryz.sizeOf338
 v51:=Tryz.zeroValue338
 t53:=Tryz.underlying317
 a53:=Tryz.isAgg317
 z53:=Tryz.sizeOf317
 v53:=Tryz.zeroValue317
 t131:=Tryz.underlying215
 a131:=Tryz.isAgg215
 z131:=Tryz.sizeOf215
 v131:=Tryz.zeroValue215
 t182:=Tryz.underlying386
 a182:=Tryz.isAgg386
 z182:=Tryz.sizeOf386
 v182:=Tryz.zeroValue386
 t183:=Tryz.underlying387
 a183:=Tryz.isAgg387
 z183:=Tryz.sizeOf387
 v183:=Tryz.zeroValue387
 t218:=Tryz.underlying405
 a218:=Tryz.isAgg405
 z218:=Tryz.sizeOf405
 v218:=Tryz.zeroValue405
 t222:=Tryz.underlying409
 a222:=Tryz.isAgg409
 z222:=Tryz.sizeOf409
 v222:=Tryz.zeroValue409
 t228:=Tryz.underlying414
 a228:=Tryz.isAgg414
 z228:=Tryz.sizeOf414
 v228:=Tryz.zeroValue414
 t229:=Tryz.underlying415
 a229:=Tryz.isAgg415
 z229:=Tryz.sizeOf415
 v229:=Tryz.zeroValue415}
def Tryz.lays218_ren:Go.Shelf.Ren:=⟨fun|20=>218|n=>n,fun|22=>81|3=>3|4=>4|0=>0|n=>n,fun|n=>n⟩
theorem Tryz.lays218:Go.Proofs.Lays2.n20 Tryz.prog Tryz.lays218_ren:={
 mixed:=by rfl
 f20:=Tryz.func218.trans (congrArg some (by rfl))
 t0:=Tryz.underlying0
 a0:=Tryz.isAgg0
 z0:=Tryz.sizeOf0
 v0:=Tryz.zeroValue0
 t3:=Tryz.underlying3
 a3:=Tryz.isAgg3
 z3:=Tryz.sizeOf3
 v3:=Tryz.zeroValue3
 t4:=Tryz.underlying4
 a4:=Tryz.isAgg4
 z4:=Tryz.sizeOf4
 v4:=Tryz.zeroValue4
 t22:=Tryz.underlying81
 a22:=Tryz.isAgg81
 z22:=Tryz.sizeOf81
 v22:=Tryz.zeroValue81
 i3:=by kernel_rfl}
namespace TW
def srtI(zs:List Int):List Int:=zs.mergeSort fun x y=>decide (x≤y)
theorem srtI_len(zs:List Int):(srtI zs).length=zs.length:=List.length_mergeSort ..
theorem flat_ic(l:List Int):l.flatMap ic=l.map (Value.int .i64):=by
 induction l with
 |nil=>rfl
 |cons x r ih=>simp[ic,ih]
theorem sort_row(v:Value)(base:Nat)(l:List Int)(w:World)(ow:OwnL w base 3 ic 1 v l)(hl:l.length≤100000):Calls Tryz.prog 217 #[v] w fun e w'=>e= .returned (.tuple #[])∧OwnL w' base 3 ic 1 v (srtI l)∧Gr w w' v.ownBlock:=by
 have hs:srtI l=l.mergeSort fun x y=>decide (x≤y):=rfl;have hlen:=srtI_len l;have ow0:=ow;rcases ow.2 with⟨rfl,h0⟩|⟨g,cap,cur,rfl,h1,h2,h3,h4,h5,h6⟩
 ·refine(Any.slices_Sort_int_none Tryz.lays217 none 0 w).mono fun e w' ⟨he,hw⟩=> ?_;simp_all [List.nil,List.eq_nil_of_length_eq_zero,And.intro,srtI,Gr.refl]
 ·have h6':cur.toList.take l.length=l.map (Value.int .i64):=by simp_all [flat_ic,Nat.mul_one]
  have hg:g<w.heap.size:=(Array.getElem?_eq_some_iff.1 h2).1;refine(Any.slices_Sort_int Tryz.lays217 g 0 cap l w (holds_of_blockI h2 h6') hg Om).mono fun e w' hw=> ?_;obtain⟨he,n,os,rfl⟩:=hw;refine⟨he,?_,⟨grownBy_sortedI _,Dle.of (Nat.le_add_right _ _)⟩⟩;grind [ownsRow_sortedI,srtI,OwnL,flat_ic]
theorem compact_le(l:List Int):(Lib.compact l).length≤l.length:=by
 grind [Lib.compact,Lib.compactUpTo,List.length_map,Nat.le_trans,List.length_filter_le]
theorem compact_row(v:Value)(base:Nat)(l:List Int)(w:World)(ow:OwnL w base 3 ic 1 v l)(hl:l.length≤100000):Calls Tryz.prog 218 #[v] w fun e w'=>∃v',e= .returned v'∧OwnL w' base 3 ic 1 v' (Lib.compact l)∧Gr w w' v.ownBlock∧v'.ownBlock=v.ownBlock:=by
 have ow0:=ow;by_cases hn:l=[]
 ·subst hn;have hc:Lib.compact ([]:List Int)=[]:=rfl;rcases ow.2 with⟨rfl,h0⟩|⟨g,cap,cur,rfl,h1,h2,h3,h4,h5,h6⟩
  ·refine(Any.slices_Compact_int_empty Tryz.lays218 none 0 w).mono fun e w' ⟨he,hw⟩=> ?_;subst hw;exact⟨_,he,by grind,Gr.refl _ _,rfl⟩
  ·refine(Any.slices_Compact_int_empty Tryz.lays218 (some ⟨g,0,none⟩) cap w).mono fun e w' ⟨he,hw⟩=> ?_;subst hw;exact⟨_,he,by grind,Gr.refl _ _,rfl⟩
 ·have hp:0<l.length:=List.length_pos_iff.2 hn;rcases ow.2 with⟨rfl,h0⟩|⟨g,cap,cur,rfl,h1,h2,h3,h4,h5,h6⟩
  ·omega
  ·have h6':cur.toList.take l.length=l.map (Value.int .i64):=by simp_all [flat_ic,Nat.mul_one]
   have hle:=compact_le l;refine(Any.slices_Compact_int Tryz.lays218 g 0 cap l w (holds_of_blockI h2 h6') Om h3).mono fun e w' hw=> ?_;obtain⟨he,n,hw⟩:=hw;have hts:(Lib.compact l++List.replicate (l.length-(Lib.compact l).length) 0).length=l.length:=by grind
   have hg:=grownBy_sortedI (w:=w) (g:=g) (n:=n) (os:= #[]) (Lib.compact l++List.replicate (l.length-(Lib.compact l).length) 0).toArray;have ho:=ownsRow_sortedI (w:=w) (os:= #[]) (n:=n) (base:=base) (ss:=l) (ts:=Lib.compact l++List.replicate (l.length-(Lib.compact l).length) 0) hts h1 h2 h3 h4 (by rw[h5]);rw[grow_empty,←hw]at hg ho;refine⟨_,he,?_,⟨hg,by grind⟩,rfl⟩;have ho':=ho.2;rcases ho' with⟨hv,_⟩|⟨g',cap',cur',hv,e1,e2,e3,e4,e5,e6⟩
   ·cases hv
   ·cases hv;refine⟨by rw[flat_ic];simp,.inr ⟨g,cap,cur',rfl,e1,e2,Nat.le_trans hle e3,e4,e5,?_⟩⟩;rw[flat_ic,Nat.mul_one];rw[Nat.mul_one]at e6;have:cur'.toList.take (Lib.compact l).length=(cur'.toList.take l.length).take (Lib.compact l).length:=by grind
    grind
theorem sortI_any(v:Value)(l:List Int)(W:World)(R:List Res)(w:World)(H:Hp W w (row 3 ic 1 v l::R))(hl:l.length≤100000):Calls Tryz.prog 217 #[v] w fun e w'=>e= .returned (.tuple #[])∧Hp W w' (row 3 ic 1 v (srtI l)::R):=
 (sort_row v 0 l w H.head hl).mono fun e w' h=>⟨h.1,H.grown Put.here h.2.2 h.2.1 (.inl rfl)⟩
theorem compactI_any(v:Value)(l:List Int)(W:World)(R:List Res)(w:World)(H:Hp W w (row 3 ic 1 v l::R))(hl:l.length≤100000):Calls Tryz.prog 218 #[v] w fun e w'=>∃v',e= .returned v'∧Hp W w' (row 3 ic 1 v' (Lib.compact l)::R):=
 (compact_row v 0 l w H.head hl).mono fun e w' ⟨v',he,ow,gr,hb⟩=>⟨v',he,H.grown Put.here gr ow (.inl hb)⟩
end TW
end Go.Proofs.YtaclfjjipnpboaaGreatDoor
namespace Go.Eng
open Go Go.RowKit
section
variable{P:Program}
theorem run_next_gen(w:World)(ty:TypeId)(it bm since c0:Nat)(seen:Array Nat)(es:Array MapEntry)(clock:Nat)(hi:w.heap[it]? =some (.mapIter (some bm) since seen c0))(hb:w.heap[bm]? =some (.map es clock))(hold:∀x∈es.toList,x.born<since)(hsc:since≤c0):
  ((leftOf es seen).size=0∧(Instr.next (.pointer (some ⟨it,0,none⟩)) false ty).run P w= .ok (.tuple #[.bool false]) w)∨
  ∃e∈(leftOf es seen).toList,∃w1:World,(w1=w∨w1=w.drew)∧(Instr.next (.pointer (some ⟨it,0,none⟩)) false ty).run P w= .ok (.tuple #[.bool true,e.key,e.val]) {w1 with heap:=w1.heap.setIfInBounds it (.mapIter (some bm) since (seen.push e.born) clock)}:=by
 simp only[Instr.next,getObj,Sem.run_bind,Sem.run,hi,hb,Result.andThen,next_test_false seen es since c0 hold hsc,Bool.false_eq_true,if_false];unfold leftOf;have hmem:∀x∈(Array.filter (fun e=> !seen.contains e.born) es).toList,x.born<since:=fun x hx=>hold x (by grind);generalize Array.filter (fun e=> !seen.contains e.born) es=L at hmem ⊢;have e1:L.filter (fun x=>decide (x.born<since))=L:=Array.filter_eq_self.2 (fun x hx=>by grind);have e2:L.filter (fun x=>decide (x.born≥since))= #[]:=by
  simp_all
 simp only[e1,e2,Array.append_empty];by_cases h0:L.size=0
 ·left
  have:L= #[]:=Array.eq_empty_of_size_eq_zero h0;subst this;refine⟨rfl,?_⟩;simp[choose,Sem.run,Question.forced]
 ·right
  have hne:L.isEmpty=false:=by grind
  simp only[hne,Bool.false_eq_true,if_false,Array.empty_append,Array.size_map];have hch:∃(j:Nat) (w1:World),j<L.size∧(w1=w∨w1=w.drew)∧(choose (Question.mapNext L.size)).run P w= .ok j w1:=by
   by_cases hf:L.size≤1
   ·exact⟨0,w,Om,.inl rfl,by simp[choose,Sem.run,Question.forced,hf]⟩
   ·exact⟨_,w.drew,Nat.mod_lt _ Om,.inr rfl,by
     simp only[choose,Sem.run,Question.forced,decide_eq_true_eq,hf,if_false,Question.cut];rfl⟩
  obtain⟨j,w1,hj,hal,hrun⟩:=hch;refine⟨L[j],by simp,w1,hal,?_⟩;have hi1:w1.heap[it]? =some (.mapIter (some bm) since seen c0):=by rcases hal with rfl|rfl<;>exact hi
  have hset:∀o':Obj,(setObj it o').run P w1= .ok () {w1 with heap:=w1.heap.setIfInBounds it o'}:=fun o'=>by
   grind [setObj,Sem.run]
  simp_all
theorem run_entry_gen(w:World)(it bm since:Nat)(seen:Array Nat)(es:Array MapEntry)(clock:Nat)(e:MapEntry)(hi:w.heap[it]? =some (.mapIter (some bm) since (seen.push e.born) clock))(hb:w.heap[bm]? =some (.map es clock))(he:e∈es.toList)(hn:(es.toList.map (·.born)).Nodup):
  (Instr.entry (.pointer (some ⟨it,0,none⟩))).run P w= .ok (.tuple #[e.key,e.val]) w:=by
 have hf:es.find? (·.born==e.born)=some e:=by rw[←Array.find?_toList];grind [find_born]
 simp only[Instr.entry,getObj,Sem.run_bind,Sem.run,hi,hb,Result.andThen,Array.back?_push,bne_self_eq_false,Bool.false_eq_true,if_false,hf];rfl
end
def mrg(it g:Nat)(m:List (Int×Value))(S:List Nat):Res where
 foot b:=b=it∨b=g
 holds w:=it≠g∧∃es clock since c0 seen,w.heap[g]? =some (.map es clock)∧es.toList.map (fun e=>(e.key,e.val))=m.map (fun p=>(.int .i64 p.1,p.2))∧(∀x∈es.toList,x.born<clock)∧(es.toList.map (·.born)).Nodup∧(m.map (·.1)).Nodup∧
  w.heap[it]? =some (.mapIter (some g) since seen c0)∧since≤c0∧(∀x∈es.toList,x.born<since)∧c0≤clock∧seen=(S.reverse.map fun i=>(es.toList[i]?.map (·.born)).getD 0).toArray∧(∀i∈S,i<m.length)∧S.Nodup∧(S≠[]→c0=clock)
 dom w b h hf:=by
  grind
 loc w w' hb h:=by
  simp_all
section
variable{P:Program}{n:Nat}{ops:Array Oper}{Q:Exit→Act→World→Prop}{E:Env}{W w:World}{L L':List Res}{o:Oper}{rest:List Oper}{d:Nat}
theorem drew_only(w:World)(it:Nat)(w1:World)(h:w1=w∨w1=w.drew)(o:Obj):Only it w {w1 with heap:=w1.heap.setIfInBounds it o}:=by
 have hb:∀k,k≠it→({w1 with heap:=w1.heap.setIfInBounds it o}:World).heap[k]? =w1.heap[k]? :=fun k hk=>by
  grind
 rcases h with rfl|rfl
 ·exact⟨rfl,rfl,rfl,by simp,hb,Dle.of Nl⟩
 ·exact⟨rfl,rfl,rfl,by simp_all,hb,Dle.of (Nat.le_add_right _ _)⟩
theorem rg{t kt e g:Nat}{x:Operand}{m:List (Int×Value)}{L':Nat→List Res}(H:Hp W w L)(k:Nat)(hU:P.underlying t=some (.map kt e))(h:∀it w',Hp W w' (L' it)→WL P n ops Q rest ((d,.pointer (some ⟨it,0,none⟩))::E) w')
  (hd:o.dst=some d:=by exact rfl) (hn:d<n:=by exact blt rfl) (hg:o.guard=none:=by exact rfl) (ho:o.op= .range t x:=by exact rfl) (hx:ev E x=some (.map (some g)):=by exact rfl)
  (hk:L[k]? =some (mpi g m):=by exact rfl) (p:∀it,Put (mrg it g m []) k (mpi g m) L (L' it):=by intro it;repeat (first|exact Put.here|apply Put.there)):WL P n ops Q (o::rest) E w:=by
 intro a ha;obtain⟨es,clock,h1,h2,h3,h4,h5⟩:=H.mi k hk;have hg':g<w.heap.size:=(Array.getElem?_eq_some_iff.1 h1).1;have hr:(execOp a.eval o).run P w= .ok (.value (.pointer (some ⟨w.heap.size,0,none⟩))) (w.alloc (.mapIter (some g) clock #[] clock)):=by
  simp[execOp,ho,ha.ev hx,run_range_map w t kt e g es clock hU h1]
 refine wpList_plain hg fun K hK=>wp_of_run hr (hK _ _ ?_);rw[hd];refine h _ _ (H.putD (p w.heap.size) fun M K=>K.turn (by simp_all) (fun b hb _=>heap_alloc_old w _ hb) (K.ext.alloc _) ?_ ?_) _ (ha.put hn _)
 ·refine⟨Om,es,clock,clock,clock,#[],?_,h2,h3,h4,h5,heap_alloc_new w _,Nat.le_refl _,h3,Nat.le_refl _,rfl,by simp,List.nodup_nil,fun h=>absurd rfl h⟩;grind [heap_alloc_old]
 ·rintro b (rfl|rfl)
  ·omega
  ·exact .inl rfl
theorem nx{it g:Nat}{x:Operand}{ty:TypeId}{m:List (Int×Value)}{S:List Nat}{L':Nat→List Res}(H:Hp W w L)(k:Nat)
  (h0:(∀i,i<m.length→i∈S)→∀w',Hp W w' L→WL P n ops Q rest ((d,.tuple #[.bool false])::E) w')
  (h:∀i w',i<m.length→i∉S→Hp W w' (L' i)→WL P n ops Q rest ((d,.tuple #[.bool true,.int .i64 (m[i]!).1,(m[i]!).2])::E) w')
  (hd:o.dst=some d:=by exact rfl) (hn:d<n:=by exact blt rfl) (hg:o.guard=none:=by exact rfl) (ho:o.op= .next x false:=by exact rfl) (hx:ev E x=some (.pointer (some ⟨it,0,none⟩)):=by exact rfl)
  (hk:L[k]? =some (mrg it g m S):=by exact rfl) (p:∀i,Put (mrg it g m (i::S)) k (mrg it g m S) L (L' i):=by intro i;repeat (first|exact Put.here|apply Put.there)):WL P n ops Q (o::rest) E w:=by
 intro a ha;obtain⟨hne,es,clock,since,c0,seen,h1,h2,h3,h4,h5,h6,h7,h8,h8',h9,hS,hSn,hcc⟩:=H.get hk;have hlen:es.toList.length=m.length:=by have:=congrArg List.length h2;grind
 have hborn:∀i,i<m.length→(es.toList[i]?.map (·.born)).getD 0=(es.toList.map (·.born))[i]! :=fun i hi=>by
  grind
 have hmem:∀i,i<m.length→(seen.contains (es.toList.map (·.born))[i]! =true↔i∈S):=by
  intro i hi;rw[h9,Array.contains_iff_mem,List.mem_toArray,List.mem_map];constructor
  ·rintro⟨j,hj,e⟩;have hj':=hS j (List.mem_reverse.1 hj);rw[hborn j hj']at e;rw[bang_eq (by grind),bang_eq (by grind)]at e;have:=(List.getElem_inj h4).1 e;grind
  grind
 rcases run_next_gen (P:=P) w o.type it g since c0 seen es clock h6 h1 h8 h7 with⟨hz,hr⟩|⟨e,he,w1,hw1,hr⟩
 ·have hr:(execOp a.eval o).run P w= .ok (.value (.tuple #[.bool false])) w:=by simp[execOp,ho,ha.ev hx,hr]
  refine wpList_plain hg fun K hK=>wp_of_run hr (hK _ _ ?_);rw[hd];refine h0 (fun i hi=> ?_) w H _ (ha.put hn _);refine(hmem i hi).1 ?_;have hi':i<es.toList.length:=Om;cases hc:seen.contains (es.toList.map (·.born))[i]! with
  |true=>rfl
  |false=>
   exfalso;have:es.toList[i]∈(leftOf es seen).toList:=by
    unfold leftOf;grind
   grind
 ·have hr:(execOp a.eval o).run P w= .ok (.value (.tuple #[.bool true,e.key,e.val])) {w1 with heap:=w1.heap.setIfInBounds it (.mapIter (some g) since (seen.push e.born) clock)}:=by simp[execOp,ho,ha.ev hx,hr]
  obtain⟨he1,he2⟩:=mem_left he;obtain⟨i,hi,hei⟩:=List.mem_iff_getElem.1 he1;have hi':i<m.length:=Om;have hbi:(es.toList.map (·.born))[i]! =e.born:=by grind
  have hiS:i∉S:=fun q=>by
   grind
  have hkv:(e.key,e.val)=(Value.int .i64 (m[i]!).1,(m[i]!).2):=by
   have:=congrArg (fun l=>l[i]?) h2;grind
  have ho':=drew_only w it w1 hw1 (.mapIter (some g) since (seen.push e.born) clock);refine wpList_plain hg fun K hK=>wp_of_run hr (hK _ _ ?_);rw[hd];have hv:=h i _ hi' hiS (H.putD (p i) fun M K=>K.turn (Nat.le_of_eq ho'.size.symm) (fun b _ hb=>ho'.block b fun e=>hb (.inl e)) (K.ext.only ho' (K.own _ List.mem_cons_self it (.inl rfl))) (R':=mrg it g m (i::S)) ?_ fun b hb=>.inl hb)
  ·rw[show e.key=(e.key,e.val).1 from rfl,show e.val=(e.key,e.val).2 from rfl,hkv];exact hv _ (ha.put hn _)
  ·have hit:it<w1.heap.size:=by
    have:=(Array.getElem?_eq_some_iff.1 h6).1;rcases hw1 with rfl|rfl<;>simp_all
   refine⟨hne,es,clock,since,clock,seen.push e.born,(ho'.block g fun q=>hne q.symm).trans h1,h2,h3,h4,h5,?_,Nat.le_trans h7 h8',h8,Nat.le_refl _,?_,?_,?_⟩<;>grind
theorem en{it g i:Nat}{x:Operand}{m:List (Int×Value)}{S:List Nat}(H:Hp W w L)(k:Nat)
  (h:WL P n ops Q rest ((d,.tuple #[.int .i64 (m[i]!).1,(m[i]!).2])::E) w)
  (hd:o.dst=some d:=by exact rfl) (hn:d<n:=by exact blt rfl) (hg:o.guard=none:=by exact rfl) (ho:o.op= .entry x:=by exact rfl) (hx:ev E x=some (.pointer (some ⟨it,0,none⟩)):=by exact rfl)
  (hk:L[k]? =some (mrg it g m (i::S)):=by exact rfl):WL P n ops Q (o::rest) E w:=by
 intro a ha;obtain⟨hne,es,clock,since,c0,seen,h1,h2,h3,h4,h5,h6,h7,h8,h8',h9,hS,hSn,hcc⟩:=H.get hk;have hlen:es.toList.length=m.length:=by have:=congrArg List.length h2;grind
 have hi':=hS i List.mem_cons_self;have hi:i<es.toList.length:=Om;have hsn:seen=((S.reverse.map fun i=>(es.toList[i]?.map (·.born)).getD 0).toArray).push es.toList[i].born:=by
  grind
 rw[hsn,hcc (List.cons_ne_nil _ _)]at h6;have hr:=run_entry_gen (P:=P) w it g since _ es clock es.toList[i] h6 h1 (List.getElem_mem hi) h4;have hkv:(es.toList[i].key,es.toList[i].val)=(Value.int .i64 (m[i]!).1,(m[i]!).2):=by
  have:=congrArg (fun l=>l[i]?) h2;grind
 have hr:(execOp a.eval o).run P w= .ok (.value (.tuple #[es.toList[i].key,es.toList[i].val])) w:=by simp[execOp,ho,ha.ev hx,hr]
 refine wpList_plain hg fun K hK=>wp_of_run hr (hK _ _ ?_);rw[hd,show es.toList[i].key=(es.toList[i].key,es.toList[i].val).1 from rfl,show es.toList[i].val=(es.toList[i].key,es.toList[i].val).2 from rfl,hkv];exact h _ (ha.put hn _)
theorem Hp.unrange{it g:Nat}{m:List (Int×Value)}{S:List Nat}(H:Hp W w (mrg it g m S::L)):Hp W w (mpi g m::L):=by
 refine H.turn Nl (fun _ _ _=>rfl) H.ext ?_ fun b hb=>.inl (.inr hb);obtain⟨hne,es,clock,since,c0,seen,h1,h2,h3,h4,h5,_⟩:=H.head;exact⟨es,clock,h1,h2,h3,h4,h5⟩
theorem nodup_bound:∀(N:Nat) (l:List Nat),l.Nodup→(∀j∈l,j<N)→l.length≤N
 |0,l,_,h=>by
  cases l with
  |nil=>decide
  |cons x r=>exact absurd (h x List.mem_cons_self) (Nat.not_lt_zero x)
 |N+1,l,hn,h=>by
  by_cases q:N∈l
  ·have h1:=nodup_bound N (l.erase N) (hn.erase N) fun j hj=>by
    grind
   grind
  ·have h1:=nodup_bound N l hn fun j hj=>by
    grind
   omega
theorem left_lt{S:List Nat}{i N:Nat}(hi:i<N)(h:i∉S)(hS:S.Nodup)(hb:∀j∈S,j<N):N-(i::S).length<N-S.length:=by
 have hn:(i::S).Nodup:=List.nodup_cons.2 ⟨h,hS⟩;have:(i::S).length≤N:=by
  exact nodup_bound N _ hn fun j hj=>(List.mem_cons.1 hj).elim (fun e=>e▸hi) (hb j)
 grind
end
theorem run_eqNilS{P:Program}{t e:TypeId}{A:Option Addr}{k c:Nat}(hU:P.underlying t=some (.slice e))(w:World):(Op.equal t (.slice A k c) (.slice none 0 0)).run P w= .ok A.isNone w:=by
 unfold Op.equal Op.maxDepth;rw[show(10000:Nat)=9999+1 from rfl];unfold Op.equalIn;cases A<;>simp[run_underlying hU]
namespace Y
variable{P:Program}{o:Oper}{n:Nat}{E:Env}{C:World→Prop}{x:Operand}{t:TypeId}
theorem eqlNilS{t' e:TypeId}{A:Option Addr}{k c:Nat}(ho:o.op= .binOp .eql t x (.const (.slice none 0 0)) t')(hU:P.underlying t=some (.slice e))(hx:ev E x=some (.slice A k c)):Yld P o n E C (.bool A.isNone):=by
 intro a w hA _;have hg:(eqGuard .eql t x (.const (.slice none 0 0)) (.slice A k c) (.slice none 0 0)).run P w= .ok () w:=by
  rfl
 have hb:binOp .eql t (.slice A k c) (.slice none 0 0)=(do pure (.bool ((←Op.equal t (.slice A k c) (.slice none 0 0))))):=rfl;have hc:a.eval (.const (.slice none 0 0))= .slice none 0 0:=rfl;simp only[execOp,ho,hA.ev hx,hc,Sem.run_bind,hg,hb,run_eqNilS hU,Result.andThen_ok,Sem.run_pure]
end Y
theorem none_nil{α:Type}{w:World}{n c sz:Nat}{f:α→List Value}{l:List α}(h:Ls w none n c f sz l):l=[]:=by
 cases l with
 |nil=>rfl
 |cons x r=>
  have:=h.isSome (k:=0) (by have:=h.len;simp at this;omega);cases this
end Go.Eng
namespace Go.Proofs.YtaclfjjipnpboaaGreatDoor
open Go Go.Eng Go.RowKit
namespace TW
def im(m:List (Int×Int)):List (Int×Value):=m.map fun p=>(p.1,.int .i64 p.2)
def iget:List (Int×Int)→Int→Option Int
 |[],_=>none
 |(k,v)::r,i=>if i=k then some v else iget r i
def iset:List (Int×Int)→Int→Int→List (Int×Int)
 |[],i,u=>[(i,u)]
 |(k,v)::r,i,u=>if i=k then(k,u)::r else(k,v)::iset r i u
theorem mget_im:∀(m:List (Int×Int)) (i:Int),mget (im m) i=(iget m i).map (Value.int .i64)
 |[],_=>rfl
 |(k,v)::r,i=>by
  have ih:=mget_im r i;show(if i=k then some (Value.int .i64 v)else mget (im r) i)=(if i=k then some v else iget r i).map _;grind
theorem mset_im:∀(m:List (Int×Int)) (i u:Int),mset (im m) i (.int .i64 u)=im (iset m i u)
 |[],_,_=>rfl
 |(k,v)::r,i,u=>by
  have ih:=mset_im r i u;show(if i=k then(k,Value.int .i64 u)::im r else(k,Value.int .i64 v)::mset (im r) i _)=im (if i=k then(k,u)::r else(k,v)::iset r i u);split
  ·rfl
  ·rw[ih];rfl
theorem mval_im(m:List (Int×Int))(i:Int):mval (im m) i (.int .i64 0)= .int .i64 ((iget m i).getD 0):=by
 simp_all [mval,mget_im,iget]
theorem isSome_im(m:List (Int×Int))(i:Int):(mget (im m) i).isSome=(iget m i).isSome:=by grind [mget_im,iget]
theorem iget_iset:∀(m:List (Int×Int)) (i u j:Int),iget (iset m i u) j=if j=i then some u else iget m j
 |[],i,u,j=>by rfl
 |(k,v)::r,i,u,j=>by
  have ih:=iget_iset r i u j;by_cases h:i=k
  ·simp_all [iset,if_true,iget]
  ·simp only[iset,h,if_false,iget];grind
structure Nx where(A:Option Addr)(n cp:Nat)(l:List Int)
instance:Inhabited Nx:=⟨⟨none,0,0,[]⟩⟩
def Nx.c(x:Nx):List Value:=[.slice x.A x.n x.cp]
theorem Nx.one(x:Nx):∀u∈x.c,u.oneCell'=true:=by simp[Nx.c,Value.oneCell']
abbrev nxF:Nx→List Res:=fun x=>[row 3 ic 1 (.slice x.A x.n x.cp) x.l]
structure Cw where(g gm:Nat)(tA:Option Addr)(tN tC:Nat)(dA:Option Addr)(dN dC:Nat)(sA:Option Addr)(sN sC:Nat)(pA:Option Addr)(pN pC:Nat)(iA:Option Addr)(iN iC:Nat)(eA:Option Addr)(eN eC:Nat)(nA:Option Addr)(nN nC:Nat)
def Cw.cells(x:Cw):List Value:=[.slice x.tA x.tN x.tC,.slice x.dA x.dN x.dC,.slice x.sA x.sN x.sC,.slice x.pA x.pN x.pC,.slice x.iA x.iN x.iC,.map (some x.gm),.slice x.eA x.eN x.eC,.slice x.nA x.nN x.nC]
def atM(ids:List Ix):Nat→PM
 |0=>[]
 |j+1=>pset (atM ids j) (ids[j]!.th,ids[j]!.sr) (.int .i64 (j:Int))
structure Cw.ok(e1:TypeId)(w:World)(x:Cw)(ids:List Ix)(es:List Ev)(N:List (List Int)):Prop where
 b:Blk w x.g e1 x.cells
 i:Ls w x.iA x.iN x.iC Ix.c 2 ids
 e:Ls w x.eA x.eN x.eC Ev.c 6 es
 m:MpP w x.gm (atM ids ids.length)
 n:∃ns:List Nx,Ls w x.nA x.nN x.nC Nx.c 1 ns∧(∀y∈ns,Ls w y.A y.n y.cp ic 1 y.l)∧ns.map Nx.l=N
theorem Cw.ok.ext{e1:TypeId}{w w':World}{x:Cw}{ids:List Ix}{es:List Ev}{N:List (List Int)}(h:x.ok e1 w ids es N)(k:Ext w w'):x.ok e1 w' ids es N:=by
 obtain⟨ns,a,b,c⟩:=h.n;exact⟨h.b.ext k,h.i.ext k,h.e.ext k,h.m.ext k,ns,a.ext k,fun y hy=>(b y hy).ext k,c⟩
def domOf(ths:List Th)(th:Int):Int:=ths[(ixP (fun t=>t.id==th) ths).toNat]!.dom
theorem ixP_lt{α:Type}(p:α→Bool)(l:List α):ixP p l<l.length:=by
 grind [ixP]
def wgt(N:List (List Int))(todo:List Int)(seen:List Bool):Nat:=todo.length+((List.range N.length).map fun k=>if seen[k]! =true then 0 else N[k]!.length).sum
def dfs(N:List (List Int)):Nat→List Int→List Bool→List Bool
 |0,_,s=>s
 |f+1,t,s=>if(t.length:Int)>0 then(if¬s[t[t.length-1]!.toNat]! =true then dfs N f (t.take (t.length-1)++N[t[t.length-1]!.toNat]!) (s.set t[t.length-1]!.toNat true)else dfs N f (t.take (t.length-1)) s)else s
def aftF(N:List (List Int))(i:Nat):List Bool:=dfs N (wgt N N[i]! (List.replicate N.length false)) N[i]! (List.replicate N.length false)
def NOk(N:List (List Int)):Prop:=∀l∈N,(∀x∈l,0≤x∧x<(N.length:Int))∧l.length≤1000
theorem sum_set{N:List (List Int)}{s:List Bool}(k:Nat)(hk:k<N.length)(hs:s.length=N.length)(h:¬s[k]! =true):∀n,n≤N.length→((List.range n).map fun q=>if(s.set k true)[q]! =true then 0 else N[q]!.length).sum+(if k<n then N[k]!.length else 0)=((List.range n).map fun q=>if s[q]! =true then 0 else N[q]!.length).sum
 |0,_=>rfl
 |n+1,hn=>by
  have ih:=sum_set k hk hs h n Om;rw[List.range_succ,List.map_append,List.map_append,List.sum_append,List.sum_append,List.map_singleton,List.map_singleton,List.sum_singleton,List.sum_singleton];grind
theorem wgt_seen{N:List (List Int)}{t:List Int}{s:List Bool}(h:0<t.length):wgt N (t.take (t.length-1)) s+1=wgt N t s:=by
 grind [wgt,List.length_take]
theorem wgt_new{N:List (List Int)}{t:List Int}{s:List Bool}{k:Nat}(h:0<t.length)(hk:k<N.length)(hs:s.length=N.length)(hn:¬s[k]! =true):wgt N (t.take (t.length-1)++N[k]!) (s.set k true)+1=wgt N t s:=by
 have:=sum_set k hk hs hn N.length Nl;rw[if_pos hk]at this;grind [wgt,List.length_append,List.length_take]
theorem sum_le{N:List (List Int)}(s:List Bool)(hN:∀l∈N,l.length≤1000):∀n,n≤N.length→((List.range n).map fun q=>if s[q]! =true then 0 else N[q]!.length).sum≤1000*n
 |0,_=>Nat.le_refl _
 |n+1,hn=>by
  have ih:=sum_le s hN n Om;have:=hN _ (mem_b (show n<N.length from hn));rw[List.range_succ,List.map_append,List.sum_append,List.map_singleton,List.sum_singleton];grind
theorem wgt_le{N:List (List Int)}{t:List Int}(s:List Bool)(hN:∀l∈N,l.length≤1000)(ht:t.length≤1000)(h:N.length≤100):wgt N t s≤101000:=by
 have:=sum_le s hN N.length Nl;grind [wgt]
end TW
end Go.Proofs.YtaclfjjipnpboaaGreatDoor
