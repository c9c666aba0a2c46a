/- Part 10 of the proof. Conditions: what each theorem states. -/
import Derived.Test.YtaclfjjipnpboaaGreatP04
import Derived.Test.YtaclfjjipnpboaaGreatP01
import Derived.Test.YtaclfjjipnpboaaGreatP09
import Derived.Test.YtaclfjjipnpboaaGreatP07
import Derived.Test.YtaclfjjipnpboaaGreatP02
import Derived.Test.YtaclfjjipnpboaaGreatP03
set_option linter.all false
set_option maxHeartbeats 4000000
set_option maxRecDepth 4000
section
attribute [local irreducible] Go.Eng.WC Go.Eng.WL Go.Eng.WK Go.Eng.WQ Go.Eng.WX Go.Eng.Yld
namespace Go.Proofs.YtaclfjjipnpboaaGreat
open Go Go.Eng Go.RowKit
namespace TW
def cwT(X:Cw)(ids:List Ix)(es:List Ev)(ns:List Nx):List Res:=[box X.g 272 X.cells,row 78 Ix.c 2 (.slice X.iA X.iN X.iC) ids,row 81 Ev.c 6 (.slice X.eA X.eN X.eC) es,mpp X.gm (atM ids ids.length),row 65 Nx.c 1 (.slice X.nA X.nN X.nC) ns,big nxF ns]
theorem exam_any(A_ta:Option Addr)(n_ta c_ta:Nat)(ta:List Th)(A_da:Option Addr)(n_da c_da:Nat)(da:List Dm)(A_na:Option Addr)(n_na c_na:Nat)(na:List Sn)(A_pa:Option Addr)(n_pa c_pa:Nat)(pa:List Pk)(w:World)(h_ta:Ls w A_ta n_ta c_ta Th.c 3 ta)(h_da:Ls w A_da n_da c_da Dm.c 2 da)(h_na:Ls w A_na n_na c_na Sn.c 5 na)(h_pa:Ls w A_pa n_pa c_pa Pk.c 4 pa)(g_pa:PksOk w pa)(hk:∀x∈pa,x.k≤1000000)(hl:n_pa≤1000)(ht:n_ta≤1000)(he:evsum pa pa.length≤24):
  Calls Tryz.prog 199 #[.agg #[.slice A_ta n_ta c_ta,.slice A_da n_da c_da,.slice A_na n_na c_na,.slice A_pa n_pa c_pa]] w fun e w'=>∃pv,e= .returned (.tuple #[pv,.int .i64 (exE ta da na pa)])∧Ext w w'∧(exE ta da na pa≠0→pv= .pointer none)∧(exE ta da na pa=0→∃(X:Cw) (ns:List Nx),pv= .pointer (some ⟨X.g,0,none⟩)∧(X.tA=A_ta∧X.tN=n_ta∧X.tC=c_ta)∧ns.map Nx.l=List.replicate (idsOf pa).length []∧Hp w w' (cwT X (idsOf pa) (evsOf pa) ns)):=by
 have H:=(Hp.nil w);have e_ta:=h_ta.len;have z_ta:=h_ta.nle;have e_da:=h_da.len;have z_da:=h_da.nle;have e_na:=h_na.len;have z_na:=h_na.nle;have e_pa:=h_pa.len;have z_pa:=h_pa.nle;have hkl:∀p∈pa,p.es.length=p.k:=fun p hp=>(g_pa p hp).l.len;refine Wb Tryz.func199 ?_;refine go ?_;refine bx H fun g2 z H=> ?_;refine go ?_;refine c1 H Fh (lgcheck_any _ _ _ _ _ _ _ _ _ _ _ _ _ _ _ _ _ (h_ta.ext H.ext) (h_da.ext H.ext) (h_na.ext H.ext) (h_pa.ext H.ext) (g_pa.ext H.ext) hk Om Om (Nat.le_trans he Dc)) fun z H=> ?_;refine go ?_;refine Cd (fun p7=> ?_) fun p7=> ?_
 ·refine go ?_;refine Rt [_,_] ?_;have e1:exE ta da na pa=lgE ta da na pa:=if_pos p7;exact⟨_,(by rw[e1];rfl),H.ext,fun _=>rfl,fun h=>absurd h (by rw[e1];exact p7)⟩
 ·refine go ?_;refine Xr H (HpC w _) (.load 0 (.load 1 (.alt 2 (.alt 3 (.load 4 (.alt 5 (.load 6 (.fin)) (.none))) (.none)) (.alt 3 (.alt 2 (.load 4 (.alt 5 (.load 6 (.fin)) (.none))) (.none)) (.none))))) (H.pick [0]) fun z H=> ?_;refine G2 ?_;refine WX.alt ?_ ?_
  ·refine c2X (H.pick [0]) H Fh (ids_any _ _ _ _ _ _ _ _ _ _ _ _ _ _ _ _ _ (h_ta.ext H.ext) (h_da.ext H.ext) (h_na.ext H.ext) (h_pa.ext H.ext) (g_pa.ext H.ext) hk Om Om (Nat.le_trans he Dc)) fun v10 z H=> ?_;refine mmpX (H.pick [1]) H fun g12 z H=> ?_;obtain⟨A14,n15,c16,rfl,_,_,_⟩:=H.op 1;refine go ?_;refine bxX (H.pick [2]) H fun g17 z H=> ?_;refine go ?_;refine WX.nil (H.pick [3]) ?_;have H:=H.nilRow 81 Ev.c 6;rw[idsF_ok (Decidable.of_not_not (fun q=>q p7))]at H;have e_ids:=(H.l 3).len;have e_il:(idsOf pa).length≤24:=by show(idsN pa pa.length).length≤24;rw[idsN_len];exact he
   have pkk:=lg_pkok (Decidable.of_not_not (fun q=>q p7));refine go ?_;refine sb [26,5,24,25] ?_;refine WC.loopS 1 (fun mz Ed W'=>∃j:Nat,∃v:Value,mz=n_pa-j∧Ed=[(26,.int .i64 ((j:Nat):Int))]∧Hp w W' (row 81 Ev.c 6 v (evsN pa j)::box g17 272 [.slice A_ta n_ta c_ta,.slice A_da n_da c_da,.slice A_na n_na c_na,.slice A_pa n_pa c_pa,.slice A14 n15 c16,.map (some g12),v,.slice none 0 0]::_::_::_::[])∧(j≤n_pa)) _ ⟨0,_,rfl,rfl,(H.pick [0,0,0,0,0]),(Nat.zero_le _)⟩ ?_;rintro _ _ z ⟨j,v,rfl,rfl,H,jl⟩;have el:=evsN_len hkl j Om;have eu:=Nat.le_trans (evsum_le_all pa j pa.length Om) he;refine go ?_;refine Cd (fun p24=> ?_) fun p24=> ?_
   ·have hkj:=hkl _ (mem_b (show j<pa.length by omega));have ok:=pkk _ (mem_b (show j<pa.length by omega));have o3:=ok.k;have ek:=(g_pa _ (mem_b (show j<pa.length by omega))).l.len;have b27:j<n_pa:=Om;refine go ?_;refine al H ti70 fun g28 z H=> ?_;refine st H 0 ti70 fun z H=> ?_;obtain⟨A30,n31,c32,rfl,_,_,_⟩:=H.op 1;refine go ?_;refine Xr H (HpC w _) (.load 0 (.load 1 (.load 2 (.load 3 (.load 5 (.load 6 (.alt 4 (.alt 7 (.load 8 (.load 9 (.alt 10 (.fin) (.none)))) (.none)) (.none)))))))) (H.pick [0,2,2,2]) fun z H=> ?_;refine G6 ?_;refine WX.yldL rfl rfl (blt rfl) rfl (H.pick [0,2,2,2]) (ld rfl u68 rfl (Blk.at_eq (H.b 2) rfl)) ?_;refine aplX (H.pick [0,2,2,2]) H 1 rfl ((g_pa _ (mem_b (show j<pa.length from Om))).ext H.ext).l u68 ti81 Ev.one (room_le (by rw[el];exact eu) (show pa[j]!.es.length≤1000 by omega) Dc) fun v33 z H=> ?_;obtain⟨A34,n35,c36,rfl,_,_,_⟩:=H.op 1;refine go ?_;refine stX (H.pick [0,2,2,2]) H 2 ti68 fun z H=> ?_;refine WX.nil (H.pick [0,2,2,2]) ?_;refine go ?_;exact Rs [(26,_)] Sx ⟨(j+1),(.slice A34 n35 c36),rfl,rfl,(by rw[show evsN pa (j+1)=evsN pa j++pa[j]!.es from rfl];exact(H.pick [1,1,1,1,1])),Om⟩
   ·refine go ?_;refine mm H fun g38 z H=> ?_;obtain rfl:j=pa.length:=Om;rw[show evsN pa pa.length=evsOf pa from rfl]at H;have e_ev:=(ids_evs hkl).trans e_ids;have H:=(show Hp _ _ _ from H);obtain⟨A42,n43,c44,rfl,_,_,_⟩:=H.op 1;refine G11 ?_;refine sb [5,8,45,46,47] ?_;refine go ?_;refine sb [47,5,8,45,46] ?_;refine WC.loopS 1 (fun mz Ed W'=>∃i:Nat,mz=n15-i∧Ed=[(47,.int .i64 ((i:Nat):Int))]∧Hp w W' (mpi g38 (im (sntN (evsOf pa) i))::_::_::mpp g12 (atM (idsOf pa) i)::_::_::[])∧(i≤n15)∧(fE (exq (evsOf pa)) i=0)) _ ⟨0,rfl,rfl,(H.pick [0,0,0,0,0,0]),(Nat.zero_le _),rfl⟩ ?_;rintro _ _ z ⟨i,rfl,rfl,H,il,hp⟩;refine go ?_;refine Cd (fun p47=> ?_) fun p47=> ?_
    ·have b50:i<n15:=Om;refine go ?_;refine al H ti78 fun g51 z H=> ?_;refine go ?_;refine st H 0 ti78 fun z H=> ?_;refine go ?_;refine WC.regionT 6 (by kernel_rfl) (by kernel_rfl) ?_;refine go ?_;refine WQ.tail (fun z x=> ?_);have H:=H.ex x;refine mup H 4 u270 pkk78 fun z H=> ?_;have b55:i<n43:=Om;refine go ?_;refine al H ti81 fun g56 z H=> ?_;refine st H 0 ti81 fun z H=> ?_;refine go ?_;refine Cd (fun p59=> ?_) fun p59=> ?_
     ·refine G5 ?_;refine yy (Yld.cast (Y.lookup rfl u123 u3 ti3 rfl rfl (fun _ h=>h▸(H.mi 2))) (mval_im _ _)) ?_;refine G2 ?_;refine sb [5,8,11,45,46,47,72] ?_;refine Cd (fun p62=> ?_) fun p62=> ?_
      ·refine go ?_;refine Rt [_,_] ?_;have e1:exE ta da na pa=4:=(if_neg (fun q=>q p7)).trans (fE_ret hp (if_pos ⟨p59,p62⟩) Dc Om);exact⟨_,(by rw[e1];rfl),H.ext,fun _=>rfl,fun h=>absurd h (by rw[e1];decide)⟩
      ·refine go ?_;refine mu H 2 u123 u3 fun z H=> ?_;refine go ?_;exact Rs [(47,_)] Sx ⟨(i+1),rfl,rfl,(by rw[show sntN (evsOf pa) (i+1)=iset (sntN (evsOf pa) i) (evsOf pa)[i]!.n 1 from if_pos p59,←mset_im];exact(H.pick [2,2,2,2,2,2])),Om,(fE_next hp (if_neg (fun q=>p62 q.2)))⟩
     ·refine go ?_;exact Rs [(47,_)] Sx ⟨(i+1),rfl,rfl,(by rw[show sntN (evsOf pa) (i+1)=sntN (evsOf pa) i from if_neg p59];exact(H.pick [2,2,2,2,2,2])),Om,(fE_next hp (if_neg (fun q=>p59 q.1)))⟩
    ·refine G5 ?_;refine sb [5] ?_;refine go ?_;refine ms (f:=Nx.c) (m:=n15) (default:Nx) H u135 ti65 Om fun v65 z H=> ?_;obtain⟨A67,n68,c69,rfl,_,_,_⟩:=H.op 0;refine go ?_;refine st H 3 ti135 fun z H=> ?_;refine go ?_;refine Rt [_,_] ?_;have e1:exE ta da na pa=0:=(if_neg (fun q=>q p7)).trans (fE_end hp Om);have H:=nx_zero H n15;obtain rfl:i=(idsOf pa).length:=Om;exact⟨_,(by rw[e1];rfl),H.ext,fun h=>absurd e1 h,fun _=>⟨⟨g17,g12,A_ta,n_ta,c_ta,A_da,n_da,c_da,A_na,n_na,c_na,A_pa,n_pa,c_pa,A14,n15,c16,A42,n43,c44,A67,n68,c69⟩,List.replicate n15 default,rfl,⟨rfl,rfl,rfl⟩,by rw[List.map_replicate,e_ids];rfl,(H.pick [4,5,3,3,1,0])⟩⟩
  refine mmpX (H.pick [0]) H fun g72 z H=> ?_;refine c2X (H.pick [1]) H Fh (ids_any _ _ _ _ _ _ _ _ _ _ _ _ _ _ _ _ _ (h_ta.ext H.ext) (h_da.ext H.ext) (h_na.ext H.ext) (h_pa.ext H.ext) (g_pa.ext H.ext) hk Om Om (Nat.le_trans he Dc)) fun v74 z H=> ?_;obtain⟨A76,n77,c78,rfl,_,_,_⟩:=H.op 0;refine go ?_;refine bxX (H.pick [2]) H fun g79 z H=> ?_;refine go ?_;refine WX.nil (H.pick [3]) ?_;have H:=H.nilRow 81 Ev.c 6;rw[idsF_ok (Decidable.of_not_not (fun q=>q p7))]at H;have e_ids:=(H.l 2).len;have e_il:(idsOf pa).length≤24:=by show(idsN pa pa.length).length≤24;rw[idsN_len];exact he
  have pkk:=lg_pkok (Decidable.of_not_not (fun q=>q p7));refine go ?_;refine sb [26,5,24,25] ?_;refine WC.loopS 1 (fun mz Ed W'=>∃j:Nat,∃v:Value,mz=n_pa-j∧Ed=[(26,.int .i64 ((j:Nat):Int))]∧Hp w W' (row 81 Ev.c 6 v (evsN pa j)::box g79 272 [.slice A_ta n_ta c_ta,.slice A_da n_da c_da,.slice A_na n_na c_na,.slice A_pa n_pa c_pa,.slice A76 n77 c78,.map (some g72),v,.slice none 0 0]::_::_::_::[])∧(j≤n_pa)) _ ⟨0,_,rfl,rfl,(H.pick [0,0,0,0,0]),(Nat.zero_le _)⟩ ?_;rintro _ _ z ⟨j,v,rfl,rfl,H,jl⟩;have el:=evsN_len hkl j Om;have eu:=Nat.le_trans (evsum_le_all pa j pa.length Om) he;refine go ?_;refine Cd (fun p86=> ?_) fun p86=> ?_
  ·have hkj:=hkl _ (mem_b (show j<pa.length by omega));have ok:=pkk _ (mem_b (show j<pa.length by omega));have o3:=ok.k;have ek:=(g_pa _ (mem_b (show j<pa.length by omega))).l.len;have b89:j<n_pa:=Om;refine go ?_;refine al H ti70 fun g90 z H=> ?_;refine st H 0 ti70 fun z H=> ?_;obtain⟨A92,n93,c94,rfl,_,_,_⟩:=H.op 1;refine go ?_;refine Xr H (HpC w _) (.load 0 (.load 1 (.load 2 (.load 3 (.load 5 (.load 6 (.alt 4 (.alt 7 (.load 8 (.load 9 (.alt 10 (.fin) (.none)))) (.none)) (.none)))))))) (H.pick [0,2,2,2]) fun z H=> ?_;refine G6 ?_;refine WX.yldL rfl rfl (blt rfl) rfl (H.pick [0,2,2,2]) (ld rfl u68 rfl (Blk.at_eq (H.b 2) rfl)) ?_;refine aplX (H.pick [0,2,2,2]) H 1 rfl ((g_pa _ (mem_b (show j<pa.length from Om))).ext H.ext).l u68 ti81 Ev.one (room_le (by rw[el];exact eu) (show pa[j]!.es.length≤1000 by omega) Dc) fun v95 z H=> ?_;obtain⟨A96,n97,c98,rfl,_,_,_⟩:=H.op 1;refine go ?_;refine stX (H.pick [0,2,2,2]) H 2 ti68 fun z H=> ?_;refine WX.nil (H.pick [0,2,2,2]) ?_;refine go ?_;exact Rs [(26,_)] Sx ⟨(j+1),(.slice A96 n97 c98),rfl,rfl,(by rw[show evsN pa (j+1)=evsN pa j++pa[j]!.es from rfl];exact(H.pick [1,1,1,1,1])),Om⟩
  ·refine go ?_;refine mm H fun g100 z H=> ?_;obtain rfl:j=pa.length:=Om;rw[show evsN pa pa.length=evsOf pa from rfl]at H;have e_ev:=(ids_evs hkl).trans e_ids;have H:=(show Hp _ _ _ from H);obtain⟨A104,n105,c106,rfl,_,_,_⟩:=H.op 1;refine G11 ?_;refine sb [5,8,45,46,47] ?_;refine go ?_;refine sb [47,5,8,45,46] ?_;refine WC.loopS 1 (fun mz Ed W'=>∃i:Nat,mz=n77-i∧Ed=[(47,.int .i64 ((i:Nat):Int))]∧Hp w W' (mpi g100 (im (sntN (evsOf pa) i))::_::_::_::mpp g72 (atM (idsOf pa) i)::_::[])∧(i≤n77)∧(fE (exq (evsOf pa)) i=0)) _ ⟨0,rfl,rfl,(H.pick [0,0,0,0,0,0]),(Nat.zero_le _),rfl⟩ ?_;rintro _ _ z ⟨i,rfl,rfl,H,il,hp⟩;refine go ?_;refine Cd (fun p109=> ?_) fun p109=> ?_
   ·have b112:i<n77:=Om;refine go ?_;refine al H ti78 fun g113 z H=> ?_;refine go ?_;refine st H 0 ti78 fun z H=> ?_;refine go ?_;refine WC.regionT 6 (by kernel_rfl) (by kernel_rfl) ?_;refine go ?_;refine WQ.tail (fun z x=> ?_);have H:=H.ex x;refine mup H 5 u270 pkk78 fun z H=> ?_;have b117:i<n105:=Om;refine go ?_;refine al H ti81 fun g118 z H=> ?_;refine st H 0 ti81 fun z H=> ?_;refine go ?_;refine Cd (fun p121=> ?_) fun p121=> ?_
    ·refine G5 ?_;refine yy (Yld.cast (Y.lookup rfl u123 u3 ti3 rfl rfl (fun _ h=>h▸(H.mi 2))) (mval_im _ _)) ?_;refine G2 ?_;refine sb [5,8,11,45,46,47,72] ?_;refine Cd (fun p124=> ?_) fun p124=> ?_
     ·refine go ?_;refine Rt [_,_] ?_;have e1:exE ta da na pa=4:=(if_neg (fun q=>q p7)).trans (fE_ret hp (if_pos ⟨p121,p124⟩) Dc Om);exact⟨_,(by rw[e1];rfl),H.ext,fun _=>rfl,fun h=>absurd h (by rw[e1];decide)⟩
     ·refine go ?_;refine mu H 2 u123 u3 fun z H=> ?_;refine go ?_;exact Rs [(47,_)] Sx ⟨(i+1),rfl,rfl,(by rw[show sntN (evsOf pa) (i+1)=iset (sntN (evsOf pa) i) (evsOf pa)[i]!.n 1 from if_pos p121,←mset_im];exact(H.pick [2,2,2,2,2,2])),Om,(fE_next hp (if_neg (fun q=>p124 q.2)))⟩
    ·refine go ?_;exact Rs [(47,_)] Sx ⟨(i+1),rfl,rfl,(by rw[show sntN (evsOf pa) (i+1)=sntN (evsOf pa) i from if_neg p121];exact(H.pick [2,2,2,2,2,2])),Om,(fE_next hp (if_neg (fun q=>p121 q.1)))⟩
   ·refine G5 ?_;refine sb [5] ?_;refine go ?_;refine ms (f:=Nx.c) (m:=n77) (default:Nx) H u135 ti65 Om fun v127 z H=> ?_;obtain⟨A129,n130,c131,rfl,_,_,_⟩:=H.op 0;refine go ?_;refine st H 3 ti135 fun z H=> ?_;refine go ?_;refine Rt [_,_] ?_;have e1:exE ta da na pa=0:=(if_neg (fun q=>q p7)).trans (fE_end hp Om);have H:=nx_zero H n77;obtain rfl:i=(idsOf pa).length:=Om;exact⟨_,(by rw[e1];rfl),H.ext,fun h=>absurd e1 h,fun _=>⟨⟨g79,g72,A_ta,n_ta,c_ta,A_da,n_da,c_da,A_na,n_na,c_na,A_pa,n_pa,c_pa,A76,n77,c78,A104,n105,c106,A129,n130,c131⟩,List.replicate n77 default,rfl,⟨rfl,rfl,rfl⟩,by rw[List.map_replicate,e_ids];rfl,(H.pick [4,4,3,3,1,0])⟩⟩
theorem sound_any(A_ta:Option Addr)(n_ta c_ta:Nat)(ta:List Th)(A_da:Option Addr)(n_da c_da:Nat)(da:List Dm)(A_na:Option Addr)(n_na c_na:Nat)(na:List Sn)(A_pa:Option Addr)(n_pa c_pa:Nat)(pa:List Pk)(w:World)(h_ta:Ls w A_ta n_ta c_ta Th.c 3 ta)(h_da:Ls w A_da n_da c_da Dm.c 2 da)(h_na:Ls w A_na n_na c_na Sn.c 5 na)(h_pa:Ls w A_pa n_pa c_pa Pk.c 4 pa)(g_pa:PksOk w pa)(hk:∀x∈pa,x.k≤1000000)(hl:n_pa≤1000)(ht:n_ta≤1000)(he:evsum pa pa.length≤24):
  Calls Tryz.prog 155 #[.agg #[.slice A_ta n_ta c_ta,.slice A_da n_da c_da,.slice A_na n_na c_na,.slice A_pa n_pa c_pa]] w fun e w'=>∃pv,e= .returned (.tuple #[pv,.int .i64 (soE ta da na pa)])∧Ext w w'∧(soE ta da na pa≠0→pv= .pointer none)∧(soE ta da na pa=0→∃X:Cw,pv= .pointer (some ⟨X.g,0,none⟩)∧X.ok 272 w' (idsOf pa) (evsOf pa) (caN ta pa)):=by
 have H:=(Hp.nil w);have e_ta:=h_ta.len;have z_ta:=h_ta.nle;have e_da:=h_da.len;have z_da:=h_da.nle;have e_na:=h_na.len;have z_na:=h_na.nle;have e_pa:=h_pa.len;have z_pa:=h_pa.nle;have hkl:∀p∈pa,p.es.length=p.k:=fun p hp=>(g_pa p hp).l.len;have e_il:(idsOf pa).length≤24:=by show(idsN pa pa.length).length≤24;rw[idsN_len];exact he
 refine Wb Tryz.func155 ?_;refine go ?_;refine bx H fun g2 z H=> ?_;refine go ?_;refine c3 Fh (exam_any _ _ _ _ _ _ _ _ _ _ _ _ _ _ _ _ _ (h_ta.ext H.ext) (h_da.ext H.ext) (h_na.ext H.ext) (h_pa.ext H.ext) (g_pa.ext H.ext) hk Om Om he) ?_;rintro _ z ⟨pv,rfl,x,hno,hof⟩;refine⟨_,rfl,?_⟩;refine G1 ?_;by_cases h0:exE ta da na pa=0
 ·obtain⟨X,ns,rfl,hths,hn0,K⟩:=hof h0;have H:Hp w _ (box X.g 272 X.cells::row 78 Ix.c 2 (.slice X.iA X.iN X.iC) (idsOf pa)::row 81 Ev.c 6 (.slice X.eA X.eN X.eC) (evsOf pa)::mpp X.gm (atM (idsOf pa) (idsOf pa).length)::row 65 Nx.c 1 (.slice X.nA X.nN X.nC) ns::big nxF ns::_):=H.join K;refine G8 ?_;refine yy (Yld.cast (Y.neq rfl rfl rfl) (vb (by rw[h0];first|done|rfl))) ?_;refine go ?_;refine WC.condF rfl ?_;have he0:lgE ta da na pa=0:=Classical.byContradiction fun q=>q ((if_pos q).symm.trans h0);have hths0:Ls w X.tA X.tN X.tC Th.c 3 ta:=by rw[hths.1,hths.2.1,hths.2.2];exact h_ta
  refine go ?_;refine c3 Fh (edges_any _ _ _ _ _ _ _ (H.front [0,0,0,1,1]) hn0 (ids_evs hkl) Om) ?_;rintro _ z ⟨ns14,rfl,H,hns14⟩;refine⟨_,rfl,?_⟩;refine go ?_;refine c3 Fh (readings_any _ _ _ _ ta (edF (idsOf pa) (evsOf pa)) _ _ _ (H.front [0,0,0,0,0]) hths0 (lg_dom he0) hns14 (edF_ok (ids_evs hkl)) (ids_evs hkl) Om) ?_;rintro _ w1 ⟨nr,rfl,H,hnr⟩;have X0:=H.ext;have hok:X.ok 272 w1 (idsOf pa) (evsOf pa) (caN ta pa):=⟨H.b 0,H.l 1,H.l 2,H.mp 5,nr,H.l 3,nx_ls (H.get (k:=4) rfl),hnr⟩;obtain⟨hwb,hwi,hwe,hwm,_⟩:=hok;have hn1:=H.l 3;have hn2:=nx_ls (H.get (k:=4) rfl);have hok:=(show X.ok 272 w1 (idsOf pa) (evsOf pa) (caN ta pa)from⟨hwb,hwi,hwe,hwm,nr,hn1,hn2,hnr⟩);have e_i:=hwi.len;have e_n:=hn1.len;have lb:=caN_ok (ths:=ta) hkl;have nln:nr.length=(idsOf pa).length:=by rw[←List.length_map (f:=Nx.l),hnr];exact lb.1
  have H:=Hp.nil w1;have hnr:nr.map Nx.l=caN ta pa:=hnr;obtain⟨N,hN⟩:∃N,N=caN ta pa:=⟨_,rfl⟩;rw[←hN]at hnr lb;refine⟨_,rfl,?_⟩;refine go ?_;refine ms (f:=ic) (m:=X.iN) (0:Int) H u65 ti3 Om fun v17 z H=> ?_;obtain⟨A21,n22,c23,rfl,_,_,_⟩:=H.op 0;have nNl:N.length=(idsOf pa).length:=lb.1;rw[show List.replicate X.iN (0:Int)=wtN N 0 from by show _=List.replicate N.length (0:Int);rw[nNl,e_i]]at H;refine G11 ?_;refine sb [4,6,39,40,41] ?_;refine go ?_;refine sb [41,4,6,39,40] ?_;refine WC.loopS 1 (fun mz Ed W'=>∃i:Nat,mz=X.nN-i∧Ed=[(41,.int .i64 ((i:Nat):Int))]∧Hp w1 W' (row 3 ic 1 (.slice A21 n22 c23) (wtN N i)::[])∧(i≤X.nN)) _ ⟨0,rfl,rfl,(H.pick [0]),(Nat.zero_le _)⟩ ?_;rintro _ _ z ⟨i,rfl,rfl,H,il⟩;have wok:=wtN_ok lb i Om;refine go ?_;refine Cd (fun p26=> ?_) fun p26=> ?_
  ·have b29:i<X.nN:=Om;refine go ?_;refine sb [47,4,6,39,40,41,45,46] ?_;refine WC.loopS 1 (fun mz Ed W'=>∃j:Nat,mz=nr[i]!.n-j∧Ed=[(47,.int .i64 ((j:Nat):Int))]∧Hp w1 W' (row 3 ic 1 (.slice A21 n22 c23) (wtI (wtN N i) nr[i]!.l j)::[])∧(j≤nr[i]!.n)) _ ⟨0,rfl,rfl,(H.pick [0]),(Nat.zero_le _)⟩ ?_;rintro _ _ z ⟨j,rfl,rfl,H,jl⟩;have eli:=(hn2 _ (mem_b (show i<nr.length by omega))).len;have eNi:N[i]! =nr[i]!.l:=by rw[←hnr,map_b Nx.l Om]
   have lbi:=lb.at_ (show i<(idsOf pa).length by omega);rw[eNi]at lbi;have wr:=wtI_rng (l:=nr[i]!.l) wok.2 (fun x hx=>by have:=lbi.1 x hx;rw[wok.1];omega) j Om;have wl:=wtI_len (wtN N i) nr[i]!.l j;refine go ?_;refine Cd (fun p33=> ?_) fun p33=> ?_
   ·have rx:=lbi.1 _ (mem_b (show j<nr[i]!.l.length by omega));have wx:=wr _ (mem_b (show nr[i]!.l[j]!.toNat<(wtI (wtN N i) nr[i]!.l j).length by rw[wl,wok.1];omega));obtain⟨Z,hZ,hZ2⟩:∃Z:Nat,(2*(idsOf pa).length+(idsOf pa).length)*i=Z∧Z≤1728:=⟨_,rfl,Nat.le_trans (Nat.mul_le_mul (show _≤72 by omega) (show _≤24 by omega)) Dc⟩;rw[hZ]at wx;have b36:j<nr[i]!.n:=Om;refine G5 ?_;refine yy (Y.indexLs j ((hn2 _ (mem_b (show i<nr.length from Om))).ext H.ext) rfl u65 ti3 rfl rfl rfl b36) ?_;refine yy (ld rfl u3 rfl (Ls.at_eq ((hn2 _ (mem_b (show i<nr.length from Om))).ext H.ext) b36 rfl)) ?_;have b37:nr[i]!.l[j]!.toNat<n22:=Om;refine G5 ?_;refine yy (Y.indexLs nr[i]!.l[j]!.toNat (H.l 0) rfl u65 ti3 rfl rfl Om b37) ?_;have b38:nr[i]!.l[j]!.toNat<n22:=Om;refine G2 ?_;refine yy (Y.indexLs nr[i]!.l[j]!.toNat (H.l 0) rfl u65 ti3 rfl rfl Om b38) ?_;refine ste H 0 rfl ((wtI (wtN N i) nr[i]!.l j)[nr[i]!.l[j]!.toNat]! +1) b38 ti3 rfl fun z H=> ?_;refine go ?_;exact Rs [(47,_)] Sx ⟨(j+1),rfl,rfl,(H.pick [0]),Om⟩
   ·refine go ?_;exact Rs [(41,_)] Sx ⟨(i+1),rfl,rfl,(by rw[show wtN N (i+1)=wtI (wtN N i) nr[i]!.l j from by rw[wtN_next,eNi];congr 1;omega];exact(H.pick [0])),Om⟩
  ·obtain rfl:i=(idsOf pa).length:=Om;have wok:=wtN_ok lb (idsOf pa).length Nl;have e_w:=(H.l 0).len;have H:=H.nilRow 3 ic 1;refine G5 ?_;refine sb [4,6] ?_;refine go ?_;refine sb [61,11,4,6,59,60] ?_;refine WC.loopS 2 (fun mz Ed W'=>∃q:Nat,∃v:Value,mz=n22-q∧Ed=[(61,.int .i64 ((q:Nat):Int)),(11,v)]∧Hp w1 W' (row 3 ic 1 v (rdyN (wtN N (idsOf pa).length) q)::_::[])∧(q≤n22)) _ ⟨0,_,rfl,rfl,(H.pick [0,0]),(Nat.zero_le _)⟩ ?_;rintro _ _ z ⟨q,v,rfl,rfl,H,ql⟩;have rok:=rdyN_ok (wtN N (idsOf pa).length) q;refine go ?_;refine Cd (fun p45=> ?_) fun p45=> ?_
   ·have b48:q<n22:=Om;refine go ?_;refine Cd (fun p50=> ?_) fun p50=> ?_
    ·refine go ?_;refine bs1 H u65 ti3 fun g51 z H=> ?_;refine ap H 1 0 rfl [(q:Int)] u65 ti3 rfl ic_one (room_le rok.1 (Nat.le_refl 1) Om) fun v53 z H=> ?_;refine go ?_;exact Rs [(61,_),(11,_)] Sx ⟨(q+1),v53,rfl,rfl,(by rw[show rdyN (wtN N (idsOf pa).length) (q+1)=((rdyN (wtN N (idsOf pa).length) q)++[(q:Int)])from if_pos p50];exact(H.pick [1,1])),Om⟩
    ·refine go ?_;exact Rs [(61,_),(11,_)] Sx ⟨(q+1),v,rfl,rfl,(by rw[show rdyN (wtN N (idsOf pa).length) (q+1)=(rdyN (wtN N (idsOf pa).length) q)from if_neg p50];exact(H.pick [0,0])),Om⟩
   ·obtain rfl:q=(idsOf pa).length:=Om;have H:=H.toq 0;obtain⟨A0,c0,rfl,_,_⟩:=H.opq 0;obtain⟨Z,hZ,hZ2⟩:∃Z:Nat,(2*(idsOf pa).length+(idsOf pa).length)*(idsOf pa).length=Z∧Z≤1728:=⟨_,rfl,Nat.le_trans (Nat.mul_le_mul (show _≤72 by omega) (show _≤24 by omega)) Dc⟩;rw[hZ]at wok;have k0:KaOk (rdyN (wtN N (idsOf pa).length) (idsOf pa).length,wtN N (idsOf pa).length) (idsOf pa).length 0 60000:=⟨rok.2,wok.1,fun x hx=>by have h1:=wok.2 x hx;omega,by have h3:=wS_le (B:=1728) (fun x hx=>by have h1:=wok.2 x hx;omega);have h4:(wtN N (idsOf pa).length).length*1728≤24*1728:=Nat.mul_le_mul_right _ Om;unfold kaM;dsimp only;omega⟩;refine G5 ?_;refine sb [4,6,11] ?_;refine go ?_;refine sb [11,14,4,6] ?_;refine WC.loopS 2 (fun mz Ed W'=>∃m:Nat,∃A:Option Addr,∃n:Nat,∃c:Nat,∃r:List Int,∃wv:List Int,∃d:Nat,mz=2*m∧Ed=[(11,.slice A n c),(14,.int .i64 ((d:Nat):Int))]∧Hp w1 W' (rowq ic 1 (.slice A n c) r::row 3 ic 1 (.slice A21 n22 c23) wv::[])∧(kaF N m r wv d=kaF N (kaM (rdyN (wtN N (idsOf pa).length) (idsOf pa).length) (wtN N (idsOf pa).length)) (rdyN (wtN N (idsOf pa).length) (idsOf pa).length) (wtN N (idsOf pa).length) 0)∧(KaOk (r,wv) (idsOf pa).length (1000*(d:Int)) m)∧(m+d≤60000)) _ ⟨(kaM (rdyN (wtN N (idsOf pa).length) (idsOf pa).length) (wtN N (idsOf pa).length)),_,_,_,_,_,0,rfl,rfl,(H.pick [0,0]),rfl,⟨k0.r,k0.l,fun x hx=>by have:=k0.b x hx;omega,Nat.le_refl _⟩,(by have:=k0.m;omega)⟩ ?_;rintro _ _ z ⟨m,A,n,c,r,wv,d,rfl,rfl,H,hk,hko,hmd⟩;have e_r:=(H.q 0).len;refine go ?_;refine Cd (fun p58=> ?_) fun p58=> ?_
    ·have b61:0<n:=Om;refine G6 ?_;refine yy (Y.indexLs 0 (H.q 0) rfl u65 ti3 rfl rfl rfl b61) ?_;refine yy (ld rfl u3 rfl (Ls.at_eq (H.q 0) b61 rfl)) ?_;have b63:1≤n:=Om;refine G4 ?_;refine yy (Y.sliceL 1 rfl u65 ti3 rfl rfl rfl b63) ?_;have H:=H.cutq 0 Om;have rb:0≤r[0]!∧r[0]! <((idsOf pa).length:Int):=hko.r _ (mem_b (show 0<r.length by omega));have eli:=(hn2 _ (mem_b (show r[0]!.toNat<nr.length by omega))).len;have eNr:N[r[0]!.toNat]! =nr[r[0]!.toNat]!.l:=by rw[←hnr,map_b Nx.l Om]
     have lbr:=lb.at_ (show r[0]!.toNat<(idsOf pa).length by omega);rw[eNr]at lbr;have hm1:1≤m:=by have h1:kaM r wv≤m:=hko.m;unfold kaM at h1;omega
     have kd:KaOk (r.drop 1,wv) (idsOf pa).length (1000*(d:Int)) (m-1):=⟨fun x hx=>hko.r x (List.mem_of_mem_drop hx),hko.l,hko.b,by have h1:=hko.m;have h2:=kaM_drop (w:=wv) (show 0<r.length by omega);dsimp only at h1 ⊢;omega⟩;have b65:r[0]!.toNat<X.nN:=Om;refine G8 ?_;refine yy (Y.indexLs r[0]!.toNat (hn1.ext H.ext) rfl u135 ti65 rfl rfl Om b65) ?_;refine go ?_;refine sb [91,11,4,6,14,89,90] ?_;refine WC.loopS 2 (fun mz Ed W'=>∃jj:Nat,∃A2:Option Addr,∃n2:Nat,∃c2:Nat,mz=nr[r[0]!.toNat]!.n-jj∧Ed=[(91,.int .i64 ((jj:Nat):Int)),(11,.slice A2 n2 c2)]∧Hp w1 W' (rowq ic 1 (.slice A2 n2 c2) (kaR (r.drop 1,wv) nr[r[0]!.toNat]!.l jj).1::row 3 ic 1 (.slice A21 n22 c23) (kaR (r.drop 1,wv) nr[r[0]!.toNat]!.l jj).2::[])∧(jj≤nr[r[0]!.toNat]!.n)) _ ⟨0,_,_,_,rfl,rfl,(H.pick [0,0]),(Nat.zero_le _)⟩ ?_;rintro _ _ z ⟨jj,A2,n2,c2,rfl,rfl,H,jjl⟩;have kj:=kd.run lbr.1 jj Om;refine go ?_;refine Cd (fun p68=> ?_) fun p68=> ?_
     ·have rx:=lbr.1 _ (mem_b (show jj<nr[r[0]!.toNat]!.l.length by omega));have wx:=kj.b _ (mem_b (show nr[r[0]!.toNat]!.l[jj]!.toNat<(kaR (r.drop 1,wv) nr[r[0]!.toNat]!.l jj).2.length by rw[kj.l];omega));have kjl:=kj.l;have b71:jj<nr[r[0]!.toNat]!.n:=Om;refine G5 ?_;refine yy (Y.indexLs jj ((hn2 _ (mem_b (show r[0]!.toNat<nr.length from Om))).ext H.ext) rfl u65 ti3 rfl rfl rfl b71) ?_;refine yy (ld rfl u3 rfl (Ls.at_eq ((hn2 _ (mem_b (show r[0]!.toNat<nr.length from Om))).ext H.ext) b71 rfl)) ?_;have b73:nr[r[0]!.toNat]!.l[jj]!.toNat<n22:=Om;refine G5 ?_;refine yy (Y.indexLs nr[r[0]!.toNat]!.l[jj]!.toNat (H.l 1) rfl u65 ti3 rfl rfl Om b73) ?_;have b74:nr[r[0]!.toNat]!.l[jj]!.toNat<n22:=Om;refine G2 ?_;refine yy (Y.indexLs nr[r[0]!.toNat]!.l[jj]!.toNat (H.l 1) rfl u65 ti3 rfl rfl Om b74) ?_;refine ste H 1 rfl ((kaR (r.drop 1,wv) nr[r[0]!.toNat]!.l jj).2[nr[r[0]!.toNat]!.l[jj]!.toNat]! -1) b74 ti3 rfl fun z H=> ?_;have b76:nr[r[0]!.toNat]!.l[jj]!.toNat<n22:=Om;refine G4 ?_;refine yy (Y.indexLs nr[r[0]!.toNat]!.l[jj]!.toNat (H.l 1) rfl u65 ti3 rfl rfl Om b76) ?_;refine yy (Yld.cast (ld rfl u3 rfl (Ls.at_eq (H.l 1) b76 rfl)) (vi (set_b Om))) ?_;refine go ?_;refine Cd (fun p77=> ?_) fun p77=> ?_
      ·refine go ?_;refine bs1 H u65 ti3 fun g78 z H=> ?_;refine apq H 1 0 rfl [nr[r[0]!.toNat]!.l[jj]!] u65 ti3 rfl ic_one (by have h1:=kj.m;unfold kaM at h1;simp only[List.length_cons,List.length_nil];omega) fun A81 c82 z H=> ?_;refine go ?_;exact Rs [(91,_),(11,_)] Sx ⟨(jj+1),_,_,_,rfl,rfl,(by rw[kaR_next];unfold kaI;dsimp only;rw[if_pos p77];exact(H.pick [1,1])),Om⟩
      ·refine go ?_;exact Rs [(91,_),(11,_)] Sx ⟨(jj+1),_,_,_,rfl,rfl,(by rw[kaR_next];unfold kaI;dsimp only;rw[if_neg p77];exact(H.pick [0,0])),Om⟩
     ·refine G6 ?_;refine sb [4,6,11,14] ?_;refine go ?_;exact Rs [(11,_),(14,_)] Sx ⟨(m-1),_,_,_,_,_,(d+1),rfl,rfl,(H.pick [0,0]),(by have e:=(kaF_step (N:=N) (f:=m) (d:=d) (r:=r) (w:=wv) Om Om).symm.trans hk;rw[eNr,show nr[r[0]!.toNat]!.l.length=jj from Om]at e;exact e),((kd.run lbr.1 jj Om).up (by have:=lbr.2;omega) Nl),Om⟩
    ·refine go ?_;refine Cd (fun p85=> ?_) fun p85=> ?_
     ·refine go ?_;refine Rt [_,_] ?_;have e0:r=[]:=List.length_eq_zero_iff.1 Om;subst e0;have ed:kahn N=d:=by unfold kahn;rw[lb.1,←hk,kaF_end]
      rw[hN]at ed;have e1:soE ta da na pa=13:=(if_neg (not_not_intro h0)).trans (if_pos (by show(kahn (caN ta pa):Int)<_;rw[ed];omega));exact⟨_,(by rw[e1];rfl),X0.trans H.ext,fun _=>rfl,fun h=>absurd h (by rw[e1];decide)⟩
     ·refine go ?_;refine Rt [_,_] ?_;have e0:r=[]:=List.length_eq_zero_iff.1 Om;subst e0;have ed:kahn N=d:=by unfold kahn;rw[lb.1,←hk,kaF_end]
      rw[hN]at ed;have e1:soE ta da na pa=0:=(if_neg (not_not_intro h0)).trans (if_neg (by show¬(kahn (caN ta pa):Int)<_;rw[ed];omega));exact⟨_,(by rw[e1];rfl),X0.trans H.ext,fun h=>absurd e1 h,fun _=>⟨X,rfl,hok.ext H.ext⟩⟩
 ·obtain rfl:=hno h0;have H:=H.ex x;refine G5 ?_;refine sb [4,5] ?_;refine G3 ?_;refine yy (Yld.cast (Y.neq rfl rfl rfl) (vb (show(!(exE ta da na pa==0))=true by rw[beq_false_of_ne h0];rfl))) ?_;refine go ?_;refine WC.condT rfl ?_;refine go ?_;refine Rt [_,_] ?_;have e1:soE ta da na pa=exE ta da na pa:=if_pos h0;exact⟨_,(by rw[e1];rfl),H.ext,fun _=>rfl,fun h=>absurd (e1▸h) h0⟩
inductive Rch(N:List (List Int)):Nat→Nat→Prop
 |one {i k:Nat}:(k:Int)∈N[i]!→Rch N i k
 |step {i j k:Nat}:Rch N i j→(k:Int)∈N[j]!→Rch N i k
theorem Rch.trans{N:List (List Int)}{i j k:Nat}(h:Rch N i j)(g:Rch N j k):Rch N i k:=by
 induction g<;>grind [one,step]
theorem set_at'{α:Type}[Inhabited α](l:List α)(i p:Nat)(x:α)(hp:p<l.length):(l.set i x)[p]! =if i=p then x else l[p]! :=by
 rw[bang_eq (by grind),List.getElem_set,bang_eq hp]
structure DfsOk(N:List (List Int))(t:List Int)(s r:List Bool):Prop where
 len:r.length=N.length
 up:∀k,k<N.length→s[k]! =true→r[k]! =true
 got:∀x∈t,r[x.toNat]! =true
 cl:∀k,k<N.length→r[k]! =true→s[k]! =true∨∀x∈N[k]!,r[x.toNat]! =true
 snd:∀P:Nat→Prop,(∀k,k<N.length→s[k]! =true→P k)→(∀x∈t,P x.toNat)→(∀k,k<N.length→P k→∀x∈N[k]!,P x.toNat)→∀k,k<N.length→r[k]! =true→P k
theorem dfs_ok{N:List (List Int)}(hN:NOk N):∀(f:Nat) (t:List Int) (s:List Bool),wgt N t s≤f→s.length=N.length→(∀x∈t,0≤x∧x<(N.length:Int))→DfsOk N t s (dfs N f t s)
 |0,t,s,h,hs,ht=>by
  have:t=[]:=List.length_eq_zero_iff.1 (by unfold wgt at h;omega);subst this;exact⟨hs,fun _ _ h=>h,fun x hx=>(by cases hx),fun _ _ h=>.inl h,fun P h1 _ _ k hk h=>h1 k hk h⟩
 |f+1,t,s,h,hs,ht=>by
  unfold dfs;split
  ·rename_i q;have hx:=ht _ (mem_b (show t.length-1<t.length by omega));have hk:t[t.length-1]!.toNat<N.length:=Om;have et:t=t.take (t.length-1)++[t[t.length-1]!]:=by
    rw[←take_1 Om,show t.length-1+1=t.length from Om,List.take_length]
   split
   ·rename_i q2;have hw:=wgt_new (N:=N) (t:=t) (s:=s) Om hk hs q2;have ih:=dfs_ok hN f (t.take (t.length-1)++N[t[t.length-1]!.toNat]!) (s.set t[t.length-1]!.toNat true) Om (by rw[List.length_set];exact hs) fun x hx=>by
     rcases List.mem_append.1 hx with h|h
     ·exact ht x (List.mem_of_mem_take h)
     ·exact(hN _ (mem_b hk)).1 x h
    generalize t[t.length-1]! =y at*;refine⟨ih.len,fun k hk' h=>ih.up k hk' ?_,fun x hx=> ?_,fun k hk' h=> ?_,fun P h1 h2 h3=>ih.snd P (fun k hk' h=> ?_) (fun x hx=> ?_) h3⟩
    ·rw[set_at' _ _ _ _ Om];split
     ·rfl
     ·exact h
    ·rw[et]at hx;rcases List.mem_append.1 hx with h|h
     ·exact ih.got x (List.mem_append_left _ h)
     ·rw[List.mem_singleton.1 h];exact ih.up _ hk (set_b Om)
    ·rcases ih.cl k hk' h with h|h
     ·rw[set_at' _ _ _ _ Om]at h;split at h
      ·rename_i e;subst e;exact .inr fun x hx=>ih.got x (List.mem_append_right _ hx)
      ·exact .inl h
     ·exact .inr h
    ·rw[set_at' _ _ _ _ Om]at h;split at h
     ·rename_i e;subst e;exact h2 _ (by rw[et];exact List.mem_append_right _ (List.mem_singleton.2 rfl))
     ·exact h1 k hk' h
    ·rcases List.mem_append.1 hx with h|h
     ·exact h2 x (List.mem_of_mem_take h)
     ·exact h3 _ hk (h2 _ (by rw[et];exact List.mem_append_right _ (List.mem_singleton.2 rfl))) x h
   ·rename_i q2;have q2:=Decidable.of_not_not q2;have hw:=wgt_seen (N:=N) (t:=t) (s:=s) Om;have ih:=dfs_ok hN f (t.take (t.length-1)) s Om hs fun x hx=>ht x (List.mem_of_mem_take hx);refine⟨ih.len,ih.up,fun x hx=> ?_,ih.cl,fun P h1 h2 h3=>ih.snd P h1 (fun x hx=>h2 x (List.mem_of_mem_take hx)) h3⟩;rw[et]at hx;rcases List.mem_append.1 hx with h|h
    ·exact ih.got x h
    ·rw[List.mem_singleton.1 h];exact ih.up _ hk q2
  ·rename_i q;have:t=[]:=List.length_eq_zero_iff.1 Om;subst this;exact⟨hs,fun _ _ h=>h,fun x hx=>(by cases hx),fun _ _ h=>.inl h,fun P h1 _ _ k hk h=>h1 k hk h⟩
theorem aft_iff{N:List (List Int)}(hN:NOk N){i k:Nat}(hi:i<N.length)(hk:k<N.length):(aftF N i)[k]! =true↔Rch N i k:=by
 have hd:=dfs_ok hN _ N[i]! (List.replicate N.length false) Nl List.length_replicate (hN _ (mem_b hi)).1;have h0:∀k,k<N.length→¬(List.replicate N.length false)[k]! =true:=fun k hk=>by
  grind
 have hc:∀j,j<N.length→(aftF N i)[j]! =true→∀x∈N[j]!,(aftF N i)[x.toNat]! =true:=fun j hj h=>(hd.cl j hj h).resolve_left (h0 j hj);constructor
 ·intro h;refine hd.snd (Rch N i) (fun j hj h=>absurd h (h0 j hj)) (fun x hx=> ?_) (fun j hj hr x hx=> ?_) k hk h
  ·exact .one (by rw[Int.toNat_of_nonneg ((hN _ (mem_b hi)).1 x hx).1];exact hx)
  ·exact .step hr (by rw[Int.toNat_of_nonneg ((hN _ (mem_b hj)).1 x hx).1];exact hx)
 ·intro h;have key:k<N.length∧(aftF N i)[k]! =true:=by
   clear hk
   induction h with
   | @one k e=>
    have:=(hN _ (mem_b hi)).1 _ e;exact⟨Om,hd.got _ e⟩
   | @step j k hr e ih=>
    obtain⟨a,b⟩:=ih;have:=(hN _ (mem_b a)).1 _ e;grind
  grind
theorem aft_len{N:List (List Int)}(hN:NOk N){i:Nat}(hi:i<N.length):(aftF N i).length=N.length:=
 (dfs_ok hN _ N[i]! (List.replicate N.length false) Nl List.length_replicate (hN _ (mem_b hi)).1).len
theorem cacheck_any(A_ta:Option Addr)(n_ta c_ta:Nat)(ta:List Th)(A_da:Option Addr)(n_da c_da:Nat)(da:List Dm)(A_na:Option Addr)(n_na c_na:Nat)(na:List Sn)(A_pa:Option Addr)(n_pa c_pa:Nat)(pa:List Pk)(w:World)(h_ta:Ls w A_ta n_ta c_ta Th.c 3 ta)(h_da:Ls w A_da n_da c_da Dm.c 2 da)(h_na:Ls w A_na n_na c_na Sn.c 5 na)(h_pa:Ls w A_pa n_pa c_pa Pk.c 4 pa)(g_pa:PksOk w pa)(hk:∀x∈pa,x.k≤1000000)(hl:n_pa≤1000)(ht:n_ta≤1000)(he:evsum pa pa.length≤24):
  Cr 193 #[.agg #[.slice A_ta n_ta c_ta,.slice A_da n_da c_da,.slice A_na n_na c_na,.slice A_pa n_pa c_pa]] w (.int .i64 (soE ta da na pa)):=by
 have H:=(Hp.nil w);have e_ta:=h_ta.len;have z_ta:=h_ta.nle;have e_da:=h_da.len;have z_da:=h_da.nle;have e_na:=h_na.len;have z_na:=h_na.nle;have e_pa:=h_pa.len;have z_pa:=h_pa.nle;refine Wb Tryz.func193 ?_;refine go ?_;refine bx H fun g2 z H=> ?_;refine go ?_;refine c3 Fh (sound_any _ _ _ _ _ _ _ _ _ _ _ _ _ _ _ _ _ (h_ta.ext H.ext) (h_da.ext H.ext) (h_na.ext H.ext) (h_pa.ext H.ext) (g_pa.ext H.ext) hk Om Om he) ?_;rintro _ z ⟨pv,rfl,x,_,_⟩;have H:=H.ex x;refine⟨_,rfl,?_⟩;refine go ?_;refine Rt [_] ?_;exact⟨rfl,H.ext⟩
def vecF(ths:List Th)(d:List Dm)(s:List Sn)(l:List Pk)(i:Nat):List Int:=if soE ths d s l≠0 then[]else vcF ths (idsOf l) (caN ths l) i ths.length
theorem vector_any(A_ta:Option Addr)(n_ta c_ta:Nat)(ta:List Th)(A_da:Option Addr)(n_da c_da:Nat)(da:List Dm)(A_na:Option Addr)(n_na c_na:Nat)(na:List Sn)(A_pa:Option Addr)(n_pa c_pa:Nat)(pa:List Pk)(q:Ix)(at_:Nat)(w:World)(h_ta:Ls w A_ta n_ta c_ta Th.c 3 ta)(h_da:Ls w A_da n_da c_da Dm.c 2 da)(h_na:Ls w A_na n_na c_na Sn.c 5 na)(h_pa:Ls w A_pa n_pa c_pa Pk.c 4 pa)(g_pa:PksOk w pa)(hk:∀x∈pa,x.k≤1000000)(hl:n_pa≤1000)(ht:n_ta≤1000)(he:evsum pa pa.length≤24)(hid:soE ta da na pa=0→plI (idsOf pa) (q.th,q.sr) (idsOf pa).length=some at_)(hat:soE ta da na pa=0→at_<(idsOf pa).length)(hsr:∀x∈idsOf pa,0≤x.sr∧x.sr≤1000000000000000):
  Calls Tryz.prog 90 #[.agg #[.slice A_ta n_ta c_ta,.slice A_da n_da c_da,.slice A_na n_na c_na,.slice A_pa n_pa c_pa],.agg #[.int .i64 q.th,.int .i64 q.sr]] w fun e w'=>∃v,e= .returned (.tuple #[v,.int .i64 (soE ta da na pa)])∧OwnL w' w.heap.size 3 ic 1 v (vecF ta da na pa at_)∧Ext w w':=by
 have H:=(Hp.nil w);have e_ta:=h_ta.len;have z_ta:=h_ta.nle;have e_da:=h_da.len;have z_da:=h_da.nle;have e_na:=h_na.len;have z_na:=h_na.nle;have e_pa:=h_pa.len;have z_pa:=h_pa.nle;have hkl:∀p∈pa,p.es.length=p.k:=fun p hp=>(g_pa p hp).l.len;have e_il:(idsOf pa).length≤24:=by show(idsN pa pa.length).length≤24;rw[idsN_len];exact he
 refine Wb Tryz.func90 ?_;refine go ?_;refine bx H fun g2 z H=> ?_;refine bx H fun g4 z H=> ?_;refine go ?_;refine c3 Fh (sound_any _ _ _ _ _ _ _ _ _ _ _ _ _ _ _ _ _ (h_ta.ext H.ext) (h_da.ext H.ext) (h_na.ext H.ext) (h_pa.ext H.ext) (g_pa.ext H.ext) hk Om Om he) ?_;rintro _ w1 ⟨pv,rfl,x,hno,hof⟩;have H:=H.ex x;have X0:=H.ext;have h_ta:=h_ta.ext X0;have h_da:=h_da.ext X0;have h_na:=h_na.ext X0;have h_pa:=h_pa.ext X0;have g_pa:=g_pa.ext X0;have B0:=H.b 0;have B1:=H.b 1;have H:=Hp.nil w1;refine⟨_,rfl,?_⟩;refine G1 ?_;by_cases h0:soE ta da na pa=0
 ·obtain⟨X,rfl,hok⟩:=hof h0;obtain⟨hwb,hwi,hwe,hwm,nr,hn1,hn2,hnr⟩:=(show X.ok 272 w1 (idsOf pa) (evsOf pa) (caN ta pa)from hok);have e_i:=hwi.len;have lb:=caN_ok (ths:=ta) hkl;have nok:=lb.nok Om;have hpl:=hid h0;have hat_:=hat h0;have lbl:=lb.1;refine G8 ?_;refine yy (Yld.cast (Y.neq rfl rfl rfl) (vb (by rw[h0];first|done|rfl))) ?_;refine go ?_;refine WC.condF rfl ?_;refine go ?_;refine Qr ?_;refine G5 ?_;refine yq (Y.lookupOkP rfl u270 pkk78 ti3 rfl rfl (fun _ h=>MpP.ext (hwm.ext H.ext) h)) ?_;refine G1 ?_;refine yq (Yld.cast (Y.extract rfl rfl rfl) (show pval _ _ _=Value.int .i64 (at_:Int)from by unfold pval;rw[pget_atM,hpl];rfl)) ?_;refine yq (Yld.cast (Y.extract rfl rfl rfl) (vb (show(pget _ _).isSome=true from by rw[pget_atM,hpl];rfl))) ?_;refine go ?_;refine Qd H fun z H=> ?_;refine G6 ?_;refine sb [2,6,8,34] ?_;refine WC.condF rfl ?_;have H:=H.nilRow 3 ic 1;refine go ?_;refine sb [39,10,6,8,37,38] ?_;refine WC.loopS 2 (fun mz Ed W'=>∃j:Nat,∃v:Value,mz=n_ta-j∧Ed=[(39,.int .i64 ((j:Nat):Int)),(10,v)]∧Hp w1 W' (row 3 ic 1 v (vcF ta (idsOf pa) (caN ta pa) at_ j)::[])∧(j≤n_ta)) _ ⟨0,_,rfl,rfl,(H.pick [0]),(Nat.zero_le _)⟩ ?_;rintro _ _ z ⟨j,v,rfl,rfl,H,jl⟩;refine go ?_;refine Cd (fun p19=> ?_) fun p19=> ?_
  ·have b22:j<n_ta:=Om;refine go ?_;refine al H ti57 fun g23 z H=> ?_;refine st H 0 ti57 fun z H=> ?_;refine go ?_;refine sb [48,13,6,8,10,12,37,38,39,46,47] ?_;refine WC.loopS 2 (fun mz Ed W'=>∃i:Nat,∃nv:Int,mz=X.iN-i∧Ed=[(48,.int .i64 ((i:Nat):Int)),(13,.int .i64 nv)]∧Hp w1 W' (_::_::[])∧(i≤X.iN)∧(nv=vcI (idsOf pa) (caN ta pa) ta[j]!.id at_ i)) _ ⟨0,0,rfl,rfl,(H.pick [0,0]),(Nat.zero_le _),rfl⟩ ?_;rintro _ _ z ⟨i,nv,rfl,rfl,H,il,hv⟩;have vr:=vcI_rng (idsOf pa) (caN ta pa) ta[j]!.id at_ hsr i Om;refine go ?_;refine Cd (fun p30=> ?_) fun p30=> ?_
   ·have hsi:=hsr _ (mem_b (show i<(idsOf pa).length by omega));have aln:=aft_len nok (show i<(caN ta pa).length by omega);have b33:i<X.iN:=Om;refine go ?_;refine al H ti78 fun g34 z H=> ?_;refine go ?_;refine st H 0 ti78 fun z H=> ?_;refine G8 ?_;refine WL.split (t:=58) rfl (fun h37=> ?_) (fun h37=> ?_)
    ·have p37:=(eq_t h37);refine G4 ?_;refine WL.split (t:=62) rfl (fun h38=> ?_) (fun h38=> ?_)
     ·have p38:=(eq_t h38);refine G6 ?_;refine WL.yldW rfl (blt rfl) rfl rfl rfl (Y.pickT rfl rfl rfl) ?_;refine yy (Y.pickT rfl rfl rfl) ?_;refine go ?_;refine WC.condT rfl ?_;refine G8 ?_;refine sb [6,8,10,12,13,37,38,39,46,47,48] ?_;refine go ?_;exact Rs [(48,_),(13,_)] Sx ⟨(i+1),((idsOf pa)[i]!.sr+1),rfl,rfl,(H.pick [1,1]),Om,(if_pos ⟨(eq_t h37),.inl (by have q:=(eq_t h38);omega)⟩).symm⟩
     ·have p38:=(eq_f h38);refine G2 ?_;refine WL.guarded rfl rfl rfl ?_;refine c2 H Fh (after_any _ (idsOf pa) (evsOf pa) (caN ta pa) i _ (hok.ext H.ext) nok Om lbl.symm Om) fun v39 z H=> ?_;obtain⟨A41,n42,c43,rfl,_,_,_⟩:=H.op 0;have b44:at_<n42:=Om;refine G1 ?_;refine WL.yldW rfl (blt rfl) rfl rfl rfl (Y.indexLs at_ (H.l 0) rfl u191 ti4 rfl rfl rfl b44) ?_;refine G1 ?_;refine WL.yldW rfl (blt rfl) rfl rfl rfl (Y.pickF rfl rfl rfl) ?_;refine yy (Y.pickT rfl rfl rfl) ?_;refine go ?_;refine WC.cond rfl (fun h45=> ?_) (fun h45=> ?_)
      ·refine go ?_;exact Rs [(48,_),(13,_)] Sx ⟨(i+1),((idsOf pa)[i]!.sr+1),rfl,rfl,(H.pick [2,2]),Om,(if_pos ⟨(eq_t h37),.inr h45⟩).symm⟩
      ·refine go ?_;exact Rs [(48,_),(13,_)] Sx ⟨(i+1),nv,rfl,rfl,(H.pick [2,2]),Om,(hv.trans (if_neg (fun q=>q.2.elim (fun e=>(eq_f h38) Om) (nt_f h45))).symm)⟩
    ·have p37:=(eq_f h37);refine G11 ?_;refine yy (Y.pickF rfl rfl rfl) ?_;refine go ?_;refine WC.condF rfl ?_;refine G3 ?_;refine sb [6,8,10,12,13,37,38,39,46,47,48] ?_;refine go ?_;exact Rs [(48,_),(13,_)] Sx ⟨(i+1),nv,rfl,rfl,(H.pick [1,1]),Om,(hv.trans (if_neg (fun q=>(eq_f h37) q.1)).symm)⟩
   ·refine go ?_;refine bs1 H u65 ti3 fun g46 z H=> ?_;refine ap H 2 0 rfl [nv] u65 ti3 rfl ic_one (by rw[vcF_len _ _ _ _ (show j≤ta.length by omega)];simp only[List.length_cons,List.length_nil];omega) fun v48 z H=> ?_;refine go ?_;exact Rs [(39,_),(10,_)] Sx ⟨(j+1),v48,rfl,rfl,(by rw[vcF_next _ _ _ _ (show j<ta.length by omega),show(idsOf pa).length=i from Om,←hv];exact(H.pick [2])),Om⟩
  ·refine go ?_;refine Rt [_,_] ?_;have e1:vecF ta da na pa at_=vcF ta (idsOf pa) (caN ta pa) at_ j:=(if_neg (not_not_intro h0)).trans (by congr 1;omega);exact⟨_,(by rw[h0];rfl),(by rw[e1];exact(H.out 0).base_le X0.size),X0.trans H.ext⟩
 ·obtain rfl:=hno h0;refine G8 ?_;refine yy (Yld.cast (Y.neq rfl rfl rfl) (vb (show(!(soE ta da na pa==0))=true by rw[beq_false_of_ne h0];rfl))) ?_;refine go ?_;refine WC.condT rfl ?_;refine G5 ?_;refine sb [4,5] ?_;refine go ?_;refine Rt [_,_] ?_;have e1:vecF ta da na pa at_=[]:=if_pos h0;exact⟨_,rfl,(by rw[e1];exact OwnL.nil_),X0.trans H.ext⟩
end TW
end Go.Proofs.YtaclfjjipnpboaaGreat
end
namespace Go.Iv
open Go Go.Eng
abbrev I2:=Int×Int
def inB(n:Int):Bool:=decide (-1000000000000000≤n)&&decide (n≤1000000000000000)
def validB(a:I2):Bool:=(decide (a.1≤a.2)&&inB a.1)&&inB a.2
def ivb(r:I2×Bool):Value:=.tuple #[.agg #[.int .i64 r.1.1,.int .i64 r.1.2],.bool r.2]
def strPos(d ppm:Int):I2:=(d*(1000000-ppm)/1000000,(d*(1000000+ppm)+999999)/1000000)
def strGuard(d ppm:Int):Bool:=(((decide (d< -1000000000000)||decide (1000000000000<d))||decide (ppm<0))||decide (10000<ppm))
def stretchF(d ppm:Int):I2×Bool:=bif strGuard d ppm then((0,0),false)else bif decide (d<0)then((-(strPos (-d) ppm).2,-(strPos (-d) ppm).1),true)else(strPos d ppm,true)
theorem stretch_bad{d ppm:Int}(h:strGuard d ppm=true):stretchF d ppm=((0,0),false):=by simp[stretchF,h]
theorem stretch_neg{d ppm:Int}(h:strGuard d ppm=false)(h0:d<0):stretchF d ppm=((-(strPos (-d) ppm).2,-(strPos (-d) ppm).1),true):=by grind [stretchF]
theorem stretch_pos{d ppm:Int}(h:strGuard d ppm=false)(h0:¬d<0):stretchF d ppm=(strPos d ppm,true):=by grind [stretchF]
theorem guard_no{d ppm:Int}(h:strGuard d ppm=false):(-1000000000000≤d∧d≤1000000000000)∧0≤ppm∧ppm≤10000:=by grind [strGuard]
theorem strPos_bound{d ppm:Int}(hd:0≤d∧d≤1000000000000)(hp:0≤ppm∧ppm≤10000):(0≤(strPos d ppm).1∧(strPos d ppm).1≤1000000000000)∧0≤(strPos d ppm).2∧(strPos d ppm).2≤1010000000000:=by
 have b1:=mul_bound (a:=d) (b:=1000000-ppm) (m:=1000000000000) (k:=1000000) hd Om;have b2:=mul_bound (a:=d) (b:=1000000+ppm) (m:=1000000000000) (k:=1010000) hd Om;grind [strPos]
theorem agg2{k k':IntKind}{a b a' b':Int}(h:a=a')(h2:b=b'):Value.agg #[.int k a,.int k' b]= .agg #[.int k a',.int k' b']:=by rw[h,h2]
theorem str_bound(d ppm:Int):(-1010000000000≤(stretchF d ppm).1.1∧(stretchF d ppm).1.1≤1010000000000)∧(-1010000000000≤(stretchF d ppm).1.2∧(stretchF d ppm).1.2≤1010000000000):=by
 cases hg:strGuard d ppm with
 |true=>grind [stretch_bad]
 |false=>
  have hb:=guard_no hg;by_cases h0:d<0
  ·have:=strPos_bound (d:= -d) (ppm:=ppm) Om hb.2;grind [stretch_neg]
  ·have:=strPos_bound (d:=d) (ppm:=ppm) Om hb.2;grind [stretch_pos]
end Go.Iv
namespace Go.Proofs.YtaclfjjipnpboaaGreat
open Go Go.Eng
namespace Bd
structure Ed where
 u:Int
 v:Int
 w:Int
instance:Inhabited Ed:=⟨⟨0,0,0⟩⟩
def Ed.c(e:Ed):List Value:=[.int .i64 e.u,.int .i64 e.v,.int .i64 e.w]
theorem Ed.one(x:Ed):∀u∈x.c,u.oneCell'=true:=by simp[Ed.c,Value.oneCell']
abbrev Key:=Int×Int
def nix(n:List Key)(k:Key):Int:=((n.idxOf k:Nat):Int)+1
def numF:Nat→List Key→PM
 |_,[]=>[]
 |k,x::r=>(x,.int .i64 (((k+1:Nat)):Int))::numF (k+1) r
theorem numF_app:∀(k:Nat) (a b:List Key),numF k (a++b)=numF k a++numF (k+a.length) b
 |k,[],b=>by rfl
 |k,x::r,b=>by
  rw[List.cons_append,numF,numF,numF_app (k+1) r b,List.cons_append,List.length_cons];grind
theorem numF_len:∀(k:Nat) (a:List Key),(numF k a).length=a.length
 |_,[]=>rfl
 |k,_::r=>by rw[numF,List.length_cons,List.length_cons,numF_len (k+1) r]
theorem numF_get:∀(k:Nat) (a:List Key) (x:Key),pget (numF k a) x=if x∈a then some (.int .i64 (((k+a.idxOf x+1:Nat)):Int))else none
 |k,[],x=>by rfl
 |k,y::r,x=>by
  rw[numF,pget];by_cases h:x=y
  ·grind
  ·rw[if_neg h,numF_get (k+1) r x];grind
theorem numF_push(a:List Key)(x:Key):numF 0 (a++[x])=numF 0 a++[(x,.int .i64 (((numF 0 a).length:Nat)+1:Int))]:=by
 rw[numF_app,numF_len];simp[numF]
theorem nix_new{a b:List Key}{k:Key}(h:k∉a):nix (a++k::b) k=(a.length:Int)+1:=by
 simp_all [nix,List.idxOf_append,if_neg,List.idxOf_cons_self]
theorem nix_rng{a:List Key}{k:Key}(h:k∈a):1≤nix a k∧nix a k≤(a.length:Int):=by
 grind [nix,List.idxOf_lt_length_of_mem]
theorem pv_has{m:PM}{k:Key}{v z:Value}(h:pget m k=some v):pval m k z=v:=by grind [pval]
theorem rep_copy{a:Int}{n N:Nat}{m:Nat}(hm:m=min n (N-n))(hn:n≤N):(List.replicate n a++List.replicate (N-n) 0).take n++((List.replicate n a++List.replicate (N-n) 0).take n).take m++(List.replicate n a++List.replicate (N-n) 0).drop (n+m)=List.replicate (n+m) a++List.replicate (N-(n+m)) (0:Int):=by
 have e1:(List.replicate n a++List.replicate (N-n) (0:Int)).take n=List.replicate n a:=by grind
 rw[e1,List.drop_append,List.drop_eq_nil_of_le (by simp),List.nil_append,List.take_replicate,List.replicate_append_replicate,List.length_replicate,List.drop_replicate];grind
theorem rep_first{a:Int}{l:List Int}{m n:Nat}(hl:l=[a])(hm:m=1)(hn:1≤n):l.take m++(List.replicate n (0:Int)).drop m=List.replicate m a++List.replicate (n-m) 0:=by
 grind
end Bd
end Go.Proofs.YtaclfjjipnpboaaGreat
namespace Go.Proofs.YtaclfjjipnpboaaGreat
open Go Go.Eng Go.RowKit
namespace TW
def agB(l:List Sn)(i:Nat):Nat→Bool
 |0=>false
 |j+1=>agB l i j||snSame l[i]! l[j]!
def dfN(l:List Sn):Nat→List Sn
 |0=>[]
 |i+1=>if agB l i i=false then dfN l i++[l[i]!]else dfN l i
theorem dfN_len(l:List Sn):∀i,(dfN l i).length≤i
 |0=>Nat.le_refl _
 |i+1=>by
  have:=dfN_len l i;grind [dfN,List.length_append]
def difF(l:List Sn):List Sn:=dfN l l.length
def addK(S:List Int)(k:Int):List Int:=if k∈S then S else S++[k]
theorem mset_addK:∀(S:List Int) (k:Int),mset (pkb S) k (.bool true)=pkb (addK S k)
 |[],_=>rfl
 |x::r,k=>by
  have ih:=mset_addK r k;show(if k=x then(x,Value.bool true)::pkb r else(x,Value.bool true)::mset (pkb r) k (.bool true))=_;by_cases h:k=x
  ·subst h;rw[if_pos rfl];unfold addK;rw[if_pos List.mem_cons_self];rfl
  ·rw[if_neg h,ih];unfold addK;by_cases q:k∈r
   ·rw[if_pos q,if_pos (List.mem_cons_of_mem _ q)];rfl
   ·rw[if_neg q,if_neg (fun e=>(List.mem_cons.1 e).elim h q)];rfl
def lk1(S:List Int)(x:Sn):List Int:=if x.a∈S∨x.b∈S then addK (addK S x.a) x.b else S
def lkI(l:List Sn)(S:List Int)(j:Nat):List Int:=fN lk1 S l j
def lkO(l:List Sn):Nat→List Int
 |0=>[0]
 |k+1=>lkI l (lkO l k) l.length
def lnkF(d:List Dm)(l:List Sn)(id:Int):Bool:=if ckE d l≠0∨ixD d id<0 then false else decide (id∈lkO (difF l) d.length)
def ptN(l:List Sn)(id:Int):Nat→List Int
 |0=>[]
 |j+1=>if l[j]!.b=id then(if l[j]!.a=id then ptN l id j++[l[j]!.ta]else ptN l id j)++[l[j]!.lo,l[j]!.hi]else(if l[j]!.a=id then ptN l id j++[l[j]!.ta]else ptN l id j)
theorem ptN_len(l:List Sn)(id:Int):∀j,(ptN l id j).length≤3*j
 |0=>Nat.le_refl _
 |j+1=>by
  have:=ptN_len l id j;grind [ptN,List.length_append,List.length_cons,List.length_nil]
def SnR(l:List Sn):Prop:=∀x∈l,(0≤x.ta∧x.ta≤1000000000000)∧(0≤x.lo∧x.lo≤1000000000000)∧0≤x.hi∧x.hi≤1000000000000
theorem ptN_rng{l:List Sn}{id:Int}(h:SnR l):∀j,j≤l.length→∀x∈ptN l id j,0≤x∧x≤1000000000000
 |0,_,x,hx=>by cases hx
 |j+1,hj,x,hx=>by
  have ih:=ptN_rng (id:=id) h j Om;have hs:=h _ (mem_b (show j<l.length from hj));have k1:∀y∈(if l[j]!.a=id then ptN l id j++[l[j]!.ta]else ptN l id j),0≤y∧y≤1000000000000:=fun y hy=>by
   grind
  unfold ptN at hx;grind
def ptF(l:List Sn)(id:Int):List Int:=csF (ptN l id l.length)
theorem ptF_ok{l:List Sn}{id:Int}(h:SnR l):(ptF l id).length≤3*l.length∧∀x∈ptF l id,0≤x∧x≤1000000000000:=
 ⟨Nat.le_trans (csF_len _) (ptN_len _ _ _),fun x hx=>ptN_rng h _ Nl x (csF_mem.1 hx)⟩
abbrev Key:=Int×Int
def nuK(ks:List Key)(k:Key):List Key:=if k∈ks then ks else ks++[k]
theorem nuK_len(ks:List Key)(k:Key):(nuK ks k).length≤ks.length+1∧ks.length≤(nuK ks k).length:=by
 grind [nuK]
theorem nuK_rng(ks:List Key)(k:Key):1≤Bd.nix (nuK ks k) k∧Bd.nix (nuK ks k) k≤((nuK ks k).length:Int):=by
 refine Bd.nix_rng ?_;grind [nuK,List.mem_append_right,List.mem_cons_self]
theorem nu_get{ks:List Key}{k:Key}(h:k∈ks):pget (Bd.numF 0 ks) k=some (.int .i64 (Bd.nix (nuK ks k) k)):=by
 simp_all [Bd.numF_get,if_pos,nuK,Bd.nix]
theorem nu_not{ks:List Key}{k:Key}(h:k∉ks):pget (Bd.numF 0 ks) k=none:=by rw[Bd.numF_get,if_neg h]
theorem nu_put{ks:List Key}{k:Key}(h:k∉ks):pset (Bd.numF 0 ks) k (.int .i64 ((ks.length:Int)+1))=Bd.numF 0 (nuK ks k)∧Bd.nix (nuK ks k) k=(ks.length:Int)+1:=by
 have e:nuK ks k=ks++[k]:=if_neg h;rw[e,Bd.nix_new h,Bd.numF_push,pset_none _ _ _ (nu_not h),Bd.numF_len];grind
structure Gs where(ks:List Key)(es:List Bd.Ed)
instance:Inhabited Gs:=⟨⟨[],[]⟩⟩
def bQ1(x:Dm)(p:Int)(n:Int)(s:Gs)(q:Int):Gs:=
 ⟨nuK s.ks (x.id,q),s.es++[⟨Bd.nix (nuK s.ks (x.id,q)) (x.id,q),n,(Iv.stretchF (p-q) x.ppm).1.2⟩,⟨n,Bd.nix (nuK s.ks (x.id,q)) (x.id,q),-(Iv.stretchF (p-q) x.ppm).1.1⟩]⟩
def bQ(x:Dm)(p n:Int)(s:Gs)(ps:List Int)(j:Nat):Gs:=fN (bQ1 x p n) s ps j
def bP1(x:Dm)(ps:List Int)(s:Gs)(i:Nat):Gs:=
 if x.id=0 then⟨nuK s.ks (x.id,ps[i]!),s.es++[⟨0,Bd.nix (nuK s.ks (x.id,ps[i]!)) (x.id,ps[i]!),ps[i]!⟩,⟨Bd.nix (nuK s.ks (x.id,ps[i]!)) (x.id,ps[i]!),0,-ps[i]!⟩]⟩
 else bQ x ps[i]! (Bd.nix (nuK s.ks (x.id,ps[i]!)) (x.id,ps[i]!)) ⟨nuK s.ks (x.id,ps[i]!),s.es⟩ (ps.take i) i
def bP(x:Dm)(ps:List Int)(s:Gs):Nat→Gs
 |0=>s
 |i+1=>bP1 x ps (bP x ps s i) i
def dpF(l:List Sn)(id at_:Int)(x:Dm):List Int:=srtI (if x.id=id∧¬at_∈ptF l x.id then ptF l x.id++[at_]else ptF l x.id)
def bD(d:List Dm)(l:List Sn)(id at_:Int):Nat→Gs
 |0=>default
 |k+1=>bP d[k]! (dpF l id at_ d[k]!) (bD d l id at_ k) (dpF l id at_ d[k]!).length
def bS1(s:Gs)(x:Sn):Gs:=
 let k1:=nuK s.ks (x.a,x.ta)
 let k2:=nuK k1 (x.b,x.lo)
 let k3:=nuK k2 (x.b,x.hi)
 ⟨k3,s.es++[⟨Bd.nix k1 (x.a,x.ta),Bd.nix k2 (x.b,x.lo),0⟩,⟨Bd.nix k3 (x.b,x.hi),Bd.nix k1 (x.a,x.ta),0⟩]⟩
def bF(d:List Dm)(l:List Sn)(id at_:Int):Gs:=fN bS1 (bD d l id at_ d.length) l l.length
structure GsOk(s:Gs)(K M:Nat):Prop where
 k:s.ks.length≤K
 m:s.es.length≤M
 e:∀e∈s.es,(0≤e.u∧e.u≤(s.ks.length:Int))∧(0≤e.v∧e.v≤(s.ks.length:Int))∧-1010000000000≤e.w∧e.w≤1010000000000
theorem GsOk.up{s:Gs}{K M K' M':Nat}(h:GsOk s K M)(h1:K≤K')(h2:M≤M'):GsOk s K' M':=⟨Nat.le_trans h.k h1,Nat.le_trans h.m h2,h.e⟩
theorem GsOk.key{s:Gs}{K M:Nat}(h:GsOk s K M)(k:Key):GsOk ⟨nuK s.ks k,s.es⟩ (K+1) M:=by
 have:=nuK_len s.ks k;exact⟨by have:=h.k;grind,h.m,fun e he=>by have:=h.e e he;grind⟩
theorem GsOk.two{s:Gs}{K M:Nat}(h:GsOk s K M){a b:Bd.Ed}(ha:(0≤a.u∧a.u≤(s.ks.length:Int))∧(0≤a.v∧a.v≤(s.ks.length:Int))∧-1010000000000≤a.w∧a.w≤1010000000000)(hb:(0≤b.u∧b.u≤(s.ks.length:Int))∧(0≤b.v∧b.v≤(s.ks.length:Int))∧-1010000000000≤b.w∧b.w≤1010000000000):GsOk ⟨s.ks,s.es++[a,b]⟩ K (M+2):=by
 refine⟨h.k,by show(s.es++[a,b]).length≤_;rw[List.length_append];have:=h.m;grind,fun e he=> ?_⟩;rcases List.mem_append.1 he with q|q
 ·exact h.e e q
 grind
theorem nuK_has{ks:List Key}{k:Key}(h:k∈ks):nuK ks k=ks:=if_pos h
theorem nuK_mem{ks:List Key}{k:Key}:k∈nuK ks k:=by
 grind [nuK,List.mem_append_right,List.mem_cons_self]
theorem nuK_sub{ks:List Key}{k x:Key}(h:x∈ks):x∈nuK ks k:=by
 grind [nuK,List.mem_append_left]
theorem bQ_ok{x:Dm}{p n:Int}{s:Gs}{K M:Nat}{ps:List Int}(h:GsOk s K M)(hn:1≤n∧n≤(s.ks.length:Int))(hk:∀q∈ps,(x.id,q)∈s.ks):∀j,j≤ps.length→GsOk (bQ x p n s ps j) K (M+2*j)∧(bQ x p n s ps j).ks=s.ks
 |0,_=>⟨h,rfl⟩
 |j+1,hj=>by
  obtain⟨ih,hks⟩:=bQ_ok (x:=x) (p:=p) (n:=n) h hn hk j Om;have e:bQ x p n s ps (j+1)=bQ1 x p n (bQ x p n s ps j) ps[j]! :=rfl;rw[e];have hm:=hk _ (mem_b (show j<ps.length from hj));rw[←hks]at hm hn;rw[←hks];generalize bQ x p n s ps j=t at ih hm hn;have h2:=nuK_rng t.ks (x.id,ps[j]!);have hb:=Iv.str_bound (p-ps[j]!) x.ppm;unfold bQ1;rw[nuK_has hm]at h2 ⊢;refine⟨(ih.two ⟨?_,?_,?_⟩ ⟨?_,?_,?_⟩).up Om Om,rfl⟩<;>dsimp only<;>omega
theorem bP_ok{x:Dm}{s:Gs}{K M:Nat}{ps:List Int}(h:GsOk s K M)(hp:∀y∈ps,0≤y∧y≤1000000000000):∀i,i≤ps.length→i≤37→GsOk (bP x ps s i) (K+i) (M+74*i)∧∀y∈ps.take i,(x.id,y)∈(bP x ps s i).ks
 |0,_,_=>⟨h,fun y hy=>by simp at hy⟩
 |i+1,hi,h37=>by
  obtain⟨ih,hm⟩:=bP_ok (x:=x) h hp i Om Om;have e:bP x ps s (i+1)=bP1 x ps (bP x ps s i) i:=rfl;rw[e];generalize bP x ps s i=t at ih hm;have hy:=hp _ (mem_b (show i<ps.length from hi));have h1:=ih.key (x.id,ps[i]!);have h2:=nuK_rng t.ks (x.id,ps[i]!);have hall:∀y∈ps.take (i+1),(x.id,y)∈nuK t.ks (x.id,ps[i]!):=fun y hy=>by
   rw[take_1 (show i<ps.length from hi)]at hy;rcases List.mem_append.1 hy with q|q<;>simp_all [List.mem_append,nuK_sub,List.mem_singleton,nuK_mem]
  unfold bP1;split
  ·refine⟨(h1.two ⟨?_,?_,?_⟩ ⟨?_,?_,?_⟩).up Om Om,hall⟩<;>dsimp only<;>omega
  ·obtain⟨a,b⟩:=bQ_ok (x:=x) (p:=ps[i]!) (ps:=ps.take i) h1 h2 (fun q hq=>nuK_sub (hm q hq)) i (by grind);exact⟨a.up Om Om,by grind⟩
theorem dpF_ok{l:List Sn}{id at_:Int}{x:Dm}(h:SnR l)(hl:l.length≤12)(ha:0≤at_∧at_≤1000000000000):(dpF l id at_ x).length≤37∧∀y∈dpF l id at_ x,0≤y∧y≤1000000000000:=by
 obtain⟨a,b⟩:=ptF_ok (id:=x.id) h;unfold dpF;rw[srtI_len];have key:(if x.id=id∧¬at_∈ptF l x.id then ptF l x.id++[at_]else ptF l x.id).length≤37∧∀y∈(if x.id=id∧¬at_∈ptF l x.id then ptF l x.id++[at_]else ptF l x.id),0≤y∧y≤1000000000000:=by
  grind
 simp_all [And.intro,srtI,List.mem_mergeSort]
theorem bD_ok{d:List Dm}{l:List Sn}{id at_:Int}(h:SnR l)(hl:l.length≤12)(ha:0≤at_∧at_≤1000000000000):∀k,GsOk (bD d l id at_ k) (37*k) (2738*k)
 |0=>⟨Nat.le_refl _,Nat.le_refl _,fun e he=>by cases he⟩
 |k+1=>by
  have ih:=bD_ok (d:=d) (id:=id) h hl ha k;have hd:=dpF_ok (id:=id) (x:=d[k]!) h hl ha;exact(bP_ok (x:=d[k]!) ih hd.2 _ Nl hd.1).1.up Om Om
theorem bS_ok{s:Gs}{K M:Nat}(h:GsOk s K M)(l:List Sn):∀j,GsOk (fN bS1 s l j) (K+3*j) (M+2*j)
 |0=>h
 |j+1=>by
  have ih:=bS_ok h l j;show GsOk (bS1 (fN bS1 s l j) l[j]!) _ _;generalize fN bS1 s l j=t at ih;have a1:=ih.key (l[j]!.a,l[j]!.ta);have a2:=a1.key (l[j]!.b,l[j]!.lo);have a3:=a2.key (l[j]!.b,l[j]!.hi);have r1:=nuK_rng t.ks (l[j]!.a,l[j]!.ta);have r2:=nuK_rng (nuK t.ks (l[j]!.a,l[j]!.ta)) (l[j]!.b,l[j]!.lo);have r3:=nuK_rng (nuK (nuK t.ks (l[j]!.a,l[j]!.ta)) (l[j]!.b,l[j]!.lo)) (l[j]!.b,l[j]!.hi);have n2:=nuK_len (nuK t.ks (l[j]!.a,l[j]!.ta)) (l[j]!.b,l[j]!.lo);have n3:=nuK_len (nuK (nuK t.ks (l[j]!.a,l[j]!.ta)) (l[j]!.b,l[j]!.lo)) (l[j]!.b,l[j]!.hi);refine(a3.two ⟨?_,?_,?_⟩ ⟨?_,?_,?_⟩).up Om Om<;>dsimp only<;>omega
def far:Int:=9223372036854775807
def rx1(back:Bool)(s:List Int×Bool)(e:Bd.Ed):List Int×Bool:=
 if s.1[(if back=true then e.v else e.u).toNat]!≠far∧s.1[(if back=true then e.v else e.u).toNat]! +e.w<s.1[(if back=true then e.u else e.v).toNat]!
 then(s.1.set (if back=true then e.u else e.v).toNat (s.1[(if back=true then e.v else e.u).toNat]! +e.w),false)else s
def rxI(back:Bool)(es:List Bd.Ed)(D:List Int)(j:Nat):List Int×Bool:=fN (rx1 back) (D,true) es j
def rxN(back:Bool)(es:List Bd.Ed):Nat→List Int→List Int×Bool
 |0,D=>(D,false)
 |k+1,D=>if(rxI back es D es.length).2=true then((rxI back es D es.length).1,true)else rxN back es k (rxI back es D es.length).1
def DOk(D:List Int)(n:Nat)(B:Int):Prop:=D.length=n∧∀x∈D,x=far∨-B≤x∧x≤B
theorem DOk.up{D:List Int}{n:Nat}{B B':Int}(h:DOk D n B)(hB:B≤B'):DOk D n B':=⟨h.1,fun x hx=>(h.2 x hx).imp id fun q=>by omega⟩
theorem rx1_ok{back:Bool}{s:List Int×Bool}{e:Bd.Ed}{n:Nat}{B:Int}(h:DOk s.1 n B)(he:(0≤e.u∧e.u<(n:Int))∧(0≤e.v∧e.v<(n:Int))∧-1010000000000≤e.w∧e.w≤1010000000000):DOk (rx1 back s e).1 n (B+1010000000000):=by
 have hu:0≤(if back=true then e.v else e.u)∧(if back=true then e.v else e.u)<(n:Int):=Om;unfold rx1;generalize (if back=true then e.v else e.u)=u at hu ⊢;generalize (if back=true then e.u else e.v)=v;split
 ·rename_i q;refine⟨by rw[List.length_set];exact h.1,fun x hx=> ?_⟩;rcases List.mem_or_eq_of_mem_set hx with r|rfl
  ·exact(h.2 x r).imp id fun q=>by omega
  ·have hm:u.toNat<s.1.length:=by rw[h.1];omega
   rcases h.2 _ (mem_b hm)with r|r<;>grind
 ·exact h.up Om
theorem rxI_ok{back:Bool}{es:List Bd.Ed}{D:List Int}{n:Nat}{B:Int}(h:DOk D n B)(he:∀e∈es,(0≤e.u∧e.u<(n:Int))∧(0≤e.v∧e.v<(n:Int))∧-1010000000000≤e.w∧e.w≤1010000000000):∀j,j≤es.length→DOk (rxI back es D j).1 n (B+1010000000000*(j:Int))
 |0,_=>by rw[show B+1010000000000*((0:Nat):Int)=B from Om];exact h
 |j+1,hj=>by
  have ih:=rxI_ok (back:=back) h he j Om;exact(rx1_ok (back:=back) ih (he _ (mem_b (show j<es.length from hj)))).up Om
theorem rxN_step{back:Bool}{es:List Bd.Ed}{k:Nat}{D:List Int}(hk:1≤k)(h:¬(rxI back es D es.length).2=true):rxN back es k D=rxN back es (k-1) (rxI back es D es.length).1:=by
 obtain⟨g,rfl⟩:∃g,k=g+1:=⟨k-1,Om⟩;exact if_neg h
theorem rxN_stop{back:Bool}{es:List Bd.Ed}{k:Nat}{D:List Int}(hk:1≤k)(h:(rxI back es D es.length).2=true):rxN back es k D=((rxI back es D es.length).1,true):=by
 obtain⟨g,rfl⟩:∃g,k=g+1:=⟨k-1,Om⟩;exact if_pos h
theorem rxN_len{back:Bool}{es:List Bd.Ed}:∀(k:Nat) (D:List Int),(rxN back es k D).1.length=D.length
 |0,_=>rfl
 |k+1,D=>by
  have key:∀j,(rxI back es D j).1.length=D.length:=fun j=>by
   induction j with
   |zero=>rfl
   |succ j ih=>
    show(rx1 back (rxI back es D j) es[j]!).1.length=_;unfold rx1;grind
  unfold rxN;split
  ·grind
  ·rw[rxN_len k];grind
theorem DOk.len{back:Bool}{es:List Bd.Ed}{n:Nat}(he:∀e∈es,(0≤e.u∧e.u<(n:Int))∧(0≤e.v∧e.v<(n:Int))∧-1010000000000≤e.w∧e.w≤1010000000000):∀(k:Nat) (D:List Int) (B:Int),DOk D n B→0≤B→DOk (rxN back es k D).1 n (B+1010000000000*(es.length:Int)*(k:Int))
 |0,D,B,h,_=>h.up Om
 |k+1,D,B,h,hB=>by
  have h1:=rxI_ok (back:=back) h he es.length Nl;have hm:1010000000000*(es.length:Int)*((k+1:Nat):Int)=1010000000000*(es.length:Int)*(k:Int)+1010000000000*(es.length:Int):=by
   rfl
  have hp:0≤1010000000000*(es.length:Int)*(k:Int):=Int.mul_nonneg Om Om;unfold rxN;split
  ·exact h1.up Om
  ·exact(DOk.len he k _ _ h1 Om).up Om
def dz(n:Nat):List Int:=(List.replicate n far).set 0 0
def bdE(d:List Dm)(l:List Sn)(id at_:Int):Int:=
 if ckE d l≠0 then ckE d l else if¬(ixD d id≥0)then 5 else if at_<0∨at_>1000000000000 then 2 else if lnkF d l id=false then 12
 else if(rxN false (bF d l id at_).es ((bF d l id at_).ks.length+1+1) (List.replicate ((bF d l id at_).ks.length+1) 0)).2=false then 12 else 0
def bdD(back:Bool)(d:List Dm)(l:List Sn)(id at_:Int):Int:=
 (rxN back (bF d l id at_).es ((nuK (bF d l id at_).ks (id,at_)).length+1+1) (dz ((nuK (bF d l id at_).ks (id,at_)).length+1))).1[(Bd.nix (nuK (bF d l id at_).ks (id,at_)) (id,at_)).toNat]!
def bdL(d:List Dm)(l:List Sn)(id at_:Int):Int:=if bdE d l id at_≠0 then 0 else-bdD true d l id at_
def bdH(d:List Dm)(l:List Sn)(id at_:Int):Int:=if bdE d l id at_≠0 then 0 else bdD false d l id at_
theorem ck_rng{d:List Dm}{l:List Sn}(h:ckE d l=0):SnR l∧d.length≤8:=by
 unfold ckE at h;split at h
 ·cases h
 split at h
 ·cases h
 rename_i q1 q2;split at h
 ·cases h
 split at h
 ·rename_i q;omega
 refine⟨fun x hx=> ?_,Om⟩;obtain⟨i,hi,rfl⟩:=mem_at hx;have hs:=fE_ok.1 h i hi;unfold snE at hs;have rd:∀n,¬rdB n=false→0≤n∧n≤1000000000000:=fun n hn=>by
  simp_all [rdB,true,false,absurd,Bool.and_eq_true,decide_eq_true_eq]
 split at hs<;>grind
end TW
end Go.Proofs.YtaclfjjipnpboaaGreat
namespace Go.Eng
open Go Go.RowKit
section
variable{P:Program}{n:Nat}{ops:Array Oper}{Q:Exit→Act→World→Prop}{E:Env}{W w:World}{L L':List Res}{o:Oper}{rest:List Oper}{d:Nat}
theorem cp0{α:Type}{e t:TypeId}{f:α→List Value}{A B:Option Addr}{len cap m c':Nat}{l s:List α}{c:Call}(H:Hp W w L)(k:Nat)(hk:L[k]? =some (row e f 1 (.slice A len cap) l))(src:Ls w B m c' f 1 s)(hU:P.underlying t=some (.slice e))(hs:(P.info? e).map (·.size)=some 1)(h1:∀x,∀u∈f x,u.oneCell'=true)(hl:0<len)(hm:0<m)
  (h:∀w',Hp W w' L'→WL P n ops Q rest ((d,.int .i64 ((min m len:Nat):Int))::E) w')
  (hd:o.dst=some d:=by exact rfl) (hn:d<n:=by exact blt rfl) (hg:o.guard=none:=by exact rfl) (ho:o.op= .call c:=by exact rfl) (hc:c.callee= .builtin .copy:=by exact rfl) (ht:c.argTypes= #[t,t]:=by exact rfl) (ha:evs E c.args.toList=some [.slice A len cap,.slice B m c']:=by exact rfl)
  (p:Put (row e f 1 (.slice A len cap) (s.take (min m len)++l.drop (min m len))) k (row e f 1 (.slice A len cap) l) L L':=by repeat (first|exact Put.here|apply Put.there)) (hf:∀x,(f x).length=1:=by exact fun _=>rfl):WL P n ops Q (o::rest) E w:=
 WL.copy0 hd hn hg ho hc ht hU hs ha (H.get hk) src hf h1 hl hm fun w' ow gr=>h w' (H.grown p gr ow (.inl rfl))
theorem cpEX{C:World→Prop}{Q:Act→World→Prop}{r:Ord}{i:Nat}{α:Type}{e t:TypeId}{f:α→List Value}{A B:Option Addr}{j len cap m c':Nat}{l s:List α}{c:Call}(hC:C w)(H:Hp W w L)(k:Nat)(hk:L[k]? =some (row e f 1 (.slice A len cap) l))(src:Ls w B m c' f 1 s)(hU:P.underlying t=some (.slice e))(hs:(P.info? e).map (·.size)=some 1)(h1:∀x,∀u∈f x,u.oneCell'=true)(hl:j<len)(hm:0<m)
  (h:∀w',Hp W w' L'→WX P n ops C Q r ((d,.int .i64 ((min m (len-j):Nat):Int))::E) w')
  (hi:ops[i]? =some o:=by exact rfl) (hd:o.dst=some d:=by exact rfl) (hn:d<n:=by exact blt rfl) (hg:o.guard=none:=by exact rfl) (ho:o.op= .call c:=by exact rfl) (hc:c.callee= .builtin .copy:=by exact rfl) (ht:c.argTypes= #[t,t]:=by exact rfl) (ha:evs E c.args.toList=some [.slice (if cap=j then A else A.map (·.add (j*1))) (len-j) (cap-j),.slice B m c']:=by exact rfl)
  (p:Put (row e f 1 (.slice A len cap) (l.take j++s.take (min m (len-j))++l.drop (j+min m (len-j)))) k (row e f 1 (.slice A len cap) l) L L':=by repeat (first|exact Put.here|apply Put.there)) (hf:∀x,(f x).length=1:=by exact fun _=>rfl):WX P n ops C Q (.alt i r .none) E w:=
 WX.run hi hd hn hg hC (Run.copyE ho hc ht hU hs ha (H.get hk) src hf h1 hl hm) fun _ w' ⟨he,ow,gr⟩=>by subst he;exact h w' (H.grown p gr ow (.inl rfl))
theorem bsX{C:World→Prop}{Q:Act→World→Prop}{r:Ord}{i:Nat}{t e len:Nat}{parts:Array (Nat×Operand)}{ps:List (Nat×Value)}{z:Value}{zs cs:List Value}{sz by':Nat}(hC:C w)(H:Hp W w L)(hU:P.underlying t=some (.slice e))(hT:TI P e z sz by')(h:∀g w',Hp W w' (box g e cs::L)→WX P n ops C Q r ((d,.slice (some ⟨g,0,none⟩) len len)::E) w')
  (hi:ops[i]? =some o:=by exact rfl) (hd:o.dst=some d:=by exact rfl) (hn:d<n:=by exact blt rfl) (hg:o.guard=none:=by exact rfl) (ho:o.op= .buildSlice t len parts:=by exact rfl) (hp:(len*sz !=0)=true:=by exact rfl) (hs:Nat.ble (len*sz) 16777216=true:=by exact rfl)
  (hz:((Array.range (len*sz)).map (z.cells[·%z.cells.size]!))=zs.toArray:=by kernel_rfl) (hps:evp E parts.toList=some ps:=by exact rfl) (hf:fillP (fun i=>some (i*sz,sz)) zs ps=some cs:=by exact rfl):WX P n ops C Q (.alt i r .none) E w:=by
 refine WX.run hi hd hn hg hC (Run.bslice ho hU hT hp (ble hs) hz hps hf) ?_;rintro _ w' ⟨g,rfl,e,x,b⟩;exact h g w' (H.new x b fun b' hb=>by rw[show b'=g from hb,e];omega)
end
end Go.Eng
namespace Go.Num
theorem mul_split{x y p00 p01 p10 p11:Int}(_hx:0≤x∧x≤18446744073709551615)(_hy:0≤y∧y≤18446744073709551615)
  (h00:(x%4294967296)*(y%4294967296)=p00) (h01:(x%4294967296)*(y/4294967296)=p01) (h10:(x/4294967296)*(y%4294967296)=p10) (h11:(x/4294967296)*(y/4294967296)=p11):
  x*y=18446744073709551616*p11+4294967296*(p10+p01)+p00:=by
 grind
theorem ne_beq{a b:Int}(h:a≠b):(a==b)=false:=by grind
end Go.Num
