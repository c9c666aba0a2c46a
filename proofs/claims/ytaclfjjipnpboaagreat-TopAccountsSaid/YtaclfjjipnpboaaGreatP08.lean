/- Part 8 of the proof. Conditions: what each theorem states. -/
import Derived.Test.YtaclfjjipnpboaaGreatP04
import Derived.Test.YtaclfjjipnpboaaGreatP01
import Derived.Test.YtaclfjjipnpboaaGreatP07
set_option linter.all false
set_option maxHeartbeats 4000000
set_option maxRecDepth 4000
section
attribute [local irreducible] Go.Eng.WC Go.Eng.WL Go.Eng.WK Go.Eng.WQ Go.Eng.WX Go.Eng.Yld
namespace Go.Proofs.YtaclfjjipnpboaaGreat
open Go Go.Eng Go.RowKit
namespace TW
theorem nanI_any(x:Int)(w:World):
  Cr 86 #[.int .i64 x] w (.bool false):=by
 have H:=(Hp.nil w);refine Wb Tryz.func86 ?_;refine G6 ?_;refine yy (Yld.cast (Y.neq rfl rfl rfl) (vb (show(!(x==x))=false from by simp[beqB_self]))) ?_;refine go ?_;refine Rt [_] ?_;exact⟨rfl,H.ext⟩
theorem cmpI_any(x:Int)(y:Int)(w:World):
  Cr 44 #[.int .i64 x,.int .i64 y] w (.int .i64 (cmpI x y)):=by
 have H:=(Hp.nil w);refine Wb Tryz.func44 ?_;refine go ?_;refine c1 H Fh (nanI_any _ _) fun z H=> ?_;refine go ?_;refine c1 H Fh (nanI_any _ _) fun z H=> ?_;refine go ?_;refine WC.condF rfl ?_;refine go ?_;refine WC.condF rfl ?_;refine go ?_;refine Cd (fun p10=> ?_) fun p10=> ?_
 ·refine G3 ?_;refine sb [4] ?_;refine go ?_;refine Rt [_] ?_;exact⟨ret1 (vi (Eq.symm (ite_to p10 rfl))),H.ext⟩
 ·refine go ?_;refine Cd (fun p14=> ?_) fun p14=> ?_
  ·refine go ?_;refine Rt [_] ?_;exact⟨ret1 (vi (Eq.symm (ite_no p10 (ite_to p14 rfl)))),H.ext⟩
  ·refine go ?_;refine Rt [_] ?_;exact⟨ret1 (vi (Eq.symm (ite_no p10 (ite_no p14 rfl)))),H.ext⟩
theorem nanS_any(x:ByteArray)(w:World):
  Cr 162 #[.string x] w (.bool false):=by
 have H:=(Hp.nil w);refine Wb Tryz.func162 ?_;refine G6 ?_;refine yy (Yld.cast (Y.neqStr rfl rfl rfl) (vb (show(!(x==x))=false from by simp[beqB_self]))) ?_;refine go ?_;refine Rt [_] ?_;exact⟨rfl,H.ext⟩
theorem cmpS_any(x:ByteArray)(y:ByteArray)(w:World):
  Cr 99 #[.string x,.string y] w (.int .i64 (cmpS x y)):=by
 have H:=(Hp.nil w);refine Wb Tryz.func99 ?_;refine go ?_;refine c1 H Fh (nanS_any _ _) fun z H=> ?_;refine go ?_;refine c1 H Fh (nanS_any _ _) fun z H=> ?_;refine G6 ?_;refine sb [0,1,6,11] ?_;refine WC.condF rfl ?_;refine go ?_;refine WC.condF rfl ?_;refine G6 ?_;refine yy (Y.lssStr rfl rfl rfl) ?_;refine go ?_;refine WC.cond rfl (fun h10=> ?_) (fun h10=> ?_)
 ·refine go ?_;refine Rt [_] ?_;exact⟨ret1 (vi (Eq.symm (ite_to h10 rfl))),H.ext⟩
 ·refine G6 ?_;refine yy (Y.gtrStr rfl rfl rfl) ?_;refine go ?_;refine WC.cond rfl (fun h14=> ?_) (fun h14=> ?_)
  ·refine go ?_;refine Rt [_] ?_;exact⟨ret1 (vi (Eq.symm (ite_no (nt_f h10) (ite_to h14 rfl)))),H.ext⟩
  ·refine go ?_;refine Rt [_] ?_;exact⟨ret1 (vi (Eq.symm (ite_no (nt_f h10) (ite_no (nt_f h14) rfl)))),H.ext⟩
theorem or_any(A_l:Option Addr)(n_l c_l:Nat)(l:List Int)(w:World)(h_l:Ls w A_l n_l c_l ic 1 l):
  Cr 93 #[.slice A_l n_l c_l] w (.int .i64 (orF l)):=by
 have H:=(Hp.nil w);have e_l:=h_l.len;have z_l:=h_l.nle;refine Wb Tryz.func93 ?_;refine G12 ?_;refine sb [3,6,7,8] ?_;refine go ?_;refine sb [8,3,6,7] ?_;refine WC.loopS 1 (fun mz Ed W'=>∃j:Nat,mz=n_l-j∧Ed=[(8,.int .i64 ((j:Nat):Int))]∧Hp w W' ([])∧(j≤n_l)∧(fE (fun i=>l[i]!) j=0)) _ ⟨0,rfl,rfl,(H.pick []),(Nat.zero_le _),rfl⟩ ?_;rintro _ _ z ⟨j,rfl,rfl,H,jl,hp⟩;refine go ?_;refine Cd (fun p7=> ?_) fun p7=> ?_
 ·have b10:j<n_l:=Om;refine go ?_;refine Cd (fun p12=> ?_) fun p12=> ?_
  ·refine go ?_;refine Rt [_] ?_;subst e_l;exact⟨ret1 (vi (Eq.symm (fE_ret hp rfl p12 Om))),H.ext⟩
  ·refine go ?_;exact Rs [(8,_)] Sx ⟨(j+1),rfl,rfl,(H.pick []),Om,(fE_next hp (Decidable.of_not_not (fun q=>q p12)))⟩
 ·refine G9 ?_;refine sb [2] ?_;refine go ?_;refine Rt [_] ?_;subst e_l;exact⟨ret1 (vi (Eq.symm (fE_end hp Om))),H.ext⟩
theorem nx_zero{W w:World}{M:List Res}(H:Hp W w M):∀n,Hp W w (big nxF (List.replicate n default)::M)
 |0=>H.bigNil nxF
 |n+1=>by
  have h:=Hp.bigPush nxF (default:Nx) ((nx_zero H n).nilRow 3 ic 1);rwa[←List.replicate_succ']at h
theorem edges_any(X:Cw)(ids:List Ix)(es:List Ev)(ns:List Nx)(W:World)(R:List Res)(w:World)(H:Hp W w (box X.g 272 X.cells::row 78 Ix.c 2 (.slice X.iA X.iN X.iC) ids::row 81 Ev.c 6 (.slice X.eA X.eN X.eC) es::row 65 Nx.c 1 (.slice X.nA X.nN X.nC) ns::big nxF ns::R))(hN:ns.map Nx.l=List.replicate ids.length [])(he:es.length=ids.length)(h1:ids.length≤100):
  Calls Tryz.prog 200 #[.pointer (some ⟨X.g,0,none⟩)] w fun e w'=>∃ns',e= .returned (resVal [])∧Hp W w' (box X.g 272 X.cells::row 78 Ix.c 2 (.slice X.iA X.iN X.iC) ids::row 81 Ev.c 6 (.slice X.eA X.eN X.eC) es::row 65 Nx.c 1 (.slice X.nA X.nN X.nC) ns'::big nxF ns'::R)∧ns'.map Nx.l=edF ids es:=by
 have e_i:=(H.l 1).len;have e_e:=(H.l 2).len;have e_n:=(H.l 3).len;have z_e:=(H.l 2).nle;have nl0:ns.length=ids.length:=by rw[←List.length_map (f:=Nx.l),hN,List.length_replicate]
 have hM:∀x v,iget (sndN es es.length) x=some v→0≤v∧v<(ids.length:Int):=fun x v hv=>by have:=sndN_rng es _ x v hv;omega
 refine Wb Tryz.func200 ?_;refine go ?_;refine mm H fun g8 z H=> ?_;refine go ?_;refine sb [16,0,2,14,15] ?_;refine WC.loopS 1 (fun mz Ed W'=>∃j:Nat,mz=X.eN-j∧Ed=[(16,.int .i64 ((j:Nat):Int))]∧Hp W W' (mpi g8 (im (sndN es j))::_::_::_::_::_::R)∧(j≤X.eN)) _ ⟨0,rfl,rfl,H,(Nat.zero_le _)⟩ ?_;rintro _ _ z ⟨j,rfl,rfl,H,jl⟩;refine go ?_;refine Cd (fun p14=> ?_) fun p14=> ?_
 ·have b17:j<X.eN:=Om;refine go ?_;refine al H ti81 fun g18 z H=> ?_;refine go ?_;refine st H 0 ti81 fun z H=> ?_;refine go ?_;refine Cd (fun p21=> ?_) fun p21=> ?_
  ·refine go ?_;refine mu H 1 u123 u3 fun z H=> ?_;refine go ?_;exact Rs [(16,_)] Sx ⟨(j+1),rfl,rfl,(by rw[show sndN es (j+1)=iset (sndN es j) es[j]!.n (j:Int)from(ite_to p21 rfl),←mset_im];exact(H.drop [0])),Om⟩
  ·refine go ?_;exact Rs [(16,_)] Sx ⟨(j+1),rfl,rfl,(by rw[show sndN es (j+1)=sndN es j from(ite_no p21 rfl)];exact(H.drop [0])),Om⟩
 ·obtain rfl:j=es.length:=Om;refine G14 ?_;refine sb [0,2,32,33,34] ?_;refine go ?_;refine sb [34,0,2,32,33] ?_;refine WC.loopS 1 (fun mz Ed W'=>∃i:Nat,∃ms:List Nx,mz=X.eN-i∧Ed=[(34,.int .i64 ((i:Nat):Int))]∧Hp W W' (_::_::_::_::row 65 Nx.c 1 (.slice X.nA X.nN X.nC) ms::big nxF ms::R)∧(i≤X.eN)∧(ms.map Nx.l=nxtN ids es (sndN es es.length) i)) _ ⟨0,ns,rfl,rfl,H,(Nat.zero_le _),hN⟩ ?_;rintro _ _ z ⟨i,ms,rfl,rfl,H,il,hn⟩;have lb:=nxtN_ok (ids:=ids) (es:=es) hM i Om;have nl:ms.length=ids.length:=by rw[←List.length_map (f:=Nx.l),hn];exact lb.1
  refine go ?_;refine Cd (fun p26=> ?_) fun p26=> ?_
  ·have b29:i<X.eN:=Om;refine go ?_;refine al H ti81 fun g30 z H=> ?_;refine go ?_;refine st H 0 ti81 fun z H=> ?_;refine go ?_;refine Qr ?_;refine G8 ?_;refine qg (fun hb=>Yld.cast (Y.sub rfl (evg rfl hb) rfl (wrap_i64 (by have q0:=(dec_t hb);first|omega|(dsimp only;omega)))) (vi (show(i:Int)-1=(((i-1):Nat):Int)from(by have q0:=(dec_t hb);omega)))) ?_;refine qg (fun hb=>Y.indexLs (i-1) (H.l 3) rfl u269 ti78 (evg rfl hb) (evg rfl hb) (by have q0:=(dec_t hb);omega) (by have q0:=(dec_t hb);omega)) ?_;refine go ?_;refine Qd H fun z H=> ?_;refine go ?_;refine Cd (fun p34=> ?_) fun p34=> ?_
   ·obtain⟨⟨Af35,nf35,cf35,lf35⟩,xf35⟩:∃y,ms[(i-1)]! =y:=⟨_,rfl⟩;have kf35:(i-1)<ms.length:=Om;have gf35:((nxtN ids es (sndN es es.length) i))[(i-1)]! =lf35:=by rw[←hn,map_b Nx.l kf35,xf35]
    have H:=H.front [6];have H:Hp W _ (row 3 ic 1 (.slice Af35 nf35 cf35) lf35::hole nxF ms ((i-1))::_):=Hp.bigOutX nxF ⟨Af35,nf35,cf35,lf35⟩ xf35 H kf35;have vf35:Value.slice ms[(i-1)]!.A ms[(i-1)]!.n ms[(i-1)]!.cp= .slice Af35 nf35 cf35:=by rw[xf35]
    have e_nf35:=(H.l 0).len;have z_nf35:=(H.l 0).nle;refine Xr H (HpC W _) (.load 0 (.load 1 (.load 2 (.load 3 (.load 4 (.load 5 (.load 6 (.load 7 (.load 8 (.load 9 (.load 10 (.load 11 (.load 12 (.load 14 (.alt 13 (.alt 15 (.alt 16 (.load 17 (.alt 18 (.fin) (.none))) (.none)) (.none)) (.alt 15 (.alt 13 (.alt 16 (.load 17 (.alt 18 (.fin) (.none))) (.none)) (.none)) (.none))))))))))))))))) (H.pick [1,1,1,1,1,1]) fun z H=> ?_;refine G5 ?_;refine yx rfl (Yld.cast (Y.sub rfl rfl rfl Wo) (vi (show(i:Int)-1=(((i-1):Nat):Int)from Om))) ?_;refine G5 ?_;refine yx rfl (Yld.cast (Y.sub rfl rfl rfl Wo) (vi (show(i:Int)-1=(((i-1):Nat):Int)from Om))) ?_;have b38:(i-1)<X.nN:=Om;refine yx rfl (Y.indexLs (i-1) (H.l 7) rfl u135 ti65 rfl rfl Om b38) ?_;refine go ?_;refine bs1L (H.pick [1,1,1,1,1,1]) H (fun z H=>Yld.cast (Y.load1 rfl u65 rfl rfl (Ls.at_eq (H.l 7) b38 rfl)) vf35) u65 ti3 fun g39 z H=> ?_;refine apX (H.pick [2,2,2,2,2,2]) H 1 0 rfl [(i:Int)] u65 ti3 rfl ic_one (room_le (by rw[←gf35];exact(lb.at_ Om).2) (Nat.le_refl 1) Om) fun v41 z H=> ?_;have b42:(i-1)<X.nN:=Om;refine yx rfl (Y.indexLs (i-1) (H.l 8) rfl u135 ti65 rfl rfl Om b42) ?_;obtain⟨A43,n44,c45,rfl,_,_,_⟩:=H.op 1;refine steX (H.pick [2,2,2,2,2,2]) H 8 rfl ⟨A43,n44,c45,(lf35++[(i:Int)])⟩ b42 ti65 xf35 fun z H=> ?_;refine WX.nil (H.pick [2,2,2,2,2,2]) ?_;have H:=H.front [1,1];have H:Hp W _ (big nxF (ms.set ((i-1)) ⟨A43,n44,c45,(lf35++[(i:Int)])⟩)::_):=Hp.bigIn nxF ⟨A43,n44,c45,(lf35++[(i:Int)])⟩ H kf35;obtain⟨m1,q_m1⟩:∃m:List Nx,m=(ms.set ((i-1)) ⟨A43,n44,c45,(lf35++[(i:Int)])⟩):=⟨_,rfl⟩;rw[←q_m1]at H;have hm1:m1.map Nx.l=nxt1 ids (nxtN ids es (sndN es es.length) i) i:=by rw[q_m1,List.map_set,hn];refine Eq.trans ?_ (if_pos p34).symm;rw[gf35]
    have nl1:m1.length=ids.length:=by rw[q_m1,List.length_set];exact nl
    have lb1:=nxt1_ok (ids:=ids) lb (show i<ids.length by omega);refine G1 ?_;refine sb [0,2,5,6,32,33,34] ?_;refine G4 ?_;refine yy (Y.lookupOk rfl u123 u3 ti3 rfl rfl (fun _ h=>h▸(H.mi 3))) ?_;refine G1 ?_;refine yy (Yld.cast (Y.extract rfl rfl rfl) (mval_im _ _)) ?_;refine yy (Yld.cast (Y.extract rfl rfl rfl) (vb (isSome_im _ _))) ?_;refine go ?_;refine WC.cond rfl (fun h48=> ?_) (fun h48=> ?_)
    ·have p48:=(eq_t (and_t h48).2);obtain⟨kv,hkv⟩:=Option.isSome_iff_exists.1 (and_t h48).1;have hkr:=sndN_rng es _ _ _ hkv;have hkn:((iget (sndN es es.length) es[i]!.n).getD 0).toNat<ids.length:=by rw[hkv];show kv.toNat<_;omega
     have hkz:0≤((iget (sndN es es.length) es[i]!.n).getD 0):=by rw[hkv];exact hkr.1
     obtain⟨⟨Af49,nf49,cf49,lf49⟩,xf49⟩:∃y,m1[((iget (sndN es es.length) es[i]!.n).getD 0).toNat]! =y:=⟨_,rfl⟩;have kf49:((iget (sndN es es.length) es[i]!.n).getD 0).toNat<m1.length:=Om;have gf49:((nxt1 ids (nxtN ids es (sndN es es.length) i) i))[((iget (sndN es es.length) es[i]!.n).getD 0).toNat]! =lf49:=by rw[←hm1,map_b Nx.l kf49,xf49]
     have H:Hp W _ (row 3 ic 1 (.slice Af49 nf49 cf49) lf49::hole nxF m1 (((iget (sndN es es.length) es[i]!.n).getD 0).toNat)::_):=Hp.bigOutX nxF ⟨Af49,nf49,cf49,lf49⟩ xf49 H kf49;have vf49:Value.slice m1[((iget (sndN es es.length) es[i]!.n).getD 0).toNat]!.A m1[((iget (sndN es es.length) es[i]!.n).getD 0).toNat]!.n m1[((iget (sndN es es.length) es[i]!.n).getD 0).toNat]!.cp= .slice Af49 nf49 cf49:=by rw[xf49]
     have e_nf49:=(H.l 0).len;have z_nf49:=(H.l 0).nle;refine Xr H (HpC W _) (.load 0 (.load 1 (.load 2 (.load 3 (.load 4 (.load 5 (.load 6 (.load 7 (.load 8 (.load 9 (.load 10 (.load 12 (.alt 11 (.alt 13 (.alt 14 (.load 15 (.alt 16 (.fin) (.none))) (.none)) (.none)) (.alt 13 (.alt 11 (.alt 14 (.load 15 (.alt 16 (.fin) (.none))) (.none)) (.none)) (.none))))))))))))))) (H.pick [1,1,1,1,1,1,1]) fun z H=> ?_;have b52:((iget (sndN es es.length) es[i]!.n).getD 0).toNat<X.nN:=Om;refine G10 ?_;refine yx rfl (Y.indexLs ((iget (sndN es es.length) es[i]!.n).getD 0).toNat (H.l 8) rfl u135 ti65 rfl rfl (Int.toNat_of_nonneg hkz).symm b52) ?_;refine go ?_;refine bs1L (H.pick [1,1,1,1,1,1,1]) H (fun z H=>Yld.cast (Y.load1 rfl u65 rfl rfl (Ls.at_eq (H.l 8) b52 rfl)) vf49) u65 ti3 fun g53 z H=> ?_;refine apX (H.pick [2,2,2,2,2,2,2]) H 1 0 rfl [(i:Int)] u65 ti3 rfl ic_one (room_le (by rw[←gf49];exact(lb1.at_ hkn).2) (Nat.le_refl 1) Om) fun v55 z H=> ?_;have b56:((iget (sndN es es.length) es[i]!.n).getD 0).toNat<X.nN:=Om;refine yx rfl (Y.indexLs ((iget (sndN es es.length) es[i]!.n).getD 0).toNat (H.l 9) rfl u135 ti65 rfl rfl (Int.toNat_of_nonneg hkz).symm b56) ?_;obtain⟨A57,n58,c59,rfl,_,_,_⟩:=H.op 1;refine steX (H.pick [2,2,2,2,2,2,2]) H 9 rfl ⟨A57,n58,c59,(lf49++[(i:Int)])⟩ b56 ti65 xf49 fun z H=> ?_;refine WX.nil (H.pick [2,2,2,2,2,2,2]) ?_;have H:=H.front [1,1];have H:Hp W _ (big nxF (m1.set (((iget (sndN es es.length) es[i]!.n).getD 0).toNat) ⟨A57,n58,c59,(lf49++[(i:Int)])⟩)::_):=Hp.bigIn nxF ⟨A57,n58,c59,(lf49++[(i:Int)])⟩ H kf49;obtain⟨m2,q_m2⟩:∃m:List Nx,m=(m1.set (((iget (sndN es es.length) es[i]!.n).getD 0).toNat) ⟨A57,n58,c59,(lf49++[(i:Int)])⟩):=⟨_,rfl⟩;rw[←q_m2]at H;refine go ?_;exact Rs [(34,_)] Sx ⟨(i+1),m2,rfl,rfl,((H.drop [1,1,1]).front [1,1,1,1,1,0]),Om,(by rw[q_m2,List.map_set,hm1];refine Eq.trans ?_ (if_pos ⟨(and_t h48).1,(eq_t (and_t h48).2)⟩).symm;rw[gf49])⟩
    ·have p48:=((and_f h48).imp (fun h=>h) (fun h=>(eq_f h)));refine go ?_;exact Rs [(34,_)] Sx ⟨(i+1),m1,rfl,rfl,((H.drop [1,1]).front [1,1,1,1,1,0]),Om,(hm1.trans (if_neg (fun q=>(and_f h48).elim (fun h=>(nt_f h) q.1) (fun h=>(eq_f h) q.2))).symm)⟩
   ·have hm1:ms.map Nx.l=nxt1 ids (nxtN ids es (sndN es es.length) i) i:=hn.trans (if_neg (fun q=>p34.elim (fun h=>h q.1) (fun h=>h q.2))).symm;have nl1:=nl;have lb1:=nxt1_ok (ids:=ids) lb (show i<ids.length by omega);refine G2 ?_;refine sb [0,2,5,6,32,33,34] ?_;refine G4 ?_;refine yy (Y.lookupOk rfl u123 u3 ti3 rfl rfl (fun _ h=>h▸(H.mi 1))) ?_;refine G1 ?_;refine yy (Yld.cast (Y.extract rfl rfl rfl) (mval_im _ _)) ?_;refine yy (Yld.cast (Y.extract rfl rfl rfl) (vb (isSome_im _ _))) ?_;refine go ?_;refine WC.cond rfl (fun h62=> ?_) (fun h62=> ?_)
    ·have p62:=(eq_t (and_t h62).2);obtain⟨kv,hkv⟩:=Option.isSome_iff_exists.1 (and_t h62).1;have hkr:=sndN_rng es _ _ _ hkv;have hkn:((iget (sndN es es.length) es[i]!.n).getD 0).toNat<ids.length:=by rw[hkv];show kv.toNat<_;omega
     have hkz:0≤((iget (sndN es es.length) es[i]!.n).getD 0):=by rw[hkv];exact hkr.1
     obtain⟨⟨Af63,nf63,cf63,lf63⟩,xf63⟩:∃y,ms[((iget (sndN es es.length) es[i]!.n).getD 0).toNat]! =y:=⟨_,rfl⟩;have kf63:((iget (sndN es es.length) es[i]!.n).getD 0).toNat<ms.length:=Om;have gf63:((nxt1 ids (nxtN ids es (sndN es es.length) i) i))[((iget (sndN es es.length) es[i]!.n).getD 0).toNat]! =lf63:=by rw[←hm1,map_b Nx.l kf63,xf63]
     have H:=H.front [6];have H:Hp W _ (row 3 ic 1 (.slice Af63 nf63 cf63) lf63::hole nxF ms (((iget (sndN es es.length) es[i]!.n).getD 0).toNat)::_):=Hp.bigOutX nxF ⟨Af63,nf63,cf63,lf63⟩ xf63 H kf63;have vf63:Value.slice ms[((iget (sndN es es.length) es[i]!.n).getD 0).toNat]!.A ms[((iget (sndN es es.length) es[i]!.n).getD 0).toNat]!.n ms[((iget (sndN es es.length) es[i]!.n).getD 0).toNat]!.cp= .slice Af63 nf63 cf63:=by rw[xf63]
     have e_nf63:=(H.l 0).len;have z_nf63:=(H.l 0).nle;refine Xr H (HpC W _) (.load 0 (.load 1 (.load 2 (.load 3 (.load 4 (.load 5 (.load 6 (.load 7 (.load 8 (.load 9 (.load 10 (.load 12 (.alt 11 (.alt 13 (.alt 14 (.load 15 (.alt 16 (.fin) (.none))) (.none)) (.none)) (.alt 13 (.alt 11 (.alt 14 (.load 15 (.alt 16 (.fin) (.none))) (.none)) (.none)) (.none))))))))))))))) (H.pick [1,1,1,1,1,1]) fun z H=> ?_;have b66:((iget (sndN es es.length) es[i]!.n).getD 0).toNat<X.nN:=Om;refine G10 ?_;refine yx rfl (Y.indexLs ((iget (sndN es es.length) es[i]!.n).getD 0).toNat (H.l 7) rfl u135 ti65 rfl rfl (Int.toNat_of_nonneg hkz).symm b66) ?_;refine go ?_;refine bs1L (H.pick [1,1,1,1,1,1]) H (fun z H=>Yld.cast (Y.load1 rfl u65 rfl rfl (Ls.at_eq (H.l 7) b66 rfl)) vf63) u65 ti3 fun g67 z H=> ?_;refine apX (H.pick [2,2,2,2,2,2]) H 1 0 rfl [(i:Int)] u65 ti3 rfl ic_one (room_le (by rw[←gf63];exact(lb1.at_ hkn).2) (Nat.le_refl 1) Om) fun v69 z H=> ?_;have b70:((iget (sndN es es.length) es[i]!.n).getD 0).toNat<X.nN:=Om;refine yx rfl (Y.indexLs ((iget (sndN es es.length) es[i]!.n).getD 0).toNat (H.l 8) rfl u135 ti65 rfl rfl (Int.toNat_of_nonneg hkz).symm b70) ?_;obtain⟨A71,n72,c73,rfl,_,_,_⟩:=H.op 1;refine steX (H.pick [2,2,2,2,2,2]) H 8 rfl ⟨A71,n72,c73,(lf63++[(i:Int)])⟩ b70 ti65 xf63 fun z H=> ?_;refine WX.nil (H.pick [2,2,2,2,2,2]) ?_;have H:=H.front [1,1];have H:Hp W _ (big nxF (ms.set (((iget (sndN es es.length) es[i]!.n).getD 0).toNat) ⟨A71,n72,c73,(lf63++[(i:Int)])⟩)::_):=Hp.bigIn nxF ⟨A71,n72,c73,(lf63++[(i:Int)])⟩ H kf63;obtain⟨m2,q_m2⟩:∃m:List Nx,m=(ms.set (((iget (sndN es es.length) es[i]!.n).getD 0).toNat) ⟨A71,n72,c73,(lf63++[(i:Int)])⟩):=⟨_,rfl⟩;rw[←q_m2]at H;refine go ?_;exact Rs [(34,_)] Sx ⟨(i+1),m2,rfl,rfl,((H.drop [1,1]).front [1,1,1,1,1,0]),Om,(by rw[q_m2,List.map_set,hm1];refine Eq.trans ?_ (if_pos ⟨(and_t h62).1,(eq_t (and_t h62).2)⟩).symm;rw[gf63])⟩
    ·have p62:=((and_f h62).imp (fun h=>h) (fun h=>(eq_f h)));refine go ?_;exact Rs [(34,_)] Sx ⟨(i+1),ms,rfl,rfl,(H.drop [0]),Om,(hm1.trans (if_neg (fun q=>(and_f h62).elim (fun h=>(nt_f h) q.1) (fun h=>(eq_f h) q.2))).symm)⟩
  ·obtain rfl:i=es.length:=Om;refine G13 ?_;refine sb [0,113,114] ?_;refine go ?_;refine sb [114,0,113] ?_;refine WC.loopS 1 (fun mz Ed W'=>∃q:Nat,∃mq:List Nx,mz=X.nN-q∧Ed=[(114,.int .i64 ((q:Nat):Int))]∧Hp W W' (_::_::_::_::row 65 Nx.c 1 (.slice X.nA X.nN X.nC) mq::big nxF mq::R)∧(q≤X.nN)∧(mq.map Nx.l=edK (nxtN ids es (sndN es es.length) es.length) q)) _ ⟨0,ms,rfl,rfl,H,(Nat.zero_le _),hn⟩ ?_;rintro _ _ z ⟨q,mq,rfl,rfl,H,ql,hq⟩;have lb:=edK_ok (nxtN_ok (ids:=ids) (es:=es) hM es.length Om) q Om;have nl:mq.length=ids.length:=by rw[←List.length_map (f:=Nx.l),hq];exact lb.1
   refine go ?_;refine Cd (fun p77=> ?_) fun p77=> ?_
   ·obtain⟨⟨Af81,nf81,cf81,lf81⟩,xf81⟩:∃y,mq[q]! =y:=⟨_,rfl⟩;have kf81:q<mq.length:=Om;have gf81:((edK (nxtN ids es (sndN es es.length) es.length) q))[q]! =lf81:=by rw[←hq,map_b Nx.l kf81,xf81]
    have H:=H.front [5];have H:Hp W _ (row 3 ic 1 (.slice Af81 nf81 cf81) lf81::hole nxF mq (q)::_):=Hp.bigOutX nxF ⟨Af81,nf81,cf81,lf81⟩ xf81 H kf81;have vf81:Value.slice mq[q]!.A mq[q]!.n mq[q]!.cp= .slice Af81 nf81 cf81:=by rw[xf81]
    have e_nf81:=(H.l 0).len;have z_nf81:=(H.l 0).nle;have b84:q<X.nN:=Om;refine G15 ?_;refine yy (Yld.cast (Y.load1 rfl u65 rfl rfl (Ls.at_eq (H.l 6) b84 rfl)) vf81) ?_;refine c3 Fh (sortI_any _ _ _ _ _ (H.front [0]) (Nat.le_trans (by rw[←gf81];exact(lb.at_ Om).2) Om)) ?_;rintro _ z ⟨rfl,H⟩;refine⟨_,rfl,?_⟩;refine go ?_;refine Xr H (HpC W _) (.load 0 (.load 1 (.load 2 (.load 3 (.load 4 (.load 5 (.load 6 (.load 7 (.load 8 (.load 9 (.load 10 (.alt 11 (.alt 12 (.load 13 (.alt 14 (.fin) (.none))) (.none)) (.none))))))))))))) (H.pick [1,1,1,1,1]) fun z H=> ?_;have b85:q<X.nN:=Om;refine G11 ?_;refine WX.yldL rfl rfl (blt rfl) rfl (H.pick [1,1,1,1,1]) (Yld.cast (Y.load1 rfl u65 rfl rfl (Ls.at_eq (H.l 6) b85 rfl)) vf81) ?_;refine c3X (H.pick [1,1,1,1,1]) Fh (compactI_any _ _ _ _ _ (H.front [0]) (by rw[srtI_len];exact Nat.le_trans (by rw[←gf81];exact(lb.at_ Om).2) Om)) ?_;rintro _ z ⟨v86,rfl,H⟩;refine⟨_,rfl,?_⟩;have b87:q<X.nN:=Om;obtain⟨A88,n89,c90,rfl,_,_,_⟩:=H.op 0;refine go ?_;refine steX (H.pick [1,1,1,1,1]) H 6 rfl ⟨A88,n89,c90,(Lib.compact (srtI lf81))⟩ b87 ti65 xf81 fun z H=> ?_;refine WX.nil (H.pick [1,1,1,1,1]) ?_;have H:Hp W _ (big nxF (mq.set (q) ⟨A88,n89,c90,(Lib.compact (srtI lf81))⟩)::_):=Hp.bigIn nxF ⟨A88,n89,c90,(Lib.compact (srtI lf81))⟩ H kf81;obtain⟨m3,q_m3⟩:∃m:List Nx,m=(mq.set (q) ⟨A88,n89,c90,(Lib.compact (srtI lf81))⟩):=⟨_,rfl⟩;rw[←q_m3]at H;refine go ?_;exact Rs [(114,_)] Sx ⟨(q+1),m3,rfl,rfl,(H.front [1,1,1,1,1,0]),Om,(by rw[q_m3,List.map_set,hq];show _=List.set _ _ _;rw[gf81];rfl)⟩
   ·refine go ?_;refine En ?_;exact⟨mq,rfl,(H.drop [0]),by rw[hq];unfold edF;congr 1;omega⟩
section
variable{α:Type}[Inhabited α]
theorem swp_at{l:List α}{i j p:Nat}(hp:p<l.length):(swp l i j)[p]! =if j=p then l[i]! else if i=p then l[j]! else l[p]! :=by
 grind [swp,set_at]
theorem swp_perm{l:List α}{i j:Nat}(hi:i<l.length)(hj:j<l.length):(swp l i j).Perm l:=by
 grind [swp,bang_eq,List.set_set_perm]
theorem swr_at(a b:Nat):∀(k:Nat) (l:List α),a+k≤b→b+k≤l.length→∀p,p<l.length→(swr a b k l)[p]! =if a≤p∧p<a+k then l[p-a+b]! else if b≤p∧p<b+k then l[p-b+a]! else l[p]!
 |0,l,_,_,p,_=>by rw[if_neg Om,if_neg Om];rfl
 |k+1,l,h1,h2,p,hp=>by
  have ih:=swr_at a b k l Om Om;show(swp _ _ _)[p]! =_;rw[swp_at (by grind [swr_len]),ih (a+k) Om,ih (b+k) Om,ih p hp];grind
theorem swr_perm(a b:Nat):∀(k:Nat) (l:List α),a+k≤l.length→b+k≤l.length→(swr a b k l).Perm l
 |0,_,_,_=>List.Perm.refl _
 |k+1,l,h1,h2=>(swp_perm (by rw[swr_len];omega) (by rw[swr_len];omega)).trans (swr_perm a b k l Om Om)
theorem rotL_at:∀(f m i j:Nat) (l:List α),1≤i→1≤j→i≤m→m+j≤l.length→i+j≤f→∀p,p<l.length→(rotL f m i j l)[p]! =if m-i≤p∧p<m-i+j then l[p+i]! else if m-i+j≤p∧p<m+j then l[p-j]! else l[p]!
 |0,_,_,_,_,_,_,_,_,h,_,_=>by omega
 |f+1,m,i,j,l,h1,h2,h3,h4,h5,p,hp=>by
  unfold rotL;split
  ·split
   ·rename_i q1 q2;rw[rotL_at f m (i-j) j _ Om h2 Om (by grind [swr_len]) Om p (by grind [swr_len])];have sw:=swr_at (m-i) m j l Om h4;by_cases e1:m-(i-j)≤p∧p<m-(i-j)+j
    ·rw[if_pos e1,sw _ Om];by_cases e2:m≤p+(i-j)
     ·rw[if_neg Om,if_pos Om];by_cases e3:m-i≤p∧p<m-i+j
      ·omega
      ·rw[if_neg e3,if_pos Om];congr 1;omega
     ·omega
    ·rw[if_neg e1];by_cases e2:m-(i-j)+j≤p∧p<m+j
     ·rw[if_pos e2,sw _ Om,if_neg Om,if_neg Om,if_neg Om,if_pos Om]
     ·rw[if_neg e2,sw _ hp];by_cases e3:m-i≤p∧p<m-i+j
      ·rw[if_pos e3,if_pos e3];congr 1;omega
      grind
   ·rename_i q1 q2;rw[rotL_at f m i (j-i) _ h1 Om h3 (by rw[swr_len];omega) Om p (by grind [swr_len])];have sw:=swr_at (m-i) (m+j-i) i l Om Om;by_cases e1:m-i≤p∧p<m-i+(j-i)
    ·rw[if_pos e1,sw _ Om,if_neg Om,if_neg Om,if_pos Om]
    ·rw[if_neg e1];by_cases e2:m-i+(j-i)≤p∧p<m+(j-i)
     ·rw[if_pos e2,sw _ Om,if_pos Om,if_pos Om];congr 1;omega
     ·rw[if_neg e2,sw _ hp,if_neg Om];by_cases e3:m+j-i≤p∧p<m+j-i+i
      ·rw[if_pos e3,if_neg Om,if_pos Om];congr 1;omega
      grind
  ·rename_i q;have q:i=j:=Om;subst q;rw[swr_at (m-i) m i l Om h4 p hp];grind
theorem rotF_at{a m b:Nat}{l:List α}(h1:a<m)(h2:m<b)(h3:b≤l.length){p:Nat}(hp:p<l.length):(rotF a m b l)[p]! =if a≤p∧p<a+(b-m)then l[p+(m-a)]! else if a+(b-m)≤p∧p<b then l[p-(b-m)]! else l[p]! :=by
 grind [rotF,rotL_at]
theorem rotL_perm:∀(f m i j:Nat) (l:List α),i≤m→m+j≤l.length→(rotL f m i j l).Perm l
 |0,_,_,_,_,_,_=>List.Perm.refl _
 |f+1,m,i,j,l,h1,h2=>by
  unfold rotL;split
  ·split
   ·exact(rotL_perm f m _ _ _ Om (by rw[swr_len];omega)).trans (swr_perm _ _ _ _ Om Om)
   ·exact(rotL_perm f m _ _ _ Om (by rw[swr_len];omega)).trans (swr_perm _ _ _ _ Om Om)
  grind [swr_perm]
theorem rotF_perm{a m b:Nat}{l:List α}(h:m≤b)(hb:b≤l.length):(rotF a m b l).Perm l:=rotL_perm _ _ _ _ _ Om Om
theorem mvU_at(a:Nat):∀(k:Nat) (l:List α),a+k<l.length→∀p,p<l.length→(mvU a k l)[p]! =if p=a+k then l[a]! else if a≤p∧p<a+k then l[p+1]! else l[p]!
 |0,l,_,p,hp=>by
  show l[p]! =_;grind
 |k+1,l,h,p,hp=>by
  have ih:=mvU_at a k l Om;show(swp _ _ _)[p]! =_;rw[swp_at (by grind [mvU_len]),ih (a+k) Om,ih (a+k+1) Om,ih p hp,if_pos rfl,if_neg (show¬a+k+1=a+k by omega),if_neg (show¬(a≤a+k+1∧a+k+1<a+k) by omega)];grind
theorem mvD_at(m:Nat):∀(k:Nat) (l:List α),k≤m→m<l.length→∀p,p<l.length→(mvD m k l)[p]! =if p+k=m then l[m]! else if m<p+k∧p≤m then l[p-1]! else l[p]!
 |0,l,_,_,p,hp=>by
  show l[p]! =_;grind
 |k+1,l,h1,h2,p,hp=>by
  have ih:=mvD_at m k l Om h2;show(swp _ _ _)[p]! =_;rw[swp_at (by grind [mvD_len]),ih (m-k) Om,ih (m-k-1) Om,ih p hp,if_pos (show m-k+k=m by omega),if_neg (show¬m-k-1+k=m by omega),if_neg (show¬(m<m-k-1+k∧m-k-1≤m) by omega)];by_cases e1:m-k-1=p
  ·rw[if_pos e1,if_pos Om]
  ·rw[if_neg e1,if_neg (show¬p+(k+1)=m by omega)];by_cases e2:m-k=p<;>grind
theorem mvU_perm(a:Nat):∀(k:Nat) (l:List α),a+k<l.length∨k=0→(mvU a k l).Perm l
 |0,_,_=>List.Perm.refl _
 |k+1,l,h=>(swp_perm (by rw[mvU_len];omega) (by rw[mvU_len];omega)).trans (mvU_perm a k l Om)
theorem mvD_perm(m:Nat):∀(k:Nat) (l:List α),m<l.length→(mvD m k l).Perm l
 |0,_,_=>List.Perm.refl _
 |k+1,l,h=>(swp_perm (by rw[mvD_len];omega) (by rw[mvD_len];omega)).trans (mvD_perm m k l h)
theorem bsF_first{p:Nat→Prop}[DecidablePred p]:∀(f i j:Nat),i≤j→j-i≤f→(∀x y,i≤x→x≤y→y<j→p y→p x)→(∀h,i≤h→h<bsF p f i j→p h)∧(∀h,bsF p f i j≤h→h<j→¬p h)
 |0,i,j,h1,h2,_=>⟨fun h a b=>by have:bsF p 0 i j=i:=rfl;omega,fun h a b=>by have:bsF p 0 i j=i:=rfl;omega⟩
 |f+1,i,j,h1,h2,hm=>by
  unfold bsF;split
  ·rename_i q;split
   ·rename_i q2;have ih:=bsF_first f ((i+j)/2+1) j Om Om fun x y a b c d=>hm x y Om b c d;grind
   ·rename_i q2;have ih:=bsF_first f i ((i+j)/2) Om Om fun x y a b c d=>hm x y a b Om d;grind
  grind
end
structure Cmp{α:Type}(c:α→α→Int):Prop where
 asym:∀x y,c x y<0→¬c y x<0
 tr:∀x y z,¬c y x<0→¬c z y<0→¬c z x<0
section
variable{α:Type}[Inhabited α]{c:α→α→Int}{r:α→α→Prop}
def Bef(c:α→α→Int)(r:α→α→Prop)(x y:α):Prop:=c x y<0∨¬c y x<0∧r x y
omit [Inhabited α] in
theorem Bef.le(hc:Cmp c){x y:α}(h:Bef c r x y):¬c y x<0:=h.elim (hc.asym x y) (·.1)
def SOn(R:α→α→Prop)(l:List α)(a b:Nat):Prop:=∀p q,a≤p→p<q→q<b→R l[p]! l[q]!
structure InOn(l l':List α)(a b:Nat):Prop where
 len:l'.length=l.length
 ins:∀p,a≤p→p<b→∃q,a≤q∧q<b∧l'[p]! =l[q]!
 out:∀p,p<l.length→p<a∨b≤p→l'[p]! =l[p]!
theorem InOn.refl(l:List α)(a b:Nat):InOn l l a b:=⟨rfl,fun p h1 h2=>⟨p,h1,h2,rfl⟩,fun _ _ _=>rfl⟩
theorem InOn.wide{l l':List α}{a b a' b':Nat}(h:InOn l l' a b)(ha:a'≤a)(hb:b≤b')(hl:b'≤l.length):InOn l l' a' b':=by
 refine⟨h.len,fun p h1 h2=> ?_,fun p h0 h1=>h.out p h0 Om⟩;by_cases e:a≤p∧p<b
 ·obtain⟨q,q1,q2,q3⟩:=h.ins p e.1 e.2;grind
 ·exact⟨p,h1,h2,h.out p Om Om⟩
theorem InOn.trans{l l' l'':List α}{a b:Nat}(h:InOn l l' a b)(k:InOn l' l'' a b):InOn l l'' a b:=by
 refine⟨k.len.trans h.len,fun p h1 h2=> ?_,fun p h0 h1=>(k.out p (by rw[h.len];exact h0) h1).trans (h.out p h0 h1)⟩;obtain⟨q,q1,q2,q3⟩:=k.ins p h1 h2;obtain⟨s,s1,s2,s3⟩:=h.ins q q1 q2;grind
theorem insJ_ok(hc:Cmp c){a k:Nat}:∀(j:Nat) (l:List α),a≤j→j≤k→k<l.length→(∀p q,a≤p→p<q→q≤k→p≠j→q≠j→Bef c r l[p]! l[q]!)→(∀q,j<q→q≤k→c l[j]! l[q]! <0)→(∀p,a≤p→p<j→r l[p]! l[j]!)→
  SOn (Bef c r) (insJ c a j l) a (k+1)∧InOn l (insJ c a j l) a (k+1)
 |0,l,h1,h2,h3,hs,hg,hr=>by
  refine⟨fun p q a1 a2 a3=> ?_,InOn.refl _ _ _⟩;show Bef c r l[p]! l[q]!;by_cases e:p=0
  ·subst e;exact .inl (hg q a2 Om)
  grind
 |j+1,l,h1,h2,h3,hs,hg,hr=>by
  unfold insJ;split
  ·rename_i q;have hlen:(swp l (j+1) j).length=l.length:=swp_len _ _ _;have at_:∀p,p<l.length→(swp l (j+1) j)[p]! =if j=p then l[j+1]! else if j+1=p then l[j]! else l[p]! :=fun p hp=>swp_at hp
   have ih:=insJ_ok hc (a:=a) (k:=k) j (swp l (j+1) j) Om Om Om ?_ ?_ ?_
   ·refine⟨ih.1,InOn.trans ⟨hlen,fun p a1 a2=> ?_,fun p a0 a1=> ?_⟩ ih.2⟩<;>grind
   ·grind
   ·grind
   grind
  ·rename_i q;refine⟨fun p q' a1 a2 a3=> ?_,InOn.refl _ _ _⟩;by_cases e:p=j+1
   ·subst e;exact .inl (hg q' a2 Om)
   ·by_cases e2:q'=j+1
    ·subst e2;refine .inr ⟨?_,hr p a1 a2⟩;have hj:a≤j:=Om;have h5:¬c l[j+1]! l[j]! <0:=fun h=>q ⟨Om,h⟩;by_cases e3:p=j
     ·grind
     ·exact hc.tr _ _ _ (Bef.le hc (hs p j a1 Om Om e Om)) h5
    grind
theorem insJ_perm(a:Nat):∀(j:Nat) (l:List α),j<l.length→(insJ c a j l).Perm l
 |0,_,_=>List.Perm.refl _
 |j+1,l,h=>by
  unfold insJ;split
  ·exact(insJ_perm a j _ (by rw[swp_len];omega)).trans (swp_perm h Om)
  simp_all
theorem insN_perm(a:Nat):∀(k:Nat) (l:List α),a+k<l.length∨k=0→(insN c a k l).Perm l
 |0,_,_=>List.Perm.refl _
 |k+1,l,h=>(insJ_perm a _ _ (by rw[insN_len];omega)).trans (insN_perm a k l Om)
theorem insF_perm{a b:Nat}{l:List α}(h:b≤l.length):(insF c a b l).Perm l:=insN_perm a _ l Om
theorem insN_ok(hc:Cmp c){a b:Nat}{l:List α}(hb:b≤l.length)(hr:SOn r l a b):∀k,a+k<b→SOn (Bef c r) (insN c a k l) a (a+k+1)∧InOn l (insN c a k l) a (a+k+1)
 |0,_=>⟨fun p q a1 a2 a3=>by omega,InOn.refl _ _ _⟩
 |k+1,hk=>by
  obtain⟨s,i⟩:=insN_ok hc hb hr k Om;have hl:=i.len;have key:=insJ_ok hc (r:=r) (a:=a) (k:=a+(k+1)) (a+1+k) (insN c a k l) Om Om Om ?_ ?_ ?_
  ·exact⟨key.1,(i.wide (Nat.le_refl a) Om Om).trans key.2⟩
  ·intro p q a1 a2 a3 n1 n2;exact s p q a1 a2 Om
  ·omega
  ·intro p a1 a2;obtain⟨p',p1,p2,e⟩:=i.ins p a1 Om;rw[e,i.out (a+1+k) Om Om];exact hr p' _ p1 Om Om
theorem insF_ok(hc:Cmp c){a b:Nat}{l:List α}(hb:b≤l.length)(hr:SOn r l a b):SOn (Bef c r) (insF c a b l) a b∧InOn l (insF c a b l) a b:=by
 unfold insF;by_cases h:a<b
 ·have:=insN_ok hc hb hr (b-(a+1)) Om;grind
 ·rw[show b-(a+1)=0 from Om];exact⟨fun p q a1 a2 a3=>by omega,InOn.refl _ _ _⟩
theorem SOn.join{R:α→α→Prop}{l:List α}{a m b:Nat}(h1:SOn R l a m)(h2:SOn R l m b)(h3:∀p q,a≤p→p<m→m≤q→q<b→R l[p]! l[q]!):SOn R l a b:=fun p q a1 a2 a3=>by
 by_cases e1:q<m
 ·exact h1 p q a1 a2 e1
 ·by_cases e2:p<m
  ·grind
  ·exact h2 p q Om a2 a3
theorem SOn.le{hc:Cmp c}{l:List α}{a b:Nat}(h:SOn (Bef c r) l a b){p q:Nat}(h1:a≤p)(h2:p≤q)(h3:q<b)(hx:∀x:α,¬c x x<0):¬c l[q]! l[p]! <0:=by
 rcases Nat.lt_or_eq_of_le h2 with e|rfl
 ·exact Bef.le hc (h p q h1 e h3)
 grind
theorem symF_ok(hc:Cmp c):∀(f a m b:Nat) (l:List α),a<m→m<b→b≤l.length→b-a≤f→SOn (Bef c r) l a m→SOn (Bef c r) l m b→(∀p q,a≤p→p<m→m≤q→q<b→r l[p]! l[q]!)→
  SOn (Bef c r) (symF c f a m b l) a b∧InOn l (symF c f a m b l) a b
 |0,a,m,b,l,h1,h2,_,h4,_,_,_=>by omega
 |f+1,a,m,b,l,h1,h2,h3,h4,s1,s2,hr=>by
  have irr:∀x:α,¬c x x<0:=fun x h=>hc.asym x x h h;unfold symF;split
  ·rename_i q;have b1:=bsF_rng (fun h=>c l[h]! l[a]! <0) (b-m) m b Om;have b2:=bsF_first (p:=fun h=>c l[h]! l[a]! <0) (b-m) m b Om Om fun x y x1 x2 x3 hy=>by
    by_cases q:c l[x]! l[a]! <0
    ·exact q
    ·exact absurd hy (hc.tr _ _ _ q (SOn.le (hc:=hc) s2 x1 x2 x3 irr))
   generalize bsF (fun h=>c l[h]! l[a]! <0) (b-m) m b=i at b1 b2;have at_:=mvU_at a (i-1-a) l Om;rw[show a+(i-1-a)=i-1 from Om]at at_;have iOn:InOn l (mvU a (i-1-a) l) a b:=by
    refine⟨mvU_len _ _ _,fun p p1 p2=> ?_,fun p p0 p1=> ?_⟩<;>grind
   refine⟨fun p q' p1 p2 p3=> ?_,iOn⟩;rw[at_ p Om,at_ q' Om];by_cases e1:p=i-1
   ·rw[if_pos e1,if_neg Om,if_neg Om];exact .inr ⟨b2.2 q' Om p3,hr a q' Om Om Om p3⟩
   ·rw[if_neg e1];by_cases e2:q'=i-1
    ·rw[if_pos e2,if_pos Om];exact .inl (b2.1 (p+1) Om Om)
    ·rw[if_neg e2];by_cases e3:a≤p∧p<i-1
     ·rw[if_pos e3];by_cases e4:a≤q'∧q'<i-1
      ·rw[if_pos e4];exact s2 _ _ Om Om Om
      ·rw[if_neg e4];exact s2 _ _ Om Om Om
     ·rw[if_neg e3,if_neg Om];exact s2 _ _ Om Om Om
  ·split
   ·rename_i q0 q;have b1:=bsF_rng (fun h=>¬c l[m]! l[h]! <0) (m-a) a m Om;have b2:=bsF_first (p:=fun h=>¬c l[m]! l[h]! <0) (m-a) a m Om Om fun x y x1 x2 x3 hy=>
     hc.tr _ _ _ (SOn.le (hc:=hc) s1 x1 x2 x3 irr) hy
    generalize bsF (fun h=>¬c l[m]! l[h]! <0) (m-a) a m=i at b1 b2;have at_:=mvD_at m (m-i) l Om Om;have iOn:InOn l (mvD m (m-i) l) a b:=by
     refine⟨mvD_len _ _ _,fun p p1 p2=> ?_,fun p p0 p1=> ?_⟩
     ·rw[at_ p Om];grind
     ·rw[at_ p p0,if_neg Om,if_neg Om]
    refine⟨fun p q' p1 p2 p3=> ?_,iOn⟩;rw[at_ p Om,at_ q' Om];by_cases e1:p+(m-i)=m
    ·rw[if_pos e1,if_neg Om,if_pos Om];exact .inl (Decidable.of_not_not (b2.2 (q'-1) Om Om))
    ·rw[if_neg e1];by_cases e2:q'+(m-i)=m
     ·rw[if_pos e2,if_neg Om];exact .inr ⟨b2.1 p p1 Om,hr p m p1 Om Nl Om⟩
     ·rw[if_neg e2];by_cases e3:m<p+(m-i)∧p≤m
      ·rw[if_pos e3,if_pos Om];exact s1 _ _ Om Om Om
      ·rw[if_neg e3];by_cases e4:m<q'+(m-i)∧q'≤m
       ·rw[if_pos e4];exact s1 _ _ Om Om Om
       ·rw[if_neg e4];exact s1 _ _ Om Om Om
   ·rename_i q0 q1;obtain⟨r1,r2,r3,r4⟩:=symStart_rng c (l:=l) h1 h2;have key:(∀h,a≤h→h<symStart c a m b l→(a+b)/2+m≤h+b→¬c l[(a+b)/2+m-1-h]! l[h]! <0)∧(∀h,symStart c a m b l≤h→h<m→h<(a+b)/2→c l[(a+b)/2+m-1-h]! l[h]! <0):=by
     have mono:∀x y,a≤x→(a+b)/2+m≤x+b→x≤y→y<m→y<(a+b)/2→¬c l[(a+b)/2+m-1-y]! l[y]! <0→¬c l[(a+b)/2+m-1-x]! l[x]! <0:=fun x y x1 x2 x3 x4 x5 hy=>
      hc.tr _ _ _ (SOn.le (hc:=hc) s1 x1 x3 x4 irr) (hc.tr _ _ _ hy (SOn.le (hc:=hc) s2 Om Om Om irr))
     unfold symStart;dsimp only;by_cases q:(m:Int)>(((a+b)/2:Nat):Int)
     ·simp only[if_pos q];have b2:=bsF_first (p:=fun h=>¬c l[(a+b)/2+m-1-h]! l[h]! <0) ((a+b)/2-((a+b)/2+m-b)) ((a+b)/2+m-b) ((a+b)/2) Om Om fun x y x1 x2 x3 hy=>mono x y Om Om x2 Om x3 hy;simp_all
     ·simp only[if_neg q];have b2:=bsF_first (p:=fun h=>¬c l[(a+b)/2+m-1-h]! l[h]! <0) (m-a) a m Om Om fun x y x1 x2 x3 hy=>mono x y x1 Om x2 x3 Om hy;simp_all
    generalize symStart c a m b l=s at r1 r2 r3 r4 key;obtain⟨k1,k2⟩:=key;unfold sym3;dsimp only;have t1:∃l1:List α,(if(s:Int)<(m:Int)∧(m:Int)<(((a+b)/2+m-s:Nat):Int)then rotF s m ((a+b)/2+m-s) l else l)=l1∧l1.length=l.length∧∀p,p<l.length→l1[p]! =if s≤p∧p<(a+b)/2 then l[p+(m-s)]! else if(a+b)/2≤p∧p<(a+b)/2+m-s then l[p+s-(a+b)/2]! else l[p]! :=by
     refine⟨_,rfl,?_,?_⟩
     ·grind [rotF_len]
     ·intro p hp;split
      ·rename_i q;rw[rotF_at Om Om Om hp];rw[show s+((a+b)/2+m-s-m)=(a+b)/2 from Om];by_cases e1:s≤p∧p<(a+b)/2
       ·rw[if_pos e1,if_pos e1]
       ·rw[if_neg e1,if_neg e1];by_cases e2:(a+b)/2≤p∧p<(a+b)/2+m-s
        ·rw[if_pos e2,if_pos e2];congr 1;omega
        grind
      ·rename_i q;by_cases e1:s≤p∧p<(a+b)/2
       ·rw[if_pos e1,show m=s from Om,Nat.sub_self];rfl
       ·rw[if_neg e1];by_cases e2:(a+b)/2≤p∧p<(a+b)/2+m-s
        ·rw[if_pos e2];congr 1;omega
        grind
    obtain⟨l1,e1,n1,at1⟩:=t1;rw[e1];generalize hmid:(a+b)/2=mid at*;have m1:a≤mid∧mid<b:=Om;have io1:InOn l l1 a b:=by
     refine⟨n1,fun p p1 p2=> ?_,fun p p0 p1=> ?_⟩
     ·rw[at1 p Om];split
      ·exact⟨p+(m-s),Om,Om,rfl⟩
      ·split
       ·exact⟨p+s-mid,Om,Om,rfl⟩
       grind
     ·rw[at1 p p0,if_neg Om,if_neg Om]
    have A1:∀p,a≤p→p<s→l1[p]! =l[p]! :=fun p p1 p2=>by rw[at1 p Om,if_neg Om,if_neg Om]
    have A2:∀p,s≤p→p<mid→l1[p]! =l[p+(m-s)]! :=fun p p1 p2=>by rw[at1 p Om,if_pos ⟨p1,p2⟩]
    have A3:∀p,mid≤p→p<mid+m-s→l1[p]! =l[p+s-mid]! :=fun p p1 p2=>by rw[at1 p Om,if_neg Om,if_pos ⟨p1,p2⟩]
    have A4:∀p,mid+m-s≤p→p<b→l1[p]! =l[p]! :=fun p p1 p2=>by rw[at1 p Om,if_neg Om,if_neg Om]
    have c14:∀p q,a≤p→p<s→mid+m-s≤q→q<b→Bef c r l[p]! l[q]! :=fun p q p1 p2 p3 p4=>
     .inr ⟨hc.tr _ _ _ (SOn.le (hc:=hc) s1 p1 (show p≤s-1 by omega) Om irr) (hc.tr _ _ _ (k1 (s-1) Om Om Om) (SOn.le (hc:=hc) s2 Om (show mid+m-1-(s-1)≤q by omega) p4 irr)),hr p q p1 Om Om p4⟩
    have c23:∀p q,m≤p→p<mid+m-s→s≤q→q<m→Bef c r l[p]! l[q]! :=fun p q p1 p2 p3 p4=>by
     have h5:=k2 s Nl Om Om;refine .inl (Decidable.of_not_not fun h6=> ?_);exact hc.tr _ _ _ (SOn.le (hc:=hc) s1 Om p3 p4 irr) (hc.tr _ _ _ h6 (SOn.le (hc:=hc) s2 p1 (show p≤mid+m-1-s by omega) Om irr)) h5
    have cross:∀p q,a≤p→p<mid→mid≤q→q<b→Bef c r l1[p]! l1[q]! :=fun p q p1 p2 p3 p4=>by
     by_cases f1:p<s
     ·rw[A1 p p1 f1];by_cases f2:q<mid+m-s
      ·rw[A3 q p3 f2];exact s1 _ _ p1 Om Om
      grind
     ·rw[A2 p Om p2];by_cases f2:q<mid+m-s
      ·rw[A3 q p3 f2];exact c23 _ _ Om Om Om Om
      ·rw[A4 q Om p4];exact s2 _ _ Om Om p4
    have t2:∃l2:List α,(if(a:Int)<(s:Int)∧(s:Int)<(mid:Int)then symF c f a s mid l1 else l1)=l2∧SOn (Bef c r) l2 a mid∧InOn l1 l2 a mid:=by
     have u1:SOn (Bef c r) l1 a s:=fun p q p1 p2 p3=>by rw[A1 p p1 Om,A1 q Om p3];exact s1 _ _ p1 p2 Om
     have u2:SOn (Bef c r) l1 s mid:=fun p q p1 p2 p3=>by rw[A2 p p1 Om,A2 q Om p3];exact s2 _ _ Om Om Om
     refine⟨_,rfl,?_⟩;split
     ·exact symF_ok hc f a s mid l1 Om Om Om Om u1 u2 fun p q p1 p2 p3 p4=>by rw[A1 p p1 p2,A2 q p3 p4];exact hr _ _ p1 Om Om Om
     ·rename_i q;refine⟨?_,InOn.refl _ _ _⟩;by_cases f1:a<s<;>grind
    obtain⟨l2,e2,v1,v2⟩:=t2;rw[e2];have B3:∀p,mid≤p→p<mid+m-s→l2[p]! =l[p+s-mid]! :=fun p p1 p2=>(v2.out p Om Om).trans (A3 p p1 p2);have B4:∀p,mid+m-s≤p→p<b→l2[p]! =l[p]! :=fun p p1 p2=>(v2.out p Om Om).trans (A4 p p1 p2);have t3:∃l3:List α,(if(mid:Int)<((mid+m-s:Nat):Int)∧((mid+m-s:Nat):Int)<(b:Int)then symF c f mid (mid+m-s) b l2 else l2)=l3∧SOn (Bef c r) l3 mid b∧InOn l2 l3 mid b:=by
     have u1:SOn (Bef c r) l2 mid (mid+m-s):=fun p q p1 p2 p3=>by rw[B3 p p1 Om,B3 q Om p3];exact s1 _ _ Om Om Om
     have u2:SOn (Bef c r) l2 (mid+m-s) b:=fun p q p1 p2 p3=>by rw[B4 p p1 Om,B4 q Om p3];exact s2 _ _ Om Om Om
     refine⟨_,rfl,?_⟩;split
     ·exact symF_ok hc f mid _ b l2 Om Om (by rw[v2.len,n1];exact h3) Om u1 u2 fun p q p1 p2 p3 p4=>by rw[B3 p p1 p2,B4 q p3 p4];exact hr _ _ Om Om Om Om
     ·refine⟨?_,InOn.refl _ _ _⟩;by_cases f1:mid<mid+m-s
      ·rw[show b=mid+m-s from Om];exact u1
      ·rw[show mid=mid+m-s from Om];exact u2
    obtain⟨l3,e3,w1,w2⟩:=t3;rw[e3];have hl2:l2.length=l.length:=v2.len.trans n1;refine⟨SOn.join (m:=mid) (fun p q p1 p2 p3=> ?_) w1 fun p q p1 p2 p3 p4=> ?_,io1.trans ((v2.wide (Nat.le_refl a) Om Om).trans (w2.wide Om (Nat.le_refl b) Om))⟩
    ·rw[w2.out p Om Om,w2.out q Om Om];exact v1 p q p1 p2 p3
    ·obtain⟨q',q1,q2,q3⟩:=w2.ins q p3 p4;obtain⟨p',x1,x2,x3⟩:=v2.ins p p1 p2;rw[w2.out p Om Om,q3,v2.out q' Om Om,x3];grind
theorem symF_perm:∀(f a m b:Nat) (l:List α),a<m→m<b→b≤l.length→(symF c f a m b l).Perm l
 |0,_,_,_,_,_,_,_=>List.Perm.refl _
 |f+1,a,m,b,l,h1,h2,h3=>by
  unfold symF;split
  ·grind [bsF_rng,getElem!,mvU_perm]
  ·split
   ·grind [mvD_perm]
   ·obtain⟨r1,r2,r3,r4⟩:=symStart_rng c (l:=l) h1 h2;generalize symStart c a m b l=s at r1 r2 r3 r4;unfold sym3;dsimp only;have t1:∃l1:List α,(if(s:Int)<(m:Int)∧(m:Int)<(((a+b)/2+m-s:Nat):Int)then rotF s m ((a+b)/2+m-s) l else l)=l1∧l1.Perm l:=by
     refine⟨_,rfl,?_⟩;grind [rotF_perm,List.Perm.refl]
    obtain⟨l1,e1,p1⟩:=t1;rw[e1];have t2:∃l2:List α,(if(a:Int)<(s:Int)∧(s:Int)<(((a+b)/2:Nat):Int)then symF c f a s ((a+b)/2) l1 else l1)=l2∧l2.Perm l1:=by
     refine⟨_,rfl,?_⟩;split
     ·exact symF_perm f _ _ _ _ Om Om (by rw[p1.length_eq];omega)
     simp_all
    obtain⟨l2,e2,p2⟩:=t2;rw[e2];split
    ·exact((symF_perm f _ _ _ _ Om Om (by rw[p2.length_eq,p1.length_eq];omega)).trans p2).trans p1
    ·exact p2.trans p1
theorem stabF_perm(l:List α):(stabF c l).Perm l:=by
 unfold stabF;split
 ·dsimp only;split
  ·exact(symF_perm _ _ _ _ _ Om Om (by grind [insF_len])).trans ((insF_perm (by rw[insF_len];omega)).trans (insF_perm Om))
  ·exact(insF_perm (by rw[insF_len];omega)).trans (insF_perm Om)
 ·exact insF_perm Nl
theorem SOn.pairwise{R:α→α→Prop}{l:List α}(h:SOn R l 0 l.length):l.Pairwise R:=by
 rw[List.pairwise_iff_getElem];intro i j hi hj hij;have:=h i j (Nat.zero_le _) hij hj;grind
theorem SOn.of_pairwise{R:α→α→Prop}{l:List α}(h:l.Pairwise R):SOn R l 0 l.length:=fun p q _ h2 h3=>by
 grind [bang_eq,List.pairwise_iff_getElem]
theorem stabF_ok(hc:Cmp c){l:List α}(h:l.Pairwise r):(stabF c l).Pairwise (Bef c r):=by
 have hr:=SOn.of_pairwise h;refine SOn.pairwise ?_;rw[stabF_len];unfold stabF;split
 ·rename_i q;dsimp only;obtain⟨a1,a2⟩:=insF_ok (r:=r) hc (a:=0) (b:=20) (l:=l) q fun p q' p1 p2 p3=>hr p q' p1 p2 Om;have hr2:SOn r (insF c 0 20 l) 20 l.length:=fun p q' p1 p2 p3=>by rw[a2.out p Om Om,a2.out q' Om Om];exact hr p q' Om p2 p3
  obtain⟨b1,b2⟩:=insF_ok (r:=r) hc (a:=20) (b:=l.length) (l:=insF c 0 20 l) (by rw[insF_len];omega) hr2;have d1:SOn (Bef c r) (insF c 20 l.length (insF c 0 20 l)) 0 20:=fun p q' p1 p2 p3=>by rw[b2.out p (by rw[insF_len];omega) Om,b2.out q' (by rw[insF_len];omega) Om];exact a1 p q' p1 p2 p3
  split
  ·refine(symF_ok hc _ 0 20 l.length _ Om Om (by grind [insF_len]) Om d1 b1 fun p q' p1 p2 p3 p4=> ?_).1;obtain⟨p',x1,x2,x3⟩:=a2.ins p p1 p2;obtain⟨q2,y1,y2,y3⟩:=b2.ins q' p3 p4;rw[b2.out p (by rw[insF_len];omega) Om,x3,y3,a2.out q2 Om Om];exact hr p' q2 Om Om Om
  grind
 simp_all [insF_ok,Nat.le_refl]
theorem stabF_sorted(hc:Cmp c)(l:List α):(stabF c l).Pairwise fun x y=>¬c y x<0:=
 (stabF_ok hc (r:=fun _ _=>True) (l:=l) (List.pairwise_of_forall fun _ _=>trivial)).imp fun h=>Bef.le hc h
end
structure Gl where(id:Int)(A:Option Addr)(n c:Nat)(l:List Int)
instance:Inhabited Gl:=⟨⟨0,none,0,0,[]⟩⟩
def glM(x:Gl):Int×Value:=(x.id,.slice x.A x.n x.c)
def glP(x:Gl):Int×List Int:=(x.id,x.l)
abbrev glF:Gl→List Res:=fun x=>[row 3 ic 1 (.slice x.A x.n x.c) x.l]
theorem gl_none:∀{gl:List Gl} {x:Int},mget (gl.map glM) x=none→lget (gl.map glP) x=[]∧(∀u,lset (gl.map glP) x u=gl.map glP++[(x,u)])∧(∀u,mset (gl.map glM) x u=gl.map glM++[(x,u)])
 |[],x,_=>⟨rfl,fun _=>rfl,fun _=>rfl⟩
 |y::r,x,h=>by
  have h1:(if x=y.id then some (Value.slice y.A y.n y.c)else mget (r.map glM) x)=none:=h;by_cases q:x=y.id
  ·grind
  ·rw[if_neg q]at h1;obtain⟨a,b,c⟩:=gl_none h1;refine⟨(if_neg q).trans a,fun u=>(if_neg q).trans ?_,fun u=>(if_neg q).trans ?_⟩
   ·rw[b];rfl
   ·rw[c];rfl
theorem gl_some:∀{gl:List Gl} {x:Int} {v:Value},mget (gl.map glM) x=some v→∃i,i<gl.length∧gl[i]!.id=x∧v= .slice gl[i]!.A gl[i]!.n gl[i]!.c∧lget (gl.map glP) x=gl[i]!.l∧(∀u,lset (gl.map glP) x u=(gl.map glP).set i (x,u))∧(∀u,mset (gl.map glM) x u=(gl.map glM).set i (x,u))
 |[],x,v,h=>by cases h
 |y::r,x,v,h=>by
  have h1:(if x=y.id then some (Value.slice y.A y.n y.c)else mget (r.map glM) x)=some v:=h;by_cases q:x=y.id
  ·rw[if_pos q]at h1;injection h1 with h1
   subst q;exact⟨0,Nat.succ_pos _,rfl,h1.symm,if_pos rfl,fun u=>if_pos rfl,fun u=>if_pos rfl⟩
  ·rw[if_neg q]at h1;obtain⟨i,a,b,c,d,e,f⟩:=gl_some h1;refine⟨i+1,Nat.succ_lt_succ a,b,c,(if_neg q).trans d,fun u=>(if_neg q).trans ?_,fun u=>(if_neg q).trans ?_⟩
   ·rw[e];rfl
   ·rw[f];rfl
theorem lget_at:∀{G:List (Int×List Int)} {i:Nat},(G.map (·.1)).Nodup→i<G.length→lget G G[i]!.1=G[i]!.2
 |[],i,_,h=>by simp at h
 |(k,v)::r,0,_,_=>if_pos rfl
 |(k,v)::r,i+1,hn,h=>by
  rw[List.map_cons,List.nodup_cons]at hn;have hi:i<r.length:=by grind
  have e:((k,v)::r)[i+1]! =r[i]! :=by rfl
  rw[e];have q:r[i]!.1≠k:=fun q=>hn.1 (by grind);rw[show lget ((k,v)::r) r[i]!.1=lget r r[i]!.1 from if_neg q];exact lget_at hn.2 hi
theorem gl_at{gl gs:List Gl}(h:gs.map glM=gl.map glM){i:Nat}(hi:i<gl.length):gs.length=gl.length∧gs[i]!.id=gl[i]!.id∧Value.slice gs[i]!.A gs[i]!.n gs[i]!.c= .slice gl[i]!.A gl[i]!.n gl[i]!.c:=by
 have hl:gs.length=gl.length:=by grind [List.length_map,glM]
 have h1:=map_b glM (show i<gs.length by omega);simp_all [map_b,glM,congrArg,Prod.fst,Prod.snd,And.intro]
theorem rdS_rng{es:List Ev}{s:List Int}{n:Nat}(hn:s.Nodup)(hs:∀x∈s,0≤x∧x<(n:Int)){a:Nat}(ha:a<n):(∀x∈rdS es s n a,0≤x∧x<(n:Int))∧(rdS es s n a).length≤s.length:=by
 have h:=rgB_LB (es:=es) hn hs s.length 0 0 (List.replicate n []) 0 ⟨List.length_replicate,fun l hl=>by grind⟩ (Nat.zero_le _);have:=h.at_ ha;simp_all [And.intro,rdS]
structure GrpOk(ths:List Th)(ids:List Ix)(gl:List Gl):Prop where
 p:gl.map glP=gpN ths ids ids.length
theorem GrpOk.el{ths:List Th}{ids:List Ix}{gl:List Gl}(h:GrpOk ths ids gl){i:Nat}(hi:i<gl.length):gl[i]!.l.Nodup∧gl[i]!.l.length≤ids.length∧(∀x∈gl[i]!.l,0≤x∧x<(ids.length:Int)∧dmA ths ids x.toNat=gl[i]!.id)∧lget (gpN ths ids ids.length) gl[i]!.id=gl[i]!.l:=by
 have ok:=gpN_ok ths ids ids.length;rw[←h.p]at ok;have hm:glP gl[i]!∈gl.map glP:=List.mem_map_of_mem (mem_b hi);obtain⟨a,b,c⟩:=ok.el _ hm;refine⟨a,b,c,?_⟩;have:=lget_at ok.keys (i:=i) (by grind);rw[map_b glP hi,h.p]at this;exact this
theorem GrpOk.keys{ths:List Th}{ids:List Ix}{gl:List Gl}(h:GrpOk ths ids gl):(gl.map Gl.id).Nodup:=by
 have ok:=(gpN_ok ths ids ids.length).keys;rw[←h.p,List.map_map]at ok;exact ok
theorem srtG_mem{es:List Ev}{l:List Int}{x:Int}:x∈srtG es l↔x∈l:=(stabF_perm l).mem_iff
theorem srtG_len{es:List Ev}{l:List Int}:(srtG es l).length=l.length:=(stabF_perm l).length_eq
structure RdOk(ths:List Th)(ids:List Ix)(es:List Ev)(gl:List Gl)(E N:List (List Int))(S:List Nat):Prop where
 len:N.length=ids.length
 at_:∀a,a<ids.length→N[a]! =E[a]! ++(if dmA ths ids a∈S.map fun i=>gl[i]!.id then rdS es (srtG es (lget (gpN ths ids ids.length) (dmA ths ids a))) ids.length a else[])
theorem RdOk.lb{ths:List Th}{ids:List Ix}{es:List Ev}{gl:List Gl}{E N:List (List Int)}{S:List Nat}{B:Nat}(h:RdOk ths ids es gl E N S)(hE:LB E ids.length B):LB N ids.length (B+ids.length):=by
 refine⟨h.len,fun l hl=> ?_⟩;obtain⟨a,ha,rfl⟩:=mem_at hl;rw[h.len]at ha;have e:=hE.at_ ha;rw[h.at_ a ha];split
 ·have ok:=gpN_ok ths ids ids.length;have key:(lget (gpN ths ids ids.length) (dmA ths ids a)).Nodup∧(lget (gpN ths ids ids.length) (dmA ths ids a)).length≤ids.length∧∀x∈lget (gpN ths ids ids.length) (dmA ths ids a),0≤x∧x<(ids.length:Int):=by
   rcases lget_mem (gpN ths ids ids.length) (dmA ths ids a)with h|h
   ·grind
   ·obtain⟨p,q,r⟩:=ok.el _ h;grind
  have r:=rdS_rng (es:=es) (s:=srtG es (lget (gpN ths ids ids.length) (dmA ths ids a))) ((stabF_perm _).nodup_iff.2 key.1) (fun x hx=>key.2.2 x (srtG_mem.1 hx)) ha;rw[srtG_len]at r;grind
 grind
theorem RdOk.start{ths:List Th}{ids:List Ix}{es:List Ev}{gl:List Gl}{E:List (List Int)}(h:E.length=ids.length):RdOk ths ids es gl E E []:=⟨h,fun a _=>by simp⟩
theorem RdOk.step{ths:List Th}{ids:List Ix}{es:List Ev}{gl:List Gl}{E N:List (List Int)}{S:List Nat}(h:RdOk ths ids es gl E N S)(hg:GrpOk ths ids gl)(hS:∀j∈S,j<gl.length){i:Nat}(hi:i<gl.length)(hn:i∉S){f:Nat}(hf:f=(srtG es gl[i]!.l).length):RdOk ths ids es gl E (rgB es (srtG es gl[i]!.l) f 0 0 N) (i::S):=by
 subst hf;obtain⟨g1,g2,g3,g4⟩:=hg.el hi;refine⟨(rgB_len _ _ _ _ _ _).trans h.len,fun a ha=> ?_⟩;rw[rgB_S (fun x hx=>by have:=g3 x (srtG_mem.1 hx);rw[h.len];omega) (by rw[h.len];exact ha),h.at_ a ha,h.len];by_cases e:dmA ths ids a=gl[i]!.id
 ·have h1:¬dmA ths ids a∈S.map fun i=>gl[i]!.id:=fun q=>by
   obtain⟨j,hj,ej⟩:=List.mem_map.1 q;have hj':=hS j hj;have e2:gl[j]!.id=gl[i]!.id:=ej.trans e;rw[←map_b Gl.id hj',←map_b Gl.id hi,bang_eq (by grind),bang_eq (by grind)]at e2;have:=(List.getElem_inj hg.keys).1 e2;grind
  grind
 ·rw[rdS_none (s:=srtG es gl[i]!.l) ha fun x hx q=>e (by grind [srtG_mem]),List.append_nil];grind
theorem RdOk.done{ths:List Th}{ids:List Ix}{es:List Ev}{gl:List Gl}{E N:List (List Int)}{S:List Nat}(h:RdOk ths ids es gl E N S)(hg:GrpOk ths ids gl)(hE:E.length=ids.length)(hS:∀i,i<gl.length→i∈S):N=rdF ths ids es E:=by
 unfold rdF;refine List.ext_getElem (by rw[List.length_map,List.length_range,h.len,hE]) fun a h1 h2=> ?_;have ha:a<ids.length:=by grind
 rw[List.getElem_map,List.getElem_range,←bang_eq h1,h.at_ a ha,hE];have hk:dmA ths ids a∈(S.map fun i=>gl[i]!.id)∨lget (gpN ths ids ids.length) (dmA ths ids a)=[]:=by
  rcases lget_mem (gpN ths ids ids.length) (dmA ths ids a)with q|q
  ·grind
  ·rw[←hg.p]at q;obtain⟨y,hy,ey⟩:=List.mem_map.1 q;obtain⟨i,hi,rfl⟩:=mem_at hy;exact .inl (List.mem_map.2 ⟨i,hS i hi,congrArg Prod.fst ey⟩)
 rcases hk with q|q
 ·rw[if_pos q]
 ·rw[q];have:rdS es (srtG es []) ids.length a=[]:=rdS_none ha fun x hx=>by simp_all [srtG_mem,List.nil]
  grind
theorem putA_next{N:List (List Int)}{bef blk:List Int}{j:Nat}:putA N bef blk (j+1)=(putA N bef blk j).set bef[j]!.toNat ((putA N bef blk j)[bef[j]!.toNat]! ++blk):=rfl
theorem rgB_step{es:List Ev}{s:List Int}{f k0 k:Nat}{N:List (List Int)}(h:(k:Int)<(s.length:Int))(hf:s.length≤k+f):rgB es s f k0 k N=rgB es s (f-1) k (blkE es s k) (putA N ((s.take k).drop k0) ((s.take (blkE es s k)).drop k) ((s.take k).drop k0).length):=by
 obtain⟨g,rfl⟩:∃g,f=g+1:=⟨f-1,Om⟩;exact if_pos h
theorem blkF_step{es:List Ev}{s:List Int}{k f n:Nat}(hf:1≤f)(h:(n:Int)<(s.length:Int)∧es[s[n]!.toNat]!.at_=es[s[k]!.toNat]!.at_):blkF es s k f n=blkF es s k (f-1) (n+1):=by
 obtain⟨g,rfl⟩:∃g,f=g+1:=⟨f-1,Om⟩;exact if_pos h
theorem blkF_stop{es:List Ev}{s:List Int}{k f n:Nat}(h:¬((n:Int)<(s.length:Int)∧es[s[n]!.toNat]!.at_=es[s[k]!.toNat]!.at_)):blkF es s k f n=n:=by
 cases f with
 |zero=>rfl
 |succ f=>exact if_neg h
theorem gl_len(ths:List Th)(ids:List Ix)(i:Nat)(x:Int):(lget (gpN ths ids i) x).length≤i:=by
 rcases lget_mem (gpN ths ids i) x with h|h
 ·grind
 ·exact((gpN_ok ths ids i).el _ h).2.1
theorem cmpI_Cmp{α:Type}(f:α→Int):Cmp (fun a b:α=>cmpI (f a) (f b)):=by
 constructor
 ·intro x y h;unfold cmpI at h ⊢;omega
 ·intro x y z h1 h2 h3;have a:∀p q:Int,cmpI p q<0↔p<q:=fun p q=>by
   unfold cmpI;omega
  grind
end TW
end Go.Proofs.YtaclfjjipnpboaaGreat
end
