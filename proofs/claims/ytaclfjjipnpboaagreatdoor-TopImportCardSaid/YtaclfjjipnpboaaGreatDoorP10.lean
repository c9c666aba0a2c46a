/- Part 10 of the proof. Conditions: what each theorem states. -/
import Derived.Test.YtaclfjjipnpboaaGreatDoorP04
import Derived.Test.YtaclfjjipnpboaaGreatDoorP01
import Derived.Test.YtaclfjjipnpboaaGreatDoorP08
import Derived.Test.YtaclfjjipnpboaaGreatDoorP09
import Derived.Test.YtaclfjjipnpboaaGreatDoorP02
import Derived.Test.YtaclfjjipnpboaaGreatDoorProg
import Derived.Laws.StructEq
import Derived.Test.YtaclfjjipnpboaaGreatDoorP07
set_option linter.all false
set_option maxHeartbeats 4000000
set_option maxRecDepth 4000
section
attribute [local irreducible] Go.Eng.WC Go.Eng.WL Go.Eng.WK Go.Eng.WQ Go.Eng.WX Go.Eng.Yld
namespace Go.Proofs.YtaclfjjipnpboaaGreatDoor
open Go Go.Eng Go.RowKit
namespace TW
theorem rd1_any(a:Int)(b:Int)(g:Nat)(X:Cw)(es:List Ev)(w:World)(h2:Blk w g 294 [.pointer (some ⟨X.g,0,none⟩)])(hb:Blk w X.g 300 X.cells)(hes:Ls w X.eA X.eN X.eC Ev.c 6 es)(ha:0≤a∧a.toNat<es.length)(hbb:0≤b∧b.toNat<es.length):
  Cr 221 #[.int .i64 a,.int .i64 b,.pointer (some ⟨g,0,none⟩)] w (.int .i64 (cmA es a b)):=by
 have H:=(Hp.nil w);have e_e:=hes.len;have z_e:=hes.nle;refine Wb Tryz.func221 ?_;refine go ?_;refine Qr ?_;have b3:a.toNat<X.eN:=Om;refine G5 ?_;refine yq (Y.indexLs a.toNat (hes.ext H.ext) rfl u53 ti73 rfl rfl Om b3) ?_;have b4:b.toNat<X.eN:=Om;refine G7 ?_;refine yq (Y.indexLs b.toNat (hes.ext H.ext) rfl u53 ti73 rfl rfl Om b4) ?_;refine G2 ?_;refine WQ.call rfl (blt rfl) rfl rfl rfl Fh rfl (fun w hw=>calls_ext hw (cmpI_any _ _ _)) ?_;refine go ?_;refine Qd H fun z H=> ?_;refine go ?_;refine Rt [_] ?_;exact⟨rfl,H.ext⟩
theorem readings_any(X:Cw)(ids:List Ix)(es:List Ev)(ns:List Nx)(ths:List Th)(E:List (List Int))(W:World)(R:List Res)(w:World)(H:Hp W w (box X.g 300 X.cells::row 105 Ix.c 2 (.slice X.iA X.iN X.iC) ids::row 73 Ev.c 6 (.slice X.eA X.eN X.eC) es::row 81 Nx.c 1 (.slice X.nA X.nN X.nC) ns::big nxF ns::R))(hths:Ls W X.tA X.tN X.tC Th.c 3 ths)(hdk:∀i,i<ids.length→ixP (fun t=>t.id==ids[i]!.th) ths≥0)(hN:ns.map Nx.l=E)(hE:LB E ids.length (2*ids.length))(he:es.length=ids.length)(h1:ids.length≤24):
  Calls Tryz.prog 197 #[.pointer (some ⟨X.g,0,none⟩)] w fun e w'=>∃ns',e= .returned (resVal [])∧Hp W w' (box X.g 300 X.cells::row 105 Ix.c 2 (.slice X.iA X.iN X.iC) ids::row 73 Ev.c 6 (.slice X.eA X.eN X.eC) es::row 81 Nx.c 1 (.slice X.nA X.nN X.nC) ns'::big nxF ns'::R)∧ns'.map Nx.l=rdF ths ids es E:=by
 have e_i:=(H.l 1).len;have e_e:=(H.l 2).len;have e_n:=(H.l 3).len;have z_e:=(H.l 2).nle;have nl0:ns.length=ids.length:=by rw[←List.length_map (f:=Nx.l),hN];exact hE.1
 refine Wb Tryz.func197 ?_;refine go ?_;refine bx H fun g8 z H=> ?_;refine G2 ?_;refine mm H fun g11 z H=> ?_;have H:=H.bigNil glF;refine go ?_;refine sb [18,1,2,17] ?_;refine WC.loopS 1 (fun mz Ed W'=>∃i:Nat,∃gl:List Gl,mz=X.iN-i∧Ed=[(18,.int .i64 ((i:Nat):Int))]∧Hp W W' (big glF gl::mpi g11 (gl.map glM)::_::_::_::_::_::_::R)∧(i≤X.iN)∧(gl.map glP=gpN ths ids i)) _ ⟨0,[],rfl,rfl,H,(Nat.zero_le _),rfl⟩ ?_;rintro _ _ z ⟨i,gl,rfl,rfl,H,il,hg⟩;refine go ?_;refine Cd (fun p18=> ?_) fun p18=> ?_
 ·refine go ?_;refine c1 H Fh (domain_any _ _ i _ _ (H.b 3) (H.l 4) (hths.ext H.ext) Om (hdk _ Om)) fun z H=> ?_;refine G7 ?_;rcases hq:mget (gl.map glM) (domOf ths ids[i]!.th)with _|v
  ·obtain⟨ga,gb,gc⟩:=gl_none hq;have H:=(H.nilRow 3 ic 1).front [0];refine yy (Yld.cast (Y.lookup rfl u347 u3 ti81 rfl rfl (fun _ h=>h▸(H.mi 2))) (by unfold mval;rw[hq];first|done|rfl)) ?_;refine go ?_;refine bs1 H u81 ti3 fun g23 z H=> ?_;refine ap H 1 0 rfl [(i:Int)] u81 ti3 rfl ic_one (show 0+1≤1000000 by decide) fun v25 z H=> ?_;obtain⟨A26,n27,c28,rfl,_,_,_⟩:=H.op 1;refine mu H 3 u347 u3 fun z H=> ?_;have H:=H.front [1,1];have H:Hp W _ (big glF (gl++[⟨(domOf ths ids[i]!.th),A26,n27,c28,([]++[(i:Int)])⟩])::_):=Hp.bigPush glF ⟨(domOf ths ids[i]!.th),A26,n27,c28,([]++[(i:Int)])⟩ H;refine go ?_;exact Rs [(18,_)] Sx ⟨(i+1),(gl++[⟨(domOf ths ids[i]!.th),A26,n27,c28,([]++[(i:Int)])⟩]),rfl,rfl,(by rw[List.map_append];rw[show List.map glM [(⟨(domOf ths ids[i]!.th),A26,n27,c28,([]++[(i:Int)])⟩:Gl)]=[((domOf ths ids[i]!.th),.slice A26 n27 c28)]from rfl,←gc];exact(H.drop [1])),Om,(by rw[List.map_append];show _=lset (gpN ths ids i) (dmA ths ids i) (lget (gpN ths ids i) (dmA ths ids i)++[(i:Int)]);rw[←hg,show dmA ths ids i=(domOf ths ids[i]!.th)from rfl,ga,gb];rfl)⟩
  ·obtain⟨q,gi,gid,rfl,ga,gb,gc⟩:=gl_some hq;obtain⟨⟨id,A,n,c,l⟩,hx⟩:∃x,gl[q]! =x:=⟨_,rfl⟩;rw[hx]at gid ga hq;dsimp only at gid ga hq;have H:Hp W _ (row 3 ic 1 (.slice A n c) l::hole glF gl (q)::_):=Hp.bigOutX glF ⟨id,A,n,c,l⟩ hx H gi;have ln_:=(H.l 0).len;have ll:l.length≤i:=by rw[←ga,hg];exact gl_len ths ids i _
   refine yy (Yld.cast (Y.lookup rfl u347 u3 ti81 rfl rfl (fun _ h=>h▸(H.mi 2))) (by unfold mval;rw[hq];first|done|rfl)) ?_;refine go ?_;refine bs1 H u81 ti3 fun g31 z H=> ?_;refine ap H 1 0 rfl [(i:Int)] u81 ti3 rfl ic_one (room_le ll (Nat.le_refl 1) Om) fun v33 z H=> ?_;obtain⟨A34,n35,c36,rfl,_,_,_⟩:=H.op 1;refine mu H 3 u347 u3 fun z H=> ?_;have H:=H.front [1,1];have H:Hp W _ (big glF (gl.set (q) ⟨(domOf ths ids[i]!.th),A34,n35,c36,(l++[(i:Int)])⟩)::_):=Hp.bigIn glF ⟨(domOf ths ids[i]!.th),A34,n35,c36,(l++[(i:Int)])⟩ H gi;refine go ?_;exact Rs [(18,_)] Sx ⟨(i+1),(gl.set q ⟨(domOf ths ids[i]!.th),A34,n35,c36,(l++[(i:Int)])⟩),rfl,rfl,(by rw[List.map_set];rw[show glM (⟨(domOf ths ids[i]!.th),A34,n35,c36,(l++[(i:Int)])⟩:Gl)=((domOf ths ids[i]!.th),.slice A34 n35 c36)from rfl,←gc];exact(H.drop [1])),Om,(by rw[List.map_set];show _=lset (gpN ths ids i) (dmA ths ids i) (lget (gpN ths ids i) (dmA ths ids i)++[(i:Int)]);rw[←hg,show dmA ths ids i=(domOf ths ids[i]!.th)from rfl,ga,gb];rfl)⟩
 ·refine G5 ?_;refine sb [1,2] ?_;refine go ?_;refine rg H 1 u347 fun g38 z H=> ?_;obtain rfl:i=ids.length:=Om;have hG:GrpOk ths ids gl:=⟨hg⟩;refine go ?_;refine sb [1,34] ?_;refine WC.loopS 0 (fun mz Ed W'=>∃S:List Nat,∃gs:List Gl,∃ms:List Nx,mz=gl.length-S.length∧Ed=[]∧Hp W W' (big glF gs::mrg g38 g11 (gl.map glM) S::_::_::_::_::row 81 Nx.c 1 (.slice X.nA X.nN X.nC) ms::big nxF ms::R)∧(S.Nodup∧∀j∈S,j<gl.length)∧(gs.map glM=gl.map glM)∧(∀j,j<gl.length→j∉S→gs[j]!.l=gl[j]!.l)∧(RdOk ths ids es gl E (ms.map Nx.l) S)) _ ⟨[],gl,ns,rfl,rfl,H,⟨List.nodup_nil,fun j hj=>(by cases hj)⟩,rfl,(fun _ _ _=>rfl),(by rw[hN];exact RdOk.start hE.1)⟩ ?_;rintro _ _ z ⟨S,gs,ms,rfl,rfl,H,hS,hh,hl,hR⟩;have hLm:=hR.lb hE;have nlm:ms.length=ids.length:=by rw[←List.length_map (f:=Nx.l)];exact hR.len
  refine go ?_;refine nx (ty:=0) H 1 (fun hall z H=> ?_) fun i40 z hi_i40 hS_i40 H=> ?_
  ·refine go ?_;refine WC.condF rfl ?_;refine go ?_;refine En ?_;exact⟨ms,rfl,(H.drop [0,0,0]),hR.done hG hE.1 (fun i hi=>hall i (by simpa using hi))⟩
  ·refine go ?_;refine WC.condT rfl ?_;have hi_:i40<gl.length:=by simpa using hi_i40
   obtain⟨gl1,gl2,gl3⟩:=gl_at hh hi_;obtain⟨⟨id,A,n,c,l⟩,hx⟩:∃y,gs[i40]! =y:=⟨_,rfl⟩;rw[hx]at gl2 gl3;dsimp only at gl2 gl3;have hl_:l=gl[i40]!.l:=by have:=hl i40 hi_ hS_i40;rw[hx]at this;exact this
   have hv:((gl.map glM)[i40]!).2= .slice A n c:=by rw[map_b glM hi_];exact gl3.symm
   have H:Hp W _ (row 3 ic 1 (.slice A n c) l::hole glF gs (i40)::_):=Hp.bigOutX glF ⟨id,A,n,c,l⟩ hx H (show i40<gs.length by omega);obtain⟨g1,g2,g3,_⟩:=hG.el hi_;have ln_:=(H.l 0).len;have lc_:=(H.l 0).le;have hl2:l.length≤ids.length:=by rw[hl_];exact g2
   refine go ?_;refine en H 2 ?_;refine yy (Yld.cast (Y.extract rfl rfl rfl) hv) ?_;refine G4 ?_;refine yy (Y.func rfl rfl rfl) ?_;refine c3 Fh (sstI_any _ _ _ _ 221 [.pointer (some ⟨g8,0,none⟩)] (cmA es) _ _ _ (H.front [0]) Om Fh (fun l1 _ w1 H1 a ha b hb=>rd1_any a b g8 X es w1 (H1.b 3) (H1.b 4) (H1.l 6) (by have:=g3 a (hl_▸ha);omega) (by have:=g3 b (hl_▸hb);omega))) ?_;rintro _ z ⟨rfl,H⟩;refine⟨_,rfl,?_⟩;obtain⟨srt,hsrt⟩:∃q,q=srtG es gl[i40]!.l:=⟨_,rfl⟩;rw[show stabF (cmA es) l=srt from by rw[hsrt,hl_];rfl]at H;obtain rfl:n=srt.length:=((H.l 0).len).symm;have srg:∀x∈srt,0≤x∧x<(ids.length:Int):=fun x hx=>by have:=g3 x (srtG_mem.1 (hsrt▸hx));omega
   have snd:srt.Nodup:=by rw[hsrt];exact(stabF_perm _).nodup_iff.2 g1
   have sle:srt.length≤ids.length:=by rw[hsrt,srtG_len];exact g2
   have sm:0<srt.length→∀k:Nat,0≤srt[k]!∧srt[k]!.toNat<ids.length:=fun h k=>by
    by_cases q:k<srt.length
    ·have:=srg _ (mem_b q);omega
    ·rw[List.getElem!_eq_getElem?_getD,List.getElem?_eq_none Om];have:=srg _ (mem_b h);exact⟨Int.le_refl _,by show 0<ids.length;omega⟩
   refine go ?_;refine sb [7,8,1,6,34] ?_;refine WC.loopS 2 (fun mz Ed W'=>∃f:Nat,∃k0:Nat,∃k:Nat,∃B:Option Addr,∃bc:Nat,∃mt:List Nx,mz=2*f∧Ed=[(7,.slice B (k-k0) bc),(8,.int .i64 ((k:Nat):Int))]∧Hp W W' (_::_::_::_::_::_::_::row 81 Nx.c 1 (.slice X.nA X.nN X.nC) mt::big nxF mt::R)∧(k0≤k)∧(k≤srt.length)∧(srt.length≤k+f)∧(∀z,Ls z A srt.length c ic 1 srt→Ls z B (k-k0) bc ic 1 ((srt.take k).drop k0))∧(rgB es srt f k0 k (mt.map Nx.l)=rgB es srt srt.length 0 0 (ms.map Nx.l))∧(LB (mt.map Nx.l) ids.length (2*ids.length+ids.length+k))) _ ⟨srt.length,0,0,none,0,ms,rfl,rfl,H,Nl,(Nat.zero_le _),Om,(fun _ _=>Ls.nil Dc),rfl,hLm⟩ ?_;rintro _ _ z ⟨f,k0,k,B,bc,mt,rfl,rfl,H,hk0,hk,hf,hB,hd,hL⟩;have nlt:mt.length=ids.length:=by rw[←List.length_map (f:=Nx.l)];exact hL.1
   refine go ?_;refine Cd (fun p51=> ?_) fun p51=> ?_
   ·refine go ?_;refine sb [9,1,6,7,8,34] ?_;refine WC.loopS 1 (fun mz Ed W'=>∃n:Nat,mz=srt.length-n∧Ed=[(9,.int .i64 ((n:Nat):Int))]∧Hp W W' (_::_::_::_::_::_::_::_::_::R)∧(k≤n)∧(n≤srt.length)∧(blkF es srt k (srt.length-n) n=blkE es srt k)) _ ⟨k,rfl,rfl,H,Nl,Om,rfl⟩ ?_;rintro _ _ z ⟨n,rfl,rfl,H,hn1,hn2,hn⟩;have rn:=sm Om n;have rk:=sm Om k;refine go ?_;refine Qr ?_;refine G13 ?_;refine qg (fun hb=>Y.indexLs srt[n]!.toNat (H.l 6) rfl u53 ti73 (evg rfl hb) (evg rfl hb) (by have q0:=(dec_t hb);omega) (by have q0:=(dec_t hb);omega)) ?_;refine G10 ?_;refine qg (fun hb=>Y.indexLs srt[k]!.toNat (H.l 6) rfl u53 ti73 (evg rfl hb) (evg rfl hb) (by have q0:=(dec_t hb);omega) (by have q0:=(dec_t hb);omega)) ?_;refine go ?_;refine Qd H fun z H=> ?_;refine go ?_;refine Cd (fun p56=> ?_) fun p56=> ?_
    ·refine go ?_;exact Rs [(9,_)] Sx ⟨(n+1),rfl,rfl,H,Om,Om,(by rw[show srt.length-(n+1)=srt.length-n-1 from Om];exact(blkF_step Om p56).symm.trans hn)⟩
    ·have eblk:blkE es srt k=n:=hn.symm.trans (blkF_stop (fun q=>p56.elim (fun h=>h q.1) (fun h=>h q.2)));have nkb:=blkE_rng es (s:=srt) (k:=k) Om;rw[eblk]at nkb;have br:∀x∈(srt.take k).drop k0,0≤x∧x<(ids.length:Int):=fun x hx=>srg x (List.mem_of_mem_take (List.mem_of_mem_drop hx));have kr:∀x∈(srt.take n).drop k,0≤x∧x<(ids.length:Int):=fun x hx=>srg x (List.mem_of_mem_take (List.mem_of_mem_drop hx));have bnd:((srt.take k).drop k0).Nodup:=snd.sublist ((List.drop_sublist _ _).trans (List.take_sublist _ _));have bl:=take_drop_len hk0 hk;have bl2:=take_drop_len (s:=srt) (k:=k) (n:=n) Om Om;refine G11 ?_;refine sb [1,6,8,9,34,78,79,80] ?_;refine go ?_;refine sb [80,1,6,8,9,34,78,79] ?_;refine WC.loopS 1 (fun mz Ed W'=>∃jj:Nat,∃mu:List Nx,mz=(k-k0)-jj∧Ed=[(80,.int .i64 ((jj:Nat):Int))]∧Hp W W' (_::_::_::_::_::_::_::row 81 Nx.c 1 (.slice X.nA X.nN X.nC) mu::big nxF mu::R)∧(jj≤(k-k0))∧(mu.map Nx.l=putA (mt.map Nx.l) ((srt.take k).drop k0) ((srt.take n).drop k) jj)) _ ⟨0,mt,rfl,rfl,H,(Nat.zero_le _),rfl⟩ ?_;rintro _ _ z ⟨jj,mu,rfl,rfl,H,jjl,hm⟩;have lu:=putA_LB hL bnd br kr jj Om;have nlu:mu.length=ids.length:=by rw[←List.length_map (f:=Nx.l),hm];exact lu.1
     refine go ?_;refine Cd (fun p61=> ?_) fun p61=> ?_
     ·have rb:=br _ (mem_b (show jj<((srt.take k).drop k0).length by omega));have b64:jj<(k-k0):=Om;refine G5 ?_;refine yy (Y.indexLs jj (hB _ (H.l 0)) rfl u81 ti3 rfl rfl rfl b64) ?_;refine yy (ld rfl u3 rfl (Ls.at_eq (hB _ (H.l 0)) b64 rfl)) ?_;have rb2:((srt.take k).drop k0)[jj]!.toNat<ids.length:=Om;obtain⟨⟨Af65,nf65,cf65,lf65⟩,xf65⟩:∃y,mu[((srt.take k).drop k0)[jj]!.toNat]! =y:=⟨_,rfl⟩;have kf65:((srt.take k).drop k0)[jj]!.toNat<mu.length:=Om;have gf65:((putA (mt.map Nx.l) ((srt.take k).drop k0) ((srt.take n).drop k) jj))[((srt.take k).drop k0)[jj]!.toNat]! =lf65:=by rw[←hm,map_b Nx.l kf65,xf65]
      have H:=H.front [8];have H:Hp W _ (row 3 ic 1 (.slice Af65 nf65 cf65) lf65::hole nxF mu (((srt.take k).drop k0)[jj]!.toNat)::_):=Hp.bigOutX nxF ⟨Af65,nf65,cf65,lf65⟩ xf65 H kf65;have vf65:Value.slice mu[((srt.take k).drop k0)[jj]!.toNat]!.A mu[((srt.take k).drop k0)[jj]!.toNat]!.n mu[((srt.take k).drop k0)[jj]!.toNat]!.cp= .slice Af65 nf65 cf65:=by rw[xf65]
      have e_nf65:=(H.l 0).len;have z_nf65:=(H.l 0).nle;refine go ?_;refine Xr H (HpC W _) (.load 0 (.load 1 (.load 2 (.load 3 (.load 4 (.load 5 (.load 6 (.load 7 (.load 8 (.load 9 (.load 10 (.load 12 (.load 13 (.load 14 (.load 15 (.alt 11 (.alt 16 (.load 17 (.alt 18 (.fin) (.none))) (.none)) (.none))))))))))))))))) (H.pick [1,1,1,1,1,1,1,1]) fun z H=> ?_;have b68:((srt.take k).drop k0)[jj]!.toNat<X.nN:=Om;refine G10 ?_;refine yx rfl (Y.indexLs ((srt.take k).drop k0)[jj]!.toNat (H.l 9) rfl u179 ti81 rfl rfl Om b68) ?_;have b69:k≤n:=Om;have b70:n≤srt.length:=Om;refine G3 ?_;refine yx rfl (Y.sliceB k n rfl u81 ti3 rfl rfl rfl rfl rfl b69 Om) ?_;refine WX.yldL rfl rfl (blt rfl) rfl (H.pick [1,1,1,1,1,1,1,1]) (Yld.cast (Y.load1 rfl u81 rfl rfl (Ls.at_eq (H.l 9) b68 rfl)) vf65) ?_;refine aplX (H.pick [1,1,1,1,1,1,1,1]) H 0 rfl (((H.l 2).take b70).drop b69) u81 ti3 ic_one (room_le (by rw[←gf65];exact(lu.at_ rb2).2) (Nat.le_of_eq bl2) Om) fun v71 z H=> ?_;have b72:((srt.take k).drop k0)[jj]!.toNat<X.nN:=Om;refine yx rfl (Y.indexLs ((srt.take k).drop k0)[jj]!.toNat (H.l 9) rfl u179 ti81 rfl rfl Om b72) ?_;obtain⟨A73,n74,c75,rfl,_,_,_⟩:=H.op 0;refine steX (H.pick [1,1,1,1,1,1,1,1]) H 9 rfl ⟨A73,n74,c75,(lf65++((srt.take n).drop k))⟩ b72 ti81 xf65 fun z H=> ?_;refine WX.nil (H.pick [1,1,1,1,1,1,1,1]) ?_;have H:Hp W _ (big nxF (mu.set (((srt.take k).drop k0)[jj]!.toNat) ⟨A73,n74,c75,(lf65++((srt.take n).drop k))⟩)::_):=Hp.bigIn nxF ⟨A73,n74,c75,(lf65++((srt.take n).drop k))⟩ H kf65;obtain⟨m4,q_m4⟩:∃m:List Nx,m=(mu.set (((srt.take k).drop k0)[jj]!.toNat) ⟨A73,n74,c75,(lf65++((srt.take n).drop k))⟩):=⟨_,rfl⟩;rw[←q_m4]at H;refine go ?_;exact Rs [(80,_)] Sx ⟨(jj+1),m4,rfl,rfl,(H.front [1,1,1,1,1,1,1,1,0]),Om,(by rw[q_m4,List.map_set,hm,putA_next];rw[gf65])⟩
     ·have b77:k≤n:=Om;have b78:n≤srt.length:=Om;refine G9 ?_;refine yy (Y.sliceB k n rfl u81 ti3 rfl rfl rfl rfl rfl b77 Om) ?_;refine G2 ?_;refine sb [1,6,7,9,34] ?_;refine go ?_;exact Rs [(7,_),(8,_)] Sx ⟨(f-1),k,n,_,_,mu,rfl,rfl,H,Om,Om,Om,(fun z h=>(h.take Om).drop Om),(by rw[hm,show jj=((srt.take k).drop k0).length from by rw[take_drop_len hk0 hk];omega,←hd,rgB_step (show(k:Int)<(srt.length:Int) by omega) hf,eblk]),(by rw[hm];exact(putA_LB hL bnd br kr jj (by rw[take_drop_len hk0 hk];omega)).up (by rw[take_drop_len Om Om];omega))⟩
   ·have eN:rgB es srt srt.length 0 0 (ms.map Nx.l)=mt.map Nx.l:=hd.symm.trans (rgB_end Om);have H:Hp W _ (big glF (gs.set (i40) ⟨id,A,srt.length,c,srt⟩)::_):=Hp.bigIn glF ⟨id,A,srt.length,c,srt⟩ H (show i40<gs.length by omega);refine go ?_;refine WK.roundS _ [] Sx ?_ ⟨(i40::S),_,mt,rfl,rfl,H,⟨List.nodup_cons.2 ⟨hS_i40,hS.1⟩,fun j hj=>(List.mem_cons.1 hj).elim (fun e=>(by rw[e];exact hi_)) (hS.2 j)⟩,((map_keep glM (y:=⟨id,A,srt.length,c,srt⟩) Om hx rfl).trans hh),(fun j hj hn=>by rw[set_at _ _ _ _ Om,if_neg (fun e=>hn (by rw[←e];exact List.mem_cons_self))];exact hl j hj (fun q=>hn (List.mem_cons_of_mem _ q))),(by rw[←eN,hsrt];exact hR.step hG hS.2 hi_ hS_i40 rfl)⟩;exact left_lt hi_ hS_i40 hS.1 hS.2
theorem lg_th{ths:List Th}{d:List Dm}{s:List Sn}{l:List Pk}(h:lgE ths d s l=0):∀p∈l,p.th∈ths.map (·.id):=by
 intro p hp;obtain⟨j,hj,e⟩:=mem_at hp;have:=lch_zero (of_zero (lg_pk h).1).2 j hj;have h2:tlE (ths.map (·.id)) (tlN (ths.map (·.id)) l j) l[j]! =0:=this;unfold tlE at h2;grind
theorem idsN_mem{l:List Pk}{x:Ix}:∀j,j≤l.length→x∈idsN l j→∃p∈l,x.th=p.th∧∃i:Nat,i<p.k∧x.sr=p.sr+(i:Int)
 |0,_,h=>by cases h
 |j+1,hj,h=>by
  rw[idsN_next]at h;rcases List.mem_append.1 h with h|h
  ·exact idsN_mem j Om h
  ·unfold idsK at h;grind
theorem ixP_ge{α:Type}{p:α→Bool}{l:List α}(h:∃t∈l,p t=true):ixP p l≥0:=by
 simp_all [ixP,if_pos,List.findIdx_lt_length_of_exists,Exists.intro,And.intro]
theorem lg_dom{ths:List Th}{d:List Dm}{s:List Sn}{l:List Pk}(h:lgE ths d s l=0):∀i,i<(idsOf l).length→ixP (fun t:Th=>t.id==(idsOf l)[i]!.th) ths≥0:=by
 intro i hi;obtain⟨p,hp,e,_⟩:=idsN_mem l.length Nl (mem_b hi:(idsOf l)[i]!∈idsN l l.length);have:=lg_th h p hp;obtain⟨t,ht,et⟩:=List.mem_map.1 this;exact ixP_ge ⟨t,ht,beq_iff_eq.2 (et.trans e.symm)⟩
theorem ids_evs{l:List Pk}(h:∀p∈l,p.es.length=p.k):(evsOf l).length=(idsOf l).length:=by
 simp_all [evsOf,idsOf,evsN_len,Nat.le_refl,idsN_len]
theorem nx_ls{w:World}{ns:List Nx}(h:(big nxF ns).holds w):∀y∈ns,Ls w y.A y.n y.cp ic 1 y.l:=fun y hy=>
 OwnL.ls (h.1 (row 3 ic 1 (.slice y.A y.n y.cp) y.l) (List.mem_flatMap.2 ⟨y,hy,List.mem_cons_self⟩)) (fun _=>rfl) Dc
theorem wtI_len(w l:List Int):∀j,(wtI w l j).length=w.length
 |0=>rfl
 |j+1=>by show(List.set _ _ _).length=_;rw[List.length_set];exact wtI_len w l j
theorem wtI_rng{w l:List Int}{B:Int}(h:∀x∈w,0≤x∧x≤B)(hl:∀x∈l,x.toNat<w.length):∀j,j≤l.length→∀x∈wtI w l j,0≤x∧x≤B+(j:Int)
 |0,_,x,hx=>by have:=h x hx;omega
 |j+1,hj,x,hx=>by
  have ih:=wtI_rng h hl j Om;rcases List.mem_or_eq_of_mem_set hx with q|rfl
  ·have:=ih x q;omega
  ·have:=ih _ (mem_b (show l[j]!.toNat<(wtI w l j).length by grind [wtI_len,mem_b]));have e:(fN (fun(w:List Int) (k:Int)=>w.set k.toNat (w[k.toNat]! +1)) w l j)=wtI w l j:=rfl;grind
theorem wtN_next(N:List (List Int))(i:Nat):wtN N (i+1)=wtI (wtN N i) N[i]! N[i]!.length:=rfl
theorem wtN_ok{N:List (List Int)}{n B:Nat}(h:LB N n B):∀i,i≤n→(wtN N i).length=n∧∀x∈wtN N i,0≤x∧x≤((B*i:Nat):Int)
 |0,_=>⟨by show(List.replicate N.length (0:Int)).length=n;rw[List.length_replicate];exact h.1,fun x hx=>by
   have:x∈List.replicate N.length (0:Int):=hx;grind⟩
 |i+1,hi=>by
  obtain⟨a,b⟩:=wtN_ok h i Om;have c:=h.at_ (show i<n by omega);rw[wtN_next];refine⟨(wtI_len _ _ _).trans a,fun x hx=> ?_⟩;have:=wtI_rng b (fun x hx=>by grind) _ Nl x hx;grind
theorem rdyN_ok(w:List Int):∀i,(rdyN w i).length≤i∧∀x∈rdyN w i,0≤x∧x<(i:Int)
 |0=>⟨Nat.le_refl _,fun x hx=>by cases hx⟩
 |i+1=>by
  obtain⟨a,b⟩:=rdyN_ok w i;unfold rdyN;grind
theorem wS_le:∀{w:List Int} {B:Nat},(∀x∈w,x≤(B:Int))→wS w≤w.length*B
 |[],_,_=>Nat.zero_le _
 |x::r,B,h=>by
  have h1:=h x List.mem_cons_self;have h2:=wS_le (w:=r) fun y hy=>h y (List.mem_cons_of_mem _ hy);unfold wS at h2 ⊢;rw[List.map_cons,List.sum_cons,List.length_cons,Nat.succ_mul];omega
structure KaOk(s:List Int×List Int)(n:Nat)(B:Int)(M:Nat):Prop where
 r:∀x∈s.1,0≤x∧x<(n:Int)
 l:s.2.length=n
 b:∀x∈s.2,-B≤x∧x≤100000
 m:kaM s.1 s.2≤M
theorem KaOk.step{s:List Int×List Int}{n:Nat}{B:Int}{M:Nat}{k:Int}(h:KaOk s n B M)(hk:0≤k∧k<(n:Int)):KaOk (kaI s k) n (B+1) M:=by
 have hb:=h.b _ (mem_b (show k.toNat<s.2.length by rw[h.l];omega));refine⟨fun x hx=> ?_,(kaI_len s k).trans h.l,fun x hx=> ?_,Nat.le_trans (kaI_M (r:=s.1) (w:=s.2) (by rw[h.l];omega)) h.m⟩
 ·unfold kaI at hx;dsimp only at hx;split at hx
  ·rcases List.mem_append.1 hx with q|q
   ·exact h.r x q
   grind
  ·exact h.r x hx
 ·have hx:x∈s.2.set k.toNat (s.2[k.toNat]! -1):=hx;rcases List.mem_or_eq_of_mem_set hx with q|rfl
  ·have:=h.b x q;omega
  ·omega
theorem KaOk.run{s:List Int×List Int}{n:Nat}{B:Int}{M:Nat}{l:List Int}(h:KaOk s n B M)(hl:∀x∈l,0≤x∧x<(n:Int)):∀j,j≤l.length→KaOk (kaR s l j) n (B+(j:Int)) M
 |0,_=>by rw[show B+((0:Nat):Int)=B from Om];exact h
 |j+1,hj=>by
  have ih:=h.run hl j Om;have:=ih.step (hl _ (mem_b (show j<l.length from hj)));rw[show B+((j+1:Nat):Int)=B+(j:Int)+1 from Om];exact this
theorem KaOk.up{s:List Int×List Int}{n:Nat}{B B':Int}{M M':Nat}(h:KaOk s n B M)(hB:B≤B')(hM:M≤M'):KaOk s n B' M':=⟨h.r,h.l,fun x hx=>by have:=h.b x hx;omega,Nat.le_trans h.m hM⟩
theorem kaR_next(s:List Int×List Int)(l:List Int)(j:Nat):kaR s l (j+1)=kaI (kaR s l j) l[j]! :=rfl
theorem kaM_drop{r w:List Int}(h:0<r.length):kaM (r.drop 1) w+1=kaM r w:=by grind [kaM,List.length_drop]
theorem kaF_step{N:List (List Int)}{f d:Nat}{r w:List Int}(h:(r.length:Int)>0)(hf:1≤f):kaF N f r w d=kaF N (f-1) (kaR (r.drop 1,w) N[r[0]!.toNat]! N[r[0]!.toNat]!.length).1 (kaR (r.drop 1,w) N[r[0]!.toNat]! N[r[0]!.toNat]!.length).2 (d+1):=by
 obtain⟨g,rfl⟩:∃g,f=g+1:=⟨f-1,Om⟩;exact if_pos h
def plI(ids:List Ix)(k:Int×Int):Nat→Option Nat
 |0=>none
 |j+1=>if k=(ids[j]!.th,ids[j]!.sr)then some j else plI ids k j
theorem pget_set:∀(m:PM) (i:Int×Int) (u:Value) (k:Int×Int),pget (pset m i u) k=if k=i then some u else pget m k
 |[],i,u,k=>by
  rfl
 |(a,v)::r,i,u,k=>by
  have ih:=pget_set r i u k;by_cases h:i=a
  ·simp_all [dite,pset,pget]
  ·by_cases q:k=a
   ·subst q;rw[if_neg (fun e=>h e.symm)];simp[pset,pget,h]
   simp_all [pset,if_false,pget]
theorem pget_atM(ids:List Ix)(k:Int×Int):∀n,pget (atM ids n) k=(plI ids k n).map fun j:Nat=>Value.int .i64 (j:Int)
 |0=>rfl
 |n+1=>by
  show pget (pset (atM ids n) (ids[n]!.th,ids[n]!.sr) _) k=_;rw[pget_set,pget_atM ids k n,show plI ids k (n+1)=if k=(ids[n]!.th,ids[n]!.sr)then some n else plI ids k n from rfl];grind
theorem vcI_rng(ids:List Ix)(N:List (List Int))(th:Int)(a:Nat)(h:∀x∈ids,0≤x.sr∧x.sr≤1000000000000000):∀i,i≤ids.length→0≤vcI ids N th a i∧vcI ids N th a i≤1000000000000001
 |0,_=>⟨Int.le_refl _,by show(0:Int)≤1000000000000001;decide⟩
 |i+1,hi=>by
  have ih:=vcI_rng ids N th a h i Om;grind [mem_b,vcI]
theorem vcF_next(ths:List Th)(ids:List Ix)(N:List (List Int))(a:Nat){j:Nat}(h:j<ths.length):vcF ths ids N a (j+1)=vcF ths ids N a j++[vcI ids N ths[j]!.id a ids.length]:=by
 unfold vcF;rw[take_1 h,List.map_append];rfl
theorem vcF_len(ths:List Th)(ids:List Ix)(N:List (List Int))(a:Nat){j:Nat}(h:j≤ths.length):(vcF ths ids N a j).length=j:=by
 grind [vcF,List.length_map,List.length_take]
theorem caN_ok{ths:List Th}{l:List Pk}(h:∀p∈l,p.es.length=p.k):LB (caN ths l) (idsOf l).length (2*(idsOf l).length+(idsOf l).length):=by
 have hE:=edF_ok (ids_evs h);obtain⟨gl,hp⟩:∃gl:List Gl,gl.map glP=gpN ths (idsOf l) (idsOf l).length:=⟨(gpN ths (idsOf l) (idsOf l).length).map fun g=>⟨g.1,none,0,0,g.2⟩,by rw[List.map_map];exact List.map_id _⟩;have hG:GrpOk ths (idsOf l) gl:=⟨hp⟩;have key:∀S:List Nat,(∀j∈S,j<gl.length)→S.Nodup→∃N,RdOk ths (idsOf l) (evsOf l) gl (edF (idsOf l) (evsOf l)) N S:=by
  intro S
  induction S with
  |nil=>intro _ _;exact⟨_,RdOk.start hE.1⟩
  |cons i S ih=>
   intro h1 h2;rw[List.nodup_cons]at h2;obtain⟨N,hN⟩:=ih (fun j hj=>h1 j (List.mem_cons_of_mem _ hj)) h2.2;exact⟨_,hN.step hG (fun j hj=>h1 j (List.mem_cons_of_mem _ hj)) (h1 i List.mem_cons_self) h2.1 rfl⟩
 obtain⟨N,hN⟩:=key (List.range gl.length) (fun j hj=>List.mem_range.1 hj) List.nodup_range;have e:=hN.done hG hE.1 fun i hi=>List.mem_range.2 hi;unfold caN;rw[←e];exact hN.lb hE
theorem LB.nok{N:List (List Int)}{n B:Nat}(h:LB N n B)(hB:B≤1000):NOk N:=fun l hl=>⟨by rw[h.1];exact(h.2 l hl).1,Nat.le_trans (h.2 l hl).2 hB⟩
theorem kq105(a0:Int)(a1:Int)(b0:Int)(b1:Int)(w:World):(Op.equalIn 10000 105 (.agg #[.int .i64 a0,.int .i64 a1]) (.agg #[.int .i64 b0,.int .i64 b1])).run Tryz.prog w= .ok ((a0==b0)&&(a1==b1)) w:=by
 go_simp
 grind
theorem chk105(em:Bool)(a b:Int)(w:World):(Instr.checkKey em 10000 105 (.agg #[.int .i64 a,.int .i64 b])).run Tryz.prog w= .ok () w:=by
 rw[show(10000:Nat)=9999+1 from rfl];unfold Instr.checkKey
 go_simp
 rw[show(Instr.checkKey em 9999 3 (.int .i64 a)).run Tryz.prog w= .ok () w from checkKey_int Tryz.underlying3 em 9998 a w,Result.andThen_ok,show(Instr.checkKey em 9999 3 (.int .i64 b)).run Tryz.prog w= .ok () w from checkKey_int Tryz.underlying3 em 9998 b w]
theorem pkk105:PK Tryz.prog 105:=⟨by kernel_rfl,kq105,chk105⟩
theorem kq368(a0:Int)(a1:Int)(b0:Int)(b1:Int)(w:World):(Op.equalIn 10000 368 (.agg #[.int .i64 a0,.int .i64 a1]) (.agg #[.int .i64 b0,.int .i64 b1])).run Tryz.prog w= .ok ((a0==b0)&&(a1==b1)) w:=by
 go_simp
 grind
theorem chk368(em:Bool)(a b:Int)(w:World):(Instr.checkKey em 10000 368 (.agg #[.int .i64 a,.int .i64 b])).run Tryz.prog w= .ok () w:=by
 rw[show(10000:Nat)=9999+1 from rfl];unfold Instr.checkKey
 go_simp
 rw[show(Instr.checkKey em 9999 3 (.int .i64 a)).run Tryz.prog w= .ok () w from checkKey_int Tryz.underlying3 em 9998 a w,Result.andThen_ok,show(Instr.checkKey em 9999 3 (.int .i64 b)).run Tryz.prog w= .ok () w from checkKey_int Tryz.underlying3 em 9998 b w]
theorem pkk368:PK Tryz.prog 368:=⟨by kernel_rfl,kq368,chk368⟩
def cwT(X:Cw)(ids:List Ix)(es:List Ev)(ns:List Nx):List Res:=[box X.g 300 X.cells,row 105 Ix.c 2 (.slice X.iA X.iN X.iC) ids,row 73 Ev.c 6 (.slice X.eA X.eN X.eC) es,mpp X.gm (atM ids ids.length),row 81 Nx.c 1 (.slice X.nA X.nN X.nC) ns,big nxF ns]
theorem exam_any(A_ta:Option Addr)(n_ta c_ta:Nat)(ta:List Th)(A_da:Option Addr)(n_da c_da:Nat)(da:List Dm)(A_na:Option Addr)(n_na c_na:Nat)(na:List Sn)(A_pa:Option Addr)(n_pa c_pa:Nat)(pa:List Pk)(w:World)(h_ta:Ls w A_ta n_ta c_ta Th.c 3 ta)(h_da:Ls w A_da n_da c_da Dm.c 2 da)(h_na:Ls w A_na n_na c_na Sn.c 5 na)(h_pa:Ls w A_pa n_pa c_pa Pk.c 4 pa)(g_pa:PksOk w pa)(hk:∀x∈pa,x.k≤1000000)(hl:n_pa≤1000)(ht:n_ta≤1000)(he:evsum pa pa.length≤24):
  Calls Tryz.prog 195 #[.agg #[.slice A_ta n_ta c_ta,.slice A_da n_da c_da,.slice A_na n_na c_na,.slice A_pa n_pa c_pa]] w fun e w'=>∃pv,e= .returned (.tuple #[pv,.int .i64 (exE ta da na pa)])∧Ext w w'∧(exE ta da na pa≠0→pv= .pointer none)∧(exE ta da na pa=0→∃(X:Cw) (ns:List Nx),pv= .pointer (some ⟨X.g,0,none⟩)∧(X.tA=A_ta∧X.tN=n_ta∧X.tC=c_ta)∧ns.map Nx.l=List.replicate (idsOf pa).length []∧Hp w w' (cwT X (idsOf pa) (evsOf pa) ns)):=by
 have H:=(Hp.nil w);have e_ta:=h_ta.len;have z_ta:=h_ta.nle;have e_da:=h_da.len;have z_da:=h_da.nle;have e_na:=h_na.len;have z_na:=h_na.nle;have e_pa:=h_pa.len;have z_pa:=h_pa.nle;have hkl:∀p∈pa,p.es.length=p.k:=fun p hp=>(g_pa p hp).l.len;refine Wb Tryz.func195 ?_;refine go ?_;refine bx H fun g2 z H=> ?_;refine go ?_;refine c1 H Fh (lgcheck_any _ _ _ _ _ _ _ _ _ _ _ _ _ _ _ _ _ (h_ta.ext H.ext) (h_da.ext H.ext) (h_na.ext H.ext) (h_pa.ext H.ext) (g_pa.ext H.ext) hk Om Om (Nat.le_trans he Dc)) fun z H=> ?_;refine go ?_;refine Cd (fun p7=> ?_) fun p7=> ?_
 ·refine go ?_;refine Rt [_,_] ?_;have e1:exE ta da na pa=lgE ta da na pa:=if_pos p7;exact⟨_,(by rw[e1];rfl),H.ext,fun _=>rfl,fun h=>absurd h (by rw[e1];exact p7)⟩
 ·refine go ?_;refine Xr H (HpC w _) (.load 0 (.load 1 (.alt 2 (.alt 3 (.load 4 (.alt 5 (.load 6 (.fin)) (.none))) (.none)) (.alt 3 (.alt 2 (.load 4 (.alt 5 (.load 6 (.fin)) (.none))) (.none)) (.none))))) (H.pick [0]) fun z H=> ?_;refine G2 ?_;refine WX.alt ?_ ?_
  ·refine c2X (H.pick [0]) H Fh (ids_any _ _ _ _ _ _ _ _ _ _ _ _ _ _ _ _ _ (h_ta.ext H.ext) (h_da.ext H.ext) (h_na.ext H.ext) (h_pa.ext H.ext) (g_pa.ext H.ext) hk Om Om (Nat.le_trans he Dc)) fun v10 z H=> ?_;refine mmpX (H.pick [1]) H fun g12 z H=> ?_;obtain⟨A14,n15,c16,rfl,_,_,_⟩:=H.op 1;refine go ?_;refine bxX (H.pick [2]) H fun g17 z H=> ?_;refine go ?_;refine WX.nil (H.pick [3]) ?_;have H:=H.nilRow 73 Ev.c 6;rw[idsF_ok (Decidable.of_not_not (fun q=>q p7))]at H;have e_ids:=(H.l 3).len;have e_il:(idsOf pa).length≤24:=by show(idsN pa pa.length).length≤24;rw[idsN_len];exact he
   have pkk:=lg_pkok (Decidable.of_not_not (fun q=>q p7));refine go ?_;refine sb [26,5,24,25] ?_;refine WC.loopS 1 (fun mz Ed W'=>∃j:Nat,∃v:Value,mz=n_pa-j∧Ed=[(26,.int .i64 ((j:Nat):Int))]∧Hp w W' (row 73 Ev.c 6 v (evsN pa j)::box g17 300 [.slice A_ta n_ta c_ta,.slice A_da n_da c_da,.slice A_na n_na c_na,.slice A_pa n_pa c_pa,.slice A14 n15 c16,.map (some g12),v,.slice none 0 0]::_::_::_::[])∧(j≤n_pa)) _ ⟨0,_,rfl,rfl,(H.pick [0,0,0,0,0]),(Nat.zero_le _)⟩ ?_;rintro _ _ z ⟨j,v,rfl,rfl,H,jl⟩;have el:=evsN_len hkl j Om;have eu:=Nat.le_trans (evsum_le_all pa j pa.length Om) he;refine go ?_;refine Cd (fun p24=> ?_) fun p24=> ?_
   ·have hkj:=hkl _ (mem_b (show j<pa.length by omega));have ok:=pkk _ (mem_b (show j<pa.length by omega));have o3:=ok.k;have ek:=(g_pa _ (mem_b (show j<pa.length by omega))).l.len;have b27:j<n_pa:=Om;refine go ?_;refine al H ti55 fun g28 z H=> ?_;refine st H 0 ti55 fun z H=> ?_;obtain⟨A30,n31,c32,rfl,_,_,_⟩:=H.op 1;refine go ?_;refine Xr H (HpC w _) (.load 0 (.load 1 (.load 2 (.load 3 (.load 5 (.load 6 (.alt 4 (.alt 7 (.load 8 (.load 9 (.alt 10 (.fin) (.none)))) (.none)) (.none)))))))) (H.pick [0,2,2,2]) fun z H=> ?_;refine G6 ?_;refine WX.yldL rfl rfl (blt rfl) rfl (H.pick [0,2,2,2]) (ld rfl u53 rfl (Blk.at_eq (H.b 2) rfl)) ?_;refine aplX (H.pick [0,2,2,2]) H 1 rfl ((g_pa _ (mem_b (show j<pa.length from Om))).ext H.ext).l u53 ti73 Ev.one (room_le (by rw[el];exact eu) (show pa[j]!.es.length≤1000 by omega) Dc) fun v33 z H=> ?_;obtain⟨A34,n35,c36,rfl,_,_,_⟩:=H.op 1;refine go ?_;refine stX (H.pick [0,2,2,2]) H 2 ti53 fun z H=> ?_;refine WX.nil (H.pick [0,2,2,2]) ?_;refine go ?_;exact Rs [(26,_)] Sx ⟨(j+1),(.slice A34 n35 c36),rfl,rfl,(by rw[show evsN pa (j+1)=evsN pa j++pa[j]!.es from rfl];exact(H.pick [1,1,1,1,1])),Om⟩
   ·refine G6 ?_;refine mm H fun g38 z H=> ?_;obtain rfl:j=pa.length:=Om;rw[show evsN pa pa.length=evsOf pa from rfl]at H;have e_ev:=(ids_evs hkl).trans e_ids;have H:=(show Hp _ _ _ from H);obtain⟨A42,n43,c44,rfl,_,_,_⟩:=H.op 1;refine G11 ?_;refine sb [5,8,45,46,47] ?_;refine go ?_;refine sb [47,5,8,45,46] ?_;refine WC.loopS 1 (fun mz Ed W'=>∃i:Nat,mz=n15-i∧Ed=[(47,.int .i64 ((i:Nat):Int))]∧Hp w W' (mpi g38 (im (sntN (evsOf pa) i))::_::_::mpp g12 (atM (idsOf pa) i)::_::_::[])∧(i≤n15)∧(fE (exq (evsOf pa)) i=0)) _ ⟨0,rfl,rfl,(H.pick [0,0,0,0,0,0]),(Nat.zero_le _),rfl⟩ ?_;rintro _ _ z ⟨i,rfl,rfl,H,il,hp⟩;refine go ?_;refine Cd (fun p47=> ?_) fun p47=> ?_
    ·have b50:i<n15:=Om;refine go ?_;refine al H ti105 fun g51 z H=> ?_;refine go ?_;refine st H 0 ti105 fun z H=> ?_;refine go ?_;refine WC.regionT 6 (by kernel_rfl) (by kernel_rfl) ?_;refine go ?_;refine WQ.tail (fun z x=> ?_);have H:=H.ex x;refine mup H 4 u298 pkk105 fun z H=> ?_;have b55:i<n43:=Om;refine go ?_;refine al H ti73 fun g56 z H=> ?_;refine st H 0 ti73 fun z H=> ?_;refine go ?_;refine Cd (fun p59=> ?_) fun p59=> ?_
     ·refine G5 ?_;refine yy (Yld.cast (Y.lookup rfl u178 u3 ti3 rfl rfl (fun _ h=>h▸(H.mi 2))) (mval_im _ _)) ?_;refine G2 ?_;refine sb [5,8,11,45,46,47,72] ?_;refine Cd (fun p62=> ?_) fun p62=> ?_
      ·refine go ?_;refine Rt [_,_] ?_;have e1:exE ta da na pa=4:=(if_neg (fun q=>q p7)).trans (fE_ret hp (if_pos ⟨p59,p62⟩) Dc Om);exact⟨_,(by rw[e1];rfl),H.ext,fun _=>rfl,fun h=>absurd h (by rw[e1];decide)⟩
      ·refine G6 ?_;refine mu H 2 u178 u3 fun z H=> ?_;refine go ?_;exact Rs [(47,_)] Sx ⟨(i+1),rfl,rfl,(by rw[show sntN (evsOf pa) (i+1)=iset (sntN (evsOf pa) i) (evsOf pa)[i]!.n 1 from if_pos p59,←mset_im];exact(H.pick [2,2,2,2,2,2])),Om,(fE_next hp (if_neg (fun q=>p62 q.2)))⟩
     ·refine go ?_;exact Rs [(47,_)] Sx ⟨(i+1),rfl,rfl,(by rw[show sntN (evsOf pa) (i+1)=sntN (evsOf pa) i from if_neg p59];exact(H.pick [2,2,2,2,2,2])),Om,(fE_next hp (if_neg (fun q=>p59 q.1)))⟩
    ·refine G5 ?_;refine sb [5] ?_;refine go ?_;refine ms (f:=Nx.c) (m:=n15) (default:Nx) H u179 ti81 Om fun v65 z H=> ?_;obtain⟨A67,n68,c69,rfl,_,_,_⟩:=H.op 0;refine go ?_;refine st H 3 ti179 fun z H=> ?_;refine go ?_;refine Rt [_,_] ?_;have e1:exE ta da na pa=0:=(if_neg (fun q=>q p7)).trans (fE_end hp Om);have H:=nx_zero H n15;obtain rfl:i=(idsOf pa).length:=Om;exact⟨_,(by rw[e1];rfl),H.ext,fun h=>absurd e1 h,fun _=>⟨⟨g17,g12,A_ta,n_ta,c_ta,A_da,n_da,c_da,A_na,n_na,c_na,A_pa,n_pa,c_pa,A14,n15,c16,A42,n43,c44,A67,n68,c69⟩,List.replicate n15 default,rfl,⟨rfl,rfl,rfl⟩,by rw[List.map_replicate,e_ids];rfl,(H.pick [4,5,3,3,1,0])⟩⟩
  refine mmpX (H.pick [0]) H fun g72 z H=> ?_;refine c2X (H.pick [1]) H Fh (ids_any _ _ _ _ _ _ _ _ _ _ _ _ _ _ _ _ _ (h_ta.ext H.ext) (h_da.ext H.ext) (h_na.ext H.ext) (h_pa.ext H.ext) (g_pa.ext H.ext) hk Om Om (Nat.le_trans he Dc)) fun v74 z H=> ?_;obtain⟨A76,n77,c78,rfl,_,_,_⟩:=H.op 0;refine go ?_;refine bxX (H.pick [2]) H fun g79 z H=> ?_;refine go ?_;refine WX.nil (H.pick [3]) ?_;have H:=H.nilRow 73 Ev.c 6;rw[idsF_ok (Decidable.of_not_not (fun q=>q p7))]at H;have e_ids:=(H.l 2).len;have e_il:(idsOf pa).length≤24:=by show(idsN pa pa.length).length≤24;rw[idsN_len];exact he
  have pkk:=lg_pkok (Decidable.of_not_not (fun q=>q p7));refine go ?_;refine sb [26,5,24,25] ?_;refine WC.loopS 1 (fun mz Ed W'=>∃j:Nat,∃v:Value,mz=n_pa-j∧Ed=[(26,.int .i64 ((j:Nat):Int))]∧Hp w W' (row 73 Ev.c 6 v (evsN pa j)::box g79 300 [.slice A_ta n_ta c_ta,.slice A_da n_da c_da,.slice A_na n_na c_na,.slice A_pa n_pa c_pa,.slice A76 n77 c78,.map (some g72),v,.slice none 0 0]::_::_::_::[])∧(j≤n_pa)) _ ⟨0,_,rfl,rfl,(H.pick [0,0,0,0,0]),(Nat.zero_le _)⟩ ?_;rintro _ _ z ⟨j,v,rfl,rfl,H,jl⟩;have el:=evsN_len hkl j Om;have eu:=Nat.le_trans (evsum_le_all pa j pa.length Om) he;refine go ?_;refine Cd (fun p86=> ?_) fun p86=> ?_
  ·have hkj:=hkl _ (mem_b (show j<pa.length by omega));have ok:=pkk _ (mem_b (show j<pa.length by omega));have o3:=ok.k;have ek:=(g_pa _ (mem_b (show j<pa.length by omega))).l.len;have b89:j<n_pa:=Om;refine go ?_;refine al H ti55 fun g90 z H=> ?_;refine st H 0 ti55 fun z H=> ?_;obtain⟨A92,n93,c94,rfl,_,_,_⟩:=H.op 1;refine go ?_;refine Xr H (HpC w _) (.load 0 (.load 1 (.load 2 (.load 3 (.load 5 (.load 6 (.alt 4 (.alt 7 (.load 8 (.load 9 (.alt 10 (.fin) (.none)))) (.none)) (.none)))))))) (H.pick [0,2,2,2]) fun z H=> ?_;refine G6 ?_;refine WX.yldL rfl rfl (blt rfl) rfl (H.pick [0,2,2,2]) (ld rfl u53 rfl (Blk.at_eq (H.b 2) rfl)) ?_;refine aplX (H.pick [0,2,2,2]) H 1 rfl ((g_pa _ (mem_b (show j<pa.length from Om))).ext H.ext).l u53 ti73 Ev.one (room_le (by rw[el];exact eu) (show pa[j]!.es.length≤1000 by omega) Dc) fun v95 z H=> ?_;obtain⟨A96,n97,c98,rfl,_,_,_⟩:=H.op 1;refine go ?_;refine stX (H.pick [0,2,2,2]) H 2 ti53 fun z H=> ?_;refine WX.nil (H.pick [0,2,2,2]) ?_;refine go ?_;exact Rs [(26,_)] Sx ⟨(j+1),(.slice A96 n97 c98),rfl,rfl,(by rw[show evsN pa (j+1)=evsN pa j++pa[j]!.es from rfl];exact(H.pick [1,1,1,1,1])),Om⟩
  ·refine G6 ?_;refine mm H fun g100 z H=> ?_;obtain rfl:j=pa.length:=Om;rw[show evsN pa pa.length=evsOf pa from rfl]at H;have e_ev:=(ids_evs hkl).trans e_ids;have H:=(show Hp _ _ _ from H);obtain⟨A104,n105,c106,rfl,_,_,_⟩:=H.op 1;refine G11 ?_;refine sb [5,8,45,46,47] ?_;refine go ?_;refine sb [47,5,8,45,46] ?_;refine WC.loopS 1 (fun mz Ed W'=>∃i:Nat,mz=n77-i∧Ed=[(47,.int .i64 ((i:Nat):Int))]∧Hp w W' (mpi g100 (im (sntN (evsOf pa) i))::_::_::_::mpp g72 (atM (idsOf pa) i)::_::[])∧(i≤n77)∧(fE (exq (evsOf pa)) i=0)) _ ⟨0,rfl,rfl,(H.pick [0,0,0,0,0,0]),(Nat.zero_le _),rfl⟩ ?_;rintro _ _ z ⟨i,rfl,rfl,H,il,hp⟩;refine go ?_;refine Cd (fun p109=> ?_) fun p109=> ?_
   ·have b112:i<n77:=Om;refine go ?_;refine al H ti105 fun g113 z H=> ?_;refine go ?_;refine st H 0 ti105 fun z H=> ?_;refine go ?_;refine WC.regionT 6 (by kernel_rfl) (by kernel_rfl) ?_;refine go ?_;refine WQ.tail (fun z x=> ?_);have H:=H.ex x;refine mup H 5 u298 pkk105 fun z H=> ?_;have b117:i<n105:=Om;refine go ?_;refine al H ti73 fun g118 z H=> ?_;refine st H 0 ti73 fun z H=> ?_;refine go ?_;refine Cd (fun p121=> ?_) fun p121=> ?_
    ·refine G5 ?_;refine yy (Yld.cast (Y.lookup rfl u178 u3 ti3 rfl rfl (fun _ h=>h▸(H.mi 2))) (mval_im _ _)) ?_;refine G2 ?_;refine sb [5,8,11,45,46,47,72] ?_;refine Cd (fun p124=> ?_) fun p124=> ?_
     ·refine go ?_;refine Rt [_,_] ?_;have e1:exE ta da na pa=4:=(if_neg (fun q=>q p7)).trans (fE_ret hp (if_pos ⟨p121,p124⟩) Dc Om);exact⟨_,(by rw[e1];rfl),H.ext,fun _=>rfl,fun h=>absurd h (by rw[e1];decide)⟩
     ·refine G6 ?_;refine mu H 2 u178 u3 fun z H=> ?_;refine go ?_;exact Rs [(47,_)] Sx ⟨(i+1),rfl,rfl,(by rw[show sntN (evsOf pa) (i+1)=iset (sntN (evsOf pa) i) (evsOf pa)[i]!.n 1 from if_pos p121,←mset_im];exact(H.pick [2,2,2,2,2,2])),Om,(fE_next hp (if_neg (fun q=>p124 q.2)))⟩
    ·refine go ?_;exact Rs [(47,_)] Sx ⟨(i+1),rfl,rfl,(by rw[show sntN (evsOf pa) (i+1)=sntN (evsOf pa) i from if_neg p121];exact(H.pick [2,2,2,2,2,2])),Om,(fE_next hp (if_neg (fun q=>p121 q.1)))⟩
   ·refine G5 ?_;refine sb [5] ?_;refine go ?_;refine ms (f:=Nx.c) (m:=n77) (default:Nx) H u179 ti81 Om fun v127 z H=> ?_;obtain⟨A129,n130,c131,rfl,_,_,_⟩:=H.op 0;refine go ?_;refine st H 3 ti179 fun z H=> ?_;refine go ?_;refine Rt [_,_] ?_;have e1:exE ta da na pa=0:=(if_neg (fun q=>q p7)).trans (fE_end hp Om);have H:=nx_zero H n77;obtain rfl:i=(idsOf pa).length:=Om;exact⟨_,(by rw[e1];rfl),H.ext,fun h=>absurd e1 h,fun _=>⟨⟨g79,g72,A_ta,n_ta,c_ta,A_da,n_da,c_da,A_na,n_na,c_na,A_pa,n_pa,c_pa,A76,n77,c78,A104,n105,c106,A129,n130,c131⟩,List.replicate n77 default,rfl,⟨rfl,rfl,rfl⟩,by rw[List.map_replicate,e_ids];rfl,(H.pick [4,4,3,3,1,0])⟩⟩
theorem sound_any(A_ta:Option Addr)(n_ta c_ta:Nat)(ta:List Th)(A_da:Option Addr)(n_da c_da:Nat)(da:List Dm)(A_na:Option Addr)(n_na c_na:Nat)(na:List Sn)(A_pa:Option Addr)(n_pa c_pa:Nat)(pa:List Pk)(w:World)(h_ta:Ls w A_ta n_ta c_ta Th.c 3 ta)(h_da:Ls w A_da n_da c_da Dm.c 2 da)(h_na:Ls w A_na n_na c_na Sn.c 5 na)(h_pa:Ls w A_pa n_pa c_pa Pk.c 4 pa)(g_pa:PksOk w pa)(hk:∀x∈pa,x.k≤1000000)(hl:n_pa≤1000)(ht:n_ta≤1000)(he:evsum pa pa.length≤24):
  Calls Tryz.prog 166 #[.agg #[.slice A_ta n_ta c_ta,.slice A_da n_da c_da,.slice A_na n_na c_na,.slice A_pa n_pa c_pa]] w fun e w'=>∃pv,e= .returned (.tuple #[pv,.int .i64 (soE ta da na pa)])∧Ext w w'∧(soE ta da na pa≠0→pv= .pointer none)∧(soE ta da na pa=0→∃X:Cw,pv= .pointer (some ⟨X.g,0,none⟩)∧X.ok 300 w' (idsOf pa) (evsOf pa) (caN ta pa)):=by
 have H:=(Hp.nil w);have e_ta:=h_ta.len;have z_ta:=h_ta.nle;have e_da:=h_da.len;have z_da:=h_da.nle;have e_na:=h_na.len;have z_na:=h_na.nle;have e_pa:=h_pa.len;have z_pa:=h_pa.nle;have hkl:∀p∈pa,p.es.length=p.k:=fun p hp=>(g_pa p hp).l.len;have e_il:(idsOf pa).length≤24:=by show(idsN pa pa.length).length≤24;rw[idsN_len];exact he
 refine Wb Tryz.func166 ?_;refine go ?_;refine bx H fun g2 z H=> ?_;refine go ?_;refine c3 Fh (exam_any _ _ _ _ _ _ _ _ _ _ _ _ _ _ _ _ _ (h_ta.ext H.ext) (h_da.ext H.ext) (h_na.ext H.ext) (h_pa.ext H.ext) (g_pa.ext H.ext) hk Om Om he) ?_;rintro _ z ⟨pv,rfl,x,hno,hof⟩;refine⟨_,rfl,?_⟩;refine G1 ?_;by_cases h0:exE ta da na pa=0
 ·obtain⟨X,ns,rfl,hths,hn0,K⟩:=hof h0;have H:Hp w _ (box X.g 300 X.cells::row 105 Ix.c 2 (.slice X.iA X.iN X.iC) (idsOf pa)::row 73 Ev.c 6 (.slice X.eA X.eN X.eC) (evsOf pa)::mpp X.gm (atM (idsOf pa) (idsOf pa).length)::row 81 Nx.c 1 (.slice X.nA X.nN X.nC) ns::big nxF ns::_):=H.join K;refine G8 ?_;refine yy (Yld.cast (Y.neq rfl rfl rfl) (vb (by rw[h0];first|done|rfl))) ?_;refine go ?_;refine WC.condF rfl ?_;have he0:lgE ta da na pa=0:=Classical.byContradiction fun q=>q ((if_pos q).symm.trans h0);have hths0:Ls w X.tA X.tN X.tC Th.c 3 ta:=by rw[hths.1,hths.2.1,hths.2.2];exact h_ta
  refine go ?_;refine c3 Fh (edges_any _ _ _ _ _ _ _ (H.front [0,0,0,1,1]) hn0 (ids_evs hkl) Om) ?_;rintro _ z ⟨ns14,rfl,H,hns14⟩;refine⟨_,rfl,?_⟩;refine go ?_;refine c3 Fh (readings_any _ _ _ _ ta (edF (idsOf pa) (evsOf pa)) _ _ _ (H.front [0,0,0,0,0]) hths0 (lg_dom he0) hns14 (edF_ok (ids_evs hkl)) (ids_evs hkl) Om) ?_;rintro _ w1 ⟨nr,rfl,H,hnr⟩;have X0:=H.ext;have hok:X.ok 300 w1 (idsOf pa) (evsOf pa) (caN ta pa):=⟨H.b 0,H.l 1,H.l 2,H.mp 5,nr,H.l 3,nx_ls (H.get (k:=4) rfl),hnr⟩;obtain⟨hwb,hwi,hwe,hwm,_⟩:=hok;have hn1:=H.l 3;have hn2:=nx_ls (H.get (k:=4) rfl);have hok:=(show X.ok 300 w1 (idsOf pa) (evsOf pa) (caN ta pa)from⟨hwb,hwi,hwe,hwm,nr,hn1,hn2,hnr⟩);have e_i:=hwi.len;have e_n:=hn1.len;have lb:=caN_ok (ths:=ta) hkl;have nln:nr.length=(idsOf pa).length:=by rw[←List.length_map (f:=Nx.l),hnr];exact lb.1
  have H:=Hp.nil w1;have hnr:nr.map Nx.l=caN ta pa:=hnr;obtain⟨N,hN⟩:∃N,N=caN ta pa:=⟨_,rfl⟩;rw[←hN]at hnr lb;refine⟨_,rfl,?_⟩;refine go ?_;refine ms (f:=ic) (m:=X.iN) (0:Int) H u81 ti3 Om fun v17 z H=> ?_;obtain⟨A21,n22,c23,rfl,_,_,_⟩:=H.op 0;have nNl:N.length=(idsOf pa).length:=lb.1;rw[show List.replicate X.iN (0:Int)=wtN N 0 from by show _=List.replicate N.length (0:Int);rw[nNl,e_i]]at H;refine G11 ?_;refine sb [4,6,39,40,41] ?_;refine go ?_;refine sb [41,4,6,39,40] ?_;refine WC.loopS 1 (fun mz Ed W'=>∃i:Nat,mz=X.nN-i∧Ed=[(41,.int .i64 ((i:Nat):Int))]∧Hp w1 W' (row 3 ic 1 (.slice A21 n22 c23) (wtN N i)::[])∧(i≤X.nN)) _ ⟨0,rfl,rfl,(H.pick [0]),(Nat.zero_le _)⟩ ?_;rintro _ _ z ⟨i,rfl,rfl,H,il⟩;have wok:=wtN_ok lb i Om;refine go ?_;refine Cd (fun p26=> ?_) fun p26=> ?_
  ·have b29:i<X.nN:=Om;refine go ?_;refine sb [47,4,6,39,40,41,45,46] ?_;refine WC.loopS 1 (fun mz Ed W'=>∃j:Nat,mz=nr[i]!.n-j∧Ed=[(47,.int .i64 ((j:Nat):Int))]∧Hp w1 W' (row 3 ic 1 (.slice A21 n22 c23) (wtI (wtN N i) nr[i]!.l j)::[])∧(j≤nr[i]!.n)) _ ⟨0,rfl,rfl,(H.pick [0]),(Nat.zero_le _)⟩ ?_;rintro _ _ z ⟨j,rfl,rfl,H,jl⟩;have eli:=(hn2 _ (mem_b (show i<nr.length by omega))).len;have eNi:N[i]! =nr[i]!.l:=by rw[←hnr,map_b Nx.l Om]
   have lbi:=lb.at_ (show i<(idsOf pa).length by omega);rw[eNi]at lbi;have wr:=wtI_rng (l:=nr[i]!.l) wok.2 (fun x hx=>by have:=lbi.1 x hx;rw[wok.1];omega) j Om;have wl:=wtI_len (wtN N i) nr[i]!.l j;refine go ?_;refine Cd (fun p33=> ?_) fun p33=> ?_
   ·have rx:=lbi.1 _ (mem_b (show j<nr[i]!.l.length by omega));have wx:=wr _ (mem_b (show nr[i]!.l[j]!.toNat<(wtI (wtN N i) nr[i]!.l j).length by rw[wl,wok.1];omega));obtain⟨Z,hZ,hZ2⟩:∃Z:Nat,(2*(idsOf pa).length+(idsOf pa).length)*i=Z∧Z≤1728:=⟨_,rfl,Nat.le_trans (Nat.mul_le_mul (show _≤72 by omega) (show _≤24 by omega)) Dc⟩;rw[hZ]at wx;have b36:j<nr[i]!.n:=Om;refine G5 ?_;refine yy (Y.indexLs j ((hn2 _ (mem_b (show i<nr.length from Om))).ext H.ext) rfl u81 ti3 rfl rfl rfl b36) ?_;refine yy (ld rfl u3 rfl (Ls.at_eq ((hn2 _ (mem_b (show i<nr.length from Om))).ext H.ext) b36 rfl)) ?_;have b37:nr[i]!.l[j]!.toNat<n22:=Om;refine G5 ?_;refine yy (Y.indexLs nr[i]!.l[j]!.toNat (H.l 0) rfl u81 ti3 rfl rfl Om b37) ?_;have b38:nr[i]!.l[j]!.toNat<n22:=Om;refine G2 ?_;refine yy (Y.indexLs nr[i]!.l[j]!.toNat (H.l 0) rfl u81 ti3 rfl rfl Om b38) ?_;refine ste H 0 rfl ((wtI (wtN N i) nr[i]!.l j)[nr[i]!.l[j]!.toNat]! +1) b38 ti3 rfl fun z H=> ?_;refine go ?_;exact Rs [(47,_)] Sx ⟨(j+1),rfl,rfl,(H.pick [0]),Om⟩
   ·refine go ?_;exact Rs [(41,_)] Sx ⟨(i+1),rfl,rfl,(by rw[show wtN N (i+1)=wtI (wtN N i) nr[i]!.l j from by rw[wtN_next,eNi];congr 1;omega];exact(H.pick [0])),Om⟩
  ·obtain rfl:i=(idsOf pa).length:=Om;have wok:=wtN_ok lb (idsOf pa).length Nl;have e_w:=(H.l 0).len;have H:=H.nilRow 3 ic 1;refine G5 ?_;refine sb [4,6] ?_;refine go ?_;refine sb [61,11,4,6,59,60] ?_;refine WC.loopS 2 (fun mz Ed W'=>∃q:Nat,∃v:Value,mz=n22-q∧Ed=[(61,.int .i64 ((q:Nat):Int)),(11,v)]∧Hp w1 W' (row 3 ic 1 v (rdyN (wtN N (idsOf pa).length) q)::_::[])∧(q≤n22)) _ ⟨0,_,rfl,rfl,(H.pick [0,0]),(Nat.zero_le _)⟩ ?_;rintro _ _ z ⟨q,v,rfl,rfl,H,ql⟩;have rok:=rdyN_ok (wtN N (idsOf pa).length) q;refine go ?_;refine Cd (fun p45=> ?_) fun p45=> ?_
   ·have b48:q<n22:=Om;refine go ?_;refine Cd (fun p50=> ?_) fun p50=> ?_
    ·refine go ?_;refine bs1 H u81 ti3 fun g51 z H=> ?_;refine ap H 1 0 rfl [(q:Int)] u81 ti3 rfl ic_one (room_le rok.1 (Nat.le_refl 1) Om) fun v53 z H=> ?_;refine go ?_;exact Rs [(61,_),(11,_)] Sx ⟨(q+1),v53,rfl,rfl,(by rw[show rdyN (wtN N (idsOf pa).length) (q+1)=((rdyN (wtN N (idsOf pa).length) q)++[(q:Int)])from if_pos p50];exact(H.pick [1,1])),Om⟩
    ·refine go ?_;exact Rs [(61,_),(11,_)] Sx ⟨(q+1),v,rfl,rfl,(by rw[show rdyN (wtN N (idsOf pa).length) (q+1)=(rdyN (wtN N (idsOf pa).length) q)from if_neg p50];exact(H.pick [0,0])),Om⟩
   ·obtain rfl:q=(idsOf pa).length:=Om;have H:=H.toq 0;obtain⟨A0,c0,rfl,_,_⟩:=H.opq 0;obtain⟨Z,hZ,hZ2⟩:∃Z:Nat,(2*(idsOf pa).length+(idsOf pa).length)*(idsOf pa).length=Z∧Z≤1728:=⟨_,rfl,Nat.le_trans (Nat.mul_le_mul (show _≤72 by omega) (show _≤24 by omega)) Dc⟩;rw[hZ]at wok;have k0:KaOk (rdyN (wtN N (idsOf pa).length) (idsOf pa).length,wtN N (idsOf pa).length) (idsOf pa).length 0 60000:=⟨rok.2,wok.1,fun x hx=>by have h1:=wok.2 x hx;omega,by have h3:=wS_le (B:=1728) (fun x hx=>by have h1:=wok.2 x hx;omega);have h4:(wtN N (idsOf pa).length).length*1728≤24*1728:=Nat.mul_le_mul_right _ Om;unfold kaM;dsimp only;omega⟩;refine G5 ?_;refine sb [4,6,11] ?_;refine go ?_;refine sb [11,14,4,6] ?_;refine WC.loopS 2 (fun mz Ed W'=>∃m:Nat,∃A:Option Addr,∃n:Nat,∃c:Nat,∃r:List Int,∃wv:List Int,∃d:Nat,mz=2*m∧Ed=[(11,.slice A n c),(14,.int .i64 ((d:Nat):Int))]∧Hp w1 W' (rowq ic 1 (.slice A n c) r::row 3 ic 1 (.slice A21 n22 c23) wv::[])∧(kaF N m r wv d=kaF N (kaM (rdyN (wtN N (idsOf pa).length) (idsOf pa).length) (wtN N (idsOf pa).length)) (rdyN (wtN N (idsOf pa).length) (idsOf pa).length) (wtN N (idsOf pa).length) 0)∧(KaOk (r,wv) (idsOf pa).length (1000*(d:Int)) m)∧(m+d≤60000)) _ ⟨(kaM (rdyN (wtN N (idsOf pa).length) (idsOf pa).length) (wtN N (idsOf pa).length)),_,_,_,_,_,0,rfl,rfl,(H.pick [0,0]),rfl,⟨k0.r,k0.l,fun x hx=>by have:=k0.b x hx;omega,Nat.le_refl _⟩,(by have:=k0.m;omega)⟩ ?_;rintro _ _ z ⟨m,A,n,c,r,wv,d,rfl,rfl,H,hk,hko,hmd⟩;have e_r:=(H.q 0).len;refine go ?_;refine Cd (fun p58=> ?_) fun p58=> ?_
    ·have b61:0<n:=Om;refine G6 ?_;refine yy (Y.indexLs 0 (H.q 0) rfl u81 ti3 rfl rfl rfl b61) ?_;refine yy (ld rfl u3 rfl (Ls.at_eq (H.q 0) b61 rfl)) ?_;have b63:1≤n:=Om;refine G4 ?_;refine yy (Y.sliceL 1 rfl u81 ti3 rfl rfl rfl b63) ?_;have H:=H.cutq 0 Om;have rb:0≤r[0]!∧r[0]! <((idsOf pa).length:Int):=hko.r _ (mem_b (show 0<r.length by omega));have eli:=(hn2 _ (mem_b (show r[0]!.toNat<nr.length by omega))).len;have eNr:N[r[0]!.toNat]! =nr[r[0]!.toNat]!.l:=by rw[←hnr,map_b Nx.l Om]
     have lbr:=lb.at_ (show r[0]!.toNat<(idsOf pa).length by omega);rw[eNr]at lbr;have hm1:1≤m:=by have h1:kaM r wv≤m:=hko.m;unfold kaM at h1;omega
     have kd:KaOk (r.drop 1,wv) (idsOf pa).length (1000*(d:Int)) (m-1):=⟨fun x hx=>hko.r x (List.mem_of_mem_drop hx),hko.l,hko.b,by have h1:=hko.m;have h2:=kaM_drop (w:=wv) (show 0<r.length by omega);dsimp only at h1 ⊢;omega⟩;have b65:r[0]!.toNat<X.nN:=Om;refine G8 ?_;refine yy (Y.indexLs r[0]!.toNat (hn1.ext H.ext) rfl u179 ti81 rfl rfl Om b65) ?_;refine go ?_;refine sb [91,11,4,6,14,89,90] ?_;refine WC.loopS 2 (fun mz Ed W'=>∃jj:Nat,∃A2:Option Addr,∃n2:Nat,∃c2:Nat,mz=nr[r[0]!.toNat]!.n-jj∧Ed=[(91,.int .i64 ((jj:Nat):Int)),(11,.slice A2 n2 c2)]∧Hp w1 W' (rowq ic 1 (.slice A2 n2 c2) (kaR (r.drop 1,wv) nr[r[0]!.toNat]!.l jj).1::row 3 ic 1 (.slice A21 n22 c23) (kaR (r.drop 1,wv) nr[r[0]!.toNat]!.l jj).2::[])∧(jj≤nr[r[0]!.toNat]!.n)) _ ⟨0,_,_,_,rfl,rfl,(H.pick [0,0]),(Nat.zero_le _)⟩ ?_;rintro _ _ z ⟨jj,A2,n2,c2,rfl,rfl,H,jjl⟩;have kj:=kd.run lbr.1 jj Om;refine go ?_;refine Cd (fun p68=> ?_) fun p68=> ?_
     ·have rx:=lbr.1 _ (mem_b (show jj<nr[r[0]!.toNat]!.l.length by omega));have wx:=kj.b _ (mem_b (show nr[r[0]!.toNat]!.l[jj]!.toNat<(kaR (r.drop 1,wv) nr[r[0]!.toNat]!.l jj).2.length by rw[kj.l];omega));have kjl:=kj.l;have b71:jj<nr[r[0]!.toNat]!.n:=Om;refine G5 ?_;refine yy (Y.indexLs jj ((hn2 _ (mem_b (show r[0]!.toNat<nr.length from Om))).ext H.ext) rfl u81 ti3 rfl rfl rfl b71) ?_;refine yy (ld rfl u3 rfl (Ls.at_eq ((hn2 _ (mem_b (show r[0]!.toNat<nr.length from Om))).ext H.ext) b71 rfl)) ?_;have b73:nr[r[0]!.toNat]!.l[jj]!.toNat<n22:=Om;refine G5 ?_;refine yy (Y.indexLs nr[r[0]!.toNat]!.l[jj]!.toNat (H.l 1) rfl u81 ti3 rfl rfl Om b73) ?_;have b74:nr[r[0]!.toNat]!.l[jj]!.toNat<n22:=Om;refine G2 ?_;refine yy (Y.indexLs nr[r[0]!.toNat]!.l[jj]!.toNat (H.l 1) rfl u81 ti3 rfl rfl Om b74) ?_;refine ste H 1 rfl ((kaR (r.drop 1,wv) nr[r[0]!.toNat]!.l jj).2[nr[r[0]!.toNat]!.l[jj]!.toNat]! -1) b74 ti3 rfl fun z H=> ?_;have b76:nr[r[0]!.toNat]!.l[jj]!.toNat<n22:=Om;refine G4 ?_;refine yy (Y.indexLs nr[r[0]!.toNat]!.l[jj]!.toNat (H.l 1) rfl u81 ti3 rfl rfl Om b76) ?_;refine yy (Yld.cast (ld rfl u3 rfl (Ls.at_eq (H.l 1) b76 rfl)) (vi (set_b Om))) ?_;refine go ?_;refine Cd (fun p77=> ?_) fun p77=> ?_
      ·refine go ?_;refine bs1 H u81 ti3 fun g78 z H=> ?_;refine apq H 1 0 rfl [nr[r[0]!.toNat]!.l[jj]!] u81 ti3 rfl ic_one (by have h1:=kj.m;unfold kaM at h1;simp only[List.length_cons,List.length_nil];omega) fun A81 c82 z H=> ?_;refine go ?_;exact Rs [(91,_),(11,_)] Sx ⟨(jj+1),_,_,_,rfl,rfl,(by rw[kaR_next];unfold kaI;dsimp only;rw[if_pos p77];exact(H.pick [1,1])),Om⟩
      ·refine go ?_;exact Rs [(91,_),(11,_)] Sx ⟨(jj+1),_,_,_,rfl,rfl,(by rw[kaR_next];unfold kaI;dsimp only;rw[if_neg p77];exact(H.pick [0,0])),Om⟩
     ·refine G6 ?_;refine sb [4,6,11,14] ?_;refine go ?_;exact Rs [(11,_),(14,_)] Sx ⟨(m-1),_,_,_,_,_,(d+1),rfl,rfl,(H.pick [0,0]),(by have e:=(kaF_step (N:=N) (f:=m) (d:=d) (r:=r) (w:=wv) Om Om).symm.trans hk;rw[eNr,show nr[r[0]!.toNat]!.l.length=jj from Om]at e;exact e),((kd.run lbr.1 jj Om).up (by have:=lbr.2;omega) Nl),Om⟩
    ·refine go ?_;refine Cd (fun p85=> ?_) fun p85=> ?_
     ·refine go ?_;refine Rt [_,_] ?_;have e0:r=[]:=List.length_eq_zero_iff.1 Om;subst e0;have ed:kahn N=d:=by unfold kahn;rw[lb.1,←hk,kaF_end]
      rw[hN]at ed;have e1:soE ta da na pa=13:=(if_neg (not_not_intro h0)).trans (if_pos (by show(kahn (caN ta pa):Int)<_;rw[ed];omega));exact⟨_,(by rw[e1];rfl),X0.trans H.ext,fun _=>rfl,fun h=>absurd h (by rw[e1];decide)⟩
     ·refine go ?_;refine Rt [_,_] ?_;have e0:r=[]:=List.length_eq_zero_iff.1 Om;subst e0;have ed:kahn N=d:=by unfold kahn;rw[lb.1,←hk,kaF_end]
      rw[hN]at ed;have e1:soE ta da na pa=0:=(if_neg (not_not_intro h0)).trans (if_neg (by show¬(kahn (caN ta pa):Int)<_;rw[ed];omega));exact⟨_,(by rw[e1];rfl),X0.trans H.ext,fun h=>absurd e1 h,fun _=>⟨X,rfl,hok.ext H.ext⟩⟩
 ·obtain rfl:=hno h0;have H:=H.ex x;refine G5 ?_;refine sb [4,5] ?_;refine G3 ?_;refine yy (Yld.cast (Y.neq rfl rfl rfl) (vb (show(!(exE ta da na pa==0))=true by rw[beq_false_of_ne h0];rfl))) ?_;refine go ?_;refine WC.condT rfl ?_;refine go ?_;refine Rt [_,_] ?_;have e1:soE ta da na pa=exE ta da na pa:=if_pos h0;exact⟨_,(by rw[e1];rfl),H.ext,fun _=>rfl,fun h=>absurd (e1▸h) h0⟩
inductive Rch(N:List (List Int)):Nat→Nat→Prop
 |one {i k:Nat}:(k:Int)∈N[i]!→Rch N i k
 |step {i j k:Nat}:Rch N i j→(k:Int)∈N[j]!→Rch N i k
theorem Rch.trans{N:List (List Int)}{i j k:Nat}(h:Rch N i j)(g:Rch N j k):Rch N i k:=by
 induction g<;>grind [one,step]
theorem set_at'{α:Type}[Inhabited α](l:List α)(i p:Nat)(x:α)(hp:p<l.length):(l.set i x)[p]! =if i=p then x else l[p]! :=by
 rw[bang_eq (by grind),List.getElem_set,bang_eq hp]
structure DfsOk(N:List (List Int))(t:List Int)(s r:List Bool):Prop where
 len:r.length=N.length
 up:∀k,k<N.length→s[k]! =true→r[k]! =true
 got:∀x∈t,r[x.toNat]! =true
 cl:∀k,k<N.length→r[k]! =true→s[k]! =true∨∀x∈N[k]!,r[x.toNat]! =true
 snd:∀P:Nat→Prop,(∀k,k<N.length→s[k]! =true→P k)→(∀x∈t,P x.toNat)→(∀k,k<N.length→P k→∀x∈N[k]!,P x.toNat)→∀k,k<N.length→r[k]! =true→P k
theorem dfs_ok{N:List (List Int)}(hN:NOk N):∀(f:Nat) (t:List Int) (s:List Bool),wgt N t s≤f→s.length=N.length→(∀x∈t,0≤x∧x<(N.length:Int))→DfsOk N t s (dfs N f t s)
 |0,t,s,h,hs,ht=>by
  have:t=[]:=List.length_eq_zero_iff.1 (by unfold wgt at h;omega);subst this;exact⟨hs,fun _ _ h=>h,fun x hx=>(by cases hx),fun _ _ h=>.inl h,fun P h1 _ _ k hk h=>h1 k hk h⟩
 |f+1,t,s,h,hs,ht=>by
  unfold dfs;split
  ·rename_i q;have hx:=ht _ (mem_b (show t.length-1<t.length by omega));have hk:t[t.length-1]!.toNat<N.length:=Om;have et:t=t.take (t.length-1)++[t[t.length-1]!]:=by
    rw[←take_1 Om,show t.length-1+1=t.length from Om,List.take_length]
   split
   ·rename_i q2;have hw:=wgt_new (N:=N) (t:=t) (s:=s) Om hk hs q2;have ih:=dfs_ok hN f (t.take (t.length-1)++N[t[t.length-1]!.toNat]!) (s.set t[t.length-1]!.toNat true) Om (by rw[List.length_set];exact hs) fun x hx=>by
     rcases List.mem_append.1 hx with h|h
     ·exact ht x (List.mem_of_mem_take h)
     ·exact(hN _ (mem_b hk)).1 x h
    generalize t[t.length-1]! =y at*;refine⟨ih.len,fun k hk' h=>ih.up k hk' ?_,fun x hx=> ?_,fun k hk' h=> ?_,fun P h1 h2 h3=>ih.snd P (fun k hk' h=> ?_) (fun x hx=> ?_) h3⟩
    ·rw[set_at' _ _ _ _ Om];split
     ·rfl
     ·exact h
    ·rw[et]at hx;rcases List.mem_append.1 hx with h|h
     ·exact ih.got x (List.mem_append_left _ h)
     ·rw[List.mem_singleton.1 h];exact ih.up _ hk (set_b Om)
    ·rcases ih.cl k hk' h with h|h
     ·rw[set_at' _ _ _ _ Om]at h;split at h
      ·rename_i e;subst e;exact .inr fun x hx=>ih.got x (List.mem_append_right _ hx)
      ·exact .inl h
     ·exact .inr h
    ·rw[set_at' _ _ _ _ Om]at h;split at h
     ·rename_i e;subst e;exact h2 _ (by rw[et];exact List.mem_append_right _ (List.mem_singleton.2 rfl))
     ·exact h1 k hk' h
    ·rcases List.mem_append.1 hx with h|h
     ·exact h2 x (List.mem_of_mem_take h)
     ·exact h3 _ hk (h2 _ (by rw[et];exact List.mem_append_right _ (List.mem_singleton.2 rfl))) x h
   ·rename_i q2;have q2:=Decidable.of_not_not q2;have hw:=wgt_seen (N:=N) (t:=t) (s:=s) Om;have ih:=dfs_ok hN f (t.take (t.length-1)) s Om hs fun x hx=>ht x (List.mem_of_mem_take hx);refine⟨ih.len,ih.up,fun x hx=> ?_,ih.cl,fun P h1 h2 h3=>ih.snd P h1 (fun x hx=>h2 x (List.mem_of_mem_take hx)) h3⟩;rw[et]at hx;rcases List.mem_append.1 hx with h|h
    ·exact ih.got x h
    ·rw[List.mem_singleton.1 h];exact ih.up _ hk q2
  ·rename_i q;have:t=[]:=List.length_eq_zero_iff.1 Om;subst this;exact⟨hs,fun _ _ h=>h,fun x hx=>(by cases hx),fun _ _ h=>.inl h,fun P h1 _ _ k hk h=>h1 k hk h⟩
theorem aft_iff{N:List (List Int)}(hN:NOk N){i k:Nat}(hi:i<N.length)(hk:k<N.length):(aftF N i)[k]! =true↔Rch N i k:=by
 have hd:=dfs_ok hN _ N[i]! (List.replicate N.length false) Nl List.length_replicate (hN _ (mem_b hi)).1;have h0:∀k,k<N.length→¬(List.replicate N.length false)[k]! =true:=fun k hk=>by
  grind
 have hc:∀j,j<N.length→(aftF N i)[j]! =true→∀x∈N[j]!,(aftF N i)[x.toNat]! =true:=fun j hj h=>(hd.cl j hj h).resolve_left (h0 j hj);constructor
 ·intro h;refine hd.snd (Rch N i) (fun j hj h=>absurd h (h0 j hj)) (fun x hx=> ?_) (fun j hj hr x hx=> ?_) k hk h
  ·exact .one (by rw[Int.toNat_of_nonneg ((hN _ (mem_b hi)).1 x hx).1];exact hx)
  ·exact .step hr (by rw[Int.toNat_of_nonneg ((hN _ (mem_b hj)).1 x hx).1];exact hx)
 ·intro h;have key:k<N.length∧(aftF N i)[k]! =true:=by
   clear hk
   induction h with
   | @one k e=>
    have:=(hN _ (mem_b hi)).1 _ e;exact⟨Om,hd.got _ e⟩
   | @step j k hr e ih=>
    obtain⟨a,b⟩:=ih;have:=(hN _ (mem_b a)).1 _ e;grind
  grind
theorem aft_len{N:List (List Int)}(hN:NOk N){i:Nat}(hi:i<N.length):(aftF N i).length=N.length:=
 (dfs_ok hN _ N[i]! (List.replicate N.length false) Nl List.length_replicate (hN _ (mem_b hi)).1).len
theorem cacheck_any(A_ta:Option Addr)(n_ta c_ta:Nat)(ta:List Th)(A_da:Option Addr)(n_da c_da:Nat)(da:List Dm)(A_na:Option Addr)(n_na c_na:Nat)(na:List Sn)(A_pa:Option Addr)(n_pa c_pa:Nat)(pa:List Pk)(w:World)(h_ta:Ls w A_ta n_ta c_ta Th.c 3 ta)(h_da:Ls w A_da n_da c_da Dm.c 2 da)(h_na:Ls w A_na n_na c_na Sn.c 5 na)(h_pa:Ls w A_pa n_pa c_pa Pk.c 4 pa)(g_pa:PksOk w pa)(hk:∀x∈pa,x.k≤1000000)(hl:n_pa≤1000)(ht:n_ta≤1000)(he:evsum pa pa.length≤24):
  Cr 189 #[.agg #[.slice A_ta n_ta c_ta,.slice A_da n_da c_da,.slice A_na n_na c_na,.slice A_pa n_pa c_pa]] w (.int .i64 (soE ta da na pa)):=by
 have H:=(Hp.nil w);have e_ta:=h_ta.len;have z_ta:=h_ta.nle;have e_da:=h_da.len;have z_da:=h_da.nle;have e_na:=h_na.len;have z_na:=h_na.nle;have e_pa:=h_pa.len;have z_pa:=h_pa.nle;refine Wb Tryz.func189 ?_;refine go ?_;refine bx H fun g2 z H=> ?_;refine go ?_;refine c3 Fh (sound_any _ _ _ _ _ _ _ _ _ _ _ _ _ _ _ _ _ (h_ta.ext H.ext) (h_da.ext H.ext) (h_na.ext H.ext) (h_pa.ext H.ext) (g_pa.ext H.ext) hk Om Om he) ?_;rintro _ z ⟨pv,rfl,x,_,_⟩;have H:=H.ex x;refine⟨_,rfl,?_⟩;refine go ?_;refine Rt [_] ?_;exact⟨rfl,H.ext⟩
def vecF(ths:List Th)(d:List Dm)(s:List Sn)(l:List Pk)(i:Nat):List Int:=if soE ths d s l≠0 then[]else vcF ths (idsOf l) (caN ths l) i ths.length
theorem vector_any(A_ta:Option Addr)(n_ta c_ta:Nat)(ta:List Th)(A_da:Option Addr)(n_da c_da:Nat)(da:List Dm)(A_na:Option Addr)(n_na c_na:Nat)(na:List Sn)(A_pa:Option Addr)(n_pa c_pa:Nat)(pa:List Pk)(q:Ix)(at_:Nat)(w:World)(h_ta:Ls w A_ta n_ta c_ta Th.c 3 ta)(h_da:Ls w A_da n_da c_da Dm.c 2 da)(h_na:Ls w A_na n_na c_na Sn.c 5 na)(h_pa:Ls w A_pa n_pa c_pa Pk.c 4 pa)(g_pa:PksOk w pa)(hk:∀x∈pa,x.k≤1000000)(hl:n_pa≤1000)(ht:n_ta≤1000)(he:evsum pa pa.length≤24)(hid:soE ta da na pa=0→plI (idsOf pa) (q.th,q.sr) (idsOf pa).length=some at_)(hat:soE ta da na pa=0→at_<(idsOf pa).length)(hsr:∀x∈idsOf pa,0≤x.sr∧x.sr≤1000000000000000):
  Calls Tryz.prog 129 #[.agg #[.slice A_ta n_ta c_ta,.slice A_da n_da c_da,.slice A_na n_na c_na,.slice A_pa n_pa c_pa],.agg #[.int .i64 q.th,.int .i64 q.sr]] w fun e w'=>∃v,e= .returned (.tuple #[v,.int .i64 (soE ta da na pa)])∧OwnL w' w.heap.size 3 ic 1 v (vecF ta da na pa at_)∧Ext w w':=by
 have H:=(Hp.nil w);have e_ta:=h_ta.len;have z_ta:=h_ta.nle;have e_da:=h_da.len;have z_da:=h_da.nle;have e_na:=h_na.len;have z_na:=h_na.nle;have e_pa:=h_pa.len;have z_pa:=h_pa.nle;have hkl:∀p∈pa,p.es.length=p.k:=fun p hp=>(g_pa p hp).l.len;have e_il:(idsOf pa).length≤24:=by show(idsN pa pa.length).length≤24;rw[idsN_len];exact he
 refine Wb Tryz.func129 ?_;refine go ?_;refine bx H fun g2 z H=> ?_;refine bx H fun g4 z H=> ?_;refine go ?_;refine c3 Fh (sound_any _ _ _ _ _ _ _ _ _ _ _ _ _ _ _ _ _ (h_ta.ext H.ext) (h_da.ext H.ext) (h_na.ext H.ext) (h_pa.ext H.ext) (g_pa.ext H.ext) hk Om Om he) ?_;rintro _ w1 ⟨pv,rfl,x,hno,hof⟩;have H:=H.ex x;have X0:=H.ext;have h_ta:=h_ta.ext X0;have h_da:=h_da.ext X0;have h_na:=h_na.ext X0;have h_pa:=h_pa.ext X0;have g_pa:=g_pa.ext X0;have B0:=H.b 0;have B1:=H.b 1;have H:=Hp.nil w1;refine⟨_,rfl,?_⟩;refine G1 ?_;by_cases h0:soE ta da na pa=0
 ·obtain⟨X,rfl,hok⟩:=hof h0;obtain⟨hwb,hwi,hwe,hwm,nr,hn1,hn2,hnr⟩:=(show X.ok 300 w1 (idsOf pa) (evsOf pa) (caN ta pa)from hok);have e_i:=hwi.len;have lb:=caN_ok (ths:=ta) hkl;have nok:=lb.nok Om;have hpl:=hid h0;have hat_:=hat h0;have lbl:=lb.1;refine G8 ?_;refine yy (Yld.cast (Y.neq rfl rfl rfl) (vb (by rw[h0];first|done|rfl))) ?_;refine go ?_;refine WC.condF rfl ?_;refine go ?_;refine Qr ?_;refine G5 ?_;refine yq (Y.lookupOkP rfl u298 pkk105 ti3 rfl rfl (fun _ h=>MpP.ext (hwm.ext H.ext) h)) ?_;refine G1 ?_;refine yq (Yld.cast (Y.extract rfl rfl rfl) (show pval _ _ _=Value.int .i64 (at_:Int)from by unfold pval;rw[pget_atM,hpl];rfl)) ?_;refine yq (Yld.cast (Y.extract rfl rfl rfl) (vb (show(pget _ _).isSome=true from by rw[pget_atM,hpl];rfl))) ?_;refine go ?_;refine Qd H fun z H=> ?_;refine G6 ?_;refine sb [2,6,8,34] ?_;refine WC.condF rfl ?_;have H:=H.nilRow 3 ic 1;refine go ?_;refine sb [39,10,6,8,37,38] ?_;refine WC.loopS 2 (fun mz Ed W'=>∃j:Nat,∃v:Value,mz=n_ta-j∧Ed=[(39,.int .i64 ((j:Nat):Int)),(10,v)]∧Hp w1 W' (row 3 ic 1 v (vcF ta (idsOf pa) (caN ta pa) at_ j)::[])∧(j≤n_ta)) _ ⟨0,_,rfl,rfl,(H.pick [0]),(Nat.zero_le _)⟩ ?_;rintro _ _ z ⟨j,v,rfl,rfl,H,jl⟩;refine go ?_;refine Cd (fun p19=> ?_) fun p19=> ?_
  ·have b22:j<n_ta:=Om;refine go ?_;refine al H ti68 fun g23 z H=> ?_;refine st H 0 ti68 fun z H=> ?_;refine go ?_;refine sb [48,13,6,8,10,12,37,38,39,46,47] ?_;refine WC.loopS 2 (fun mz Ed W'=>∃i:Nat,∃nv:Int,mz=X.iN-i∧Ed=[(48,.int .i64 ((i:Nat):Int)),(13,.int .i64 nv)]∧Hp w1 W' (_::_::[])∧(i≤X.iN)∧(nv=vcI (idsOf pa) (caN ta pa) ta[j]!.id at_ i)) _ ⟨0,0,rfl,rfl,(H.pick [0,0]),(Nat.zero_le _),rfl⟩ ?_;rintro _ _ z ⟨i,nv,rfl,rfl,H,il,hv⟩;have vr:=vcI_rng (idsOf pa) (caN ta pa) ta[j]!.id at_ hsr i Om;refine go ?_;refine Cd (fun p30=> ?_) fun p30=> ?_
   ·have hsi:=hsr _ (mem_b (show i<(idsOf pa).length by omega));have aln:=aft_len nok (show i<(caN ta pa).length by omega);have b33:i<X.iN:=Om;refine go ?_;refine al H ti105 fun g34 z H=> ?_;refine go ?_;refine st H 0 ti105 fun z H=> ?_;refine G8 ?_;refine WL.split (t:=58) rfl (fun h37=> ?_) (fun h37=> ?_)
    ·have p37:=(eq_t h37);refine G4 ?_;refine WL.split (t:=62) rfl (fun h38=> ?_) (fun h38=> ?_)
     ·have p38:=(eq_t h38);refine G6 ?_;refine WL.yldW rfl (blt rfl) rfl rfl rfl (Y.pickT rfl rfl rfl) ?_;refine yy (Y.pickT rfl rfl rfl) ?_;refine go ?_;refine WC.condT rfl ?_;refine G8 ?_;refine sb [6,8,10,12,13,37,38,39,46,47,48] ?_;refine go ?_;exact Rs [(48,_),(13,_)] Sx ⟨(i+1),((idsOf pa)[i]!.sr+1),rfl,rfl,(H.pick [1,1]),Om,(if_pos ⟨(eq_t h37),.inl (by have q:=(eq_t h38);omega)⟩).symm⟩
     ·have p38:=(eq_f h38);refine G2 ?_;refine WL.guarded rfl rfl rfl ?_;refine c2 H Fh (after_any _ (idsOf pa) (evsOf pa) (caN ta pa) i _ (hok.ext H.ext) nok Om lbl.symm Om) fun v39 z H=> ?_;obtain⟨A41,n42,c43,rfl,_,_,_⟩:=H.op 0;have b44:at_<n42:=Om;refine G1 ?_;refine WL.yldW rfl (blt rfl) rfl rfl rfl (Y.indexLs at_ (H.l 0) rfl u301 ti4 rfl rfl rfl b44) ?_;refine G1 ?_;refine WL.yldW rfl (blt rfl) rfl rfl rfl (Y.pickF rfl rfl rfl) ?_;refine yy (Y.pickT rfl rfl rfl) ?_;refine go ?_;refine WC.cond rfl (fun h45=> ?_) (fun h45=> ?_)
      ·refine go ?_;exact Rs [(48,_),(13,_)] Sx ⟨(i+1),((idsOf pa)[i]!.sr+1),rfl,rfl,(H.pick [2,2]),Om,(if_pos ⟨(eq_t h37),.inr h45⟩).symm⟩
      ·refine go ?_;exact Rs [(48,_),(13,_)] Sx ⟨(i+1),nv,rfl,rfl,(H.pick [2,2]),Om,(hv.trans (if_neg (fun q=>q.2.elim (fun e=>(eq_f h38) Om) (nt_f h45))).symm)⟩
    ·have p37:=(eq_f h37);refine G11 ?_;refine yy (Y.pickF rfl rfl rfl) ?_;refine go ?_;refine WC.condF rfl ?_;refine G3 ?_;refine sb [6,8,10,12,13,37,38,39,46,47,48] ?_;refine go ?_;exact Rs [(48,_),(13,_)] Sx ⟨(i+1),nv,rfl,rfl,(H.pick [1,1]),Om,(hv.trans (if_neg (fun q=>(eq_f h37) q.1)).symm)⟩
   ·refine go ?_;refine bs1 H u81 ti3 fun g46 z H=> ?_;refine ap H 2 0 rfl [nv] u81 ti3 rfl ic_one (by rw[vcF_len _ _ _ _ (show j≤ta.length by omega)];simp only[List.length_cons,List.length_nil];omega) fun v48 z H=> ?_;refine go ?_;exact Rs [(39,_),(10,_)] Sx ⟨(j+1),v48,rfl,rfl,(by rw[vcF_next _ _ _ _ (show j<ta.length by omega),show(idsOf pa).length=i from Om,←hv];exact(H.pick [2])),Om⟩
  ·refine go ?_;refine Rt [_,_] ?_;have e1:vecF ta da na pa at_=vcF ta (idsOf pa) (caN ta pa) at_ j:=(if_neg (not_not_intro h0)).trans (by congr 1;omega);exact⟨_,(by rw[h0];rfl),(by rw[e1];exact(H.out 0).base_le X0.size),X0.trans H.ext⟩
 ·obtain rfl:=hno h0;refine G8 ?_;refine yy (Yld.cast (Y.neq rfl rfl rfl) (vb (show(!(soE ta da na pa==0))=true by rw[beq_false_of_ne h0];rfl))) ?_;refine go ?_;refine WC.condT rfl ?_;refine G5 ?_;refine sb [4,5] ?_;refine go ?_;refine Rt [_,_] ?_;have e1:vecF ta da na pa at_=[]:=if_pos h0;exact⟨_,rfl,(by rw[e1];exact OwnL.nil_),X0.trans H.ext⟩
end TW
end Go.Proofs.YtaclfjjipnpboaaGreatDoor
end
namespace Go.Iv
open Go Go.Eng
abbrev I2:=Int×Int
def inB(n:Int):Bool:=decide (-1000000000000000≤n)&&decide (n≤1000000000000000)
def validB(a:I2):Bool:=(decide (a.1≤a.2)&&inB a.1)&&inB a.2
def ivb(r:I2×Bool):Value:=.tuple #[.agg #[.int .i64 r.1.1,.int .i64 r.1.2],.bool r.2]
def strPos(d ppm:Int):I2:=(d*(1000000-ppm)/1000000,(d*(1000000+ppm)+999999)/1000000)
def strGuard(d ppm:Int):Bool:=(((decide (d< -1000000000000)||decide (1000000000000<d))||decide (ppm<0))||decide (10000<ppm))
def stretchF(d ppm:Int):I2×Bool:=bif strGuard d ppm then((0,0),false)else bif decide (d<0)then((-(strPos (-d) ppm).2,-(strPos (-d) ppm).1),true)else(strPos d ppm,true)
theorem stretch_bad{d ppm:Int}(h:strGuard d ppm=true):stretchF d ppm=((0,0),false):=by simp[stretchF,h]
theorem stretch_neg{d ppm:Int}(h:strGuard d ppm=false)(h0:d<0):stretchF d ppm=((-(strPos (-d) ppm).2,-(strPos (-d) ppm).1),true):=by grind [stretchF]
theorem stretch_pos{d ppm:Int}(h:strGuard d ppm=false)(h0:¬d<0):stretchF d ppm=(strPos d ppm,true):=by grind [stretchF]
theorem guard_no{d ppm:Int}(h:strGuard d ppm=false):(-1000000000000≤d∧d≤1000000000000)∧0≤ppm∧ppm≤10000:=by grind [strGuard]
theorem strPos_bound{d ppm:Int}(hd:0≤d∧d≤1000000000000)(hp:0≤ppm∧ppm≤10000):(0≤(strPos d ppm).1∧(strPos d ppm).1≤1000000000000)∧0≤(strPos d ppm).2∧(strPos d ppm).2≤1010000000000:=by
 have b1:=mul_bound (a:=d) (b:=1000000-ppm) (m:=1000000000000) (k:=1000000) hd Om;have b2:=mul_bound (a:=d) (b:=1000000+ppm) (m:=1000000000000) (k:=1010000) hd Om;grind [strPos]
theorem agg2{k k':IntKind}{a b a' b':Int}(h:a=a')(h2:b=b'):Value.agg #[.int k a,.int k' b]= .agg #[.int k a',.int k' b']:=by rw[h,h2]
theorem str_bound(d ppm:Int):(-1010000000000≤(stretchF d ppm).1.1∧(stretchF d ppm).1.1≤1010000000000)∧(-1010000000000≤(stretchF d ppm).1.2∧(stretchF d ppm).1.2≤1010000000000):=by
 cases hg:strGuard d ppm with
 |true=>grind [stretch_bad]
 |false=>
  have hb:=guard_no hg;by_cases h0:d<0
  ·have:=strPos_bound (d:= -d) (ppm:=ppm) Om hb.2;grind [stretch_neg]
  ·have:=strPos_bound (d:=d) (ppm:=ppm) Om hb.2;grind [stretch_pos]
end Go.Iv
namespace Go.Proofs.YtaclfjjipnpboaaGreatDoor
open Go Go.Eng
namespace Bd
structure Ed where
 u:Int
 v:Int
 w:Int
instance:Inhabited Ed:=⟨⟨0,0,0⟩⟩
def Ed.c(e:Ed):List Value:=[.int .i64 e.u,.int .i64 e.v,.int .i64 e.w]
theorem Ed.one(x:Ed):∀u∈x.c,u.oneCell'=true:=by simp[Ed.c,Value.oneCell']
abbrev Key:=Int×Int
def nix(n:List Key)(k:Key):Int:=((n.idxOf k:Nat):Int)+1
def numF:Nat→List Key→PM
 |_,[]=>[]
 |k,x::r=>(x,.int .i64 (((k+1:Nat)):Int))::numF (k+1) r
theorem numF_app:∀(k:Nat) (a b:List Key),numF k (a++b)=numF k a++numF (k+a.length) b
 |k,[],b=>by rfl
 |k,x::r,b=>by
  rw[List.cons_append,numF,numF,numF_app (k+1) r b,List.cons_append,List.length_cons];grind
theorem numF_len:∀(k:Nat) (a:List Key),(numF k a).length=a.length
 |_,[]=>rfl
 |k,_::r=>by rw[numF,List.length_cons,List.length_cons,numF_len (k+1) r]
theorem numF_get:∀(k:Nat) (a:List Key) (x:Key),pget (numF k a) x=if x∈a then some (.int .i64 (((k+a.idxOf x+1:Nat)):Int))else none
 |k,[],x=>by rfl
 |k,y::r,x=>by
  rw[numF,pget];by_cases h:x=y
  ·grind
  ·rw[if_neg h,numF_get (k+1) r x];grind
theorem numF_push(a:List Key)(x:Key):numF 0 (a++[x])=numF 0 a++[(x,.int .i64 (((numF 0 a).length:Nat)+1:Int))]:=by
 rw[numF_app,numF_len];simp[numF]
theorem nix_new{a b:List Key}{k:Key}(h:k∉a):nix (a++k::b) k=(a.length:Int)+1:=by
 simp_all [nix,List.idxOf_append,if_neg,List.idxOf_cons_self]
theorem nix_rng{a:List Key}{k:Key}(h:k∈a):1≤nix a k∧nix a k≤(a.length:Int):=by
 grind [nix,List.idxOf_lt_length_of_mem]
theorem pv_has{m:PM}{k:Key}{v z:Value}(h:pget m k=some v):pval m k z=v:=by grind [pval]
theorem rep_copy{a:Int}{n N:Nat}{m:Nat}(hm:m=min n (N-n))(hn:n≤N):(List.replicate n a++List.replicate (N-n) 0).take n++((List.replicate n a++List.replicate (N-n) 0).take n).take m++(List.replicate n a++List.replicate (N-n) 0).drop (n+m)=List.replicate (n+m) a++List.replicate (N-(n+m)) (0:Int):=by
 have e1:(List.replicate n a++List.replicate (N-n) (0:Int)).take n=List.replicate n a:=by grind
 rw[e1,List.drop_append,List.drop_eq_nil_of_le (by simp),List.nil_append,List.take_replicate,List.replicate_append_replicate,List.length_replicate,List.drop_replicate];grind
theorem rep_first{a:Int}{l:List Int}{m n:Nat}(hl:l=[a])(hm:m=1)(hn:1≤n):l.take m++(List.replicate n (0:Int)).drop m=List.replicate m a++List.replicate (n-m) 0:=by
 grind
end Bd
end Go.Proofs.YtaclfjjipnpboaaGreatDoor
