/- Part 12 of the proof. Conditions: what each theorem states. -/
import Derived.Test.YtaclfjjipnpboaaGreatDoorP04
import Derived.Test.YtaclfjjipnpboaaGreatDoorP01
import Derived.Test.YtaclfjjipnpboaaGreatDoorP11
import Derived.Test.YtaclfjjipnpboaaGreatDoorP10
import Derived.Test.YtaclfjjipnpboaaGreatDoorP05
import Derived.Test.YtaclfjjipnpboaaGreatDoorP03
set_option linter.all false
set_option maxHeartbeats 4000000
set_option maxRecDepth 4000
section
attribute [local irreducible] Go.Eng.WC Go.Eng.WL Go.Eng.WK Go.Eng.WQ Go.Eng.WX Go.Eng.Yld
namespace Go.Proofs.YtaclfjjipnpboaaGreatDoor
open Go Go.Eng Go.RowKit
namespace TW
theorem rx1_yes{back:Bool}{s:List Int×Bool}{e:Bd.Ed}{u v:Int}(hu:(if back=true then e.v else e.u)=u)(hv:(if back=true then e.u else e.v)=v)(c:s.1[u.toNat]!≠far∧s.1[u.toNat]! +e.w<s.1[v.toNat]!):rx1 back s e=(s.1.set v.toNat (s.1[u.toNat]! +e.w),false):=by unfold rx1;rw[hu,hv];exact if_pos c
theorem rx1_no{back:Bool}{s:List Int×Bool}{e:Bd.Ed}{u v:Int}(hu:(if back=true then e.v else e.u)=u)(hv:(if back=true then e.u else e.v)=v)(c:¬(s.1[u.toNat]!≠far∧s.1[u.toNat]! +e.w<s.1[v.toNat]!)):rx1 back s e=s:=by unfold rx1;rw[hu,hv];exact if_neg c
theorem dok_0(n:Nat):DOk (List.replicate n 0) n 0:=⟨List.length_replicate,fun x hx=>.inr (by rw[(List.mem_replicate.1 hx).2];omega)⟩
theorem dok_z(n:Nat):DOk (dz n) n 0:=⟨by unfold dz;rw[List.length_set,List.length_replicate],fun x hx=>by
 unfold dz at hx;rcases List.mem_or_eq_of_mem_set hx with r|rfl
 ·exact .inl (List.mem_replicate.1 r).2
 ·exact .inr Om⟩
theorem GsOk.ed{s:Gs}{K M n:Nat}(h:GsOk s K M)(hn:n=s.ks.length+1):∀e∈s.es,(0≤e.u∧e.u<(n:Int))∧(0≤e.v∧e.v<(n:Int))∧-1010000000000≤e.w∧e.w≤1010000000000:=fun e he=>by have:=h.e e he;omega
theorem relax_any(g:Nat)(mv v dv:Value)(es:List Bd.Ed)(D:List Int)(back:Bool)(W:World)(R:List Res)(w:World)(H:Hp W w (row 3 ic 1 dv D::box g 360 [mv,v]::row 365 Bd.Ed.c 3 v es::R))(hD:DOk D D.length 0)(hE:∀e∈es,(0≤e.u∧e.u<(D.length:Int))∧(0≤e.v∧e.v<(D.length:Int))∧-1010000000000≤e.w∧e.w≤1010000000000)(h1:D.length≤340)(h2:es.length≤21928):
  Calls Tryz.prog 236 #[.pointer (some ⟨g,0,none⟩),dv,.bool back] w fun e w'=>e= .returned (.bool (rxN back es (D.length+1) D).2)∧Hp W w' (row 3 ic 1 dv (rxN back es (D.length+1) D).1::box g 360 [mv,v]::row 365 Bd.Ed.c 3 v es::R):=by
 refine Wb Tryz.func236 ?_;obtain⟨A8,n9,c10,rfl,e_n9,_,_⟩:=H.op 0;refine G7 ?_;refine yy (Yld.cast (Y.add rfl rfl rfl Wo) (vi (show((n9:Nat):Int)+1=((n9+1:Nat):Int)from Om))) ?_;refine go ?_;refine sb [15,0,1,2,14] ?_;refine WC.loopS 1 (fun mz Ed W'=>∃r:Nat,∃T:List Int,∃z_:Nat,mz=(n9+1)-r∧Ed=[(15,.int .i64 ((r:Nat):Int))]∧Hp W W' (row 3 ic 1 (.slice A8 n9 c10) T::_::_::R)∧(r≤(n9+1))∧(DOk T D.length (1010000000000*(z_:Int)))∧(z_≤21928*r)∧(rxN back es (n9+1-r) T=rxN back es (D.length+1) D)) _ ⟨0,D,0,rfl,rfl,H,(Nat.zero_le _),(hD.up Om),Om,(by rw[Nat.sub_zero,e_n9])⟩ ?_;rintro _ _ z ⟨r,T,z_,rfl,rfl,H,rl,hok,hz_,hr⟩;refine go ?_;refine Cd (fun p13=> ?_) fun p13=> ?_
 ·obtain⟨A18,n19,c20,rfl,_,_,_⟩:=H.op 2;have e_es:=(H.l 2).len;refine go ?_;refine sb [22,7,0,1,2,14,15,20,21] ?_;refine WC.loopS 2 (fun mz Ed W'=>∃j:Nat,∃cm:Bool,mz=n19-j∧Ed=[(22,.int .i64 ((j:Nat):Int)),(7,.bool cm)]∧Hp W W' (row 3 ic 1 (.slice A8 n9 c10) (rxI back es T j).1::_::_::R)∧(j≤n19)∧(cm=(rxI back es T j).2)) _ ⟨0,true,rfl,rfl,H,(Nat.zero_le _),rfl⟩ ?_;rintro _ _ z ⟨j,cm,rfl,rfl,H,jl,hcm⟩;have hok1:=rxI_ok (back:=back) hok hE j Om;have hl1:=hok1.1;refine go ?_;refine Cd (fun p23=> ?_) fun p23=> ?_
  ·have b26:j<n19:=Om;refine go ?_;refine al H ti365 fun g27 z H=> ?_;refine st H 0 ti365 fun z H=> ?_;have he1:=hE _ (mem_b (show j<es.length by omega));refine go ?_;refine Qr ?_;refine go ?_;refine Qd H fun z H=> ?_;refine go ?_;refine WC.cond rfl (fun h32=> ?_) (fun h32=> ?_)
   ·have hbu:(if back=true then es[j]!.v else es[j]!.u)=es[j]!.v:=if_pos h32;have hbv:(if back=true then es[j]!.u else es[j]!.v)=es[j]!.u:=if_pos h32;have du:(rxI back es T j).1[es[j]!.v.toNat]! =9223372036854775807∨-(1010000000000*(z_:Int)+1010000000000*(j:Int))≤(rxI back es T j).1[es[j]!.v.toNat]!∧(rxI back es T j).1[es[j]!.v.toNat]!≤1010000000000*(z_:Int)+1010000000000*(j:Int):=hok1.2 _ (mem_b Om);refine go ?_;refine Qr ?_;have b34:es[j]!.v.toNat<n9:=Om;refine G2 ?_;refine yq (Y.indexLs es[j]!.v.toNat (H.l 1) rfl u81 ti3 rfl rfl Om b34) ?_;refine G5 ?_;refine qg (fun hb=>Y.indexLs es[j]!.v.toNat (H.l 1) rfl u81 ti3 (evg rfl hb) (evg rfl hb) (by have q0:=(eq_f (not_t hb));omega) (by have q0:=(eq_f (not_t hb));omega)) ?_;refine G6 ?_;refine qg (fun hb=>Y.indexLs es[j]!.u.toNat (H.l 1) rfl u81 ti3 (evg rfl hb) (evg rfl hb) (by have q0:=(eq_f (not_t hb));omega) (by have q0:=(eq_f (not_t hb));omega)) ?_;refine go ?_;refine Qd H fun z H=> ?_;refine G1 ?_;refine sb [0,1,2,7,9,10,11,14,15,20,21,22,51] ?_;refine Cd (fun p35=> ?_) fun p35=> ?_
    ·refine go ?_;refine WC.regionT 10 (by kernel_rfl) (by kernel_rfl) ?_;have b37:es[j]!.v.toNat<n9:=Om;refine G4 ?_;refine yq (Y.indexLs es[j]!.v.toNat (H.l 1) rfl u81 ti3 rfl rfl Om b37) ?_;have b38:es[j]!.u.toNat<n9:=Om;refine G4 ?_;refine yq (Y.indexLs es[j]!.u.toNat (H.l 1) rfl u81 ti3 rfl rfl Om b38) ?_;refine WQ.tail (fun z x=> ?_);have H:=H.ex x;refine ste H 1 rfl ((rxI back es T j).1[es[j]!.v.toNat]! +es[j]!.w) b38 ti3 rfl fun z H=> ?_;refine go ?_;exact Rs [(22,_),(7,_)] Sx ⟨(j+1),false,rfl,rfl,(by rw[show rxI back es T (j+1)=_ from rx1_yes (s:=(rxI back es T j)) (e:=es[j]!) hbu hbv p35];exact(H.drop [0])),Om,(by rw[show rxI back es T (j+1)=_ from rx1_yes (s:=(rxI back es T j)) (e:=es[j]!) hbu hbv p35])⟩
    ·refine go ?_;exact Rs [(22,_),(7,_)] Sx ⟨(j+1),cm,rfl,rfl,(by rw[show rxI back es T (j+1)=_ from rx1_no (s:=(rxI back es T j)) (e:=es[j]!) hbu hbv (fun q=>p35.elim (fun h=>(fun q=>q h) q.1) (fun h=>h q.2))];exact(H.drop [0])),Om,(by rw[show rxI back es T (j+1)=_ from rx1_no (s:=(rxI back es T j)) (e:=es[j]!) hbu hbv (fun q=>p35.elim (fun h=>(fun q=>q h) q.1) (fun h=>h q.2))];exact hcm)⟩
   ·have hbu:(if back=true then es[j]!.v else es[j]!.u)=es[j]!.u:=if_neg (fun q=>by rw[q]at h32;cases h32);have hbv:(if back=true then es[j]!.u else es[j]!.v)=es[j]!.v:=if_neg (fun q=>by rw[q]at h32;cases h32);have du:(rxI back es T j).1[es[j]!.u.toNat]! =9223372036854775807∨-(1010000000000*(z_:Int)+1010000000000*(j:Int))≤(rxI back es T j).1[es[j]!.u.toNat]!∧(rxI back es T j).1[es[j]!.u.toNat]!≤1010000000000*(z_:Int)+1010000000000*(j:Int):=hok1.2 _ (mem_b Om);refine go ?_;refine Qr ?_;have b40:es[j]!.u.toNat<n9:=Om;refine G2 ?_;refine yq (Y.indexLs es[j]!.u.toNat (H.l 1) rfl u81 ti3 rfl rfl Om b40) ?_;refine G5 ?_;refine qg (fun hb=>Y.indexLs es[j]!.u.toNat (H.l 1) rfl u81 ti3 (evg rfl hb) (evg rfl hb) (by have q0:=(eq_f (not_t hb));omega) (by have q0:=(eq_f (not_t hb));omega)) ?_;refine G6 ?_;refine qg (fun hb=>Y.indexLs es[j]!.v.toNat (H.l 1) rfl u81 ti3 (evg rfl hb) (evg rfl hb) (by have q0:=(eq_f (not_t hb));omega) (by have q0:=(eq_f (not_t hb));omega)) ?_;refine go ?_;refine Qd H fun z H=> ?_;refine G1 ?_;refine sb [0,1,2,7,9,10,11,14,15,20,21,22,51] ?_;refine Cd (fun p41=> ?_) fun p41=> ?_
    ·refine go ?_;refine WC.regionT 10 (by kernel_rfl) (by kernel_rfl) ?_;have b43:es[j]!.u.toNat<n9:=Om;refine G4 ?_;refine yq (Y.indexLs es[j]!.u.toNat (H.l 1) rfl u81 ti3 rfl rfl Om b43) ?_;have b44:es[j]!.v.toNat<n9:=Om;refine G4 ?_;refine yq (Y.indexLs es[j]!.v.toNat (H.l 1) rfl u81 ti3 rfl rfl Om b44) ?_;refine WQ.tail (fun z x=> ?_);have H:=H.ex x;refine ste H 1 rfl ((rxI back es T j).1[es[j]!.u.toNat]! +es[j]!.w) b44 ti3 rfl fun z H=> ?_;refine go ?_;exact Rs [(22,_),(7,_)] Sx ⟨(j+1),false,rfl,rfl,(by rw[show rxI back es T (j+1)=_ from rx1_yes (s:=(rxI back es T j)) (e:=es[j]!) hbu hbv p41];exact(H.drop [0])),Om,(by rw[show rxI back es T (j+1)=_ from rx1_yes (s:=(rxI back es T j)) (e:=es[j]!) hbu hbv p41])⟩
    ·refine go ?_;exact Rs [(22,_),(7,_)] Sx ⟨(j+1),cm,rfl,rfl,(by rw[show rxI back es T (j+1)=_ from rx1_no (s:=(rxI back es T j)) (e:=es[j]!) hbu hbv (fun q=>p41.elim (fun h=>(fun q=>q h) q.1) (fun h=>h q.2))];exact(H.drop [0])),Om,(by rw[show rxI back es T (j+1)=_ from rx1_no (s:=(rxI back es T j)) (e:=es[j]!) hbu hbv (fun q=>p41.elim (fun h=>(fun q=>q h) q.1) (fun h=>h q.2))];exact hcm)⟩
  ·refine go ?_;refine WC.cond rfl (fun h46=> ?_) (fun h46=> ?_)
   ·refine G3 ?_;refine sb [6] ?_;refine go ?_;refine Rt [_] ?_;have er:rxN back es (D.length+1) D=((rxI back es T j).1,true):=by rw[←hr,rxN_stop (k:=n9+1-r) Om (by rw[show es.length=j from Om,←hcm];exact h46),show es.length=j from Om]
    exact⟨by rw[er];rfl,by rw[er];exact H⟩
   ·refine go ?_;exact Rs [(15,_)] Sx ⟨(r+1),(rxI back es T j).1,(z_+es.length),rfl,rfl,H,Om,(by have q:=hok1;rw[show 1010000000000*((z_+es.length:Nat):Int)=1010000000000*(z_:Int)+1010000000000*(j:Int)from Om];exact q),Om,(by rw[show n9+1-(r+1)=n9+1-r-1 from Om,←hr,rxN_step (k:=n9+1-r) Om (by rw[show es.length=j from Om,←hcm,h46];decide),show es.length=j from Om])⟩
 ·refine go ?_;refine Rt [_] ?_;have er:rxN back es (D.length+1) D=(T,false):=by rw[←hr,show n9+1-r=0 from Om];rfl
  exact⟨by rw[er];rfl,by rw[er];exact H⟩
theorem cons_any(g gm:Nat)(v:Value)(S:Gs)(W:World)(R:List Res)(w:World)(H:Hp W w (box g 360 [.map (some gm),v]::mpp gm (Bd.numF 0 S.ks)::row 365 Bd.Ed.c 3 v S.es::R))(hS:GsOk S 333 21928):
  Calls Tryz.prog 213 #[.pointer (some ⟨g,0,none⟩)] w fun e w'=>e= .returned (.bool (rxN false S.es (S.ks.length+1+1) (List.replicate (S.ks.length+1) 0)).2)∧Hp W w' (box g 360 [.map (some gm),v]::mpp gm (Bd.numF 0 S.ks)::row 365 Bd.Ed.c 3 v S.es::R):=by
 have hk_:=hS.k;refine Wb Tryz.func213 ?_;refine G9 ?_;refine yy (Yld.cast (Y.lenMapP rfl rfl rfl u357 rfl (fun _ h=>h▸(H.mp 1))) (vi (show(((Bd.numF 0 S.ks).length:Nat):Int)=((S.ks.length:Nat):Int)from by rw[Bd.numF_len]))) ?_;refine yy (Yld.cast (Y.add rfl rfl rfl Wo) (vi (show((S.ks.length:Nat):Int)+1=((S.ks.length+1:Nat):Int)from Om))) ?_;refine ms (f:=ic) (m:=(S.ks.length+1)) (0:Int) H u81 ti3 Om fun v7 z H=> ?_;refine c3 Fh (relax_any _ _ _ _ _ _ _ _ _ _ (H.front [0,0,1]) (by rw[List.length_replicate];exact dok_0 _) (by rw[List.length_replicate];exact hS.ed rfl) (by rw[List.length_replicate];have:=hS.k;omega) hS.m) ?_;rintro _ z ⟨rfl,H⟩;refine⟨_,rfl,?_⟩;refine go ?_;refine Rt [_] ?_;exact⟨by rw[List.length_replicate];rfl,((H.drop [0]).front [0,1,0])⟩
theorem from_any(g gm:Nat)(v:Value)(S:Gs)(back:Bool)(W:World)(R:List Res)(w:World)(H:Hp W w (box g 360 [.map (some gm),v]::mpp gm (Bd.numF 0 S.ks)::row 365 Bd.Ed.c 3 v S.es::R))(hS:GsOk S 333 21928):
  Calls Tryz.prog 215 #[.pointer (some ⟨g,0,none⟩),.bool back] w fun e w'=>∃u,e= .returned u∧Hp W w' (row 3 ic 1 u (rxN back S.es (S.ks.length+1+1) (dz (S.ks.length+1))).1::box g 360 [.map (some gm),v]::mpp gm (Bd.numF 0 S.ks)::row 365 Bd.Ed.c 3 v S.es::R):=by
 have hk_:=hS.k;refine Wb Tryz.func215 ?_;refine go ?_;refine bs1 H u81 ti3 fun g7 z H=> ?_;refine G4 ?_;refine yy (Yld.cast (Y.lenMapP rfl rfl rfl u357 rfl (fun _ h=>h▸(H.mp 2))) (vi (show(((Bd.numF 0 S.ks).length:Nat):Int)=((S.ks.length:Nat):Int)from by rw[Bd.numF_len]))) ?_;refine yy (Yld.cast (Y.add rfl rfl rfl Wo) (vi (show((S.ks.length:Nat):Int)+1=((S.ks.length+1:Nat):Int)from Om))) ?_;refine c2 H Fh (repeat_any _ _ _ _ (S.ks.length+1) far _ (Ls.lit (f:=ic) (sz:=1) (l:=[far]) (H.b 0) (fun _=>rfl) rfl (by first|decide|exact(show 1≤maxLen by decide)) rfl) rfl Om) fun v9 z H=> ?_;obtain⟨A12,n13,c14,rfl,_,_,_⟩:=H.op 0;have b15:0<n13:=Om;refine go ?_;refine ste H 0 rfl 0 b15 ti3 rfl fun z H=> ?_;refine go ?_;refine c3 Fh (relax_any _ _ _ _ _ _ _ _ _ _ (H.front [0,1,2]) (by rw[show((List.replicate (S.ks.length+1) far).set 0 0).length=S.ks.length+1 from(dok_z _).1];exact dok_z _) (by rw[show((List.replicate (S.ks.length+1) far).set 0 0).length=S.ks.length+1 from(dok_z _).1];exact hS.ed rfl) (by rw[show((List.replicate (S.ks.length+1) far).set 0 0).length=S.ks.length+1 from(dok_z _).1];have:=hS.k;omega) hS.m) ?_;rintro _ z ⟨rfl,H⟩;refine⟨_,rfl,?_⟩;refine go ?_;refine Rt [_] ?_;exact⟨_,rfl,(by rw[show rxN back S.es (S.ks.length+1+1) (dz (S.ks.length+1))=rxN back S.es (((List.replicate (S.ks.length+1) far).set 0 0).length+1) ((List.replicate (S.ks.length+1) far).set 0 0)from by rw[show((List.replicate (S.ks.length+1) far).set 0 0).length=S.ks.length+1 from(dok_z _).1];rfl];exact((H.drop [3]).front [0,0,1,0]))⟩
theorem bdof1_any(x:Dm)(g:Nat)(i:Int)(w:World)(hg:Blk w g 3 [.int .i64 i]):
  Cr 210 #[.agg #[.int .i64 x.id,.int .i64 x.ppm],.pointer (some ⟨g,0,none⟩)] w (.bool (x.id==i)):=by
 have H:=(Hp.nil w);refine Wb Tryz.func210 ?_;refine go ?_;refine bx H fun g2 z H=> ?_;refine go ?_;refine Rt [_] ?_;exact⟨rfl,H.ext⟩
theorem bt_nf{b:Bool}(h:b=true):¬b=false:=by rw[h];decide
theorem dk_neg{x:Int}{m k:Nat}(h:x=far∨-(0+1010000000000*(m:Int)*(k:Int))≤x∧x≤0+1010000000000*(m:Int)*(k:Int))(hm:m≤21928)(hk:k≤335): -9223372036854775807≤x∧x≤9223372036854775807:=by
 have e:(m:Int)*(k:Int)≤21928*335:=by
  have q:=Nat.mul_le_mul hm hk;have q2:((m*k:Nat):Int)≤((21928*335:Nat):Int):=Int.ofNat_le.2 q;rw[Int.natCast_mul]at q2;exact q2
 rw[Int.mul_assoc]at h;generalize (m:Int)*(k:Int)=z at h e;unfold far at h;omega
theorem bdof_any(A_d:Option Addr)(n_d c_d:Nat)(d:List Dm)(A_l:Option Addr)(n_l c_l:Nat)(l:List Sn)(id:Int)(at_:Int)(w:World)(h_d:Ls w A_d n_d c_d Dm.c 2 d)(h_l:Ls w A_l n_l c_l Sn.c 5 l)(hn:n_l≤12):
  Cr 190 #[.slice A_d n_d c_d,.slice A_l n_l c_l,.int .i64 id,.int .i64 at_] w (.tuple #[.agg #[.int .i64 (bdL d l id at_),.int .i64 (bdH d l id at_)],.int .i64 (bdE d l id at_)]):=by
 have H:=(Hp.nil w);have e_d:=h_d.len;have z_d:=h_d.nle;have e_l:=h_l.len;have z_l:=h_l.nle;refine Wb Tryz.func190 ?_;refine go ?_;refine bx H fun g2 z H=> ?_;refine al H ti96 fun g4 z H=> ?_;refine go ?_;refine c1 H Fh (clcheck_any _ _ _ _ _ _ _ _ _ (h_d.ext H.ext) (h_l.ext H.ext)) fun z H=> ?_;refine go ?_;refine Cd (fun p9=> ?_) fun p9=> ?_
 ·refine go ?_;refine st H 0 ti96 fun z H=> ?_;refine go ?_;refine WK.ret [_,_] rfl ⟨⟨_,rfl,run_loadVar_blk u96 rfl ti96 (H.b 0)⟩,rfl,trivial⟩ ?_;have e1:bdE d l id at_=ckE d l:=if_pos p9;have eL:bdL d l id at_=0:=if_pos (by rw[e1];exact p9);have eH:bdH d l id at_=0:=if_pos (by rw[e1];exact p9);exact⟨by rw[eL,eH,e1];rfl,H.ext⟩
 ·refine G6 ?_;refine yy (Y.func rfl rfl rfl) ?_;refine c1 H Fh (cfD_any _ _ _ _ 210 [.pointer (some ⟨g2,0,none⟩)] (fun x=>x.id==id) _ (h_d.ext H.ext) Fh (fun k hk w1 x1=>bdof1_any d[k]! g2 id w1 (Blk.ext ((H.b 1)) x1))) fun z H=> ?_;refine go ?_;refine Cd (fun p13=> ?_) fun p13=> ?_
  ·refine go ?_;refine st H 0 ti96 fun z H=> ?_;refine G2 ?_;refine sb [8,9] ?_;refine go ?_;refine WK.ret [_,_] rfl ⟨⟨_,rfl,run_loadVar_blk u96 rfl ti96 (H.b 0)⟩,rfl,trivial⟩ ?_;have e1:bdE d l id at_=5:=(if_neg (fun q=>q p9)).trans (if_pos p13);have eL:bdL d l id at_=0:=if_pos (by rw[e1];decide);have eH:bdH d l id at_=0:=if_pos (by rw[e1];decide);exact⟨by rw[eL,eH,e1];rfl,H.ext⟩
  ·refine go ?_;refine Cd (fun p16=> ?_) fun p16=> ?_
   ·refine go ?_;refine st H 0 ti96 fun z H=> ?_;refine go ?_;refine WK.ret [_,_] rfl ⟨⟨_,rfl,run_loadVar_blk u96 rfl ti96 (H.b 0)⟩,rfl,trivial⟩ ?_;have e1:bdE d l id at_=2:=(if_neg (fun q=>q p9)).trans ((if_neg (fun q=>q p13)).trans (if_pos p16));have eL:bdL d l id at_=0:=if_pos (by rw[e1];decide);have eH:bdH d l id at_=0:=if_pos (by rw[e1];decide);exact⟨by rw[eL,eH,e1];rfl,H.ext⟩
   ·refine go ?_;refine c1 H Fh (linked_any _ _ _ _ _ _ _ _ _ _ (h_d.ext H.ext) (h_l.ext H.ext) Om) fun z H=> ?_;refine go ?_;refine WC.cond rfl (fun h19=> ?_) (fun h19=> ?_)
    ·refine go ?_;refine st H 0 ti96 fun z H=> ?_;refine go ?_;refine WK.ret [_,_] rfl ⟨⟨_,rfl,run_loadVar_blk u96 rfl ti96 (H.b 0)⟩,rfl,trivial⟩ ?_;have e1:bdE d l id at_=12:=(if_neg (fun q=>q p9)).trans ((if_neg (fun q=>q p13)).trans ((if_neg (fun q=>q.elim p16.1 p16.2)).trans (if_pos (not_t h19))));have eL:bdL d l id at_=0:=if_pos (by rw[e1];decide);have eH:bdH d l id at_=0:=if_pos (by rw[e1];decide);exact⟨by rw[eL,eH,e1];rfl,H.ext⟩
    ·have hck:ckE d l=0:=Decidable.of_not_not (fun q=>q p9);obtain⟨hR,hd8⟩:=ck_rng hck;have hat:0≤at_∧at_≤1000000000000:=by have q:¬(at_<0∨at_>1000000000000):=(fun q=>q.elim p16.1 p16.2);omega
     have hok1:GsOk (bF d l id at_) 332 21928:=(bS_ok (bD_ok (d:=d) (id:=id) hR (show l.length≤12 by omega) hat d.length) l l.length).up Om Om;have hok2:GsOk ⟨nuK (bF d l id at_).ks (id,at_),(bF d l id at_).es⟩ 333 21928:=(hok1.key (id,at_)).up Nl Nl;have hkk:=hok1.k;have hnx:=nuK_rng (bF d l id at_).ks (id,at_);have hnl:=nuK_len (bF d l id at_).ks (id,at_);refine G3 ?_;refine sb [0,1,3,6,8] ?_;refine go ?_;refine c3 Fh (build_any _ _ _ _ _ _ _ _ _ _ _ (h_d.ext H.ext) (h_l.ext H.ext) hR Om hd8 hat) ?_;rintro _ z ⟨g,gm,v,rfl,K⟩;have H:Hp w _ (box g 360 [.map (some gm),v]::mpp gm (Bd.numF 0 (bF d l id at_).ks)::row 365 Bd.Ed.c 3 v (bF d l id at_).es::_):=H.join K;refine⟨_,rfl,?_⟩;refine go ?_;refine c3 Fh (cons_any _ _ _ _ _ _ _ (H.front [0,0,0]) (hok1.up Om Nl)) ?_;rintro _ z ⟨rfl,H⟩;refine⟨_,rfl,?_⟩;refine go ?_;refine WC.cond rfl (fun h27=> ?_) (fun h27=> ?_)
     ·refine go ?_;refine st H 3 ti96 fun z H=> ?_;refine go ?_;refine WK.ret [_,_] rfl ⟨⟨_,rfl,run_loadVar_blk u96 rfl ti96 (H.b 3)⟩,rfl,trivial⟩ ?_;have e1:bdE d l id at_=12:=(if_neg (fun q=>q p9)).trans ((if_neg (fun q=>q p13)).trans ((if_neg (fun q=>q.elim p16.1 p16.2)).trans ((if_neg (bt_nf (not_f h19))).trans (if_pos (not_t h27)))));have eL:bdL d l id at_=0:=if_pos (by rw[e1];decide);have eH:bdH d l id at_=0:=if_pos (by rw[e1];decide);exact⟨by rw[eL,eH,e1];rfl,H.ext⟩
     ·refine go ?_;refine c3 Fh (number_any _ _ _ _ _ _ _ _ _ (H.front [0,0]) Om) ?_;rintro _ z ⟨rfl,H⟩;refine⟨_,rfl,?_⟩;have lD1:(rxN true (bF d l id at_).es ((nuK (bF d l id at_).ks (id,at_)).length+1+1) (dz ((nuK (bF d l id at_).ks (id,at_)).length+1))).1.length=(nuK (bF d l id at_).ks (id,at_)).length+1:=by rw[rxN_len];exact(dok_z _).1
      have lD2:(rxN false (bF d l id at_).es ((nuK (bF d l id at_).ks (id,at_)).length+1+1) (dz ((nuK (bF d l id at_).ks (id,at_)).length+1))).1.length=(nuK (bF d l id at_).ks (id,at_)).length+1:=by rw[rxN_len];exact(dok_z _).1
      have hdb: -9223372036854775807≤(rxN true (bF d l id at_).es ((nuK (bF d l id at_).ks (id,at_)).length+1+1) (dz ((nuK (bF d l id at_).ks (id,at_)).length+1))).1[(Bd.nix (nuK (bF d l id at_).ks (id,at_)) (id,at_)).toNat]!∧(rxN true (bF d l id at_).es ((nuK (bF d l id at_).ks (id,at_)).length+1+1) (dz ((nuK (bF d l id at_).ks (id,at_)).length+1))).1[(Bd.nix (nuK (bF d l id at_).ks (id,at_)) (id,at_)).toNat]!≤9223372036854775807:=dk_neg ((DOk.len (back:=true) (n:=(nuK (bF d l id at_).ks (id,at_)).length+1) (hok2.ed rfl) ((nuK (bF d l id at_).ks (id,at_)).length+1+1) _ 0 (dok_z _) Il).2 _ (mem_b (by rw[lD1];omega))) hok2.m (by have:=hnl.1;omega);refine go ?_;refine Xr H (HpC w _) (.load 0 (.load 2 (.load 6 (.load 8 (.alt 1 (.load 3 (.alt 4 (.load 5 (.alt 7 (.load 9 (.alt 10 (.load 11 (.alt 12 (.load 13 (.fin)) (.none))) (.none))) (.none))) (.alt 7 (.load 9 (.alt 4 (.load 5 (.alt 10 (.load 11 (.alt 12 (.load 13 (.fin)) (.none))) (.none))) (.alt 10 (.alt 4 (.load 5 (.load 11 (.alt 12 (.load 13 (.fin)) (.none)))) (.none)) (.none)))) (.none)))) (.none)))))) (H.pick [0,0,0,1]) fun z H=> ?_;refine go ?_;refine c3X (H.pick [0,0,0,1]) Fh (from_any _ _ _ ⟨nuK (bF d l id at_).ks (id,at_),(bF d l id at_).es⟩ _ _ _ _ (H.front [0,0,0]) hok2) ?_;rintro _ z ⟨v31,rfl,H⟩;refine⟨_,rfl,?_⟩;obtain⟨A33,n34,c35,rfl,_,_,_⟩:=H.op 0;have b36:(Bd.nix (nuK (bF d l id at_).ks (id,at_)) (id,at_)).toNat<n34:=Om;refine yx rfl (Y.indexLs (Bd.nix (nuK (bF d l id at_).ks (id,at_)) (id,at_)).toNat (H.l 0) rfl u81 ti3 rfl rfl Om b36) ?_;refine WX.alt ?_ ?_
      ·refine WX.yldL rfl rfl (blt rfl) rfl (H.pick [1,1,1,2]) (ld rfl u3 rfl (Ls.at_eq (H.l 0) b36 rfl)) ?_;refine yx rfl (Y.neg rfl rfl Wo) ?_;refine c3X (H.pick [1,1,1,2]) Fh (from_any _ _ _ ⟨nuK (bF d l id at_).ks (id,at_),(bF d l id at_).es⟩ _ _ _ _ (H.front [1,1,1]) hok2) ?_;rintro _ z ⟨v37,rfl,H⟩;refine⟨_,rfl,?_⟩;obtain⟨A39,n40,c41,rfl,_,_,_⟩:=H.op 0;have b42:(Bd.nix (nuK (bF d l id at_).ks (id,at_)) (id,at_)).toNat<n40:=Om;refine yx rfl (Y.indexLs (Bd.nix (nuK (bF d l id at_).ks (id,at_)) (id,at_)).toNat (H.l 0) rfl u81 ti3 rfl rfl Om b42) ?_;refine WX.yldL rfl rfl (blt rfl) rfl (H.pick [1,1,1,3]) (ld rfl u3 rfl (Ls.at_eq (H.l 0) b42 rfl)) ?_;refine go ?_;refine stX (H.pick [1,1,1,3]) H 5 ti96 fun z H=> ?_;refine go ?_;refine WX.nil (H.pick [1,1,1,3]) ?_;refine go ?_;refine WK.ret [_,_] rfl ⟨⟨_,rfl,run_loadVar_blk u96 rfl ti96 (H.b 5)⟩,rfl,trivial⟩ ?_;have e1:bdE d l id at_=0:=(if_neg (fun q=>q p9)).trans ((if_neg (fun q=>q p13)).trans ((if_neg (fun q=>q.elim p16.1 p16.2)).trans ((if_neg (bt_nf (not_f h19))).trans ((if_neg (bt_nf (not_f h27))).trans (rfl)))));have eL:bdL d l id at_= -bdD true d l id at_:=if_neg (fun q=>q e1);have eH:bdH d l id at_=bdD false d l id at_:=if_neg (fun q=>q e1);exact⟨by rw[eL,eH,e1];rfl,H.ext⟩
      refine c3X (H.pick [1,1,1,2]) Fh (from_any _ _ _ ⟨nuK (bF d l id at_).ks (id,at_),(bF d l id at_).es⟩ _ _ _ _ (H.front [1,1,1]) hok2) ?_;rintro _ z ⟨v43,rfl,H⟩;refine⟨_,rfl,?_⟩;obtain⟨A45,n46,c47,rfl,_,_,_⟩:=H.op 0;have b48:(Bd.nix (nuK (bF d l id at_).ks (id,at_)) (id,at_)).toNat<n46:=Om;refine yx rfl (Y.indexLs (Bd.nix (nuK (bF d l id at_).ks (id,at_)) (id,at_)).toNat (H.l 0) rfl u81 ti3 rfl rfl Om b48) ?_;refine WX.alt ?_ ?_
      ·refine WX.yldL rfl rfl (blt rfl) rfl (H.pick [1,1,1,3]) (ld rfl u3 rfl (Ls.at_eq (H.l 4) b36 rfl)) ?_;refine yx rfl (Y.neg rfl rfl Wo) ?_;refine WX.yldL rfl rfl (blt rfl) rfl (H.pick [1,1,1,3]) (ld rfl u3 rfl (Ls.at_eq (H.l 0) b48 rfl)) ?_;refine go ?_;refine stX (H.pick [1,1,1,3]) H 5 ti96 fun z H=> ?_;refine go ?_;refine WX.nil (H.pick [1,1,1,3]) ?_;refine go ?_;refine WK.ret [_,_] rfl ⟨⟨_,rfl,run_loadVar_blk u96 rfl ti96 (H.b 5)⟩,rfl,trivial⟩ ?_;have e1:bdE d l id at_=0:=(if_neg (fun q=>q p9)).trans ((if_neg (fun q=>q p13)).trans ((if_neg (fun q=>q.elim p16.1 p16.2)).trans ((if_neg (bt_nf (not_f h19))).trans ((if_neg (bt_nf (not_f h27))).trans (rfl)))));have eL:bdL d l id at_= -bdD true d l id at_:=if_neg (fun q=>q e1);have eH:bdH d l id at_=bdD false d l id at_:=if_neg (fun q=>q e1);exact⟨by rw[eL,eH,e1];rfl,H.ext⟩
      refine WX.yldL rfl rfl (blt rfl) rfl (H.pick [1,1,1,3]) (ld rfl u3 rfl (Ls.at_eq (H.l 0) b48 rfl)) ?_;refine WX.yldL rfl rfl (blt rfl) rfl (H.pick [1,1,1,3]) (ld rfl u3 rfl (Ls.at_eq (H.l 4) b36 rfl)) ?_;refine yx rfl (Y.neg rfl rfl Wo) ?_;refine go ?_;refine stX (H.pick [1,1,1,3]) H 5 ti96 fun z H=> ?_;refine go ?_;refine WX.nil (H.pick [1,1,1,3]) ?_;refine G1 ?_;refine sb [8,9] ?_;refine go ?_;refine WK.ret [_,_] rfl ⟨⟨_,rfl,run_loadVar_blk u96 rfl ti96 (H.b 5)⟩,rfl,trivial⟩ ?_;have e1:bdE d l id at_=0:=(if_neg (fun q=>q p9)).trans ((if_neg (fun q=>q p13)).trans ((if_neg (fun q=>q.elim p16.1 p16.2)).trans ((if_neg (bt_nf (not_f h19))).trans ((if_neg (bt_nf (not_f h27))).trans (rfl)))));have eL:bdL d l id at_= -bdD true d l id at_:=if_neg (fun q=>q e1);have eH:bdH d l id at_=bdD false d l id at_:=if_neg (fun q=>q e1);exact⟨by rw[eL,eH,e1];rfl,H.ext⟩
def dmM(ths:List Th):Nat→List (Int×Int)
 |0=>[]
 |j+1=>iset (dmM ths j) ths[j]!.id ths[j]!.dom
def dmO(ths:List Th)(x:Int):Int:=(iget (dmM ths ths.length) x).getD 0
def mkT(d:List Dm)(s:List Sn)(dm th sr:Int)(e:Ev):Tm:=⟨th,sr,e.at_,e.kd,e.nm,e.n,e.m,e.A,e.k,e.c_,e.st,bdL d s dm e.at_,bdH d s dm e.at_⟩
def rwK(ths:List Th)(d:List Dm)(s:List Sn)(p:Pk):Nat→List Tm
 |0=>[]
 |k+1=>rwK ths d s p k++[mkT d s (dmO ths p.th) p.th (p.sr+(k:Int)) p.es[k]!]
def rwN(ths:List Th)(d:List Dm)(s:List Sn)(l:List Pk):Nat→List Tm
 |0=>[]
 |j+1=>rwN ths d s l j++rwK ths d s l[j]! l[j]!.es.length
def erK(ths:List Th)(d:List Dm)(s:List Sn)(p:Pk):Int:=fE (fun k=>bdE d s (dmO ths p.th) p.es[k]!.at_) p.es.length
def rwE(ths:List Th)(d:List Dm)(s:List Sn)(l:List Pk):Int:=if soE ths d s l≠0 then soE ths d s l else fE (fun j=>erK ths d s l[j]!) l.length
def rwF(ths:List Th)(d:List Dm)(s:List Sn)(l:List Pk):List Tm:=if rwE ths d s l≠0 then[]else rwN ths d s l l.length
theorem rwK_len(ths:List Th)(d:List Dm)(s:List Sn)(p:Pk):∀k,(rwK ths d s p k).length=k
 |0=>rfl
 |k+1=>by show(_++[_]).length=_;rw[List.length_append,rwK_len ths d s p k];rfl
theorem rwN_len{ths:List Th}{d:List Dm}{s:List Sn}{l:List Pk}(h:∀p∈l,p.es.length=p.k):∀j,j≤l.length→(rwN ths d s l j).length=evsum l j
 |0,_=>rfl
 |j+1,hj=>by
  show(rwN ths d s l j++rwK ths d s l[j]! l[j]!.es.length).length=evsum l j+l[j]!.k;rw[List.length_append,rwN_len h j Om,rwK_len,h _ (mem_b hj)]
def KnOk(d:List Dm)(s:List Sn)(m:PM):Prop:=∀k v,pget m k=some v→bdE d s k.1 k.2=0∧v= .agg #[.int .i64 (bdL d s k.1 k.2),.int .i64 (bdH d s k.1 k.2)]
theorem KnOk.nil{d:List Dm}{s:List Sn}:KnOk d s []:=fun _ _ h=>(by cases h)
theorem KnOk.put{d:List Dm}{s:List Sn}{m:PM}(h:KnOk d s m){a b:Int}(he:bdE d s a b=0):KnOk d s (pset m (a,b) (.agg #[.int .i64 (bdL d s a b),.int .i64 (bdH d s a b)])):=fun k v hv=>by
 rw[pget_set]at hv;split at hv
 ·rename_i q;grind
 ·exact h k v hv
def posI(ids:List Ix)(i:Nat):Nat:=(plI ids (ids[i]!.th,ids[i]!.sr) ids.length).getD 0
theorem plI_some{ids:List Ix}{k:Int×Int}:∀{n i:Nat},i<n→k=(ids[i]!.th,ids[i]!.sr)→∃a,plI ids k n=some a∧a<n∧k=(ids[a]!.th,ids[a]!.sr)
 |n+1,i,hi,he=>by
  show∃a,(if k=(ids[n]!.th,ids[n]!.sr)then some n else plI ids k n)=some a∧_;split
  ·grind
  ·rename_i q;have:i≠n:=fun e=>q (e▸he);obtain⟨a,h1,h2,h3⟩:=plI_some (n:=n) (show i<n by omega) he;grind
theorem posI_ok{ids:List Ix}{i:Nat}(h:i<ids.length):plI ids (ids[i]!.th,ids[i]!.sr) ids.length=some (posI ids i)∧posI ids i<ids.length∧(ids[i]!.th,ids[i]!.sr)=(ids[posI ids i]!.th,ids[posI ids i]!.sr):=by
 obtain⟨a,h1,h2,h3⟩:=plI_some (ids:=ids) h rfl;simp_all [posI,And.intro]
def veI(ths:List Th)(l:List Pk)(i:Nat):List Int:=vcF ths (idsOf l) (caN ths l) (posI (idsOf l) i) ths.length
def veN(ths:List Th)(l:List Pk):Nat→List (List Int)
 |0=>[]
 |i+1=>veN ths l i++[veI ths l i]
theorem veN_len(ths:List Th)(l:List Pk):∀i,(veN ths l i).length=i
 |0=>rfl
 |i+1=>by show(_++[_]).length=_;rw[List.length_append,veN_len ths l i];rfl
theorem veN_at(ths:List Th)(l:List Pk):∀{n i:Nat},i<n→(veN ths l n)[i]! =veI ths l i
 |n+1,i,h=>by
  show(veN ths l n++[veI ths l n])[i]! =_;by_cases q:i<n
  ·rw[List.getElem!_eq_getElem?_getD,List.getElem?_append_left (by grind [veN_len]),←List.getElem!_eq_getElem?_getD];exact veN_at ths l q
  ·have:i=n:=Om;simp_all [List.getElem!_eq_getElem?_getD,List.getElem?_append_right,veN_len,Nat.le_refl,Nat.sub_self]
theorem veI_len(ths:List Th)(l:List Pk)(i:Nat):(veI ths l i).length=ths.length:=vcF_len _ _ _ _ Nl
def coM(ths:List Th):Nat→List (Int×Int)
 |0=>[]
 |j+1=>iset (coM ths j) ths[j]!.id (j:Int)
def coO(ths:List Th)(x:Int):Int:=(iget (coM ths ths.length) x).getD 0
theorem coM_rng{ths:List Th}{x:Int}:∀n v,iget (coM ths n) x=some v→0≤v∧v<(n:Int)
 |0,v,h=>by cases h
 |n+1,v,h=>by
  rw[show coM ths (n+1)=iset (coM ths n) ths[n]!.id (n:Int)from rfl,iget_iset]at h;split at h
  ·grind
  ·have:=coM_rng n v h;omega
theorem coO_rng{ths:List Th}(h:0<ths.length)(x:Int):0≤coO ths x∧coO ths x<(ths.length:Int):=by
 unfold coO;cases e:iget (coM ths ths.length) x with
 |none=>grind
 |some v=>exact coM_rng _ v e
def tgL(x:Tm)(lo:Int):Tm:={x with lo:=lo}
def tgH(x:Tm)(hi:Int):Tm:={x with hi:=hi}
def tg1(c:Bool)(raw:List Tm)(i:Nat)(o:List Tm)(k:Nat):List Tm:=
 if c=true then(o.set i (tgL o[i]! (max o[i]!.lo raw[k]!.lo))).set k (tgH (o.set i (tgL o[i]! (max o[i]!.lo raw[k]!.lo)))[k]! (min (o.set i (tgL o[i]! (max o[i]!.lo raw[k]!.lo)))[k]!.hi raw[i]!.hi))else o
def aftB(V:List (List Int))(ths:List Th)(raw:List Tm)(i k:Nat):Bool:=decide (V[i]![(coO ths raw[k]!.th).toNat]! >raw[k]!.sr)
def tgI(V:List (List Int))(ths:List Th)(raw:List Tm)(i:Nat)(o:List Tm):Nat→List Tm
 |0=>o
 |k+1=>tg1 (aftB V ths raw i k) raw i (tgI V ths raw i o k) k
def tgN(V:List (List Int))(ths:List Th)(raw:List Tm):Nat→List Tm
 |0=>raw
 |i+1=>tgI V ths raw i (tgN V ths raw i) raw.length
theorem tg1_len(c:Bool)(raw:List Tm)(i:Nat)(o:List Tm)(k:Nat):(tg1 c raw i o k).length=o.length:=by
 grind [tg1,List.length_set]
theorem tgI_len(V:List (List Int))(ths:List Th)(raw:List Tm)(i:Nat)(o:List Tm):∀k,(tgI V ths raw i o k).length=o.length
 |0=>rfl
 |k+1=>(tg1_len _ _ _ _ _).trans (tgI_len V ths raw i o k)
theorem tgN_len(V:List (List Int))(ths:List Th)(raw:List Tm):∀i,(tgN V ths raw i).length=raw.length
 |0=>rfl
 |i+1=>(tgI_len _ _ _ _ _ _).trans (tgN_len V ths raw i)
def ivB(x:Tm):Bool:=Iv.validB (x.lo,x.hi)
def tgX(ths:List Th)(d:List Dm)(s:List Sn)(l:List Pk):List Tm:=tgN (veN ths l (idsOf l).length) ths (rwN ths d s l l.length) (rwN ths d s l l.length).length
def tgE(ths:List Th)(d:List Dm)(s:List Sn)(l:List Pk):Int:=if rwE ths d s l≠0 then rwE ths d s l else if ixP (fun x=> !ivB x) (tgX ths d s l)≥0 then 13 else 0
def tgF(ths:List Th)(d:List Dm)(s:List Sn)(l:List Pk):List Tm:=if tgE ths d s l≠0 then[]else tgX ths d s l
theorem kq324(a0:Int)(a1:Int)(b0:Int)(b1:Int)(w:World):(Op.equalIn 10000 324 (.agg #[.int .i64 a0,.int .i64 a1]) (.agg #[.int .i64 b0,.int .i64 b1])).run Tryz.prog w= .ok ((a0==b0)&&(a1==b1)) w:=by
 rw[show(10000:Nat)=9998+1+1 from rfl];unfold Op.equalIn
 go_simp
 rw[show List.range' 0 2=[0,1]from rfl]
 go_simp
 grind
theorem chk324(em:Bool)(a b:Int)(w:World):(Instr.checkKey em 10000 324 (.agg #[.int .i64 a,.int .i64 b])).run Tryz.prog w= .ok () w:=by
 rw[show(10000:Nat)=9999+1 from rfl];unfold Instr.checkKey
 go_simp
 rw[show List.range' 0 2=[0,1]from rfl]
 go_simp
 rw[show(Instr.checkKey em 9999 3 (.int .i64 a)).run Tryz.prog w= .ok () w from checkKey_int Tryz.underlying3 em 9998 a w,Result.andThen_ok,show(Instr.checkKey em 9999 3 (.int .i64 b)).run Tryz.prog w= .ok () w from checkKey_int Tryz.underlying3 em 9998 b w]
theorem pkk324:PK Tryz.prog 324:=⟨by kernel_rfl,kq324,chk324⟩
end TW
end Go.Proofs.YtaclfjjipnpboaaGreatDoor
end
namespace Go.Eng
open Go Go.RowKit
def PLA(P:Program)(t:TypeId)(zero:List Value)(sz:Nat):Prop:=∀ps cs,fillP (fun i=>some (i*sz,sz)) zero ps=some cs→P.built t ps=some cs.toArray
theorem PLA.mk{P:Program}{t e n:Nat}{zero:List Value}{z:Value}{sz by' sz2 by2:Nat}(h:TI P t (.agg zero.toArray) sz2 by2)(hU:P.underlying t=some (.array n e))(he:TI P e z sz by'):PLA P t zero sz:=fun ps cs hf=>by
 obtain⟨i,h1,h2,_,_⟩:=h;obtain⟨j,j1,j2,j3,j4⟩:=he;simp_all [Program.built,fill_eq,some,Prod.mk,Value.cells]
section
variable{P:Program}{n:Nat}{ops:Array Oper}{Q:Exit→Act→World→Prop}{E:Env}{w:World}{o:Oper}{rest:List Oper}{d:Nat}{C:World→Prop}
theorem Y.buildA{t:TypeId}{parts:Array (Nat×Operand)}{cells:List Value}{ps:List (Nat×Value)}{zero:List Value}{sz:Nat}(ho:o.op= .build t parts)(hPL:PLA P t zero sz)(hp:evp E parts.toList=some ps)(hb:fillP (fun i=>some (i*sz,sz)) zero ps=some cells):Yld P o n E C (.agg cells.toArray):=by
 intro A w hA _;have h2:=run_build (P:=P) w t ps.toArray cells.toArray (by simpa using hPL _ _ hb);have h3:(parts.map fun x=>(x.fst,A.eval x.snd))=ps.toArray:=by
  rw[←hA.evp hp,←List.map_toArray]
 simp_all [execOp]
theorem buA{t:TypeId}{parts:Array (Nat×Operand)}{c0 cells:List Value}{ps:List (Nat×Value)}{zero:List Value}{sz:Nat}(hPL:PLA P t zero sz)(h:WL P n ops Q rest ((d,.agg cells.toArray)::E) w)
  (hd:o.dst=some d:=by exact rfl) (hn:d<n:=by exact blt rfl) (hg:o.guard=none:=by exact rfl) (ho:o.op= .build t parts:=by exact rfl) (hp:evp E parts.toList=some ps:=by exact rfl) (hb:fillP (fun i=>some (i*sz,sz)) zero ps=some c0:=by exact rfl) (hN:Nm c0 cells:=by repeat (first|exact Nm.nil rfl|(apply Nm.cons;exact rfl))):WL P n ops Q (o::rest) E w:=
 WL.yld hd hn hg (Y.buildA ho hPL hp (by rw[hb,hN.eq])) h
end
end Go.Eng
namespace Go.Proofs.YtaclfjjipnpboaaGreatDoor
open Go Go.Eng Go.RowKit
namespace TW
theorem pla324:PLA Tryz.prog 324 [.int .i64 0,.int .i64 0] 1:=PLA.mk (zero:=[.int .i64 0,.int .i64 0]) ti324 Tryz.underlying324 ti3
end TW
end Go.Proofs.YtaclfjjipnpboaaGreatDoor
section
attribute [local irreducible] Go.Eng.WC Go.Eng.WL Go.Eng.WK Go.Eng.WQ Go.Eng.WX Go.Eng.Yld
namespace Go.Proofs.YtaclfjjipnpboaaGreatDoor
open Go Go.Eng Go.RowKit
namespace TW
theorem so_lg{ths:List Th}{d:List Dm}{s:List Sn}{l:List Pk}(h:soE ths d s l=0):lgE ths d s l=0:=by
 unfold soE at h;split at h
 ·rename_i q;exact absurd h q
 ·rename_i q;refine Classical.byContradiction fun k=>q ?_;unfold exE;rw[if_pos k];exact k
theorem raw_any(A_ta:Option Addr)(n_ta c_ta:Nat)(ta:List Th)(A_da:Option Addr)(n_da c_da:Nat)(da:List Dm)(A_na:Option Addr)(n_na c_na:Nat)(na:List Sn)(A_pa:Option Addr)(n_pa c_pa:Nat)(pa:List Pk)(w:World)(h_ta:Ls w A_ta n_ta c_ta Th.c 3 ta)(h_da:Ls w A_da n_da c_da Dm.c 2 da)(h_na:Ls w A_na n_na c_na Sn.c 5 na)(h_pa:Ls w A_pa n_pa c_pa Pk.c 4 pa)(g_pa:PksOk w pa)(hk:∀x∈pa,x.k≤1000000)(hl:n_pa≤1000)(ht:n_ta≤1000)(he:evsum pa pa.length≤24)(hsn:n_na≤12):
  Calls Tryz.prog 162 #[.agg #[.slice A_ta n_ta c_ta,.slice A_da n_da c_da,.slice A_na n_na c_na,.slice A_pa n_pa c_pa]] w fun e w'=>∃v,e= .returned (.tuple #[v,.int .i64 (rwE ta da na pa)])∧OwnL w' w.heap.size 107 Tm.c 10 v (rwF ta da na pa)∧Ext w w':=by
 have H:=(Hp.nil w);have e_ta:=h_ta.len;have z_ta:=h_ta.nle;have e_da:=h_da.len;have z_da:=h_da.nle;have e_na:=h_na.len;have z_na:=h_na.nle;have e_pa:=h_pa.len;have z_pa:=h_pa.nle;have hkl:∀p∈pa,p.es.length=p.k:=fun p hp=>(g_pa p hp).l.len;refine Wb Tryz.func162 ?_;refine go ?_;refine bx H fun g2 z H=> ?_;refine go ?_;refine c1 H Fh (cacheck_any _ _ _ _ _ _ _ _ _ _ _ _ _ _ _ _ _ (h_ta.ext H.ext) (h_da.ext H.ext) (h_na.ext H.ext) (h_pa.ext H.ext) (g_pa.ext H.ext) hk Om Om he) fun z H=> ?_;refine go ?_;refine Cd (fun p7=> ?_) fun p7=> ?_
 ·refine go ?_;refine Rt [_,_] ?_;have e1:rwE ta da na pa=soE ta da na pa:=if_pos p7;exact⟨_,(by rw[e1];rfl),(by rw[show rwF ta da na pa=[]from if_pos (by rw[e1];exact p7)];exact OwnL.nil_),H.ext⟩
 ·refine G3 ?_;refine mm H fun g10 z H=> ?_;refine go ?_;refine sb [28,1,5,26,27] ?_;refine WC.loopS 1 (fun mz Ed W'=>∃j:Nat,mz=n_ta-j∧Ed=[(28,.int .i64 ((j:Nat):Int))]∧Hp w W' (mpi g10 (im (dmM ta j))::_::[])∧(j≤n_ta)) _ ⟨0,rfl,rfl,(H.pick [0,0]),(Nat.zero_le _)⟩ ?_;rintro _ _ z ⟨j,rfl,rfl,H,jl⟩;refine go ?_;refine Cd (fun p16=> ?_) fun p16=> ?_
  ·have b19:j<n_ta:=Om;refine go ?_;refine al H ti68 fun g20 z H=> ?_;refine st H 0 ti68 fun z H=> ?_;refine G7 ?_;refine mu H 1 u178 u3 fun z H=> ?_;refine go ?_;exact Rs [(28,_)] Sx ⟨(j+1),rfl,rfl,(by rw[show dmM ta (j+1)=iset (dmM ta j) ta[j]!.id ta[j]!.dom from rfl,←mset_im];exact(H.pick [1,1])),Om⟩
  ·refine go ?_;refine mmp H fun g23 z H=> ?_;obtain rfl:j=ta.length:=Om;have H:=H.nilRow 107 Tm.c 10;have hso:soE ta da na pa=0:=Decidable.of_not_not (fun q=>q p7);have pkok:=lg_pkok (so_lg hso);refine G12 ?_;refine sb [1,5,8,9,40,41,42] ?_;refine go ?_;refine sb [42,9,1,5,8,40,41] ?_;refine WC.loopS 2 (fun mz Ed W'=>∃j:Nat,∃v:Value,∃m:PM,mz=n_pa-j∧Ed=[(42,.int .i64 ((j:Nat):Int)),(9,v)]∧Hp w W' (row 107 Tm.c 10 v (rwN ta da na pa j)::mpp g23 m::_::_::[])∧(j≤n_pa)∧(KnOk da na m)∧(fE (fun j=>erK ta da na pa[j]!) j=0)) _ ⟨0,_,[],rfl,rfl,(H.pick [0,0,0,0]),(Nat.zero_le _),KnOk.nil,rfl⟩ ?_;rintro _ _ z ⟨j,v,m,rfl,rfl,H,jl,hKn,hp⟩;have eu:=evsum_le_all pa j pa.length Om;have rl:=rwN_len (ths:=ta) (d:=da) (s:=na) hkl j Om;refine go ?_;refine Cd (fun p32=> ?_) fun p32=> ?_
   ·have b35:j<n_pa:=Om;refine go ?_;refine al H ti55 fun g36 z H=> ?_;refine st H 0 ti55 fun z H=> ?_;have hkj:=hkl _ (mem_b (show j<pa.length by omega));have ok:=pkok _ (mem_b (show j<pa.length by omega));have o1:=ok.sr;have o2:=ok.to;have eu2:=Nat.le_trans (evsum_le_all pa (j+1) pa.length Om) he;rw[evsum_mono]at eu2;refine go ?_;refine sb [49,9,1,5,8,11,40,41,42,47,48] ?_;refine WC.loopS 2 (fun mz Ed W'=>∃i:Nat,∃v2:Value,∃m2:PM,mz=pa[j]!.k-i∧Ed=[(49,.int .i64 ((i:Nat):Int)),(9,v2)]∧Hp w W' (_::row 107 Tm.c 10 v2 (rwN ta da na pa j++rwK ta da na pa[j]! i)::mpp g23 m2::_::_::[])∧(i≤pa[j]!.k)∧(KnOk da na m2)∧(fE (fun k=>bdE da na (dmO ta pa[j]!.th) pa[j]!.es[k]!.at_) i=0)) _ ⟨0,_,m,rfl,rfl,(by rw[show rwK ta da na pa[j]! 0=[]from rfl,List.append_nil];exact(H.pick [0,0,0,0,0])),(Nat.zero_le _),hKn,rfl⟩ ?_;rintro _ _ z ⟨i,v2,m2,rfl,rfl,H,il,hKn2,hq⟩;have kl:=rwK_len ta da na pa[j]! i;refine go ?_;refine Cd (fun p41=> ?_) fun p41=> ?_
    ·have b44:i<pa[j]!.k:=Om;refine G6 ?_;refine yy (Y.indexLs i ((g_pa _ (mem_b (show j<pa.length from Om))).ext H.ext).l rfl u53 ti73 rfl rfl rfl b44) ?_;refine yy (Y.loadS (cs:=[_,_,_,_,_,_]) rfl u73 rfl ti73 rfl (Ls.part_eq ((g_pa _ (mem_b (show j<pa.length from Om))).ext H.ext).l b44 rfl)) ?_;refine al H ti73 fun g45 z H=> ?_;refine go ?_;refine st H 0 ti73 fun z H=> ?_;refine G5 ?_;refine yy (Yld.cast (Y.lookup rfl u178 u3 ti3 rfl rfl (fun _ h=>h▸(H.mi 4))) (show mval _ _ _=Value.int .i64 (dmO ta pa[j]!.th)from mval_im _ _)) ?_;refine go ?_;refine buA pla324 ?_;refine al H ti324 fun g48 z H=> ?_;refine st H 0 ti324 fun z H=> ?_;refine G4 ?_;rcases hg:pget m2 (dmO ta pa[j]!.th,pa[j]!.es[i]!.at_)with _|v3
     ·refine yy (Y.lookupOkP rfl u323 pkk324 ti96 rfl rfl (fun _ h=>h▸(H.mp 4))) ?_;refine G1 ?_;refine yy (Yld.cast (Y.extract rfl rfl rfl) (show pval m2 (dmO ta pa[j]!.th,pa[j]!.es[i]!.at_) _=Value.agg #[.int .i64 0,.int .i64 0]from by unfold pval;rw[hg];rfl)) ?_;refine yy (Yld.cast (Y.extract rfl rfl rfl) (vb (show(pget m2 (dmO ta pa[j]!.th,pa[j]!.es[i]!.at_)).isSome=false from by rw[hg];rfl))) ?_;refine al H ti96 fun g51 z H=> ?_;refine st H 0 ti96 fun z H=> ?_;refine go ?_;refine WC.condT rfl ?_;refine G10 ?_;refine yy (Y.indexArr rfl u324 ti3 rfl rfl Dc) ?_;refine G1 ?_;refine yy (Y.indexArr rfl u324 ti3 rfl rfl Dc) ?_;refine go ?_;refine c1 H Fh (bdof_any _ _ _ _ _ _ _ _ _ _ _ (h_da.ext H.ext) (h_na.ext H.ext) Om) fun z H=> ?_;refine go ?_;refine st H 0 ti96 fun z H=> ?_;refine G7 ?_;refine sb [1,5,8,9,11,12,13,14,15,17,40,41,42,47,48,49,84] ?_;refine Cd (fun p59=> ?_) fun p59=> ?_
      ·refine go ?_;refine Rt [_,_] ?_;have e1:rwE ta da na pa=bdE da na (dmO ta pa[j]!.th) pa[j]!.es[i]!.at_:=(if_neg (not_not_intro hso)).trans (fE_ret hp (fE_ret hq rfl p59 Om) p59 Om);exact⟨_,(by rw[e1];rfl),(by rw[show rwF ta da na pa=[]from if_pos (by rw[e1];exact p59)];exact OwnL.nil_),H.ext⟩
      ·have k0:bdE da na (dmO ta pa[j]!.th) pa[j]!.es[i]!.at_=0:=Decidable.of_not_not (fun q=>q p59);refine go ?_;refine mup H 5 u323 pkk324 fun z H=> ?_;refine go ?_;refine bs1 H u101 ti107 fun g61 z H=> ?_;refine ap H 5 0 rfl [(mkT da na (dmO ta pa[j]!.th) pa[j]!.th (pa[j]!.sr+(i:Int)) pa[j]!.es[i]!)] u101 ti107 rfl Tm.one (by rw[List.length_append,rl,kl];simp only[List.length_cons,List.length_nil];omega) fun v63 z H=> ?_;refine G4 ?_;refine sb [1,5,8,9,11,40,41,42,47,48,49] ?_;refine go ?_;exact Rs [(49,_),(9,_)] Sx ⟨(i+1),v63,_,rfl,rfl,(by rw[show rwK ta da na pa[j]! (i+1)=rwK ta da na pa[j]! i++_ from rfl,←List.append_assoc];exact(H.pick [4,4,4,4,4])),Om,(hKn2.put k0),(fE_next hq k0)⟩
     ·obtain⟨k0,k1⟩:=hKn2 _ _ hg;refine yy (Y.lookupOkP rfl u323 pkk324 ti96 rfl rfl (fun _ h=>h▸(H.mp 4))) ?_;refine G1 ?_;refine yy (Yld.cast (Y.extract rfl rfl rfl) (show pval m2 (dmO ta pa[j]!.th,pa[j]!.es[i]!.at_) _=Value.agg #[.int .i64 (bdL da na (dmO ta pa[j]!.th) pa[j]!.es[i]!.at_),.int .i64 (bdH da na (dmO ta pa[j]!.th) pa[j]!.es[i]!.at_)]from by unfold pval;rw[hg];exact k1)) ?_;refine yy (Yld.cast (Y.extract rfl rfl rfl) (vb (show(pget m2 (dmO ta pa[j]!.th,pa[j]!.es[i]!.at_)).isSome=true from by rw[hg];rfl))) ?_;refine al H ti96 fun g64 z H=> ?_;refine st H 0 ti96 fun z H=> ?_;refine go ?_;refine WC.condF rfl ?_;refine go ?_;refine bs1 H u101 ti107 fun g68 z H=> ?_;refine ap H 5 0 rfl [(mkT da na (dmO ta pa[j]!.th) pa[j]!.th (pa[j]!.sr+(i:Int)) pa[j]!.es[i]!)] u101 ti107 rfl Tm.one (by rw[List.length_append,rl,kl];simp only[List.length_cons,List.length_nil];omega) fun v70 z H=> ?_;refine go ?_;exact Rs [(49,_),(9,_)] Sx ⟨(i+1),v70,m2,rfl,rfl,(by rw[show rwK ta da na pa[j]! (i+1)=rwK ta da na pa[j]! i++_ from rfl,←List.append_assoc];exact(H.pick [4,4,4,4,4])),Om,hKn2,(fE_next hq k0)⟩
    ·refine G6 ?_;refine sb [1,5,8,9,40,41,42] ?_;refine go ?_;exact Rs [(42,_),(9,_)] Sx ⟨(j+1),v2,m2,rfl,rfl,(by rw[show rwN ta da na pa (j+1)=rwN ta da na pa j++rwK ta da na pa[j]! i from by rw[show i=pa[j]!.es.length from Om];rfl];exact(H.pick [1,1,1,1])),Om,hKn2,(fE_next hp (fE_end hq Om))⟩
   ·refine go ?_;refine Rt [_,_] ?_;have e1:rwE ta da na pa=0:=(if_neg (not_not_intro hso)).trans (fE_end hp Om);exact⟨_,(by rw[e1];rfl),(by rw[show rwF ta da na pa=rwN ta da na pa j from(if_neg (not_not_intro e1)).trans (by congr 1;omega)];exact H.out 0),H.ext⟩
theorem ids_sr{l:List Pk}(hk:∀p∈l,p.es.length=p.k)(h:∀p∈l,PkOk p):∀x∈idsOf l,0≤x.sr∧x.sr≤1000000000000000:=fun x hx=>by
 obtain⟨p,hp,_,i,hi,e⟩:=idsN_mem l.length Nl hx;have o:=h p hp;have o1:=o.sr;have o2:=o.to;omega
theorem vecs_any(A_ta:Option Addr)(n_ta c_ta:Nat)(ta:List Th)(A_da:Option Addr)(n_da c_da:Nat)(da:List Dm)(A_na:Option Addr)(n_na c_na:Nat)(na:List Sn)(A_pa:Option Addr)(n_pa c_pa:Nat)(pa:List Pk)(w:World)(h_ta:Ls w A_ta n_ta c_ta Th.c 3 ta)(h_da:Ls w A_da n_da c_da Dm.c 2 da)(h_na:Ls w A_na n_na c_na Sn.c 5 na)(h_pa:Ls w A_pa n_pa c_pa Pk.c 4 pa)(g_pa:PksOk w pa)(hk:∀x∈pa,x.k≤1000000)(hl:n_pa≤1000)(ht:n_ta≤1000)(he:evsum pa pa.length≤24)(hso:soE ta da na pa=0):
  Calls Tryz.prog 163 #[.agg #[.slice A_ta n_ta c_ta,.slice A_da n_da c_da,.slice A_na n_na c_na,.slice A_pa n_pa c_pa]] w fun e w'=>∃v ns,e= .returned (.tuple #[v,.int .i64 0])∧Hp w w' [row 81 Nx.c 1 v ns,big nxF ns]∧ns.map Nx.l=veN ta pa (idsOf pa).length:=by
 have H:=(Hp.nil w);have e_ta:=h_ta.len;have z_ta:=h_ta.nle;have e_da:=h_da.len;have z_da:=h_da.nle;have e_na:=h_na.len;have z_na:=h_na.nle;have e_pa:=h_pa.len;have z_pa:=h_pa.nle;have hkl:∀p∈pa,p.es.length=p.k:=fun p hp=>(g_pa p hp).l.len;refine Wb Tryz.func163 ?_;refine go ?_;refine bx H fun g2 z H=> ?_;refine go ?_;refine c2 H Fh (ids_any _ _ _ _ _ _ _ _ _ _ _ _ _ _ _ _ _ (h_ta.ext H.ext) (h_da.ext H.ext) (h_na.ext H.ext) (h_pa.ext H.ext) (g_pa.ext H.ext) hk Om Om (Nat.le_trans he Dc)) fun v7 z H=> ?_;obtain⟨A9,n10,c11,rfl,_,_,_⟩:=H.op 0;have H:=H.nilRow 81 Nx.c 1;have H:=H.bigNil nxF;rw[idsF_ok (so_lg hso)]at H;have e_il:=(H.l 2).len;have hsr:=ids_sr hkl (lg_pkok (so_lg hso));have e_24:(idsOf pa).length≤24:=by show(idsN pa pa.length).length≤24;rw[idsN_len];exact he
 refine go ?_;refine sb [12,4,1,10,11] ?_;refine WC.loopS 2 (fun mz Ed W'=>∃i:Nat,∃v:Value,∃ns:List Nx,mz=n10-i∧Ed=[(12,.int .i64 ((i:Nat):Int)),(4,v)]∧Hp w W' (big nxF ns::row 81 Nx.c 1 v (ns)::_::_::[])∧(i≤n10)∧(ns.map Nx.l=veN ta pa i)) _ ⟨0,_,[],rfl,rfl,(H.pick [0,0,0,0]),(Nat.zero_le _),rfl⟩ ?_;rintro _ _ z ⟨i,v,ns,rfl,rfl,H,il,hn⟩;have nl:ns.length=i:=by rw[←List.length_map (f:=Nx.l),hn,veN_len]
 refine go ?_;refine Cd (fun p17=> ?_) fun p17=> ?_
 ·have b20:i<n10:=Om;refine go ?_;refine al H ti105 fun g21 z H=> ?_;refine st H 0 ti105 fun z H=> ?_;refine go ?_;refine c3 Fh (vector_any _ _ _ _ _ _ _ _ _ _ _ _ _ _ _ _ _ _ _ (h_ta.ext H.ext) (h_da.ext H.ext) (h_na.ext H.ext) (h_pa.ext H.ext) (g_pa.ext H.ext) hk Om Om he (fun _=>(posI_ok (show i<(idsOf pa).length by omega)).1) (fun _=>(posI_ok (show i<(idsOf pa).length by omega)).2.1) hsr) ?_;rintro _ z ⟨v1,rfl,ow,x⟩;have H:=H.newRow ow x;rw[show vecF ta da na pa (posI (idsOf pa) i)=veI ta pa i from if_neg (not_not_intro hso)]at H;refine⟨_,rfl,?_⟩;refine G9 ?_;refine yy (Yld.cast (Y.neq rfl rfl rfl) (vb (by rw[hso];first|done|rfl))) ?_;refine go ?_;refine WC.condF rfl ?_;obtain⟨A27,n28,c29,rfl,_,_,_⟩:=H.op 0;refine go ?_;refine bs1 H u179 ti81 fun g30 z H=> ?_;refine ap H 4 0 rfl [⟨A27,n28,c29,veI ta pa i⟩] u179 ti81 rfl Nx.one (by simp only[List.length_cons,List.length_nil];omega) fun v32 z H=> ?_;have H:=H.front [1,2];have H:Hp w _ (big nxF (ns++[⟨A27,n28,c29,veI ta pa i⟩])::_):=Hp.bigPush nxF ⟨A27,n28,c29,veI ta pa i⟩ H;refine go ?_;exact Rs [(12,_),(4,_)] Sx ⟨(i+1),v32,(ns++[⟨A27,n28,c29,veI ta pa i⟩]),rfl,rfl,(H.pick [0,2,2,2]),Om,(by rw[List.map_append,hn];rfl)⟩
 ·refine G10 ?_;refine sb [2,3] ?_;refine go ?_;refine Rt [_,_] ?_;exact⟨_,ns,rfl,(H.pick [1,0]),by rw[hn];congr 1;omega⟩
theorem A_l_noneT{α:Type}{f:α→List Value}{e:Nat}{A:Option Addr}{w:World}{n c:Nat}{l:List α}(h:A.isNone=true)(hl:Ls w A n c f e l):Ls w none n c f e l:=by cases A with|none=>exact hl|some a=>cases h
theorem ivv_any(lo hi:Int)(w:World):
  Cr 194 #[.agg #[.int .i64 lo,.int .i64 hi]] w (.bool (Iv.validB (lo,hi))):=by
 have H:=(Hp.nil w);refine Wb Tryz.func194 ?_;refine go ?_;refine bx H fun g2 z H=> ?_;refine G11 ?_;refine WL.callG rfl (blt rfl) rfl rfl rfl rfl rfl Fh (fun hb=>(evs_cons (evg rfl hb) evs_nil)) (fun hb=>NumF.in_any _ _) (fun z x=> ?_);have H:=H.ex x;refine G4 ?_;refine WL.callG rfl (blt rfl) rfl rfl rfl rfl rfl Fh (fun hb=>(evs_cons (evg rfl hb) evs_nil)) (fun hb=>NumF.in_any _ _) (fun z x=> ?_);have H:=H.ex x;refine go ?_;refine Rt [_] ?_;exact⟨rfl,H.ext⟩
theorem sol1_any(x:Tm)(w:World):
  Cr 193 #[.agg #[.int .i64 x.th,.int .i64 x.sr,.int .i64 x.at_,.int .i64 x.kd,.string x.nm,.int .i64 x.n,.int .i64 x.m,.slice x.A x.k x.c_,.int .i64 x.lo,.int .i64 x.hi]] w (.bool (!ivB x)):=by
 have H:=(Hp.nil w);refine Wb Tryz.func193 ?_;refine go ?_;refine bx H fun g2 z H=> ?_;refine go ?_;refine c1 H Fh (ivv_any _ _ _) fun z H=> ?_;refine go ?_;refine Rt [_] ?_;exact⟨rfl,H.ext⟩
theorem ixfM_any(A_l:Option Addr)(n_l c_l:Nat)(l:List Tm)(f:FuncId)(cap:List Value)(pr:Tm→Bool)(w:World)(h_l:Ls w A_l n_l c_l Tm.c 10 l)(hF:Has Tryz.prog f)(hp:∀k,k<l.length→∀w1,Ext w w1→Calls Tryz.prog f ([]++[Value.agg (Tm.c l[k]!).toArray]++cap).toArray w1 fun e w2=>e= .returned (.bool (pr l[k]!))∧Ext w1 w2):
  Cr 216 #[.slice A_l n_l c_l,.func (.func f) #[] cap.toArray] w (.int .i64 (ixP pr l)):=by
 have H:=(Hp.nil w);have e_l:=h_l.len;have z_l:=h_l.nle;refine Wb Tryz.func216 ?_;refine go ?_;refine sb [8,0,1,7] ?_;refine WC.loopS 1 (fun mz Ed W'=>∃j:Nat,mz=n_l-j∧Ed=[(8,.int .i64 ((j:Nat):Int))]∧Hp w W' ([])∧(j≤n_l)∧(∀k,k<j→pr l[k]! =false)) _ ⟨0,rfl,rfl,(H.pick []),(Nat.zero_le _),(fun k h=>absurd h (Nat.not_lt_zero k))⟩ ?_;rintro _ _ z ⟨j,rfl,rfl,H,jl,hb⟩;refine go ?_;refine Cd (fun p6=> ?_) fun p6=> ?_
 ·have b10:j<n_l:=Om;refine go ?_;refine c1V rfl H hF (hp j Om _ H.ext) fun z H=> ?_;refine go ?_;refine WC.cond rfl (fun h11=> ?_) (fun h11=> ?_)
  ·refine go ?_;refine Rt [_] ?_;exact⟨ret1 (vi (ixP_at Om hb h11).symm),H.ext⟩
  ·refine go ?_;exact Rs [(8,_)] Sx ⟨(j+1),rfl,rfl,(H.pick []),Om,(fun k h=>(Nat.lt_succ_iff_lt_or_eq.1 h).elim (hb k) fun e=>e▸h11)⟩
 ·refine go ?_;refine Rt [_] ?_;exact⟨ret1 (vi (ixP_no (fun k hk=>hb k Om)).symm),H.ext⟩
theorem cfM_any(A_l:Option Addr)(n_l c_l:Nat)(l:List Tm)(f:FuncId)(cap:List Value)(pr:Tm→Bool)(w:World)(h_l:Ls w A_l n_l c_l Tm.c 10 l)(hF:Has Tryz.prog f)(hp:∀k,k<l.length→∀w1,Ext w w1→Calls Tryz.prog f ([]++[Value.agg (Tm.c l[k]!).toArray]++cap).toArray w1 fun e w2=>e= .returned (.bool (pr l[k]!))∧Ext w1 w2):
  Cr 192 #[.slice A_l n_l c_l,.func (.func f) #[] cap.toArray] w (.bool (decide (ixP pr l≥0))):=by
 have H:=(Hp.nil w);have e_l:=h_l.len;have z_l:=h_l.nle;refine Wb Tryz.func192 ?_;refine G3 ?_;refine sb [0,1] ?_;refine go ?_;refine c1 H Fh (ixfM_any _ _ _ _ f cap pr _ (h_l.ext H.ext) hF (fun k hk w1 x1=>hp k hk w1 (H.ext.trans x1))) fun z H=> ?_;refine go ?_;refine Rt [_] ?_;exact⟨rfl,H.ext⟩
theorem cloneM_any(A_l:Option Addr)(n_l c_l:Nat)(l:List Tm)(w:World)(h_l:Ls w A_l n_l c_l Tm.c 10 l)(hn:n_l≤100000):
  Calls Tryz.prog 164 #[.slice A_l n_l c_l] w fun e w'=>∃v,e= .returned v∧OwnL w' w.heap.size 107 Tm.c 10 v (l)∧Ext w w':=by
 have H:=(Hp.nil w);have e_l:=h_l.len;have z_l:=h_l.nle;refine Wb Tryz.func164 ?_;refine G6 ?_;refine yy (Y.eqlNilS rfl u101 rfl) ?_;refine go ?_;refine WC.cond rfl (fun h4=> ?_) (fun h4=> ?_)
 ·refine go ?_;refine Rt [_] ?_;have e:l=[]:=none_nil (A_l_noneT h4 h_l);subst e;exact⟨_,rfl,OwnL.nil_,H.ext⟩
 ·refine go ?_;refine bs0 Tm.c H u101 ti107 fun v7 z H=> ?_;refine go ?_;refine apl H 0 rfl (h_l.ext H.ext) u101 ti107 Tm.one (by simp only[List.length_nil];omega) fun v9 z H=> ?_;refine go ?_;refine Rt [_] ?_;exact⟨_,rfl,H.out 0,H.ext⟩
theorem solid_any(A_l:Option Addr)(n_l c_l:Nat)(l:List Tm)(w:World)(h_l:Ls w A_l n_l c_l Tm.c 10 l):
  Cr 165 #[.slice A_l n_l c_l] w (.bool (!decide (ixP (fun x=> !ivB x) l≥0))):=by
 have H:=(Hp.nil w);have e_l:=h_l.len;have z_l:=h_l.nle;refine Wb Tryz.func165 ?_;refine go ?_;refine c1 H Fh (cfM_any _ _ _ _ 193 [] (fun x=> !ivB x) _ (h_l.ext H.ext) Fh (fun k hk w1 x1=>sol1_any l[k]! w1)) fun z H=> ?_;refine go ?_;refine Rt [_] ?_;exact⟨rfl,H.ext⟩
theorem rw_so{ths:List Th}{d:List Dm}{s:List Sn}{l:List Pk}(h:rwE ths d s l=0):soE ths d s l=0:=by
 unfold rwE at h;split at h
 ·rename_i q;exact absurd h q
 ·rename_i q;exact Decidable.of_not_not q
theorem rw_th{ths:List Th}{d:List Dm}{s:List Sn}{l:List Pk}(h:soE ths d s l=0):∀j,j≤l.length→0<(rwN ths d s l j).length→0<ths.length
 |0,_,q=>absurd q (Nat.lt_irrefl _)
 |j+1,hj,_=>by
  have:=lg_th (so_lg h) _ (mem_b (show j<l.length from hj));obtain⟨t,ht,_⟩:=List.mem_map.1 this;exact List.length_pos_of_mem ht
theorem tight_any(A_ta:Option Addr)(n_ta c_ta:Nat)(ta:List Th)(A_da:Option Addr)(n_da c_da:Nat)(da:List Dm)(A_na:Option Addr)(n_na c_na:Nat)(na:List Sn)(A_pa:Option Addr)(n_pa c_pa:Nat)(pa:List Pk)(w:World)(h_ta:Ls w A_ta n_ta c_ta Th.c 3 ta)(h_da:Ls w A_da n_da c_da Dm.c 2 da)(h_na:Ls w A_na n_na c_na Sn.c 5 na)(h_pa:Ls w A_pa n_pa c_pa Pk.c 4 pa)(g_pa:PksOk w pa)(hk:∀x∈pa,x.k≤1000000)(hl:n_pa≤1000)(ht:n_ta≤1000)(he:evsum pa pa.length≤24)(hsn:n_na≤12):
  Calls Tryz.prog 128 #[.agg #[.slice A_ta n_ta c_ta,.slice A_da n_da c_da,.slice A_na n_na c_na,.slice A_pa n_pa c_pa]] w fun e w'=>∃v,e= .returned (.tuple #[v,.int .i64 (tgE ta da na pa)])∧OwnL w' w.heap.size 107 Tm.c 10 v (tgF ta da na pa)∧Ext w w':=by
 have H:=(Hp.nil w);have e_ta:=h_ta.len;have z_ta:=h_ta.nle;have e_da:=h_da.len;have z_da:=h_da.nle;have e_na:=h_na.len;have z_na:=h_na.nle;have e_pa:=h_pa.len;have z_pa:=h_pa.nle;have hkl:∀p∈pa,p.es.length=p.k:=fun p hp=>(g_pa p hp).l.len;refine Wb Tryz.func128 ?_;refine go ?_;refine bx H fun g2 z H=> ?_;refine go ?_;refine c3 Fh (raw_any _ _ _ _ _ _ _ _ _ _ _ _ _ _ _ _ _ (h_ta.ext H.ext) (h_da.ext H.ext) (h_na.ext H.ext) (h_pa.ext H.ext) (g_pa.ext H.ext) hk Om Om he Om) ?_;rintro _ z ⟨v1,rfl,ow,x⟩;have H:=H.newRow ow x;refine⟨_,rfl,?_⟩;refine go ?_;refine Cd (fun p8=> ?_) fun p8=> ?_
 ·refine go ?_;refine Rt [_,_] ?_;have e1:tgE ta da na pa=rwE ta da na pa:=if_pos p8;exact⟨_,(by rw[e1];rfl),(by rw[show tgF ta da na pa=[]from if_pos (by rw[e1];exact p8)];exact OwnL.nil_),H.ext⟩
 ·have hrw:rwE ta da na pa=0:=Decidable.of_not_not (fun q=>q p8);have hso:=rw_so hrw;obtain⟨raw,hraw⟩:∃q,q=rwN ta da na pa pa.length:=⟨_,rfl⟩;rw[show rwF ta da na pa=raw from(if_neg (not_not_intro hrw)).trans hraw.symm]at H;have rl:raw.length≤24:=by rw[hraw,rwN_len hkl _ Nl];exact he
  have hth:0<raw.length→0<ta.length:=fun q=>rw_th hso pa.length Nl (hraw▸q);refine go ?_;refine c3 Fh (vecs_any _ _ _ _ _ _ _ _ _ _ _ _ _ _ _ _ _ (h_ta.ext H.ext) (h_da.ext H.ext) (h_na.ext H.ext) (h_pa.ext H.ext) (g_pa.ext H.ext) hk Om Om he hso) ?_;rintro _ z ⟨v2,ns,rfl,K,hns⟩;have H:=H.join K;refine⟨_,rfl,?_⟩;refine G9 ?_;refine yy (Yld.cast (Y.neq rfl rfl rfl) (vb rfl)) ?_;refine go ?_;refine WC.condF rfl ?_;refine G2 ?_;refine sb [1,4,6] ?_;refine G1 ?_;refine mm H fun g16 z H=> ?_;refine go ?_;refine sb [34,4,6,7,32,33] ?_;refine WC.loopS 1 (fun mz Ed W'=>∃j:Nat,mz=n_ta-j∧Ed=[(34,.int .i64 ((j:Nat):Int))]∧Hp w W' (mpi g16 (im (coM ta j))::_::_::_::_::[])∧(j≤n_ta)) _ ⟨0,rfl,rfl,(H.pick [0,0,0,0,0]),(Nat.zero_le _)⟩ ?_;rintro _ _ z ⟨j,rfl,rfl,H,jl⟩;refine go ?_;refine Cd (fun p22=> ?_) fun p22=> ?_
  ·have b25:j<n_ta:=Om;refine go ?_;refine al H ti68 fun g26 z H=> ?_;refine go ?_;refine st H 0 ti68 fun z H=> ?_;refine G6 ?_;refine mu H 1 u178 u3 fun z H=> ?_;refine go ?_;exact Rs [(34,_)] Sx ⟨(j+1),rfl,rfl,(by rw[show coM ta (j+1)=iset (coM ta j) ta[j]!.id (j:Int)from rfl,←mset_im];exact(H.pick [1,1,1,1,1])),Om⟩
  ·obtain⟨A29,n30,c31,rfl,_,_,_⟩:=H.op 3;refine go ?_;refine c2 H Fh (cloneM_any _ _ _ _ _ (H.l 3) Om) fun v32 z H=> ?_;obtain rfl:j=ta.length:=Om;obtain⟨A36,n37,c38,rfl,_,_,_⟩:=H.op 2;obtain⟨A39,n40,c41,rfl,_,_,_⟩:=H.op 0;have e_ns:=(H.l 2).len;obtain⟨V,hV⟩:∃q,q=veN ta pa (idsOf pa).length:=⟨_,rfl⟩;rw[←hV]at hns;have hnr:raw.length=(idsOf pa).length:=by rw[hraw,rwN_len hkl _ Nl];exact(idsN_len _).symm
   have nl:ns.length=raw.length:=by rw[←List.length_map (f:=Nx.l),hns,hV,veN_len,hnr]
   have e_raw:=(H.l 4).len;have hvl:∀i,i<ns.length→V[i]! =ns[i]!.l∧ns[i]!.l.length=ta.length:=fun i hi=>(fun e=>⟨e,by rw[←e,hV,veN_at _ _ Om];exact veI_len _ _ _⟩) (show V[i]! =ns[i]!.l from by rw[←hns,map_b Nx.l hi]);refine G8 ?_;refine sb [4,6,7,10,47,48] ?_;refine go ?_;refine sb [48,4,6,7,10,47] ?_;refine WC.loopS 1 (fun mz Ed W'=>∃i:Nat,mz=n30-i∧Ed=[(48,.int .i64 ((i:Nat):Int))]∧Hp w W' (row 107 Tm.c 10 (.slice A39 n40 c41) (tgN V ta raw i)::_::_::_::_::_::[])∧(i≤n30)) _ ⟨0,rfl,rfl,(H.pick [0,0,0,0,0,0]),(Nat.zero_le _)⟩ ?_;rintro _ _ z ⟨i,rfl,rfl,H,il⟩;have tl:=tgN_len V ta raw i;refine go ?_;refine Cd (fun p44=> ?_) fun p44=> ?_
   ·refine go ?_;refine sb [53,4,6,7,10,11,47,48,52] ?_;refine WC.loopS 1 (fun mz Ed W'=>∃k:Nat,mz=n30-k∧Ed=[(53,.int .i64 ((k:Nat):Int))]∧Hp w W' (row 107 Tm.c 10 (.slice A39 n40 c41) (tgI V ta raw i (tgN V ta raw i) k)::_::_::_::_::_::[])∧(k≤n30)) _ ⟨0,rfl,rfl,(H.pick [0,0,0,0,0,0]),(Nat.zero_le _)⟩ ?_;rintro _ _ z ⟨k,rfl,rfl,H,kl⟩;have tl2:=tgI_len V ta raw i (tgN V ta raw i) k;refine go ?_;refine Cd (fun p50=> ?_) fun p50=> ?_
    ·obtain⟨hv1,hv2⟩:=hvl i Om;have hco:=coO_rng (hth Om) raw[k]!.th;have hv3:=(nx_ls (H.get (k:=3) rfl) _ (mem_b (show i<ns.length from Om))).len;refine go ?_;refine Qr ?_;have b54:i<n37:=Om;have b55:k<n30:=Om;refine G11 ?_;refine yq (Yld.cast (Y.lookup rfl u178 u3 ti3 rfl rfl (fun _ h=>Mp.ext (H.mi 1) h)) (show mval _ _ _=Value.int .i64 (coO ta raw[k]!.th)from mval_im _ _)) ?_;have b56:(coO ta raw[k]!.th).toNat<ns[i]!.n:=Om;refine yq (Y.indexLs (coO ta raw[k]!.th).toNat (nx_ls (H.get (k:=3) rfl) _ (mem_b (show i<ns.length from Om))) rfl u81 ti3 rfl rfl Om b56) ?_;refine yq (ld rfl u3 rfl (Ls.at_ext (nx_ls (H.get (k:=3) rfl) _ (mem_b (show i<ns.length from Om))) b56 rfl)) ?_;have b57:k<n30:=Om;refine go ?_;refine Qd H fun z H=> ?_;refine go ?_;refine Cd (fun p58=> ?_) fun p58=> ?_
     ·refine go ?_;refine WC.regionT 18 (by kernel_rfl) (by kernel_rfl) ?_;have b60:i<n40:=Om;have b61:k<n30:=Om;have b62:i<n40:=Om;refine go ?_;refine WQ.tail (fun z x=> ?_);have H:=H.ex x;refine ste H 0 rfl (tgL (tgI V ta raw i (tgN V ta raw i) k)[i]! (max (tgI V ta raw i (tgN V ta raw i) k)[i]!.lo raw[k]!.lo)) b62 ti3 rfl fun z H=> ?_;refine G1 ?_;refine sb [4,6,7,10,11,12,47,48,52,53] ?_;refine WC.regionT 18 (by kernel_rfl) (by kernel_rfl) ?_;have b63:k<n40:=Om;have b64:i<n30:=Om;have b65:k<n40:=Om;refine go ?_;refine WQ.tail (fun z x=> ?_);have H:=H.ex x;refine ste H 0 rfl (tgH ((tgI V ta raw i (tgN V ta raw i) k).set i (tgL (tgI V ta raw i (tgN V ta raw i) k)[i]! (max (tgI V ta raw i (tgN V ta raw i) k)[i]!.lo raw[k]!.lo)))[k]! (min ((tgI V ta raw i (tgN V ta raw i) k).set i (tgL (tgI V ta raw i (tgN V ta raw i) k)[i]! (max (tgI V ta raw i (tgN V ta raw i) k)[i]!.lo raw[k]!.lo)))[k]!.hi raw[i]!.hi)) b65 ti3 rfl fun z H=> ?_;refine go ?_;exact Rs [(53,_)] Sx ⟨(k+1),rfl,rfl,(by rw[show tgI V ta raw i (tgN V ta raw i) (k+1)=_ from if_pos (decide_eq_true (show V[i]![(coO ta raw[k]!.th).toNat]! >raw[k]!.sr from by rw[hv1];exact p58))];exact(H.pick [0,0,0,0,0,0])),Om⟩
     ·refine go ?_;exact Rs [(53,_)] Sx ⟨(k+1),rfl,rfl,(by rw[show tgI V ta raw i (tgN V ta raw i) (k+1)=_ from if_neg (fun q=>(show¬(V[i]![(coO ta raw[k]!.th).toNat]! >raw[k]!.sr)from by rw[hv1];exact p58) (of_decide_eq_true q))];exact(H.pick [0,0,0,0,0,0])),Om⟩
    ·refine G6 ?_;refine sb [4,6,7,10,47,48] ?_;refine go ?_;exact Rs [(48,_)] Sx ⟨(i+1),rfl,rfl,(by rw[show tgN V ta raw (i+1)=tgI V ta raw i (tgN V ta raw i) k from by rw[show k=raw.length from Om];rfl];exact(H.pick [0,0,0,0,0,0])),Om⟩
   ·refine go ?_;refine c1 H Fh (solid_any _ _ _ _ _ (H.l 0)) fun z H=> ?_;refine go ?_;refine Cd (fun p68=> ?_) fun p68=> ?_
    ·refine go ?_;refine Rt [_,_] ?_;have eX:tgX ta da na pa=(tgN V ta raw i):=by unfold tgX;rw[←hraw,←hV,show raw.length=i from Om]
     have e1:tgE ta da na pa=13:=(if_neg (not_not_intro hrw)).trans (if_pos (by rw[eX];exact p68));exact⟨_,(by rw[e1];rfl),(by rw[show tgF ta da na pa=[]from if_pos (by rw[e1];decide)];exact OwnL.nil_),H.ext⟩
    ·refine go ?_;refine Rt [_,_] ?_;have eX:tgX ta da na pa=(tgN V ta raw i):=by unfold tgX;rw[←hraw,←hV,show raw.length=i from Om]
     have e1:tgE ta da na pa=0:=(if_neg (not_not_intro hrw)).trans (if_neg (by rw[eX];exact p68));exact⟨_,(by rw[e1];rfl),(by rw[show tgF ta da na pa=(tgN V ta raw i)from(if_neg (not_not_intro e1)).trans eX];exact H.out 0),H.ext⟩
def tmI(x:Tm):Ix:=⟨x.th,x.sr⟩
theorem set_same_map{α β:Type}[Inhabited α](f:α→β)(o:List α)(i:Nat)(y:α)(h:f y=f o[i]!):(o.set i y).map f=o.map f:=by
 rw[List.map_set,h];by_cases q:i<o.length
 ·rw[getElem!_pos o i q,←List.getElem_map f (h:=by grind),List.set_getElem_self]
 grind [List.set_eq_of_length_le,Nat.le_of_not_lt]
theorem tg1_map{β:Type}(f:Tm→β)(h1:∀x m,f (tgL x m)=f x)(h2:∀x m,f (tgH x m)=f x)(c:Bool)(raw:List Tm)(i:Nat)(o:List Tm)(k:Nat):(tg1 c raw i o k).map f=o.map f:=by
 grind [tg1,set_same_map]
theorem tgI_map{β:Type}(f:Tm→β)(h1:∀x m,f (tgL x m)=f x)(h2:∀x m,f (tgH x m)=f x)(V:List (List Int))(ths:List Th)(raw:List Tm)(i:Nat)(o:List Tm):∀k,(tgI V ths raw i o k).map f=o.map f
 |0=>rfl
 |k+1=>(tg1_map f h1 h2 _ _ _ _ _).trans (tgI_map f h1 h2 V ths raw i o k)
theorem tgN_map{β:Type}(f:Tm→β)(h1:∀x m,f (tgL x m)=f x)(h2:∀x m,f (tgH x m)=f x)(V:List (List Int))(ths:List Th)(raw:List Tm):∀i,(tgN V ths raw i).map f=raw.map f
 |0=>rfl
 |i+1=>(tgI_map f h1 h2 _ _ _ _ _ _).trans (tgN_map f h1 h2 V ths raw i)
theorem rwK_ids(ths:List Th)(d:List Dm)(s:List Sn)(p:Pk):∀k,(rwK ths d s p k).map tmI=idsK p k
 |0=>rfl
 |k+1=>by
  rw[idsK_next,←rwK_ids ths d s p k];show(rwK ths d s p k++[_]).map tmI=_;rw[List.map_append];rfl
theorem rwN_ids{ths:List Th}{d:List Dm}{s:List Sn}{l:List Pk}(h:∀p∈l,p.es.length=p.k):∀j,j≤l.length→(rwN ths d s l j).map tmI=idsN l j
 |0,_=>rfl
 |j+1,hj=>by
  show(rwN ths d s l j++rwK ths d s l[j]! l[j]!.es.length).map tmI=_;rw[List.map_append,rwN_ids h j Om,rwK_ids,idsN_next,h _ (mem_b hj)]
theorem tgX_ids{ths:List Th}{d:List Dm}{s:List Sn}{l:List Pk}(h:∀p∈l,p.es.length=p.k):(tgX ths d s l).map tmI=idsOf l:=
 (tgN_map tmI (fun _ _=>rfl) (fun _ _=>rfl) _ _ _ _).trans (rwN_ids h _ Nl)
theorem tgX_len{ths:List Th}{d:List Dm}{s:List Sn}{l:List Pk}(h:∀p∈l,p.es.length=p.k):(tgX ths d s l).length=(idsOf l).length:=by rw[←tgX_ids (ths:=ths) (d:=d) (s:=s) h,List.length_map]
theorem tgX_at{ths:List Th}{d:List Dm}{s:List Sn}{l:List Pk}(h:∀p∈l,p.es.length=p.k){i:Nat}(hi:i<(idsOf l).length):(idsOf l)[i]! =⟨(tgX ths d s l)[i]!.th,(tgX ths d s l)[i]!.sr⟩:=by
 grind [tgX_ids,map_b,tmI,tgX_len]
section
variable(C:Int→Int)(X:List Tm)(V:List (List Int))
def wq1(W:List (List Int))(k:Nat):List (List Int):=W.set (C X[k]!.th).toNat (W[(C X[k]!.th).toNat]! ++[(k:Int)])
def wqN(n:Nat):Nat→List (List Int)
 |0=>List.replicate n []
 |k+1=>wq1 C X (wqN n k) k
def blk1(W:List (List Int))(i c:Nat):Int:=if((c:Int)≠C X[i]!.th∧(W[c]!.length:Int)>0)∧X[W[c]![0]!.toNat]!.sr<V[i]![c]! then 1 else 0
def frB(W:List (List Int))(i:Nat):Bool:=decide (fE (blk1 C X V W i) W.length=0)
def be1(W:List (List Int))(b:Int)(c:Nat):Int:=if((W[c]!.length:Int)>0∧frB C X V W W[c]![0]!.toNat=true)∧(b<0∨X[W[c]![0]!.toNat]!.lo<X[W[b.toNat]![0]!.toNat]!.lo)then(c:Int)else b
def beN(W:List (List Int)):Nat→Int
 |0=> -1
 |c+1=>be1 C X V W (beN W c) c
def beF(W:List (List Int)):Int:=beN C X V W W.length
def orR:Nat→List (List Int)→List Tm→Option (List Tm)
 |0,_,out=>some out
 |k+1,W,out=>if beF C X V W<0 then none else orR k (W.set (beF C X V W).toNat (W[(beF C X V W).toNat]!.drop 1)) (out++[X[W[(beF C X V W).toNat]![0]!.toNat]!])
end
structure OrOk(W:List (List Int))(n m:Nat):Prop where
 l:W.length=n
 e:∀q∈W,∀x∈q,0≤x∧x<(m:Int)
theorem OrOk.at_{W:List (List Int)}{n m c:Nat}(h:OrOk W n m)(hc:c<W.length)(h0:0<W[c]!.length):0≤W[c]![0]!∧W[c]![0]! <(m:Int):=h.e _ (mem_b hc) _ (mem_b h0)
theorem OrOk.set{W:List (List Int)}{n m c:Nat}{q:List Int}(h:OrOk W n m)(hq:∀x∈q,0≤x∧x<(m:Int)):OrOk (W.set c q) n m:=
 ⟨by rw[List.length_set];exact h.l,fun y hy x hx=>by
  rcases List.mem_or_eq_of_mem_set hy with r|rfl
  ·exact h.e y r x hx
  grind⟩
theorem wqN_ok{C:Int→Int}{X:List Tm}{n:Nat}:∀k,k≤X.length→OrOk (wqN C X n k) n X.length∧∀q∈wqN C X n k,q.length≤k
 |0,_=>⟨⟨List.length_replicate,fun q hq x hx=>by rw[(List.mem_replicate.1 hq).2]at hx;cases hx⟩,fun q hq=>by rw[(List.mem_replicate.1 hq).2];grind⟩
 |k+1,hk=>by
  obtain⟨a,b⟩:=wqN_ok (C:=C) (X:=X) (n:=n) k Om;show OrOk (wq1 C X (wqN C X n k) k) n X.length∧_;refine⟨a.set fun x hx=> ?_,fun q hq=> ?_⟩
  ·rcases List.mem_append.1 hx with r|r
   ·by_cases hc:(C X[k]!.th).toNat<(wqN C X n k).length
    ·exact a.e _ (mem_b hc) x r
    ·rw[List.getElem!_eq_getElem?_getD,List.getElem?_eq_none Om]at r;cases r
   grind
  ·have hq':q∈(wqN C X n k).set (C X[k]!.th).toNat ((wqN C X n k)[(C X[k]!.th).toNat]! ++[(k:Int)]):=hq;rcases List.mem_or_eq_of_mem_set hq' with r|rfl
   ·grind
   ·rw[List.length_append];by_cases hc:(C X[k]!.th).toNat<(wqN C X n k).length
    ·grind
    ·rw[List.getElem!_eq_getElem?_getD,List.getElem?_eq_none Om];show 0+1≤k+1;omega
theorem beN_rng{C:Int→Int}{X:List Tm}{V W:List (List Int)}:∀c,-1≤beN C X V W c∧beN C X V W c<(c:Int)∧(0≤beN C X V W c→0<W[(beN C X V W c).toNat]!.length)
 |0=>⟨Int.le_refl _,by show(-1:Int)<0;decide,fun h=>absurd h (by show¬(0:Int)≤-1;decide)⟩
 |c+1=>by
  obtain⟨h1,h2,h3⟩:=beN_rng (C:=C) (X:=X) (V:=V) (W:=W) c;rw[show beN C X V W (c+1)=be1 C X V W (beN C X V W c) c from rfl];unfold be1;grind
theorem orR_step{C:Int→Int}{X:List Tm}{V W:List (List Int)}{out:List Tm}{k:Nat}(hk:1≤k)(h:¬beF C X V W<0):orR C X V k W out=orR C X V (k-1) (W.set (beF C X V W).toNat (W[(beF C X V W).toNat]!.drop 1)) (out++[X[W[(beF C X V W).toNat]![0]!.toNat]!]):=by
 obtain⟨g,rfl⟩:∃g,k=g+1:=⟨k-1,Om⟩;exact if_neg h
theorem orR_bad{C:Int→Int}{X:List Tm}{V W:List (List Int)}{out:List Tm}{k:Nat}(hk:1≤k)(h:beF C X V W<0):orR C X V k W out=none:=by
 obtain⟨g,rfl⟩:∃g,k=g+1:=⟨k-1,Om⟩;exact if_pos h
def orO(ths:List Th)(d:List Dm)(s:List Sn)(l:List Pk):Option (List Tm):=orR (coO ths) (tgX ths d s l) (veN ths l (idsOf l).length) (tgX ths d s l).length (wqN (coO ths) (tgX ths d s l) ths.length (tgX ths d s l).length) []
def orE(ths:List Th)(d:List Dm)(s:List Sn)(l:List Pk):Int:=if tgE ths d s l≠0 then tgE ths d s l else if orO ths d s l=none then 13 else 0
def orL(ths:List Th)(d:List Dm)(s:List Sn)(l:List Pk):List Tm:=if orE ths d s l≠0 then[]else(orO ths d s l).getD []
def nqF(x:Nx):List Res:=[rowq ic 1 (.slice x.A x.n x.cp) x.l]
theorem big_q{W w:World}:∀{l:List Nx} {M:List Res},Hp W w (big nxF l::M)→Hp W w (big nqF l::M):=by
 have key:∀(l:List Nx) (M:List Res),Hp W w (l.flatMap nxF++M)→Hp W w (l.flatMap nqF++M):=by
  intro l
  induction l with
  |nil=>exact fun M h=>h
  |cons x r ih=>
   intro M h;have h1:Hp W w (row 3 ic 1 (.slice x.A x.n x.cp) x.l::(r.flatMap nxF++M)):=h;have h2:=h1.toq 0;have h3:=ih (rowq ic 1 (.slice x.A x.n x.cp) x.l::M) (h2.perm List.perm_middle.symm);exact h3.perm List.perm_middle
 exact fun{l M} h=>(key l M h.unstar).restar
theorem nq_ls{w:World}{ns:List Nx}(h:(big nqF ns).holds w):∀y∈ns,Ls w y.A y.n y.cp ic 1 y.l:=fun y hy=>by
 have h1:(rowq ic 1 (.slice y.A y.n y.cp) y.l).holds w:=h.1 _ (List.mem_flatMap.2 ⟨y,hy,List.mem_singleton.2 rfl⟩);exact OwnQ.ls h1 (fun _=>rfl)
theorem tg_rw{ths:List Th}{d:List Dm}{s:List Sn}{l:List Pk}(h:tgE ths d s l=0):rwE ths d s l=0:=by
 unfold tgE at h;split at h
 ·rename_i q;exact absurd h q
 ·rename_i q;exact Decidable.of_not_not q
theorem know_any(A_ta:Option Addr)(n_ta c_ta:Nat)(ta:List Th)(A_da:Option Addr)(n_da c_da:Nat)(da:List Dm)(A_na:Option Addr)(n_na c_na:Nat)(na:List Sn)(A_pa:Option Addr)(n_pa c_pa:Nat)(pa:List Pk)(w:World)(h_ta:Ls w A_ta n_ta c_ta Th.c 3 ta)(h_da:Ls w A_da n_da c_da Dm.c 2 da)(h_na:Ls w A_na n_na c_na Sn.c 5 na)(h_pa:Ls w A_pa n_pa c_pa Pk.c 4 pa)(g_pa:PksOk w pa)(hk:∀x∈pa,x.k≤1000000)(hl:n_pa≤1000)(ht:n_ta≤1000)(he:evsum pa pa.length≤24)(hsn:n_na≤12):
  Calls Tryz.prog 73 #[.agg #[.slice A_ta n_ta c_ta,.slice A_da n_da c_da,.slice A_na n_na c_na,.slice A_pa n_pa c_pa]] w fun e w'=>∃kv,e= .returned (.tuple #[kv,.int .i64 (tgE ta da na pa)])∧Ext w w'∧(tgE ta da na pa≠0→kv= .agg #[.map none,.slice none 0 0,.slice none 0 0])∧(tgE ta da na pa=0→∃g v1 v2 ns,kv= .agg #[.map (some g),v1,v2]∧Hp w w' [mpi g (im (coM ta ta.length)),row 107 Tm.c 10 v1 (tgX ta da na pa),row 81 Nx.c 1 v2 ns,big nxF ns]∧ns.map Nx.l=veN ta pa (idsOf pa).length):=by
 have H:=(Hp.nil w);have e_ta:=h_ta.len;have z_ta:=h_ta.nle;have e_da:=h_da.len;have z_da:=h_da.nle;have e_na:=h_na.len;have z_na:=h_na.nle;have e_pa:=h_pa.len;have z_pa:=h_pa.nle;have hkl:∀p∈pa,p.es.length=p.k:=fun p hp=>(g_pa p hp).l.len;refine Wb Tryz.func73 ?_;refine go ?_;refine bx H fun g2 z H=> ?_;refine al H ti181 fun g4 z H=> ?_;refine G3 ?_;refine mm H fun g7 z H=> ?_;refine go ?_;refine al H ti181 fun g9 z H=> ?_;refine st H 0 ti181 fun z H=> ?_;refine go ?_;refine c3 Fh (tight_any _ _ _ _ _ _ _ _ _ _ _ _ _ _ _ _ _ (h_ta.ext H.ext) (h_da.ext H.ext) (h_na.ext H.ext) (h_pa.ext H.ext) (g_pa.ext H.ext) hk Om Om he Om) ?_;rintro _ z ⟨v1,rfl,ow,x⟩;have H:=H.newRow ow x;refine⟨_,rfl,?_⟩;obtain⟨A15,n16,c17,rfl,_,_,_⟩:=H.op 0;refine go ?_;refine st H 1 ti101 fun z H=> ?_;refine go ?_;refine Cd (fun p19=> ?_) fun p19=> ?_
 ·refine go ?_;refine st H 3 ti181 fun z H=> ?_;refine go ?_;refine WK.ret [_,_] rfl ⟨⟨_,rfl,run_loadVar_blk u181 rfl ti181 (H.b 3)⟩,rfl,trivial⟩ ?_;exact⟨_,rfl,H.ext,fun _=>rfl,fun q=>absurd q p19⟩
 ·have htg:tgE ta da na pa=0:=Decidable.of_not_not (fun q=>q p19);have hso:=rw_so (tg_rw htg);obtain⟨X,hX⟩:∃q,q=tgX ta da na pa:=⟨_,rfl⟩;rw[show tgF ta da na pa=X from(if_neg (not_not_intro htg)).trans hX.symm]at H;have hXl:X.length=(idsOf pa).length:=by rw[hX];exact tgX_len hkl
  have e_24:(idsOf pa).length≤24:=by show(idsN pa pa.length).length≤24;rw[idsN_len];exact he
  have hsr:=ids_sr hkl (lg_pkok (so_lg hso));have hXa:∀i,i<(idsOf pa).length→(idsOf pa)[i]! =⟨X[i]!.th,X[i]!.sr⟩:=fun i hi=>by rw[hX];exact tgX_at hkl hi
  refine go ?_;refine sb [28,1,2,4,26,27] ?_;refine WC.loopS 1 (fun mz Ed W'=>∃j:Nat,mz=n_ta-j∧Ed=[(28,.int .i64 ((j:Nat):Int))]∧Hp w W' (_::_::mpi g7 (im (coM ta j))::_::_::[])∧(j≤n_ta)) _ ⟨0,rfl,rfl,(H.pick [0,0,0,0,0]),(Nat.zero_le _)⟩ ?_;rintro _ _ z ⟨j,rfl,rfl,H,jl⟩;refine go ?_;refine Cd (fun p25=> ?_) fun p25=> ?_
  ·have b28:j<n_ta:=Om;refine go ?_;refine al H ti68 fun g29 z H=> ?_;refine go ?_;refine st H 0 ti68 fun z H=> ?_;refine G7 ?_;refine mu H 3 u178 u3 fun z H=> ?_;refine go ?_;exact Rs [(28,_)] Sx ⟨(j+1),rfl,rfl,(by rw[show coM ta (j+1)=iset (coM ta j) ta[j]!.id (j:Int)from rfl,←mset_im];exact(H.pick [1,1,1,1,1])),Om⟩
  ·obtain rfl:j=ta.length:=Om;have H:=H.nilRow 81 Nx.c 1;have H:=H.bigNil nxF;have e_X:=(H.l 2).len;refine go ?_;refine sb [42,1,2,4,40,41] ?_;refine WC.loopS 1 (fun mz Ed W'=>∃i:Nat,∃v:Value,∃ns:List Nx,mz=n16-i∧Ed=[(42,.int .i64 ((i:Nat):Int))]∧Hp w W' (big nxF ns::row 81 Nx.c 1 v (ns)::_::box g9 181 [.map (some g7),(.slice A15 n16 c17),v]::_::_::_::[])∧(i≤n16)∧(ns.map Nx.l=veN ta pa i)) _ ⟨0,_,[],rfl,rfl,(H.pick [0,0,0,0,0,0,0]),(Nat.zero_le _),rfl⟩ ?_;rintro _ _ z ⟨i,v,ns,rfl,rfl,H,il,hn⟩;have nl:ns.length=i:=by rw[←List.length_map (f:=Nx.l),hn,veN_len]
   refine go ?_;refine Cd (fun p37=> ?_) fun p37=> ?_
   ·have b40:i<n16:=Om;refine go ?_;refine al H ti107 fun g41 z H=> ?_;refine st H 0 ti107 fun z H=> ?_;refine go ?_;refine c3 Fh (vector_any _ _ _ _ _ _ _ _ _ _ _ _ _ _ _ _ ⟨X[i]!.th,X[i]!.sr⟩ _ _ (h_ta.ext H.ext) (h_da.ext H.ext) (h_na.ext H.ext) (h_pa.ext H.ext) (g_pa.ext H.ext) hk Om Om he (fun _=>by have q:=(posI_ok (show i<(idsOf pa).length by omega)).1;rw[hXa i Om]at q;exact q) (fun _=>(posI_ok (show i<(idsOf pa).length by omega)).2.1) hsr) ?_;rintro _ z ⟨v1,rfl,ow,x⟩;have H:=H.newRow ow x;rw[show vecF ta da na pa (posI (idsOf pa) i)=veI ta pa i from if_neg (not_not_intro hso)]at H;refine⟨_,rfl,?_⟩;refine G9 ?_;refine yy (Yld.cast (Y.neq rfl rfl rfl) (vb (by rw[hso];first|done|rfl))) ?_;refine go ?_;refine WC.condF rfl ?_;obtain⟨A47,n48,c49,rfl,_,_,_⟩:=H.op 0;refine go ?_;refine bs1 H u179 ti81 fun g50 z H=> ?_;refine ap H 4 0 rfl [⟨A47,n48,c49,veI ta pa i⟩] u179 ti81 rfl Nx.one (by simp only[List.length_cons,List.length_nil];omega) fun v52 z H=> ?_;obtain⟨A53,n54,c55,rfl,_,_,_⟩:=H.op 4;refine go ?_;refine st H 6 ti179 fun z H=> ?_;have H:=H.front [1,2];have H:Hp w _ (big nxF (ns++[⟨A47,n48,c49,veI ta pa i⟩])::_):=Hp.bigPush nxF ⟨A47,n48,c49,veI ta pa i⟩ H;refine go ?_;exact Rs [(42,_)] Sx ⟨(i+1),(.slice A53 n54 c55),(ns++[⟨A47,n48,c49,veI ta pa i⟩]),rfl,rfl,(H.pick [0,2,2,2,2,2,2]),Om,(by rw[List.map_append,hn];rfl)⟩
   ·obtain⟨A57,n58,c59,rfl,_,_,_⟩:=H.op 1;refine G5 ?_;refine sb [2,4] ?_;refine go ?_;refine st H 5 ti181 fun z H=> ?_;refine go ?_;refine WK.ret [_,_] rfl ⟨⟨_,rfl,run_loadVar_blk u181 rfl ti181 (H.b 5)⟩,rfl,trivial⟩ ?_;exact⟨_,(by rw[htg];rfl),H.ext,fun q=>absurd htg q,fun _=>⟨g7,(.slice A15 n16 c17),_,ns,rfl,(by rw[←hX];exact(H.pick [4,2,1,0])),by rw[hn];congr 1;omega⟩⟩
theorem free_any(i:Int)(g1 g2 gm:Nat)(A1 A2 A3:Option Addr)(n1 c1 n2 c2 n3 c3:Nat)(ta:List Th)(X:List Tm)(ns ws:List Nx)(w:World)(hb1:Blk w g1 179 [.slice A1 n1 c1])(hw1:Ls w A1 n1 c1 Nx.c 1 ws)(hw2:∀y∈ws,Ls w y.A y.n y.cp ic 1 y.l)(hb2:Blk w g2 181 [.map (some gm),.slice A2 n2 c2,.slice A3 n3 c3])(hm:Mp w gm (im (coM ta ta.length)))(hx:Ls w A2 n2 c2 Tm.c 10 X)(hv1:Ls w A3 n3 c3 Nx.c 1 ns)(hv2:∀y∈ns,Ls w y.A y.n y.cp ic 1 y.l)(hi:0≤i∧i.toNat<X.length)(hok:OrOk (ws.map Nx.l) ta.length X.length)(hvl:∀y∈ns,y.l.length=ta.length)(hnl:ns.length=X.length)(hth:0<ta.length):
  Cr 74 #[.int .i64 i,.pointer (some ⟨g1,0,none⟩),.pointer (some ⟨g2,0,none⟩)] w (.bool (frB (coO ta) X (ns.map Nx.l) (ws.map Nx.l) i.toNat)):=by
 have H:=(Hp.nil w);have e1:=hw1.len;have z1:=hw1.nle;have e2:=hx.len;have e3:=hv1.len;have e4:ws.length=ta.length:=by rw[←List.length_map (f:=Nx.l)];exact hok.l
 have hco:=coO_rng hth X[i.toNat]!.th;refine Wb Tryz.func74 ?_;refine go ?_;refine sb [9,0,2,7,8] ?_;refine WC.loopS 1 (fun mz Ed W'=>∃j:Nat,mz=n1-j∧Ed=[(9,.int .i64 ((j:Nat):Int))]∧Hp w W' ([])∧(j≤n1)∧(fE (blk1 (coO ta) X (ns.map Nx.l) (ws.map Nx.l) i.toNat) j=0)) _ ⟨0,rfl,rfl,(H.pick []),(Nat.zero_le _),rfl⟩ ?_;rintro _ _ z ⟨j,rfl,rfl,H,jl,hp⟩;refine go ?_;refine Cd (fun p6=> ?_) fun p6=> ?_
 ·have b9:j<n1:=Om;have eW:(ws.map Nx.l)[j]! =ws[j]!.l:=map_b Nx.l Om;have eWl:=(hw2 _ (mem_b (show j<ws.length from Om))).len;have eV:(ns.map Nx.l)[i.toNat]! =ns[i.toNat]!.l:=map_b Nx.l Om;have eVl:=(hv2 _ (mem_b (show i.toNat<ns.length from Om))).len;have eV2:=hvl _ (mem_b (show i.toNat<ns.length from Om));have hwr:0<ws[j]!.n→0≤ws[j]!.l[0]!∧ws[j]!.l[0]! <(X.length:Int):=fun q=>by have r:=hok.at_ (c:=j) (by rw[List.length_map];omega) (by rw[eW];omega);rw[eW]at r;exact r
  refine go ?_;refine Qr ?_;have b11:i.toNat<n2:=Om;refine G6 ?_;refine yq (Y.indexLs i.toNat (hx.ext H.ext) rfl u101 ti107 rfl rfl Om b11) ?_;refine G3 ?_;refine yq (Yld.cast (Y.lookup rfl u178 u3 ti3 rfl rfl (fun _ h=>Mp.ext (hm.ext H.ext) h)) (show mval _ _ _=Value.int .i64 (coO ta X[i.toNat]!.th)from mval_im _ _)) ?_;refine G10 ?_;refine qg (fun hb=>Y.indexLs 0 ((hw2 _ (mem_b (show j<ws.length from Om))).ext H.ext) rfl u81 ti3 (evg rfl hb) rfl rfl (by have q0:=(And.intro (eq_f (not_t (and_t hb).1)) (dec_t (and_t hb).2));omega)) ?_;refine qg (fun hb=>Y.load1 rfl u3 rfl (evg rfl hb) (Ls.at_ext ((hw2 _ (mem_b (show j<ws.length from Om))).ext H.ext) (by have q0:=(And.intro (eq_f (not_t (and_t hb).1)) (dec_t (and_t hb).2));omega) rfl)) ?_;refine qg (fun hb=>Y.indexLs ws[j]!.l[0]!.toNat (hx.ext H.ext) rfl u101 ti107 (evg rfl hb) (evg rfl hb) (by have q0:=(And.intro (eq_f (not_t (and_t hb).1)) (dec_t (and_t hb).2));omega) (by have q0:=(And.intro (eq_f (not_t (and_t hb).1)) (dec_t (and_t hb).2));omega)) ?_;refine G6 ?_;refine qg (fun hb=>Y.indexLs i.toNat (hv1.ext H.ext) rfl u179 ti81 (evg rfl hb) (evg rfl hb) (by have q0:=(And.intro (eq_f (not_t (and_t hb).1)) (dec_t (and_t hb).2));omega) (by have q0:=(And.intro (eq_f (not_t (and_t hb).1)) (dec_t (and_t hb).2));omega)) ?_;refine G2 ?_;refine qg (fun hb=>Y.indexLs j ((hv2 _ (mem_b (show i.toNat<ns.length from Om))).ext H.ext) rfl u81 ti3 (evg rfl hb) (evg rfl hb) rfl (by have q0:=(And.intro (eq_f (not_t (and_t hb).1)) (dec_t (and_t hb).2));omega)) ?_;refine qg (fun hb=>Y.load1 rfl u3 rfl (evg rfl hb) (Ls.at_ext ((hv2 _ (mem_b (show i.toNat<ns.length from Om))).ext H.ext) (by have q0:=(And.intro (eq_f (not_t (and_t hb).1)) (dec_t (and_t hb).2));omega) rfl)) ?_;refine go ?_;refine Qd H fun z H=> ?_;refine G1 ?_;refine sb [0,2,7,8,9,50] ?_;refine Cd (fun p12=> ?_) fun p12=> ?_
  ·refine go ?_;refine Rt [_] ?_;exact⟨ret1 (vb (Eq.symm (decide_eq_false (fun q=>absurd (fE_ok.1 q j (by rw[List.length_map];omega)) (by rw[show blk1 (coO ta) X (ns.map Nx.l) (ws.map Nx.l) i.toNat j=1 from if_pos (by rw[eW,eV,eWl];exact p12)];decide))))),H.ext⟩
  ·refine go ?_;exact Rs [(9,_)] Sx ⟨(j+1),rfl,rfl,(H.pick []),Om,(fE_next hp (if_neg (by show¬(((j:Int)≠coO ta X[i.toNat]!.th∧((ws.map Nx.l)[j]!.length:Int)>0)∧X[(ws.map Nx.l)[j]![0]!.toNat]!.sr<(ns.map Nx.l)[i.toNat]![j]!);rw[eW,eV,eWl];exact(fun q=>p12.elim (fun h=>(fun q=>h.elim (fun h=>(fun q=>q h) q.1) (fun h=>h q.2)) q.1) (fun h=>h q.2)))))⟩
 ·refine go ?_;refine Rt [_] ?_;exact⟨ret1 (vb (Eq.symm (decide_eq_true (by rw[List.length_map,show ws.length=j from Om];exact hp)))),H.ext⟩
end TW
end Go.Proofs.YtaclfjjipnpboaaGreatDoor
end
