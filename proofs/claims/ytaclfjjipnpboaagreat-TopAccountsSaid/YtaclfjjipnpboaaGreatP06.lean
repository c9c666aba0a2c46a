/- Part 6 of the proof. Conditions: what each theorem states. -/
import Derived.Test.YtaclfjjipnpboaaGreatP04
import Derived.Test.YtaclfjjipnpboaaGreatP01
import Derived.Test.YtaclfjjipnpboaaGreatP05
set_option linter.all false
set_option maxHeartbeats 4000000
set_option maxRecDepth 4000
section
attribute [local irreducible] Go.Eng.WC Go.Eng.WL Go.Eng.WK Go.Eng.WQ Go.Eng.WX Go.Eng.Yld
namespace Go.Proofs.YtaclfjjipnpboaaGreat
open Go Go.Eng Go.RowKit
namespace TW
theorem eqg134:Tryz.prog.eqGuardType Tryz.prog.depth 134=false:=by kernel_rfl
theorem eq134(a0:Int)(a1:Int)(b0:Int)(b1:Int)(w:World):(Op.equalIn 10000 134 (.agg #[.int .i64 a0,.int .i64 a1]) (.agg #[.int .i64 b0,.int .i64 b1])).run Tryz.prog w= .ok ((a0==b0)&&(a1==b1)) w:=by
 go_simp
 (repeat' split)<;>simp_all
theorem evs_any(A_l:Option Addr)(n_l c_l:Nat)(l:List Ev)(w:World)(h_l:Ls w A_l n_l c_l Ev.c 6 l)(g_l:EvsOk w l):
  Cr 299 #[.slice A_l n_l c_l] w (.int .i64 (evsE l)):=by
 have H:=(Hp.nil w);have e_l:=h_l.len;have z_l:=h_l.nle;refine Wb Tryz.func299 ?_;refine go ?_;refine sb [8,0,6,7] ?_;refine WC.loopS 1 (fun mz Ed W'=>∃j:Nat,mz=n_l-j∧Ed=[(8,.int .i64 ((j:Nat):Int))]∧Hp w W' ([])∧(j≤n_l)∧(fE (ev1 l) j=0)) _ ⟨0,rfl,rfl,(H.pick []),(Nat.zero_le _),rfl⟩ ?_;rintro _ _ z ⟨j,rfl,rfl,H,jl,hp⟩;refine go ?_;refine Cd (fun p6=> ?_) fun p6=> ?_
 ·have b9:j<n_l:=Om;refine go ?_;refine al H ti81 fun g10 z H=> ?_;refine go ?_;refine st H 0 ti81 fun z H=> ?_;refine go ?_;refine c1 H Fh (evcheck_any l[j]! _ ((g_l _ (mem_b (show j<l.length from Om))).ext H.ext)) fun z H=> ?_;refine go ?_;refine Cd (fun p15=> ?_) fun p15=> ?_
  ·refine go ?_;refine Rt [_] ?_;subst e_l;exact⟨ret1 (vi (Eq.symm (fE_ret hp (ite_to p15 rfl) p15 Om))),H.ext⟩
  ·refine go ?_;refine Qr ?_;refine G8 ?_;refine qg (fun hb=>Y.indexLs (j-1) (h_l.ext H.ext) rfl u68 ti81 (evg rfl hb) (evg rfl hb) (by have q0:=(dec_t hb);omega) (by have q0:=(dec_t hb);omega)) ?_;refine go ?_;refine Qd H fun z H=> ?_;refine G1 ?_;refine sb [0,6,7,8,30] ?_;refine Cd (fun p18=> ?_) fun p18=> ?_
   ·refine go ?_;refine Rt [_] ?_;subst e_l;exact⟨ret1 (vi (Eq.symm (fE_ret hp (ite_no (fun q=>q p15) (ite_to p18 rfl)) Dc Om))),H.ext⟩
   ·refine go ?_;exact Rs [(8,_)] Sx ⟨(j+1),rfl,rfl,(H.pick []),Om,(fE_next hp (ite_no (fun q=>q p15) (ite_no (fun q=>p18.elim (fun h=>h q.1) (fun h=>h q.2)) rfl)))⟩
 ·refine go ?_;refine Rt [_] ?_;subst e_l;exact⟨ret1 (vi (Eq.symm (fE_end hp Om))),H.ext⟩
theorem packet_any(x:Pk)(w:World)(h_x:x.ok w):
  Cr 291 #[.agg #[.int .i64 x.th,.int .i64 x.sr,.int .i64 x.ls,.slice x.A x.k x.c_]] w (.int .i64 (pkE x)):=by
 have H:=(Hp.nil w);have e_x:=h_x.l.len;have z_x:=h_x.l.nle;refine Wb Tryz.func291 ?_;refine go ?_;refine bx H fun g2 z H=> ?_;refine go ?_;refine bs (zs:=[.int .i64 0,.int .i64 0,.int .i64 0]) (cs:=[_,_,_]) H u65 ti3 fun g6 z H=> ?_;refine go ?_;refine sb [13,1,11,12] ?_;refine WC.loopS 1 (fun mz Ed W'=>∃j:Nat,mz=3-j∧Ed=[(13,.int .i64 ((j:Nat):Int))]∧Hp w W' (_::_::[])∧(j≤3)∧(fE (fun i=>if[x.th,x.sr,x.ls][i]! <0∨[x.th,x.sr,x.ls][i]! >1000000000000000 then 2 else 0) j=0)) _ ⟨0,rfl,rfl,(H.pick [0,0]),(Nat.zero_le _),rfl⟩ ?_;rintro _ _ z ⟨j,rfl,rfl,H,jl,hp⟩;refine go ?_;refine Cd (fun p10=> ?_) fun p10=> ?_
 ·have b13:j<3:=Om;refine G5 ?_;refine yy (Y.indexLs j (Ls.lit (f:=ic) (sz:=1) (l:=[x.th,x.sr,x.ls]) (H.b 0) (fun _=>rfl) rfl (by first|decide|exact(show 3≤maxLen by decide)) rfl) rfl u65 ti3 rfl rfl rfl b13) ?_;refine yy (ld rfl u3 rfl (Ls.at_eq (Ls.lit (f:=ic) (sz:=1) (l:=[x.th,x.sr,x.ls]) (H.b 0) (fun _=>rfl) rfl (by first|decide|exact(show 3≤maxLen by decide)) rfl) b13 rfl)) ?_;refine go ?_;refine Cd (fun p15=> ?_) fun p15=> ?_
  ·refine go ?_;refine Rt [_] ?_;exact⟨ret1 (vi (Eq.symm (ite_to (by rw[fE_ret hp (ite_to p15 rfl) Dc Om];decide) rfl))),H.ext⟩
  ·refine go ?_;exact Rs [(13,_)] Sx ⟨(j+1),rfl,rfl,(H.pick [0,0]),Om,(fE_next hp (ite_no (fun q=>q.elim p15.1 p15.2) rfl))⟩
 ·obtain rfl:j=3:=Om;have rg:=pk_rng hp;refine G16 ?_;refine sb [1,24] ?_;refine WC.cond rfl (fun h20=> ?_) (fun h20=> ?_)
  ·have p20:=(dec_t h20);refine go ?_;refine WC.sub [(1,_),(24,.bool true)] ⟨rfl,kn h20,trivial⟩ ?_;refine WC.condT rfl ?_;refine go ?_;refine Rt [_] ?_;exact⟨ret1 (vi (Eq.symm (ite_no (not_not_intro (fE_end hp Om)) (ite_to (dec_t h20) rfl)))),H.ext⟩
  ·have p20:=(dec_f h20);refine G6 ?_;refine yy (Y.add rfl rfl rfl rfl) ?_;refine go ?_;refine Cd (fun p22=> ?_) fun p22=> ?_
   ·refine go ?_;refine Rt [_] ?_;exact⟨ret1 (vi (Eq.symm (ite_no (not_not_intro (fE_end hp Om)) (ite_no (dec_f h20) (ite_to p22 rfl))))),H.ext⟩
   ·refine go ?_;refine Cd (fun p25=> ?_) fun p25=> ?_
    ·refine go ?_;refine Rt [_] ?_;exact⟨ret1 (vi (Eq.symm (ite_no (not_not_intro (fE_end hp Om)) (ite_no (dec_f h20) (ite_no p22 (ite_to p25 rfl)))))),H.ext⟩
    ·refine G7 ?_;refine sb [1,42] ?_;refine Cd (fun p28=> ?_) fun p28=> ?_
     ·refine go ?_;refine Rt [_] ?_;exact⟨ret1 (vi (Eq.symm (ite_no (not_not_intro (fE_end hp Om)) (ite_no (dec_f h20) (ite_no p22 (ite_no p25 (ite_to p28 rfl))))))),H.ext⟩
     ·refine go ?_;refine c1 H Fh (evs_any _ _ _ _ _ (h_x.ext H.ext).l (h_x.ext H.ext).e) fun z H=> ?_;refine go ?_;refine Rt [_] ?_;exact⟨ret1 (vi (Eq.symm (ite_no (not_not_intro (fE_end hp Om)) (ite_no (dec_f h20) (ite_no p22 (ite_no p25 (ite_no p28 rfl))))))),H.ext⟩
theorem thread_any(x:Th)(w:World):
  Cr 165 #[.agg #[.int .i64 x.id,.string x.nm,.int .i64 x.dom]] w (.int .i64 (thE x)):=by
 have H:=(Hp.nil w);refine Wb Tryz.func165 ?_;refine go ?_;refine bx H fun g2 z H=> ?_;refine go ?_;refine Cd (fun p6=> ?_) fun p6=> ?_
 ·refine G3 ?_;refine sb [2] ?_;refine go ?_;refine Rt [_] ?_;exact⟨ret1 (vi (Eq.symm (ite_to p6 rfl))),H.ext⟩
 ·refine go ?_;refine c1 H Fh (name_any _ _) fun z H=> ?_;refine go ?_;refine Rt [_] ?_;exact⟨ret1 (vi (Eq.symm (ite_no (fun q=>q.elim (fun q=>q.elim (fun q=>q.elim p6.1.1.1 p6.1.1.2) p6.1.2) p6.2) rfl))),H.ext⟩
theorem ixfD_any(A_l:Option Addr)(n_l c_l:Nat)(l:List Dm)(f:FuncId)(cap:List Value)(pr:Dm→Bool)(w:World)(h_l:Ls w A_l n_l c_l Dm.c 2 l)(hF:Has Tryz.prog f)(hp:∀k,k<l.length→∀w1,Ext w w1→Calls Tryz.prog f ([]++[Value.agg (Dm.c l[k]!).toArray]++cap).toArray w1 fun e w2=>e= .returned (.bool (pr l[k]!))∧Ext w1 w2):
  Cr 256 #[.slice A_l n_l c_l,.func (.func f) #[] cap.toArray] w (.int .i64 (ixP pr l)):=by
 have H:=(Hp.nil w);have e_l:=h_l.len;have z_l:=h_l.nle;refine Wb Tryz.func256 ?_;refine go ?_;refine sb [8,0,1,7] ?_;refine WC.loopS 1 (fun mz Ed W'=>∃j:Nat,mz=n_l-j∧Ed=[(8,.int .i64 ((j:Nat):Int))]∧Hp w W' ([])∧(j≤n_l)∧(∀k,k<j→pr l[k]! =false)) _ ⟨0,rfl,rfl,(H.pick []),(Nat.zero_le _),(fun k h=>absurd h (Nat.not_lt_zero k))⟩ ?_;rintro _ _ z ⟨j,rfl,rfl,H,jl,hb⟩;refine go ?_;refine Cd (fun p6=> ?_) fun p6=> ?_
 ·have b10:j<n_l:=Om;refine go ?_;refine c1V rfl H hF (hp j Om _ H.ext) fun z H=> ?_;refine go ?_;refine WC.cond rfl (fun h11=> ?_) (fun h11=> ?_)
  ·refine go ?_;refine Rt [_] ?_;exact⟨ret1 (vi (ixP_at Om hb h11).symm),H.ext⟩
  ·refine go ?_;exact Rs [(8,_)] Sx ⟨(j+1),rfl,rfl,(H.pick []),Om,(fun k h=>(Nat.lt_succ_iff_lt_or_eq.1 h).elim (hb k) fun e=>e▸h11)⟩
 ·refine go ?_;refine Rt [_] ?_;exact⟨ret1 (vi (ixP_no (fun k hk=>hb k Om)).symm),H.ext⟩
theorem cfD_any(A_l:Option Addr)(n_l c_l:Nat)(l:List Dm)(f:FuncId)(cap:List Value)(pr:Dm→Bool)(w:World)(h_l:Ls w A_l n_l c_l Dm.c 2 l)(hF:Has Tryz.prog f)(hp:∀k,k<l.length→∀w1,Ext w w1→Calls Tryz.prog f ([]++[Value.agg (Dm.c l[k]!).toArray]++cap).toArray w1 fun e w2=>e= .returned (.bool (pr l[k]!))∧Ext w1 w2):
  Cr 230 #[.slice A_l n_l c_l,.func (.func f) #[] cap.toArray] w (.bool (decide (ixP pr l≥0))):=by
 have H:=(Hp.nil w);have e_l:=h_l.len;have z_l:=h_l.nle;refine Wb Tryz.func230 ?_;refine G3 ?_;refine sb [0,1] ?_;refine go ?_;refine c1 H Fh (ixfD_any _ _ _ _ f cap pr _ (h_l.ext H.ext) hF (fun k hk w1 x1=>hp k hk w1 (H.ext.trans x1))) fun z H=> ?_;refine go ?_;refine Rt [_] ?_;exact⟨rfl,H.ext⟩
theorem clix1_any(x:Dm)(g:Nat)(i:Int)(w:World)(hg:Blk w g 3 [.int .i64 i]):
  Cr 272 #[.agg #[.int .i64 x.id,.int .i64 x.ppm],.pointer (some ⟨g,0,none⟩)] w (.bool (x.id==i)):=by
 have H:=(Hp.nil w);refine Wb Tryz.func272 ?_;refine go ?_;refine bx H fun g2 z H=> ?_;refine go ?_;refine Rt [_] ?_;exact⟨rfl,H.ext⟩
theorem clix_any(A_d:Option Addr)(n_d c_d:Nat)(d:List Dm)(i:Int)(w:World)(h_d:Ls w A_d n_d c_d Dm.c 2 d):
  Cr 257 #[.slice A_d n_d c_d,.int .i64 i] w (.int .i64 (ixD d i)):=by
 have H:=(Hp.nil w);have e_d:=h_d.len;have z_d:=h_d.nle;refine Wb Tryz.func257 ?_;refine go ?_;refine bx H fun g2 z H=> ?_;refine G4 ?_;refine yy (Y.func rfl rfl rfl) ?_;refine c1 H Fh (ixfD_any _ _ _ _ 272 [.pointer (some ⟨g2,0,none⟩)] (fun x=>x.id==i) _ (h_d.ext H.ext) Fh (fun k hk w1 x1=>clix1_any d[k]! g2 i w1 (Blk.ext ((H.b 0)) x1))) fun z H=> ?_;refine go ?_;refine Rt [_] ?_;exact⟨rfl,H.ext⟩
theorem reading_any(n:Int)(w:World):
  Cr 271 #[.int .i64 n] w (.bool (rdB n)):=by
 have H:=(Hp.nil w);refine Wb Tryz.func271 ?_;refine go ?_;refine Rt [_] ?_;exact⟨rfl,H.ext⟩
theorem domains_any(A_d:Option Addr)(n_d c_d:Nat)(d:List Dm)(w:World)(h_d:Ls w A_d n_d c_d Dm.c 2 d):
  Cr 254 #[.slice A_d n_d c_d] w (.int .i64 (dmsE d)):=by
 have H:=(Hp.nil w);have e_d:=h_d.len;have z_d:=h_d.nle;refine Wb Tryz.func254 ?_;refine G3 ?_;refine sb [0] ?_;refine go ?_;refine sb [7,0,5,6] ?_;refine WC.loopS 1 (fun mz Ed W'=>∃j:Nat,mz=n_d-j∧Ed=[(7,.int .i64 ((j:Nat):Int))]∧Hp w W' ([])∧(j≤n_d)∧(fE (dm1 d) j=0)) _ ⟨0,rfl,rfl,(H.pick []),(Nat.zero_le _),rfl⟩ ?_;rintro _ _ z ⟨j,rfl,rfl,H,jl,hp⟩;refine go ?_;refine Cd (fun p6=> ?_) fun p6=> ?_
 ·have b9:j<n_d:=Om;refine go ?_;refine al H ti134 fun g10 z H=> ?_;refine go ?_;refine st H 0 ti134 fun z H=> ?_;refine go ?_;refine Cd (fun p14=> ?_) fun p14=> ?_
  ·refine G3 ?_;refine sb [2] ?_;refine go ?_;refine Rt [_] ?_;subst e_d;exact⟨ret1 (vi (Eq.symm (fE_ret hp (ite_to p14 rfl) Dc Om))),H.ext⟩
  ·refine go ?_;refine Qr ?_;have b17:j≤n_d:=Om;refine G2 ?_;refine yq (Y.sliceH j rfl u23 ti134 rfl rfl rfl (Nat.le_trans b17 (h_d.ext H.ext).le)) ?_;refine G2 ?_;refine WQ.call rfl (blt rfl) rfl rfl rfl Fh rfl (fun w hw=>calls_ext hw (clix_any _ _ _ _ _ _ (Ls.ext ((h_d.ext H.ext).take b17) hw))) ?_;refine go ?_;refine Qd H fun z H=> ?_;refine go ?_;refine Cd (fun p18=> ?_) fun p18=> ?_
   ·refine go ?_;refine Rt [_] ?_;subst e_d;exact⟨ret1 (vi (Eq.symm (fE_ret hp (ite_no (fun q=>q.elim (fun q=>q.elim (fun q=>q.elim p14.1.1.1 p14.1.1.2) p14.1.2) p14.2) (ite_to p18 rfl)) Dc Om))),H.ext⟩
   ·refine go ?_;exact Rs [(7,_)] Sx ⟨(j+1),rfl,rfl,(H.pick []),Om,(fE_next hp (ite_no (fun q=>q.elim (fun q=>q.elim (fun q=>q.elim p14.1.1.1 p14.1.1.2) p14.1.2) p14.2) (ite_no p18 rfl)))⟩
 ·refine go ?_;refine Rt [_] ?_;subst e_d;exact⟨ret1 (vi (Eq.symm (fE_end hp Om))),H.ext⟩
theorem snap_any(A_d:Option Addr)(n_d c_d:Nat)(d:List Dm)(x:Sn)(w:World)(h_d:Ls w A_d n_d c_d Dm.c 2 d):
  Cr 255 #[.slice A_d n_d c_d,.agg #[.int .i64 x.a,.int .i64 x.ta,.int .i64 x.b,.int .i64 x.lo,.int .i64 x.hi]] w (.int .i64 (snE d x)):=by
 have H:=(Hp.nil w);have e_d:=h_d.len;have z_d:=h_d.nle;refine Wb Tryz.func255 ?_;refine go ?_;refine bx H fun g2 z H=> ?_;refine G2 ?_;refine sb [0,3] ?_;refine go ?_;refine c1 H Fh (clix_any _ _ _ _ _ _ (h_d.ext H.ext)) fun z H=> ?_;refine go ?_;refine WC.cond rfl (fun h7=> ?_) (fun h7=> ?_)
 ·have p7:=(dec_t h7);refine go ?_;refine WC.sub [(3,_),(5,.bool true)] ⟨rfl,kn h7,trivial⟩ ?_;refine WC.condT rfl ?_;refine go ?_;refine Rt [_] ?_;exact⟨ret1 (vi (Eq.symm (ite_to (dec_t h7) rfl))),H.ext⟩
 ·have p7:=(dec_f h7);refine go ?_;refine c1 H Fh (clix_any _ _ _ _ _ _ (h_d.ext H.ext)) fun z H=> ?_;refine go ?_;refine Cd (fun p9=> ?_) fun p9=> ?_
  ·refine go ?_;refine Rt [_] ?_;exact⟨ret1 (vi (Eq.symm (ite_no (dec_f h7) (ite_to p9 rfl)))),H.ext⟩
  ·refine go ?_;refine Cd (fun p12=> ?_) fun p12=> ?_
   ·refine G3 ?_;refine sb [4] ?_;refine go ?_;refine Rt [_] ?_;exact⟨ret1 (vi (Eq.symm (ite_no (dec_f h7) (ite_no p9 (ite_to p12 rfl))))),H.ext⟩
   ·refine go ?_;refine c1 H Fh (reading_any _ _) fun z H=> ?_;refine go ?_;refine WC.cond rfl (fun h16=> ?_) (fun h16=> ?_)
    ·refine go ?_;refine WC.sub [(22,.bool true)] ⟨kn h16,trivial⟩ ?_;refine WC.condT rfl ?_;refine go ?_;refine Rt [_] ?_;exact⟨ret1 (vi (Eq.symm (ite_no (dec_f h7) (ite_no p9 (ite_no p12 (ite_to (not_t h16) rfl)))))),H.ext⟩
    ·refine go ?_;refine c1 H Fh (reading_any _ _) fun z H=> ?_;refine go ?_;refine WC.cond rfl (fun h19=> ?_) (fun h19=> ?_)
     ·refine go ?_;refine WC.sub [(22,.bool true)] ⟨kn h19,trivial⟩ ?_;refine WC.condT rfl ?_;refine go ?_;refine Rt [_] ?_;exact⟨ret1 (vi (Eq.symm (ite_no (dec_f h7) (ite_no p9 (ite_no p12 (ite_no (nf_t (not_f h16)) (ite_to (not_t h19) rfl))))))),H.ext⟩
     ·refine go ?_;refine c1 H Fh (reading_any _ _) fun z H=> ?_;refine go ?_;refine WC.cond rfl (fun h22=> ?_) (fun h22=> ?_)
      ·refine go ?_;refine WC.sub [(22,.bool true)] ⟨kn h22,trivial⟩ ?_;refine WC.condT rfl ?_;refine G3 ?_;refine sb [4] ?_;refine go ?_;refine Rt [_] ?_;exact⟨ret1 (vi (Eq.symm (ite_no (dec_f h7) (ite_no p9 (ite_no p12 (ite_no (nf_t (not_f h16)) (ite_no (nf_t (not_f h19)) (ite_to (not_t h22) rfl)))))))),H.ext⟩
      ·refine go ?_;refine Cd (fun p24=> ?_) fun p24=> ?_
       ·refine go ?_;refine Rt [_] ?_;exact⟨ret1 (vi (Eq.symm (ite_no (dec_f h7) (ite_no p9 (ite_no p12 (ite_no (nf_t (not_f h16)) (ite_no (nf_t (not_f h19)) (ite_no (nf_t (not_f h22)) (ite_to p24 rfl))))))))),H.ext⟩
       ·refine go ?_;refine Rt [_] ?_;exact⟨ret1 (vi (Eq.symm (ite_no (dec_f h7) (ite_no p9 (ite_no p12 (ite_no (nf_t (not_f h16)) (ite_no (nf_t (not_f h19)) (ite_no (nf_t (not_f h22)) (ite_no p24 rfl))))))))),H.ext⟩
theorem clcheck_any(A_d:Option Addr)(n_d c_d:Nat)(d:List Dm)(A_l:Option Addr)(n_l c_l:Nat)(l:List Sn)(w:World)(h_d:Ls w A_d n_d c_d Dm.c 2 d)(h_l:Ls w A_l n_l c_l Sn.c 5 l):
  Cr 229 #[.slice A_d n_d c_d,.slice A_l n_l c_l] w (.int .i64 (ckE d l)):=by
 have H:=(Hp.nil w);have e_d:=h_d.len;have z_d:=h_d.nle;have e_l:=h_l.len;have z_l:=h_l.nle;refine Wb Tryz.func229 ?_;refine go ?_;refine Cd (fun p4=> ?_) fun p4=> ?_
 ·refine go ?_;refine Rt [_] ?_;subst e_d;subst e_l;exact⟨ret1 (vi (Eq.symm (ite_to p4 rfl))),H.ext⟩
 ·refine G13 ?_;refine sb [0,1,19] ?_;refine Cd (fun p8=> ?_) fun p8=> ?_
  ·refine go ?_;refine Rt [_] ?_;subst e_d;subst e_l;exact⟨ret1 (vi (Eq.symm (ite_no p4 (ite_to p8 rfl)))),H.ext⟩
  ·have b12:0<n_d:=Om;refine G8 ?_;refine yy (Y.neqS rfl eqg134 (eq134 _ _ _ _) rfl rfl) ?_;refine go ?_;refine WC.cond rfl (fun h13=> ?_) (fun h13=> ?_)
   ·refine go ?_;refine Rt [_] ?_;subst e_d;subst e_l;exact⟨ret1 (vi (Eq.symm (ite_no p4 (ite_no (fun q=>q.elim p8.1 p8.2) (ite_to (not_t h13) rfl))))),H.ext⟩
   ·refine go ?_;refine c1 H Fh (domains_any _ _ _ _ _ (h_d.ext H.ext)) fun z H=> ?_;refine go ?_;refine Cd (fun p18=> ?_) fun p18=> ?_
    ·refine go ?_;refine Rt [_] ?_;subst e_d;subst e_l;exact⟨ret1 (vi (Eq.symm (ite_no p4 (ite_no (fun q=>q.elim p8.1 p8.2) (ite_no (nf_t (not_f h13)) (ite_to p18 rfl)))))),H.ext⟩
    ·refine G8 ?_;refine sb [0,30,31,32] ?_;refine go ?_;refine sb [32,0,30,31] ?_;refine WC.loopS 1 (fun mz Ed W'=>∃j:Nat,mz=n_l-j∧Ed=[(32,.int .i64 ((j:Nat):Int))]∧Hp w W' ([])∧(j≤n_l)∧(fE (fun i=>snE d l[i]!) j=0)) _ ⟨0,rfl,rfl,(H.pick []),(Nat.zero_le _),rfl⟩ ?_;rintro _ _ z ⟨j,rfl,rfl,H,jl,hp⟩;refine go ?_;refine Cd (fun p24=> ?_) fun p24=> ?_
     ·have b27:j<n_l:=Om;refine go ?_;refine al H ti347 fun g28 z H=> ?_;refine st H 0 ti347 fun z H=> ?_;refine go ?_;refine c1 H Fh (snap_any _ _ _ d l[j]! _ (h_d.ext H.ext)) fun z H=> ?_;refine go ?_;refine Cd (fun p32=> ?_) fun p32=> ?_
      ·refine go ?_;refine Rt [_] ?_;subst e_d;subst e_l;exact⟨ret1 (vi (Eq.symm (ite_no p4 (ite_no (fun q=>q.elim p8.1 p8.2) (ite_no (nf_t (not_f h13)) (ite_no (fun q=>q p18) (fE_ret hp rfl p32 Om))))))),H.ext⟩
      ·refine go ?_;exact Rs [(32,_)] Sx ⟨(j+1),rfl,rfl,(H.pick []),Om,(fE_next hp (Decidable.of_not_not (fun q=>q p32)))⟩
     ·refine go ?_;refine Rt [_] ?_;subst e_d;subst e_l;exact⟨ret1 (vi (Eq.symm (ite_no p4 (ite_no (fun q=>q.elim p8.1 p8.2) (ite_no (nf_t (not_f h13)) (ite_no (fun q=>q p18) (fE_end hp Om))))))),H.ext⟩
theorem eqg57:Tryz.prog.eqGuardType Tryz.prog.depth 57=false:=by kernel_rfl
theorem eq57(a0:Int)(a1:ByteArray)(a2:Int)(b0:Int)(b1:ByteArray)(b2:Int)(w:World):(Op.equalIn 10000 57 (.agg #[.int .i64 a0,.string a1,.int .i64 a2]) (.agg #[.int .i64 b0,.string b1,.int .i64 b2])).run Tryz.prog w= .ok ((a0==b0)&&(a1==b1)&&(a2==b2)) w:=by
 go_simp
 (repeat' split)<;>simp_all [beq_toListBytes]
theorem eqg347:Tryz.prog.eqGuardType Tryz.prog.depth 347=false:=by kernel_rfl
theorem eq347(a0:Int)(a1:Int)(a2:Int)(a3:Int)(a4:Int)(b0:Int)(b1:Int)(b2:Int)(b3:Int)(b4:Int)(w:World):(Op.equalIn 10000 347 (.agg #[.int .i64 a0,.int .i64 a1,.int .i64 a2,.int .i64 a3,.int .i64 a4]) (.agg #[.int .i64 b0,.int .i64 b1,.int .i64 b2,.int .i64 b3,.int .i64 b4])).run Tryz.prog w= .ok ((a0==b0)&&(a1==b1)&&(a2==b2)&&((a3==b3)&&(a4==b4))) w:=by
 go_simp
 (repeat' split)<;>simp_all
theorem eqS_any(A_l:Option Addr)(n_l c_l:Nat)(l:List ByteArray)(A_m:Option Addr)(n_m c_m:Nat)(m:List ByteArray)(w:World)(h_l:Ls w A_l n_l c_l sc 1 l)(h_m:Ls w A_m n_m c_m sc 1 m):
  Cr 300 #[.slice A_l n_l c_l,.slice A_m n_m c_m] w (.bool (eqW (fun x y=>x==y) l m)):=by
 have H:=(Hp.nil w);have e_l:=h_l.len;have z_l:=h_l.nle;have e_m:=h_m.len;have z_m:=h_m.nle;refine Wb Tryz.func300 ?_;refine go ?_;refine Cd (fun p4=> ?_) fun p4=> ?_
 ·refine go ?_;refine Rt [_] ?_;exact⟨ret1 (vb (eqW_len Om).symm),H.ext⟩
 ·refine go ?_;refine sb [13,0,1,12] ?_;refine WC.loopS 1 (fun mz Ed W'=>∃j:Nat,mz=n_l-j∧Ed=[(13,.int .i64 ((j:Nat):Int))]∧Hp w W' ([])∧(j≤n_l)∧(∀k,k<j→(fun x y=>x==y) l[k]! m[k]! =true)) _ ⟨0,rfl,rfl,(H.pick []),(Nat.zero_le _),(fun k h=>absurd h (Nat.not_lt_zero k))⟩ ?_;rintro _ _ z ⟨j,rfl,rfl,H,jl,he⟩;refine go ?_;refine Cd (fun p10=> ?_) fun p10=> ?_
  ·refine go ?_;refine Qr ?_;have b14:j<n_l:=Om;have b15:j<n_m:=Om;refine go ?_;refine Qd H fun z H=> ?_;refine go ?_;refine WC.cond rfl (fun h16=> ?_) (fun h16=> ?_)
   ·have p16:=(beqB_ne.1 (not_t h16));refine go ?_;refine Rt [_] ?_;exact⟨ret1 (vb (eqW_no (j:=j) Om (not_t h16)).symm),H.ext⟩
   ·have p16:=(beqB_eq.1 (not_f h16));refine go ?_;exact Rs [(13,_)] Sx ⟨(j+1),rfl,rfl,(H.pick []),Om,(all_next he (not_f h16))⟩
  ·refine go ?_;refine Rt [_] ?_;exact⟨ret1 (vb (eqW_yes Om (fun k hk=>he k Om)).symm),H.ext⟩
theorem eqT_any(A_l:Option Addr)(n_l c_l:Nat)(l:List Th)(A_m:Option Addr)(n_m c_m:Nat)(m:List Th)(w:World)(h_l:Ls w A_l n_l c_l Th.c 3 l)(h_m:Ls w A_m n_m c_m Th.c 3 m):
  Cr 279 #[.slice A_l n_l c_l,.slice A_m n_m c_m] w (.bool (eqW thSame l m)):=by
 have H:=(Hp.nil w);have e_l:=h_l.len;have z_l:=h_l.nle;have e_m:=h_m.len;have z_m:=h_m.nle;refine Wb Tryz.func279 ?_;refine G11 ?_;refine sb [0,1,10] ?_;refine Cd (fun p4=> ?_) fun p4=> ?_
 ·refine go ?_;refine Rt [_] ?_;exact⟨ret1 (vb (eqW_len Om).symm),H.ext⟩
 ·refine go ?_;refine sb [13,0,1,12] ?_;refine WC.loopS 1 (fun mz Ed W'=>∃j:Nat,mz=n_l-j∧Ed=[(13,.int .i64 ((j:Nat):Int))]∧Hp w W' ([])∧(j≤n_l)∧(∀k,k<j→thSame l[k]! m[k]! =true)) _ ⟨0,rfl,rfl,(H.pick []),(Nat.zero_le _),(fun k h=>absurd h (Nat.not_lt_zero k))⟩ ?_;rintro _ _ z ⟨j,rfl,rfl,H,jl,he⟩;refine go ?_;refine Cd (fun p10=> ?_) fun p10=> ?_
  ·refine go ?_;refine Qr ?_;have b14:j<n_l:=Om;have b15:j<n_m:=Om;refine G8 ?_;refine yq (Y.neqS rfl eqg57 (eq57 _ _ _ _ _ _) rfl rfl) ?_;refine Qd H fun z H=> ?_;refine go ?_;refine WC.cond rfl (fun h16=> ?_) (fun h16=> ?_)
   ·refine go ?_;refine Rt [_] ?_;exact⟨ret1 (vb (eqW_no (j:=j) Om (not_t h16)).symm),H.ext⟩
   ·refine go ?_;exact Rs [(13,_)] Sx ⟨(j+1),rfl,rfl,(H.pick []),Om,(all_next he (not_f h16))⟩
  ·refine go ?_;refine Rt [_] ?_;exact⟨ret1 (vb (eqW_yes Om (fun k hk=>he k Om)).symm),H.ext⟩
theorem eqD_any(A_l:Option Addr)(n_l c_l:Nat)(l:List Dm)(A_m:Option Addr)(n_m c_m:Nat)(m:List Dm)(w:World)(h_l:Ls w A_l n_l c_l Dm.c 2 l)(h_m:Ls w A_m n_m c_m Dm.c 2 m):
  Cr 280 #[.slice A_l n_l c_l,.slice A_m n_m c_m] w (.bool (eqW dmSame l m)):=by
 have H:=(Hp.nil w);have e_l:=h_l.len;have z_l:=h_l.nle;have e_m:=h_m.len;have z_m:=h_m.nle;refine Wb Tryz.func280 ?_;refine G11 ?_;refine sb [0,1,10] ?_;refine Cd (fun p4=> ?_) fun p4=> ?_
 ·refine go ?_;refine Rt [_] ?_;exact⟨ret1 (vb (eqW_len Om).symm),H.ext⟩
 ·refine go ?_;refine sb [13,0,1,12] ?_;refine WC.loopS 1 (fun mz Ed W'=>∃j:Nat,mz=n_l-j∧Ed=[(13,.int .i64 ((j:Nat):Int))]∧Hp w W' ([])∧(j≤n_l)∧(∀k,k<j→dmSame l[k]! m[k]! =true)) _ ⟨0,rfl,rfl,(H.pick []),(Nat.zero_le _),(fun k h=>absurd h (Nat.not_lt_zero k))⟩ ?_;rintro _ _ z ⟨j,rfl,rfl,H,jl,he⟩;refine go ?_;refine Cd (fun p10=> ?_) fun p10=> ?_
  ·refine go ?_;refine Qr ?_;have b14:j<n_l:=Om;have b15:j<n_m:=Om;refine G8 ?_;refine yq (Y.neqS rfl eqg134 (eq134 _ _ _ _) rfl rfl) ?_;refine Qd H fun z H=> ?_;refine go ?_;refine WC.cond rfl (fun h16=> ?_) (fun h16=> ?_)
   ·refine go ?_;refine Rt [_] ?_;exact⟨ret1 (vb (eqW_no (j:=j) Om (not_t h16)).symm),H.ext⟩
   ·refine go ?_;exact Rs [(13,_)] Sx ⟨(j+1),rfl,rfl,(H.pick []),Om,(all_next he (not_f h16))⟩
  ·refine go ?_;refine Rt [_] ?_;exact⟨ret1 (vb (eqW_yes Om (fun k hk=>he k Om)).symm),H.ext⟩
theorem eqN_any(A_l:Option Addr)(n_l c_l:Nat)(l:List Sn)(A_m:Option Addr)(n_m c_m:Nat)(m:List Sn)(w:World)(h_l:Ls w A_l n_l c_l Sn.c 5 l)(h_m:Ls w A_m n_m c_m Sn.c 5 m):
  Cr 281 #[.slice A_l n_l c_l,.slice A_m n_m c_m] w (.bool (eqW snSame l m)):=by
 have H:=(Hp.nil w);have e_l:=h_l.len;have z_l:=h_l.nle;have e_m:=h_m.len;have z_m:=h_m.nle;refine Wb Tryz.func281 ?_;refine G11 ?_;refine sb [0,1,10] ?_;refine Cd (fun p4=> ?_) fun p4=> ?_
 ·refine go ?_;refine Rt [_] ?_;exact⟨ret1 (vb (eqW_len Om).symm),H.ext⟩
 ·refine go ?_;refine sb [13,0,1,12] ?_;refine WC.loopS 1 (fun mz Ed W'=>∃j:Nat,mz=n_l-j∧Ed=[(13,.int .i64 ((j:Nat):Int))]∧Hp w W' ([])∧(j≤n_l)∧(∀k,k<j→snSame l[k]! m[k]! =true)) _ ⟨0,rfl,rfl,(H.pick []),(Nat.zero_le _),(fun k h=>absurd h (Nat.not_lt_zero k))⟩ ?_;rintro _ _ z ⟨j,rfl,rfl,H,jl,he⟩;refine go ?_;refine Cd (fun p10=> ?_) fun p10=> ?_
  ·refine go ?_;refine Qr ?_;have b14:j<n_l:=Om;have b15:j<n_m:=Om;refine G8 ?_;refine yq (Y.neqS rfl eqg347 (eq347 _ _ _ _ _ _ _ _ _ _) rfl rfl) ?_;refine Qd H fun z H=> ?_;refine go ?_;refine WC.cond rfl (fun h16=> ?_) (fun h16=> ?_)
   ·refine go ?_;refine Rt [_] ?_;exact⟨ret1 (vb (eqW_no (j:=j) Om (not_t h16)).symm),H.ext⟩
   ·refine go ?_;exact Rs [(13,_)] Sx ⟨(j+1),rfl,rfl,(H.pick []),Om,(all_next he (not_f h16))⟩
  ·refine go ?_;refine Rt [_] ?_;exact⟨ret1 (vb (eqW_yes Om (fun k hk=>he k Om)).symm),H.ext⟩
theorem evsame_any(x:Ev)(y:Ev)(w:World)(h_x:Ls w x.A x.k x.c_ sc 1 x.st)(h_y:Ls w y.A y.k y.c_ sc 1 y.st):
  Cr 295 #[.agg #[.int .i64 x.at_,.int .i64 x.kd,.string x.nm,.int .i64 x.n,.int .i64 x.m,.slice x.A x.k x.c_],.agg #[.int .i64 y.at_,.int .i64 y.kd,.string y.nm,.int .i64 y.n,.int .i64 y.m,.slice y.A y.k y.c_]] w (.bool (evSame x y)):=by
 have H:=(Hp.nil w);have e_x:=h_x.len;have z_x:=h_x.nle;have e_y:=h_y.len;have z_y:=h_y.nle;refine Wb Tryz.func295 ?_;refine go ?_;refine bx H fun g2 z H=> ?_;refine bx H fun g4 z H=> ?_;refine G2 ?_;refine sb [2,3] ?_;refine G30 ?_;refine G9 ?_;refine WL.callG rfl (blt rfl) rfl rfl rfl rfl rfl Fh (fun hb=>(evs_cons (evg rfl hb) (evs_cons (evg rfl hb) evs_nil))) (fun hb=>eqS_any _ _ _ _ _ _ _ _ _ (h_x.ext H.ext) (h_y.ext H.ext)) (fun z x=> ?_);have H:=H.ex x;refine G3 ?_;refine sb [4] ?_;refine go ?_;refine Rt [_] ?_;exact⟨rfl,H.ext⟩
theorem eqEv_any(A_l:Option Addr)(n_l c_l:Nat)(l:List Ev)(A_m:Option Addr)(n_m c_m:Nat)(m:List Ev)(w:World)(h_l:Ls w A_l n_l c_l Ev.c 6 l)(g_l:EvsOk w l)(h_m:Ls w A_m n_m c_m Ev.c 6 m)(g_m:EvsOk w m):
  Cr 294 #[.slice A_l n_l c_l,.slice A_m n_m c_m,.func (.func 295) #[] #[]] w (.bool (eqW evSame l m)):=by
 have H:=(Hp.nil w);have e_l:=h_l.len;have z_l:=h_l.nle;have e_m:=h_m.len;have z_m:=h_m.nle;refine Wb Tryz.func294 ?_;refine go ?_;refine Cd (fun p4=> ?_) fun p4=> ?_
 ·refine go ?_;refine Rt [_] ?_;exact⟨ret1 (vb (eqW_len Om).symm),H.ext⟩
 ·refine go ?_;refine sb [17,1,2,15,16] ?_;refine WC.loopS 1 (fun mz Ed W'=>∃j:Nat,mz=n_l-j∧Ed=[(17,.int .i64 ((j:Nat):Int))]∧Hp w W' ([])∧(j≤n_l)∧(∀k,k<j→evSame l[k]! m[k]! =true)) _ ⟨0,rfl,rfl,(H.pick []),(Nat.zero_le _),(fun k h=>absurd h (Nat.not_lt_zero k))⟩ ?_;rintro _ _ z ⟨j,rfl,rfl,H,jl,he⟩;refine go ?_;refine Cd (fun p10=> ?_) fun p10=> ?_
  ·have b13:j<n_l:=Om;refine go ?_;refine al H ti81 fun g14 z H=> ?_;refine go ?_;refine st H 0 ti81 fun z H=> ?_;have b17:j<n_m:=Om;refine go ?_;refine al H ti81 fun g18 z H=> ?_;refine st H 0 ti81 fun z H=> ?_;refine go ?_;refine c1V (fst:=[]) (cap:=[]) rfl H Fh (evsame_any l[j]! m[j]! _ ((g_l _ (mem_b (show j<l.length from Om))).ext H.ext) ((g_m _ (mem_b (show j<m.length from Om))).ext H.ext)) fun z H=> ?_;refine go ?_;refine WC.cond rfl (fun h21=> ?_) (fun h21=> ?_)
   ·refine go ?_;refine Rt [_] ?_;exact⟨ret1 (vb (eqW_no (j:=j) Om (not_t h21)).symm),H.ext⟩
   ·refine G3 ?_;refine sb [1,2,15,16,17] ?_;refine go ?_;exact Rs [(17,_)] Sx ⟨(j+1),rfl,rfl,(H.pick []),Om,(all_next he (not_f h21))⟩
  ·refine go ?_;refine Rt [_] ?_;exact⟨ret1 (vb (eqW_yes Om (fun k hk=>he k Om)).symm),H.ext⟩
theorem pksame_any(x:Pk)(y:Pk)(w:World)(h_x:x.ok w)(h_y:y.ok w):
  Cr 284 #[.agg #[.int .i64 x.th,.int .i64 x.sr,.int .i64 x.ls,.slice x.A x.k x.c_],.agg #[.int .i64 y.th,.int .i64 y.sr,.int .i64 y.ls,.slice y.A y.k y.c_]] w (.bool (pkSame x y)):=by
 have H:=(Hp.nil w);have e_x:=h_x.l.len;have z_x:=h_x.l.nle;have e_y:=h_y.l.len;have z_y:=h_y.l.nle;refine Wb Tryz.func284 ?_;refine go ?_;refine bx H fun g2 z H=> ?_;refine bx H fun g4 z H=> ?_;refine G2 ?_;refine sb [2,3] ?_;refine G25 ?_;refine WL.callG rfl (blt rfl) rfl rfl rfl rfl rfl Fh (fun hb=>(evs_cons (evg rfl hb) (evs_cons (evg rfl hb) (evs_cons rfl evs_nil)))) (fun hb=>eqEv_any _ _ _ _ _ _ _ _ _ (h_x.ext H.ext).l (h_x.ext H.ext).e (h_y.ext H.ext).l (h_y.ext H.ext).e) (fun z x=> ?_);have H:=H.ex x;refine go ?_;refine Rt [_] ?_;exact⟨rfl,H.ext⟩
theorem pksame1_any(x:Pk)(y:Pk)(w:World)(h_x:x.ok w)(h_y:y.ok w):
  Cr 283 #[.agg #[.int .i64 x.th,.int .i64 x.sr,.int .i64 x.ls,.slice x.A x.k x.c_],.agg #[.int .i64 y.th,.int .i64 y.sr,.int .i64 y.ls,.slice y.A y.k y.c_]] w (.bool (pkSame x y)):=by
 have H:=(Hp.nil w);have e_x:=h_x.l.len;have z_x:=h_x.l.nle;have e_y:=h_y.l.len;have z_y:=h_y.l.nle;refine Wb Tryz.func283 ?_;refine go ?_;refine bx H fun g2 z H=> ?_;refine bx H fun g4 z H=> ?_;refine go ?_;refine c1 H Fh (pksame_any x y _ ⟨(h_x.ext H.ext).l,(h_x.ext H.ext).e⟩ ⟨(h_y.ext H.ext).l,(h_y.ext H.ext).e⟩) fun z H=> ?_;refine go ?_;refine Rt [_] ?_;exact⟨rfl,H.ext⟩
theorem eqPk_any(A_l:Option Addr)(n_l c_l:Nat)(l:List Pk)(A_m:Option Addr)(n_m c_m:Nat)(m:List Pk)(w:World)(h_l:Ls w A_l n_l c_l Pk.c 4 l)(g_l:PksOk w l)(h_m:Ls w A_m n_m c_m Pk.c 4 m)(g_m:PksOk w m):
  Cr 282 #[.slice A_l n_l c_l,.slice A_m n_m c_m,.func (.func 283) #[] #[]] w (.bool (eqW pkSame l m)):=by
 have H:=(Hp.nil w);have e_l:=h_l.len;have z_l:=h_l.nle;have e_m:=h_m.len;have z_m:=h_m.nle;refine Wb Tryz.func282 ?_;refine G11 ?_;refine sb [0,1,2,14] ?_;refine Cd (fun p4=> ?_) fun p4=> ?_
 ·refine go ?_;refine Rt [_] ?_;exact⟨ret1 (vb (eqW_len Om).symm),H.ext⟩
 ·refine go ?_;refine sb [17,1,2,15,16] ?_;refine WC.loopS 1 (fun mz Ed W'=>∃j:Nat,mz=n_l-j∧Ed=[(17,.int .i64 ((j:Nat):Int))]∧Hp w W' ([])∧(j≤n_l)∧(∀k,k<j→pkSame l[k]! m[k]! =true)) _ ⟨0,rfl,rfl,(H.pick []),(Nat.zero_le _),(fun k h=>absurd h (Nat.not_lt_zero k))⟩ ?_;rintro _ _ z ⟨j,rfl,rfl,H,jl,he⟩;refine go ?_;refine Cd (fun p10=> ?_) fun p10=> ?_
  ·have b13:j<n_l:=Om;refine go ?_;refine al H ti70 fun g14 z H=> ?_;refine go ?_;refine st H 0 ti70 fun z H=> ?_;have b17:j<n_m:=Om;refine go ?_;refine al H ti70 fun g18 z H=> ?_;refine st H 0 ti70 fun z H=> ?_;refine go ?_;refine c1V (fst:=[]) (cap:=[]) rfl H Fh (pksame1_any l[j]! m[j]! _ ⟨((g_l _ (mem_b (show j<l.length from Om))).ext H.ext).l,((g_l _ (mem_b (show j<l.length from Om))).ext H.ext).e⟩ ⟨((g_m _ (mem_b (show j<m.length from Om))).ext H.ext).l,((g_m _ (mem_b (show j<m.length from Om))).ext H.ext).e⟩) fun z H=> ?_;refine go ?_;refine WC.cond rfl (fun h21=> ?_) (fun h21=> ?_)
   ·refine go ?_;refine Rt [_] ?_;exact⟨ret1 (vb (eqW_no (j:=j) Om (not_t h21)).symm),H.ext⟩
   ·refine G3 ?_;refine sb [1,2,15,16,17] ?_;refine go ?_;exact Rs [(17,_)] Sx ⟨(j+1),rfl,rfl,(H.pick []),Om,(all_next he (not_f h21))⟩
  ·refine go ?_;refine Rt [_] ?_;exact⟨ret1 (vb (eqW_yes Om (fun k hk=>he k Om)).symm),H.ext⟩
theorem lgsame_any(A_ta:Option Addr)(n_ta c_ta:Nat)(ta:List Th)(A_da:Option Addr)(n_da c_da:Nat)(da:List Dm)(A_na:Option Addr)(n_na c_na:Nat)(na:List Sn)(A_pa:Option Addr)(n_pa c_pa:Nat)(pa:List Pk)(A_tb:Option Addr)(n_tb c_tb:Nat)(tb:List Th)(A_db:Option Addr)(n_db c_db:Nat)(db:List Dm)(A_nb:Option Addr)(n_nb c_nb:Nat)(nb:List Sn)(A_pb:Option Addr)(n_pb c_pb:Nat)(pb:List Pk)(w:World)(h_ta:Ls w A_ta n_ta c_ta Th.c 3 ta)(h_da:Ls w A_da n_da c_da Dm.c 2 da)(h_na:Ls w A_na n_na c_na Sn.c 5 na)(h_pa:Ls w A_pa n_pa c_pa Pk.c 4 pa)(g_pa:PksOk w pa)(h_tb:Ls w A_tb n_tb c_tb Th.c 3 tb)(h_db:Ls w A_db n_db c_db Dm.c 2 db)(h_nb:Ls w A_nb n_nb c_nb Sn.c 5 nb)(h_pb:Ls w A_pb n_pb c_pb Pk.c 4 pb)(g_pb:PksOk w pb):
  Cr 265 #[.agg #[.slice A_ta n_ta c_ta,.slice A_da n_da c_da,.slice A_na n_na c_na,.slice A_pa n_pa c_pa],.agg #[.slice A_tb n_tb c_tb,.slice A_db n_db c_db,.slice A_nb n_nb c_nb,.slice A_pb n_pb c_pb]] w (.bool (lgSame ta tb da db na nb pa pb)):=by
 have H:=(Hp.nil w);have e_ta:=h_ta.len;have z_ta:=h_ta.nle;have e_da:=h_da.len;have z_da:=h_da.nle;have e_na:=h_na.len;have z_na:=h_na.nle;have e_pa:=h_pa.len;have z_pa:=h_pa.nle;have e_tb:=h_tb.len;have z_tb:=h_tb.nle;have e_db:=h_db.len;have z_db:=h_db.nle;have e_nb:=h_nb.len;have z_nb:=h_nb.nle;have e_pb:=h_pb.len;have z_pb:=h_pb.nle;refine Wb Tryz.func265 ?_;refine go ?_;refine bx H fun g2 z H=> ?_;refine bx H fun g4 z H=> ?_;refine go ?_;refine Xr H (HpC w _) (.load 0 (.load 1 (.load 2 (.load 3 (.alt 4 (.alt 5 (.alt 6 (.alt 7 (.fin) (.none)) (.none)) (.none)) (.alt 5 (.alt 4 (.alt 6 (.alt 7 (.fin) (.none)) (.none)) (.none)) (.none))))))) (H.pick [0,0]) fun z H=> ?_;refine G4 ?_;refine WX.alt ?_ ?_
 ·refine alX (H.pick [0,0]) H ti26 fun g7 z H=> ?_;refine alX (H.pick [1,1]) H ti26 fun g9 z H=> ?_;refine stX (H.pick [2,2]) H 1 ti26 fun z H=> ?_;refine stX (H.pick [2,2]) H 0 ti26 fun z H=> ?_;refine WX.nil (H.pick [2,2]) ?_;refine go ?_;refine c1 H Fh (eqT_any _ _ _ _ _ _ _ _ _ (h_ta.ext H.ext) (h_tb.ext H.ext)) fun z H=> ?_;refine G5 ?_;refine WL.callG rfl (blt rfl) rfl rfl rfl rfl rfl Fh (fun hb=>(evs_cons (evg rfl hb) (evs_cons (evg rfl hb) evs_nil))) (fun hb=>eqD_any _ _ _ _ _ _ _ _ _ (h_da.ext H.ext) (h_db.ext H.ext)) (fun z x=> ?_);have H:=H.ex x;refine G6 ?_;refine WL.callG rfl (blt rfl) rfl rfl rfl rfl rfl Fh (fun hb=>(evs_cons (evg rfl hb) (evs_cons (evg rfl hb) evs_nil))) (fun hb=>eqN_any _ _ _ _ _ _ _ _ _ (h_na.ext H.ext) (h_nb.ext H.ext)) (fun z x=> ?_);have H:=H.ex x;refine G6 ?_;refine WL.callG rfl (blt rfl) rfl rfl rfl rfl rfl Fh (fun hb=>(evs_cons (evg rfl hb) (evs_cons (evg rfl hb) (evs_cons rfl evs_nil)))) (fun hb=>eqPk_any _ _ _ _ _ _ _ _ _ (h_pa.ext H.ext) (g_pa.ext H.ext) (h_pb.ext H.ext) (g_pb.ext H.ext)) (fun z x=> ?_);have H:=H.ex x;refine G3 ?_;refine sb [4] ?_;refine go ?_;refine Rt [_] ?_;exact⟨rfl,H.ext⟩
 refine alX (H.pick [0,0]) H ti26 fun g12 z H=> ?_;refine alX (H.pick [1,1]) H ti26 fun g14 z H=> ?_;refine stX (H.pick [2,2]) H 0 ti26 fun z H=> ?_;refine stX (H.pick [2,2]) H 1 ti26 fun z H=> ?_;refine WX.nil (H.pick [2,2]) ?_;refine go ?_;refine c1 H Fh (eqT_any _ _ _ _ _ _ _ _ _ (h_ta.ext H.ext) (h_tb.ext H.ext)) fun z H=> ?_;refine G5 ?_;refine WL.callG rfl (blt rfl) rfl rfl rfl rfl rfl Fh (fun hb=>(evs_cons (evg rfl hb) (evs_cons (evg rfl hb) evs_nil))) (fun hb=>eqD_any _ _ _ _ _ _ _ _ _ (h_da.ext H.ext) (h_db.ext H.ext)) (fun z x=> ?_);have H:=H.ex x;refine G6 ?_;refine WL.callG rfl (blt rfl) rfl rfl rfl rfl rfl Fh (fun hb=>(evs_cons (evg rfl hb) (evs_cons (evg rfl hb) evs_nil))) (fun hb=>eqN_any _ _ _ _ _ _ _ _ _ (h_na.ext H.ext) (h_nb.ext H.ext)) (fun z x=> ?_);have H:=H.ex x;refine G6 ?_;refine WL.callG rfl (blt rfl) rfl rfl rfl rfl rfl Fh (fun hb=>(evs_cons (evg rfl hb) (evs_cons (evg rfl hb) (evs_cons rfl evs_nil)))) (fun hb=>eqPk_any _ _ _ _ _ _ _ _ _ (h_pa.ext H.ext) (g_pa.ext H.ext) (h_pb.ext H.ext) (g_pb.ext H.ext)) (fun z x=> ?_);have H:=H.ex x;refine go ?_;refine Rt [_] ?_;exact⟨rfl,H.ext⟩
theorem hd1_any(x:Dm)(g:Nat)(t:Th)(w:World)(hg:Blk w g 57 [.int .i64 t.id,.string t.nm,.int .i64 t.dom]):
  Cr 290 #[.agg #[.int .i64 x.id,.int .i64 x.ppm],.pointer (some ⟨g,0,none⟩)] w (.bool (x.id==t.dom)):=by
 have H:=(Hp.nil w);refine Wb Tryz.func290 ?_;refine go ?_;refine bx H fun g2 z H=> ?_;refine go ?_;refine Rt [_] ?_;exact⟨rfl,H.ext⟩
theorem head_any(A_ths:Option Addr)(n_ths c_ths:Nat)(ths:List Th)(A_ds:Option Addr)(n_ds c_ds:Nat)(ds:List Dm)(A_sn:Option Addr)(n_sn c_sn:Nat)(sn:List Sn)(w:World)(h_ths:Ls w A_ths n_ths c_ths Th.c 3 ths)(h_ds:Ls w A_ds n_ds c_ds Dm.c 2 ds)(h_sn:Ls w A_sn n_sn c_sn Sn.c 5 sn):
  Cr 276 #[.agg #[.slice A_ths n_ths c_ths,.slice A_ds n_ds c_ds,.slice A_sn n_sn c_sn]] w (.int .i64 (hdE ths ds sn)):=by
 have H:=(Hp.nil w);have e_ths:=h_ths.len;have z_ths:=h_ths.nle;have e_ds:=h_ds.len;have z_ds:=h_ds.nle;have e_sn:=h_sn.len;have z_sn:=h_sn.nle;refine Wb Tryz.func276 ?_;refine go ?_;refine bx H fun g2 z H=> ?_;refine go ?_;refine Cd (fun p6=> ?_) fun p6=> ?_
 ·refine go ?_;refine Rt [_] ?_;subst e_ths;subst e_ds;subst e_sn;exact⟨ret1 (vi (Eq.symm (ite_to p6 rfl))),H.ext⟩
 ·refine go ?_;refine Cd (fun p9=> ?_) fun p9=> ?_
  ·refine G3 ?_;refine sb [2] ?_;refine go ?_;refine Rt [_] ?_;subst e_ths;subst e_ds;subst e_sn;exact⟨ret1 (vi (Eq.symm (ite_no p6 (ite_to p9 rfl)))),H.ext⟩
  ·refine go ?_;refine mm H fun g12 z H=> ?_;refine go ?_;refine sb [24,1,3,22,23] ?_;refine WC.loopS 1 (fun mz Ed W'=>∃j:Nat,mz=n_ths-j∧Ed=[(24,.int .i64 ((j:Nat):Int))]∧Hp w W' (mpi g12 (pkb ((ths.take j).map (·.id)))::_::[])∧(j≤n_ths)∧(fE (th1 ths) j=0)) _ ⟨0,rfl,rfl,(H.pick [0,0]),(Nat.zero_le _),rfl⟩ ?_;rintro _ _ z ⟨j,rfl,rfl,H,jl,hp⟩;refine go ?_;refine Cd (fun p18=> ?_) fun p18=> ?_
   ·have b21:j<n_ths:=Om;refine go ?_;refine al H ti57 fun g22 z H=> ?_;refine st H 0 ti57 fun z H=> ?_;refine go ?_;refine c1 H Fh (thread_any ths[j]! _) fun z H=> ?_;refine go ?_;refine Cd (fun p27=> ?_) fun p27=> ?_
    ·refine go ?_;refine Rt [_] ?_;subst e_ths;subst e_ds;subst e_sn;exact⟨ret1 (vi (Eq.symm (ite_no p6 (ite_no p9 (fE_out hp (ite_to p27 rfl) p27 Om))))),H.ext⟩
    ·refine G7 ?_;refine yy (Yld.cast (Y.lookup rfl u115 u3 ti4 rfl rfl (fun _ h=>h▸(H.mi 1))) (mval_pkb _ _)) ?_;refine go ?_;refine Cd (fun p31=> ?_) fun p31=> ?_
     ·refine G3 ?_;refine sb [2] ?_;refine go ?_;refine Rt [_] ?_;subst e_ths;subst e_ds;subst e_sn;exact⟨ret1 (vi (Eq.symm (ite_no p6 (ite_no p9 (fE_out hp (ite_no (fun q=>q p27) (ite_to p31 rfl)) Dc Om))))),H.ext⟩
     ·refine go ?_;refine mu H 1 u115 u3 fun z H=> ?_;refine go ?_;exact Rs [(24,_)] Sx ⟨(j+1),rfl,rfl,(by rw[take_1 (show j<ths.length by omega),List.map_append,show List.map (·.id) [ths[j]!]=[ths[j]!.id]from rfl,←mset_pkb p31];exact(H.pick [1,1])),Om,(fE_next hp (ite_no (fun q=>q p27) (ite_no p31 rfl)))⟩
   ·refine go ?_;refine c1 H Fh (clcheck_any _ _ _ _ _ _ _ _ _ (h_ds.ext H.ext) (h_sn.ext H.ext)) fun z H=> ?_;refine go ?_;refine Cd (fun p36=> ?_) fun p36=> ?_
    ·refine G4 ?_;refine sb [2] ?_;refine go ?_;refine Rt [_] ?_;subst e_ths;subst e_ds;subst e_sn;exact⟨ret1 (vi (Eq.symm (ite_no p6 (ite_no p9 (fE_thru hp Om (ite_to p36 rfl)))))),H.ext⟩
    ·refine go ?_;refine sb [52,1,50,51] ?_;refine WC.loopS 1 (fun mz Ed W'=>∃i:Nat,mz=n_ths-i∧Ed=[(52,.int .i64 ((i:Nat):Int))]∧Hp w W' (_::_::[])∧(i≤n_ths)∧(fE (fun i=>if¬(ixP (fun x=>x.id==ths[i]!.dom) ds≥0)then 5 else 0) i=0)) _ ⟨0,rfl,rfl,(H.pick [0,0]),(Nat.zero_le _),rfl⟩ ?_;rintro _ _ z ⟨i,rfl,rfl,H,il,hq⟩;refine go ?_;refine Cd (fun p42=> ?_) fun p42=> ?_
     ·have b45:i<n_ths:=Om;refine go ?_;refine al H ti57 fun g46 z H=> ?_;refine st H 0 ti57 fun z H=> ?_;refine G4 ?_;refine yy (Y.func rfl rfl rfl) ?_;refine c1 H Fh (cfD_any _ _ _ _ 290 [.pointer (some ⟨g46,0,none⟩)] (fun x=>x.id==ths[i]!.dom) _ (h_ds.ext H.ext) Fh (fun k hk w1 x1=>hd1_any ds[k]! g46 ths[i]! w1 (Blk.ext ((H.b 0)) x1))) fun z H=> ?_;refine go ?_;refine Cd (fun p49=> ?_) fun p49=> ?_
      ·refine go ?_;refine Rt [_] ?_;subst e_ths;subst e_ds;subst e_sn;exact⟨ret1 (vi (Eq.symm (ite_no p6 (ite_no p9 (fE_thru hp Om (ite_no (fun q=>q p36) (fE_ret hq (ite_to p49 rfl) Dc Om))))))),H.ext⟩
      ·refine go ?_;exact Rs [(52,_)] Sx ⟨(i+1),rfl,rfl,(H.pick [1,1]),Om,(fE_next hq (ite_no (fun q=>q p49) rfl))⟩
     ·refine go ?_;refine Rt [_] ?_;subst e_ths;subst e_ds;subst e_sn;exact⟨ret1 (vi (Eq.symm (ite_no p6 (ite_no p9 (fE_thru hp Om (ite_no (fun q=>q p36) (fE_end hq Om))))))),H.ext⟩
theorem follows_any(g:Nat)(nx la:Int)(x:Pk)(w:World)(hg:Blk w g 393 [.int .i64 nx,.int .i64 la])(h_x:x.ok w)(ok:PkOk x):
  Cr 292 #[.pointer (some ⟨g,0,none⟩),.agg #[.int .i64 x.th,.int .i64 x.sr,.int .i64 x.ls,.slice x.A x.k x.c_]] w (.bool (x.sr-x.ls==nx&&decide (x.es[0]!.at_≥la))):=by
 have H:=(Hp.nil w);have e_x:=h_x.l.len;have z_x:=h_x.l.nle;have o1:=ok.sr;have o2:=ok.ls;have o3:=ok.k;refine Wb Tryz.func292 ?_;refine go ?_;refine bx H fun g2 z H=> ?_;refine G2 ?_;refine sb [0,3] ?_;refine go ?_;refine Qr ?_;refine G13 ?_;refine qg (fun hb=>Y.indexLs 0 (h_x.ext H.ext).l rfl u68 ti81 (evg rfl hb) rfl rfl (by have q0:=(eq_t hb);omega)) ?_;refine G1 ?_;refine qg (fun hb=>Y.load1 rfl u3 rfl (evg rfl hb) (Ls.at_ext (h_x.ext H.ext).l (by have q0:=(eq_t hb);omega) rfl)) ?_;refine go ?_;refine Qd H fun z H=> ?_;refine go ?_;refine Rt [_] ?_;exact⟨rfl,H.ext⟩
theorem advance_any(g:Nat)(nx la:Int)(x:Pk)(W:World)(R:List Res)(w:World)(H:Hp W w (box g 393 [.int .i64 nx,.int .i64 la]::R))(h_x:x.ok W)(ok:PkOk x):
  Calls Tryz.prog 293 #[.pointer (some ⟨g,0,none⟩),.agg #[.int .i64 x.th,.int .i64 x.sr,.int .i64 x.ls,.slice x.A x.k x.c_]] w fun e w'=>e= .returned (resVal [])∧Hp W w' (box g 393 [.int .i64 (x.sr+x.k),.int .i64 (x.es[x.k-1]!.at_)]::R):=by
 have o1:=ok.sr;have o3:=ok.k;have o4:=ok.to;have e_x:=h_x.l.len;refine Wb Tryz.func293 ?_;refine go ?_;refine bx H fun g4 z H=> ?_;refine go ?_;refine st H 1 ti3 fun z H=> ?_;have b7:(x.k-1)<x.k:=Om;refine G1 ?_;refine sb [0,3] ?_;refine G8 ?_;refine yy (Y.indexLs (x.k-1) (h_x.ext H.ext).l rfl u68 ti81 rfl rfl Om b7) ?_;refine G1 ?_;refine yy (ld rfl u3 rfl (Ls.at_eq (h_x.ext H.ext).l b7 rfl)) ?_;refine go ?_;refine st H 1 ti3 fun z H=> ?_;refine go ?_;refine En ?_;exact⟨rfl,(H.drop [0])⟩
theorem evsum_ok{ids:List Int}{l:List Pk}:∀{j:Nat},fE (lch1 ids l) j=0→evsum l j≤1000*j
 |0,_=>Nat.le_refl _
 |j+1,h=>by
  have h:=fE_ok.1 h;have ih:=evsum_ok (j:=j) (fE_ok.2 fun i hi=>h i Om);have h2:tlE ids (tlN ids l j) l[j]! =0:=h j Om;have h3:l[j]!.k≤1000:=by
   unfold tlE at h2;split at h2
   ·rename_i q;exact absurd h2 q
   ·rename_i q;exact(pk_ok (Decidable.of_not_not q)).k.2
  show evsum l j+l[j]!.k≤_;omega
abbrev tlB:TlK→List Res:=fun t=>[box t.g 393 [.int .i64 t.d.nx,.int .i64 t.d.la]]
theorem lgchk_any(A_ths:Option Addr)(n_ths c_ths:Nat)(ths:List Th)(A_ds:Option Addr)(n_ds c_ds:Nat)(ds:List Dm)(A_sn:Option Addr)(n_sn c_sn:Nat)(sn:List Sn)(A_l:Option Addr)(n_l c_l:Nat)(l:List Pk)(w:World)(h_ths:Ls w A_ths n_ths c_ths Th.c 3 ths)(h_ds:Ls w A_ds n_ds c_ds Dm.c 2 ds)(h_sn:Ls w A_sn n_sn c_sn Sn.c 5 sn)(h_l:Ls w A_l n_l c_l Pk.c 4 l)(g_l:PksOk w l)(hnd:(ths.map (·.id)).Nodup)(hl:n_l≤1000):
  Cr 277 #[.agg #[.slice A_ths n_ths c_ths,.slice A_ds n_ds c_ds,.slice A_sn n_sn c_sn],.slice A_l n_l c_l] w (.int .i64 (lchE (ths.map (·.id)) l)):=by
 have H:=(Hp.nil w);have e_ths:=h_ths.len;have z_ths:=h_ths.nle;have e_ds:=h_ds.len;have z_ds:=h_ds.nle;have e_sn:=h_sn.len;have z_sn:=h_sn.nle;have e_l:=h_l.len;have z_l:=h_l.nle;refine Wb Tryz.func277 ?_;refine go ?_;refine bx H fun g2 z H=> ?_;refine go ?_;refine mm H fun g5 z H=> ?_;have H:=H.bigNil tlB;refine go ?_;refine sb [18,1,5,16,17] ?_;refine WC.loopS 1 (fun mz Ed W'=>∃j:Nat,∃tl:List TlK,mz=n_ths-j∧Ed=[(18,.int .i64 ((j:Nat):Int))]∧Hp w W' (big tlB tl::mpi g5 (pkv (tl.map tlF))::_::[])∧(j≤n_ths)∧(tl.map TlK.id=(ths.take j).map (·.id))∧(tl.map TlK.d=(ths.take j).map fun _=>default)) _ ⟨0,[],rfl,rfl,(H.pick [0,0,0]),(Nat.zero_le _),rfl,rfl⟩ ?_;rintro _ _ z ⟨j,tl,rfl,rfl,H,jl,hi,hd⟩;refine go ?_;refine Cd (fun p12=> ?_) fun p12=> ?_
 ·have b15:j<n_ths:=Om;refine go ?_;refine al H ti57 fun g16 z H=> ?_;refine st H 0 ti57 fun z H=> ?_;refine go ?_;refine bx H fun g18 z H=> ?_;refine mu H 3 u390 u3 fun z H=> ?_;have H:=H.front [0,1];have H:Hp w _ (big tlB (tl++[⟨g18,ths[j]!.id,⟨0,0⟩⟩])::_):=Hp.bigPush tlB ⟨g18,ths[j]!.id,⟨0,0⟩⟩ H;have hk:=mset_pkv_new (ks:=tl.map tlF) (x:=ths[j]!.id) (by rw[show(tl.map tlF).map (·.1)=tl.map TlK.id from by rw[List.map_map];rfl,hi];exact nodup_map_take Th.id hnd (show j<ths.length by omega)) g18;refine go ?_;exact Rs [(18,_)] Sx ⟨(j+1),(tl++[⟨g18,ths[j]!.id,⟨0,0⟩⟩]),rfl,rfl,(by rw[List.map_append];rw[show List.map tlF [(⟨g18,ths[j]!.id,⟨0,0⟩⟩:TlK)]=[(ths[j]!.id,g18)]from rfl,←hk];exact(H.pick [0,1,1])),Om,(by rw[List.map_append,hi,take_1 (show j<ths.length by omega),List.map_append];rfl),(by rw[List.map_append,hd,take_1 (show j<ths.length by omega),List.map_append];rfl)⟩
 ·refine go ?_;refine sb [30,8,5,28,29] ?_;refine WC.loopS 2 (fun mz Ed W'=>∃j:Nat,∃tm:List TlK,mz=n_l-j∧Ed=[(30,.int .i64 ((j:Nat):Int)),(8,.int .i64 ((evsum l j:Nat):Int))]∧Hp w W' (big tlB tm::mpi g5 (pkv (tm.map tlF))::_::[])∧(j≤n_l)∧(tm.map TlK.id=ths.map (·.id))∧(tm.map TlK.d=tlN (ths.map (·.id)) l j)∧(fE (lch1 (ths.map (·.id)) l) j=0)) _ ⟨0,tl,rfl,rfl,(H.pick [0,0,0]),(Nat.zero_le _),(by rw[hi,List.take_of_length_le Om]),(by rw[hd,List.take_of_length_le Om];show _=(ths.map (·.id)).map _;rw[List.map_map];rfl),rfl⟩ ?_;rintro _ _ z ⟨j,tm,rfl,rfl,H,jl,hi,hd,hp⟩;have el:=evsum_ok hp;refine go ?_;refine Cd (fun p25=> ?_) fun p25=> ?_
  ·have b28:j<n_l:=Om;refine go ?_;refine al H ti70 fun g29 z H=> ?_;refine st H 0 ti70 fun z H=> ?_;refine go ?_;refine c1 H Fh (packet_any l[j]! _ ⟨((g_l _ (mem_b (show j<l.length from Om))).ext H.ext).l,((g_l _ (mem_b (show j<l.length from Om))).ext H.ext).e⟩) fun z H=> ?_;refine go ?_;refine Cd (fun p34=> ?_) fun p34=> ?_
   ·refine go ?_;refine Rt [_] ?_;subst e_ths;subst e_l;exact⟨ret1 (vi (Eq.symm (fE_out hp (ite_to p34 rfl) p34 Om))),H.ext⟩
   ·have q:=mget_by tlF tm l[j]!.th;rw[show(tm.map fun t=>(tlF t).1)=tm.map TlK.id from rfl,hi]at q;have tn_:tm.length=(ths.map (·.id)).length:=by rw[←hi,List.length_map]
    have ok:=pk_ok (Decidable.of_not_not (fun q=>q p34));refine G6 ?_;rcases q with⟨qb,qa⟩|⟨qa,qb⟩
    ·have qa':¬(ths.map (·.id)).idxOf l[j]!.th<(ths.map (·.id)).length:=Om;refine yy (Yld.cast (Y.lookupOk rfl u390 u3 ti391 rfl rfl (fun _ h=>h▸(H.mi 2))) (by unfold mval;rw[qb];first|done|rfl)) ?_;refine G11 ?_;refine sb [5,8,10,12,28,29,30,47] ?_;refine WC.condT rfl ?_;refine go ?_;refine Rt [_] ?_;subst e_ths;subst e_l;exact⟨ret1 (vi (Eq.symm (fE_out hp (ite_no (fun q=>q p34) (ite_to qa' rfl)) Dc Om))),H.ext⟩
    ·have hkj:=ok.k.2;obtain⟨⟨g,id,nx,la⟩,hx⟩:∃x,tm[(ths.map (·.id)).idxOf l[j]!.th]! =x:=⟨_,rfl⟩;have H:=H.front [1];have H:Hp w _ (box g 393 [.int .i64 nx,.int .i64 la]::hole tlB tm ((ths.map (·.id)).idxOf l[j]!.th)::_):=Hp.bigOutX tlB ⟨g,id,nx,la⟩ hx H qa;have qa':(ths.map (·.id)).idxOf l[j]!.th<(ths.map (·.id)).length:=Om;have hT:(tlN (ths.map (·.id)) l j)[(ths.map (·.id)).idxOf l[j]!.th]! =⟨nx,la⟩:=by rw[←hd,map_b TlK.d qa,hx]
     rw[hx]at qb;refine yy (Yld.cast (Y.lookupOk rfl u390 u3 ti391 rfl rfl (fun _ h=>h▸(H.mi 3))) (by unfold mval;rw[qb];first|done|rfl)) ?_;refine go ?_;refine WC.condF rfl ?_;refine go ?_;refine c1 H Fh (follows_any _ _ _ l[j]! _ (H.b 0) ⟨((g_l _ (mem_b (show j<l.length from Om))).ext H.ext).l,((g_l _ (mem_b (show j<l.length from Om))).ext H.ext).e⟩ ok) fun z H=> ?_;refine go ?_;refine WC.cond rfl (fun h46=> ?_) (fun h46=> ?_)
     ·refine go ?_;refine Rt [_] ?_;subst e_ths;subst e_l;exact⟨ret1 (vi (Eq.symm (fE_out hp ((tlE_at hT).trans (ite_no (fun q=>q p34) (ite_no (not_not_intro qa') (ite_to (not_t h46) rfl)))) Dc Om))),H.ext⟩
     ·refine G2 ?_;refine sb [5,8,10,12,28,29,30] ?_;refine go ?_;refine c3 Fh (advance_any _ _ _ l[j]! _ _ _ (H.front [0]) (g_l _ (mem_b (show j<l.length from Om))) ok) ?_;rintro _ z ⟨rfl,H⟩;refine⟨_,rfl,?_⟩;obtain⟨tn,ht,h1,hi',hd'⟩:=tl_turn (d':=⟨l[j]!.sr+l[j]!.k,l[j]!.es[l[j]!.k-1]!.at_⟩) qa hx hi hd;have H:Hp w _ (big tlB (tm.set ((ths.map (·.id)).idxOf l[j]!.th) ⟨g,id,⟨l[j]!.sr+l[j]!.k,l[j]!.es[l[j]!.k-1]!.at_⟩⟩)::_):=Hp.bigIn tlB ⟨g,id,⟨l[j]!.sr+l[j]!.k,l[j]!.es[l[j]!.k-1]!.at_⟩⟩ H qa;rw[←ht,←h1]at H;refine go ?_;exact Rs [(30,_),(8,_)] Sx ⟨(j+1),tn,rfl,rfl,(H.pick [0,1,1]),Om,hi',hd',(fE_next hp ((tlE_at hT).trans (ite_no (fun q=>q p34) (ite_no (not_not_intro qa') (ite_no (nf_t (not_f h46)) rfl)))))⟩
  ·refine go ?_;refine Cd (fun p51=> ?_) fun p51=> ?_
   ·refine go ?_;refine Rt [_] ?_;have ej:j=l.length:=Om;subst ej;subst e_ths;subst e_l;exact⟨ret1 (vi (Eq.symm (fE_thru hp rfl (ite_to p51 rfl)))),H.ext⟩
   ·refine go ?_;refine Rt [_] ?_;have ej:j=l.length:=Om;subst ej;subst e_ths;subst e_l;exact⟨ret1 (vi (Eq.symm (fE_thru hp rfl (ite_no p51 rfl)))),H.ext⟩
abbrev poF:Pk→List Res:=fun x=>[row 81 Ev.c 6 (.slice x.A x.k x.c_) x.es]
theorem fill_any(v:Value)(ps:List Pk)(A:Option Addr)(k c:Nat)(es:List Ev)(W:World)(R:List Res)(w:World)(H:Hp W w (row 70 Pk.c 4 v ps::big poF ps::R))(hE:Ls W A k c Ev.c 6 es)(h1:1≤ps.length∧ps.length≤1000)(hl:ps[ps.length-1]!.es.length+es.length≤1000):
  Calls Tryz.prog 278 #[v,.slice A k c] w fun e w'=>∃v' q,e= .returned v'∧Hp W w' (row 70 Pk.c 4 v' (ps.set (ps.length-1) q)::big poF (ps.set (ps.length-1) q)::R)∧q.pp=⟨ps[ps.length-1]!.th,ps[ps.length-1]!.sr,ps[ps.length-1]!.ls,ps[ps.length-1]!.es++es⟩:=by
 have e_k:=hE.len;have z_k:=hE.nle;refine Wb Tryz.func278 ?_;obtain⟨A6,n7,c8,rfl,e_n7,_,_⟩:=H.op 0;subst e_n7;refine go ?_;refine sb [1,0] ?_;refine WC.loopS 1 (fun mz Ed W'=>∃A':Option Addr,∃k':Nat,∃c':Nat,∃es':List Ev,∃q:Pk,mz=2*k'∧Ed=[(1,.slice A' k' c')]∧Hp W W' (row 70 Pk.c 4 (.slice A6 ps.length c8) (ps.set (ps.length-1) q)::big poF (ps.set (ps.length-1) q)::R)∧(Ls W A' k' c' Ev.c 6 es')∧(q.es++es'=ps[ps.length-1]!.es++es)∧(q.th=ps[ps.length-1]!.th∧q.sr=ps[ps.length-1]!.sr∧q.ls=ps[ps.length-1]!.ls)) _ ⟨_,_,_,_,ps[ps.length-1]!,rfl,rfl,(by rw[set_same Om];exact H),hE,rfl,⟨rfl,rfl,rfl⟩⟩ ?_;rintro _ _ z ⟨A',k',c',es',q,rfl,rfl,H,hE',he,hq⟩;have e':=hE'.len;have eL:q.es.length+es'.length=ps[ps.length-1]!.es.length+es.length:=by rw[←List.length_append,he,List.length_append]
 refine go ?_;refine Cd (fun p11=> ?_) fun p11=> ?_
 ·have hx:(ps.set (ps.length-1) q)[(ps.length-1)]! =q:=set_b Om;have hi:(ps.length-1)<(ps.set (ps.length-1) q).length:=by rw[List.length_set];omega
  have H:=H.front [1];have H:Hp W _ (row 81 Ev.c 6 (.slice q.A q.k q.c_) q.es::hole poF (ps.set (ps.length-1) q) ((ps.length-1))::_):=Hp.bigOutX poF q hx H hi;have hv:Value.slice (ps.set (ps.length-1) q)[(ps.length-1)]!.A (ps.set (ps.length-1) q)[(ps.length-1)]!.k (ps.set (ps.length-1) q)[(ps.length-1)]!.c_= .slice q.A q.k q.c_:=by rw[hx]
  have el_q:=(H.l 0).len;have zl_q:=(H.l 0).nle;have b15:(ps.length-1)<ps.length:=Om;refine G8 ?_;refine yy (Y.indexLs (ps.length-1) (H.l 2) rfl u27 ti70 rfl rfl Om b15) ?_;refine G6 ?_;refine yy (Yld.cast (Y.load1 rfl u68 rfl rfl (Ls.at_eq (H.l 2) b15 rfl)) hv) ?_;refine go ?_;refine WC.cond rfl (fun h19=> ?_) (fun h19=> ?_)
  ·exfalso;have p:=eq_t h19;omega
  ·have p19:=(eq_f h19);refine go ?_;refine Xr H (HpC W _) (.load 0 (.load 1 (.load 2 (.load 3 (.load 5 (.load 6 (.load 7 (.alt 4 (.alt 8 (.load 9 (.load 10 (.alt 11 (.fin) (.none)))) (.none)) (.none))))))))) (H.pick [1]) fun z H=> ?_;have b21:k'≤k':=Om;refine G6 ?_;refine yx rfl (Y.sliceH k' rfl u68 ti81 rfl rfl Om (Nat.le_trans b21 (hE'.ext H.ext).le)) ?_;refine WX.yldL rfl rfl (blt rfl) rfl (H.pick [1]) (Yld.cast (Y.load1 rfl u68 rfl rfl (Ls.at_eq (H.l 2) b15 rfl)) hv) ?_;refine aplX (H.pick [1]) H 0 rfl ((hE'.ext H.ext).take b21) u68 ti81 Ev.one (by rw[List.length_take];omega) fun v22 z H=> ?_;obtain⟨A23,n24,c25,rfl,_,_,_⟩:=H.op 0;refine go ?_;refine steX (H.pick [1]) H 2 rfl ⟨q.th,q.sr,q.ls,A23,n24,c25,(q.es++(es'.take k'))⟩ b15 ti68 hx fun z H=> ?_;refine WX.nil (H.pick [1]) ?_;have b26:k'≤k':=Om;refine G1 ?_;refine sb [0,1,6] ?_;refine G3 ?_;refine yy (Y.sliceL k' rfl u68 ti81 rfl rfl Om b26) ?_;have H:Hp W _ (big poF ((ps.set (ps.length-1) q).set ((ps.length-1)) ⟨q.th,q.sr,q.ls,A23,n24,c25,(q.es++(es'.take k'))⟩)::_):=Hp.bigIn poF ⟨q.th,q.sr,q.ls,A23,n24,c25,(q.es++(es'.take k'))⟩ H hi;have H:=(H.front [1,0]);rw[set_twice]at H;refine go ?_;refine WK.roundS _ [(1,_)] Sx ?_ ⟨_,_,_,_,⟨q.th,q.sr,q.ls,A23,n24,c25,(q.es++(es'.take k'))⟩,rfl,rfl,H,(hE'.drop Nl),(by show(q.es++es'.take k')++es'.drop k'=_;rw[List.append_assoc,List.take_append_drop];exact he),hq⟩;omega
 ·refine go ?_;refine Rt [_] ?_;have e0:es'=[]:=List.length_eq_zero_iff.1 Om;subst e0;rw[List.append_nil]at he;exact⟨_,q,rfl,H,(by unfold Pk.pp;rw[hq.1,hq.2.1,hq.2.2,he])⟩
structure Gp where(id:Int)(A:Option Addr)(n c:Nat)(ps:List Pk)
instance:Inhabited Gp:=⟨⟨0,none,0,0,[]⟩⟩
def grM(x:Gp):Int×Value:=(x.id,.slice x.A x.n x.c)
def grP(x:Gp):Int×List Pp:=(x.id,x.ps.map Pk.pp)
theorem gr_none:∀{gl:List Gp} {x:Int},mget (gl.map grM) x=none→aget (gl.map grP) x=[]∧(∀u,aset (gl.map grP) x u=gl.map grP++[(x,u)])∧(∀u,mset (gl.map grM) x u=gl.map grM++[(x,u)])
 |[],x,_=>⟨rfl,fun _=>rfl,fun _=>rfl⟩
 |y::r,x,h=>by
  have h1:(if x=y.id then some (Value.slice y.A y.n y.c)else mget (r.map grM) x)=none:=h;by_cases q:x=y.id
  ·grind
  ·rw[if_neg q]at h1;obtain⟨a,b,c⟩:=gr_none h1;refine⟨(if_neg q).trans a,fun u=>(if_neg q).trans ?_,fun u=>(if_neg q).trans ?_⟩
   ·rw[b];rfl
   ·rw[c];rfl
theorem gr_some:∀{gl:List Gp} {x:Int} {v:Value},mget (gl.map grM) x=some v→∃i,i<gl.length∧gl[i]!.id=x∧v= .slice gl[i]!.A gl[i]!.n gl[i]!.c∧aget (gl.map grP) x=gl[i]!.ps.map Pk.pp∧(∀u,aset (gl.map grP) x u=(gl.map grP).set i (x,u))∧(∀u,mset (gl.map grM) x u=(gl.map grM).set i (x,u))
 |[],x,v,h=>by cases h
 |y::r,x,v,h=>by
  have h1:(if x=y.id then some (Value.slice y.A y.n y.c)else mget (r.map grM) x)=some v:=h;by_cases q:x=y.id
  ·rw[if_pos q]at h1;injection h1 with h1
   subst q;exact⟨0,Nat.succ_pos _,rfl,h1.symm,if_pos rfl,fun u=>if_pos rfl,fun u=>if_pos rfl⟩
  ·rw[if_neg q]at h1;obtain⟨i,a,b,c,d,e,f⟩:=gr_some h1;refine⟨i+1,Nat.succ_lt_succ a,b,c,(if_neg q).trans d,fun u=>(if_neg q).trans ?_,fun u=>(if_neg q).trans ?_⟩
   ·rw[e];rfl
   ·rw[f];rfl
def GrOk(l:List Pk)(G:List (Int×List Pp))(j:Nat):Prop:=∀x∈G,x.2.length≤j∧∀q∈x.2,q.es.length≤evsum l j∧∀e∈q.es,∃p∈l,e∈p.es
theorem aget_mem:∀(G:List (Int×List Pp)) (x:Int),aget G x=[]∨∃y∈G,y.2=aget G x
 |[],_=>.inl rfl
 |(k,v)::r,x=>by
  by_cases q:x=k
  ·exact .inr ⟨(k,v),List.mem_cons_self,(if_pos q).symm⟩
  ·have e:aget ((k,v)::r) x=aget r x:=if_neg q;rw[e];exact(aget_mem r x).imp id fun⟨y,h,h'⟩=>⟨y,List.mem_cons_of_mem _ h,h'⟩
theorem aset_mem:∀{G:List (Int×List Pp)} {x:Int} {u:List Pp} {y:Int×List Pp},y∈aset G x u→y∈G∨y=(x,u)
 |[],x,u,y,h=>.inr (List.mem_singleton.1 h)
 |(k,v)::r,x,u,y,h=>by
  by_cases q:x=k
  ·have e:aset ((k,v)::r) x u=(k,u)::r:=if_pos q;grind
  ·have e:aset ((k,v)::r) x u=(k,v)::aset r x u:=if_neg q;rw[e]at h;rcases List.mem_cons.1 h with h|h
   ·grind
   ·exact(aset_mem h).imp (List.mem_cons_of_mem _) id
theorem evsum_mono(l:List Pk)(j:Nat):evsum l (j+1)=evsum l j+l[j]!.k:=rfl
theorem ppOpen_ok{l:List Pk}{o:List Pp}{j:Nat}{p:Pk}(h:o.length≤j∧∀q∈o,q.es.length≤evsum l j∧∀e∈q.es,∃p∈l,e∈p.es):1≤(ppOpen o p).length∧(ppOpen o p).length≤j+1∧∀q∈ppOpen o p,q.es.length≤evsum l j∧∀e∈q.es,∃p∈l,e∈p.es:=by
 unfold ppOpen;grind
theorem grN_ok{l:List Pk}(hk:∀p∈l,p.es.length=p.k):∀j,j≤l.length→GrOk l (grN l j) j
 |0,_=>fun x hx=>by cases hx
 |j+1,hj=>by
  have ih:=grN_ok hk j Om;have hm:=mem_b (show j<l.length from hj);have hkj:=hk _ hm;intro x hx;have key:(aget (grN l j) l[j]!.th).length≤j∧∀q∈aget (grN l j) l[j]!.th,q.es.length≤evsum l j∧∀e∈q.es,∃p∈l,e∈p.es:=by
   rcases aget_mem (grN l j) l[j]!.th with h|⟨y,hy,e⟩
   ·grind
   ·rw[←e];exact ih y hy
  obtain⟨k1,k2,k3⟩:=ppOpen_ok (p:=l[j]!) key;have hx':x∈aset (grN l j) l[j]!.th (ppPut (aget (grN l j) l[j]!.th) l[j]!):=hx;rw[evsum_mono];rcases aset_mem hx' with h|rfl
  ·have:=ih x h;grind
  ·refine⟨by show(List.set _ _ _).length≤_;grind,fun q hq=> ?_⟩;have hq':q∈List.set _ _ _:=hq;grind
theorem evsum_le_all(l:List Pk)(j:Nat):∀n,j≤n→evsum l j≤evsum l n
 |0,h=>by grind
 |n+1,h=>by
  rcases Nat.lt_or_eq_of_le h with h|rfl
  ·exact Nat.le_trans (evsum_le_all l j n Om) (Nat.le_add_right _ _)
  omega
theorem put_pp{ps:List Pk}{own:List Pp}{p:Pk}{q:Pk}(h:ps.map Pk.pp=ppOpen own p)(h1:1≤ps.length)(hq:q.pp=⟨ps[ps.length-1]!.th,ps[ps.length-1]!.sr,ps[ps.length-1]!.ls,ps[ps.length-1]!.es++p.es⟩):(ps.set (ps.length-1) q).map Pk.pp=ppPut own p:=by
 have hl:(ppOpen own p).length=ps.length:=by grind
 have hb:(ppOpen own p)[ps.length-1]! =ps[ps.length-1]!.pp:=by grind
 show _=List.set _ _ _;rw[List.map_set,h,hq,hl,hb];rfl
theorem gr_ls{w:World}{e1 e2:TypeId}{gl:List Gp}(h:(big (fun x:Gp=>[row e1 Pk.c 4 (.slice x.A x.n x.c) x.ps,big (fun p:Pk=>[row e2 Ev.c 6 (.slice p.A p.k p.c_) p.es]) x.ps]) gl).holds w){x:Gp}(hx:x∈gl){p:Pk}(hp:p∈x.ps):Ls w p.A p.k p.c_ Ev.c 6 p.es:=by
 have h1:=h.1 (big (fun p:Pk=>[row e2 Ev.c 6 (.slice p.A p.k p.c_) p.es]) x.ps) (List.mem_flatMap.2 ⟨x,hx,List.mem_cons_of_mem _ List.mem_cons_self⟩);have h2:=h1.1 (row e2 Ev.c 6 (.slice p.A p.k p.c_) p.es) (List.mem_flatMap.2 ⟨p,hp,List.mem_cons_self⟩);exact OwnL.ls h2 (fun _=>rfl) Dc
theorem lgN_es{ths:List Th}{l:List Pk}(hk:∀p∈l,p.es.length=p.k):∀j,∀q∈lgN ths l j,∀e∈q.es,∃p∈l,e∈p.es
 |0,q,hq=>by cases hq
 |j+1,q,hq=>by
  have hq':q∈lgN ths l j++aget (grN l l.length) ths[j]!.id:=hq;rcases List.mem_append.1 hq' with h|h
  ·exact lgN_es hk j q h
  ·rcases aget_mem (grN l l.length) ths[j]!.id with h'|⟨y,hy,e⟩
   ·grind
   ·rw[←e]at h;exact((grN_ok hk l.length Nl y hy).2 q h).2
theorem hd_nodup{ths:List Th}{d:List Dm}{s:List Sn}(h:hdE ths d s=0):(ths.map (·.id)).Nodup:=by
 unfold hdE at h;split at h
 ·cases h
 split at h
 ·cases h
 split at h
 ·rename_i q;omega
 rename_i q;have q:=fE_ok.1 (Decidable.of_not_not q);have key:∀j,j≤ths.length→((ths.take j).map (·.id)).Nodup:=by
  intro j
  induction j with
  |zero=>grind
  |succ j ih=>
   intro hj;rw[take_1 hj,List.map_append,List.nodup_append];refine⟨ih Om,by simp,fun a ha b hb e=> ?_⟩;grind [List.mem_singleton,th1,getElem!]
 have:=key ths.length Nl;grind
abbrev grF:Gp→List Res:=fun x=>[row 70 Pk.c 4 (.slice x.A x.n x.c) x.ps,big poF x.ps]
theorem evsum_up(l:List Pk){j:Nat}(h:j<l.length):evsum l (j+1)≤evsum l l.length:=evsum_le_all l (j+1) l.length h
theorem lgOf_any(A_ths:Option Addr)(n_ths c_ths:Nat)(ths:List Th)(A_ds:Option Addr)(n_ds c_ds:Nat)(ds:List Dm)(A_sn:Option Addr)(n_sn c_sn:Nat)(sn:List Sn)(A_l:Option Addr)(n_l c_l:Nat)(l:List Pk)(w:World)(h_ths:Ls w A_ths n_ths c_ths Th.c 3 ths)(h_ds:Ls w A_ds n_ds c_ds Dm.c 2 ds)(h_sn:Ls w A_sn n_sn c_sn Sn.c 5 sn)(h_l:Ls w A_l n_l c_l Pk.c 4 l)(g_l:PksOk w l)(hk:∀x∈l,x.k≤1000000)(hl:n_l≤1000)(ht:n_ths≤1000)(he:evsum l l.length≤1000):
  Calls Tryz.prog 264 #[.agg #[.slice A_ths n_ths c_ths,.slice A_ds n_ds c_ds,.slice A_sn n_sn c_sn],.slice A_l n_l c_l] w fun e w'=>∃x1 x2 x3 x4,e= .returned (.tuple #[.agg #[x1,x2,x3,x4],.int .i64 (ofE ths ds sn l)])∧Ext w w'∧(ofE ths ds sn l=0→∃A n c ps,x1= .slice A_ths n_ths c_ths∧x2= .slice A_ds n_ds c_ds∧x3= .slice A_sn n_sn c_sn∧x4= .slice A n c∧Ls w' A n c Pk.c 4 ps∧PksOk w' ps∧ps.map Pk.pp=lgParts ths l)∧(ofE ths ds sn l≠0→x1= .slice none 0 0∧x2= .slice none 0 0∧x3= .slice none 0 0∧x4= .slice none 0 0):=by
 have H:=(Hp.nil w);have e_ths:=h_ths.len;have z_ths:=h_ths.nle;have e_ds:=h_ds.len;have z_ds:=h_ds.nle;have e_sn:=h_sn.len;have z_sn:=h_sn.nle;have e_l:=h_l.len;have z_l:=h_l.nle;have hkl:∀p∈l,p.es.length=p.k:=fun p hp=>(g_l p hp).l.len;refine Wb Tryz.func264 ?_;refine go ?_;refine bx H fun g2 z H=> ?_;refine al H ti29 fun g4 z H=> ?_;refine go ?_;refine c1 H Fh (head_any _ _ _ _ _ _ _ _ _ _ _ _ _ (h_ths.ext H.ext) (h_ds.ext H.ext) (h_sn.ext H.ext)) fun z H=> ?_;refine go ?_;refine Cd (fun p9=> ?_) fun p9=> ?_
 ·refine go ?_;refine st H 0 ti29 fun z H=> ?_;refine go ?_;refine WK.ret [_,_] rfl ⟨⟨_,rfl,run_loadVar_blk u29 rfl ti29 (H.b 0)⟩,rfl,trivial⟩ ?_;exact⟨_,_,_,_,(by rw[show ofE ths ds sn l=_ from(ite_to p9 rfl)];exact rfl),H.ext,fun h=>absurd h (by rw[show ofE ths ds sn l=_ from(ite_to p9 rfl)];exact p9),fun _=>⟨rfl,rfl,rfl,rfl⟩⟩
 ·refine go ?_;refine c1 H Fh (lgchk_any _ _ _ _ _ _ _ _ _ _ _ _ _ _ _ _ _ (h_ths.ext H.ext) (h_ds.ext H.ext) (h_sn.ext H.ext) (h_l.ext H.ext) (g_l.ext H.ext) (hd_nodup (Decidable.of_not_not (fun q=>q p9))) hl) fun z H=> ?_;refine go ?_;refine Cd (fun p14=> ?_) fun p14=> ?_
  ·refine go ?_;refine st H 0 ti29 fun z H=> ?_;refine go ?_;refine WK.ret [_,_] rfl ⟨⟨_,rfl,run_loadVar_blk u29 rfl ti29 (H.b 0)⟩,rfl,trivial⟩ ?_;exact⟨_,_,_,_,(by rw[show ofE ths ds sn l=_ from(ite_no (fun q=>q p9) rfl)];exact rfl),H.ext,fun h=>absurd h (by rw[show ofE ths ds sn l=_ from(ite_no (fun q=>q p9) rfl)];exact p14),fun _=>⟨rfl,rfl,rfl,rfl⟩⟩
  ·refine G2 ?_;refine sb [1,2,4] ?_;refine go ?_;refine mm H fun g17 z H=> ?_;have H:=H.bigNil grF;refine go ?_;refine sb [31,2,4,8,29,30] ?_;refine WC.loopS 1 (fun mz Ed W'=>∃j:Nat,∃gl:List Gp,mz=n_l-j∧Ed=[(31,.int .i64 ((j:Nat):Int))]∧Hp w W' (big grF gl::mpi g17 (gl.map grM)::_::_::[])∧(j≤n_l)∧(gl.map grP=grN l j)) _ ⟨0,[],rfl,rfl,(H.pick [0,0,0,0]),(Nat.zero_le _),rfl⟩ ?_;rintro _ _ z ⟨j,gl,rfl,rfl,H,jl,hg⟩;refine go ?_;refine Cd (fun p24=> ?_) fun p24=> ?_
   ·have b27:j<n_l:=Om;refine go ?_;refine al H ti70 fun g28 z H=> ?_;refine st H 0 ti70 fun z H=> ?_;have gk:=grN_ok hkl j Om;have hm:=mem_b (show j<l.length by omega);have gx:(aget (grN l j) l[j]!.th).length≤j∧∀q∈aget (grN l j) l[j]!.th,q.es.length≤evsum l j∧∀e∈q.es,∃p∈l,e∈p.es:=by
     rcases aget_mem (grN l j) l[j]!.th with h|⟨y,hy,e⟩
     ·rw[h];exact⟨Nat.zero_le _,fun q hq=>by cases hq⟩
     ·rw[←e];exact gk y hy
    refine G5 ?_;rcases hq:mget (gl.map grM) l[j]!.th with _|v
    ·obtain⟨ga,gb,gc⟩:=gr_none hq;have hown:([]:List Pk).map Pk.pp=aget (grN l j) l[j]!.th:=by rw[←hg,ga];rfl
     have H:=(H.nilRow 70 Pk.c 4).front [0];have H:=H.bigNil poF;refine yy (Yld.cast (Y.lookup rfl u376 u3 ti27 rfl rfl (fun _ h=>h▸(H.mi 4))) (by unfold mval;rw[hq];first|done|rfl)) ?_;refine go ?_;refine WC.cond rfl (fun h35=> ?_) (fun h35=> ?_)
     ·have p35:=((or_t h35).imp (fun h=>(dec_t h)) (fun h=>(eq_t h)));refine go ?_;refine bs1 H u27 ti70 fun g36 z H=> ?_;refine ap H 2 0 rfl [(⟨l[j]!.th,l[j]!.sr,l[j]!.ls,none,0,0,[]⟩:Pk)] u27 ti70 rfl Pk.one (show 0+1≤1000000 by decide) fun v38 z H=> ?_;have H:=H.nilRow 81 Ev.c 6;have H:=H.front [0,1];have H:Hp w _ (big poF ([]++[(⟨l[j]!.th,l[j]!.sr,l[j]!.ls,none,0,0,[]⟩:Pk)])::_):=Hp.bigPush poF (⟨l[j]!.th,l[j]!.sr,l[j]!.ls,none,0,0,[]⟩:Pk) H;have hop:List.map Pk.pp ([]++[(⟨l[j]!.th,l[j]!.sr,l[j]!.ls,none,0,0,[]⟩:Pk)])=ppOpen (aget (grN l j) l[j]!.th) l[j]! :=by rw[←hown];exact(List.map_append).trans (Eq.symm (if_pos (.inr rfl)))
      obtain⟨P,hP⟩:∃P:List Pk,P=([]++[(⟨l[j]!.th,l[j]!.sr,l[j]!.ls,none,0,0,[]⟩:Pk)]):=⟨_,rfl⟩;rw[←hP]at H hop;obtain⟨k1,k2,k3⟩:=ppOpen_ok (p:=l[j]!) gx;rw[←hop,List.length_map]at k1 k2;have k4:P[(P).length-1]!.es.length≤evsum l j:=(k3 P[(P).length-1]!.pp (by rw[←hop];exact List.mem_map_of_mem (mem_b Om))).1;have k5:=hkl _ hm;have k6:evsum l (j+1)≤1000:=Nat.le_trans (evsum_up l Om) he;rw[evsum_mono]at k6;obtain⟨A40,n41,c42,rfl,_,_,_⟩:=H.op 2;refine go ?_;refine Xr H (HpC w _) (.load 0 (.load 1 (.load 2 (.load 3 (.load 4 (.load 5 (.alt 6 (.alt 7 (.fin) (.none)) (.none)))))))) (H.pick [1,2,2,3,3]) fun z H=> ?_;refine go ?_;refine c3X (H.pick [1,2,2,3,3]) Fh (fill_any _ P _ _ _ l[j]!.es _ _ _ (H.front [2,0]) (g_l _ hm).l ⟨k1,Om⟩ Om) ?_;rintro _ z ⟨v43,q44,rfl,H,hq44⟩;refine⟨_,rfl,?_⟩;obtain⟨A45,n46,c47,rfl,_,_,_⟩:=H.op 0;refine muX (H.pick [2,2,2,3,3]) H 5 u376 u3 fun z H=> ?_;refine WX.nil (H.pick [2,2,2,3,3]) ?_;have hpp:=put_pp hop k1 hq44;have H:=H.front [0,0,2];have H:Hp w _ (big grF (gl++[⟨l[j]!.th,A45,n46,c47,(List.set P (List.length P-1) q44)⟩])::_):=Hp.bigPush grF ⟨l[j]!.th,A45,n46,c47,(List.set P (List.length P-1) q44)⟩ H;refine G2 ?_;refine sb [2,4,8,29,30,31] ?_;refine go ?_;exact Rs [(31,_)] Sx ⟨(j+1),(gl++[⟨l[j]!.th,A45,n46,c47,(List.set P (List.length P-1) q44)⟩]),rfl,rfl,(by rw[List.map_append];rw[show List.map grM [(⟨l[j]!.th,A45,n46,c47,(List.set P (List.length P-1) q44)⟩:Gp)]=[(l[j]!.th,.slice A45 n46 c47)]from rfl,←gc];exact(H.pick [0,2,2,2])),Om,(by rw[List.map_append];show _=aset (grN l j) l[j]!.th (ppPut (aget (grN l j) l[j]!.th) l[j]!);rw[←hpp,←hg,gb];rfl)⟩
     ·exact absurd (or_f h35).2 Dc
    ·obtain⟨i,gi,gid,rfl,ga,gb,gc⟩:=gr_some hq;obtain⟨⟨id,A,n,c,ps⟩,hx⟩:∃x,gl[i]! =x:=⟨_,rfl⟩;rw[hx]at gid ga hq;dsimp only at gid ga hq;have hown:ps.map Pk.pp=aget (grN l j) l[j]!.th:=by rw[←hg,ga]
     have lps:ps.length≤j:=by rw[←List.length_map (f:=Pk.pp),hown];exact gx.1
     have H:=H.front [1];have H:Hp w _ (row 70 Pk.c 4 (.slice A n c) ps::big poF ps::hole grF gl (i)::_):=Hp.bigOutX grF ⟨id,A,n,c,ps⟩ hx H gi;have en:=(H.l 0).len;have zn:=(H.l 0).nle;refine yy (Yld.cast (Y.lookup rfl u376 u3 ti27 rfl rfl (fun _ h=>h▸(H.mi 4))) (by unfold mval;rw[hq];first|done|rfl)) ?_;refine go ?_;refine Cd (fun p53=> ?_) fun p53=> ?_
     ·refine go ?_;refine bs1 H u27 ti70 fun g54 z H=> ?_;refine ap H 1 0 rfl [(⟨l[j]!.th,l[j]!.sr,l[j]!.ls,none,0,0,[]⟩:Pk)] u27 ti70 rfl Pk.one (room_le lps (Nat.le_refl 1) Om) fun v56 z H=> ?_;have H:=H.nilRow 81 Ev.c 6;have H:=H.front [0,2];have H:Hp w _ (big poF (ps++[(⟨l[j]!.th,l[j]!.sr,l[j]!.ls,none,0,0,[]⟩:Pk)])::_):=Hp.bigPush poF (⟨l[j]!.th,l[j]!.sr,l[j]!.ls,none,0,0,[]⟩:Pk) H;have hop:List.map Pk.pp (ps++[(⟨l[j]!.th,l[j]!.sr,l[j]!.ls,none,0,0,[]⟩:Pk)])=ppOpen (aget (grN l j) l[j]!.th) l[j]! :=by rw[←hown];exact(List.map_append).trans (Eq.symm (if_pos (show l[j]!.ls>0∨(ps.map Pk.pp).length=0 from(show l[j]!.ls>0∨((n:Nat):Int)=0 from p53).imp (fun h=>h) fun h=>by rw[List.length_map];omega)))
      obtain⟨P,hP⟩:∃P:List Pk,P=(ps++[(⟨l[j]!.th,l[j]!.sr,l[j]!.ls,none,0,0,[]⟩:Pk)]):=⟨_,rfl⟩;rw[←hP]at H hop;obtain⟨k1,k2,k3⟩:=ppOpen_ok (p:=l[j]!) gx;rw[←hop,List.length_map]at k1 k2;have k4:P[(P).length-1]!.es.length≤evsum l j:=(k3 P[(P).length-1]!.pp (by rw[←hop];exact List.mem_map_of_mem (mem_b Om))).1;have k5:=hkl _ hm;have k6:evsum l (j+1)≤1000:=Nat.le_trans (evsum_up l Om) he;rw[evsum_mono]at k6;obtain⟨A58,n59,c60,rfl,_,_,_⟩:=H.op 2;refine go ?_;refine Xr H (HpC w _) (.load 0 (.load 1 (.load 2 (.load 3 (.load 4 (.load 5 (.alt 6 (.alt 7 (.fin) (.none)) (.none)))))))) (H.pick [1,2,2,3,3]) fun z H=> ?_;refine go ?_;refine c3X (H.pick [1,2,2,3,3]) Fh (fill_any _ P _ _ _ l[j]!.es _ _ _ (H.front [2,0]) (g_l _ hm).l ⟨k1,Om⟩ Om) ?_;rintro _ z ⟨v61,q62,rfl,H,hq62⟩;refine⟨_,rfl,?_⟩;obtain⟨A63,n64,c65,rfl,_,_,_⟩:=H.op 0;refine muX (H.pick [2,2,2,3,3]) H 5 u376 u3 fun z H=> ?_;refine WX.nil (H.pick [2,2,2,3,3]) ?_;have hpp:=put_pp hop k1 hq62;have H:=H.front [0,0,1];have H:Hp w _ (big grF (gl.set (i) ⟨l[j]!.th,A63,n64,c65,(List.set P (List.length P-1) q62)⟩)::_):=Hp.bigIn grF ⟨l[j]!.th,A63,n64,c65,(List.set P (List.length P-1) q62)⟩ H gi;refine go ?_;exact Rs [(31,_)] Sx ⟨(j+1),(gl.set i ⟨l[j]!.th,A63,n64,c65,(List.set P (List.length P-1) q62)⟩),rfl,rfl,(by rw[List.map_set];rw[show grM (⟨l[j]!.th,A63,n64,c65,(List.set P (List.length P-1) q62)⟩:Gp)=(l[j]!.th,.slice A63 n64 c65)from rfl,←gc];exact(H.pick [0,2,2,2])),Om,(by rw[List.map_set];show _=aset (grN l j) l[j]!.th (ppPut (aget (grN l j) l[j]!.th) l[j]!);rw[←hpp,←hg,gb];rfl)⟩
     ·have hop:List.map Pk.pp ps=ppOpen (aget (grN l j) l[j]!.th) l[j]! :=by rw[←hown];exact Eq.symm (if_neg fun q:l[j]!.ls>0∨(ps.map Pk.pp).length=0=>(show¬(l[j]!.ls>0∨((n:Nat):Int)=0)from(fun q=>q.elim p53.1 p53.2)) (q.imp (fun h=>h) fun h=>by rw[List.length_map]at h;omega))
      obtain⟨P,hP⟩:∃P:List Pk,P=ps:=⟨_,rfl⟩;rw[←hP]at H hop;obtain⟨k1,k2,k3⟩:=ppOpen_ok (p:=l[j]!) gx;rw[←hop,List.length_map]at k1 k2;have k4:P[(P).length-1]!.es.length≤evsum l j:=(k3 P[(P).length-1]!.pp (by rw[←hop];exact List.mem_map_of_mem (mem_b Om))).1;have k5:=hkl _ hm;have k6:evsum l (j+1)≤1000:=Nat.le_trans (evsum_up l Om) he;rw[evsum_mono]at k6;refine G2 ?_;refine sb [2,4,8,10,11,29,30,31] ?_;refine Xr H (HpC w _) (.load 0 (.load 1 (.load 2 (.load 3 (.load 4 (.load 5 (.alt 6 (.alt 7 (.fin) (.none)) (.none)))))))) (H.pick [2,2,3,3]) fun z H=> ?_;refine go ?_;refine c3X (H.pick [2,2,3,3]) Fh (fill_any _ P _ _ _ l[j]!.es _ _ _ (H.front [0,0]) (g_l _ hm).l ⟨k1,Om⟩ Om) ?_;rintro _ z ⟨v66,q67,rfl,H,hq67⟩;refine⟨_,rfl,?_⟩;obtain⟨A68,n69,c70,rfl,_,_,_⟩:=H.op 0;refine muX (H.pick [2,2,3,3]) H 4 u376 u3 fun z H=> ?_;refine WX.nil (H.pick [2,2,3,3]) ?_;have hpp:=put_pp hop k1 hq67;have H:Hp w _ (big grF (gl.set (i) ⟨l[j]!.th,A68,n69,c70,(List.set P (List.length P-1) q67)⟩)::_):=Hp.bigIn grF ⟨l[j]!.th,A68,n69,c70,(List.set P (List.length P-1) q67)⟩ H gi;refine go ?_;exact Rs [(31,_)] Sx ⟨(j+1),(gl.set i ⟨l[j]!.th,A68,n69,c70,(List.set P (List.length P-1) q67)⟩),rfl,rfl,(by rw[List.map_set];rw[show grM (⟨l[j]!.th,A68,n69,c70,(List.set P (List.length P-1) q67)⟩:Gp)=(l[j]!.th,.slice A68 n69 c70)from rfl,←gc];exact(H.pick [0,1,1,1])),Om,(by rw[List.map_set];show _=aset (grN l j) l[j]!.th (ppPut (aget (grN l j) l[j]!.th) l[j]!);rw[←hpp,←hg,gb];rfl)⟩
   ·refine go ?_;refine al H ti29 fun g72 z H=> ?_;refine st H 0 ti29 fun z H=> ?_;obtain rfl:j=l.length:=Om;have H:=H.nilRow 70 Pk.c 4;refine go ?_;refine sb [70,4,8,12,68,69] ?_;refine WC.loopS 1 (fun mz Ed W'=>∃i:Nat,∃v:Value,∃os:List Pk,mz=n_ths-i∧Ed=[(70,.int .i64 ((i:Nat):Int))]∧Hp w W' (row 70 Pk.c 4 v os::box g72 29 [.slice A_ths n_ths c_ths,.slice A_ds n_ds c_ds,.slice A_sn n_sn c_sn,v]::_::_::_::_::[])∧(i≤n_ths)∧(∀p∈os,∃x∈gl,p∈x.ps)∧(os.map Pk.pp=lgN ths l i)∧(os.length≤1000*i)) _ ⟨0,_,[],rfl,rfl,(H.pick [0,0,0,0,0,0]),(Nat.zero_le _),(fun p hp=>by cases hp),rfl,(Nat.zero_le _)⟩ ?_;rintro _ _ z ⟨i,v,os,rfl,rfl,H,il,ho,hN,hol⟩;have gok:=hg▸grN_ok hkl l.length Nl;refine go ?_;refine Cd (fun p79=> ?_) fun p79=> ?_
    ·have b82:i<n_ths:=Om;refine go ?_;refine al H ti57 fun g83 z H=> ?_;refine st H 0 ti57 fun z H=> ?_;refine G7 ?_;rcases hq:mget (gl.map grM) ths[i]!.id with _|v1
     ·obtain⟨ga,gb,gc⟩:=gr_none hq;refine yy (Yld.cast (Y.lookup rfl u376 u3 ti27 rfl rfl (fun _ h=>h▸(H.mi 4))) (by unfold mval;rw[hq];first|done|rfl)) ?_;refine apl H 1 rfl (Ls.nil (show 0≤maxLen by decide)) u27 ti70 Pk.one (room_le hol (Nat.zero_le 0) Om) fun v85 z H=> ?_;obtain⟨A86,n87,c88,rfl,_,_,_⟩:=H.op 1;refine go ?_;refine st H 2 ti27 fun z H=> ?_;refine go ?_;exact Rs [(70,_)] Sx ⟨(i+1),(.slice A86 n87 c88),(os++[]),rfl,rfl,(H.pick [1,1,1,1,1,1]),Om,(fun p hp=>(List.mem_append.1 hp).elim (ho p) fun h=>by cases h),(by rw[List.map_append,hN];show _=lgN ths l i++aget (grN l l.length) _;rw[←hg,ga];first|done|rfl),(by rw[List.length_append];show os.length+0≤_;omega)⟩
     ·obtain⟨k,gi,gid,rfl,ga,gb,gc⟩:=gr_some hq;have hgm:=mem_b gi;obtain⟨⟨id,A,n,c,ps⟩,hx⟩:∃x,gl[k]! =x:=⟨_,rfl⟩;rw[hx]at gid ga hq hgm;dsimp only at gid ga hq;have H:=H.front [3];have H:Hp w _ (row 70 Pk.c 4 (.slice A n c) ps::big poF ps::hole grF gl (k)::_):=Hp.bigOutX grF ⟨id,A,n,c,ps⟩ hx H gi;have lp:ps.length≤1000:=by have:=(gok _ (List.mem_map_of_mem hgm)).1;rw[show(grP ⟨id,A,n,c,ps⟩).2=ps.map Pk.pp from rfl,List.length_map]at this;omega
      refine yy (Yld.cast (Y.lookup rfl u376 u3 ti27 rfl rfl (fun _ h=>h▸(H.mi 6))) (by unfold mval;rw[hq];first|done|rfl)) ?_;refine apl H 4 rfl (H.l 0) u27 ti70 Pk.one (room_le hol lp Om) fun v92 z H=> ?_;obtain⟨A93,n94,c95,rfl,_,_,_⟩:=H.op 4;refine go ?_;refine st H 5 ti27 fun z H=> ?_;have H:Hp w _ (big grF gl::_):=Hp.bigBack grF ⟨id,A,n,c,ps⟩ hx H gi;refine go ?_;exact Rs [(70,_)] Sx ⟨(i+1),(.slice A93 n94 c95),(os++ps),rfl,rfl,(H.pick [2,2,0,1,1,1]),Om,(fun p hp=>(List.mem_append.1 hp).elim (ho p) fun h=>⟨_,hgm,h⟩),(by rw[List.map_append,hN];show _=lgN ths l i++aget (grN l l.length) _;rw[←hg,ga];first|done|rfl),(by rw[List.length_append];omega)⟩
    ·obtain⟨A97,n98,c99,rfl,_,_,_⟩:=H.op 0;refine G5 ?_;refine sb [4,12] ?_;refine go ?_;refine st H 4 ti29 fun z H=> ?_;refine go ?_;refine WK.ret [_,_] rfl ⟨⟨_,rfl,run_loadVar_blk u29 rfl ti29 (H.b 4)⟩,rfl,trivial⟩ ?_;refine⟨_,_,_,_,(by rw[show ofE ths ds sn l=0 from(ite_no (fun q=>q p9) (Decidable.of_not_not (fun q=>q p14)))];exact rfl),H.ext,fun _=>⟨A97,n98,c99,os,rfl,rfl,rfl,rfl,H.l 0,fun p hp=> ?_,by rw[hN];unfold lgParts;congr 1;omega⟩,fun h=>absurd (show ofE ths ds sn l=0 from(ite_no (fun q=>q p9) (Decidable.of_not_not (fun q=>q p14)))) h⟩;obtain⟨x,hx,hpx⟩:=ho p hp;refine⟨gr_ls (H.get (k:=2) rfl) hx hpx,fun e he=> ?_⟩;obtain⟨p2,h2,h3⟩:=lgN_es (ths:=ths) hkl i p.pp (by rw[←hN];exact List.mem_map_of_mem hp) e he;exact((g_l _ h2).ext H.ext).e e h3
theorem thSame_refl(x:Th):thSame x x=true:=by grind [thSame,beqB_self]
theorem dmSame_refl(x:Dm):dmSame x x=true:=by unfold dmSame;simp
theorem snSame_refl(x:Sn):snSame x x=true:=by unfold snSame;simp
theorem lg_same{t:List Th}{d:List Dm}{s:List Sn}{l m:List Pk}:lgSame t t d d s s l m=eqW ppSame (l.map Pk.pp) (m.map Pk.pp):=by
 unfold lgSame;rw[eqW_refl thSame_refl,eqW_refl dmSame_refl,eqW_refl snSame_refl];exact eqW_map (p:=ppSame) Pk.pp l m
structure Ix where(th sr:Int)
instance:Inhabited Ix:=⟨⟨0,0⟩⟩
def Ix.c(x:Ix):List Value:=[.int .i64 x.th,.int .i64 x.sr]
theorem Ix.one(x:Ix):∀u∈x.c,u.oneCell'=true:=by simp[Ix.c,Value.oneCell']
def idsK(p:Pk)(i:Nat):List Ix:=(List.range i).map fun k:Nat=>⟨p.th,p.sr+(k:Int)⟩
theorem idsK_next(p:Pk)(i:Nat):idsK p (i+1)=idsK p i++[⟨p.th,p.sr+(i:Int)⟩]:=by simp_all [idsK,List.range_succ,List.map_append]
theorem idsK_len(p:Pk)(i:Nat):(idsK p i).length=i:=by simp[idsK]
def idsN(l:List Pk)(j:Nat):List Ix:=fN (fun out p=>out++idsK p p.k) [] l j
theorem idsN_next(l:List Pk)(j:Nat):idsN l (j+1)=idsN l j++idsK l[j]! l[j]!.k:=rfl
theorem idsN_len{l:List Pk}:∀j,(idsN l j).length=evsum l j
 |0=>rfl
 |j+1=>by rw[idsN_next,List.length_append,idsK_len,idsN_len j,evsum_mono]
def idsOf(l:List Pk):List Ix:=idsN l l.length
def idsF(ths:List Th)(d:List Dm)(s:List Sn)(l:List Pk):List Ix:=if lgE ths d s l≠0 then[]else idsOf l
theorem idsF_bad{ths:List Th}{d:List Dm}{s:List Sn}{l:List Pk}(h:lgE ths d s l≠0):idsF ths d s l=[]:=if_pos h
theorem idsF_ok{ths:List Th}{d:List Dm}{s:List Sn}{l:List Pk}(h:lgE ths d s l=0):idsF ths d s l=idsOf l:=if_neg (not_not_intro h)
theorem lg_pk{ths:List Th}{d:List Dm}{s:List Sn}{l:List Pk}(h:lgE ths d s l=0):ofE ths d s l=0∧eqW ppSame (lgParts ths l) (l.map Pk.pp)=true:=by
 unfold lgE at h;grind
theorem of_zero{ths:List Th}{d:List Dm}{s:List Sn}{l:List Pk}(h:ofE ths d s l=0):hdE ths d s=0∧lchE (ths.map (·.id)) l=0:=by
 unfold ofE at h;omega
theorem lch_zero{ids:List Int}{l:List Pk}(h:lchE ids l=0):∀j,j<l.length→lch1 ids l j=0:=by
 unfold lchE at h;split at h<;>simp_all [absurd,fE_ok,Decidable.of_not_not]
theorem lg_pkok{ths:List Th}{d:List Dm}{s:List Sn}{l:List Pk}(h:lgE ths d s l=0):∀p∈l,PkOk p:=by
 intro p hp;obtain⟨j,hj,e⟩:=List.mem_iff_getElem.1 hp;have:=lch_zero (of_zero (lg_pk h).1).2 j hj;have h2:tlE (ths.map (·.id)) (tlN (ths.map (·.id)) l j) l[j]! =0:=this;unfold tlE at h2;split at h2<;>simp_all [absurd,bang_eq,pk_ok,Decidable.of_not_not]
end TW
end Go.Proofs.YtaclfjjipnpboaaGreat
end
