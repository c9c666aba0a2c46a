/- Part 22 of the proof. Conditions: what each theorem states. -/
import Derived.Test.YtaclfjjipnpboaaGreatP04
import Derived.Test.YtaclfjjipnpboaaGreatP01
import Derived.Test.YtaclfjjipnpboaaGreatP21
import Derived.Test.YtaclfjjipnpboaaGreatP17
import Derived.Test.YtaclfjjipnpboaaGreatP18
import Derived.Test.YtaclfjjipnpboaaGreatP15
import Derived.Test.YtaclfjjipnpboaaGreatP16
import Derived.Test.YtaclfjjipnpboaaGreatP20
import Derived.Test.YtaclfjjipnpboaaGreatP07
import Derived.Test.YtaclfjjipnpboaaGreatP05
import Derived.Test.YtaclfjjipnpboaaGreatRows
import Derived.LaidMore
import Derived.OpenShut
import Derived.Stop.Joined
import Derived.ProofKit
set_option linter.all false
set_option maxHeartbeats 4000000
set_option maxRecDepth 4000
section
attribute [local irreducible] Go.Eng.WC Go.Eng.WL Go.Eng.WK Go.Eng.WQ Go.Eng.WX Go.Eng.Yld
namespace Go.Proofs.YtaclfjjipnpboaaGreat
open Go Go.Eng Go.RowKit
namespace TW
theorem len_step{l:List Sp.S}{j:Nat}(h:j<l.length):Sp.len (l.take j)+(l[j]!.t-l[j]!.f)=Sp.len (l.take (j+1)):=by rw[Sp.len_take h];omega
theorem lenF_norm(l:List Sp.S):Sp.lenF (Sp.norm l)=Sp.lenF l:=by unfold Sp.lenF;rw[Sp.norm_congr (Sp.norm_cov l)]
theorem splen_any(A_l:Option Addr)(n_l c_l:Nat)(l:List Sp.S)(w:World)(h_l:Ls w A_l n_l c_l Sp.S.c 2 l)(hn:n_l≤100000):
  Cr 31 #[.slice A_l n_l c_l] w (.int .i64 (Sp.lenF l)):=by
 have H:=(Hp.nil w);have e_l:=h_l.len;have z_l:=h_l.nle;refine Wb Tryz.func31 ?_;refine go ?_;refine c2 H Fh (spnorm_any _ _ _ _ _ (h_l.ext H.ext) Om) fun v5 z H=> ?_;obtain⟨A7,n8,c9,rfl,_,_,_⟩:=H.op 0;have e_s:=(H.l 0).len;have n_s:=Sp.norm_len l;refine go ?_;refine sb [9,3,7,8] ?_;refine WC.loopS 2 (fun mz Ed W'=>∃j:Nat,mz=n8-j∧Ed=[(9,.int .i64 ((j:Nat):Int)),(3,.int .i64 (Sp.len ((Sp.norm l).take j)))]∧Hp w W' (_::[])∧(j≤n8)) _ ⟨0,rfl,rfl,(H.pick [0]),(Nat.zero_le _)⟩ ?_;rintro _ _ z ⟨j,rfl,rfl,H,jl⟩;have tj:=Sp.len_take_rng (l:=Sp.norm l) (Sp.norm_norm l).1 j;refine go ?_;refine Cd (fun p12=> ?_) fun p12=> ?_
 ·have oj:=(Sp.ok_iff _).1 ((Sp.norm_norm l).1 _ (mem_b (show j<(Sp.norm l).length by omega)));have b15:j<n8:=Om;refine go ?_;refine al H ti33 fun g16 z H=> ?_;refine st H 0 ti33 fun z H=> ?_;refine G17 ?_;rw[len_step (show j<(Sp.norm l).length by omega)];exact Rs [(9,_),(3,_)] Sx ⟨(j+1),rfl,rfl,(H.pick [1]),Om⟩
 ·refine go ?_;refine Rt [_] ?_;exact⟨by rw[show(Sp.norm l).take j=Sp.norm l from List.take_of_length_le Om];rfl,H.ext⟩
theorem bz_take{l:List Sc}{th:Int}{j:Nat}(h:j<l.length):bzL (l.take (j+1)) th=bzL (l.take j) th++if(l[j]!.th==th)=true then[⟨l[j]!.fr,l[j]!.to⟩]else[]:=by
 unfold bzL;rw[take_1 h,List.filter_append,List.map_append]
 congr 1
 cases hb:l[j]!.th==th
 ·rw[List.filter_cons_of_neg (p:=fun x:Sc=>x.th==th) (by rw[hb];decide)];rfl
 ·rw[List.filter_cons_of_pos (p:=fun x:Sc=>x.th==th) hb];rfl
theorem bz_len(l:List Sc)(th:Int)(j:Nat):(bzL (l.take j) th).length≤j:=by
 unfold bzL;rw[List.length_map];exact Nat.le_trans (List.length_filter_le _ _) (List.length_take_le _ _)
theorem slbusy_any(A_l:Option Addr)(n_l c_l:Nat)(l:List Sc)(th:Int)(w:World)(h_l:Ls w A_l n_l c_l Sc.c 8 l)(hn:n_l≤100000):
  Calls Tryz.prog 32 #[.slice A_l n_l c_l,.int .i64 th] w fun e w'=>∃v,e= .returned v∧OwnL w' w.heap.size 33 Sp.S.c 2 v (Sp.norm (bzL l th))∧Ext w w':=by
 have H:=(Hp.nil w);have e_l:=h_l.len;have z_l:=h_l.nle;refine Wb Tryz.func32 ?_;have H:=H.nilRow 33 Sp.S.c 2;refine G12 ?_;refine sb [1,5,8,9,10] ?_;refine go ?_;refine sb [10,5,1,8,9] ?_;refine WC.loopS 2 (fun mz Ed W'=>∃j:Nat,∃v:Value,mz=n_l-j∧Ed=[(10,.int .i64 ((j:Nat):Int)),(5,v)]∧Hp w W' (row 33 Sp.S.c 2 v (bzL (l.take j) th)::[])∧(j≤n_l)) _ ⟨0,_,rfl,rfl,(H.pick [0]),(Nat.zero_le _)⟩ ?_;rintro _ _ z ⟨j,v,rfl,rfl,H,jl⟩;have fl:=bz_len l th j;refine go ?_;refine Cd (fun p9=> ?_) fun p9=> ?_
 ·have b12:j<n_l:=Om;refine go ?_;refine al H ti100 fun g13 z H=> ?_;refine st H 0 ti100 fun z H=> ?_;refine go ?_;refine WC.cond rfl (fun h16=> ?_) (fun h16=> ?_)
  ·have p16:=(eq_t h16);refine go ?_;refine bs1 H u106 ti33 fun g17 z H=> ?_;refine ap H 2 0 rfl [⟨l[j]!.fr,l[j]!.to⟩] u106 ti33 rfl Sp.S.one (room_le fl (Nat.le_refl 1) Om) fun v19 z H=> ?_;refine go ?_;exact Rs [(10,_),(5,_)] Sx ⟨(j+1),v19,rfl,rfl,(by rw[bz_take (show j<l.length by omega),if_pos h16];exact(H.pick [2])),Om⟩
  ·have p16:=(eq_f h16);refine go ?_;exact Rs [(10,_),(5,_)] Sx ⟨(j+1),v,rfl,rfl,(by rw[bz_take (show j<l.length by omega),if_neg (by rw[h16];decide),List.append_nil];exact(H.pick [1])),Om⟩
 ·rw[show l.take j=l from List.take_of_length_le Om]at H;rw[show l.take j=l from List.take_of_length_le Om]at fl;obtain⟨A21,n22,c23,rfl,_,_,_⟩:=H.op 0;refine G5 ?_;refine sb [5] ?_;refine go ?_;refine c2 H Fh (spnorm_any _ _ _ _ _ (H.l 0) Om) fun v24 z H=> ?_;refine go ?_;refine Rt [_] ?_;exact⟨_,rfl,H.out 0,H.ext⟩
def bzN(T:Tv):Nat→Int
 |0=>0
 |j+1=>bzN T j+Sp.lenF (bzL T.sl T.th[j]!.id)
theorem lenF_rng(l:List Sp.S):0≤Sp.lenF l∧Sp.lenF l≤1000000000000:=by
 rw[Sp.lenF_cnt];have:=Sp.cnt_rng (Sp.cov l) 1000000000000;omega
theorem bzN_rng(T:Tv):∀j,0≤bzN T j∧bzN T j≤1000000000000*(j:Int)
 |0=>⟨Int.le_refl _,Int.le_refl _⟩
 |j+1=>by
  have:=bzN_rng T j;have:=lenF_rng (bzL T.sl T.th[j]!.id);unfold bzN;omega
theorem busy_any(T:Tv)(w:World)(hT:T.ok w)(ht:T.tN≤1000)(hs:T.sN≤100000):
  Cr 9 #[Tv.v T] w (.int .i64 (bzN T T.th.length)):=by
 have H:=(Hp.nil w);have e_t:=hT.t.len;have e_s:=hT.s.len;have e_g:=hT.g.len;have e_f:=hT.f.len;have e_m:=hT.m.len;have e_p:=hT.p.len;have e_b:=hT.b.len;have e_l:=hT.l.len;have z_t:=hT.t.nle;have z_s:=hT.s.nle;have z_g:=hT.g.nle;have z_f:=hT.f.nle;have z_m:=hT.m.nle;have z_p:=hT.p.nle;have z_b:=hT.b.nle;have z_l:=hT.l.nle;refine Wb Tryz.func9 ?_;refine go ?_;refine bx H fun g2 z H=> ?_;refine go ?_;refine sb [9,3,1,7,8] ?_;refine WC.loopS 2 (fun mz Ed W'=>∃j:Nat,mz=T.tN-j∧Ed=[(9,.int .i64 ((j:Nat):Int)),(3,.int .i64 (bzN T j))]∧Hp w W' (_::[])∧(j≤T.tN)) _ ⟨0,rfl,rfl,(H.pick [0]),(Nat.zero_le _)⟩ ?_;rintro _ _ z ⟨j,rfl,rfl,H,jl⟩;have tj:=bzN_rng T j;have lj:=lenF_rng (bzL T.sl T.th[j]!.id);rw[←lenF_norm]at lj;have nl_:=Sp.norm_len (bzL T.sl T.th[j]!.id);have bl_:=bz_len T.sl T.th[j]!.id T.sl.length;rw[List.take_of_length_le Nl]at bl_;refine go ?_;refine Cd (fun p9=> ?_) fun p9=> ?_
 ·have b12:j<T.tN:=Om;refine go ?_;refine al H ti57 fun g13 z H=> ?_;refine st H 0 ti57 fun z H=> ?_;refine go ?_;refine c2 H Fh (slbusy_any _ _ _ _ _ _ (hT.s.ext H.ext) Om) fun v15 z H=> ?_;obtain⟨A17,n18,c19,rfl,_,_,_⟩:=H.op 0;refine c1 H Fh (splen_any _ _ _ _ _ (H.l 0) Om) fun z H=> ?_;refine G9 ?_;rw[lenF_norm,show bzN T j+Sp.lenF (bzL T.sl T.th[j]!.id)=bzN T (j+1)from rfl];exact Rs [(9,_),(3,_)] Sx ⟨(j+1),rfl,rfl,(H.pick [2]),Om⟩
 ·refine go ?_;refine Rt [_] ?_;exact⟨by rw[show T.th.length=j from Om];rfl,H.ext⟩
def upF(l:List Sc):Nat→Int→List ByteArray
 |0,_=>[]
 |n+1,i=>if 0≤i∧i<(l.length:Int)then upF l n l[i.toNat]!.pa++[l[i.toNat]!.nm]else[]
def pathF(l:List Sc)(i:Int):List ByteArray:=upF l (l.length+1) i
theorem upF_out{l:List Sc}{i:Int}(h:¬(0≤i∧i<(l.length:Int))):∀n,upF l n i=[]
 |0=>rfl
 |n+1=>by unfold upF;rw[if_neg h]
theorem upF_step{l:List Sc}{q:Int}{n:Nat}{L R:List ByteArray}(hn:n≤l.length)(hq:0≤q∧q<(l.length:Int))(h:upF l (l.length+1-n) q++L.reverse=R):upF l (l.length+1-(n+1)) l[q.toNat]!.pa++(L++[l[q.toNat]!.nm]).reverse=R:=by
 rw[←h,show l.length+1-n=(l.length+1-(n+1))+1 from Om];show _=upF l (_+1) q++_;rw[upF,if_pos hq,List.reverse_append,List.append_assoc];rfl
theorem upF_end{l:List Sc}{q:Int}{n:Nat}{L R:List ByteArray}(hq:¬(0≤q∧q<(l.length:Int))∨l.length<n)(h:upF l (l.length+1-n) q++L.reverse=R):L.reverse=R:=by
 rw[←h];rcases hq with hq|hq
 ·rw[upF_out hq];rfl
 ·rw[show l.length+1-n=0 from Om];rfl
theorem slpath_any(A_l:Option Addr)(n_l c_l:Nat)(l:List Sc)(i:Int)(w:World)(h_l:Ls w A_l n_l c_l Sc.c 8 l)(hn:n_l≤100000):
  Calls Tryz.prog 28 #[.slice A_l n_l c_l,.int .i64 i] w fun e w'=>∃v,e= .returned v∧OwnL w' w.heap.size 9 sc 1 v (pathF l i)∧Ext w w':=by
 have H:=(Hp.nil w);have e_l:=h_l.len;have z_l:=h_l.nle;refine Wb Tryz.func28 ?_;refine go ?_;refine Cd (fun p4=> ?_) fun p4=> ?_
 ·refine go ?_;refine Rt [_] ?_;exact⟨_,rfl,(by rw[show pathF l i=[]from upF_out Om _];exact OwnL.nil_),H.ext⟩
 ·have H:=H.nilRow 9 sc 1;refine go ?_;refine sb [1,5,6,0] ?_;refine WC.loopS 3 (fun mz Ed W'=>∃q:Int,∃v:Value,∃n:Nat,∃L:List ByteArray,mz=n_l+1-n∧Ed=[(1,.int .i64 q),(5,v),(6,.int .i64 ((n:Nat):Int))]∧Hp w W' (row 9 sc 1 v (L)::[])∧(L.length=n)∧(upF l (l.length+1-n) q++L.reverse=pathF l i)) _ ⟨i,_,0,[],rfl,rfl,(H.pick [0]),rfl,(List.append_nil _)⟩ ?_;rintro _ _ z ⟨q,v,n,L,rfl,rfl,H,hL,hu⟩;refine go ?_;refine Cd (fun p13=> ?_) fun p13=> ?_
  ·have b16:q.toNat<n_l:=Om;refine G8 ?_;refine yy (Y.indexLs q.toNat (h_l.ext H.ext) rfl u34 ti100 rfl rfl Om b16) ?_;refine go ?_;refine bs1 H u51 ti9 fun g17 z H=> ?_;refine ap H 1 0 rfl [l[q.toNat]!.nm] u51 ti9 rfl sc_one (room_le (Nat.le_of_eq hL) (Nat.le_refl 1) Om) fun v19 z H=> ?_;have b20:q.toNat<n_l:=Om;refine G5 ?_;refine yy (Y.indexLs q.toNat (h_l.ext H.ext) rfl u34 ti100 rfl rfl Om b20) ?_;refine G6 ?_;refine sb [0,1,5,6] ?_;refine go ?_;refine WK.roundS _ [(1,_),(5,_),(6,_)] ⟨rfl,rfl,rfl,rfl,trivial⟩ ?_ ⟨_,v19,(n+1),(L++[l[q.toNat]!.nm]),rfl,rfl,(H.pick [1]),(by simp only[List.length_append,List.length_singleton];omega),(upF_step Om Om hu)⟩;omega
  ·refine go ?_;refine c3 Fh (revS_v _ _ _ _ _ (H.front [0])) ?_;rintro _ z ⟨rfl,H⟩;refine⟨_,rfl,?_⟩;refine go ?_;refine Rt [_] ?_;exact⟨_,rfl,(by rw[←upF_end Om hu];exact H.out 0),H.ext⟩
def ssN(l:List Sc):Nat→Int
 |0=>0
 |j+1=>ssN l j+l[j]!.se
def pkN(l:List Sc):Nat→Nat
 |0=>0
 |j+1=>pkN l j+(pathF l (j:Int)).length
theorem ssN_mono{l:List Sc}(h:∀j,j<l.length→0≤l[j]!.se):∀m n,m≤n→n≤l.length→0≤ssN l m∧ssN l m≤ssN l n
 |m,0,h1,_=>by rw[show m=0 from Om];exact⟨Int.le_refl _,Int.le_refl _⟩
 |m,n+1,h1,h2=>by
  have hw:=h n Om;by_cases e:m=n+1
  ·subst e;have ih:=ssN_mono h n n Nl Om;refine⟨?_,Int.le_refl _⟩;unfold ssN;omega
  ·have ih:=ssN_mono h m n Om Om;refine⟨ih.1,?_⟩;show _≤ssN l n+l[n]!.se;omega
theorem pkN_mono(l:List Sc):∀m n,m≤n→pkN l m≤pkN l n
 |m,0,h=>by rw[show m=0 from Om];exact Nat.le_refl _
 |m,n+1,h=>by
  by_cases e:m=n+1
  ·subst e;exact Nat.le_refl _
  ·have:=pkN_mono l m n Om;show _≤pkN l n+(pathF l (n:Int)).length;omega
theorem fladd_v(g:Nat)(v:Value)(l:List ByteArray)(x_:Int)(N:List Nd)(S C:Int)(W:World)(R:List Res)(w:World)(H:Hp W w (big ndF N::row 9 sc 1 v l::R))(hF:Fa N N S C 0 0)(hg0:N[0]!.g=g)(hv:0≤x_)(hS:S+x_≤100000000000000)(hC:C+1≤20000)(hn:∀s∈l,nmF s=0)(hl:0<l.length∧l.length≤100000):
  Calls Tryz.prog 27 #[.pointer (some ⟨g,0,none⟩),v,.int .i64 x_,.int .i64 1] w fun e w'=>∃N',e= .returned (resVal [])∧Hp W w' (big ndF N'::row 9 sc 1 v l::R)∧Fa N' N' (S+x_) (C+1) 0 0∧N'.length≤N.length+l.length∧N'[0]!.g=N[0]!.g:=by
 obtain⟨A,n,c,rfl,e,_⟩:=H.op 1;exact fladd_any g A n c l x_ N S C W (row 9 sc 1 (.slice A n c) l::R) w H (fun _ _ H=>H.l 1) hF hg0 hv hS hC hn Om
theorem upF_mem{l:List Sc}:∀n i,∀s∈upF l n i,∃x∈l,s=x.nm
 |0,_,s,h=>by cases h
 |n+1,i,s,h=>by
  unfold upF at h;split at h
  ·rename_i q;rcases List.mem_append.1 h with h|h
   ·exact upF_mem n _ s h
   ·exact⟨_,mem_b (show i.toNat<l.length by omega),List.mem_singleton.1 h⟩
  ·cases h
theorem pathF_pos{l:List Sc}{i:Nat}(h:i<l.length):0<(pathF l (i:Int)).length:=by
 unfold pathF upF;rw[if_pos Om,List.length_append,List.length_singleton];omega
theorem flosl_any(T:Tv)(w:World)(hT:T.ok w)(hv:TvV T)(hS:ssN T.sl T.sl.length≤100000000000000)(hK:pkN T.sl T.sl.length≤2000):
  Calls Tryz.prog 7 #[Tv.v T] w fun e w'=>∃v L,e= .returned (.tuple #[v,.int .i64 0])∧OwnL w' w.heap.size 73 No.c 5 v L∧FlOk L∧seN L L.length=ssN T.sl T.sl.length∧ctN L L.length=(T.sl.length:Int)∧L.length≤pkN T.sl T.sl.length∧Ext w w':=by
 have H:=(Hp.nil w);have e_t:=hT.t.len;have e_s:=hT.s.len;have e_g:=hT.g.len;have e_f:=hT.f.len;have e_m:=hT.m.len;have e_p:=hT.p.len;have e_b:=hT.b.len;have e_l:=hT.l.len;have z_t:=hT.t.nle;have z_s:=hT.s.nle;have z_g:=hT.g.nle;have z_f:=hT.f.nle;have z_m:=hT.m.nle;have z_p:=hT.p.nle;have z_b:=hT.b.nle;have z_l:=hT.l.nle;have hw:∀j,j<T.sl.length→0≤T.sl[j]!.se:=fun j hj=>hv.s.self hj;have sn_:=hv.sn;refine Wb Tryz.func7 ?_;refine go ?_;refine bx H fun g2 z H=> ?_;refine go ?_;refine c1 H Fh (trchk_any T _ (hT.ext H.ext) hv) fun z H=> ?_;refine G4 ?_;refine Kd ?_;refine go ?_;refine WC.condF rfl ?_;refine go ?_;refine bx H fun g8 z H=> ?_;have H:=H.bigNil ndF;have H:=H.front [1,0];have H:Hp w _ (big ndF ([]++[⟨g8,none,0,⟨#[]⟩,0,0,[]⟩])::_):=Hp.bigPush ndF ⟨g8,none,0,⟨#[]⟩,0,0,[]⟩ H;have fs_:=Fa.start g8;refine go ?_;refine sb [18,1,5,16,17] ?_;refine WC.loopS 1 (fun mz Ed W'=>∃j:Nat,∃N:List Nd,∃C:Int,mz=T.sN-j∧Ed=[(18,.int .i64 ((j:Nat):Int))]∧Hp w W' (big ndF N::_::[])∧(j≤T.sN)∧(Fa N N (ssN T.sl j) C 0 0)∧(C=(j:Int))∧(N.length≤1+pkN T.sl j)∧(N[0]!.g=g8)) _ ⟨0,_,0,rfl,rfl,(H.pick [0,0]),(Nat.zero_le _),fs_,Om,(by simp),rfl⟩ ?_;rintro _ _ z ⟨j,N,C,rfl,rfl,H,jl,hF,hC,hN,hg⟩;refine go ?_;refine Cd (fun p15=> ?_) fun p15=> ?_
 ·have sj:=hv.s.self (i:=j) Om;have wj:=ssN_mono hw (j+1) T.sl.length Om Nl;have kj:=pkN_mono T.sl (j+1) T.sl.length Om;have kj2:pkN T.sl (j+1)=pkN T.sl j+(pathF T.sl (j:Int)).length:=rfl;have wj2:ssN T.sl (j+1)=ssN T.sl j+T.sl[j]!.se:=rfl;have pp:=pathF_pos (l:=T.sl) (i:=j) Om;have kj3:(pathF T.sl (j:Int)).length≤2000:=Om;have b18:j<T.sN:=Om;refine go ?_;refine al H ti100 fun g19 z H=> ?_;refine go ?_;refine st H 0 ti100 fun z H=> ?_;refine go ?_;refine Xr H (HpC w _) (.load 0 (.load 1 (.load 2 (.load 3 (.load 5 (.load 6 (.alt 4 (.alt 7 (.fin) (.none)) (.none)))))))) (H.pick [0,1]) fun z H=> ?_;refine go ?_;refine c2X (H.pick [0,1]) H Fh (slpath_any _ _ _ _ _ _ (hT.s.ext H.ext) Om) fun v21 z H=> ?_;refine c3X (H.pick [1,2]) Fh (fladd_v _ _ (pathF T.sl (j:Int)) T.sl[j]!.se N (ssN T.sl j) C _ _ _ (H.front [2,0]) hF hg Om Om Om (fun s hs=>by obtain⟨x_,hx_,e_⟩:=upF_mem _ _ s hs;rw[e_];exact(hv.n.v x_ hx_).1) Om) ?_;rintro _ z ⟨N23,rfl,H,hF,hN_,hg_⟩;refine⟨_,rfl,?_⟩;refine WX.nil (H.pick [2,2]) ?_;refine go ?_;exact Rs [(18,_)] Sx ⟨(j+1),N23,(C+1),rfl,rfl,(H.pick [0,2]),Om,hF,Om,(by show _≤1+(pkN T.sl j+(pathF T.sl (j:Int)).length);omega),(hg_.trans hg)⟩
 ·obtain rfl:j=T.sl.length:=Om;have hG:=fl_ok N _ C hF Om hS Om;have hct:=fl_ct hF;refine go ?_;refine c3 Fh (flbuilt_g N (ssN T.sl T.sl.length) _ _ _ _ (H.front [0]) hF.ok Om hG hg) ?_;rintro _ z ⟨v25,rfl,H⟩;refine⟨_,rfl,?_⟩;refine go ?_;refine Rt [_,_] ?_;exact⟨_,flL N,rfl,H.out 0,hG.c,hG.s,hct.1.trans hC,(by have:=hct.2;omega),H.ext⟩
def thC:List Th:=[⟨1,⟨#[97]⟩,0⟩]
def dmC:List Dm:=[⟨0,0⟩]
def esC:List Ev:=[⟨2,1,⟨#[102]⟩,0,0,none,0,0,[]⟩,⟨6,2,⟨#[]⟩,0,0,none,0,0,[]⟩]
def pkC(A:Option Addr):List Pk:=[⟨1,0,0,A,2,2,esC⟩]
theorem call_any(w:World):
  Calls Tryz.prog 16 #[] w fun e w'=>∃A1 A2 A3 A4,e= .returned (.agg #[.slice A1 1 1,.slice A2 1 1,.slice none 0 0,.slice A3 1 1])∧Ls w' A1 1 1 Th.c 3 thC∧Ls w' A2 1 1 Dm.c 2 dmC∧Ls w' A3 1 1 Pk.c 4 (pkC A4)∧Ls w' A4 2 2 Ev.c 6 esC∧Ext w w':=by
 have H:=(Hp.nil w);refine Wb Tryz.func16 ?_;refine go ?_;refine al H ti29 fun g2 z H=> ?_;refine go ?_;refine bs1 H u22 ti57 fun g5 z H=> ?_;refine go ?_;refine bs1 H u23 ti134 fun g7 z H=> ?_;refine go ?_;refine bs (zs:=[.int .i64 0,.int .i64 0,.string ⟨#[]⟩,.int .i64 0,.int .i64 0,.slice none 0 0,.int .i64 0,.int .i64 0,.string ⟨#[]⟩,.int .i64 0,.int .i64 0,.slice none 0 0]) (cs:=[_,_,_,_,_,_,_,_,_,_,_,_]) H u68 ti81 fun g9 z H=> ?_;refine go ?_;refine bs1 H u27 ti70 fun g11 z H=> ?_;refine go ?_;refine st H 4 ti29 fun z H=> ?_;refine go ?_;refine WK.ret [_] rfl ⟨⟨_,rfl,run_loadVar_blk u29 rfl ti29 (H.b 4)⟩,trivial⟩ ?_;exact⟨_,_,_,_,rfl,Ls.lit (l:=thC) (H.b 3) (fun _=>rfl) rfl Dc rfl,Ls.lit (l:=dmC) (H.b 2) (fun _=>rfl) rfl Dc rfl,Ls.lit (l:=pkC _) (H.b 0) (fun _=>rfl) rfl Dc rfl,Ls.lit (l:=esC) (H.b 1) (fun _=>rfl) rfl Dc rfl,H.ext⟩
def slC:List Sc:=[⟨1,-1,0,⟨#[102]⟩,2,6,4,false⟩]
theorem trC_e(A:Option Addr):trE thC dmC [] (pkC A)=0:=by kernel_rfl
theorem trC_s(A:Option Addr):slF (orL thC dmC [] (pkC A)) (tnF (orL thC dmC [] (pkC A)))=slC:=by kernel_rfl
theorem trC_g(A:Option Addr):stOf thC (orL thC dmC [] (pkC A)) (tnF (orL thC dmC [] (pkC A)))≠[]:=by
 have h:(stOf thC (orL thC dmC [] (pkC A)) (tnF (orL thC dmC [] (pkC A)))).length=1:=by kernel_rfl
 grind
theorem altr_any(A1 A2 A3 A4:Option Addr)(w:World)(h1:Ls w A1 1 1 Th.c 3 thC)(h2:Ls w A2 1 1 Dm.c 2 dmC)(h3:Ls w A3 1 1 Pk.c 4 (pkC A4))(h4:Ls w A4 2 2 Ev.c 6 esC):
  Calls Tryz.prog 6 #[.agg #[.slice A1 1 1,.slice A2 1 1,.slice none 0 0,.slice A3 1 1]] w fun e w'=>∃T:Tv,e= .returned (.tuple #[T.v,.int .i64 0])∧T.ok w'∧TvV T∧T.sl=slC∧Ext w w':=by
 have hp:PksOk w (pkC A4):=fun x hx=>by
  rw[List.mem_singleton.1 hx];refine⟨h4,fun y hy=> ?_⟩;rcases List.mem_cons.1 hy with rfl|hy
  ·exact Ls.nil Dc
  ·rw[List.mem_singleton.1 hy];exact Ls.nil Dc
 refine(trace_any A1 1 1 thC A2 1 1 dmC none 0 0 [] A3 1 1 (pkC A4) w h1 h2 (Ls.nil Dc) h3 hp (fun x hx=>by rw[List.mem_singleton.1 hx];grind) Dc Dc (by show 2≤24;omega) Dc).mono fun e w' h=> ?_;obtain⟨tv,rfl,x,_,h⟩:=h;obtain⟨v1,v2,v3,v4,v5,v6,v7,xs,rfl,H,hx⟩:=h (trC_e A4);obtain⟨T,e,ok,vv,_,_,hs,hg,_⟩:=tv_of h1 hp (by show 2≤24;omega) Dc (trC_e A4) x H hx;exact⟨T,by rw[trC_e,e],ok,vv (by grind [trC_g]),hs.trans (trC_s A4),x⟩
theorem alive_L{L:List No}(hc:FlOk L)(hs:seN L L.length=4)(ht:ctN L L.length=1)(hl:L.length≤1):L.length=1∧L[0]!.se=4∧L[0]!.ct=1:=by
 match L,hl,hs,ht with
 |[],_,_,ht=>cases ht
 |[x],_,hs,ht=>
  refine⟨rfl,?_,?_⟩
  ·have h:(0:Int)+x.se=4:=hs;show x.se=4;omega
  ·have h:(0:Int)+x.ct=1:=ht;show x.ct=1;omega
theorem alive_any(w:World):
  Cr 5 #[] w (.bool true):=by
 have H:=(Hp.nil w);refine Wb Tryz.func5 ?_;refine go ?_;refine c3 Fh (call_any _) ?_;rintro _ w1 ⟨A1,A2,A3,A4,rfl,h1,h2,h3,h4,x1⟩;have H:=H.ex x1;refine⟨_,rfl,?_⟩;refine c3 Fh (altr_any _ _ _ _ _ h1 h2 h3 h4) ?_;rintro _ w2 ⟨T,rfl,hT,hv,hsl,x2⟩;have X2:=H.ext.trans x2;have H:=Hp.nil w2;refine⟨_,rfl,?_⟩;refine go ?_;refine al H ti42 fun g3 z H=> ?_;refine st H 0 ti42 fun z H=> ?_;refine go ?_;refine c3 Fh (flosl_any T _ (hT.ext H.ext) hv (by rw[hsl];decide) (by rw[hsl];decide)) ?_;rintro _ z ⟨v6,L7,rfl,ow,hc_L7,hs_L7,ht_L7,hl_L7,x⟩;have H:=H.newRow ow x;have aL:=alive_L hc_L7 (hs_L7.trans (by rw[hsl];rfl)) (ht_L7.trans (by rw[hsl];rfl)) (Nat.le_trans hl_L7 (by rw[hsl];exact Nat.le_refl 1));refine⟨_,rfl,?_⟩;refine G8 ?_;refine Kd ?_;obtain⟨A10,n11,c12,rfl,_,_,_⟩:=H.op 0;refine G2 ?_;refine WL.yldW rfl (blt rfl) rfl rfl rfl (Y.lenSl rfl rfl rfl u46 rfl) ?_;refine WL.yldW rfl (blt rfl) rfl rfl rfl (Yld.cast (Y.eql rfl rfl rfl) (vb (beq_iff_eq.2 Om))) ?_;refine yy (Y.pickT rfl rfl rfl) ?_;have b13:0<n11:=Om;refine G2 ?_;refine WL.yldW rfl (blt rfl) rfl rfl rfl (Y.indexLs 0 (H.l 0) rfl u46 ti73 rfl rfl rfl b13) ?_;refine G2 ?_;refine WL.yldW rfl (blt rfl) rfl rfl rfl (Yld.cast (Y.eql rfl rfl rfl) (vb (beq_iff_eq.2 aL.2.1))) ?_;refine yy (Y.pickT rfl rfl rfl) ?_;have b14:0<n11:=Om;refine G2 ?_;refine WL.yldW rfl (blt rfl) rfl rfl rfl (Y.indexLs 0 (H.l 0) rfl u46 ti73 rfl rfl rfl b14) ?_;refine G2 ?_;refine WL.yldW rfl (blt rfl) rfl rfl rfl (Yld.cast (Y.eql rfl rfl rfl) (vb (beq_iff_eq.2 aL.2.2))) ?_;refine yy (Y.pickT rfl rfl rfl) ?_;refine go ?_;refine Rt [_] ?_;exact⟨rfl,X2.trans H.ext⟩
def wsum(l:List Pk)(j:Nat):Int:=fN (fun n p=>IntKind.i64.wrap (n+(p.k:Int))) 0 l j
def shW(t:List Th)(d:List Dm)(s:List Sn)(p:List Pk)(n:Int):Bool:=(((decide (wsum p p.length≤n)&&decide ((p.length:Int)≤40))&&decide ((t.length:Int)≤10))&&decide ((d.length:Int)≤10))&&decide ((s.length:Int)≤12)
theorem short2_any(A_ta:Option Addr)(n_ta c_ta:Nat)(ta:List Th)(A_da:Option Addr)(n_da c_da:Nat)(da:List Dm)(A_na:Option Addr)(n_na c_na:Nat)(na:List Sn)(A_pa:Option Addr)(n_pa c_pa:Nat)(pa:List Pk)(n:Int)(w:World)(h_ta:Ls w A_ta n_ta c_ta Th.c 3 ta)(h_da:Ls w A_da n_da c_da Dm.c 2 da)(h_na:Ls w A_na n_na c_na Sn.c 5 na)(h_pa:Ls w A_pa n_pa c_pa Pk.c 4 pa)(g_pa:PksOk w pa):
  Cr 4 #[.agg #[.slice A_ta n_ta c_ta,.slice A_da n_da c_da,.slice A_na n_na c_na,.slice A_pa n_pa c_pa],.int .i64 n] w (.bool (shW ta da na pa n)):=by
 have H:=(Hp.nil w);have e_ta:=h_ta.len;have z_ta:=h_ta.nle;have e_da:=h_da.len;have z_da:=h_da.nle;have e_na:=h_na.len;have z_na:=h_na.nle;have e_pa:=h_pa.len;have z_pa:=h_pa.nle;refine Wb Tryz.func4 ?_;refine go ?_;refine bx H fun g2 z H=> ?_;refine go ?_;refine sb [11,5,1,2,9,10] ?_;refine WC.loopS 2 (fun mz Ed W'=>∃j:Nat,mz=n_pa-j∧Ed=[(11,.int .i64 ((j:Nat):Int)),(5,.int .i64 (wsum pa j))]∧Hp w W' (_::[])∧(j≤n_pa)) _ ⟨0,rfl,rfl,(H.pick [0]),(Nat.zero_le _)⟩ ?_;rintro _ _ z ⟨j,rfl,rfl,H,jl⟩;refine go ?_;refine Cd (fun p9=> ?_) fun p9=> ?_
 ·have b12:j<n_pa:=Om;refine go ?_;refine al H ti70 fun g13 z H=> ?_;refine st H 0 ti70 fun z H=> ?_;refine G6 ?_;refine yy (Y.add rfl rfl rfl rfl) ?_;refine go ?_;exact Rs [(11,_),(5,_)] Sx ⟨(j+1),rfl,rfl,(H.pick [1]),Om⟩
 ·refine G30 ?_;refine G8 ?_;refine sb [4] ?_;refine go ?_;refine Rt [_] ?_;exact⟨ret1 (vb (by unfold shW;rw[e_ta,e_da,e_na,e_pa,show n_pa=j from Om])),H.ext⟩
theorem lch_big{ids:List Int}{l:List Pk}(h:∃x∈l,1000<x.k):lchE ids l≠0:=fun e=>by
 obtain⟨x,hx,hk⟩:=h;obtain⟨j,hj,rfl⟩:=mem_at hx;have h2:tlE ids (tlN ids l j) l[j]! =0:=lch_zero e j hj;unfold tlE at h2;split at h2
 ·rename_i q;exact absurd h2 q
 ·rename_i q;have:=(pk_ok (Decidable.of_not_not q)).k.2;omega
theorem of_big{ths:List Th}{d:List Dm}{s:List Sn}{l:List Pk}(h:lchE (ths.map (·.id)) l≠0):ofE ths d s l≠0:=by
 unfold ofE;split
 ·assumption
 ·exact h
theorem lgOfB_any(A_ths:Option Addr)(n_ths c_ths:Nat)(ths:List Th)(A_ds:Option Addr)(n_ds c_ds:Nat)(ds:List Dm)(A_sn:Option Addr)(n_sn c_sn:Nat)(sn:List Sn)(A_l:Option Addr)(n_l c_l:Nat)(l:List Pk)(w:World)(h_ths:Ls w A_ths n_ths c_ths Th.c 3 ths)(h_ds:Ls w A_ds n_ds c_ds Dm.c 2 ds)(h_sn:Ls w A_sn n_sn c_sn Sn.c 5 sn)(h_l:Ls w A_l n_l c_l Pk.c 4 l)(g_l:PksOk w l)(hl:n_l≤1000)(hx:lchE (ths.map (·.id)) l≠0):
  Cr 264 #[.agg #[.slice A_ths n_ths c_ths,.slice A_ds n_ds c_ds,.slice A_sn n_sn c_sn],.slice A_l n_l c_l] w (.tuple #[.agg #[.slice none 0 0,.slice none 0 0,.slice none 0 0,.slice none 0 0],.int .i64 (ofE ths ds sn l)]):=by
 have H:=(Hp.nil w);have e_ths:=h_ths.len;have z_ths:=h_ths.nle;have e_ds:=h_ds.len;have z_ds:=h_ds.nle;have e_sn:=h_sn.len;have z_sn:=h_sn.nle;have e_l:=h_l.len;have z_l:=h_l.nle;refine Wb Tryz.func264 ?_;refine go ?_;refine bx H fun g2 z H=> ?_;refine al H ti29 fun g4 z H=> ?_;refine go ?_;refine c1 H Fh (head_any _ _ _ _ _ _ _ _ _ _ _ _ _ (h_ths.ext H.ext) (h_ds.ext H.ext) (h_sn.ext H.ext)) fun z H=> ?_;refine go ?_;refine Cd (fun p9=> ?_) fun p9=> ?_
 ·refine go ?_;refine st H 0 ti29 fun z H=> ?_;refine go ?_;refine WK.ret [_,_] rfl ⟨⟨_,rfl,run_loadVar_blk u29 rfl ti29 (H.b 0)⟩,rfl,trivial⟩ ?_;exact⟨(by rw[show ofE ths ds sn l=_ from(ite_to p9 rfl)];exact rfl),H.ext⟩
 ·refine go ?_;refine c1 H Fh (lgchk_any _ _ _ _ _ _ _ _ _ _ _ _ _ _ _ _ _ (h_ths.ext H.ext) (h_ds.ext H.ext) (h_sn.ext H.ext) (h_l.ext H.ext) (g_l.ext H.ext) (hd_nodup (Decidable.of_not_not (fun q=>q p9))) hl) fun z H=> ?_;refine G4 ?_;refine yy (Yld.cast (Y.neq rfl rfl rfl) (vb (bne_iff_ne.2 hx))) ?_;refine go ?_;refine WC.condT rfl ?_;refine go ?_;refine st H 0 ti29 fun z H=> ?_;refine go ?_;refine WK.ret [_,_] rfl ⟨⟨_,rfl,run_loadVar_blk u29 rfl ti29 (H.b 0)⟩,rfl,trivial⟩ ?_;exact⟨(by rw[show ofE ths ds sn l=_ from(ite_no (fun q=>q p9) rfl)];exact rfl),H.ext⟩
theorem lgcheckB_any(A_ta:Option Addr)(n_ta c_ta:Nat)(ta:List Th)(A_da:Option Addr)(n_da c_da:Nat)(da:List Dm)(A_na:Option Addr)(n_na c_na:Nat)(na:List Sn)(A_pa:Option Addr)(n_pa c_pa:Nat)(pa:List Pk)(w:World)(h_ta:Ls w A_ta n_ta c_ta Th.c 3 ta)(h_da:Ls w A_da n_da c_da Dm.c 2 da)(h_na:Ls w A_na n_na c_na Sn.c 5 na)(h_pa:Ls w A_pa n_pa c_pa Pk.c 4 pa)(g_pa:PksOk w pa)(hl:n_pa≤1000)(hx:lchE (ta.map (·.id)) pa≠0)(hE:ofE ta da na pa≠0):
  Cr 237 #[.agg #[.slice A_ta n_ta c_ta,.slice A_da n_da c_da,.slice A_na n_na c_na,.slice A_pa n_pa c_pa]] w (.int .i64 (ofE ta da na pa)):=by
 have H:=(Hp.nil w);have e_ta:=h_ta.len;have z_ta:=h_ta.nle;have e_da:=h_da.len;have z_da:=h_da.nle;have e_na:=h_na.len;have z_na:=h_na.nle;have e_pa:=h_pa.len;have z_pa:=h_pa.nle;refine Wb Tryz.func237 ?_;refine go ?_;refine bx H fun g2 z H=> ?_;refine G2 ?_;refine sb [1] ?_;refine go ?_;refine c1 H Fh (lgOfB_any _ _ _ _ _ _ _ _ _ _ _ _ _ _ _ _ _ (h_ta.ext H.ext) (h_da.ext H.ext) (h_na.ext H.ext) (h_pa.ext H.ext) (g_pa.ext H.ext) Om hx) fun z H=> ?_;refine go ?_;refine al H ti29 fun g5 z H=> ?_;refine st H 0 ti29 fun z H=> ?_;refine G5 ?_;refine yy (Yld.cast (Y.eql rfl rfl rfl) (vb (beq_eq_false_iff_ne.2 hE))) ?_;refine G5 ?_;refine yy (Y.pickF rfl rfl rfl) ?_;refine go ?_;refine WC.condF rfl ?_;refine go ?_;refine Rt [_] ?_;exact⟨rfl,H.ext⟩
theorem examB_any(A_ta:Option Addr)(n_ta c_ta:Nat)(ta:List Th)(A_da:Option Addr)(n_da c_da:Nat)(da:List Dm)(A_na:Option Addr)(n_na c_na:Nat)(na:List Sn)(A_pa:Option Addr)(n_pa c_pa:Nat)(pa:List Pk)(w:World)(h_ta:Ls w A_ta n_ta c_ta Th.c 3 ta)(h_da:Ls w A_da n_da c_da Dm.c 2 da)(h_na:Ls w A_na n_na c_na Sn.c 5 na)(h_pa:Ls w A_pa n_pa c_pa Pk.c 4 pa)(g_pa:PksOk w pa)(hl:n_pa≤1000)(hx:lchE (ta.map (·.id)) pa≠0)(hE:ofE ta da na pa≠0):
  Cr 199 #[.agg #[.slice A_ta n_ta c_ta,.slice A_da n_da c_da,.slice A_na n_na c_na,.slice A_pa n_pa c_pa]] w (.tuple #[.pointer none,.int .i64 (ofE ta da na pa)]):=by
 have H:=(Hp.nil w);have e_ta:=h_ta.len;have z_ta:=h_ta.nle;have e_da:=h_da.len;have z_da:=h_da.nle;have e_na:=h_na.len;have z_na:=h_na.nle;have e_pa:=h_pa.len;have z_pa:=h_pa.nle;refine Wb Tryz.func199 ?_;refine go ?_;refine bx H fun g2 z H=> ?_;refine go ?_;refine c1 H Fh (lgcheckB_any _ _ _ _ _ _ _ _ _ _ _ _ _ _ _ _ _ (h_ta.ext H.ext) (h_da.ext H.ext) (h_na.ext H.ext) (h_pa.ext H.ext) (g_pa.ext H.ext) Om hx hE) fun z H=> ?_;refine G4 ?_;refine yy (Yld.cast (Y.neq rfl rfl rfl) (vb (bne_iff_ne.2 hE))) ?_;refine go ?_;refine WC.condT rfl ?_;refine G5 ?_;refine sb [2,3] ?_;refine go ?_;refine Rt [_,_] ?_;exact⟨rfl,H.ext⟩
theorem soundB_any(A_ta:Option Addr)(n_ta c_ta:Nat)(ta:List Th)(A_da:Option Addr)(n_da c_da:Nat)(da:List Dm)(A_na:Option Addr)(n_na c_na:Nat)(na:List Sn)(A_pa:Option Addr)(n_pa c_pa:Nat)(pa:List Pk)(w:World)(h_ta:Ls w A_ta n_ta c_ta Th.c 3 ta)(h_da:Ls w A_da n_da c_da Dm.c 2 da)(h_na:Ls w A_na n_na c_na Sn.c 5 na)(h_pa:Ls w A_pa n_pa c_pa Pk.c 4 pa)(g_pa:PksOk w pa)(hl:n_pa≤1000)(hx:lchE (ta.map (·.id)) pa≠0)(hE:ofE ta da na pa≠0):
  Cr 155 #[.agg #[.slice A_ta n_ta c_ta,.slice A_da n_da c_da,.slice A_na n_na c_na,.slice A_pa n_pa c_pa]] w (.tuple #[.pointer none,.int .i64 (ofE ta da na pa)]):=by
 have H:=(Hp.nil w);have e_ta:=h_ta.len;have z_ta:=h_ta.nle;have e_da:=h_da.len;have z_da:=h_da.nle;have e_na:=h_na.len;have z_na:=h_na.nle;have e_pa:=h_pa.len;have z_pa:=h_pa.nle;refine Wb Tryz.func155 ?_;refine go ?_;refine bx H fun g2 z H=> ?_;refine go ?_;refine c1 H Fh (examB_any _ _ _ _ _ _ _ _ _ _ _ _ _ _ _ _ _ (h_ta.ext H.ext) (h_da.ext H.ext) (h_na.ext H.ext) (h_pa.ext H.ext) (g_pa.ext H.ext) Om hx hE) fun z H=> ?_;refine G9 ?_;refine yy (Yld.cast (Y.neq rfl rfl rfl) (vb (bne_iff_ne.2 hE))) ?_;refine go ?_;refine WC.condT rfl ?_;refine go ?_;refine Rt [_,_] ?_;exact⟨rfl,H.ext⟩
theorem cacheckB_any(A_ta:Option Addr)(n_ta c_ta:Nat)(ta:List Th)(A_da:Option Addr)(n_da c_da:Nat)(da:List Dm)(A_na:Option Addr)(n_na c_na:Nat)(na:List Sn)(A_pa:Option Addr)(n_pa c_pa:Nat)(pa:List Pk)(w:World)(h_ta:Ls w A_ta n_ta c_ta Th.c 3 ta)(h_da:Ls w A_da n_da c_da Dm.c 2 da)(h_na:Ls w A_na n_na c_na Sn.c 5 na)(h_pa:Ls w A_pa n_pa c_pa Pk.c 4 pa)(g_pa:PksOk w pa)(hl:n_pa≤1000)(hx:lchE (ta.map (·.id)) pa≠0)(hE:ofE ta da na pa≠0):
  Cr 193 #[.agg #[.slice A_ta n_ta c_ta,.slice A_da n_da c_da,.slice A_na n_na c_na,.slice A_pa n_pa c_pa]] w (.int .i64 (ofE ta da na pa)):=by
 have H:=(Hp.nil w);have e_ta:=h_ta.len;have z_ta:=h_ta.nle;have e_da:=h_da.len;have z_da:=h_da.nle;have e_na:=h_na.len;have z_na:=h_na.nle;have e_pa:=h_pa.len;have z_pa:=h_pa.nle;refine Wb Tryz.func193 ?_;refine go ?_;refine bx H fun g2 z H=> ?_;refine go ?_;refine c1 H Fh (soundB_any _ _ _ _ _ _ _ _ _ _ _ _ _ _ _ _ _ (h_ta.ext H.ext) (h_da.ext H.ext) (h_na.ext H.ext) (h_pa.ext H.ext) (g_pa.ext H.ext) Om hx hE) fun z H=> ?_;refine G10 ?_;refine sb [2] ?_;refine go ?_;refine Rt [_] ?_;exact⟨rfl,H.ext⟩
theorem rawB_any(A_ta:Option Addr)(n_ta c_ta:Nat)(ta:List Th)(A_da:Option Addr)(n_da c_da:Nat)(da:List Dm)(A_na:Option Addr)(n_na c_na:Nat)(na:List Sn)(A_pa:Option Addr)(n_pa c_pa:Nat)(pa:List Pk)(w:World)(h_ta:Ls w A_ta n_ta c_ta Th.c 3 ta)(h_da:Ls w A_da n_da c_da Dm.c 2 da)(h_na:Ls w A_na n_na c_na Sn.c 5 na)(h_pa:Ls w A_pa n_pa c_pa Pk.c 4 pa)(g_pa:PksOk w pa)(hl:n_pa≤1000)(hx:lchE (ta.map (·.id)) pa≠0)(hE:ofE ta da na pa≠0):
  Cr 151 #[.agg #[.slice A_ta n_ta c_ta,.slice A_da n_da c_da,.slice A_na n_na c_na,.slice A_pa n_pa c_pa]] w (.tuple #[.slice none 0 0,.int .i64 (ofE ta da na pa)]):=by
 have H:=(Hp.nil w);have e_ta:=h_ta.len;have z_ta:=h_ta.nle;have e_da:=h_da.len;have z_da:=h_da.nle;have e_na:=h_na.len;have z_na:=h_na.nle;have e_pa:=h_pa.len;have z_pa:=h_pa.nle;refine Wb Tryz.func151 ?_;refine go ?_;refine bx H fun g2 z H=> ?_;refine go ?_;refine c1 H Fh (cacheckB_any _ _ _ _ _ _ _ _ _ _ _ _ _ _ _ _ _ (h_ta.ext H.ext) (h_da.ext H.ext) (h_na.ext H.ext) (h_pa.ext H.ext) (g_pa.ext H.ext) Om hx hE) fun z H=> ?_;refine G4 ?_;refine yy (Yld.cast (Y.neq rfl rfl rfl) (vb (bne_iff_ne.2 hE))) ?_;refine go ?_;refine WC.condT rfl ?_;refine go ?_;refine Rt [_,_] ?_;exact⟨rfl,H.ext⟩
theorem tightB_any(A_ta:Option Addr)(n_ta c_ta:Nat)(ta:List Th)(A_da:Option Addr)(n_da c_da:Nat)(da:List Dm)(A_na:Option Addr)(n_na c_na:Nat)(na:List Sn)(A_pa:Option Addr)(n_pa c_pa:Nat)(pa:List Pk)(w:World)(h_ta:Ls w A_ta n_ta c_ta Th.c 3 ta)(h_da:Ls w A_da n_da c_da Dm.c 2 da)(h_na:Ls w A_na n_na c_na Sn.c 5 na)(h_pa:Ls w A_pa n_pa c_pa Pk.c 4 pa)(g_pa:PksOk w pa)(hl:n_pa≤1000)(hx:lchE (ta.map (·.id)) pa≠0)(hE:ofE ta da na pa≠0):
  Cr 89 #[.agg #[.slice A_ta n_ta c_ta,.slice A_da n_da c_da,.slice A_na n_na c_na,.slice A_pa n_pa c_pa]] w (.tuple #[.slice none 0 0,.int .i64 (ofE ta da na pa)]):=by
 have H:=(Hp.nil w);have e_ta:=h_ta.len;have z_ta:=h_ta.nle;have e_da:=h_da.len;have z_da:=h_da.nle;have e_na:=h_na.len;have z_na:=h_na.nle;have e_pa:=h_pa.len;have z_pa:=h_pa.nle;refine Wb Tryz.func89 ?_;refine go ?_;refine bx H fun g2 z H=> ?_;refine go ?_;refine c1 H Fh (rawB_any _ _ _ _ _ _ _ _ _ _ _ _ _ _ _ _ _ (h_ta.ext H.ext) (h_da.ext H.ext) (h_na.ext H.ext) (h_pa.ext H.ext) (g_pa.ext H.ext) Om hx hE) fun z H=> ?_;refine G9 ?_;refine yy (Yld.cast (Y.neq rfl rfl rfl) (vb (bne_iff_ne.2 hE))) ?_;refine go ?_;refine WC.condT rfl ?_;refine G5 ?_;refine sb [2,3] ?_;refine go ?_;refine Rt [_,_] ?_;exact⟨rfl,H.ext⟩
theorem knowB_any(A_ta:Option Addr)(n_ta c_ta:Nat)(ta:List Th)(A_da:Option Addr)(n_da c_da:Nat)(da:List Dm)(A_na:Option Addr)(n_na c_na:Nat)(na:List Sn)(A_pa:Option Addr)(n_pa c_pa:Nat)(pa:List Pk)(w:World)(h_ta:Ls w A_ta n_ta c_ta Th.c 3 ta)(h_da:Ls w A_da n_da c_da Dm.c 2 da)(h_na:Ls w A_na n_na c_na Sn.c 5 na)(h_pa:Ls w A_pa n_pa c_pa Pk.c 4 pa)(g_pa:PksOk w pa)(hl:n_pa≤1000)(hx:lchE (ta.map (·.id)) pa≠0)(hE:ofE ta da na pa≠0):
  Cr 48 #[.agg #[.slice A_ta n_ta c_ta,.slice A_da n_da c_da,.slice A_na n_na c_na,.slice A_pa n_pa c_pa]] w (.tuple #[.agg #[.map none,.slice none 0 0,.slice none 0 0],.int .i64 (ofE ta da na pa)]):=by
 have H:=(Hp.nil w);have e_ta:=h_ta.len;have z_ta:=h_ta.nle;have e_da:=h_da.len;have z_da:=h_da.nle;have e_na:=h_na.len;have z_na:=h_na.nle;have e_pa:=h_pa.len;have z_pa:=h_pa.nle;refine Wb Tryz.func48 ?_;refine go ?_;refine bx H fun g2 z H=> ?_;refine al H ti137 fun g4 z H=> ?_;refine go ?_;refine mm H fun g7 z H=> ?_;refine go ?_;refine al H ti137 fun g9 z H=> ?_;refine st H 0 ti137 fun z H=> ?_;refine go ?_;refine c1 H Fh (tightB_any _ _ _ _ _ _ _ _ _ _ _ _ _ _ _ _ _ (h_ta.ext H.ext) (h_da.ext H.ext) (h_na.ext H.ext) (h_pa.ext H.ext) (g_pa.ext H.ext) Om hx hE) fun z H=> ?_;refine go ?_;refine st H 0 ti74 fun z H=> ?_;refine G4 ?_;refine yy (Yld.cast (Y.neq rfl rfl rfl) (vb (bne_iff_ne.2 hE))) ?_;refine go ?_;refine WC.condT rfl ?_;refine go ?_;refine st H 2 ti137 fun z H=> ?_;refine go ?_;refine WK.ret [_,_] rfl ⟨⟨_,rfl,run_loadVar_blk u137 rfl ti137 (H.b 2)⟩,rfl,trivial⟩ ?_;exact⟨rfl,H.ext⟩
theorem orderB_any(A_ta:Option Addr)(n_ta c_ta:Nat)(ta:List Th)(A_da:Option Addr)(n_da c_da:Nat)(da:List Dm)(A_na:Option Addr)(n_na c_na:Nat)(na:List Sn)(A_pa:Option Addr)(n_pa c_pa:Nat)(pa:List Pk)(w:World)(h_ta:Ls w A_ta n_ta c_ta Th.c 3 ta)(h_da:Ls w A_da n_da c_da Dm.c 2 da)(h_na:Ls w A_na n_na c_na Sn.c 5 na)(h_pa:Ls w A_pa n_pa c_pa Pk.c 4 pa)(g_pa:PksOk w pa)(hl:n_pa≤1000)(hx:lchE (ta.map (·.id)) pa≠0)(hE:ofE ta da na pa≠0):
  Cr 17 #[.agg #[.slice A_ta n_ta c_ta,.slice A_da n_da c_da,.slice A_na n_na c_na,.slice A_pa n_pa c_pa]] w (.tuple #[.slice none 0 0,.int .i64 (ofE ta da na pa)]):=by
 have H:=(Hp.nil w);have e_ta:=h_ta.len;have z_ta:=h_ta.nle;have e_da:=h_da.len;have z_da:=h_da.nle;have e_na:=h_na.len;have z_na:=h_na.nle;have e_pa:=h_pa.len;have z_pa:=h_pa.nle;refine Wb Tryz.func17 ?_;refine go ?_;refine bx H fun g2 z H=> ?_;refine go ?_;refine c1 H Fh (knowB_any _ _ _ _ _ _ _ _ _ _ _ _ _ _ _ _ _ (h_ta.ext H.ext) (h_da.ext H.ext) (h_na.ext H.ext) (h_pa.ext H.ext) (g_pa.ext H.ext) Om hx hE) fun z H=> ?_;refine go ?_;refine al H ti137 fun g5 z H=> ?_;refine st H 0 ti137 fun z H=> ?_;refine G2 ?_;refine sb [1,4,5] ?_;refine G3 ?_;refine yy (Yld.cast (Y.neq rfl rfl rfl) (vb (bne_iff_ne.2 hE))) ?_;refine go ?_;refine WC.condT rfl ?_;refine go ?_;refine Rt [_,_] ?_;exact⟨rfl,H.ext⟩
theorem traceB_any(A_ta:Option Addr)(n_ta c_ta:Nat)(ta:List Th)(A_da:Option Addr)(n_da c_da:Nat)(da:List Dm)(A_na:Option Addr)(n_na c_na:Nat)(na:List Sn)(A_pa:Option Addr)(n_pa c_pa:Nat)(pa:List Pk)(w:World)(h_ta:Ls w A_ta n_ta c_ta Th.c 3 ta)(h_da:Ls w A_da n_da c_da Dm.c 2 da)(h_na:Ls w A_na n_na c_na Sn.c 5 na)(h_pa:Ls w A_pa n_pa c_pa Pk.c 4 pa)(g_pa:PksOk w pa)(hl:n_pa≤1000)(hx:lchE (ta.map (·.id)) pa≠0)(hE:ofE ta da na pa≠0):
  Cr 6 #[.agg #[.slice A_ta n_ta c_ta,.slice A_da n_da c_da,.slice A_na n_na c_na,.slice A_pa n_pa c_pa]] w (.tuple #[.agg #[.int .i64 0,.int .i64 0,.slice none 0 0,.slice none 0 0,.slice none 0 0,.slice none 0 0,.slice none 0 0,.slice none 0 0,.slice none 0 0,.slice none 0 0],.int .i64 (ofE ta da na pa)]):=by
 have H:=(Hp.nil w);have e_ta:=h_ta.len;have z_ta:=h_ta.nle;have e_da:=h_da.len;have z_da:=h_da.nle;have e_na:=h_na.len;have z_na:=h_na.nle;have e_pa:=h_pa.len;have z_pa:=h_pa.nle;refine Wb Tryz.func6 ?_;refine go ?_;refine bx H fun g2 z H=> ?_;refine al H ti42 fun g4 z H=> ?_;refine go ?_;refine c1 H Fh (orderB_any _ _ _ _ _ _ _ _ _ _ _ _ _ _ _ _ _ (h_ta.ext H.ext) (h_da.ext H.ext) (h_na.ext H.ext) (h_pa.ext H.ext) (g_pa.ext H.ext) Om hx hE) fun z H=> ?_;refine G9 ?_;refine yy (Yld.cast (Y.neq rfl rfl rfl) (vb (bne_iff_ne.2 hE))) ?_;refine go ?_;refine WC.condT rfl ?_;refine go ?_;refine st H 0 ti42 fun z H=> ?_;refine go ?_;refine WK.ret [_,_] rfl ⟨⟨_,rfl,run_loadVar_blk u42 rfl ti42 (H.b 0)⟩,rfl,trivial⟩ ?_;exact⟨rfl,H.ext⟩
theorem trB_any(A_ta:Option Addr)(n_ta c_ta:Nat)(ta:List Th)(A_da:Option Addr)(n_da c_da:Nat)(da:List Dm)(A_na:Option Addr)(n_na c_na:Nat)(na:List Sn)(A_pa:Option Addr)(n_pa c_pa:Nat)(pa:List Pk)(w:World)(h_ta:Ls w A_ta n_ta c_ta Th.c 3 ta)(h_da:Ls w A_da n_da c_da Dm.c 2 da)(h_na:Ls w A_na n_na c_na Sn.c 5 na)(h_pa:Ls w A_pa n_pa c_pa Pk.c 4 pa)(g_pa:PksOk w pa)(hl:n_pa≤40)(ht:n_ta≤10)(hd:n_da≤10)(hn:n_na≤12)(hB:∃x∈pa,1000<x.k):
  Calls Tryz.prog 6 #[.agg #[.slice A_ta n_ta c_ta,.slice A_da n_da c_da,.slice A_na n_na c_na,.slice A_pa n_pa c_pa]] w fun e w'=>∃E:Int,e= .returned (.tuple #[.agg #[.int .i64 0,.int .i64 0,.slice none 0 0,.slice none 0 0,.slice none 0 0,.slice none 0 0,.slice none 0 0,.slice none 0 0,.slice none 0 0,.slice none 0 0],.int .i64 E])∧E≠0∧Ext w w':=
 (traceB_any A_ta n_ta c_ta ta A_da n_da c_da da A_na n_na c_na na A_pa n_pa c_pa pa w h_ta h_da h_na h_pa g_pa Om (lch_big hB) (of_big (lch_big hB))).mono fun _ _ h=>⟨_,h.1,of_big (lch_big hB),h.2⟩
theorem smt1_any(x:Sm)(w:World):
  Cr 34 #[.agg #[.int .i64 x.th,.int .i64 x.at_,.int .i64 x.w,.slice x.A x.n x.cp]] w (.bool true):=by
 have H:=(Hp.nil w);refine Wb Tryz.func34 ?_;refine go ?_;refine bx H fun g2 z H=> ?_;refine go ?_;refine Rt [_] ?_;exact⟨rfl,H.ext⟩
def wghN(l:List Sm):Nat→Int
 |0=>0
 |j+1=>wghN l j+l[j]!.w
theorem wghN_rng{l:List Sm}(h:∀x∈l,(0≤x.th∧x.th≤1000000000000000)∧(0≤x.at_∧x.at_≤1000000000000)∧1≤x.w∧x.w≤1000000000000):∀j,j≤l.length→0≤wghN l j∧wghN l j≤1000000000000*(j:Int)
 |0,_=>⟨Int.le_refl _,Int.le_refl _⟩
 |j+1,hj=>by
  have:=wghN_rng h j Om;have:=h _ (mem_b (show j<l.length from hj));unfold wghN;omega
theorem smw_any(A_l:Option Addr)(n_l c_l:Nat)(l:List Sm)(w:World)(h_l:Ls w A_l n_l c_l Sm.c 4 l)(g_l:∀x∈l,Ls w x.A x.n x.cp sc 1 x.st)(hn:n_l≤500)(hv:∀x∈l,(0≤x.th∧x.th≤1000000000000000)∧(0≤x.at_∧x.at_≤1000000000000)∧1≤x.w∧x.w≤1000000000000):
  Cr 33 #[.slice A_l n_l c_l,.func (.func 34) #[] #[]] w (.int .i64 (wghN l l.length)):=by
 have H:=(Hp.nil w);have e_l:=h_l.len;have z_l:=h_l.nle;refine Wb Tryz.func33 ?_;refine go ?_;refine sb [10,5,1,8,9] ?_;refine WC.loopS 2 (fun mz Ed W'=>∃j:Nat,mz=n_l-j∧Ed=[(10,.int .i64 ((j:Nat):Int)),(5,.int .i64 (wghN l j))]∧Hp w W' ([])∧(j≤n_l)) _ ⟨0,rfl,rfl,(H.pick []),(Nat.zero_le _)⟩ ?_;rintro _ _ z ⟨j,rfl,rfl,H,jl⟩;have tj:=wghN_rng hv j Om;refine go ?_;refine Cd (fun p7=> ?_) fun p7=> ?_
 ·have vj:=hv _ (mem_b (show j<l.length by omega));have b10:j<n_l:=Om;refine go ?_;refine al H ti53 fun g11 z H=> ?_;refine st H 0 ti53 fun z H=> ?_;refine go ?_;refine c1 H Fh (good_yes l[j]! _ Om) fun z H=> ?_;refine G2 ?_;refine WL.yldW rfl (blt rfl) rfl rfl rfl (Y.loadS rfl u53 rfl ti53 rfl (Blk.row_eq (H.b 0))) ?_;refine WL.guarded rfl rfl rfl ?_;refine c1V (fst:=[]) (cap:=[]) rfl H Fh (smt1_any l[j]! _) fun z H=> ?_;refine yy (Y.pickT rfl rfl rfl) ?_;refine go ?_;refine WC.condT rfl ?_;refine G5 ?_;refine yy (Yld.cast (Y.minI rfl rfl rfl rfl) (vi (show min (wghN l j+l[j]!.w) 1000000000000000=wghN l j+l[j]!.w by omega))) ?_;refine G8 ?_;rw[show wghN l j+l[j]!.w=wghN l (j+1)from rfl];exact Rs [(10,_),(5,_)] Sx ⟨(j+1),rfl,rfl,(H.pick []),Om⟩
 ·refine go ?_;refine Rt [_] ?_;exact⟨by rw[show l.length=j from Om];rfl,H.ext⟩
theorem smtot_any(A_l:Option Addr)(n_l c_l:Nat)(l:List Sm)(w:World)(h_l:Ls w A_l n_l c_l Sm.c 4 l)(g_l:∀x∈l,Ls w x.A x.n x.cp sc 1 x.st)(hn:n_l≤500)(hv:∀x∈l,(0≤x.th∧x.th≤1000000000000000)∧(0≤x.at_∧x.at_≤1000000000000)∧1≤x.w∧x.w≤1000000000000):
  Cr 10 #[.slice A_l n_l c_l] w (.int .i64 (wghN l l.length)):=by
 have H:=(Hp.nil w);have e_l:=h_l.len;have z_l:=h_l.nle;refine Wb Tryz.func10 ?_;refine G3 ?_;refine sb [0] ?_;refine go ?_;refine c1 H Fh (smw_any _ _ _ l _ (h_l.ext H.ext) (fun x hx=>(g_l x hx).ext H.ext) hn hv) fun z H=> ?_;refine go ?_;refine Rt [_] ?_;exact⟨rfl,H.ext⟩
theorem ssN_sum(l:List Sc):∀j,ssN l j=sumZ (fun i=>l[i]!.se) j
 |0=>rfl
 |j+1=>by unfold ssN sumZ;rw[ssN_sum l j]
theorem bzN_sum(T:Tv):∀j,j≤T.th.length→bzN T j=sumZ (fun i=>Sp.lenF (bzL T.sl T.ids[i]!)) j
 |0,_=>rfl
 |j+1,h=>by
  unfold bzN sumZ;rw[bzN_sum T j Om];grind
theorem ss_bz{T:Tv}(hv:TvV T):ssN T.sl T.sl.length=bzN T T.th.length:=by
 rw[ssN_sum,hv.s.sums hv.td (fun i hi=>(hv.n.v _ (mem_b hi)).2.1.1),bzN_sum _ _ Nl,List.length_map]
theorem upF_len(l:List Sc):∀n i,(upF l n i).length≤n
 |0,_=>Nat.le_refl _
 |n+1,i=>by
  unfold upF;split
  ·have:=upF_len l n l[i.toNat]!.pa;grind
  grind
theorem pkN_le(l:List Sc):∀j,pkN l j≤(l.length+1)*j
 |0=>Nat.le_refl _
 |j+1=>by
  have:=pkN_le l j;grind [upF_len,Int,pkN,pathF,Nat.mul_succ]
theorem fkN_le{l:List Sm}(h:∀x∈l,x.n≤32):∀j,j≤l.length→fkN l j≤32*j
 |0,_=>Nat.le_refl _
 |j+1,hj=>by
  have:=fkN_le h j Om;grind [mem_b,fkN]
theorem wgh_sum(l:List Sm):∀j,j≤l.length→wghN l j=((l.take j).map (·.w)).sum
 |0,_=>by rfl
 |j+1,h=>by
  unfold wghN;rw[wgh_sum l j Om,take_1 Om,List.map_append,List.sum_append];simp
def frmF(l:List Sm):List Sm:=l.filter fun x=>decide (0<x.n)
theorem fw_sum(l:List Sm):∀j,j≤l.length→fwN l j=((frmF (l.take j)).map (·.w)).sum
 |0,_=>by rfl
 |j+1,h=>by
  unfold fwN;rw[fw_sum l j Om,take_1 Om];unfold frmF;grind
theorem fw_wgh(l:List Sm):fwN l l.length=wghN (frmF l) (frmF l).length:=by
 rw[fw_sum l _ Nl,wgh_sum _ _ Nl,List.take_length,List.take_length]
def tsN(l:List Sg)(th:Int):Nat→Int
 |0=>0
 |j+1=>if l[j]!.th=th then tsN l th j+(l[j]!.t-l[j]!.f)else tsN l th j
theorem tt_all{l:List Sg}{th E:Int}(hv:∀i,i<l.length→0≤l[i]!.f∧l[i]!.f<l[i]!.t∧l[i]!.t≤E∧0≤l[i]!.s∧l[i]!.s≤5):∀j,j≤l.length→ttN l th 0 0 E j+ttN l th 1 0 E j+ttN l th 2 0 E j+ttN l th 3 0 E j+ttN l th 4 0 E j+ttN l th 5 0 E j=tsN l th j
 |0,_=>rfl
 |j+1,h=>by
  have ih:=tt_all (th:=th) hv j Om;obtain⟨h1,h2,h3,h4,h5⟩:=hv j Om;have e:max 0 (min l[j]!.t E-max l[j]!.f 0)=l[j]!.t-l[j]!.f:=Om;unfold ttN tsN;grind
theorem ts_at{ids:List Int}{l:List Sg}{E:Int}{n:Nat}(h:StChk ids l E n)(hn:n=ids.length){i:Int}(hi:i∈ids):∀j,j<l.length→tsN l i (j+1)=if ids.idxOf i<ids.idxOf l[j]!.th then E else if ids.idxOf i=ids.idxOf l[j]!.th then l[j]!.t else 0
 |0,hj=>by
  obtain⟨a1,a2⟩:=h.a hj;have hm:=h.k 0 hj;show(if l[0]!.th=i then(0:Int)+(l[0]!.t-l[0]!.f)else 0)=_;by_cases c:l[0]!.th=i
  ·grind
  ·rw[if_neg c,if_neg Om,if_neg (fun e=>c (idx_inj hi e))]
 |j+1,hj=>by
  have ih:=ts_at h hn hi j Om;have hm:=h.k (j+1) hj;have hp:=h.k j Om;show(if l[j+1]!.th=i then tsN l i (j+1)+(l[j+1]!.t-l[j+1]!.f)else tsN l i (j+1))=_;rw[ih];rcases h.nx j hj with⟨n1,n2,_⟩|⟨n1,n2,n3⟩
  ·rw[n1];by_cases c:l[j]!.th=i
   ·grind
   ·rw[if_neg c];have:ids.idxOf i≠ids.idxOf l[j]!.th:=fun e=>c (idx_inj hi e);omega
  ·by_cases c:l[j+1]!.th=i
   ·grind
   ·rw[if_neg c];have:ids.idxOf i≠ids.idxOf l[j+1]!.th:=fun e=>c (idx_inj hi e);omega
theorem ts_all{ids:List Int}{l:List Sg}{E:Int}(h:StChk ids l E ids.length){i:Int}(hi:i∈ids):tsN l i l.length=E:=by
 have hk:=List.idxOf_lt_length_of_mem hi;obtain⟨z1,z2,z3⟩:=h.z Om;have:=ts_at h rfl hi (l.length-1) Om;grind
theorem stf_rng{s cpu on:Int}(h:StF s cpu on):0≤s∧s≤5:=by unfold StF at h;omega
theorem TvV.sg{T:Tv}(hv:TvV T):∀i,i<T.sg.length→0≤T.sg[i]!.f∧T.sg[i]!.f<T.sg[i]!.t∧T.sg[i]!.t≤T.E∧0≤T.sg[i]!.s∧T.sg[i]!.s≤5:=fun i hi=>by
 obtain⟨v1,v2,v3,v4,_⟩:=hv.g.v i hi;have:=stf_rng v4;omega
theorem tt_E{T:Tv}(hv:TvV T){i:Int}(hi:i∈T.ids):ttN T.sg i 0 0 T.E T.sg.length+ttN T.sg i 1 0 T.E T.sg.length+ttN T.sg i 2 0 T.E T.sg.length+ttN T.sg i 3 0 T.E T.sg.length+ttN T.sg i 4 0 T.E T.sg.length+ttN T.sg i 5 0 T.E T.sg.length=T.E:=by
 rw[tt_all hv.sg _ Nl];exact ts_all hv.g (dsF_mem hi)
def rdN(T:Tv):Nat→Int
 |0=>0
 |j+1=>rdN T j+ttN T.sg T.th[j]!.id 0 0 T.E T.sg.length
theorem rdN_sum(T:Tv):∀j,j≤T.th.length→rdN T j=sumZ (fun i=>ttN T.sg T.ids[i]! 0 0 T.E T.sg.length) j
 |0,_=>rfl
 |j+1,h=>by
  unfold rdN sumZ;rw[rdN_sum T j Om];grind
theorem lat_le{l:List Sg}{ids:List Int}{E:Int}(hn:ids.Nodup)(hv:∀i,i<l.length→0≤l[i]!.f∧l[i]!.f<l[i]!.t∧l[i]!.t≤E∧0≤l[i]!.s∧l[i]!.s≤5)(hi:∀i,i<l.length→l[i]!.th∈ids):∀j,j≤l.length→((lwN l j).map fun x=>x.t-x.f).sum≤sumZ (fun i=>ttN l ids[i]! 0 0 E j) ids.length
 |0,_=>by
  have e:(fun i:Nat=>ttN l ids[i]! 0 0 E 0)=fun _=>0:=rfl;rw[e,sumZ_zero];exact Int.le_refl _
 |j+1,hj=>by
  have ih:=lat_le hn hv hi j Om;obtain⟨h1,h2,h3,_,_⟩:=hv j Om;have hm:=hi j Om;have hk:=List.idxOf_lt_length_of_mem hm;have hat:ids[ids.idxOf l[j]!.th]! =l[j]!.th:=by grind
  have e:max 0 (min l[j]!.t E-max l[j]!.f 0)=l[j]!.t-l[j]!.f:=Om;unfold lwN;split
  ·rename_i c;rw[List.map_append,List.sum_append];have hs:l[j]!.s=0:=by
    unfold wtB at c;grind
   have key:=sumZ_le (f:=fun i=>ttN l ids[i]! 0 0 E j+if i=ids.idxOf l[j]!.th then l[j]!.t-l[j]!.f else 0) (g:=fun i=>ttN l ids[i]! 0 0 E (j+1)) ids.length fun i hi'=>by
    show ttN l ids[i]! 0 0 E j+_≤(if l[j]!.th=ids[i]!∧l[j]!.s=0 then ttN l ids[i]! 0 0 E j+max 0 (min l[j]!.t E-max l[j]!.f 0)else ttN l ids[i]! 0 0 E j);grind
   rw[sumZ_add,sumZ_one _ hk]at key;grind
  ·refine Int.le_trans ih (sumZ_le _ fun i _=> ?_);show _≤(if l[j]!.th=ids[i]!∧l[j]!.s=0 then ttN l ids[i]! 0 0 E j+max 0 (min l[j]!.t E-max l[j]!.f 0)else ttN l ids[i]! 0 0 E j);omega
theorem dsT_sub(ths:List Th):∀j,j≤ths.length→∀x∈dsT ths j,x∈ths.map (·.id)
 |0,_,x,h=>by cases h
 |j+1,hj,x,h=>by
  have ih:=dsT_sub ths j Om;rw[dsT_succ]at h;grind
theorem TvV.sgth{T:Tv}(hv:TvV T):∀i,i<T.sg.length→T.sg[i]!.th∈T.ids:=fun i hi=>by
 have:=hv.g.k i hi;exact dsT_sub T.th _ Nl _ (List.idxOf_lt_length_iff.1 this)
theorem lat_rd{T:Tv}(hv:TvV T):(srtI ((lwF T.sg).map fun x=>x.t-x.f)).sum≤rdN T T.th.length:=by
 rw[show(srtI ((lwF T.sg).map fun x=>x.t-x.f)).sum=((lwF T.sg).map fun x=>x.t-x.f).sum from perm_sum (List.mergeSort_perm _ _),rdN_sum _ _ Nl];have:=lat_le hv.td hv.sg hv.sgth _ Nl;rwa[List.length_map]at this
def suN(l:List Int):Nat→Int
 |0=>0
 |j+1=>suN l j+l[j]!
theorem suN_take(l:List Int):∀j,j≤l.length→suN l j=(l.take j).sum
 |0,_=>rfl
 |j+1,h=>by
  unfold suN;rw[suN_take l j Om,take_1 Om,List.sum_append];simp
theorem suN_rng{l:List Int}(h:∀x∈l,0≤x){j:Nat}(hj:j<l.length):0≤suN l j∧0≤l[j]!∧suN l j+l[j]!≤l.sum:=by
 rw[suN_take l j Om];have:=sum_take h hj;simp_all
theorem suN_all(l:List Int):suN l l.length=l.sum:=by rw[suN_take l _ Nl,List.take_length]
theorem frmF_len(l:List Sm):(frmF l).length≤l.length:=List.length_filter_le _ _
theorem frm_mem{l:List Sm}{x:Sm}(h:x∈frmF l):x∈l:=(List.mem_filter.1 h).1
theorem frmF_tk(l:List Sm)(j:Nat):(frmF (l.take j)).length≤l.length:=by
 grind [frmF_len,List.length_take]
theorem frmF_yes{l:List Sm}{j:Nat}(hj:j<l.length)(h:((l[j]!.n:Nat):Int)>0):frmF (l.take (j+1))=frmF (l.take j)++[l[j]!]:=by
 unfold frmF;rw[take_1 hj,List.filter_append,List.filter_cons_of_pos (by grind)];rfl
theorem frmF_no{l:List Sm}{j:Nat}(hj:j<l.length)(h:¬((l[j]!.n:Nat):Int)>0):frmF (l.take (j+1))=frmF (l.take j):=by
 unfold frmF;rw[take_1 hj,List.filter_append,List.filter_cons_of_neg (by grind)];simp
def ttS(T:Tv)(i:Int):Nat→Int
 |0=>0
 |k+1=>ttS T i k+ttN T.sg i (k:Int) 0 T.E T.sg.length
theorem ttS_E{T:Tv}(hv:TvV T){i:Int}(hi:i∈T.ids):ttS T i 6=T.E:=by
 have h:=tt_E hv hi;have e:ttS T i 6=0+ttN T.sg i 0 0 T.E T.sg.length+ttN T.sg i 1 0 T.E T.sg.length+ttN T.sg i 2 0 T.E T.sg.length+ttN T.sg i 3 0 T.E T.sg.length+ttN T.sg i 4 0 T.E T.sg.length+ttN T.sg i 5 0 T.E T.sg.length:=rfl;omega
theorem ttN_1{T:Tv}(hv:TvV T)(hl:T.sg.length≤100000)(i k:Int):0≤ttN T.sg i k 0 T.E T.sg.length∧ttN T.sg i k 0 T.E T.sg.length≤100000000000000000:=by
 have:=ttN_rng (l:=T.sg) (th:=i) (k:=k) (a:=0) (b:=T.E) (by have:=hv.e;omega) T.sg.length;omega
theorem ttS_rng{T:Tv}(hv:TvV T)(hl:T.sg.length≤100000)(i:Int):∀k,0≤ttS T i k∧ttS T i k≤100000000000000000*(k:Int)
 |0=>⟨Int.le_refl _,Int.le_refl _⟩
 |k+1=>by
  have:=ttS_rng hv hl i k;have:=ttN_1 hv hl i (k:Int);grind [ttS]
theorem rdN_rng{T:Tv}(hv:TvV T)(hl:T.sg.length≤100000):∀j,j≤T.th.length→0≤rdN T j∧rdN T j≤1000000000000*(j:Int)
 |0,_=>⟨Int.le_refl _,Int.le_refl _⟩
 |j+1,hj=>by
  have:=rdN_rng hv hl j Om;have:=hv.e;have e:=tt_E hv (List.mem_map_of_mem (f:=fun x:Th=>x.id) (mem_b (show j<T.th.length by omega)));have h0:=ttN_1 hv hl T.th[j]!.id 0;have h1:=ttN_1 hv hl T.th[j]!.id 1;have h2:=ttN_1 hv hl T.th[j]!.id 2;have h3:=ttN_1 hv hl T.th[j]!.id 3;have h4:=ttN_1 hv hl T.th[j]!.id 4;have h5:=ttN_1 hv hl T.th[j]!.id 5;grind [rdN]
theorem lat_pos{T:Tv}(hv:TvV T):∀x∈srtI ((lwF T.sg).map fun x=>x.t-x.f),(0:Int)≤x:=fun x hx=>by
 obtain⟨y,hy,rfl⟩:=List.mem_map.1 ((List.mergeSort_perm _ _).mem_iff.1 hx);obtain⟨i,hi,rfl⟩:=mem_at (lwN_mem T.sg _ Nl y hy);have:=hv.sg i hi;omega
structure Tg(T:Tv):Prop where
 v:TvV T
 s:T.sl.length≤24
 m:T.sm.length≤24
 t:T.th.length≤10
 n:∀x∈T.sm,x.n=x.st.length
 g:T.sg.length≤100000
theorem Tg.hS{T:Tv}(h:Tg T):ssN T.sl T.sl.length≤100000000000000:=by
 rw[ss_bz h.v];have:=bzN_rng T T.th.length;have:=h.t;omega
theorem Tg.hK{T:Tv}(h:Tg T):pkN T.sl T.sl.length≤2000:=by
 have h1:=pkN_le T.sl T.sl.length;have h2:(T.sl.length+1)*T.sl.length≤25*24:=Nat.mul_le_mul (by have:=h.s;omega) h.s;omega
theorem Tg.fr{T:Tv}(h:Tg T):∀x∈T.sm,x.n≤32:=fun x hx=>by
 have h1:=(h.v.m.v (Sm.q x) (List.mem_map_of_mem hx)).2.2.2;have h1:frF x.st=0:=h1;have h2:=h.n x hx;unfold frF at h1;omega
theorem Tg.hF{T:Tv}(h:Tg T):fkN T.sm T.sm.length≤2000:=by
 have h1:=fkN_le h.fr T.sm.length Nl;have:=h.m;omega
theorem Tg.smv{T:Tv}(h:Tg T):∀x∈frmF T.sm,(0≤x.th∧x.th≤1000000000000000)∧(0≤x.at_∧x.at_≤1000000000000)∧1≤x.w∧x.w≤1000000000000:=fun x hx=>by
 obtain⟨a,⟨b1,b2,b3⟩,c,_⟩:=h.v.m.v (Sm.q x) (List.mem_map_of_mem ((List.mem_filter.1 hx).1));exact⟨a,⟨b1,b3⟩,c⟩
theorem Tg.sgr{T:Tv}(h:Tg T):∀j,j<T.sg.length→0≤T.sg[j]!.f∧T.sg[j]!.f<T.sg[j]!.t∧T.sg[j]!.t≤1000000000000:=fun j hj=>by
 have:=h.v.sg j hj;have:=h.v.e;omega
theorem wsum_ev{l:List Pk}(h:∀x∈l,x.k≤1000)(hl:l.length≤40):∀j,j≤l.length→wsum l j=((evsum l j:Nat):Int)∧evsum l j≤1000*j
 |0,_=>⟨rfl,Nat.le_refl _⟩
 |j+1,hj=>by
  obtain⟨a,b⟩:=wsum_ev h hl j Om;have hk:=h _ (mem_b (show j<l.length by omega));rw[evsum_mono];refine⟨?_,Om⟩;show IntKind.i64.wrap (wsum l j+((l[j]!.k:Nat):Int))=_;grind [wrap_i64]
def tv0:Tv:=⟨0,none,0,0,[],none,0,0,[],none,0,0,[],none,0,0,[],none,0,0,[],none,0,0,[],none,0,0,[],none,0,0,[]⟩
theorem tv0_ok(w:World):tv0.ok w:=⟨Ls.nil Dc,Ls.nil Dc,Ls.nil Dc,Ls.nil Dc,Ls.nil Dc,fun y hy=>(by cases hy),Ls.nil Dc,Ls.nil Dc,fun y hy=>(by cases hy),Ls.nil Dc⟩
theorem tr2_any(A_ta:Option Addr)(n_ta c_ta:Nat)(ta:List Th)(A_da:Option Addr)(n_da c_da:Nat)(da:List Dm)(A_na:Option Addr)(n_na c_na:Nat)(na:List Sn)(A_pa:Option Addr)(n_pa c_pa:Nat)(pa:List Pk)(w:World)(h_ta:Ls w A_ta n_ta c_ta Th.c 3 ta)(h_da:Ls w A_da n_da c_da Dm.c 2 da)(h_na:Ls w A_na n_na c_na Sn.c 5 na)(h_pa:Ls w A_pa n_pa c_pa Pk.c 4 pa)(g_pa:PksOk w pa)(hb:shW ta da na pa 24=true):
  Calls Tryz.prog 6 #[.agg #[.slice A_ta n_ta c_ta,.slice A_da n_da c_da,.slice A_na n_na c_na,.slice A_pa n_pa c_pa]] w fun e w'=>∃T:Tv,∃E:Int,e= .returned (.tuple #[T.v,.int .i64 E])∧Ext w w'∧T.ok w'∧(E=0→0<T.gN→Tg T):=by
 have e_ta:=h_ta.len;have e_da:=h_da.len;have e_na:=h_na.len;have e_pa:=h_pa.len;unfold shW at hb;simp only[Bool.and_eq_true,decide_eq_true_eq]at hb;obtain⟨⟨⟨⟨b1,b2⟩,b3⟩,b4⟩,b5⟩:=hb;by_cases hk:∀x∈pa,x.k≤1000
 ·have hw:=wsum_ev hk Om pa.length Nl;have he:evsum pa pa.length≤24:=Om;refine(trace_any A_ta n_ta c_ta ta A_da n_da c_da da A_na n_na c_na na A_pa n_pa c_pa pa w h_ta h_da h_na h_pa g_pa (fun x hx=>by grind) Om Om he Om).mono fun e w' h=> ?_;obtain⟨tv,rfl,x,h1,h2⟩:=h;by_cases e0:trE ta da na pa=0
  ·obtain⟨v1,v2,v3,v4,v5,v6,v7,xs,rfl,H,hx⟩:=h2 e0;obtain⟨T,e,ok,vv,_,t2,t3,_,t5,t6⟩:=tv_of h_ta g_pa he Om e0 x H hx;refine⟨T,trE ta da na pa,by rw[e],x,ok,fun _ hg=> ?_⟩;have g1:=ok.g.len;have s1:=ok.s.len;have m1:=ok.m.len;have V:=vv (fun q=>by grind);exact⟨V,Om,Om,by grind,fun y hy=>(ok.mg y hy).len.symm,by have:=V.gn;omega⟩
  ·rw[h1 e0];exact⟨tv0,_,rfl,x,tv0_ok w',fun q=>absurd q e0⟩
 ·have hB:∃x∈pa,1000<x.k:=by
   grind
  refine(trB_any A_ta n_ta c_ta ta A_da n_da c_da da A_na n_na c_na na A_pa n_pa c_pa pa w h_ta h_da h_na h_pa g_pa Om Om Om Om hB).mono fun e w' h=> ?_;obtain⟨E,rfl,hE,x⟩:=h;exact⟨tv0,E,rfl,x,tv0_ok w',fun q=>absurd q hE⟩
end TW
end Go.Proofs.YtaclfjjipnpboaaGreat
end
namespace Go.Eng
open Go Go.RowKit
section
variable{P:Program}{n:Nat}{Q:Exit→Act→World→Prop}{E E2:Env}{W w:World}{x y:Code}{L:List Res}
theorem WC.jn(_H:Hp W w L)(h1:WC P n x (fun e a w'=>e= .normal∧Hp W w' L∧Ok n E a) E w)(h2:∀w',Hp W w' L→WC P n y Q E w'):WC P n (.seq x y) Q E w:=by
 intro a ha;refine wp_seq (wp_mono (h1 a ha) fun e a w h=> ?_);obtain⟨rfl,H,hok⟩:=h;exact h2 w H a hok
theorem WK.jn(H:Hp W w L)(hs:Sub E E2):WK n (fun a w'=>Exit.normal= .normal∧Hp W w' L∧Ok n E a) E2 w:=fun _ ha=>⟨rfl,H,ha.sub hs⟩
end
end Go.Eng
section
attribute [local irreducible] Go.Eng.WC Go.Eng.WL Go.Eng.WK Go.Eng.WQ Go.Eng.WX Go.Eng.Yld
namespace Go.Proofs.YtaclfjjipnpboaaGreat
open Go Go.Eng Go.RowKit
namespace TW
theorem top_any(A_ta:Option Addr)(n_ta c_ta:Nat)(ta:List Th)(A_da:Option Addr)(n_da c_da:Nat)(da:List Dm)(A_na:Option Addr)(n_na c_na:Nat)(na:List Sn)(A_pa:Option Addr)(n_pa c_pa:Nat)(pa:List Pk)(from_:Int)(w:World)(h_ta:Ls w A_ta n_ta c_ta Th.c 3 ta)(h_da:Ls w A_da n_da c_da Dm.c 2 da)(h_na:Ls w A_na n_na c_na Sn.c 5 na)(h_pa:Ls w A_pa n_pa c_pa Pk.c 4 pa)(g_pa:PksOk w pa):
  Cr 3 #[.agg #[.slice A_ta n_ta c_ta,.slice A_da n_da c_da,.slice A_na n_na c_na,.slice A_pa n_pa c_pa],.int .i64 from_] w (.bool true):=by
 have H:=(Hp.nil w);have e_ta:=h_ta.len;have z_ta:=h_ta.nle;have e_da:=h_da.len;have z_da:=h_da.nle;have e_na:=h_na.len;have z_na:=h_na.nle;have e_pa:=h_pa.len;have z_pa:=h_pa.nle;refine Wb Tryz.func3 ?_;refine go ?_;refine bx H fun g2 z H=> ?_;refine go ?_;refine c1 H Fh (short2_any _ _ _ ta _ _ _ da _ _ _ na _ _ _ pa 24 _ (h_ta.ext H.ext) (h_da.ext H.ext) (h_na.ext H.ext) (h_pa.ext H.ext) (g_pa.ext H.ext)) fun z H=> ?_;refine go ?_;refine WC.cond rfl (fun h6=> ?_) (fun h6=> ?_)
 ·refine go ?_;refine c1 H Fh (alive_any _) fun z H=> ?_;refine go ?_;refine Rt [_] ?_;exact⟨rfl,H.ext⟩
 ·have hb:shW ta da na pa 24=true:=by simpa using h6
  refine go ?_;refine c3 Fh (tr2_any _ _ _ ta _ _ _ da _ _ _ na _ _ _ pa _ (h_ta.ext H.ext) (h_da.ext H.ext) (h_na.ext H.ext) (h_pa.ext H.ext) (g_pa.ext H.ext) hb) ?_;rintro _ w2 ⟨T,E0,rfl,x2,hT,hG⟩;have X2:=H.ext.trans x2;have H:=Hp.nil w2;have e_t:=hT.t.len;have e_s:=hT.s.len;have e_g:=hT.g.len;have e_f:=hT.f.len;have e_m:=hT.m.len;have e_p:=hT.p.len;have e_b:=hT.b.len;have e_l:=hT.l.len;have z_t:=hT.t.nle;have z_s:=hT.s.nle;have z_g:=hT.g.nle;have z_f:=hT.f.nle;have z_m:=hT.m.nle;have z_p:=hT.p.nle;have z_b:=hT.b.nle;have z_l:=hT.l.nle;refine⟨_,rfl,?_⟩;refine go ?_;refine al H ti42 fun g9 z H=> ?_;refine st H 0 ti42 fun z H=> ?_;refine go ?_;refine Cd (fun p13=> ?_) fun p13=> ?_
  ·refine go ?_;refine c1 H Fh (alive_any _) fun z H=> ?_;refine go ?_;refine Rt [_] ?_;exact⟨rfl,X2.trans H.ext⟩
  ·have hE:E0=0:=Om;have G:=hG hE Om;have hv:=G.v;have hf:=fill_of hv;have ve:=hv.e;have vgn:=hv.gn;have sb_:=ss_bz hv;have gm:=G.m;have gt:=G.t;refine G2 ?_;refine sb [1,5] ?_;refine go ?_;refine c3 Fh (flosl_any T _ (hT.ext H.ext) hv G.hS G.hK) ?_;rintro _ z ⟨v16,L17,rfl,ow,hc_L17,hs_L17,ht_L17,hl_L17,x⟩;have H:=H.newRow ow x;refine⟨_,rfl,?_⟩;refine go ?_;refine Qr ?_;refine G1 ?_;refine yq (Yld.cast (Y.neq rfl rfl rfl) (by first|rfl|decide)) ?_;obtain⟨A21,n22,c23,rfl,_,_,_⟩:=H.op 0;refine G2 ?_;refine WQ.callW rfl (blt rfl) rfl rfl rfl rfl rfl Fh rfl (fun w hw=>calls_ext hw (flsum_any _ _ _ _ _ (Ls.ext (H.l 0) hw) hc_L17)) ?_;refine WQ.yldW rfl (blt rfl) rfl rfl rfl (Y.loadS rfl u42 rfl ti42 rfl (Blk.row_ext (H.b 1))) ?_;refine WQ.callW rfl (blt rfl) rfl rfl rfl rfl rfl Fh rfl (fun w hw=>calls_ext hw (busy_any T _ (hT.ext (Ext.trans H.ext hw)) (by have:=hv.tn;omega) (by have:=hv.sn;omega))) ?_;refine WQ.yldW rfl (blt rfl) rfl rfl rfl (Yld.cast (Y.neq rfl rfl rfl) (vb (bne_eq_false_iff_eq.2 Om))) ?_;refine yq (Y.pickF rfl rfl rfl) ?_;refine Qd H fun z H=> ?_;refine go ?_;refine WC.condF rfl ?_;have H:=H.nilRow 53 Sm.c 4;refine go ?_;refine sb [63,8,1,5,61,62] ?_;refine WC.loopS 2 (fun mz Ed W'=>∃j:Nat,∃v:Value,mz=T.mN-j∧Ed=[(63,.int .i64 ((j:Nat):Int)),(8,v)]∧Hp w2 W' (row 53 Sm.c 4 v ((frmF (T.sm.take j)))::_::_::[])∧(j≤T.mN)) _ ⟨0,_,rfl,rfl,(H.pick [0,0,0]),(Nat.zero_le _)⟩ ?_;rintro _ _ z ⟨j,v,rfl,rfl,H,jl⟩;have dl:(frmF (T.sm.take j)).length≤1000:=by have:=frmF_tk T.sm j;omega
   refine go ?_;refine Cd (fun p31=> ?_) fun p31=> ?_
   ·have b34:j<T.mN:=Om;refine go ?_;refine al H ti53 fun g35 z H=> ?_;refine st H 0 ti53 fun z H=> ?_;refine go ?_;refine Cd (fun p38=> ?_) fun p38=> ?_
    ·refine go ?_;refine bs1 H u37 ti53 fun g39 z H=> ?_;refine ap H 2 0 rfl [T.sm[j]!] u37 ti53 rfl Sm.one (room_le dl (Nat.le_refl 1) Om) fun v41 z H=> ?_;refine go ?_;exact Rs [(63,_),(8,_)] Sx ⟨(j+1),v41,rfl,rfl,(by rw[frmF_yes Om p38];exact(H.pick [2,2,2])),Om⟩
    ·refine go ?_;exact Rs [(63,_),(8,_)] Sx ⟨(j+1),v,rfl,rfl,(by rw[frmF_no Om p38];exact(H.pick [1,1,1])),Om⟩
   ·obtain rfl:j=T.sm.length:=Om;rw[List.take_length]at H;have fl_:=frmF_len T.sm;have fw_:=fw_wgh T.sm;refine G5 ?_;refine sb [1,5,8] ?_;refine WC.jn H ?_ fun z H=> ?_
    ·obtain⟨A43,n44,c45,rfl,_,_,_⟩:=H.op 0;refine go ?_;refine c1 H Fh (smtot_any _ _ _ _ _ (H.l 0) (fun x hx=>(hT.mg x (frm_mem hx)).ext H.ext) Om G.smv) fun z H=> ?_;refine go ?_;refine Cd (fun p46=> ?_) fun p46=> ?_
     ·refine go ?_;refine c3 Fh (flosm_any _ _ _ T.sm _ (hT.m.ext H.ext) (fun x hx=>(hT.mg x hx).ext H.ext) T.ids T.E hv.m Om (by rw[fw_wgh];omega) G.hF) ?_;rintro _ z ⟨v48,L49,rfl,ow,hc_L49,hs_L49,x⟩;have H:=H.newRow ow x;refine⟨_,rfl,?_⟩;refine G8 ?_;refine Kd ?_;refine G2 ?_;refine WL.guarded rfl rfl rfl ?_;obtain⟨A52,n53,c54,rfl,_,_,_⟩:=H.op 0;refine c1 H Fh (flsum_any _ _ _ _ _ (H.l 0) hc_L49) fun z H=> ?_;refine G1 ?_;refine WL.guarded rfl rfl rfl ?_;refine c1 H Fh (smtot_any _ _ _ _ _ (H.l 1) (fun x hx=>(hT.mg x (frm_mem hx)).ext H.ext) Om G.smv) fun z H=> ?_;refine WL.yldW rfl (blt rfl) rfl rfl rfl (Yld.cast (Y.neq rfl rfl rfl) (vb (bne_eq_false_iff_eq.2 Om))) ?_;refine yy (Y.pickF rfl rfl rfl) ?_;refine go ?_;refine WC.condF rfl ?_;refine G1 ?_;exact WK.jn (H.pick [1,1,1]) (by repeat (first|exact trivial|refine⟨rfl,?_⟩))
     ·refine G1 ?_;exact WK.jn (H.pick [0,0,0]) (by repeat (first|exact trivial|refine⟨rfl,?_⟩))
    ·refine go ?_;refine al H ti33 fun g56 z H=> ?_;refine st H 0 ti33 fun z H=> ?_;refine go ?_;refine sb [102,14,1,5,13,100,101] ?_;refine WC.loopS 2 (fun mz Ed W'=>∃j:Nat,mz=T.tN-j∧Ed=[(102,.int .i64 ((j:Nat):Int)),(14,.int .i64 (rdN T j))]∧Hp w2 W' (_::_::[])∧(j≤T.tN)) _ ⟨0,rfl,rfl,(H.pick [0,2]),(Nat.zero_le _)⟩ ?_;rintro _ _ z ⟨j,rfl,rfl,H,jl⟩;have rr:=rdN_rng hv Om j Om;refine go ?_;refine Cd (fun p63=> ?_) fun p63=> ?_
     ·have ij:T.th[j]!.id∈T.ids:=List.mem_map_of_mem (mem_b (show j<T.th.length by omega));have b66:j<T.tN:=Om;refine go ?_;refine al H ti57 fun g67 z H=> ?_;refine st H 0 ti57 fun z H=> ?_;refine go ?_;refine sb [18,17,1,5,13,14,16,100,101,102] ?_;refine WC.loopS 2 (fun mz Ed W'=>∃k:Nat,mz=6-k∧Ed=[(18,.int .i64 ((k:Nat):Int)),(17,.int .i64 (ttS T T.th[j]!.id k))]∧Hp w2 W' (_::_::_::[])∧(k≤6)) _ ⟨0,rfl,rfl,(H.pick [0,0,0]),(Nat.zero_le _)⟩ ?_;rintro _ _ z ⟨k,rfl,rfl,H,kl⟩;refine go ?_;refine Cd (fun p74=> ?_) fun p74=> ?_
      ·have tk:=ttS_rng hv Om T.th[j]!.id k;have tn_:=ttN_rng (l:=T.sg) (th:=T.th[j]!.id) (k:=(k:Int)) (a:=0) (b:=T.E) Om T.sg.length;refine go ?_;refine c1 H Fh (sttot_any _ _ _ T.sg T.th[j]!.id (k:Int) 0 T.E _ (hT.g.ext H.ext) Om Om G.sgr) fun z H=> ?_;refine go ?_;exact Rs [(18,_),(17,_)] Sx ⟨(k+1),rfl,rfl,(H.pick [0,0,0]),Om⟩
      ·obtain rfl:k=6:=Om;have te:=ttS_E hv ij;have t0_:=ttN_1 hv Om T.th[j]!.id 0;have rs:=rdN_rng hv Om (j+1) Om;have rs2:rdN T (j+1)=rdN T j+ttN T.sg T.th[j]!.id 0 0 T.E T.sg.length:=rfl;refine G5 ?_;refine sb [1,5,13,14,16,17,100,101,102] ?_;refine go ?_;refine c1 H Fh (sttot_any _ _ _ T.sg T.th[j]!.id 0 0 T.E _ (hT.g.ext H.ext) Om Om G.sgr) fun z H=> ?_;refine G9 ?_;refine yy (Yld.cast (Y.neq rfl rfl rfl) (vb (bne_eq_false_iff_eq.2 Om))) ?_;refine go ?_;refine WC.condF rfl ?_;refine go ?_;refine Cd (fun p81=> ?_) fun p81=> ?_
       ·refine go ?_;exact Rs [(102,_),(14,_)] Sx ⟨(j+1),rfl,rfl,(H.pick [1,1]),Om⟩
       ·refine G2 ?_;refine sb [1,5,13,14,16,100,101,102] ?_;refine go ?_;refine c3 Fh (crpath_any T T.th[j]!.id from_ T.E _ (hT.ext H.ext) hv hf (List.mem_map_of_mem (mem_b Om)) Om) ?_;rintro _ z ⟨v1,L1,rfl,ow,hO,x⟩;have H:=H.newRow ow x;refine⟨_,rfl,?_⟩;obtain⟨A87,n88,c89,rfl,_,_,_⟩:=H.op 0;refine go ?_;refine c3 Fh (crsh_any _ _ _ _ _ (H.l 0) hO.v (by have:=hO.n;omega)) ?_;rintro _ z ⟨v3,L3,rfl,ow,hS3,hR3,hN3,x⟩;have H:=H.newRow ow x;refine⟨_,rfl,?_⟩;obtain⟨A91,n92,c93,rfl,_,_,_⟩:=H.op 0;have sp_:∀x∈L3.map (·.2),(0:Int)≤x:=fun x hx=>by
         obtain⟨y,hy,rfl⟩:=List.mem_map.1 hx;exact(hR3 y hy).1
        have ss_:(L3.map (·.2)).sum=T.E-from_:=hS3.trans hO.s;refine go ?_;refine sb [154,21,1,5,13,14,20,100,101,102,152,153] ?_;refine WC.loopS 2 (fun mz Ed W'=>∃q:Nat,mz=n92-q∧Ed=[(154,.int .i64 ((q:Nat):Int)),(21,.int .i64 (suN (L3.map (·.2)) q))]∧Hp w2 W' (_::_::_::_::_::[])∧(q≤n92)) _ ⟨0,rfl,rfl,(H.pick [0,0,0,0,0]),(Nat.zero_le _)⟩ ?_;rintro _ _ z ⟨q,rfl,rfl,H,ql⟩;refine go ?_;refine Cd (fun p96=> ?_) fun p96=> ?_
        ·have sq:=suN_rng sp_ (j:=q) (by rw[List.length_map];omega);have mq:(L3.map (·.2))[q]! =L3[q]!.2:=map_b _ Om;rw[mq]at sq;have b99:q<n92:=Om;refine go ?_;refine al H ti64 fun g100 z H=> ?_;refine st H 0 ti64 fun z H=> ?_;refine G3 ?_;refine yy (Y.indexArr rfl u64 ti3 rfl rfl Dc) ?_;refine G10 ?_;rw[show suN (L3.map (·.2)) q+L3[q]!.2=suN (L3.map (·.2)) (q+1)from by rw[←mq];rfl];exact Rs [(154,_),(21,_)] Sx ⟨(q+1),rfl,rfl,(H.pick [1,1,1,1,1]),Om⟩
        ·obtain rfl:q=L3.length:=Om;have sa:=suN_all (L3.map (·.2));rw[List.length_map]at sa;refine G7 ?_;refine Kd ?_;refine G6 ?_;refine WL.yldW rfl (blt rfl) rfl rfl rfl (Y.sub rfl rfl rfl Wo) ?_;refine WL.yldW rfl (blt rfl) rfl rfl rfl (Yld.cast (Y.neq rfl rfl rfl) (vb (bne_eq_false_iff_eq.2 Om))) ?_;refine yy (Y.pickF rfl rfl rfl) ?_;refine go ?_;refine WC.condF rfl ?_;refine G3 ?_;refine sb [1,5,13,14,100,101,102] ?_;refine go ?_;exact Rs [(102,_),(14,_)] Sx ⟨(j+1),rfl,rfl,(H.pick [3,3]),Om⟩
     ·obtain rfl:j=T.th.length:=Om;refine go ?_;refine c3 Fh (latall_any T _ (hT.ext H.ext) hv) ?_;rintro _ z ⟨v1,rfl,ow,x⟩;have H:=H.newRow ow x;refine⟨_,rfl,?_⟩;obtain⟨A108,n109,c110,rfl,_,_,_⟩:=H.op 0;have la_:=lat_rd hv;have rr:=rdN_rng hv Om T.th.length Nl;have lp_:=lat_pos hv;refine go ?_;refine sb [182,25,6,14,180,181] ?_;refine WC.loopS 2 (fun mz Ed W'=>∃j:Nat,mz=n109-j∧Ed=[(182,.int .i64 ((j:Nat):Int)),(25,.int .i64 (suN (srtI ((lwF T.sg).map fun x=>x.t-x.f)) j))]∧Hp w2 W' (_::_::_::[])∧(j≤n109)) _ ⟨0,rfl,rfl,(H.pick [0,0,0]),(Nat.zero_le _)⟩ ?_;rintro _ _ z ⟨j,rfl,rfl,H,jl⟩;refine go ?_;refine Cd (fun p113=> ?_) fun p113=> ?_
      ·have sj:=suN_rng lp_ (j:=j) Om;have b116:j<n109:=Om;refine go ?_;exact Rs [(182,_),(25,_)] Sx ⟨(j+1),rfl,rfl,(H.pick [0,0,0]),Om⟩
      ·obtain rfl:j=(srtI ((lwF T.sg).map fun x=>x.t-x.f)).length:=Om;have sa:=suN_all (srtI ((lwF T.sg).map fun x=>x.t-x.f));refine G7 ?_;refine Kd ?_;refine G3 ?_;refine WL.yldW rfl (blt rfl) rfl rfl rfl (Yld.cast (Y.leq rfl rfl rfl) (vb (decide_eq_true Om))) ?_;refine yy (Y.pickT rfl rfl rfl) ?_;refine G1 ?_;refine WL.guarded rfl rfl rfl ?_;refine c1 H Fh (alive_any _) fun z H=> ?_;refine yy (Y.pickT rfl rfl rfl) ?_;refine go ?_;refine Rt [_] ?_;exact⟨rfl,X2.trans H.ext⟩
end TW
end Go.Proofs.YtaclfjjipnpboaaGreat
end
namespace Go.Eng
open Go Go.RowKit Go.WideShapes Go.ChangeShapes Go.WideElems Go.Deep
section
variable{H:Type}{enc:TypeId×Value→H}{P:Program}{w:World}{base:Nat}{spare:Nat→Bool}{held:Bool}
def Opens(H:Type)(enc:TypeId×Value→H)(P:Program)(w:World)(base:Nat)(spare:Nat→Bool)(held:Bool)(t:TypeId){α:Type}(f:α→List Value)(Wf:α→Prop):Prop:=
 ∀(fuel:Nat) (cs:List Value) (x:DataW H×List MemPlace),DataW.trod enc P w base spare held fuel t cs=some x→∃y,cs=f y∧Wf y
theorem opens_flat{α:Type}{f:α→List Value}{Wf:α→Prop}{t:TypeId}{ks:List FK}{m:Nat}(hk:flatK P m t=some ks)(hf:∀cs,okAll ks cs→∃x,cs=f x∧Wf x):Opens H enc P w base spare held t f Wf:=
 fun _ _ _ hx=>hf _ (flat_ok m hk hx)
theorem open_listG{α:Type}[Inhabited α]{f:α→List Value}{Wf:α→Prop}{sz:Nat}{t e:TypeId}{fuel:Nat}{cs:List Value}{x:DataW H×List MemPlace}(hU:P.underlying t=some (.slice e))(hc:P.cellsOf e=sz)(hp:0<sz)
  (hf:Opens H enc P w base spare held e f Wf) (hlen:∀x,(f x).length=sz) (hx:DataW.trod enc P w base spare held fuel t cs=some x):
  ∃A n cap,∃l:List α,cs=[.slice A n cap]∧Ls w A n cap f sz l∧∀x∈l,Wf x:=by
 subst hc;rcases open_slice hU hx with⟨hcs,_⟩|⟨a,n,cap,mm,nn,D,Pl,hcs,hb,hl,hm,hmm,_,hel⟩
 ·exact⟨none,0,0,[],hcs,Ls.nil (Nat.zero_le _),by simp⟩
 ·have hle:n≤mm:=by grind
  obtain⟨g,hg⟩:=choose_lt (α:=α) (n:=n) (p:=fun i x=>w.cells? base (a.add (i*P.cellsOf e)) (P.cellsOf e)=some (f x)∧Wf x) (fun i hi=>by
   obtain⟨cs',h1,h2⟩:=hel i Om;obtain⟨x,rfl,hw⟩:=hf _ _ _ h2;grind)
  refine⟨some a,n,cap,(List.range n).map g,hcs,⟨by simp,hl,hm,?_⟩,?_⟩
  ·intro i x hix;have hi:i<n:=by
    grind
   have hxg:x=g i:=by
    grind
   subst hxg;obtain⟨_,_,hcell⟩:=World.cells?_some (hg i hi).1;have hone:∀j u,(f (g i))[j]? =some u→w.cell? (a.add (i*P.cellsOf e+j))=some u:=fun j u hu=>by
    grind [List.getElem?_eq_some_iff,add_assoc_addr]
   refine⟨a,rfl,Nat.zero_le _,?_,hone⟩;have h0:=hone 0 _ (List.getElem?_eq_getElem Om);have:=cell_lt h0;grind [block_add]
  grind
end
end Go.Eng
namespace Go.Proofs.YtaclfjjipnpboaaGreat
open Go Go.Eng Go.RowKit Go.WideShapes Go.ChangeShapes Go.WideElems Go.Deep
namespace TW
section
variable{H:Type}{enc:TypeId×Value→H}{w:World}{base:Nat}{spare:Nat→Bool}{held:Bool}
theorem cells_of{cs us:List Value}(hl:cs.length=us.length)(h:∀i u,us[i]? =some u→(cs.drop i).take 1=[u]):cs=us:=by
 refine List.ext_getElem hl fun i h1 h2=> ?_;have:=h i us[i] (List.getElem?_eq_getElem h2);rw[List.drop_eq_getElem_cons h1,List.take_succ_cons,List.take_zero]at this;grind
theorem open_ones{P:Program}{t:TypeId}{fs:Array Field}{n fuel:Nat}{cs:List Value}{x:DataW H×List MemPlace}(hU:P.underlying t=some (.struct fs))(ct:P.cellsOf t=n)(hf:∀(i:Nat) (f:Field),fs[i]? =some f→f.offset=i∧P.cellsOf f.type=1)(hx:DataW.trod enc P w base spare held fuel t cs=some x):
  cs.length=n∧∀(i:Nat) (f:Field),fs[i]? =some f→∃fuel' x',DataW.trod enc P w base spare held fuel' f.type ((cs.drop i).take 1)=some x':=by
 obtain⟨xs,m,_,_,hl,hxl,hg⟩:=DataW.trod_struct hU hx;grind
theorem int_one{P:Program}{t:TypeId}{n fuel:Nat}{cs:List Value}{x:DataW H×List MemPlace}(hk:flatK P n t=some [.int .i64])(hx:DataW.trod enc P w base spare held fuel t cs=some x):∃a,cs=[.int .i64 a]:=by
 obtain⟨v,rfl,a,rfl,_⟩:=okAll_1 (flat_ok n hk hx);grind
theorem str_one{P:Program}{t:TypeId}{n fuel:Nat}{cs:List Value}{x:DataW H×List MemPlace}(hk:flatK P n t=some [.str])(hx:DataW.trod enc P w base spare held fuel t cs=some x):∃a,cs=[.string a]:=by
 obtain⟨v,rfl,a,rfl,_⟩:=okAll_1 (flat_ok n hk hx);grind
theorem th_of:∀cs,okAll [.int .i64,.str,.int .i64] cs→∃x,cs=Th.c x∧True:=fun cs h=>by
 obtain⟨v0,v1,v2,rfl,⟨a,rfl,_⟩,⟨b,rfl,_⟩,⟨c,rfl,_⟩⟩:=okAll_3 h;exact⟨⟨a,b,c⟩,rfl,trivial⟩
theorem dm_of:∀cs,okAll [.int .i64,.int .i64] cs→∃x,cs=Dm.c x∧True:=fun cs h=>by
 obtain⟨v0,v1,rfl,⟨a,rfl,_⟩,⟨b,rfl,_⟩⟩:=okAll_2 h;exact⟨⟨a,b⟩,rfl,trivial⟩
theorem sn_of:∀cs,okAll [.int .i64,.int .i64,.int .i64,.int .i64,.int .i64] cs→∃x,cs=Sn.c x∧True:=fun cs h=>by
 obtain⟨v0,v1,v2,v3,v4,rfl,⟨a,rfl,_⟩,⟨b,rfl,_⟩,⟨c,rfl,_⟩,⟨d,rfl,_⟩,⟨e,rfl,_⟩⟩:=okAll_5 h;exact⟨⟨a,b,c,d,e⟩,rfl,trivial⟩
theorem s1_of:∀cs,okAll [.str] cs→∃x,cs=sc x∧True:=fun cs h=>by
 obtain⟨v0,rfl,a,rfl,_⟩:=okAll_1 h;exact⟨a,rfl,trivial⟩
theorem ev_opens:Opens H enc Tryz.prog w base spare held 81 Ev.c (fun e=>Ls w e.A e.k e.c_ sc 1 e.st):=by
 intro fuel cs x hx;obtain⟨hl,g⟩:=open_ones (n:=6) Tryz.underlying81 (by kernel_rfl) (fun i f hf=>by
  match i,hf with
  |0,hf=>injection hf with hf;subst hf;exact⟨rfl,by kernel_rfl⟩
  |1,hf=>injection hf with hf;subst hf;exact⟨rfl,by kernel_rfl⟩
  |2,hf=>injection hf with hf;subst hf;exact⟨rfl,by kernel_rfl⟩
  |3,hf=>injection hf with hf;subst hf;exact⟨rfl,by kernel_rfl⟩
  |4,hf=>injection hf with hf;subst hf;exact⟨rfl,by kernel_rfl⟩
  |5,hf=>injection hf with hf;subst hf;exact⟨rfl,by kernel_rfl⟩
  |i+6,hf=>cases hf) hx
 obtain⟨_,_,g0⟩:=g 0 _ rfl;obtain⟨_,_,g1⟩:=g 1 _ rfl;obtain⟨_,_,g2⟩:=g 2 _ rfl;obtain⟨_,_,g3⟩:=g 3 _ rfl;obtain⟨_,_,g4⟩:=g 4 _ rfl;obtain⟨_,_,g5⟩:=g 5 _ rfl;obtain⟨a,e0⟩:=int_one (n:=6) (by kernel_rfl) g0;obtain⟨k,e1⟩:=int_one (n:=6) (by kernel_rfl) g1;obtain⟨nm,e2⟩:=str_one (n:=6) (by kernel_rfl) g2;obtain⟨b,e3⟩:=int_one (n:=6) (by kernel_rfl) g3;obtain⟨m,e4⟩:=int_one (n:=6) (by kernel_rfl) g4;obtain⟨A,n,c,l,e5,hL,-⟩:=open_listG (sz:=1) Tryz.underlying51 (by kernel_rfl) Dc (opens_flat (ks:=[.str]) (m:=6) (by kernel_rfl) s1_of) (fun _=>rfl) g5;refine⟨⟨a,k,nm,b,m,A,n,c,l⟩,cells_of hl fun i u hu=> ?_,hL⟩
 match i,hu with
 |0,hu=>injection hu with hu;grind
 |1,hu=>injection hu with hu;grind
 |2,hu=>injection hu with hu;grind
 |3,hu=>injection hu with hu;grind
 |4,hu=>injection hu with hu;grind
 |5,hu=>injection hu with hu;grind
 |i+6,hu=>cases hu
theorem pk_opens:Opens H enc Tryz.prog w base spare held 70 Pk.c (fun x=>Pk.ok w x):=by
 intro fuel cs x hx;obtain⟨hl,g⟩:=open_ones (n:=4) Tryz.underlying70 (by kernel_rfl) (fun i f hf=>by
  match i,hf with
  |0,hf=>injection hf with hf;subst hf;exact⟨rfl,by kernel_rfl⟩
  |1,hf=>injection hf with hf;subst hf;exact⟨rfl,by kernel_rfl⟩
  |2,hf=>injection hf with hf;subst hf;exact⟨rfl,by kernel_rfl⟩
  |3,hf=>injection hf with hf;subst hf;exact⟨rfl,by kernel_rfl⟩
  |i+4,hf=>cases hf) hx
 obtain⟨_,_,g0⟩:=g 0 _ rfl;obtain⟨_,_,g1⟩:=g 1 _ rfl;obtain⟨_,_,g2⟩:=g 2 _ rfl;obtain⟨_,_,g3⟩:=g 3 _ rfl;obtain⟨a,e0⟩:=int_one (n:=6) (by kernel_rfl) g0;obtain⟨b,e1⟩:=int_one (n:=6) (by kernel_rfl) g1;obtain⟨m,e2⟩:=int_one (n:=6) (by kernel_rfl) g2;obtain⟨A,n,c,l,e3,hL,hE⟩:=open_listG (sz:=6) Tryz.underlying68 (by kernel_rfl) Dc ev_opens (fun _=>rfl) g3;refine⟨⟨a,b,m,A,n,c,l⟩,cells_of hl fun i u hu=> ?_,⟨hL,hE⟩⟩
 match i,hu with
 |0,hu=>injection hu with hu;grind
 |1,hu=>injection hu with hu;grind
 |2,hu=>injection hu with hu;grind
 |3,hu=>injection hu with hu;grind
 |i+4,hu=>cases hu
theorem open_logG{P:Program}{t:TypeId}{fs gs:Array Field}{f0 f1 g0 g1 g2:Field}{r:Reach}{b0:Nat}{v:Value}{d:DataW H}{p:List MemPlace}(hU:P.underlying t=some (.struct fs))(e0:fs[0]? =some f0)(e1:fs[1]? =some f1)(o0:f0.offset=0)(o1:f1.offset=3)(c0:P.cellsOf f0.type=3)(c1:P.cellsOf f1.type=1)(ct:P.cellsOf t=4)
  (hV:P.underlying f0.type=some (.struct gs)) (hf:∀(i:Nat) (f:Field),gs[i]? =some f→f.offset=i∧P.cellsOf f.type=1) (a0:gs[0]? =some g0) (a1:gs[1]? =some g1) (a2:gs[2]? =some g2) (hv:Value.okWide P w r b0 t v) (h:DataW.Trod enc P w base spare held t v d p):
  ∃cs:Array Value,v= .agg cs∧cs.toList.length=4∧(∃fu x,DataW.trod enc P w base spare held fu g0.type ((cs.toList.drop 0).take 1)=some x)∧(∃fu x,DataW.trod enc P w base spare held fu g1.type ((cs.toList.drop 1).take 1)=some x)∧(∃fu x,DataW.trod enc P w base spare held fu g2.type ((cs.toList.drop 2).take 1)=some x)∧∃fu x,DataW.trod enc P w base spare held fu f1.type ((cs.toList.drop 3).take 1)=some x:=by
 obtain⟨cs,rfl,_⟩:=okWide_struct hU hv;obtain⟨fuel,hx⟩:=h;obtain⟨xs,m,_,_,hl,hxl,hg⟩:=DataW.trod_struct hU hx;have s0:0<fs.size:=(Array.getElem?_eq_some_iff.1 e0).1;have s1:1<fs.size:=(Array.getElem?_eq_some_iff.1 e1).1;have q0:=hg 0 f0 e0;have q1:=hg 1 f1 e1;rw[List.getElem?_eq_getElem Om]at q0 q1;rw[o0,c0]at q0;rw[o1,c1]at q1;rw[ct]at hl;obtain⟨_,g⟩:=open_ones hV c0 hf q0;have sub:∀(l:List Value) i,i<3→(((l.drop 0).take 3).drop i).take 1=(l.drop i).take 1:=fun l i hi=>by
  rw[List.drop_zero,List.drop_take,List.take_take,Nat.min_eq_left Om]
 have k0:=g 0 g0 a0;have k1:=g 1 g1 a1;have k2:=g 2 g2 a2;rw[sub _ 0 Om]at k0;rw[sub _ 1 Om]at k1;rw[sub _ 2 Om]at k2;exact⟨cs,rfl,hl,k0,k1,k2,_,_,q1⟩
set_option maxRecDepth 100000 in
theorem open_log{r:Reach}{b0:Nat}{v:Value}{d:DataW H}{p:List MemPlace}(hv:Value.okWide Tryz.prog w r b0 29 v)(h:DataW.Trod enc Tryz.prog w base spare held 29 v d p):
  ∃A1 n1 c1,∃t:List Th,∃A2 n2 c2,∃d':List Dm,∃A3 n3 c3,∃s:List Sn,∃A4 n4 c4,∃l:List Pk,v= .agg #[.slice A1 n1 c1,.slice A2 n2 c2,.slice A3 n3 c3,.slice A4 n4 c4]∧Ls w A1 n1 c1 Th.c 3 t∧Ls w A2 n2 c2 Dm.c 2 d'∧Ls w A3 n3 c3 Sn.c 5 s∧Ls w A4 n4 c4 Pk.c 4 l∧PksOk w l:=by
 obtain⟨cs,rfl,hl,⟨_,_,f0⟩,⟨_,_,f1⟩,⟨_,_,f2⟩,_,_,g1⟩:=open_logG Tryz.underlying29 rfl rfl rfl rfl (by rfl) (by rfl) (by rfl) Tryz.underlying26 (fun i f hf=>by
  match i,hf with
  |0,hf=>injection hf with hf;subst hf;exact⟨rfl,by rfl⟩
  |1,hf=>injection hf with hf;subst hf;exact⟨rfl,by rfl⟩
  |2,hf=>injection hf with hf;subst hf;exact⟨rfl,by rfl⟩
  |i+3,hf=>cases hf) rfl rfl rfl hv h
 obtain⟨A1,n1,c1,t,e1,L1,-⟩:=open_listG (sz:=3) Tryz.underlying22 (by rfl) Dc (opens_flat (ks:=[.int .i64,.str,.int .i64]) (m:=6) (by rfl) th_of) (fun _=>rfl) f0;obtain⟨A2,n2,c2,d',e2,L2,-⟩:=open_listG (sz:=2) Tryz.underlying23 (by rfl) Dc (opens_flat (ks:=[.int .i64,.int .i64]) (m:=6) (by rfl) dm_of) (fun _=>rfl) f1;obtain⟨A3,n3,c3,s,e3,L3,-⟩:=open_listG (sz:=5) Tryz.underlying24 (by rfl) Dc (opens_flat (ks:=[.int .i64,.int .i64,.int .i64,.int .i64,.int .i64]) (m:=6) (by rfl) sn_of) (fun _=>rfl) f2;obtain⟨A4,n4,c4,l,e4,L4,hE⟩:=open_listG (sz:=4) Tryz.underlying27 (by rfl) Dc pk_opens (fun _=>rfl) g1;refine⟨A1,n1,c1,t,A2,n2,c2,d',A3,n3,c3,s,A4,n4,c4,l,?_,L1,L2,L3,L4,hE⟩;have e:cs.toList=[.slice A1 n1 c1,.slice A2 n2 c2,.slice A3 n3 c3,.slice A4 n4 c4]:=by
  match hc:cs.toList,hl with
  |[x0,x1,x2,x3],_=>
   grind
 rw[show cs=cs.toList.toArray by simp,e]
end
end TW
end Go.Proofs.YtaclfjjipnpboaaGreat
