/- Part 18 of the proof. Conditions: what each theorem states. -/
import Derived.Test.YtaclfjjipnpboaaGreatP04
import Derived.Test.YtaclfjjipnpboaaGreatP01
import Derived.Test.YtaclfjjipnpboaaGreatP17
import Derived.Test.YtaclfjjipnpboaaGreatP15
import Derived.Test.YtaclfjjipnpboaaGreatProg
import Derived.Shelf.SlSortCmp.NoneTotal
import Derived.Shelf.SlicesG.Cmp
import Derived.Shelf.Sort.Plain
import Derived.Shelf.Slices.In.SortNone
import Derived.Shelf.SlIterI.Nil
import Derived.Shelf.SlIterI.Sorted
set_option linter.all false
set_option maxHeartbeats 4000000
set_option maxRecDepth 4000
section
attribute [local irreducible] Go.Eng.WC Go.Eng.WL Go.Eng.WK Go.Eng.WQ Go.Eng.WX Go.Eng.Yld
namespace Go.Proofs.YtaclfjjipnpboaaGreat
open Go Go.Eng Go.RowKit
namespace TW
def atP(th t:Int)(x:Sg):Bool:=(x.th==th&&decide (x.f≤t))&&decide (t<x.t)
def atS(l:List Sg)(th t:Int):Sg×Bool:=if ixP (atP th t) l≥0 then(l[(ixP (atP th t) l).toNat]!,true)else(default,false)
theorem atS_yes{l:List Sg}{th t:Int}{j:Nat}(hj:j<l.length)(h:∀k,k<j→atP th t l[k]! =false)(e:atP th t l[j]! =true):atS l th t=(l[j]!,true):=by
 unfold atS;rw[ixP_at hj h e,if_pos Om,Int.toNat_natCast]
theorem atS_no{l:List Sg}{th t:Int}(h:∀k,k<l.length→atP th t l[k]! =false):atS l th t=(default,false):=by
 unfold atS;rw[ixP_no h,if_neg Dc]
theorem stat_any(A_l:Option Addr)(n_l c_l:Nat)(l:List Sg)(th:Int)(t:Int)(w:World)(h_l:Ls w A_l n_l c_l Sg.c 7 l):
  Cr 39 #[.slice A_l n_l c_l,.int .i64 th,.int .i64 t] w (.tuple #[.agg (Sg.c (atS l th t).1).toArray,.bool (atS l th t).2]):=by
 have H:=(Hp.nil w);have e_l:=h_l.len;have z_l:=h_l.nle;refine Wb Tryz.func39 ?_;refine go ?_;refine al H ti113 fun g2 z H=> ?_;refine go ?_;refine sb [12,1,2,6,10,11] ?_;refine WC.loopS 1 (fun mz Ed W'=>∃j:Nat,mz=n_l-j∧Ed=[(12,.int .i64 ((j:Nat):Int))]∧Hp w W' (_::[])∧(j≤n_l)∧(∀k,k<j→atP th t l[k]! =false)) _ ⟨0,rfl,rfl,(H.pick [0]),(Nat.zero_le _),(fun k h=>absurd h (Nat.not_lt_zero k))⟩ ?_;rintro _ _ z ⟨j,rfl,rfl,H,jl,hb⟩;refine go ?_;refine Cd (fun p8=> ?_) fun p8=> ?_
 ·have b11:j<n_l:=Om;refine go ?_;refine al H ti113 fun g12 z H=> ?_;refine st H 0 ti113 fun z H=> ?_;refine go ?_;refine WC.cond rfl (fun h15=> ?_) (fun h15=> ?_)
  ·have p15:=(And.intro (And.intro (eq_t (and_t (and_t h15).1).1) (dec_t (and_t (and_t h15).1).2)) (dec_t (and_t h15).2));refine go ?_;refine st H 1 ti113 fun z H=> ?_;refine G2 ?_;refine sb [6,7] ?_;refine go ?_;refine WK.ret [_,_] rfl ⟨⟨_,rfl,run_loadVar_blk u113 rfl ti113 (H.b 1)⟩,rfl,trivial⟩ ?_;have e1:atS l th t=(l[j]!,true):=atS_yes Om hb h15;exact⟨by rw[e1];rfl,H.ext⟩
  ·have p15:=((and_f h15).imp (fun h=>((and_f h).imp (fun h=>(eq_f h)) (fun h=>(dec_f h)))) (fun h=>(dec_f h)));refine go ?_;exact Rs [(12,_)] Sx ⟨(j+1),rfl,rfl,(H.pick [1]),Om,(fun k h=>(Nat.lt_succ_iff_lt_or_eq.1 h).elim (hb k) fun e=>e▸h15)⟩
 ·refine go ?_;refine st H 0 ti113 fun z H=> ?_;refine go ?_;refine WK.ret [_,_] rfl ⟨⟨_,rfl,run_loadVar_blk u113 rfl ti113 (H.b 0)⟩,rfl,trivial⟩ ?_;have e1:atS l th t=(default,false):=atS_no (fun k hk=>hb k Om);exact⟨by rw[e1];rfl,H.ext⟩
def ttN(l:List Sg)(th k a b:Int):Nat→Int
 |0=>0
 |j+1=>if l[j]!.th=th∧l[j]!.s=k then ttN l th k a b j+max 0 (min l[j]!.t b-max l[j]!.f a)else ttN l th k a b j
theorem ttN_rng{l:List Sg}{th k a b:Int}(hab:0≤a∧a<b∧b≤1000000000000):∀j,0≤ttN l th k a b j∧ttN l th k a b j≤1000000000000*(j:Int)
 |0=>⟨Int.le_refl _,Int.le_refl _⟩
 |j+1=>by
  have:=ttN_rng (l:=l) (th:=th) (k:=k) hab j;unfold ttN;split<;>omega
theorem sttot_any(A_l:Option Addr)(n_l c_l:Nat)(l:List Sg)(th:Int)(k:Int)(a b:Int)(w:World)(h_l:Ls w A_l n_l c_l Sg.c 7 l)(hab:0≤a∧a<b∧b≤1000000000000)(hn:n_l≤100000)(hr:∀j,j<l.length→0≤l[j]!.f∧l[j]!.f<l[j]!.t∧l[j]!.t≤1000000000000):
  Cr 12 #[.slice A_l n_l c_l,.int .i64 th,.int .i64 k,.agg #[.int .i64 a,.int .i64 b]] w (.int .i64 (ttN l th k a b l.length)):=by
 have H:=(Hp.nil w);have e_l:=h_l.len;have z_l:=h_l.nle;refine Wb Tryz.func12 ?_;refine go ?_;refine bx H fun g2 z H=> ?_;refine go ?_;refine c1 H Fh (spv_yes (a) (b) _ Om) fun z H=> ?_;refine go ?_;refine WC.condF rfl ?_;refine G11 ?_;refine sb [1,2,7,9,15,16,17] ?_;refine go ?_;refine sb [17,9,1,2,7,15,16] ?_;refine WC.loopS 2 (fun mz Ed W'=>∃j:Nat,mz=n_l-j∧Ed=[(17,.int .i64 ((j:Nat):Int)),(9,.int .i64 (ttN l th k a b j))]∧Hp w W' (_::[])∧(j≤n_l)) _ ⟨0,rfl,rfl,(H.pick [0]),(Nat.zero_le _)⟩ ?_;rintro _ _ z ⟨j,rfl,rfl,H,jl⟩;have tj:=ttN_rng (l:=l) (th:=th) (k:=k) hab j;refine go ?_;refine Cd (fun p11=> ?_) fun p11=> ?_
 ·have rj:=hr j Om;have b14:j<n_l:=Om;refine go ?_;refine al H ti113 fun g15 z H=> ?_;refine st H 0 ti113 fun z H=> ?_;refine go ?_;refine Cd (fun p18=> ?_) fun p18=> ?_
  ·refine G21 ?_;refine sb [1,2,7,9,15,16,17] ?_;refine G4 ?_;rw[show ttN l th k a b j+max 0 (min l[j]!.t b-max l[j]!.f a)=ttN l th k a b (j+1)from(if_pos p18).symm];exact Rs [(17,_),(9,_)] Sx ⟨(j+1),rfl,rfl,(H.pick [1]),Om⟩
  ·refine G7 ?_;rw[show ttN l th k a b j=ttN l th k a b (j+1)from(if_neg (fun q=>p18.elim (fun h=>h q.1) (fun h=>h q.2))).symm];exact Rs [(17,_),(9,_)] Sx ⟨(j+1),rfl,rfl,(H.pick [1]),Om⟩
 ·refine go ?_;refine Rt [_] ?_;exact⟨by rw[e_l,show n_l=j from Om];rfl,H.ext⟩
theorem latlen_any(x:Sg)(w:World)(hr:0≤x.f∧x.f<x.t∧x.t≤1000000000000):
  Cr 46 #[.agg #[.int .i64 x.th,.int .i64 x.s,.int .i64 x.f,.int .i64 x.t,.int .i64 x.cpu,.int .i64 x.on,.int .i64 x.by_]] w (.int .i64 (x.t-x.f)):=by
 have H:=(Hp.nil w);refine Wb Tryz.func46 ?_;refine go ?_;refine bx H fun g2 z H=> ?_;refine go ?_;refine Rt [_] ?_;exact⟨rfl,H.ext⟩
def wtB(l:List Sg)(j:Nat):Bool:=((decide ((j:Int)+1<(l.length:Int))&&l[j]!.s==0)&&l[j+1]!.s==4)&&l[j+1]!.th==l[j]!.th
def lwN(l:List Sg):Nat→List Sg
 |0=>[]
 |j+1=>if wtB l j=true then lwN l j++[l[j]!]else lwN l j
theorem lwN_len(l:List Sg):∀j,(lwN l j).length≤j
 |0=>Nat.le_refl _
 |j+1=>by
  have ih:=lwN_len l j;unfold lwN;split
  ·rw[List.length_append];exact Nat.succ_le_succ ih
  ·exact Nat.le_succ_of_le ih
theorem lwN_mem(l:List Sg):∀j,j≤l.length→∀x∈lwN l j,x∈l
 |0,_,x,hx=>by cases hx
 |j+1,hj,x,hx=>by
  have ih:=lwN_mem l j Om;unfold lwN at hx;split at hx
  ·rcases List.mem_append.1 hx with q|q
   ·exact ih x q
   ·rw[List.mem_singleton.1 q];exact mem_b hj
  ·exact ih x hx
def lwF(l:List Sg):List Sg:=lwN l l.length
theorem latw_any(T:Tv)(w:World)(hT:T.ok w)(hn:T.gN≤100000):
  Calls Tryz.prog 45 #[Tv.v T] w fun e w'=>∃v,e= .returned v∧OwnL w' w.heap.size 113 Sg.c 7 v (lwF T.sg)∧Ext w w':=by
 have H:=(Hp.nil w);have e_t:=hT.t.len;have e_s:=hT.s.len;have e_g:=hT.g.len;have e_f:=hT.f.len;have e_m:=hT.m.len;have e_p:=hT.p.len;have e_b:=hT.b.len;have e_l:=hT.l.len;have z_t:=hT.t.nle;have z_s:=hT.s.nle;have z_g:=hT.g.nle;have z_f:=hT.f.nle;have z_m:=hT.m.nle;have z_p:=hT.p.nle;have z_b:=hT.b.nle;have z_l:=hT.l.nle;refine Wb Tryz.func45 ?_;refine go ?_;refine bx H fun g2 z H=> ?_;have H:=H.nilRow 113 Sg.c 7;refine go ?_;refine sb [9,3,1,7,8] ?_;refine WC.loopS 2 (fun mz Ed W'=>∃j:Nat,∃v:Value,mz=T.gN-j∧Ed=[(9,.int .i64 ((j:Nat):Int)),(3,v)]∧Hp w W' (row 113 Sg.c 7 v (lwN T.sg j)::_::[])∧(j≤T.gN)) _ ⟨0,_,rfl,rfl,(H.pick [0,0]),(Nat.zero_le _)⟩ ?_;rintro _ _ z ⟨j,v,rfl,rfl,H,jl⟩;have dl:=lwN_len T.sg j;refine go ?_;refine Cd (fun p11=> ?_) fun p11=> ?_
 ·have b14:j<T.gN:=Om;refine go ?_;refine al H ti113 fun g15 z H=> ?_;refine go ?_;refine st H 0 ti113 fun z H=> ?_;refine go ?_;refine Qr ?_;refine G16 ?_;refine qg (fun hb=>Y.indexLs (j+1) (hT.g.ext H.ext) rfl u35 ti113 (evg rfl hb) (evg rfl hb) rfl (by have q0:=(And.intro (dec_t (and_t hb).1) (eq_t (and_t hb).2));omega)) ?_;refine G9 ?_;refine qg (fun hb=>Y.indexLs (j+1) (hT.g.ext H.ext) rfl u35 ti113 (evg rfl hb) (evg rfl hb) rfl (by have q0:=(And.intro (And.intro (dec_t (and_t (and_t hb).1).1) (eq_t (and_t (and_t hb).1).2)) (eq_t (and_t hb).2));omega)) ?_;refine go ?_;refine Qd H fun z H=> ?_;refine G1 ?_;refine sb [1,3,5,7,8,9,46] ?_;refine WC.cond rfl (fun h18=> ?_) (fun h18=> ?_)
  ·have p18:=(And.intro (And.intro (And.intro (dec_t (and_t (and_t (and_t h18).1).1).1) (eq_t (and_t (and_t (and_t h18).1).1).2)) (eq_t (and_t (and_t h18).1).2)) (eq_t (and_t h18).2));refine go ?_;refine bs1 H u35 ti113 fun g19 z H=> ?_;refine ap H 2 0 rfl [T.sg[j]!] u35 ti113 rfl Sg.one (room_le dl (Nat.le_refl 1) Om) fun v21 z H=> ?_;refine go ?_;exact Rs [(9,_),(3,_)] Sx ⟨(j+1),v21,rfl,rfl,(by rw[show lwN T.sg (j+1)=lwN T.sg j++[T.sg[j]!]from if_pos (by unfold wtB;rw[e_g];exact h18)];exact(H.pick [2,2])),Om⟩
  ·have p18:=((and_f h18).imp (fun h=>((and_f h).imp (fun h=>((and_f h).imp (fun h=>(dec_f h)) (fun h=>(eq_f h)))) (fun h=>(eq_f h)))) (fun h=>(eq_f h)));refine go ?_;exact Rs [(9,_),(3,_)] Sx ⟨(j+1),v,rfl,rfl,(by rw[show lwN T.sg (j+1)=lwN T.sg j from if_neg (by unfold wtB;rw[e_g,h18];decide)];exact(H.pick [1,1])),Om⟩
 ·refine go ?_;refine Rt [_] ?_;exact⟨_,rfl,(by rw[show lwF T.sg=lwN T.sg j from by unfold lwF;rw[show T.sg.length=j from Om]];exact H.out 0),H.ext⟩
theorem latall_any(T:Tv)(w:World)(hT:T.ok w)(hv:TvV T):
  Calls Tryz.prog 15 #[Tv.v T] w fun e w'=>∃v,e= .returned (.tuple #[v,.int .i64 0])∧OwnL w' w.heap.size 3 ic 1 v (srtI ((lwF T.sg).map (fun x=>x.t-x.f)))∧Ext w w':=by
 have H:=(Hp.nil w);have e_t:=hT.t.len;have e_s:=hT.s.len;have e_g:=hT.g.len;have e_f:=hT.f.len;have e_m:=hT.m.len;have e_p:=hT.p.len;have e_b:=hT.b.len;have e_l:=hT.l.len;have z_t:=hT.t.nle;have z_s:=hT.s.nle;have z_g:=hT.g.nle;have z_f:=hT.f.nle;have z_m:=hT.m.nle;have z_p:=hT.p.nle;have z_b:=hT.b.nle;have z_l:=hT.l.nle;refine Wb Tryz.func15 ?_;refine go ?_;refine bx H fun g2 z H=> ?_;refine go ?_;refine c1 H Fh (trchk_any T _ (hT.ext H.ext) hv) fun z H=> ?_;refine G4 ?_;refine Kd ?_;refine go ?_;refine WC.condF rfl ?_;refine go ?_;refine c2 H Fh (latw_any T _ (hT.ext H.ext) hv.gn) fun v10 z H=> ?_;obtain⟨A12,n13,c14,rfl,_,_,_⟩:=H.op 0;have wr:∀x∈lwF T.sg,0≤x.f∧x.f<x.t∧x.t≤1000000000000:=fun x hx=>by
  obtain⟨i,hi,rfl⟩:=mem_at (lwN_mem T.sg _ Nl x hx);have:=hv.g.v i hi;have:=hv.e;omega
 have lw_:=lwN_len T.sg T.sg.length;have e_lw:=(H.l 0).len;have lw2:(lwF T.sg).length≤T.sg.length:=lw_;have H:=H.nilRow 3 ic 1;refine go ?_;refine sb [16,5,14,15] ?_;refine WC.loopS 2 (fun mz Ed W'=>∃j:Nat,∃v:Value,mz=n13-j∧Ed=[(16,.int .i64 ((j:Nat):Int)),(5,v)]∧Hp w W' (row 3 ic 1 v (((lwF T.sg).take j).map (fun x=>x.t-x.f))::_::_::[])∧(j≤n13)) _ ⟨0,_,rfl,rfl,(by rw[List.take_zero];exact(H.pick [0,0,0])),(Nat.zero_le _)⟩ ?_;rintro _ _ z ⟨j,v,rfl,rfl,H,jl⟩;refine go ?_;refine Cd (fun p19=> ?_) fun p19=> ?_
 ·have wrj:=wr _ (mem_b (show j<(lwF T.sg).length by omega));have b22:j<n13:=Om;refine go ?_;refine al H ti113 fun g23 z H=> ?_;refine st H 0 ti113 fun z H=> ?_;refine go ?_;refine c1 H Fh (latlen_any (lwF T.sg)[j]! _ wrj) fun z H=> ?_;refine bs1 H u65 ti3 fun g25 z H=> ?_;refine ap H 2 0 rfl [(lwF T.sg)[j]!.t-(lwF T.sg)[j]!.f] u65 ti3 rfl ic_one (by simp only[List.length_map,List.length_take,List.length_cons,List.length_nil];have:=hv.gn;omega) fun v27 z H=> ?_;refine go ?_;exact Rs [(16,_),(5,_)] Sx ⟨(j+1),v27,rfl,rfl,(by rw[show((lwF T.sg).take (j+1)).map (fun x=>x.t-x.f)=(((lwF T.sg).take j).map (fun x=>x.t-x.f))++[(lwF T.sg)[j]!.t-(lwF T.sg)[j]!.f]from by rw[take_1 Om,List.map_append];rfl];exact(H.pick [2,2,2])),Om⟩
 ·have ll_:(((lwF T.sg).take j).map (fun x=>x.t-x.f)).length≤100000:=by rw[List.length_map,List.length_take];have:=hv.gn;omega
  refine go ?_;refine c3 Fh (sortI_any _ _ _ _ _ (H.front [0]) Om) ?_;rintro _ z ⟨rfl,H⟩;refine⟨_,rfl,?_⟩;refine go ?_;refine Rt [_,_] ?_;exact⟨_,rfl,(by rw[←show(lwF T.sg).take j=lwF T.sg from List.take_of_length_le Om];exact H.out 0),H.ext⟩
structure Rv{α:Type}[Inhabited α](l L:List α)(i:Nat):Prop where
 len:L.length=l.length
 at_:∀p,p<l.length→L[p]! =if p<i∨l.length≤p+i then l[l.length-1-p]! else l[p]!
section
variable{α:Type}[Inhabited α]{l L:List α}{i:Nat}
theorem Rv.start(l:List α):Rv l l 0:=⟨rfl,fun p hp=>by rw[if_neg Om]⟩
theorem Rv.done(h:Rv l L i)(hi:l.length≤2*i+1):L=l.reverse:=by
 refine list_ext (by rw[h.len,List.length_reverse]) fun p hp=> ?_;rw[h.len]at hp;have e:l.reverse[p]! =l[l.length-1-p]! :=by
  rw[bang_eq (by rw[List.length_reverse];exact hp),List.getElem_reverse,bang_eq Om]
 rw[e,h.at_ p hp];by_cases q:p<i∨l.length≤p+i
 ·rw[if_pos q]
 ·rw[if_neg q,show l.length-1-p=p from Om]
theorem rev_step(h:Rv l L i){k:Nat}(hk:i+k=l.length)(hi:i+1<k):Rv l ((L.set i L[k-1]!).set (k-1) L[i]!) (i+1):=by
 refine⟨by rw[List.length_set,List.length_set];exact h.len,fun p hp=> ?_⟩;have hl:=h.len;rw[set_at _ _ _ _ (by rw[List.length_set];omega),set_at _ _ _ _ Om];have a:=h.at_ i Om;have b:=h.at_ (k-1) Om;rw[if_neg Om]at a b;by_cases q1:k-1=p
 ·rw[if_pos q1,if_pos Om,a,show l.length-1-p=i from Om]
 ·rw[if_neg q1];by_cases q2:i=p
  ·rw[if_pos q2,if_pos Om,b,show l.length-1-p=k-1 from Om]
  ·rw[if_neg q2,h.at_ p hp];by_cases q:p<i∨l.length≤p+i
   ·rw[if_pos q,if_pos Om]
   ·rw[if_neg q,if_neg Om]
end
theorem revS_any(A:Option Addr)(n q:Nat)(l:List ByteArray)(W:World)(R:List Res)(w:World)(H:Hp W w (row 9 sc 1 (.slice A n q) l::R)):
  Calls Tryz.prog 75 #[.slice A n q] w fun e w'=>e= .returned (resVal [])∧Hp W w' (row 9 sc 1 (.slice A n q) l.reverse::R):=by
 have e_n:=(H.l 0).len;have z_n:=(H.l 0).nle;refine Wb Tryz.func75 ?_;refine go ?_;refine sb [2,3,0] ?_;refine WC.loopS 2 (fun mz Ed W'=>∃i:Nat,∃k:Nat,∃L:List ByteArray,mz=2*(k-i)∧Ed=[(2,.int .i64 ((i:Nat):Int)),(3,.int .i64 (((k:Nat):Int)-1))]∧Hp W W' (row 9 sc 1 (.slice A n q) L::R)∧(i≤n)∧(i+k=n)∧(L.length=n)∧(Rv l L i)) _ ⟨0,n,l,rfl,rfl,H,(Nat.zero_le _),Om,e_n,(Rv.start l)⟩ ?_;rintro _ _ z ⟨i,k,L,rfl,rfl,H,ik,kk,hL,hr⟩;refine go ?_;refine Cd (fun p6=> ?_) fun p6=> ?_
 ·refine go ?_;refine Xr H (HpC W _) (.load 0 (.load 1 (.load 2 (.load 3 (.load 4 (.load 5 (.load 6 (.load 8 (.load 9 (.load 10 (.alt 7 (.alt 11 (.load 12 (.alt 13 (.load 14 (.alt 15 (.fin) (.none))) (.none))) (.none)) (.alt 11 (.alt 7 (.load 12 (.alt 13 (.load 14 (.alt 15 (.fin) (.none))) (.none))) (.none)) (.none))))))))))))) (H.pick []) fun z H=> ?_;have b8:(k-1)<n:=Om;refine G6 ?_;refine yx rfl (Y.indexLs (k-1) (H.l 0) rfl u51 ti9 rfl rfl Om b8) ?_;have b9:i<n:=Om;refine G3 ?_;refine WX.alt ?_ ?_
  ·refine WX.yldL rfl rfl (blt rfl) rfl (H.pick []) (ld rfl u9 rfl (Ls.at_eq (H.l 0) b8 rfl)) ?_;refine WX.yldL rfl rfl (blt rfl) rfl (H.pick []) (ld rfl u9 rfl (Ls.at_eq (H.l 0) b9 rfl)) ?_;have b10:i<n:=Om;refine go ?_;refine steX (H.pick []) H 0 rfl L[k-1]! b10 ti9 rfl fun z H=> ?_;have b11:(k-1)<n:=Om;refine yx rfl (Y.indexLs (k-1) (H.l 0) rfl u51 ti9 rfl rfl Om b11) ?_;refine steX (H.pick []) H 0 rfl L[i]! b11 ti9 rfl fun z H=> ?_;refine WX.nil (H.pick []) ?_;refine G6 ?_;refine yy (Yld.cast (Y.sub rfl rfl rfl Wo) (vi (show(k:Int)-1-1=((k-1:Nat):Int)-1 from Om))) ?_;refine go ?_;exact Rs [(2,_),(3,_)] Sx ⟨(i+1),(k-1),((L.set i L[k-1]!).set (k-1) L[i]!),rfl,rfl,H,Om,Om,(by simp only[List.length_set];exact hL),(rev_step hr Om Om)⟩
  refine WX.yldL rfl rfl (blt rfl) rfl (H.pick []) (ld rfl u9 rfl (Ls.at_eq (H.l 0) b9 rfl)) ?_;refine WX.yldL rfl rfl (blt rfl) rfl (H.pick []) (ld rfl u9 rfl (Ls.at_eq (H.l 0) b8 rfl)) ?_;have b12:i<n:=Om;refine go ?_;refine steX (H.pick []) H 0 rfl L[k-1]! b12 ti9 rfl fun z H=> ?_;have b13:(k-1)<n:=Om;refine yx rfl (Y.indexLs (k-1) (H.l 0) rfl u51 ti9 rfl rfl Om b13) ?_;refine steX (H.pick []) H 0 rfl L[i]! b13 ti9 rfl fun z H=> ?_;refine WX.nil (H.pick []) ?_;refine G6 ?_;refine yy (Yld.cast (Y.sub rfl rfl rfl Wo) (vi (show(k:Int)-1-1=((k-1:Nat):Int)-1 from Om))) ?_;refine go ?_;exact Rs [(2,_),(3,_)] Sx ⟨(i+1),(k-1),((L.set i L[k-1]!).set (k-1) L[i]!),rfl,rfl,H,Om,Om,(by simp only[List.length_set];exact hL),(rev_step hr Om Om)⟩
 ·refine go ?_;refine En ?_;exact⟨rfl,(by rw[←hr.done Om];exact H)⟩
theorem revS_v(v:Value)(l:List ByteArray)(W:World)(R:List Res)(w:World)(H:Hp W w (row 9 sc 1 v l::R)):Calls Tryz.prog 75 #[v] w fun e w'=>e= .returned (resVal [])∧Hp W w' (row 9 sc 1 v l.reverse::R):=by
 obtain⟨A,n,q,rfl,_⟩:=H.op 0;exact revS_any A n q l W R w H
theorem idx_inj:∀{l:List Int} {a b:Int},a∈l→l.idxOf a=l.idxOf b→b=a
 |[],_,_,h,_=>by cases h
 |x::r,a,b,h,e=>by
  rw[List.idxOf_cons,List.idxOf_cons]at e;by_cases c:x=a
  ·subst c;by_cases d:x=b
   ·exact d.symm
   ·rw[show(x==x)=true from by simp,show(x==b)=false from by simpa using d]at e;simp only[cond_true,cond_false]at e;omega
  ·rw[show(x==a)=false from by simpa using c]at e;by_cases d:x=b
   ·rw[show(x==b)=true from by simpa using d]at e;simp only[cond_true,cond_false]at e;omega
   ·rw[show(x==b)=false from by simpa using d]at e;simp only[cond_false]at e;exact idx_inj ((List.mem_cons.1 h).resolve_left fun q=>c q.symm) Om
section
variable{ids:List Int}{l:List Sg}{en:Int}
theorem StChk.cov_{n:Nat}(h:StChk ids l en n):∀j,j<l.length→∀(k:Nat) (q:Int),0≤q→q<en→(k<ids.idxOf l[j]!.th∨(k=ids.idxOf l[j]!.th∧q<l[j]!.t))→∃p,p<l.length∧ids.idxOf l[p]!.th=k∧l[p]!.f≤q∧q<l[p]!.t
 |0,hj,k,q,h0,_,hc=>by
  obtain⟨a1,a2⟩:=h.a hj;grind
 |j+1,hj,k,q,h0,h1,hc=>by
  have ih:=StChk.cov_ h j Om k q h0 h1;by_cases c:k<ids.idxOf l[j]!.th∨(k=ids.idxOf l[j]!.th∧q<l[j]!.t)
  ·exact ih c
  ·clear ih;refine⟨j+1,hj,?_,?_,?_⟩<;>rcases h.nx j hj with⟨n1,n2,_⟩|⟨n1,n2,n3⟩<;>grind
theorem StChk.cover(h:StChk ids l en ids.length){i:Int}(hi:i∈ids){q:Int}(h0:0≤q)(h1:q<en):∃p,p<l.length∧l[p]!.th=i∧l[p]!.f≤q∧q<l[p]!.t:=by
 have hk:=List.idxOf_lt_length_of_mem hi;obtain⟨z1,z2,z3⟩:=h.z Om;obtain⟨p,p1,p2,p3⟩:=h.cov_ (l.length-1) Om (ids.idxOf i) q h0 h1 Om;refine⟨p,p1,?_,p3⟩;grind [idx_inj]
end
theorem dsT_mem(ths:List Th):∀j,j≤ths.length→∀k,k<j→ths[k]!.id∈dsT ths j
 |0,_,k,hk=>absurd hk (Nat.not_lt_zero k)
 |j+1,hj,k,hk=>by
  rw[dsT_succ];by_cases e:k=j
  ·grind
  ·have:=dsT_mem ths j Om k Om;grind
theorem dsF_mem{ths:List Th}{i:Int}(h:i∈ths.map (·.id)):i∈dsF ths:=by
 obtain⟨x,hx,rfl⟩:=List.mem_map.1 h;obtain⟨k,hk,rfl⟩:=mem_at hx;exact dsT_mem ths ths.length Nl k hk
theorem TvV.cover{T:Tv}(hv:TvV T){i:Int}(hi:i∈T.ids){q:Int}(h0:0≤q)(h1:q<T.E):∃p,p<T.sg.length∧T.sg[p]!.th=i∧T.sg[p]!.f≤q∧q<T.sg[p]!.t:=
 hv.g.cover (dsF_mem hi) h0 h1
theorem crk1_any(x:Th)(g:Nat)(i:Int)(w:World)(hg:Blk w g 3 [.int .i64 i]):
  Cr 137 #[.agg #[.int .i64 x.id,.string x.nm,.int .i64 x.dom],.pointer (some ⟨g,0,none⟩)] w (.bool (x.id==i)):=by
 have H:=(Hp.nil w);refine Wb Tryz.func137 ?_;refine go ?_;refine bx H fun g2 z H=> ?_;refine go ?_;refine Rt [_] ?_;exact⟨rfl,H.ext⟩
def knB(l:List Th)(i:Int):Bool:=decide (ixP (fun x=>x.id==i) l≥0)
theorem knB_yes{l:List Th}{i:Int}(h:i∈l.map (·.id)):knB l i=true:=by
 obtain⟨x,hx,rfl⟩:=List.mem_map.1 h;exact decide_eq_true (ixP_ge ⟨x,hx,by simp⟩)
theorem knB_mem{l:List Th}{i:Int}(h:knB l i=true):i∈l.map (·.id):=by
 have h:=of_decide_eq_true h;obtain⟨_,h2,h3,_⟩:=ixP_some (p:=fun x:Th=>x.id==i) (l:=l) Om;exact List.mem_map.2 ⟨_,mem_b h2,by simpa using h3⟩
theorem crkn_any(T:Tv)(i:Int)(w:World)(hT:T.ok w):
  Cr 82 #[Tv.v T,.int .i64 i] w (.bool (knB T.th i)):=by
 have H:=(Hp.nil w);have e_t:=hT.t.len;have e_s:=hT.s.len;have e_g:=hT.g.len;have e_f:=hT.f.len;have e_m:=hT.m.len;have e_p:=hT.p.len;have e_b:=hT.b.len;have e_l:=hT.l.len;have z_t:=hT.t.nle;have z_s:=hT.s.nle;have z_g:=hT.g.nle;have z_f:=hT.f.nle;have z_m:=hT.m.nle;have z_p:=hT.p.nle;have z_b:=hT.b.nle;have z_l:=hT.l.nle;refine Wb Tryz.func82 ?_;refine go ?_;refine bx H fun g2 z H=> ?_;refine bx H fun g4 z H=> ?_;refine G5 ?_;refine yy (Y.func rfl rfl rfl) ?_;refine c1 H Fh (cfT_any _ _ _ _ 137 [.pointer (some ⟨g4,0,none⟩)] (fun x=>x.id==i) _ (hT.t.ext H.ext) Fh (fun k hk w1 x1=>crk1_any T.th[k]! g4 i w1 (Blk.ext ((H.b 0)) x1))) fun z H=> ?_;refine go ?_;refine Rt [_] ?_;exact⟨rfl,H.ext⟩
theorem crknY_any(T:Tv)(i:Int)(w:World)(hT:T.ok w)(hi:i∈T.ids):
  Cr 82 #[Tv.v T,.int .i64 i] w (.bool true):=
 (crkn_any T i w hT).mono fun e w' r=>⟨by rw[r.1,knB_yes hi],r.2⟩
theorem stat_yes(A_l:Option Addr)(n_l c_l:Nat)(l:List Sg)(th t:Int)(w:World)(h_l:Ls w A_l n_l c_l Sg.c 7 l)(hf:(atS l th t).2=true):
  Cr 39 #[.slice A_l n_l c_l,.int .i64 th,.int .i64 t] w (.tuple #[.agg (Sg.c (atS l th t).1).toArray,.bool true]):=
 (stat_any A_l n_l c_l l th t w h_l).mono fun e w' r=>⟨by rw[r.1,hf],r.2⟩
theorem atS_at{l:List Sg}{th t:Int}(h:(atS l th t).2=true):(atS l th t).1∈l∧(atS l th t).1.th=th∧(atS l th t).1.f≤t∧t<(atS l th t).1.t:=by
 unfold atS at h ⊢;split at h
 ·rename_i q;rw[if_pos q];obtain⟨_,h2,h3,_⟩:=ixP_some (p:=atP th t) (l:=l) Om;unfold atP at h3;simp only[Bool.and_eq_true,beq_iff_eq,decide_eq_true_eq]at h3;exact⟨mem_b h2,h3.1.1,h3.1.2,h3.2⟩
 ·cases h
def Fill(T:Tv):Prop:=∀i∈T.ids,∀q,0≤q→q<T.E→(atS T.sg i q).2=true
theorem fill_of{T:Tv}(hv:TvV T):Fill T:=fun i hi q h0 h1=>by
 obtain⟨p,hp,e1,e2,e3⟩:=hv.cover hi h0 h1;have:ixP (atP i q) T.sg≥0:=ixP_ge ⟨_,mem_b hp,by unfold atP;simp only[Bool.and_eq_true,beq_iff_eq,decide_eq_true_eq];exact⟨⟨e1,e2⟩,e3⟩⟩;unfold atS;rw[if_pos this]
def wkS(T:Tv)(th x_:Int):Sg:=(atS T.sg th (x_-1)).1
def wkB(T:Tv)(th x_:Int):Bool:=(((wkS T th x_).s==1||(wkS T th x_).s==2)&&(wkS T th x_).t==x_)&&knB T.th (wkS T th x_).by_
theorem crchk_any(T:Tv)(i:Int)(a b:Int)(w:World)(hT:T.ok w)(hv:TvV T)(hf:Fill T)(hi:i∈T.ids)(hs:0≤a∧a<b∧b≤T.E):
  Cr 37 #[Tv.v T,.int .i64 i,.agg #[.int .i64 a,.int .i64 b]] w (.int .i64 0):=by
 have H:=(Hp.nil w);have e_t:=hT.t.len;have e_s:=hT.s.len;have e_g:=hT.g.len;have e_f:=hT.f.len;have e_m:=hT.m.len;have e_p:=hT.p.len;have e_b:=hT.b.len;have e_l:=hT.l.len;have z_t:=hT.t.nle;have z_s:=hT.s.nle;have z_g:=hT.g.nle;have z_f:=hT.f.nle;have z_m:=hT.m.nle;have z_p:=hT.p.nle;have z_b:=hT.b.nle;have z_l:=hT.l.nle;have hE:=hv.e;refine Wb Tryz.func37 ?_;refine go ?_;refine bx H fun g2 z H=> ?_;refine bx H fun g4 z H=> ?_;refine go ?_;refine c1 H Fh (trchk_any T _ (hT.ext H.ext) hv) fun z H=> ?_;refine go ?_;refine Cd (fun p9=> ?_) fun p9=> ?_
 ·refine go ?_;refine Rt [_] ?_;exact⟨rfl,H.ext⟩
 ·refine G2 ?_;refine sb [1,3,5] ?_;refine go ?_;refine c1 H Fh (crknY_any T _ _ (hT.ext H.ext) hi) fun z H=> ?_;refine go ?_;refine WC.condF rfl ?_;refine go ?_;refine c1 H Fh (stat_yes _ _ _ _ _ _ _ (hT.g.ext H.ext) (hf (i) hi (a) Om Om)) fun z H=> ?_;refine go ?_;refine al H ti113 fun g14 z H=> ?_;refine st H 0 ti113 fun z H=> ?_;refine G8 ?_;refine yy (Yld.cast (Y.sub rfl rfl rfl Wo) (vi rfl)) ?_;refine c1 H Fh (stat_yes _ _ _ _ _ _ _ (hT.g.ext H.ext) (hf (i) hi ((b-1)) Om Om)) fun z H=> ?_;refine go ?_;refine al H ti113 fun g17 z H=> ?_;refine st H 0 ti113 fun z H=> ?_;refine go ?_;refine c1 H Fh (spv_yes (a) (b) _ Om) fun z H=> ?_;refine G4 ?_;refine yy (Y.pickF rfl rfl rfl) ?_;refine G3 ?_;refine yy (Y.pickF rfl rfl rfl) ?_;refine G1 ?_;refine sb [50] ?_;refine WC.condF rfl ?_;refine go ?_;refine Rt [_] ?_;exact⟨rfl,H.ext⟩
def wkV(T:Tv)(th x_:Int):Int:=if wkB T th x_=true then(wkS T th x_).by_ else 0
theorem wkV_yes{T:Tv}{th x_:Int}(h:wkB T th x_=true):wkV T th x_∈T.ids:=by
 have h2:=h;unfold wkB at h2;simp only[Bool.and_eq_true]at h2;unfold wkV;rw[if_pos h];exact knB_mem h2.2
theorem wk_no{T:Tv}{th x_:Int}(h:((!((wkS T th x_).s==1||(wkS T th x_).s==2)|| !((wkS T th x_).t==x_))|| !knB T.th (wkS T th x_).by_)=true):wkB T th x_=false:=by
 unfold wkB;revert h;cases ((wkS T th x_).s==1||(wkS T th x_).s==2)<;>cases ((wkS T th x_).t==x_)<;>cases knB T.th (wkS T th x_).by_<;>decide
theorem wk_yes{T:Tv}{th x_:Int}(h:((!((wkS T th x_).s==1||(wkS T th x_).s==2)|| !((wkS T th x_).t==x_))|| !knB T.th (wkS T th x_).by_)=false):wkB T th x_=true:=by
 unfold wkB;revert h;cases ((wkS T th x_).s==1||(wkS T th x_).s==2)<;>cases ((wkS T th x_).t==x_)<;>cases knB T.th (wkS T th x_).by_<;>decide
structure Ho where(th s f t:Int)
instance:Inhabited Ho:=⟨⟨0,0,0,0⟩⟩
def Ho.c(x:Ho):List Value:=[.int .i64 x.th,.int .i64 x.s,.int .i64 x.f,.int .i64 x.t]
theorem Ho.one(x:Ho):∀u∈x.c,u.oneCell'=true:=by simp[Ho.c,Value.oneCell']
def hoS(l:List Ho):Int:=(l.map fun h=>h.t-h.f).sum
theorem hoS_app(a b:List Ho):hoS (a++b)=hoS a+hoS b:=by unfold hoS;rw[List.map_append,List.sum_append]
theorem hoS_one(x:Ho):hoS [x]=x.t-x.f:=by simp[hoS]
theorem hoS_rev:∀l:List Ho,hoS l.reverse=hoS l
 |[]=>rfl
 |x::r=>by
  rw[List.reverse_cons,hoS_app,hoS_rev r,hoS_one,show x::r=[x]++r from rfl,hoS_app,hoS_one];omega
structure HoOk(l:List Ho)(d:Int):Prop where
 s:hoS l=d
 v:∀h∈l,(0≤h.f∧h.f<h.t∧h.t≤1000000000000)∧0≤h.th∧h.th≤1000000000000000
 n:l.length≤100001
theorem HoOk.rev{l:List Ho}{d:Int}(h:HoOk l d):HoOk l.reverse d:=⟨(hoS_rev l).trans h.s,fun x hx=>h.v x (List.mem_reverse.1 hx),by rw[List.length_reverse];exact h.n⟩
theorem nd_len:∀(o e:List Int),o.Nodup→(∀q∈o,q∈e)→o.length≤e.length
 |[],_,_,_=>Nat.zero_le _
 |x::o,e,hn,h=>by
  have hn':=List.nodup_cons.1 hn;have hx:=h x List.mem_cons_self;have:=nd_len o (e.erase x) hn'.2 fun y hy=>by
   have hne:y≠x:=fun q=>hn'.1 (q▸hy);exact(List.mem_erase_of_ne hne).2 (h y (List.mem_cons_of_mem _ hy))
  have hl:=List.length_erase_of_mem hx;have:=List.length_pos_of_mem hx;rw[List.length_cons];omega
structure HoI(T:Tv)(a b q:Int)(l:List Ho):Prop where
 s:hoS l=b-q
 v:∀h∈l,0≤h.f∧h.f<h.t∧h.t≤1000000000000∧q≤h.f∧h.f∈a::T.sg.map (·.f)∧h.th∈T.ids
 d:(l.map (·.f)).Nodup
theorem HoI.len{T:Tv}{a b q:Int}{l:List Ho}(h:HoI T a b q l):l.length≤T.sg.length+1:=by
 have:=nd_len _ (a::T.sg.map (·.f)) h.d fun y hy=>by
  obtain⟨z,hz,rfl⟩:=List.mem_map.1 hy;exact(h.v z hz).2.2.2.2.1
 simpa using this
theorem HoI.nil{T:Tv}{a b:Int}:HoI T a b b []:=⟨by simp[hoS],fun _ h=>(by cases h),List.nodup_nil⟩
theorem HoI.put{T:Tv}{a b q:Int}{l:List Ho}(h:HoI T a b q l){x:Ho}(h1:x.t=q)(h2:x.f<q)(h3:0≤x.f)(h4:q≤1000000000000)(h5:x.f∈a::T.sg.map (·.f))(h6:x.th∈T.ids):HoI T a b x.f (l++[x]):=by
 refine⟨?_,fun y hy=> ?_,?_⟩
 ·rw[hoS_app,hoS_one,h.s];omega
 ·rcases List.mem_append.1 hy with hy|hy
  ·have:=h.v y hy;exact⟨this.1,this.2.1,this.2.2.1,Om,this.2.2.2.2⟩
  ·rw[List.mem_singleton.1 hy];exact⟨h3,Om,Om,Int.le_refl _,h5,h6⟩
 ·rw[List.map_append,List.nodup_append];refine⟨h.d,by simp,fun y hy z hz=> ?_⟩;obtain⟨w,hw,rfl⟩:=List.mem_map.1 hy;have hz:z=x.f:=by simpa using hz
  have:=(h.v w hw).2.2.2.1;omega
theorem thE_rng{t:Th}(h:thE t=0):0≤t.id∧t.id≤1000000000000000:=by
 unfold thE at h;split at h
 ·cases h
 ·omega
theorem HoI.ok{T:Tv}{a b q:Int}{l:List Ho}(h:HoI T a b q l)(hv:TvV T)(hn:T.sg.length≤100000)(e:q=a):HoOk l (b-a):=⟨e▸h.s,fun y hy=>⟨⟨(h.v y hy).1,(h.v y hy).2.1,(h.v y hy).2.2.1⟩,by
 obtain⟨t,ht,e⟩:=List.mem_map.1 (h.v y hy).2.2.2.2.2;rw[←e];exact thE_rng (hv.tv t ht)⟩,by have:=h.len;omega⟩
theorem max_mem{T:Tv}{a:Int}{x:Sg}(h:x∈T.sg):max x.f a∈a::T.sg.map (·.f):=by
 rcases Int.le_total x.f a with q|q
 ·rw[show max x.f a=a from Om];exact List.mem_cons_self
 ·rw[show max x.f a=x.f from Om];exact List.mem_cons_of_mem _ (List.mem_map_of_mem h)
theorem crwak_any(T:Tv)(th:Int)(t:Int)(w:World)(hT:T.ok w)(hv:TvV T)(hf:Fill T)(hi:th∈T.ids)(ht:0<t∧t≤T.E):
  Cr 38 #[Tv.v T,.int .i64 th,.int .i64 t] w (.tuple #[.int .i64 (wkV T th t),.bool (wkB T th t)]):=by
 have H:=(Hp.nil w);have e_t:=hT.t.len;have e_s:=hT.s.len;have e_g:=hT.g.len;have e_f:=hT.f.len;have e_m:=hT.m.len;have e_p:=hT.p.len;have e_b:=hT.b.len;have e_l:=hT.l.len;have z_t:=hT.t.nle;have z_s:=hT.s.nle;have z_g:=hT.g.nle;have z_f:=hT.f.nle;have z_m:=hT.m.nle;have z_p:=hT.p.nle;have z_b:=hT.b.nle;have z_l:=hT.l.nle;have hE:=hv.e;refine Wb Tryz.func38 ?_;refine go ?_;refine bx H fun g2 z H=> ?_;refine G8 ?_;refine yy (Yld.cast (Y.sub rfl rfl rfl Wo) (vi rfl)) ?_;refine c1 H Fh (stat_yes _ _ _ _ _ _ _ (hT.g.ext H.ext) (hf (th) hi ((t-1)) Om Om)) fun z H=> ?_;refine go ?_;refine al H ti113 fun g5 z H=> ?_;refine st H 0 ti113 fun z H=> ?_;refine G20 ?_;refine yy (Y.pickF rfl rfl rfl) ?_;refine G11 ?_;refine WL.callG rfl (blt rfl) rfl rfl rfl rfl rfl Fh (fun hb=>(evs_cons (evg rfl hb) (evs_cons (evg rfl hb) evs_nil))) (fun hb=>crkn_any T _ _ (hT.ext H.ext)) (fun z x=> ?_);have H:=H.ex x;refine G3 ?_;refine sb [8,47] ?_;refine WC.cond rfl (fun h10=> ?_) (fun h10=> ?_)
 ·have p10:=((or_t h10).imp (fun h=>((or_t h).imp (fun h=>(And.intro (eq_f (or_f (not_t h)).1) (eq_f (or_f (not_t h)).2))) (fun h=>(eq_f (not_t h))))) (fun h=>h));refine go ?_;refine Rt [_,_] ?_;have e1:=wk_no (T:=T) (th:=th) (x_:=t) h10;exact⟨by unfold wkV;rw[e1];rfl,H.ext⟩
 ·have p10:=(And.intro ((or_t (not_f (or_f (or_f h10).1).1)).imp (fun h=>(eq_t h)) (fun h=>(eq_t h))) (eq_t (not_f (or_f (or_f h10).1).2)));refine go ?_;refine Rt [_,_] ?_;have e1:=wk_yes (T:=T) (th:=th) (x_:=t) h10;exact⟨by unfold wkV;rw[e1];rfl,H.ext⟩
theorem revH_any(A:Option Addr)(n q:Nat)(l:List Ho)(W:World)(R:List Res)(w:World)(H:Hp W w (row 121 Ho.c 4 (.slice A n q) l::R)):
  Calls Tryz.prog 40 #[.slice A n q] w fun e w'=>e= .returned (resVal [])∧Hp W w' (row 121 Ho.c 4 (.slice A n q) l.reverse::R):=by
 have e_n:=(H.l 0).len;have z_n:=(H.l 0).nle;refine Wb Tryz.func40 ?_;refine go ?_;refine sb [2,3,0] ?_;refine WC.loopS 2 (fun mz Ed W'=>∃i:Nat,∃k:Nat,∃L:List Ho,mz=2*(k-i)∧Ed=[(2,.int .i64 ((i:Nat):Int)),(3,.int .i64 (((k:Nat):Int)-1))]∧Hp W W' (row 121 Ho.c 4 (.slice A n q) L::R)∧(i≤n)∧(i+k=n)∧(L.length=n)∧(Rv l L i)) _ ⟨0,n,l,rfl,rfl,H,(Nat.zero_le _),Om,e_n,(Rv.start l)⟩ ?_;rintro _ _ z ⟨i,k,L,rfl,rfl,H,ik,kk,hL,hr⟩;refine go ?_;refine Cd (fun p6=> ?_) fun p6=> ?_
 ·refine go ?_;refine Xr H (HpC W _) (.load 0 (.load 1 (.load 2 (.load 3 (.load 4 (.load 5 (.load 6 (.load 8 (.load 9 (.load 10 (.alt 7 (.alt 11 (.load 12 (.alt 13 (.load 14 (.alt 15 (.fin) (.none))) (.none))) (.none)) (.alt 11 (.alt 7 (.load 12 (.alt 13 (.load 14 (.alt 15 (.fin) (.none))) (.none))) (.none)) (.none))))))))))))) (H.pick []) fun z H=> ?_;have b8:(k-1)<n:=Om;refine G6 ?_;refine yx rfl (Y.indexLs (k-1) (H.l 0) rfl u59 ti121 rfl rfl Om b8) ?_;have b9:i<n:=Om;refine G3 ?_;refine WX.alt ?_ ?_
  ·refine WX.yldL rfl rfl (blt rfl) rfl (H.pick []) (Y.loadS (cs:=[_,_,_,_]) rfl u121 rfl ti121 rfl (Ls.part_eq (H.l 0) b8 rfl)) ?_;refine WX.yldL rfl rfl (blt rfl) rfl (H.pick []) (Y.loadS (cs:=[_,_,_,_]) rfl u121 rfl ti121 rfl (Ls.part_eq (H.l 0) b9 rfl)) ?_;have b10:i<n:=Om;refine go ?_;refine steX (H.pick []) H 0 rfl L[k-1]! b10 ti121 rfl fun z H=> ?_;have b11:(k-1)<n:=Om;refine yx rfl (Y.indexLs (k-1) (H.l 0) rfl u59 ti121 rfl rfl Om b11) ?_;refine steX (H.pick []) H 0 rfl L[i]! b11 ti121 rfl fun z H=> ?_;refine WX.nil (H.pick []) ?_;refine G6 ?_;refine yy (Yld.cast (Y.sub rfl rfl rfl Wo) (vi (show(k:Int)-1-1=((k-1:Nat):Int)-1 from Om))) ?_;refine go ?_;exact Rs [(2,_),(3,_)] Sx ⟨(i+1),(k-1),((L.set i L[k-1]!).set (k-1) L[i]!),rfl,rfl,H,Om,Om,(by simp only[List.length_set];exact hL),(rev_step hr Om Om)⟩
  refine WX.yldL rfl rfl (blt rfl) rfl (H.pick []) (Y.loadS (cs:=[_,_,_,_]) rfl u121 rfl ti121 rfl (Ls.part_eq (H.l 0) b9 rfl)) ?_;refine WX.yldL rfl rfl (blt rfl) rfl (H.pick []) (Y.loadS (cs:=[_,_,_,_]) rfl u121 rfl ti121 rfl (Ls.part_eq (H.l 0) b8 rfl)) ?_;have b12:i<n:=Om;refine go ?_;refine steX (H.pick []) H 0 rfl L[k-1]! b12 ti121 rfl fun z H=> ?_;have b13:(k-1)<n:=Om;refine yx rfl (Y.indexLs (k-1) (H.l 0) rfl u59 ti121 rfl rfl Om b13) ?_;refine steX (H.pick []) H 0 rfl L[i]! b13 ti121 rfl fun z H=> ?_;refine WX.nil (H.pick []) ?_;refine G6 ?_;refine yy (Yld.cast (Y.sub rfl rfl rfl Wo) (vi (show(k:Int)-1-1=((k-1:Nat):Int)-1 from Om))) ?_;refine go ?_;exact Rs [(2,_),(3,_)] Sx ⟨(i+1),(k-1),((L.set i L[k-1]!).set (k-1) L[i]!),rfl,rfl,H,Om,Om,(by simp only[List.length_set];exact hL),(rev_step hr Om Om)⟩
 ·refine go ?_;refine En ?_;exact⟨rfl,(by rw[←hr.done Om];exact H)⟩
theorem revH_v(v:Value)(l:List Ho)(W:World)(R:List Res)(w:World)(H:Hp W w (row 121 Ho.c 4 v l::R)):Calls Tryz.prog 40 #[v] w fun e w'=>e= .returned (resVal [])∧Hp W w' (row 121 Ho.c 4 v l.reverse::R):=by
 obtain⟨A,n,q,rfl,_⟩:=H.op 0;exact revH_any A n q l W R w H
theorem crpath_any(T:Tv)(i:Int)(a b:Int)(w:World)(hT:T.ok w)(hv:TvV T)(hf:Fill T)(hi:i∈T.ids)(hs:0≤a∧a<b∧b≤T.E):
  Calls Tryz.prog 13 #[Tv.v T,.int .i64 i,.agg #[.int .i64 a,.int .i64 b]] w fun e w'=>∃v L,e= .returned (.tuple #[v,.int .i64 0])∧OwnL w' w.heap.size 121 Ho.c 4 v L∧HoOk L (b-a)∧Ext w w':=by
 have H:=(Hp.nil w);have e_t:=hT.t.len;have e_s:=hT.s.len;have e_g:=hT.g.len;have e_f:=hT.f.len;have e_m:=hT.m.len;have e_p:=hT.p.len;have e_b:=hT.b.len;have e_l:=hT.l.len;have z_t:=hT.t.nle;have z_s:=hT.s.nle;have z_g:=hT.g.nle;have z_f:=hT.f.nle;have z_m:=hT.m.nle;have z_p:=hT.p.nle;have z_b:=hT.b.nle;have z_l:=hT.l.nle;have hE:=hv.e;have kL:∀K:List Int,(∀k∈K,k∈T.ids)→K.Nodup→K.length≤T.tN:=fun K h1 h2=>by have:=nd_len K T.ids h2 h1;rw[List.length_map]at this;omega
 refine Wb Tryz.func13 ?_;refine go ?_;refine bx H fun g2 z H=> ?_;refine bx H fun g4 z H=> ?_;refine G3 ?_;refine sb [1,3,5] ?_;refine go ?_;refine c1 H Fh (crchk_any T _ _ _ _ (hT.ext H.ext) hv hf hi hs) fun z H=> ?_;refine G4 ?_;refine Kd ?_;refine go ?_;refine WC.condF rfl ?_;have H:=H.nilRow 121 Ho.c 4;refine go ?_;refine sb [10,1,9,3,5] ?_;refine WC.loopS 3 (fun mz Ed W'=>∃q:Int,∃j:Int,∃L:List Ho,∃v:Value,mz=(q-a).toNat+0∧Ed=[(10,.int .i64 q),(1,.int .i64 j),(9,v)]∧Hp w W' (row 121 Ho.c 4 v (L)::_::_::[])∧(j∈T.ids)∧(a≤q∧q≤b)∧(HoI T a b q L)) _ ⟨b,i,[],_,rfl,rfl,(H.pick [0,0,0]),hi,Om,HoI.nil⟩ ?_;rintro _ _ z ⟨q,j,L,v,rfl,rfl,H,hi,hq,hI⟩;refine go ?_;refine Cd (fun p16=> ?_) fun p16=> ?_
 ·refine go ?_;refine mm H fun g18 z H=> ?_;refine go ?_;refine mu H 0 u115 u3 fun z H=> ?_;refine go ?_;refine c1 H Fh (crwak_any T (j) (q) _ (hT.ext H.ext) hv hf (by assumption) Om) fun z H=> ?_;refine go ?_;refine sb [1,12,13,3,5,9,10,11] ?_;refine WC.loopS 3 (fun mz Ed W'=>∃i:Int,∃K:List Int,mz=T.tN-K.length∧Ed=[(1,.int .i64 i),(12,.int .i64 (wkV T i q)),(13,.bool (wkB T i q))]∧Hp w W' (mpi g18 (pkb K)::_::_::_::[])∧(i∈T.ids)∧(∀k∈K,k∈T.ids)∧(K.Nodup)∧(K.length≤T.tN)) _ ⟨j,[j],rfl,rfl,(H.pick [0,0,0,0]),hi,(fun k hk=>by rw[List.mem_singleton.1 hk];exact hi),(by simp),(kL _ (fun k hk=>by rw[List.mem_singleton.1 hk];exact hi) (by simp))⟩ ?_;rintro _ _ z ⟨i,K,rfl,rfl,H,hi,hS,hD,hL⟩;refine G6 ?_;refine yg (fun hb=>Yld.cast (Y.lookup rfl u115 u3 ti4 (evg rfl hb) (evg rfl hb) (fun _ h=>h▸(H.mi 0))) (mval_pkb _ _)) ?_;refine go ?_;refine WC.cond rfl (fun h24=> ?_) (fun h24=> ?_)
  ·have p24:=(dec_f (not_t (and_t h24).2));have kW:=(and_t h24).1;have kN:wkV T i q∉K:=dec_f (not_t (and_t h24).2);have kI:=wkV_yes kW;have kS:∀k∈K++[wkV T i q],k∈T.ids:=fun k hk=>(List.mem_append.1 hk).elim (hS k) fun e=>by rw[List.mem_singleton.1 e];exact kI
   have kD:(K++[wkV T i q]).Nodup:=List.nodup_append.2 ⟨hD,by simp,fun y hy z hz e=>kN (by rw[←List.mem_singleton.1 hz,←e];exact hy)⟩;have kl_:=kL _ kS kD;have kl2:(K++[wkV T i q]).length=K.length+1:=by simp
   refine go ?_;refine mu H 0 u115 u3 fun z H=> ?_;refine go ?_;refine c1 H Fh (crwak_any T ((wkV T i q)) (q) _ (hT.ext H.ext) hv hf (by assumption) Om) fun z H=> ?_;refine go ?_;refine WK.roundS _ [(1,_),(12,_),(13,_)] ⟨rfl,rfl,rfl,rfl,rfl,rfl,rfl,rfl,trivial⟩ ?_ ⟨_,(K++[wkV T i q]),rfl,rfl,(by rw[←mset_pkb kN];exact(H.pick [0,0,0,0])),kI,kS,kD,(kL _ kS kD)⟩;omega
  ·have p24:=((and_f h24).imp (fun h=>h) (fun h=>(dec_t (not_f h))));refine G5 ?_;refine sb [1,3,5,9,10] ?_;refine G5 ?_;refine yy (Yld.cast (Y.sub rfl rfl rfl Wo) (vi rfl)) ?_;refine c1 H Fh (stat_yes _ _ _ _ _ _ _ (hT.g.ext H.ext) (hf (i) hi ((q-1)) Om Om)) fun z H=> ?_;refine go ?_;refine al H ti113 fun g28 z H=> ?_;refine st H 0 ti113 fun z H=> ?_;refine go ?_;refine WC.condF rfl ?_;have aq:=atS_at (hf i hi (q-1) Om Om);refine go ?_;refine al H ti121 fun g33 z H=> ?_;refine st H 0 ti121 fun z H=> ?_;refine go ?_;refine bs1 H u59 ti121 fun g36 z H=> ?_;refine ap H 4 0 rfl [⟨i,(atS T.sg i (q-1)).1.s,max (atS T.sg i (q-1)).1.f a,q⟩] u59 ti121 rfl Ho.one (room_le hI.len (Nat.le_refl 1) (by have:=hv.gn;omega)) fun v38 z H=> ?_;refine G2 ?_;refine sb [1,3,5,9,16] ?_;refine go ?_;refine WK.roundS _ [(10,_),(1,_),(9,_)] ⟨rfl,rfl,rfl,rfl,rfl,trivial⟩ ?_ ⟨_,_,_,v38,rfl,rfl,(H.pick [4,4,4]),hi,Om,(hI.put (x:=⟨i,(atS T.sg i (q-1)).1.s,max (atS T.sg i (q-1)).1.f a,q⟩) rfl (by show max _ a<q;omega) (by show 0≤max _ a;omega) Om (max_mem aq.1) hi)⟩;omega
 ·refine go ?_;refine c3 Fh (revH_v _ _ _ _ _ (H.front [0])) ?_;rintro _ z ⟨rfl,H⟩;refine⟨_,rfl,?_⟩;refine go ?_;refine Rt [_,_] ?_;exact⟨_,_,rfl,H.out 0,(hI.ok hv (by have:=hv.gn;omega) Om).rev,H.ext⟩
end TW
end Go.Proofs.YtaclfjjipnpboaaGreat
end
namespace Go.Proofs.YtaclfjjipnpboaaGreat
open Go Go.Shelf Go.Proofs
def Tryz.sortS_ren:Go.Shelf.Ren:=⟨fun|6=>134|15=>88|14=>178|28=>149|29=>150|20=>217|21=>218|22=>219|23=>220|24=>221|25=>222|26=>223|27=>224|46=>250|47=>189|48=>190|49=>251|50=>252|57=>270|n=>n,fun|22=>106|24=>33|25=>245|3=>3|39=>199|0=>0|53=>259|55=>261|4=>4|46=>252|45=>251|50=>116|5=>5|9=>9|66=>297|70=>301|76=>327|77=>328|n=>n,fun|n=>n⟩
theorem Tryz.sortS:Go.Proofs.SlLaysF0.n6 Tryz.prog Tryz.sortS_ren:={
 mixed:=by rfl
 f6:=⟨Tryz.f134.name,(by decide),Tryz.func134.trans (congrArg some (by rfl))⟩
 f14:=⟨Tryz.f178.name,(by decide),Tryz.func178.trans (congrArg some (by rfl))⟩
 f15:=Tryz.func88.trans (congrArg some (by rfl))
 f20:=⟨Tryz.f217.name,(by decide),Tryz.func217.trans (congrArg some (by rfl))⟩
 f21:=⟨Tryz.f218.name,(by decide),Tryz.func218.trans (congrArg some (by rfl))⟩
 f22:=⟨Tryz.f219.name,(by decide),Tryz.func219.trans (congrArg some (by rfl))⟩
 f23:=⟨Tryz.f220.name,(by decide),Tryz.func220.trans (congrArg some (by rfl))⟩
 f24:=⟨Tryz.f221.name,(by decide),Tryz.func221.trans (congrArg some (by rfl))⟩
 f25:=⟨Tryz.f222.name,(by decide),Tryz.func222.trans (congrArg some (by rfl))⟩
 f26:=⟨Tryz.f223.name,(by decide),Tryz.func223.trans (congrArg some (by rfl))⟩
 f27:=⟨Tryz.f224.name,(by decide),Tryz.func224.trans (congrArg some (by rfl))⟩
 f28:=Tryz.func149.trans (congrArg some (by rfl))
 f29:=Tryz.func150.trans (congrArg some (by rfl))
 f46:=⟨Tryz.f250.name,(by decide),Tryz.func250.trans (congrArg some (by rfl))⟩
 f47:=Tryz.func189.trans (congrArg some (by rfl))
 f48:=Tryz.func190.trans (congrArg some (by rfl))
 f49:=⟨Tryz.f251.name,(by decide),Tryz.func251.trans (congrArg some (by rfl))⟩
 f50:=⟨Tryz.f252.name,(by decide),Tryz.func252.trans (congrArg some (by rfl))⟩
 f57:=⟨Tryz.f270.name,(by decide),Tryz.func270.trans (congrArg some (by rfl))⟩
 t0:=Tryz.underlying0
 a0:=Tryz.isAgg0
 z0:=Tryz.sizeOf0
 v0:=Tryz.zeroValue0
 t3:=Tryz.underlying3
 a3:=Tryz.isAgg3
 z3:=Tryz.sizeOf3
 v3:=Tryz.zeroValue3
 t4:=Tryz.underlying4
 a4:=Tryz.isAgg4
 z4:=Tryz.sizeOf4
 v4:=Tryz.zeroValue4
 t5:=Tryz.underlying5
 a5:=Tryz.isAgg5
 z5:=Tryz.sizeOf5
 v5:=Tryz.zeroValue5
 t9:=Tryz.underlying9
 a9:=Tryz.isAgg9
 z9:=Tryz.sizeOf9
 v9:=Tryz.zeroValue9
 t22:=Tryz.underlying106
 a22:=Tryz.isAgg106
 z22:=Tryz.sizeOf106
 v22:=Tryz.zeroValue106
 t25:=Tryz.underlying245
 a25:=Tryz.isAgg245
 z25:=Tryz.sizeOf245
 v25:=Tryz.zeroValue245
 t39:=Tryz.underlying199
 a39:=Tryz.isAgg199
 z39:=Tryz.sizeOf199
 v39:=Tryz.zeroValue199
 t45:=Tryz.underlying251
 a45:=Tryz.isAgg251
 z45:=Tryz.sizeOf251
 v45:=Tryz.zeroValue251
 t46:=Tryz.underlying252
 a46:=Tryz.isAgg252
 z46:=Tryz.sizeOf252
 v46:=Tryz.zeroValue252
 t50:=Tryz.underlying116
 a50:=Tryz.isAgg116
 z50:=Tryz.sizeOf116
 v50:=Tryz.zeroValue116
 t53:=Tryz.underlying259
 a53:=Tryz.isAgg259
 z53:=Tryz.sizeOf259
 v53:=Tryz.zeroValue259
 t55:=Tryz.underlying261
 a55:=Tryz.isAgg261
 z55:=Tryz.sizeOf261
 v55:=Tryz.zeroValue261
 t66:=Tryz.underlying297
 a66:=Tryz.isAgg297
 z66:=Tryz.sizeOf297
 v66:=Tryz.zeroValue297
 t70:=Tryz.underlying301
 a70:=Tryz.isAgg301
 z70:=Tryz.sizeOf301
 v70:=Tryz.zeroValue301
 t76:=Tryz.underlying327
 a76:=Tryz.isAgg327
 z76:=Tryz.sizeOf327
 v76:=Tryz.zeroValue327
 t77:=Tryz.underlying328
 a77:=Tryz.isAgg328
 z77:=Tryz.sizeOf328
 v77:=Tryz.zeroValue328}
def Tryz.sortN_ren:Go.Shelf.Ren:=⟨fun|6=>84|15=>88|14=>139|28=>149|29=>150|20=>180|21=>181|22=>182|23=>183|24=>184|25=>185|26=>186|27=>187|46=>225|47=>189|48=>190|49=>226|50=>227|57=>253|n=>n,fun|22=>65|24=>3|25=>129|3=>3|39=>199|0=>0|53=>259|55=>261|4=>4|46=>252|45=>251|50=>116|5=>5|9=>9|66=>297|70=>301|76=>327|77=>328|n=>n,fun|n=>n⟩
theorem Tryz.sortN:Go.Proofs.SlLaysF0.n6 Tryz.prog Tryz.sortN_ren:={
 mixed:=by rfl
 f6:=⟨Tryz.f84.name,(by decide),Tryz.func84.trans (congrArg some (by rfl))⟩
 f14:=⟨Tryz.f139.name,(by decide),Tryz.func139.trans (congrArg some (by rfl))⟩
 f15:=Tryz.func88.trans (congrArg some (by rfl))
 f20:=⟨Tryz.f180.name,(by decide),Tryz.func180.trans (congrArg some (by rfl))⟩
 f21:=⟨Tryz.f181.name,(by decide),Tryz.func181.trans (congrArg some (by rfl))⟩
 f22:=⟨Tryz.f182.name,(by decide),Tryz.func182.trans (congrArg some (by rfl))⟩
 f23:=⟨Tryz.f183.name,(by decide),Tryz.func183.trans (congrArg some (by rfl))⟩
 f24:=⟨Tryz.f184.name,(by decide),Tryz.func184.trans (congrArg some (by rfl))⟩
 f25:=⟨Tryz.f185.name,(by decide),Tryz.func185.trans (congrArg some (by rfl))⟩
 f26:=⟨Tryz.f186.name,(by decide),Tryz.func186.trans (congrArg some (by rfl))⟩
 f27:=⟨Tryz.f187.name,(by decide),Tryz.func187.trans (congrArg some (by rfl))⟩
 f28:=Tryz.func149.trans (congrArg some (by rfl))
 f29:=Tryz.func150.trans (congrArg some (by rfl))
 f46:=⟨Tryz.f225.name,(by decide),Tryz.func225.trans (congrArg some (by rfl))⟩
 f47:=Tryz.func189.trans (congrArg some (by rfl))
 f48:=Tryz.func190.trans (congrArg some (by rfl))
 f49:=⟨Tryz.f226.name,(by decide),Tryz.func226.trans (congrArg some (by rfl))⟩
 f50:=⟨Tryz.f227.name,(by decide),Tryz.func227.trans (congrArg some (by rfl))⟩
 f57:=⟨Tryz.f253.name,(by decide),Tryz.func253.trans (congrArg some (by rfl))⟩
 t0:=Tryz.underlying0
 a0:=Tryz.isAgg0
 z0:=Tryz.sizeOf0
 v0:=Tryz.zeroValue0
 t3:=Tryz.underlying3
 a3:=Tryz.isAgg3
 z3:=Tryz.sizeOf3
 v3:=Tryz.zeroValue3
 t4:=Tryz.underlying4
 a4:=Tryz.isAgg4
 z4:=Tryz.sizeOf4
 v4:=Tryz.zeroValue4
 t5:=Tryz.underlying5
 a5:=Tryz.isAgg5
 z5:=Tryz.sizeOf5
 v5:=Tryz.zeroValue5
 t9:=Tryz.underlying9
 a9:=Tryz.isAgg9
 z9:=Tryz.sizeOf9
 v9:=Tryz.zeroValue9
 t22:=Tryz.underlying65
 a22:=Tryz.isAgg65
 z22:=Tryz.sizeOf65
 v22:=Tryz.zeroValue65
 t25:=Tryz.underlying129
 a25:=Tryz.isAgg129
 z25:=Tryz.sizeOf129
 v25:=Tryz.zeroValue129
 t39:=Tryz.underlying199
 a39:=Tryz.isAgg199
 z39:=Tryz.sizeOf199
 v39:=Tryz.zeroValue199
 t45:=Tryz.underlying251
 a45:=Tryz.isAgg251
 z45:=Tryz.sizeOf251
 v45:=Tryz.zeroValue251
 t46:=Tryz.underlying252
 a46:=Tryz.isAgg252
 z46:=Tryz.sizeOf252
 v46:=Tryz.zeroValue252
 t50:=Tryz.underlying116
 a50:=Tryz.isAgg116
 z50:=Tryz.sizeOf116
 v50:=Tryz.zeroValue116
 t53:=Tryz.underlying259
 a53:=Tryz.isAgg259
 z53:=Tryz.sizeOf259
 v53:=Tryz.zeroValue259
 t55:=Tryz.underlying261
 a55:=Tryz.isAgg261
 z55:=Tryz.sizeOf261
 v55:=Tryz.zeroValue261
 t66:=Tryz.underlying297
 a66:=Tryz.isAgg297
 z66:=Tryz.sizeOf297
 v66:=Tryz.zeroValue297
 t70:=Tryz.underlying301
 a70:=Tryz.isAgg301
 z70:=Tryz.sizeOf301
 v70:=Tryz.zeroValue301
 t76:=Tryz.underlying327
 a76:=Tryz.isAgg327
 z76:=Tryz.sizeOf327
 v76:=Tryz.zeroValue327
 t77:=Tryz.underlying328
 a77:=Tryz.isAgg328
 z77:=Tryz.sizeOf328
 v77:=Tryz.zeroValue328}
def Tryz.cmpInt_ren:Go.Shelf.Ren:=⟨fun|5=>44|7=>86|n=>n,fun|22=>3|3=>3|4=>4|n=>n,fun|n=>n⟩
theorem Tryz.cmpInt:Go.Proofs.SlLaysC2.n5 Tryz.prog Tryz.cmpInt_ren:={
 mixed:=by rfl
 f5:=⟨Tryz.f44.name,(by decide),Tryz.func44.trans (congrArg some (by rfl))⟩
 f7:=⟨Tryz.f86.name,(by decide),Tryz.func86.trans (congrArg some (by rfl))⟩
 t3:=Tryz.underlying3
 a3:=Tryz.isAgg3
 z3:=Tryz.sizeOf3
 v3:=Tryz.zeroValue3
 t4:=Tryz.underlying4
 a4:=Tryz.isAgg4
 z4:=Tryz.sizeOf4
 v4:=Tryz.zeroValue4
 t22:=Tryz.underlying3
 a22:=Tryz.isAgg3
 z22:=Tryz.sizeOf3
 v22:=Tryz.zeroValue3}
def Tryz.lays132_ren:Go.Shelf.Ren:=⟨fun|190=>132|125=>88|258=>176|128=>149|129=>150|302=>207|303=>208|304=>209|305=>210|306=>211|307=>212|308=>213|309=>214|310=>215|333=>246|329=>189|330=>190|334=>247|335=>248|336=>162|344=>268|n=>n,fun|31=>51|9=>9|3=>3|46=>199|0=>0|51=>259|53=>261|4=>4|183=>252|182=>251|131=>116|5=>5|218=>297|222=>301|228=>327|229=>328|n=>n,fun|n=>n⟩
theorem Tryz.lays132:Go.Proofs.Lays.n190 Tryz.prog Tryz.lays132_ren:={
 mixed:=by rfl
 f125:=Tryz.func88.trans (congrArg some (by rfl))
 f128:=Tryz.func149.trans (congrArg some (by rfl))
 f129:=Tryz.func150.trans (congrArg some (by rfl))
 f190:=Tryz.func132.trans (congrArg some (by rfl))
 f258:=Tryz.func176.trans (congrArg some (by rfl))
 f302:=Tryz.func207.trans (congrArg some (by rfl))
 f303:=Tryz.func208.trans (congrArg some (by rfl))
 f304:=Tryz.func209.trans (congrArg some (by rfl))
 f305:=Tryz.func210.trans (congrArg some (by rfl))
 f306:=Tryz.func211.trans (congrArg some (by rfl))
 f307:=Tryz.func212.trans (congrArg some (by rfl))
 f308:=Tryz.func213.trans (congrArg some (by rfl))
 f309:=Tryz.func214.trans (congrArg some (by rfl))
 f310:=Tryz.func215.trans (congrArg some (by rfl))
 f329:=Tryz.func189.trans (congrArg some (by rfl))
 f330:=Tryz.func190.trans (congrArg some (by rfl))
 f333:=Tryz.func246.trans (congrArg some (by rfl))
 f334:=Tryz.func247.trans (congrArg some (by rfl))
 f335:=Tryz.func248.trans (congrArg some (by rfl))
 f336:=Tryz.func162.trans (congrArg some (by rfl))
 f344:=Tryz.func268.trans (congrArg some (by rfl))
 t0:=Tryz.underlying0
 a0:=Tryz.isAgg0
 z0:=Tryz.sizeOf0
 v0:=Tryz.zeroValue0
 t3:=Tryz.underlying3
 a3:=Tryz.isAgg3
 z3:=Tryz.sizeOf3
 v3:=Tryz.zeroValue3
 t4:=Tryz.underlying4
 a4:=Tryz.isAgg4
 z4:=Tryz.sizeOf4
 v4:=Tryz.zeroValue4
 t5:=Tryz.underlying5
 a5:=Tryz.isAgg5
 z5:=Tryz.sizeOf5
 v5:=Tryz.zeroValue5
 t9:=Tryz.underlying9
 a9:=Tryz.isAgg9
 z9:=Tryz.sizeOf9
 v9:=Tryz.zeroValue9
 t31:=Tryz.underlying51
 a31:=Tryz.isAgg51
 z31:=Tryz.sizeOf51
 v31:=Tryz.zeroValue51
 t46:=Tryz.underlying199
 a46:=Tryz.isAgg199
 z46:=Tryz.sizeOf199
 v46:=Tryz.zeroValue199
 t51:=Tryz.underlying259
 a51:=Tryz.isAgg259
 z51:=Tryz.sizeOf259
 v51:=Tryz.zeroValue259
 t53:=Tryz.underlying261
 a53:=Tryz.isAgg261
 z53:=Tryz.sizeOf261
 v53:=Tryz.zeroValue261
 t131:=Tryz.underlying116
 a131:=Tryz.isAgg116
 z131:=Tryz.sizeOf116
 v131:=Tryz.zeroValue116
 t182:=Tryz.underlying251
 a182:=Tryz.isAgg251
 z182:=Tryz.sizeOf251
 v182:=Tryz.zeroValue251
 t183:=Tryz.underlying252
 a183:=Tryz.isAgg252
 z183:=Tryz.sizeOf252
 v183:=Tryz.zeroValue252
 t218:=Tryz.underlying297
 a218:=Tryz.isAgg297
 z218:=Tryz.sizeOf297
 v218:=Tryz.zeroValue297
 t222:=Tryz.underlying301
 a222:=Tryz.isAgg301
 z222:=Tryz.sizeOf301
 v222:=Tryz.zeroValue301
 t228:=Tryz.underlying327
 a228:=Tryz.isAgg327
 z228:=Tryz.sizeOf327
 v228:=Tryz.zeroValue327
 t229:=Tryz.underlying328
 a229:=Tryz.isAgg328
 z229:=Tryz.sizeOf328
 v229:=Tryz.zeroValue328}
def Tryz.colA_ren:Go.Shelf.Ren:=⟨fun|8=>83|11=>138|n=>n,fun|26=>3|28=>127|24=>65|0=>0|33=>140|4=>4|n=>n,fun|n=>n⟩
theorem Tryz.colA:Go.Proofs.SlLaysZI.n8 Tryz.prog Tryz.colA_ren:={
 mixed:=by rfl
 f8:=⟨Tryz.f83.name,(by decide),Tryz.func83.trans (congrArg some (by rfl))⟩
 f11:=⟨Tryz.f138.name,(by decide),Tryz.func138.trans (congrArg some (by rfl))⟩
 t0:=Tryz.underlying0
 a0:=Tryz.isAgg0
 z0:=Tryz.sizeOf0
 v0:=Tryz.zeroValue0
 t24:=Tryz.underlying65
 a24:=Tryz.isAgg65
 z24:=Tryz.sizeOf65
 v24:=Tryz.zeroValue65
 t26:=Tryz.underlying3
 a26:=Tryz.isAgg3
 z26:=Tryz.sizeOf3
 v26:=Tryz.zeroValue3
 t28:=Tryz.underlying127
 a28:=Tryz.isAgg127
 z28:=Tryz.sizeOf127
 v28:=Tryz.zeroValue127
 i26:=by kernel_rfl}
def Tryz.keysA_ren:Go.Shelf.Ren:=⟨fun|7=>43|10=>85|n=>n,fun|23=>123|26=>3|3=>3|28=>127|0=>0|27=>126|33=>140|4=>4|n=>n,fun|n=>n⟩
theorem Tryz.keysA:Go.Proofs.SlLaysZI.n7 Tryz.prog Tryz.keysA_ren:={
 mixed:=by rfl
 f7:=⟨Tryz.f43.name,(by decide),Tryz.func43.trans (congrArg some (by rfl))⟩
 f10:=⟨Tryz.f85.name,(by decide),Tryz.func85.trans (congrArg some (by rfl))⟩
 t0:=Tryz.underlying0
 a0:=Tryz.isAgg0
 z0:=Tryz.sizeOf0
 v0:=Tryz.zeroValue0
 t4:=Tryz.underlying4
 a4:=Tryz.isAgg4
 z4:=Tryz.sizeOf4
 v4:=Tryz.zeroValue4
 t23:=Tryz.underlying123
 a23:=Tryz.isAgg123
 z23:=Tryz.sizeOf123
 v23:=Tryz.zeroValue123
 t26:=Tryz.underlying3
 a26:=Tryz.isAgg3
 z26:=Tryz.sizeOf3
 v26:=Tryz.zeroValue3
 t27:=Tryz.underlying126
 a27:=Tryz.isAgg126
 z27:=Tryz.sizeOf126
 v27:=Tryz.zeroValue126
 t28:=Tryz.underlying127
 a28:=Tryz.isAgg127
 z28:=Tryz.sizeOf127
 v28:=Tryz.zeroValue127
 t33:=Tryz.underlying140
 a33:=Tryz.isAgg140
 z33:=Tryz.sizeOf140
 v33:=Tryz.zeroValue140}
end Go.Proofs.YtaclfjjipnpboaaGreat
