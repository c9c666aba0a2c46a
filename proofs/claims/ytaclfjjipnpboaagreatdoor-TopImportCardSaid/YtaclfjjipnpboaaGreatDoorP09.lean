/- Part 9 of the proof. Conditions: what each theorem states. -/
import Derived.Test.YtaclfjjipnpboaaGreatDoorP08
import Derived.Test.YtaclfjjipnpboaaGreatDoorP01
import Derived.Test.YtaclfjjipnpboaaGreatDoorP04
import Derived.Test.YtaclfjjipnpboaaGreatDoorP03
import Derived.Test.YtaclfjjipnpboaaGreatDoorP05
import Derived.Test.YtaclfjjipnpboaaGreatDoorProg
set_option linter.all false
set_option maxHeartbeats 4000000
set_option maxRecDepth 4000
namespace Go.Proofs.YtaclfjjipnpboaaGreatDoor
open Go Go.Eng Go.RowKit
namespace TW
section
variable{α:Type}[Inhabited α]
theorem swp_at{l:List α}{i j p:Nat}(hp:p<l.length):(swp l i j)[p]! =if j=p then l[i]! else if i=p then l[j]! else l[p]! :=by
 grind [swp,set_at]
theorem swp_perm{l:List α}{i j:Nat}(hi:i<l.length)(hj:j<l.length):(swp l i j).Perm l:=by
 grind [swp,bang_eq,List.set_set_perm]
theorem swr_at(a b:Nat):∀(k:Nat) (l:List α),a+k≤b→b+k≤l.length→∀p,p<l.length→(swr a b k l)[p]! =if a≤p∧p<a+k then l[p-a+b]! else if b≤p∧p<b+k then l[p-b+a]! else l[p]!
 |0,l,_,_,p,_=>by rw[if_neg Om,if_neg Om];rfl
 |k+1,l,h1,h2,p,hp=>by
  have ih:=swr_at a b k l Om Om;show(swp _ _ _)[p]! =_;rw[swp_at (by grind [swr_len]),ih (a+k) Om,ih (b+k) Om,ih p hp];grind
theorem swr_perm(a b:Nat):∀(k:Nat) (l:List α),a+k≤l.length→b+k≤l.length→(swr a b k l).Perm l
 |0,_,_,_=>List.Perm.refl _
 |k+1,l,h1,h2=>(swp_perm (by rw[swr_len];omega) (by rw[swr_len];omega)).trans (swr_perm a b k l Om Om)
theorem rotL_at:∀(f m i j:Nat) (l:List α),1≤i→1≤j→i≤m→m+j≤l.length→i+j≤f→∀p,p<l.length→(rotL f m i j l)[p]! =if m-i≤p∧p<m-i+j then l[p+i]! else if m-i+j≤p∧p<m+j then l[p-j]! else l[p]!
 |0,_,_,_,_,_,_,_,_,h,_,_=>by omega
 |f+1,m,i,j,l,h1,h2,h3,h4,h5,p,hp=>by
  unfold rotL;split
  ·split
   ·rename_i q1 q2;rw[rotL_at f m (i-j) j _ Om h2 Om (by grind [swr_len]) Om p (by grind [swr_len])];have sw:=swr_at (m-i) m j l Om h4;by_cases e1:m-(i-j)≤p∧p<m-(i-j)+j
    ·rw[if_pos e1,sw _ Om];by_cases e2:m≤p+(i-j)
     ·rw[if_neg Om,if_pos Om];by_cases e3:m-i≤p∧p<m-i+j
      ·omega
      ·rw[if_neg e3,if_pos Om];congr 1;omega
     ·omega
    ·rw[if_neg e1];by_cases e2:m-(i-j)+j≤p∧p<m+j
     ·rw[if_pos e2,sw _ Om,if_neg Om,if_neg Om,if_neg Om,if_pos Om]
     ·rw[if_neg e2,sw _ hp];by_cases e3:m-i≤p∧p<m-i+j
      ·rw[if_pos e3,if_pos e3];congr 1;omega
      grind
   ·rename_i q1 q2;rw[rotL_at f m i (j-i) _ h1 Om h3 (by rw[swr_len];omega) Om p (by grind [swr_len])];have sw:=swr_at (m-i) (m+j-i) i l Om Om;by_cases e1:m-i≤p∧p<m-i+(j-i)
    ·rw[if_pos e1,sw _ Om,if_neg Om,if_neg Om,if_pos Om]
    ·rw[if_neg e1];by_cases e2:m-i+(j-i)≤p∧p<m+(j-i)
     ·rw[if_pos e2,sw _ Om,if_pos Om,if_pos Om];congr 1;omega
     ·rw[if_neg e2,sw _ hp,if_neg Om];by_cases e3:m+j-i≤p∧p<m+j-i+i
      ·rw[if_pos e3,if_neg Om,if_pos Om];congr 1;omega
      grind
  ·rename_i q;have q:i=j:=Om;subst q;rw[swr_at (m-i) m i l Om h4 p hp];grind
theorem rotF_at{a m b:Nat}{l:List α}(h1:a<m)(h2:m<b)(h3:b≤l.length){p:Nat}(hp:p<l.length):(rotF a m b l)[p]! =if a≤p∧p<a+(b-m)then l[p+(m-a)]! else if a+(b-m)≤p∧p<b then l[p-(b-m)]! else l[p]! :=by
 grind [rotF,rotL_at]
theorem rotL_perm:∀(f m i j:Nat) (l:List α),i≤m→m+j≤l.length→(rotL f m i j l).Perm l
 |0,_,_,_,_,_,_=>List.Perm.refl _
 |f+1,m,i,j,l,h1,h2=>by
  unfold rotL;split
  ·split
   ·exact(rotL_perm f m _ _ _ Om (by rw[swr_len];omega)).trans (swr_perm _ _ _ _ Om Om)
   ·exact(rotL_perm f m _ _ _ Om (by rw[swr_len];omega)).trans (swr_perm _ _ _ _ Om Om)
  grind [swr_perm]
theorem rotF_perm{a m b:Nat}{l:List α}(h:m≤b)(hb:b≤l.length):(rotF a m b l).Perm l:=rotL_perm _ _ _ _ _ Om Om
theorem mvU_at(a:Nat):∀(k:Nat) (l:List α),a+k<l.length→∀p,p<l.length→(mvU a k l)[p]! =if p=a+k then l[a]! else if a≤p∧p<a+k then l[p+1]! else l[p]!
 |0,l,_,p,hp=>by
  show l[p]! =_;grind
 |k+1,l,h,p,hp=>by
  have ih:=mvU_at a k l Om;show(swp _ _ _)[p]! =_;rw[swp_at (by grind [mvU_len]),ih (a+k) Om,ih (a+k+1) Om,ih p hp,if_pos rfl,if_neg (show¬a+k+1=a+k by omega),if_neg (show¬(a≤a+k+1∧a+k+1<a+k) by omega)];grind
theorem mvD_at(m:Nat):∀(k:Nat) (l:List α),k≤m→m<l.length→∀p,p<l.length→(mvD m k l)[p]! =if p+k=m then l[m]! else if m<p+k∧p≤m then l[p-1]! else l[p]!
 |0,l,_,_,p,hp=>by
  show l[p]! =_;grind
 |k+1,l,h1,h2,p,hp=>by
  have ih:=mvD_at m k l Om h2;show(swp _ _ _)[p]! =_;rw[swp_at (by grind [mvD_len]),ih (m-k) Om,ih (m-k-1) Om,ih p hp,if_pos (show m-k+k=m by omega),if_neg (show¬m-k-1+k=m by omega),if_neg (show¬(m<m-k-1+k∧m-k-1≤m) by omega)];by_cases e1:m-k-1=p
  ·rw[if_pos e1,if_pos Om]
  ·rw[if_neg e1,if_neg (show¬p+(k+1)=m by omega)];by_cases e2:m-k=p<;>grind
theorem mvU_perm(a:Nat):∀(k:Nat) (l:List α),a+k<l.length∨k=0→(mvU a k l).Perm l
 |0,_,_=>List.Perm.refl _
 |k+1,l,h=>(swp_perm (by rw[mvU_len];omega) (by rw[mvU_len];omega)).trans (mvU_perm a k l Om)
theorem mvD_perm(m:Nat):∀(k:Nat) (l:List α),m<l.length→(mvD m k l).Perm l
 |0,_,_=>List.Perm.refl _
 |k+1,l,h=>(swp_perm (by rw[mvD_len];omega) (by rw[mvD_len];omega)).trans (mvD_perm m k l h)
theorem bsF_first{p:Nat→Prop}[DecidablePred p]:∀(f i j:Nat),i≤j→j-i≤f→(∀x y,i≤x→x≤y→y<j→p y→p x)→(∀h,i≤h→h<bsF p f i j→p h)∧(∀h,bsF p f i j≤h→h<j→¬p h)
 |0,i,j,h1,h2,_=>⟨fun h a b=>by have:bsF p 0 i j=i:=rfl;omega,fun h a b=>by have:bsF p 0 i j=i:=rfl;omega⟩
 |f+1,i,j,h1,h2,hm=>by
  unfold bsF;split
  ·rename_i q;split
   ·rename_i q2;have ih:=bsF_first f ((i+j)/2+1) j Om Om fun x y a b c d=>hm x y Om b c d;grind
   ·rename_i q2;have ih:=bsF_first f i ((i+j)/2) Om Om fun x y a b c d=>hm x y a b Om d;grind
  grind
end
structure Cmp{α:Type}(c:α→α→Int):Prop where
 asym:∀x y,c x y<0→¬c y x<0
 tr:∀x y z,¬c y x<0→¬c z y<0→¬c z x<0
section
variable{α:Type}[Inhabited α]{c:α→α→Int}{r:α→α→Prop}
def Bef(c:α→α→Int)(r:α→α→Prop)(x y:α):Prop:=c x y<0∨¬c y x<0∧r x y
omit [Inhabited α] in
theorem Bef.le(hc:Cmp c){x y:α}(h:Bef c r x y):¬c y x<0:=h.elim (hc.asym x y) (·.1)
def SOn(R:α→α→Prop)(l:List α)(a b:Nat):Prop:=∀p q,a≤p→p<q→q<b→R l[p]! l[q]!
structure InOn(l l':List α)(a b:Nat):Prop where
 len:l'.length=l.length
 ins:∀p,a≤p→p<b→∃q,a≤q∧q<b∧l'[p]! =l[q]!
 out:∀p,p<l.length→p<a∨b≤p→l'[p]! =l[p]!
theorem InOn.refl(l:List α)(a b:Nat):InOn l l a b:=⟨rfl,fun p h1 h2=>⟨p,h1,h2,rfl⟩,fun _ _ _=>rfl⟩
theorem InOn.wide{l l':List α}{a b a' b':Nat}(h:InOn l l' a b)(ha:a'≤a)(hb:b≤b')(hl:b'≤l.length):InOn l l' a' b':=by
 refine⟨h.len,fun p h1 h2=> ?_,fun p h0 h1=>h.out p h0 Om⟩;by_cases e:a≤p∧p<b
 ·obtain⟨q,q1,q2,q3⟩:=h.ins p e.1 e.2;grind
 ·exact⟨p,h1,h2,h.out p Om Om⟩
theorem InOn.trans{l l' l'':List α}{a b:Nat}(h:InOn l l' a b)(k:InOn l' l'' a b):InOn l l'' a b:=by
 refine⟨k.len.trans h.len,fun p h1 h2=> ?_,fun p h0 h1=>(k.out p (by rw[h.len];exact h0) h1).trans (h.out p h0 h1)⟩;obtain⟨q,q1,q2,q3⟩:=k.ins p h1 h2;obtain⟨s,s1,s2,s3⟩:=h.ins q q1 q2;grind
theorem insJ_ok(hc:Cmp c){a k:Nat}:∀(j:Nat) (l:List α),a≤j→j≤k→k<l.length→(∀p q,a≤p→p<q→q≤k→p≠j→q≠j→Bef c r l[p]! l[q]!)→(∀q,j<q→q≤k→c l[j]! l[q]! <0)→(∀p,a≤p→p<j→r l[p]! l[j]!)→
  SOn (Bef c r) (insJ c a j l) a (k+1)∧InOn l (insJ c a j l) a (k+1)
 |0,l,h1,h2,h3,hs,hg,hr=>by
  refine⟨fun p q a1 a2 a3=> ?_,InOn.refl _ _ _⟩;show Bef c r l[p]! l[q]!;by_cases e:p=0
  ·subst e;exact .inl (hg q a2 Om)
  grind
 |j+1,l,h1,h2,h3,hs,hg,hr=>by
  unfold insJ;split
  ·rename_i q;have hlen:(swp l (j+1) j).length=l.length:=swp_len _ _ _;have at_:∀p,p<l.length→(swp l (j+1) j)[p]! =if j=p then l[j+1]! else if j+1=p then l[j]! else l[p]! :=fun p hp=>swp_at hp
   have ih:=insJ_ok hc (a:=a) (k:=k) j (swp l (j+1) j) Om Om Om ?_ ?_ ?_
   ·refine⟨ih.1,InOn.trans ⟨hlen,fun p a1 a2=> ?_,fun p a0 a1=> ?_⟩ ih.2⟩<;>grind
   ·grind
   ·grind
   grind
  ·rename_i q;refine⟨fun p q' a1 a2 a3=> ?_,InOn.refl _ _ _⟩;by_cases e:p=j+1
   ·subst e;exact .inl (hg q' a2 Om)
   ·by_cases e2:q'=j+1
    ·subst e2;refine .inr ⟨?_,hr p a1 a2⟩;have hj:a≤j:=Om;have h5:¬c l[j+1]! l[j]! <0:=fun h=>q ⟨Om,h⟩;by_cases e3:p=j
     ·grind
     ·exact hc.tr _ _ _ (Bef.le hc (hs p j a1 Om Om e Om)) h5
    grind
theorem insJ_perm(a:Nat):∀(j:Nat) (l:List α),j<l.length→(insJ c a j l).Perm l
 |0,_,_=>List.Perm.refl _
 |j+1,l,h=>by
  unfold insJ;split
  ·exact(insJ_perm a j _ (by rw[swp_len];omega)).trans (swp_perm h Om)
  simp_all
theorem insN_perm(a:Nat):∀(k:Nat) (l:List α),a+k<l.length∨k=0→(insN c a k l).Perm l
 |0,_,_=>List.Perm.refl _
 |k+1,l,h=>(insJ_perm a _ _ (by rw[insN_len];omega)).trans (insN_perm a k l Om)
theorem insF_perm{a b:Nat}{l:List α}(h:b≤l.length):(insF c a b l).Perm l:=insN_perm a _ l Om
theorem insN_ok(hc:Cmp c){a b:Nat}{l:List α}(hb:b≤l.length)(hr:SOn r l a b):∀k,a+k<b→SOn (Bef c r) (insN c a k l) a (a+k+1)∧InOn l (insN c a k l) a (a+k+1)
 |0,_=>⟨fun p q a1 a2 a3=>by omega,InOn.refl _ _ _⟩
 |k+1,hk=>by
  obtain⟨s,i⟩:=insN_ok hc hb hr k Om;have hl:=i.len;have key:=insJ_ok hc (r:=r) (a:=a) (k:=a+(k+1)) (a+1+k) (insN c a k l) Om Om Om ?_ ?_ ?_
  ·exact⟨key.1,(i.wide (Nat.le_refl a) Om Om).trans key.2⟩
  ·intro p q a1 a2 a3 n1 n2;exact s p q a1 a2 Om
  ·omega
  ·intro p a1 a2;obtain⟨p',p1,p2,e⟩:=i.ins p a1 Om;rw[e,i.out (a+1+k) Om Om];exact hr p' _ p1 Om Om
theorem insF_ok(hc:Cmp c){a b:Nat}{l:List α}(hb:b≤l.length)(hr:SOn r l a b):SOn (Bef c r) (insF c a b l) a b∧InOn l (insF c a b l) a b:=by
 unfold insF;by_cases h:a<b
 ·have:=insN_ok hc hb hr (b-(a+1)) Om;grind
 ·rw[show b-(a+1)=0 from Om];exact⟨fun p q a1 a2 a3=>by omega,InOn.refl _ _ _⟩
theorem SOn.join{R:α→α→Prop}{l:List α}{a m b:Nat}(h1:SOn R l a m)(h2:SOn R l m b)(h3:∀p q,a≤p→p<m→m≤q→q<b→R l[p]! l[q]!):SOn R l a b:=fun p q a1 a2 a3=>by
 by_cases e1:q<m
 ·exact h1 p q a1 a2 e1
 ·by_cases e2:p<m
  ·grind
  ·exact h2 p q Om a2 a3
theorem SOn.le{hc:Cmp c}{l:List α}{a b:Nat}(h:SOn (Bef c r) l a b){p q:Nat}(h1:a≤p)(h2:p≤q)(h3:q<b)(hx:∀x:α,¬c x x<0):¬c l[q]! l[p]! <0:=by
 rcases Nat.lt_or_eq_of_le h2 with e|rfl
 ·exact Bef.le hc (h p q h1 e h3)
 grind
theorem symF_ok(hc:Cmp c):∀(f a m b:Nat) (l:List α),a<m→m<b→b≤l.length→b-a≤f→SOn (Bef c r) l a m→SOn (Bef c r) l m b→(∀p q,a≤p→p<m→m≤q→q<b→r l[p]! l[q]!)→
  SOn (Bef c r) (symF c f a m b l) a b∧InOn l (symF c f a m b l) a b
 |0,a,m,b,l,h1,h2,_,h4,_,_,_=>by omega
 |f+1,a,m,b,l,h1,h2,h3,h4,s1,s2,hr=>by
  have irr:∀x:α,¬c x x<0:=fun x h=>hc.asym x x h h;unfold symF;split
  ·rename_i q;have b1:=bsF_rng (fun h=>c l[h]! l[a]! <0) (b-m) m b Om;have b2:=bsF_first (p:=fun h=>c l[h]! l[a]! <0) (b-m) m b Om Om fun x y x1 x2 x3 hy=>by
    by_cases q:c l[x]! l[a]! <0
    ·exact q
    ·exact absurd hy (hc.tr _ _ _ q (SOn.le (hc:=hc) s2 x1 x2 x3 irr))
   generalize bsF (fun h=>c l[h]! l[a]! <0) (b-m) m b=i at b1 b2;have at_:=mvU_at a (i-1-a) l Om;rw[show a+(i-1-a)=i-1 from Om]at at_;have iOn:InOn l (mvU a (i-1-a) l) a b:=by
    refine⟨mvU_len _ _ _,fun p p1 p2=> ?_,fun p p0 p1=> ?_⟩<;>grind
   refine⟨fun p q' p1 p2 p3=> ?_,iOn⟩;rw[at_ p Om,at_ q' Om];by_cases e1:p=i-1
   ·rw[if_pos e1,if_neg Om,if_neg Om];exact .inr ⟨b2.2 q' Om p3,hr a q' Om Om Om p3⟩
   ·rw[if_neg e1];by_cases e2:q'=i-1
    ·rw[if_pos e2,if_pos Om];exact .inl (b2.1 (p+1) Om Om)
    ·rw[if_neg e2];by_cases e3:a≤p∧p<i-1
     ·rw[if_pos e3];by_cases e4:a≤q'∧q'<i-1
      ·rw[if_pos e4];exact s2 _ _ Om Om Om
      ·rw[if_neg e4];exact s2 _ _ Om Om Om
     ·rw[if_neg e3,if_neg Om];exact s2 _ _ Om Om Om
  ·split
   ·rename_i q0 q;have b1:=bsF_rng (fun h=>¬c l[m]! l[h]! <0) (m-a) a m Om;have b2:=bsF_first (p:=fun h=>¬c l[m]! l[h]! <0) (m-a) a m Om Om fun x y x1 x2 x3 hy=>
     hc.tr _ _ _ (SOn.le (hc:=hc) s1 x1 x2 x3 irr) hy
    generalize bsF (fun h=>¬c l[m]! l[h]! <0) (m-a) a m=i at b1 b2;have at_:=mvD_at m (m-i) l Om Om;have iOn:InOn l (mvD m (m-i) l) a b:=by
     refine⟨mvD_len _ _ _,fun p p1 p2=> ?_,fun p p0 p1=> ?_⟩
     ·rw[at_ p Om];grind
     ·rw[at_ p p0,if_neg Om,if_neg Om]
    refine⟨fun p q' p1 p2 p3=> ?_,iOn⟩;rw[at_ p Om,at_ q' Om];by_cases e1:p+(m-i)=m
    ·rw[if_pos e1,if_neg Om,if_pos Om];exact .inl (Decidable.of_not_not (b2.2 (q'-1) Om Om))
    ·rw[if_neg e1];by_cases e2:q'+(m-i)=m
     ·rw[if_pos e2,if_neg Om];exact .inr ⟨b2.1 p p1 Om,hr p m p1 Om Nl Om⟩
     ·rw[if_neg e2];by_cases e3:m<p+(m-i)∧p≤m
      ·rw[if_pos e3,if_pos Om];exact s1 _ _ Om Om Om
      ·rw[if_neg e3];by_cases e4:m<q'+(m-i)∧q'≤m
       ·rw[if_pos e4];exact s1 _ _ Om Om Om
       ·rw[if_neg e4];exact s1 _ _ Om Om Om
   ·rename_i q0 q1;obtain⟨r1,r2,r3,r4⟩:=symStart_rng c (l:=l) h1 h2;have key:(∀h,a≤h→h<symStart c a m b l→(a+b)/2+m≤h+b→¬c l[(a+b)/2+m-1-h]! l[h]! <0)∧(∀h,symStart c a m b l≤h→h<m→h<(a+b)/2→c l[(a+b)/2+m-1-h]! l[h]! <0):=by
     have mono:∀x y,a≤x→(a+b)/2+m≤x+b→x≤y→y<m→y<(a+b)/2→¬c l[(a+b)/2+m-1-y]! l[y]! <0→¬c l[(a+b)/2+m-1-x]! l[x]! <0:=fun x y x1 x2 x3 x4 x5 hy=>
      hc.tr _ _ _ (SOn.le (hc:=hc) s1 x1 x3 x4 irr) (hc.tr _ _ _ hy (SOn.le (hc:=hc) s2 Om Om Om irr))
     unfold symStart;dsimp only;by_cases q:(m:Int)>(((a+b)/2:Nat):Int)
     ·simp only[if_pos q];have b2:=bsF_first (p:=fun h=>¬c l[(a+b)/2+m-1-h]! l[h]! <0) ((a+b)/2-((a+b)/2+m-b)) ((a+b)/2+m-b) ((a+b)/2) Om Om fun x y x1 x2 x3 hy=>mono x y Om Om x2 Om x3 hy;simp_all
     ·simp only[if_neg q];have b2:=bsF_first (p:=fun h=>¬c l[(a+b)/2+m-1-h]! l[h]! <0) (m-a) a m Om Om fun x y x1 x2 x3 hy=>mono x y x1 Om x2 x3 Om hy;simp_all
    generalize symStart c a m b l=s at r1 r2 r3 r4 key;obtain⟨k1,k2⟩:=key;unfold sym3;dsimp only;have t1:∃l1:List α,(if(s:Int)<(m:Int)∧(m:Int)<(((a+b)/2+m-s:Nat):Int)then rotF s m ((a+b)/2+m-s) l else l)=l1∧l1.length=l.length∧∀p,p<l.length→l1[p]! =if s≤p∧p<(a+b)/2 then l[p+(m-s)]! else if(a+b)/2≤p∧p<(a+b)/2+m-s then l[p+s-(a+b)/2]! else l[p]! :=by
     refine⟨_,rfl,?_,?_⟩
     ·grind [rotF_len]
     ·intro p hp;split
      ·rename_i q;rw[rotF_at Om Om Om hp];rw[show s+((a+b)/2+m-s-m)=(a+b)/2 from Om];by_cases e1:s≤p∧p<(a+b)/2
       ·rw[if_pos e1,if_pos e1]
       ·rw[if_neg e1,if_neg e1];by_cases e2:(a+b)/2≤p∧p<(a+b)/2+m-s
        ·rw[if_pos e2,if_pos e2];congr 1;omega
        grind
      ·rename_i q;by_cases e1:s≤p∧p<(a+b)/2
       ·rw[if_pos e1,show m=s from Om,Nat.sub_self];rfl
       ·rw[if_neg e1];by_cases e2:(a+b)/2≤p∧p<(a+b)/2+m-s
        ·rw[if_pos e2];congr 1;omega
        grind
    obtain⟨l1,e1,n1,at1⟩:=t1;rw[e1];generalize hmid:(a+b)/2=mid at*;have m1:a≤mid∧mid<b:=Om;have io1:InOn l l1 a b:=by
     refine⟨n1,fun p p1 p2=> ?_,fun p p0 p1=> ?_⟩
     ·rw[at1 p Om];split
      ·exact⟨p+(m-s),Om,Om,rfl⟩
      ·split
       ·exact⟨p+s-mid,Om,Om,rfl⟩
       grind
     ·rw[at1 p p0,if_neg Om,if_neg Om]
    have A1:∀p,a≤p→p<s→l1[p]! =l[p]! :=fun p p1 p2=>by rw[at1 p Om,if_neg Om,if_neg Om]
    have A2:∀p,s≤p→p<mid→l1[p]! =l[p+(m-s)]! :=fun p p1 p2=>by rw[at1 p Om,if_pos ⟨p1,p2⟩]
    have A3:∀p,mid≤p→p<mid+m-s→l1[p]! =l[p+s-mid]! :=fun p p1 p2=>by rw[at1 p Om,if_neg Om,if_pos ⟨p1,p2⟩]
    have A4:∀p,mid+m-s≤p→p<b→l1[p]! =l[p]! :=fun p p1 p2=>by rw[at1 p Om,if_neg Om,if_neg Om]
    have c14:∀p q,a≤p→p<s→mid+m-s≤q→q<b→Bef c r l[p]! l[q]! :=fun p q p1 p2 p3 p4=>
     .inr ⟨hc.tr _ _ _ (SOn.le (hc:=hc) s1 p1 (show p≤s-1 by omega) Om irr) (hc.tr _ _ _ (k1 (s-1) Om Om Om) (SOn.le (hc:=hc) s2 Om (show mid+m-1-(s-1)≤q by omega) p4 irr)),hr p q p1 Om Om p4⟩
    have c23:∀p q,m≤p→p<mid+m-s→s≤q→q<m→Bef c r l[p]! l[q]! :=fun p q p1 p2 p3 p4=>by
     have h5:=k2 s Nl Om Om;refine .inl (Decidable.of_not_not fun h6=> ?_);exact hc.tr _ _ _ (SOn.le (hc:=hc) s1 Om p3 p4 irr) (hc.tr _ _ _ h6 (SOn.le (hc:=hc) s2 p1 (show p≤mid+m-1-s by omega) Om irr)) h5
    have cross:∀p q,a≤p→p<mid→mid≤q→q<b→Bef c r l1[p]! l1[q]! :=fun p q p1 p2 p3 p4=>by
     by_cases f1:p<s
     ·rw[A1 p p1 f1];by_cases f2:q<mid+m-s
      ·rw[A3 q p3 f2];exact s1 _ _ p1 Om Om
      grind
     ·rw[A2 p Om p2];by_cases f2:q<mid+m-s
      ·rw[A3 q p3 f2];exact c23 _ _ Om Om Om Om
      ·rw[A4 q Om p4];exact s2 _ _ Om Om p4
    have t2:∃l2:List α,(if(a:Int)<(s:Int)∧(s:Int)<(mid:Int)then symF c f a s mid l1 else l1)=l2∧SOn (Bef c r) l2 a mid∧InOn l1 l2 a mid:=by
     have u1:SOn (Bef c r) l1 a s:=fun p q p1 p2 p3=>by rw[A1 p p1 Om,A1 q Om p3];exact s1 _ _ p1 p2 Om
     have u2:SOn (Bef c r) l1 s mid:=fun p q p1 p2 p3=>by rw[A2 p p1 Om,A2 q Om p3];exact s2 _ _ Om Om Om
     refine⟨_,rfl,?_⟩;split
     ·exact symF_ok hc f a s mid l1 Om Om Om Om u1 u2 fun p q p1 p2 p3 p4=>by rw[A1 p p1 p2,A2 q p3 p4];exact hr _ _ p1 Om Om Om
     ·rename_i q;refine⟨?_,InOn.refl _ _ _⟩;by_cases f1:a<s<;>grind
    obtain⟨l2,e2,v1,v2⟩:=t2;rw[e2];have B3:∀p,mid≤p→p<mid+m-s→l2[p]! =l[p+s-mid]! :=fun p p1 p2=>(v2.out p Om Om).trans (A3 p p1 p2);have B4:∀p,mid+m-s≤p→p<b→l2[p]! =l[p]! :=fun p p1 p2=>(v2.out p Om Om).trans (A4 p p1 p2);have t3:∃l3:List α,(if(mid:Int)<((mid+m-s:Nat):Int)∧((mid+m-s:Nat):Int)<(b:Int)then symF c f mid (mid+m-s) b l2 else l2)=l3∧SOn (Bef c r) l3 mid b∧InOn l2 l3 mid b:=by
     have u1:SOn (Bef c r) l2 mid (mid+m-s):=fun p q p1 p2 p3=>by rw[B3 p p1 Om,B3 q Om p3];exact s1 _ _ Om Om Om
     have u2:SOn (Bef c r) l2 (mid+m-s) b:=fun p q p1 p2 p3=>by rw[B4 p p1 Om,B4 q Om p3];exact s2 _ _ Om Om Om
     refine⟨_,rfl,?_⟩;split
     ·exact symF_ok hc f mid _ b l2 Om Om (by rw[v2.len,n1];exact h3) Om u1 u2 fun p q p1 p2 p3 p4=>by rw[B3 p p1 p2,B4 q p3 p4];exact hr _ _ Om Om Om Om
     ·refine⟨?_,InOn.refl _ _ _⟩;by_cases f1:mid<mid+m-s
      ·rw[show b=mid+m-s from Om];exact u1
      ·rw[show mid=mid+m-s from Om];exact u2
    obtain⟨l3,e3,w1,w2⟩:=t3;rw[e3];have hl2:l2.length=l.length:=v2.len.trans n1;refine⟨SOn.join (m:=mid) (fun p q p1 p2 p3=> ?_) w1 fun p q p1 p2 p3 p4=> ?_,io1.trans ((v2.wide (Nat.le_refl a) Om Om).trans (w2.wide Om (Nat.le_refl b) Om))⟩
    ·rw[w2.out p Om Om,w2.out q Om Om];exact v1 p q p1 p2 p3
    ·obtain⟨q',q1,q2,q3⟩:=w2.ins q p3 p4;obtain⟨p',x1,x2,x3⟩:=v2.ins p p1 p2;rw[w2.out p Om Om,q3,v2.out q' Om Om,x3];grind
theorem symF_perm:∀(f a m b:Nat) (l:List α),a<m→m<b→b≤l.length→(symF c f a m b l).Perm l
 |0,_,_,_,_,_,_,_=>List.Perm.refl _
 |f+1,a,m,b,l,h1,h2,h3=>by
  unfold symF;split
  ·grind [bsF_rng,getElem!,mvU_perm]
  ·split
   ·grind [mvD_perm]
   ·obtain⟨r1,r2,r3,r4⟩:=symStart_rng c (l:=l) h1 h2;generalize symStart c a m b l=s at r1 r2 r3 r4;unfold sym3;dsimp only;have t1:∃l1:List α,(if(s:Int)<(m:Int)∧(m:Int)<(((a+b)/2+m-s:Nat):Int)then rotF s m ((a+b)/2+m-s) l else l)=l1∧l1.Perm l:=by
     refine⟨_,rfl,?_⟩;grind [rotF_perm,List.Perm.refl]
    obtain⟨l1,e1,p1⟩:=t1;rw[e1];have t2:∃l2:List α,(if(a:Int)<(s:Int)∧(s:Int)<(((a+b)/2:Nat):Int)then symF c f a s ((a+b)/2) l1 else l1)=l2∧l2.Perm l1:=by
     refine⟨_,rfl,?_⟩;split
     ·exact symF_perm f _ _ _ _ Om Om (by rw[p1.length_eq];omega)
     simp_all
    obtain⟨l2,e2,p2⟩:=t2;rw[e2];split
    ·exact((symF_perm f _ _ _ _ Om Om (by rw[p2.length_eq,p1.length_eq];omega)).trans p2).trans p1
    ·exact p2.trans p1
theorem stabF_perm(l:List α):(stabF c l).Perm l:=by
 unfold stabF;split
 ·dsimp only;split
  ·exact(symF_perm _ _ _ _ _ Om Om (by grind [insF_len])).trans ((insF_perm (by rw[insF_len];omega)).trans (insF_perm Om))
  ·exact(insF_perm (by rw[insF_len];omega)).trans (insF_perm Om)
 ·exact insF_perm Nl
theorem SOn.pairwise{R:α→α→Prop}{l:List α}(h:SOn R l 0 l.length):l.Pairwise R:=by
 rw[List.pairwise_iff_getElem];intro i j hi hj hij;have:=h i j (Nat.zero_le _) hij hj;grind
theorem SOn.of_pairwise{R:α→α→Prop}{l:List α}(h:l.Pairwise R):SOn R l 0 l.length:=fun p q _ h2 h3=>by
 grind [bang_eq,List.pairwise_iff_getElem]
theorem stabF_ok(hc:Cmp c){l:List α}(h:l.Pairwise r):(stabF c l).Pairwise (Bef c r):=by
 have hr:=SOn.of_pairwise h;refine SOn.pairwise ?_;rw[stabF_len];unfold stabF;split
 ·rename_i q;dsimp only;obtain⟨a1,a2⟩:=insF_ok (r:=r) hc (a:=0) (b:=20) (l:=l) q fun p q' p1 p2 p3=>hr p q' p1 p2 Om;have hr2:SOn r (insF c 0 20 l) 20 l.length:=fun p q' p1 p2 p3=>by rw[a2.out p Om Om,a2.out q' Om Om];exact hr p q' Om p2 p3
  obtain⟨b1,b2⟩:=insF_ok (r:=r) hc (a:=20) (b:=l.length) (l:=insF c 0 20 l) (by rw[insF_len];omega) hr2;have d1:SOn (Bef c r) (insF c 20 l.length (insF c 0 20 l)) 0 20:=fun p q' p1 p2 p3=>by rw[b2.out p (by rw[insF_len];omega) Om,b2.out q' (by rw[insF_len];omega) Om];exact a1 p q' p1 p2 p3
  split
  ·refine(symF_ok hc _ 0 20 l.length _ Om Om (by grind [insF_len]) Om d1 b1 fun p q' p1 p2 p3 p4=> ?_).1;obtain⟨p',x1,x2,x3⟩:=a2.ins p p1 p2;obtain⟨q2,y1,y2,y3⟩:=b2.ins q' p3 p4;rw[b2.out p (by rw[insF_len];omega) Om,x3,y3,a2.out q2 Om Om];exact hr p' q2 Om Om Om
  grind
 simp_all [insF_ok,Nat.le_refl]
end
structure Gl where(id:Int)(A:Option Addr)(n c:Nat)(l:List Int)
instance:Inhabited Gl:=⟨⟨0,none,0,0,[]⟩⟩
def glM(x:Gl):Int×Value:=(x.id,.slice x.A x.n x.c)
def glP(x:Gl):Int×List Int:=(x.id,x.l)
abbrev glF:Gl→List Res:=fun x=>[row 3 ic 1 (.slice x.A x.n x.c) x.l]
theorem gl_none:∀{gl:List Gl} {x:Int},mget (gl.map glM) x=none→lget (gl.map glP) x=[]∧(∀u,lset (gl.map glP) x u=gl.map glP++[(x,u)])∧(∀u,mset (gl.map glM) x u=gl.map glM++[(x,u)])
 |[],x,_=>⟨rfl,fun _=>rfl,fun _=>rfl⟩
 |y::r,x,h=>by
  have h1:(if x=y.id then some (Value.slice y.A y.n y.c)else mget (r.map glM) x)=none:=h;by_cases q:x=y.id
  ·grind
  ·rw[if_neg q]at h1;obtain⟨a,b,c⟩:=gl_none h1;refine⟨(if_neg q).trans a,fun u=>(if_neg q).trans ?_,fun u=>(if_neg q).trans ?_⟩
   ·rw[b];rfl
   ·rw[c];rfl
theorem gl_some:∀{gl:List Gl} {x:Int} {v:Value},mget (gl.map glM) x=some v→∃i,i<gl.length∧gl[i]!.id=x∧v= .slice gl[i]!.A gl[i]!.n gl[i]!.c∧lget (gl.map glP) x=gl[i]!.l∧(∀u,lset (gl.map glP) x u=(gl.map glP).set i (x,u))∧(∀u,mset (gl.map glM) x u=(gl.map glM).set i (x,u))
 |[],x,v,h=>by cases h
 |y::r,x,v,h=>by
  have h1:(if x=y.id then some (Value.slice y.A y.n y.c)else mget (r.map glM) x)=some v:=h;by_cases q:x=y.id
  ·rw[if_pos q]at h1;injection h1 with h1
   subst q;exact⟨0,Nat.succ_pos _,rfl,h1.symm,if_pos rfl,fun u=>if_pos rfl,fun u=>if_pos rfl⟩
  ·rw[if_neg q]at h1;obtain⟨i,a,b,c,d,e,f⟩:=gl_some h1;refine⟨i+1,Nat.succ_lt_succ a,b,c,(if_neg q).trans d,fun u=>(if_neg q).trans ?_,fun u=>(if_neg q).trans ?_⟩
   ·rw[e];rfl
   ·rw[f];rfl
theorem lget_at:∀{G:List (Int×List Int)} {i:Nat},(G.map (·.1)).Nodup→i<G.length→lget G G[i]!.1=G[i]!.2
 |[],i,_,h=>by simp at h
 |(k,v)::r,0,_,_=>if_pos rfl
 |(k,v)::r,i+1,hn,h=>by
  rw[List.map_cons,List.nodup_cons]at hn;have hi:i<r.length:=by grind
  have e:((k,v)::r)[i+1]! =r[i]! :=by rfl
  rw[e];have q:r[i]!.1≠k:=fun q=>hn.1 (by grind);rw[show lget ((k,v)::r) r[i]!.1=lget r r[i]!.1 from if_neg q];exact lget_at hn.2 hi
theorem gl_at{gl gs:List Gl}(h:gs.map glM=gl.map glM){i:Nat}(hi:i<gl.length):gs.length=gl.length∧gs[i]!.id=gl[i]!.id∧Value.slice gs[i]!.A gs[i]!.n gs[i]!.c= .slice gl[i]!.A gl[i]!.n gl[i]!.c:=by
 have hl:gs.length=gl.length:=by grind [List.length_map,glM]
 have h1:=map_b glM (show i<gs.length by omega);simp_all [map_b,glM,congrArg,Prod.fst,Prod.snd,And.intro]
theorem rdS_rng{es:List Ev}{s:List Int}{n:Nat}(hn:s.Nodup)(hs:∀x∈s,0≤x∧x<(n:Int)){a:Nat}(ha:a<n):(∀x∈rdS es s n a,0≤x∧x<(n:Int))∧(rdS es s n a).length≤s.length:=by
 have h:=rgB_LB (es:=es) hn hs s.length 0 0 (List.replicate n []) 0 ⟨List.length_replicate,fun l hl=>by grind⟩ (Nat.zero_le _);have:=h.at_ ha;simp_all [And.intro,rdS]
structure GrpOk(ths:List Th)(ids:List Ix)(gl:List Gl):Prop where
 p:gl.map glP=gpN ths ids ids.length
theorem GrpOk.el{ths:List Th}{ids:List Ix}{gl:List Gl}(h:GrpOk ths ids gl){i:Nat}(hi:i<gl.length):gl[i]!.l.Nodup∧gl[i]!.l.length≤ids.length∧(∀x∈gl[i]!.l,0≤x∧x<(ids.length:Int)∧dmA ths ids x.toNat=gl[i]!.id)∧lget (gpN ths ids ids.length) gl[i]!.id=gl[i]!.l:=by
 have ok:=gpN_ok ths ids ids.length;rw[←h.p]at ok;have hm:glP gl[i]!∈gl.map glP:=List.mem_map_of_mem (mem_b hi);obtain⟨a,b,c⟩:=ok.el _ hm;refine⟨a,b,c,?_⟩;have:=lget_at ok.keys (i:=i) (by grind);rw[map_b glP hi,h.p]at this;exact this
theorem GrpOk.keys{ths:List Th}{ids:List Ix}{gl:List Gl}(h:GrpOk ths ids gl):(gl.map Gl.id).Nodup:=by
 have ok:=(gpN_ok ths ids ids.length).keys;rw[←h.p,List.map_map]at ok;exact ok
theorem srtG_mem{es:List Ev}{l:List Int}{x:Int}:x∈srtG es l↔x∈l:=(stabF_perm l).mem_iff
theorem srtG_len{es:List Ev}{l:List Int}:(srtG es l).length=l.length:=(stabF_perm l).length_eq
structure RdOk(ths:List Th)(ids:List Ix)(es:List Ev)(gl:List Gl)(E N:List (List Int))(S:List Nat):Prop where
 len:N.length=ids.length
 at_:∀a,a<ids.length→N[a]! =E[a]! ++(if dmA ths ids a∈S.map fun i=>gl[i]!.id then rdS es (srtG es (lget (gpN ths ids ids.length) (dmA ths ids a))) ids.length a else[])
theorem RdOk.lb{ths:List Th}{ids:List Ix}{es:List Ev}{gl:List Gl}{E N:List (List Int)}{S:List Nat}{B:Nat}(h:RdOk ths ids es gl E N S)(hE:LB E ids.length B):LB N ids.length (B+ids.length):=by
 refine⟨h.len,fun l hl=> ?_⟩;obtain⟨a,ha,rfl⟩:=mem_at hl;rw[h.len]at ha;have e:=hE.at_ ha;rw[h.at_ a ha];split
 ·have ok:=gpN_ok ths ids ids.length;have key:(lget (gpN ths ids ids.length) (dmA ths ids a)).Nodup∧(lget (gpN ths ids ids.length) (dmA ths ids a)).length≤ids.length∧∀x∈lget (gpN ths ids ids.length) (dmA ths ids a),0≤x∧x<(ids.length:Int):=by
   rcases lget_mem (gpN ths ids ids.length) (dmA ths ids a)with h|h
   ·grind
   ·obtain⟨p,q,r⟩:=ok.el _ h;grind
  have r:=rdS_rng (es:=es) (s:=srtG es (lget (gpN ths ids ids.length) (dmA ths ids a))) ((stabF_perm _).nodup_iff.2 key.1) (fun x hx=>key.2.2 x (srtG_mem.1 hx)) ha;rw[srtG_len]at r;grind
 grind
theorem RdOk.start{ths:List Th}{ids:List Ix}{es:List Ev}{gl:List Gl}{E:List (List Int)}(h:E.length=ids.length):RdOk ths ids es gl E E []:=⟨h,fun a _=>by simp⟩
theorem RdOk.step{ths:List Th}{ids:List Ix}{es:List Ev}{gl:List Gl}{E N:List (List Int)}{S:List Nat}(h:RdOk ths ids es gl E N S)(hg:GrpOk ths ids gl)(hS:∀j∈S,j<gl.length){i:Nat}(hi:i<gl.length)(hn:i∉S){f:Nat}(hf:f=(srtG es gl[i]!.l).length):RdOk ths ids es gl E (rgB es (srtG es gl[i]!.l) f 0 0 N) (i::S):=by
 subst hf;obtain⟨g1,g2,g3,g4⟩:=hg.el hi;refine⟨(rgB_len _ _ _ _ _ _).trans h.len,fun a ha=> ?_⟩;rw[rgB_S (fun x hx=>by have:=g3 x (srtG_mem.1 hx);rw[h.len];omega) (by rw[h.len];exact ha),h.at_ a ha,h.len];by_cases e:dmA ths ids a=gl[i]!.id
 ·have h1:¬dmA ths ids a∈S.map fun i=>gl[i]!.id:=fun q=>by
   obtain⟨j,hj,ej⟩:=List.mem_map.1 q;have hj':=hS j hj;have e2:gl[j]!.id=gl[i]!.id:=ej.trans e;rw[←map_b Gl.id hj',←map_b Gl.id hi,bang_eq (by grind),bang_eq (by grind)]at e2;have:=(List.getElem_inj hg.keys).1 e2;grind
  grind
 ·rw[rdS_none (s:=srtG es gl[i]!.l) ha fun x hx q=>e (by grind [srtG_mem]),List.append_nil];grind
theorem RdOk.done{ths:List Th}{ids:List Ix}{es:List Ev}{gl:List Gl}{E N:List (List Int)}{S:List Nat}(h:RdOk ths ids es gl E N S)(hg:GrpOk ths ids gl)(hE:E.length=ids.length)(hS:∀i,i<gl.length→i∈S):N=rdF ths ids es E:=by
 unfold rdF;refine List.ext_getElem (by rw[List.length_map,List.length_range,h.len,hE]) fun a h1 h2=> ?_;have ha:a<ids.length:=by grind
 rw[List.getElem_map,List.getElem_range,←bang_eq h1,h.at_ a ha,hE];have hk:dmA ths ids a∈(S.map fun i=>gl[i]!.id)∨lget (gpN ths ids ids.length) (dmA ths ids a)=[]:=by
  rcases lget_mem (gpN ths ids ids.length) (dmA ths ids a)with q|q
  ·grind
  ·rw[←hg.p]at q;obtain⟨y,hy,ey⟩:=List.mem_map.1 q;obtain⟨i,hi,rfl⟩:=mem_at hy;exact .inl (List.mem_map.2 ⟨i,hS i hi,congrArg Prod.fst ey⟩)
 rcases hk with q|q
 ·rw[if_pos q]
 ·rw[q];have:rdS es (srtG es []) ids.length a=[]:=rdS_none ha fun x hx=>by simp_all [srtG_mem,List.nil]
  grind
theorem putA_next{N:List (List Int)}{bef blk:List Int}{j:Nat}:putA N bef blk (j+1)=(putA N bef blk j).set bef[j]!.toNat ((putA N bef blk j)[bef[j]!.toNat]! ++blk):=rfl
theorem rgB_step{es:List Ev}{s:List Int}{f k0 k:Nat}{N:List (List Int)}(h:(k:Int)<(s.length:Int))(hf:s.length≤k+f):rgB es s f k0 k N=rgB es s (f-1) k (blkE es s k) (putA N ((s.take k).drop k0) ((s.take (blkE es s k)).drop k) ((s.take k).drop k0).length):=by
 obtain⟨g,rfl⟩:∃g,f=g+1:=⟨f-1,Om⟩;exact if_pos h
theorem blkF_step{es:List Ev}{s:List Int}{k f n:Nat}(hf:1≤f)(h:(n:Int)<(s.length:Int)∧es[s[n]!.toNat]!.at_=es[s[k]!.toNat]!.at_):blkF es s k f n=blkF es s k (f-1) (n+1):=by
 obtain⟨g,rfl⟩:∃g,f=g+1:=⟨f-1,Om⟩;exact if_pos h
theorem blkF_stop{es:List Ev}{s:List Int}{k f n:Nat}(h:¬((n:Int)<(s.length:Int)∧es[s[n]!.toNat]!.at_=es[s[k]!.toNat]!.at_)):blkF es s k f n=n:=by
 cases f with
 |zero=>rfl
 |succ f=>exact if_neg h
theorem gl_len(ths:List Th)(ids:List Ix)(i:Nat)(x:Int):(lget (gpN ths ids i) x).length≤i:=by
 rcases lget_mem (gpN ths ids i) x with h|h
 ·grind
 ·exact((gpN_ok ths ids i).el _ h).2.1
end TW
end Go.Proofs.YtaclfjjipnpboaaGreatDoor
section
attribute [local irreducible] Go.Eng.WC Go.Eng.WL Go.Eng.WK Go.Eng.WQ Go.Eng.WX Go.Eng.Yld
namespace Go.Proofs.YtaclfjjipnpboaaGreatDoor
open Go Go.Eng Go.RowKit
namespace TW
def sT(q:Nat×Nat×Nat)(t:Nat):Nat:=match t with
 |45=>q.1
 |135=>q.2.1
 |220=>q.2.2
 |t=>t
def sO(fi:Nat→Nat):Operand→Operand
 | .func f=>.func (fi f)
 |x=>x
def sK(fi:Nat→Nat):Callee→Callee
 | .value f=>.value (sO fi f)
 |x=>x
def sP(q:Nat×Nat×Nat)(fi:Nat→Nat):Op→Op
 | .load t x=>.load (sT q t) x
 | .store t x y=>.store (sT q t) x y
 | .indexAddr t x y=>.indexAddr (sT q t) x y
 | .call ⟨c,a,ts⟩=>.call ⟨sK fi c,a,(ts.toList.map (sT q)).toArray⟩
 |x=>x
def sR(q:Nat×Nat×Nat)(fi:Nat→Nat)(o:Oper):Oper:=⟨o.dst,sP q fi o.op,sT q o.type,o.pos,o.after,o.guard⟩
def sC(q:Nat×Nat×Nat)(fi:Nat→Nat):Code→Code
 | .region i l d=>.region i (l.toList.map (sR q fi)).toArray d
 | .seq a b=>.seq (sC q fi a) (sC q fi b)
 | .cond c a b=>.cond c (sC q fi a) (sC q fi b)
 | .block i a=>.block i (sC q fi a)
 | .loop a=>.loop (sC q fi a)
 |x=>x
def Fs(q:Nat×Nat×Nat)(fi:Nat→Nat)(F:Nat)(fn0:Func):Prop:=∃fn,Tryz.prog.funcs[F]? =some fn∧fn.body=fn0.body.map (sC q fi)∧fn.ntmps=fn0.ntmps∧fn.results=fn0.results∧hasB Tryz.prog F=true
section
variable{q:Nat×Nat×Nat}{fi:Nat→Nat}{F:Nat}{fn0:Func}
theorem Fs.has(h:Fs q fi F fn0):Has Tryz.prog F:=by
 obtain⟨_,_,_,_,_,h⟩:=h;exact Fh h
theorem post_eq{P:Program}{fn fn0:Func}(h:fn.results=fn0.results)(R:Ending→World→Prop):bodyPost P fn R=bodyPost P fn0 R:=by
 have e:∀t,results fn t=results fn0 t:=fun t=>by unfold results;rw[h]
 funext e' a w;cases e'<;>simp only[bodyPost,e]
theorem wG{c:Code}{n:Nat}{args:List Value}{w:World}{R:Ending→World→Prop}(h:Fs q fi F fn0)(hb:fn0.body.map (sC q fi)=some c)(hw:WC Tryz.prog n c (bodyPost Tryz.prog fn0 R) (params 0 args) w)(hn:fn0.ntmps=n:=by exact rfl)(hl:args.length≤n:=by exact ble rfl):Calls Tryz.prog F args.toArray w R:=by
 obtain⟨fn,h1,h2,h3,h4,_⟩:=h;exact calls_of_WC h1 (h2.trans hb) (h3.trans hn) hl (by rw[post_eq h4];exact hw)
end
structure SG{α:Type}[Inhabited α](ce:α→List Value)(sz:Nat)(vl:α→Value)(tt:Nat×Nat×Nat)(fi:Nat→Nat):Prop where
 u:Tryz.prog.underlying tt.1=some (.slice tt.2.1)
 t0:∃z by',TI Tryz.prog tt.2.1 z sz by'
 len:∀x,(ce x).length=sz
 pos:0<sz
 cells:∀x,(vl x).cells=(ce x).toArray
 one:∀x,(ce x).all Value.oneCell'=true
 ld0:∀(o:Oper) (n:Nat) (E:Env) (C:World→Prop) (x:Operand) (A:Option Addr) (m cap:Nat) (l:List α) (k:Nat),o.op= .load tt.2.1 x→ev E x=some (.pointer (some (elemAt A sz k 0)))→(∀w',C w'→Ls w' A m cap ce sz l)→k<m→Yld Tryz.prog o n E C (vl l[k]!)
 f224:Fs tt fi (fi 224) Tryz.f224
 f173:Fs tt fi (fi 173) Tryz.f173
 f201:Fs tt fi (fi 201) Tryz.f201
 f174:Fs tt fi (fi 174) Tryz.f174
 f139:Fs tt fi (fi 139) Tryz.f139
 f95:Fs tt fi (fi 95) Tryz.f95
section
variable{α:Type}[Inhabited α]{ce:α→List Value}{sz:Nat}{vl:α→Value}{tt:Nat×Nat×Nat}{fi:Nat→Nat}
theorem sT_0{q:Nat×Nat×Nat}:sT q 0=0:=rfl
theorem sT_3{q:Nat×Nat×Nat}:sT q 3=3:=rfl
theorem sT_4{q:Nat×Nat×Nat}:sT q 4=4:=rfl
theorem sT_45{q:Nat×Nat×Nat}:sT q 45=q.1:=rfl
theorem sT_135{q:Nat×Nat×Nat}:sT q 135=q.2.1:=rfl
theorem sT_220{q:Nat×Nat×Nat}:sT q 220=q.2.2:=rfl
theorem sT_333{q:Nat×Nat×Nat}:sT q 333=333:=rfl
theorem SG.l(S:SG ce sz vl tt fi){W w:World}{L:List Res}{n c:Nat}{A:Option Addr}{l:List α}(H:Hp W w L)(k:Nat)(hk:L[k]? =some (row tt.2.1 ce sz (.slice A n c) l):=by exact rfl):Ls w A n c ce sz l:=H.l k hk S.len S.pos
theorem SG.ld(S:SG ce sz vl tt fi){o:Oper}{n:Nat}{E:Env}{C:World→Prop}{x:Operand}{A:Option Addr}{m cap:Nat}{l:List α}{k:Nat}(ho:o.op= .load tt.2.1 x)(hx:ev E x=some (.pointer (some (elemAt A sz k 0))))(h:∀w',C w'→Ls w' A m cap ce sz l)(hk:k<m):Yld Tryz.prog o n E C (vl l[k]!):=S.ld0 o n E C x A m cap l k ho hx h hk
theorem setAll_all:∀(a b:List Value) (c:List Value),a.length=b.length→setAll (c++b) c.length a=c++a
 |[],[],c,_=>rfl
 |[],_::_,c,h=>by cases h
 |_::_,[],c,h=>by cases h
 |v::a,u::b,c,h=>by
  have e:=setAll_all a b (c++[v]) (by simpa using h);simpa[setAll]using e
theorem SG.ixL(S:SG ce sz vl tt fi){o:Oper}{n:Nat}{E:Env}{C:World→Prop}{x y:Operand}{A:Option Addr}{len cap:Nat}{k:IntKind}{i:Int}{l:List α}{w:World}(j:Nat)(h:Ls w A len cap ce sz l)(ho:o.op= .indexAddr tt.1 x y)(hx:ev E x=some (.slice A len cap))(hy:ev E y=some (.int k i))(hj:i=(j:Int))(hl:j<len):Yld Tryz.prog o n E C (.pointer (some (elemAt A sz j 0))):=by
 obtain⟨z,by',h1⟩:=S.t0;exact Y.indexLs j h ho S.u h1 hx hy hj hl
theorem SG.stX(S:SG ce sz vl tt fi){n:Nat}{ops:Array Oper}{C:World→Prop}{Q:Act→World→Prop}{r:Ord}{E:Env}{W w:World}{L L':List Res}{i:Nat}{o:Oper}{l:List α}{x y:Operand}{A:Option Addr}{len cap i2:Nat}(hC:C w)(H:Hp W w L)(k:Nat)(hk:L[k]? =some (row tt.2.1 ce sz (.slice A len cap) l))(x':α)(hi2:i2<len)
  (h:∀w',Hp W w' L'→WX Tryz.prog n ops C Q r E w') (hi:ops[i]? =some o:=by exact rfl) (hd:o.dst=none:=by exact rfl) (hg:o.guard=none:=by exact rfl) (ho:o.op= .store tt.2.1 x y:=by exact rfl) (hx:ev E x=some (.pointer (some (elemAt A sz i2 0))):=by exact rfl) (hy:ev E y=some (vl x'):=by exact rfl)
  (p:Put (row tt.2.1 ce sz (.slice A len cap) (l.set i2 x')) k (row tt.2.1 ce sz (.slice A len cap) l) L L':=by repeat (first|exact Put.here|apply Put.there)):WX Tryz.prog n ops C Q (.alt i r .none) E w:=by
 obtain⟨z,by',h1⟩:=S.t0;exact steX hC H k hk x' hi2 (by rw[S.len x'];exact h1) rfl h S.len hi hd hg ho hx hy (S.cells x') p (by rw[Nat.zero_add,S.len x'];simp) (S.one x') (by rw[show setAll (ce l[i2]!) 0 (ce x')=ce x' from setAll_all (ce x') (ce l[i2]!) [] (by rw[S.len,S.len])])
theorem swrG_any(S:SG ce sz vl tt fi)(A:Option Addr)(n q:Nat)(l:List α)(a b k:Nat)(f:FuncId)(cap:List Value)(c:α→α→Int)(W:World)(R:List Res)(w:World)(H:Hp W w (row tt.2.1 ce sz (.slice A n q) l::R))(ha:a+k≤n)(hb:b+k≤n)(h1:n≤1000000):
  Calls Tryz.prog (fi 224) #[.slice A n q,.int .i64 (a:Int),.int .i64 (b:Int),.int .i64 (k:Int),.func (.func f) #[] cap.toArray] w fun e w'=>e= .returned (resVal [])∧Hp W w' (row tt.2.1 ce sz (.slice A n q) (swr a b k l)::R):=by
 have e_n:=(S.l H 0).len;have z_n:=(S.l H 0).nle;subst e_n;refine wG (args:=[.slice A l.length q,.int .i64 (a:Int),.int .i64 (b:Int),.int .i64 (k:Int),.func (.func f) #[] cap.toArray]) S.f224 (by simp only[Tryz.f224,sC,sR,sP,sK,sO,Option.map,List.map,sT_0,sT_3,sT_4,sT_45,sT_135,sT_220,sT_333];rfl) ?_;refine go ?_;refine sb [10,0,1,2,3] ?_;refine WC.loopS 1 (fun mz Ed W'=>∃j:Nat,mz=2*(k-j)∧Ed=[(10,.int .i64 ((j:Nat):Int))]∧Hp W W' (row tt.2.1 ce sz (.slice A l.length q) (swr a b j l)::R)∧(j≤k)) _ ⟨0,rfl,rfl,H,(Nat.zero_le _)⟩ ?_;rintro _ _ z ⟨j,rfl,rfl,H,jk⟩;have wl:=swr_len a b j l;refine go ?_;refine Cd (fun p6=> ?_) fun p6=> ?_
 ·refine go ?_;refine Xr H (HpC W _) (.load 0 (.load 1 (.load 2 (.load 3 (.load 4 (.load 5 (.load 6 (.load 7 (.load 8 (.load 9 (.load 10 (.load 11 (.load 12 (.load 14 (.load 15 (.load 16 (.load 17 (.load 18 (.alt 13 (.alt 19 (.load 20 (.alt 21 (.load 22 (.alt 23 (.fin) (.none))) (.none))) (.none)) (.alt 19 (.alt 13 (.load 20 (.alt 21 (.load 22 (.alt 23 (.fin) (.none))) (.none))) (.none)) (.none))))))))))))))))))))) (H.pick []) fun z H=> ?_;have b8:(b+j)<l.length:=Om;refine G12 ?_;refine yx rfl (S.ixL (b+j) (S.l H 0) rfl rfl rfl rfl b8) ?_;have b9:(a+j)<l.length:=Om;refine G4 ?_;refine yx rfl (S.ixL (a+j) (S.l H 0) rfl rfl rfl rfl b9) ?_;refine WX.alt ?_ ?_
  ·refine WX.yldL rfl rfl (blt rfl) rfl (H.pick []) (S.ld rfl rfl (lWe (S.l H 0)) b8) ?_;refine WX.yldL rfl rfl (blt rfl) rfl (H.pick []) (S.ld rfl rfl (lWe (S.l H 0)) b9) ?_;have b10:(a+j)<l.length:=Om;refine yx rfl (S.ixL (a+j) (S.l H 0) rfl rfl rfl rfl b10) ?_;refine S.stX (H.pick []) H 0 rfl (swr a b j l)[b+j]! b10 fun z H=> ?_;have b11:(b+j)<l.length:=Om;refine yx rfl (S.ixL (b+j) (S.l H 0) rfl rfl rfl rfl b11) ?_;refine S.stX (H.pick []) H 0 rfl (swr a b j l)[a+j]! b11 fun z H=> ?_;refine WX.nil (H.pick []) ?_;refine G2 ?_;refine sb [0,1,2,3,10] ?_;refine go ?_;exact Rs [(10,_)] Sx ⟨(j+1),rfl,rfl,(by rw[show swr a b (j+1) l=(((swr a b j l).set (a+j) (swr a b j l)[b+j]!).set (b+j) (swr a b j l)[a+j]!)from rfl];exact H),Om⟩
  refine WX.yldL rfl rfl (blt rfl) rfl (H.pick []) (S.ld rfl rfl (lWe (S.l H 0)) b9) ?_;refine WX.yldL rfl rfl (blt rfl) rfl (H.pick []) (S.ld rfl rfl (lWe (S.l H 0)) b8) ?_;have b12:(a+j)<l.length:=Om;refine yx rfl (S.ixL (a+j) (S.l H 0) rfl rfl rfl rfl b12) ?_;refine S.stX (H.pick []) H 0 rfl (swr a b j l)[b+j]! b12 fun z H=> ?_;have b13:(b+j)<l.length:=Om;refine yx rfl (S.ixL (b+j) (S.l H 0) rfl rfl rfl rfl b13) ?_;refine S.stX (H.pick []) H 0 rfl (swr a b j l)[a+j]! b13 fun z H=> ?_;refine WX.nil (H.pick []) ?_;refine G2 ?_;refine sb [0,1,2,3,10] ?_;refine go ?_;exact Rs [(10,_)] Sx ⟨(j+1),rfl,rfl,(by rw[show swr a b (j+1) l=(((swr a b j l).set (a+j) (swr a b j l)[b+j]!).set (b+j) (swr a b j l)[a+j]!)from rfl];exact H),Om⟩
 ·refine go ?_;refine En ?_;have ej:j=k:=Om;subst ej;exact⟨rfl,H⟩
theorem insG_any(S:SG ce sz vl tt fi)(A:Option Addr)(n q:Nat)(l:List α)(a b:Nat)(f:FuncId)(cap:List Value)(c:α→α→Int)(W:World)(R:List Res)(w:World)(H:Hp W w (row tt.2.1 ce sz (.slice A n q) l::R))(ha:a≤b)(hb:b≤n)(h1:n≤1000000)(hF:Has Tryz.prog f)(hc:∀l1:List α,(∀x∈l1,x∈l)→∀w1,Hp W w1 (row tt.2.1 ce sz (.slice A n q) l1::R)→∀x∈l,∀y∈l,Calls Tryz.prog f ([]++[(vl x),(vl y)]++cap).toArray w1 fun e w2=>e= .returned (.int .i64 (c x y))∧Ext w1 w2):
  Calls Tryz.prog (fi 173) #[.slice A n q,.int .i64 (a:Int),.int .i64 (b:Int),.func (.func f) #[] cap.toArray] w fun e w'=>e= .returned (resVal [])∧Hp W w' (row tt.2.1 ce sz (.slice A n q) (insF c a b l)::R):=by
 have e_n:=(S.l H 0).len;have z_n:=(S.l H 0).nle;subst e_n;refine wG (args:=[.slice A l.length q,.int .i64 (a:Int),.int .i64 (b:Int),.func (.func f) #[] cap.toArray]) S.f173 (by simp only[Tryz.f173,sC,sR,sP,sK,sO,Option.map,List.map,sT_0,sT_3,sT_4,sT_45,sT_135,sT_220,sT_333];rfl) ?_;refine G5 ?_;refine sb [0,1,2,3,8] ?_;refine go ?_;refine sb [8,0,1,2,3] ?_;refine WC.loopS 1 (fun mz Ed W'=>∃k:Nat,mz=2*(b+1-k)∧Ed=[(8,.int .i64 ((a+1+k:Nat):Int))]∧Hp W W' (row tt.2.1 ce sz (.slice A l.length q) (insN c a k l)::R)∧(a+1+k≤b∨k=0)) _ ⟨0,rfl,rfl,H,(.inr rfl)⟩ ?_;rintro _ _ z ⟨k,rfl,rfl,H,hk⟩;refine go ?_;refine Cd (fun p6=> ?_) fun p6=> ?_
 ·refine G8 ?_;refine sb [0,1,2,3,8,9] ?_;refine go ?_;refine sb [9,0,1,2,3,8] ?_;refine WC.loopS 1 (fun mz Ed W'=>∃j:Nat,∃L:List α,mz=2*j∧Ed=[(9,.int .i64 ((j:Nat):Int))]∧Hp W W' (row tt.2.1 ce sz (.slice A l.length q) L::R)∧(j≤a+1+k)∧(insJ c a j L=insN c a (k+1) l)∧(L.length=l.length)∧(∀x∈L,x∈l)) _ ⟨(a+1+k),(insN c a k l),rfl,rfl,H,Nl,rfl,(insN_len c a k l),(insN_mem c a k l Om)⟩ ?_;rintro _ _ z ⟨j,L,rfl,rfl,H,hj,hd,hL,hm⟩;refine go ?_;refine Qr ?_;refine G4 ?_;refine WQ.split (t:=21) rfl (fun h11=> ?_) (fun h11=> ?_)
  ·have p11:=(dec_t h11);have b12:j<l.length:=Om;refine G3 ?_;refine WQ.yldW rfl (blt rfl) rfl rfl rfl (S.ixL j (S.l H 0) rfl rfl rfl rfl b12) ?_;refine WQ.yldW rfl (blt rfl) rfl rfl rfl (S.ld rfl rfl (lWx (S.l H 0)) b12) ?_;refine G2 ?_;refine WQ.yldW rfl (blt rfl) rfl rfl rfl (Y.sub rfl rfl rfl Wo) ?_;have b13:(j-1)<l.length:=Om;refine WQ.yldW rfl (blt rfl) rfl rfl rfl (S.ixL (j-1) (S.l H 0) rfl rfl rfl Om b13) ?_;refine WQ.yldW rfl (blt rfl) rfl rfl rfl (S.ld rfl rfl (lWx (S.l H 0)) b13) ?_;refine WQ.guarded rfl rfl rfl ?_;refine qcV (fst:=[]) rfl hF (fun w1 hw=>calls_ext hw (hc _ hm _ (H.ex hw) _ (hm _ (mem_b (show j<L.length from Om))) _ (hm _ (mem_b (show(j-1)<L.length from Om))))) ?_;refine G1 ?_;refine yq (Y.pickT rfl rfl rfl) ?_;refine Qd H fun z H=> ?_;refine G1 ?_;refine sb [0,1,2,3,8,9,34] ?_;refine Cd (fun p14=> ?_) fun p14=> ?_
   ·refine go ?_;refine Xr H (HpC W _) (.load 0 (.load 1 (.load 2 (.load 3 (.load 4 (.load 5 (.load 6 (.load 7 (.load 8 (.load 10 (.load 11 (.load 12 (.alt 9 (.alt 13 (.load 14 (.alt 15 (.load 16 (.alt 17 (.fin) (.none))) (.none))) (.none)) (.alt 13 (.alt 9 (.load 14 (.alt 15 (.load 16 (.alt 17 (.fin) (.none))) (.none))) (.none)) (.none))))))))))))))) (H.pick []) fun z H=> ?_;have b16:(j-1)<l.length:=Om;refine G8 ?_;refine yx rfl (S.ixL (j-1) (S.l H 0) rfl rfl rfl Om b16) ?_;have b17:j<l.length:=Om;refine G2 ?_;refine yx rfl (S.ixL j (S.l H 0) rfl rfl rfl rfl b17) ?_;refine WX.alt ?_ ?_
    ·refine WX.yldL rfl rfl (blt rfl) rfl (H.pick []) (S.ld rfl rfl (lWe (S.l H 0)) b16) ?_;refine WX.yldL rfl rfl (blt rfl) rfl (H.pick []) (S.ld rfl rfl (lWe (S.l H 0)) b17) ?_;have b18:j<l.length:=Om;refine yx rfl (S.ixL j (S.l H 0) rfl rfl rfl rfl b18) ?_;refine S.stX (H.pick []) H 0 rfl L[j-1]! b18 fun z H=> ?_;have b19:(j-1)<l.length:=Om;refine yx rfl (S.ixL (j-1) (S.l H 0) rfl rfl rfl Om b19) ?_;refine S.stX (H.pick []) H 0 rfl L[j]! b19 fun z H=> ?_;refine WX.nil (H.pick []) ?_;refine G2 ?_;refine sb [0,1,2,3,8,9] ?_;refine G2 ?_;refine yy (Yld.cast (Y.sub rfl rfl rfl Wo) (vi (show(j:Int)-1=((j-1:Nat):Int)from Om))) ?_;refine go ?_;exact Rs [(9,_)] Sx ⟨(j-1),(swp L j (j-1)),rfl,rfl,(by rw[show swp L j (j-1)=((L.set j L[j-1]!).set (j-1) L[j]!)from rfl];exact H),Om,((insJ_go c (dec_t h11) p14).symm.trans hd),(by rw[swp_len];exact hL),(fun x hx=>hm x (swp_mem Om Om x hx))⟩
    refine WX.yldL rfl rfl (blt rfl) rfl (H.pick []) (S.ld rfl rfl (lWe (S.l H 0)) b17) ?_;refine WX.yldL rfl rfl (blt rfl) rfl (H.pick []) (S.ld rfl rfl (lWe (S.l H 0)) b16) ?_;have b20:j<l.length:=Om;refine yx rfl (S.ixL j (S.l H 0) rfl rfl rfl rfl b20) ?_;refine S.stX (H.pick []) H 0 rfl L[j-1]! b20 fun z H=> ?_;have b21:(j-1)<l.length:=Om;refine yx rfl (S.ixL (j-1) (S.l H 0) rfl rfl rfl Om b21) ?_;refine S.stX (H.pick []) H 0 rfl L[j]! b21 fun z H=> ?_;refine WX.nil (H.pick []) ?_;refine G4 ?_;refine yy (Yld.cast (Y.sub rfl rfl rfl Wo) (vi (show(j:Int)-1=((j-1:Nat):Int)from Om))) ?_;refine go ?_;exact Rs [(9,_)] Sx ⟨(j-1),(swp L j (j-1)),rfl,rfl,(by rw[show swp L j (j-1)=((L.set j L[j-1]!).set (j-1) L[j]!)from rfl];exact H),Om,((insJ_go c (dec_t h11) p14).symm.trans hd),(by rw[swp_len];exact hL),(fun x hx=>hm x (swp_mem Om Om x hx))⟩
   ·refine G6 ?_;refine sb [0,1,2,3,8] ?_;refine go ?_;exact Rs [(8,_)] Sx ⟨(k+1),rfl,rfl,(by rw[show insN c a (k+1) l=L from hd.symm.trans (insJ_stop c (.inr p14))];exact H),(.inl Om)⟩
  ·have p11:=(dec_f h11);refine G12 ?_;refine yq (Y.pickF rfl rfl rfl) ?_;refine Qd H fun z H=> ?_;refine G1 ?_;refine sb [0,1,2,3,8,9,34] ?_;refine WC.condF rfl ?_;refine G6 ?_;refine sb [0,1,2,3,8] ?_;refine go ?_;exact Rs [(8,_)] Sx ⟨(k+1),rfl,rfl,(by rw[show insN c a (k+1) l=L from hd.symm.trans (insJ_stop c (.inl (dec_f h11)))];exact H),(.inl Om)⟩
 ·refine go ?_;refine En ?_;have ek:k=b-(a+1):=Om;subst ek;exact⟨rfl,H⟩
theorem rotG_any(S:SG ce sz vl tt fi)(A:Option Addr)(n q:Nat)(l:List α)(a m b:Nat)(f:FuncId)(cap:List Value)(c:α→α→Int)(W:World)(R:List Res)(w:World)(H:Hp W w (row tt.2.1 ce sz (.slice A n q) l::R))(ha:a<m)(hb:m<b)(hn:b≤n)(h1:n≤1000000):
  Calls Tryz.prog (fi 201) #[.slice A n q,.int .i64 (a:Int),.int .i64 (m:Int),.int .i64 (b:Int),.func (.func f) #[] cap.toArray] w fun e w'=>e= .returned (resVal [])∧Hp W w' (row tt.2.1 ce sz (.slice A n q) (rotF a m b l)::R):=by
 have e_n:=(S.l H 0).len;have z_n:=(S.l H 0).nle;subst e_n;refine wG (args:=[.slice A l.length q,.int .i64 (a:Int),.int .i64 (m:Int),.int .i64 (b:Int),.func (.func f) #[] cap.toArray]) S.f201 (by simp only[Tryz.f201,sC,sR,sP,sK,sO,Option.map,List.map,sT_0,sT_3,sT_4,sT_45,sT_135,sT_220,sT_333];rfl) ?_;refine G3 ?_;refine yy (Yld.cast (Y.sub rfl rfl rfl Wo) (vi (show(m:Int)-(a:Int)=((m-a:Nat):Int)from Om))) ?_;refine G2 ?_;refine sb [0,2,3,4,10] ?_;refine G3 ?_;refine yy (Yld.cast (Y.sub rfl rfl rfl Wo) (vi (show(b:Int)-(m:Int)=((b-m:Nat):Int)from Om))) ?_;refine go ?_;refine sb [10,11,0,2,4] ?_;refine WC.loopS 2 (fun mz Ed W'=>∃fu:Nat,∃i:Nat,∃j:Nat,∃L:List α,mz=2*fu∧Ed=[(10,.int .i64 ((i:Nat):Int)),(11,.int .i64 ((j:Nat):Int))]∧Hp W W' (row tt.2.1 ce sz (.slice A l.length q) L::R)∧(1≤i)∧(1≤j)∧(i≤m)∧(m+j≤l.length)∧(i+j≤fu)∧(rotL fu m i j L=rotF a m b l)∧(L.length=l.length)∧(∀x∈L,x∈l)) _ ⟨(b-a),(m-a),(b-m),l,rfl,rfl,H,Om,Om,Om,Om,Om,rfl,rfl,(fun x hx=>hx)⟩ ?_;rintro _ _ z ⟨fu,i,j,L,rfl,rfl,H,p1,p2,p3,p4,p5,hd,hL,hm⟩;refine go ?_;refine Cd (fun p8=> ?_) fun p8=> ?_
 ·refine G8 ?_;refine sb [0,2,4,10,11,23] ?_;refine Cd (fun p10=> ?_) fun p10=> ?_
  ·refine G4 ?_;refine yy (Yld.cast (Y.sub rfl rfl rfl Wo) (vi (show(m:Int)-(i:Int)=((m-i:Nat):Int)from Om))) ?_;refine go ?_;refine c3 S.f224.has (swrG_any S _ _ _ _ (m-i) (m) (j) f cap c _ _ _ (H.front [0]) Om Om Om) ?_;rintro _ z ⟨rfl,H⟩;refine⟨_,rfl,?_⟩;refine G1 ?_;refine sb [0,2,4,10,11] ?_;refine G3 ?_;refine yy (Yld.cast (Y.sub rfl rfl rfl Wo) (vi (show(i:Int)-(j:Int)=((i-j:Nat):Int)from Om))) ?_;refine go ?_;exact Rs [(10,_),(11,_)] Sx ⟨(fu-1),(i-j),j,(swr (m-i) m j L),rfl,rfl,H,Om,Om,Om,Om,Om,(hd.symm.trans (by rw[show fu=(fu-1)+1 from Om];exact ite_to p8 (ite_to p10 rfl))).symm,(by rw[swr_len];exact hL),(fun x hx=>hm x (swr_mem _ _ _ _ Om Om x hx))⟩
  ·refine G4 ?_;refine yy (Yld.cast (Y.sub rfl rfl rfl Wo) (vi (show(m:Int)-(i:Int)=((m-i:Nat):Int)from Om))) ?_;refine G4 ?_;refine yy (Yld.cast (Y.sub rfl rfl rfl Wo) (vi (show(m:Int)+(j:Int)-(i:Int)=((m+j-i:Nat):Int)from Om))) ?_;refine go ?_;refine c3 S.f224.has (swrG_any S _ _ _ _ (m-i) (m+j-i) (i) f cap c _ _ _ (H.front [0]) Om Om Om) ?_;rintro _ z ⟨rfl,H⟩;refine⟨_,rfl,?_⟩;refine G1 ?_;refine sb [0,2,4,10,11] ?_;refine G3 ?_;refine yy (Yld.cast (Y.sub rfl rfl rfl Wo) (vi (show(j:Int)-(i:Int)=((j-i:Nat):Int)from Om))) ?_;refine go ?_;exact Rs [(10,_),(11,_)] Sx ⟨(fu-1),i,(j-i),(swr (m-i) (m+j-i) i L),rfl,rfl,H,Om,Om,Om,Om,Om,(hd.symm.trans (by rw[show fu=(fu-1)+1 from Om];exact ite_to p8 (ite_no p10 rfl))).symm,(by rw[swr_len];exact hL),(fun x hx=>hm x (swr_mem _ _ _ _ Om Om x hx))⟩
 ·refine G5 ?_;refine sb [0,2,4,10] ?_;refine G4 ?_;refine yy (Yld.cast (Y.sub rfl rfl rfl Wo) (vi (show(m:Int)-(i:Int)=((m-i:Nat):Int)from Om))) ?_;refine go ?_;refine c3 S.f224.has (swrG_any S _ _ _ _ (m-i) (m) (i) f cap c _ _ _ (H.front [0]) Om Om Om) ?_;rintro _ z ⟨rfl,H⟩;refine⟨_,rfl,?_⟩;refine go ?_;refine En ?_;have e:rotF a m b l=swr (m-i) m i L:=hd.symm.trans (by rw[show fu=(fu-1)+1 from Om];exact ite_no (fun q=>q p8) rfl);exact⟨rfl,by rw[e];exact H⟩
theorem symG_step(S:SG ce sz vl tt fi)(A:Option Addr)(n q:Nat)(l:List α)(fu a m b:Nat)(f:FuncId)(cap:List Value)(c:α→α→Int)(W:World)(R:List Res)(w:World)(H:Hp W w (row tt.2.1 ce sz (.slice A n q) l::R))(ha:a<m)(hb:m<b)(hn:b≤n)(hf:b-a≤fu+1)(h1:n≤1000000)(IH:∀(l2:List α) (a2 m2 b2:Nat) (w2:World),(∀x∈l2,x∈l)→l2.length=l.length→Hp W w2 (row tt.2.1 ce sz (.slice A n q) l2::R)→a2<m2→m2<b2→b2≤l.length→b2-a2≤fu→Calls Tryz.prog (fi 174) #[.slice A n q,.int .i64 (a2:Int),.int .i64 (m2:Int),.int .i64 (b2:Int),.func (.func f) #[] cap.toArray] w2 fun e w3=>e= .returned (resVal [])∧Hp W w3 (row tt.2.1 ce sz (.slice A n q) (symF c fu a2 m2 b2 l2)::R))(hF:Has Tryz.prog f)(hc:∀l1:List α,(∀x∈l1,x∈l)→∀w1,Hp W w1 (row tt.2.1 ce sz (.slice A n q) l1::R)→∀x∈l,∀y∈l,Calls Tryz.prog f ([]++[(vl x),(vl y)]++cap).toArray w1 fun e w2=>e= .returned (.int .i64 (c x y))∧Ext w1 w2):
  Calls Tryz.prog (fi 174) #[.slice A n q,.int .i64 (a:Int),.int .i64 (m:Int),.int .i64 (b:Int),.func (.func f) #[] cap.toArray] w fun e w'=>e= .returned (resVal [])∧Hp W w' (row tt.2.1 ce sz (.slice A n q) (symF c (fu+1) a m b l)::R):=by
 have e_n:=(S.l H 0).len;have z_n:=(S.l H 0).nle;subst e_n;have hm:∀x∈l,x∈l:=fun x hx=>hx;refine wG (args:=[.slice A l.length q,.int .i64 (a:Int),.int .i64 (m:Int),.int .i64 (b:Int),.func (.func f) #[] cap.toArray]) S.f174 (by simp only[Tryz.f174,sC,sR,sP,sK,sO,Option.map,List.map,sT_0,sT_3,sT_4,sT_45,sT_135,sT_220,sT_333];rfl) ?_;refine G7 ?_;refine sb [0,1,2,3,4,28] ?_;refine Cd (fun p5=> ?_) fun p5=> ?_
 ·refine go ?_;refine sb [10,11,0,1,4] ?_;refine WC.loopS 2 (fun mz Ed W'=>∃fk:Nat,∃i:Nat,∃j:Nat,mz=2*fk∧Ed=[(10,.int .i64 ((i:Nat):Int)),(11,.int .i64 ((j:Nat):Int))]∧Hp W W' (_::R)∧(i≤j)∧(m≤i)∧(j≤b)∧(j-i≤fk)∧(bsF (fun h=>c l[h]! l[a]! <0) fk i j=bsF (fun h=>c l[h]! l[a]! <0) (b-m) m b)) _ ⟨(b-m),m,b,rfl,rfl,H,Om,Om,Om,Om,rfl⟩ ?_;rintro _ _ z ⟨fk,i,j,rfl,rfl,H,q1,q2,q3,q4,hd⟩;refine go ?_;refine Cd (fun p11=> ?_) fun p11=> ?_
  ·refine G2 ?_;refine sb [0,1,4,10,11] ?_;refine G6 ?_;refine yy (Y.shr rfl rfl rfl Om (shr1 (i) (j))) ?_;refine go ?_;refine Qr ?_;have b14:((i+j)/2)<l.length:=Om;refine G3 ?_;refine yq (S.ixL ((i+j)/2) (S.l H 0) rfl rfl rfl Om b14) ?_;refine yq (S.ld rfl rfl (lWx (S.l H 0)) b14) ?_;have b15:a<l.length:=Om;refine G2 ?_;refine yq (S.ixL a (S.l H 0) rfl rfl rfl rfl b15) ?_;refine yq (S.ld rfl rfl (lWx (S.l H 0)) b15) ?_;refine qcV (fst:=[]) rfl hF (fun w1 hw=>calls_ext hw (hc _ hm _ (H.ex hw) _ (hm _ (mem_b (show((i+j)/2)<l.length from Om))) _ (hm _ (mem_b (show a<l.length from Om))))) ?_;refine go ?_;refine Qd H fun z H=> ?_;refine G1 ?_;refine sb [0,1,4,10,11,12,50] ?_;refine Cd (fun p16=> ?_) fun p16=> ?_
   ·refine go ?_;exact Rs [(10,_),(11,_)] Sx ⟨(fk-1),((i+j)/2+1),j,rfl,rfl,H,Om,Om,Om,Om,(hd.symm.trans (by rw[show fk=(fk-1)+1 from Om];exact ite_to p11 (ite_to p16 rfl))).symm⟩
   ·refine go ?_;exact Rs [(10,_),(11,_)] Sx ⟨(fk-1),i,((i+j)/2),rfl,rfl,H,Om,Om,Om,Om,(hd.symm.trans (by rw[show fk=(fk-1)+1 from Om];exact ite_to p11 (ite_no p16 rfl))).symm⟩
  ·have eb:=hd.symm.trans (bsF_end (show¬(i:Int)<(j:Int) by omega));refine G10 ?_;refine sb [0,10,13] ?_;refine go ?_;refine sb [13,0,10] ?_;refine WC.loopS 1 (fun mz Ed W'=>∃kk:Nat,mz=2*(i-kk)∧Ed=[(13,.int .i64 ((a+kk:Nat):Int))]∧Hp W W' (row tt.2.1 ce sz (.slice A l.length q) (mvU a kk l)::R)∧(kk≤i-1-a)) _ ⟨0,rfl,rfl,H,(Nat.zero_le _)⟩ ?_;rintro _ _ z ⟨kk,rfl,rfl,H,kl⟩;have wl:=mvU_len a kk l;refine go ?_;refine Cd (fun p21=> ?_) fun p21=> ?_
   ·refine G2 ?_;refine sb [0,10,13] ?_;refine go ?_;refine Xr H (HpC W _) (.load 0 (.load 1 (.load 2 (.load 3 (.load 4 (.load 5 (.load 6 (.load 7 (.load 8 (.load 10 (.load 11 (.load 12 (.alt 9 (.alt 13 (.load 14 (.alt 15 (.load 16 (.alt 17 (.fin) (.none))) (.none))) (.none)) (.alt 13 (.alt 9 (.load 14 (.alt 15 (.load 16 (.alt 17 (.fin) (.none))) (.none))) (.none)) (.none))))))))))))))) (H.pick []) fun z H=> ?_;have b23:((a+kk)+1)<l.length:=Om;refine G8 ?_;refine yx rfl (S.ixL ((a+kk)+1) (S.l H 0) rfl rfl rfl rfl b23) ?_;have b24:(a+kk)<l.length:=Om;refine G2 ?_;refine yx rfl (S.ixL (a+kk) (S.l H 0) rfl rfl rfl rfl b24) ?_;refine WX.alt ?_ ?_
    ·refine WX.yldL rfl rfl (blt rfl) rfl (H.pick []) (S.ld rfl rfl (lWe (S.l H 0)) b23) ?_;refine WX.yldL rfl rfl (blt rfl) rfl (H.pick []) (S.ld rfl rfl (lWe (S.l H 0)) b24) ?_;have b25:(a+kk)<l.length:=Om;refine yx rfl (S.ixL (a+kk) (S.l H 0) rfl rfl rfl rfl b25) ?_;refine S.stX (H.pick []) H 0 rfl (mvU a kk l)[a+kk+1]! b25 fun z H=> ?_;have b26:((a+kk)+1)<l.length:=Om;refine yx rfl (S.ixL ((a+kk)+1) (S.l H 0) rfl rfl rfl rfl b26) ?_;refine S.stX (H.pick []) H 0 rfl (mvU a kk l)[a+kk]! b26 fun z H=> ?_;refine WX.nil (H.pick []) ?_;refine G2 ?_;refine sb [0,10,13] ?_;refine go ?_;exact Rs [(13,_)] Sx ⟨(kk+1),rfl,rfl,(by rw[show mvU a (kk+1) l=(((mvU a kk l).set (a+kk) (mvU a kk l)[a+kk+1]!).set ((a+kk)+1) (mvU a kk l)[a+kk]!)from rfl];exact H),Om⟩
    refine WX.yldL rfl rfl (blt rfl) rfl (H.pick []) (S.ld rfl rfl (lWe (S.l H 0)) b24) ?_;refine WX.yldL rfl rfl (blt rfl) rfl (H.pick []) (S.ld rfl rfl (lWe (S.l H 0)) b23) ?_;have b27:(a+kk)<l.length:=Om;refine yx rfl (S.ixL (a+kk) (S.l H 0) rfl rfl rfl rfl b27) ?_;refine S.stX (H.pick []) H 0 rfl (mvU a kk l)[a+kk+1]! b27 fun z H=> ?_;have b28:((a+kk)+1)<l.length:=Om;refine yx rfl (S.ixL ((a+kk)+1) (S.l H 0) rfl rfl rfl rfl b28) ?_;refine S.stX (H.pick []) H 0 rfl (mvU a kk l)[a+kk]! b28 fun z H=> ?_;refine WX.nil (H.pick []) ?_;refine G2 ?_;refine sb [0,10,13] ?_;refine go ?_;exact Rs [(13,_)] Sx ⟨(kk+1),rfl,rfl,(by rw[show mvU a (kk+1) l=(((mvU a kk l).set (a+kk) (mvU a kk l)[a+kk+1]!).set ((a+kk)+1) (mvU a kk l)[a+kk]!)from rfl];exact H),Om⟩
   ·refine go ?_;refine Rt [] ?_;have ek:kk=i-1-a:=Om;exact⟨rfl,by rw[show symF c (fu+1) a m b l=mvU a kk l from ite_to p5 (by rw[eb,ek])];exact H⟩
 ·refine G9 ?_;refine sb [0,1,2,3,4,80] ?_;refine Cd (fun p31=> ?_) fun p31=> ?_
  ·refine go ?_;refine sb [14,15,0,2,4] ?_;refine WC.loopS 2 (fun mz Ed W'=>∃fk:Nat,∃i:Nat,∃j:Nat,mz=2*fk∧Ed=[(14,.int .i64 ((i:Nat):Int)),(15,.int .i64 ((j:Nat):Int))]∧Hp W W' (_::R)∧(i≤j)∧(a≤i)∧(j≤m)∧(j-i≤fk)∧(bsF (fun h=>¬c l[m]! l[h]! <0) fk i j=bsF (fun h=>¬c l[m]! l[h]! <0) (m-a) a m)) _ ⟨(m-a),a,m,rfl,rfl,H,Om,Om,Om,Om,rfl⟩ ?_;rintro _ _ z ⟨fk,i,j,rfl,rfl,H,q1,q2,q3,q4,hd⟩;refine go ?_;refine Cd (fun p37=> ?_) fun p37=> ?_
   ·refine G2 ?_;refine sb [0,2,4,14,15] ?_;refine G6 ?_;refine yy (Y.shr rfl rfl rfl Om (shr1 (i) (j))) ?_;refine go ?_;refine Qr ?_;have b40:m<l.length:=Om;refine G3 ?_;refine yq (S.ixL m (S.l H 0) rfl rfl rfl rfl b40) ?_;refine yq (S.ld rfl rfl (lWx (S.l H 0)) b40) ?_;have b41:((i+j)/2)<l.length:=Om;refine G2 ?_;refine yq (S.ixL ((i+j)/2) (S.l H 0) rfl rfl rfl Om b41) ?_;refine yq (S.ld rfl rfl (lWx (S.l H 0)) b41) ?_;refine qcV (fst:=[]) rfl hF (fun w1 hw=>calls_ext hw (hc _ hm _ (H.ex hw) _ (hm _ (mem_b (show m<l.length from Om))) _ (hm _ (mem_b (show((i+j)/2)<l.length from Om))))) ?_;refine go ?_;refine Qd H fun z H=> ?_;refine G1 ?_;refine sb [0,2,4,14,15,16,103] ?_;refine Cd (fun p42=> ?_) fun p42=> ?_
    ·refine go ?_;exact Rs [(14,_),(15,_)] Sx ⟨(fk-1),((i+j)/2+1),j,rfl,rfl,H,Om,Om,Om,Om,(hd.symm.trans (by rw[show fk=(fk-1)+1 from Om];exact ite_to p37 (ite_to p42 rfl))).symm⟩
    ·refine go ?_;exact Rs [(14,_),(15,_)] Sx ⟨(fk-1),i,((i+j)/2),rfl,rfl,H,Om,Om,Om,Om,(hd.symm.trans (by rw[show fk=(fk-1)+1 from Om];exact ite_to p37 (ite_no (fun q=>q p42) rfl))).symm⟩
   ·have eb:=hd.symm.trans (bsF_end (show¬(i:Int)<(j:Int) by omega));refine G10 ?_;refine sb [0,14,17] ?_;refine go ?_;refine sb [17,0,14] ?_;refine WC.loopS 1 (fun mz Ed W'=>∃kk:Nat,mz=2*(m-kk)∧Ed=[(17,.int .i64 ((m-kk:Nat):Int))]∧Hp W W' (row tt.2.1 ce sz (.slice A l.length q) (mvD m kk l)::R)∧(kk≤m-i)) _ ⟨0,rfl,rfl,H,(Nat.zero_le _)⟩ ?_;rintro _ _ z ⟨kk,rfl,rfl,H,kl⟩;have wl:=mvD_len m kk l;refine go ?_;refine Cd (fun p47=> ?_) fun p47=> ?_
    ·refine go ?_;refine Xr H (HpC W _) (.load 0 (.load 1 (.load 2 (.load 3 (.load 4 (.load 5 (.load 6 (.load 7 (.load 8 (.load 10 (.load 11 (.load 12 (.alt 9 (.alt 13 (.load 14 (.alt 15 (.load 16 (.alt 17 (.fin) (.none))) (.none))) (.none)) (.alt 13 (.alt 9 (.load 14 (.alt 15 (.load 16 (.alt 17 (.fin) (.none))) (.none))) (.none)) (.none))))))))))))))) (H.pick []) fun z H=> ?_;have b49:((m-kk)-1)<l.length:=Om;refine G8 ?_;refine yx rfl (S.ixL ((m-kk)-1) (S.l H 0) rfl rfl rfl Om b49) ?_;have b50:(m-kk)<l.length:=Om;refine G2 ?_;refine yx rfl (S.ixL (m-kk) (S.l H 0) rfl rfl rfl Om b50) ?_;refine WX.alt ?_ ?_
     ·refine WX.yldL rfl rfl (blt rfl) rfl (H.pick []) (S.ld rfl rfl (lWe (S.l H 0)) b49) ?_;refine WX.yldL rfl rfl (blt rfl) rfl (H.pick []) (S.ld rfl rfl (lWe (S.l H 0)) b50) ?_;have b51:(m-kk)<l.length:=Om;refine yx rfl (S.ixL (m-kk) (S.l H 0) rfl rfl rfl Om b51) ?_;refine S.stX (H.pick []) H 0 rfl (mvD m kk l)[m-kk-1]! b51 fun z H=> ?_;have b52:((m-kk)-1)<l.length:=Om;refine yx rfl (S.ixL ((m-kk)-1) (S.l H 0) rfl rfl rfl Om b52) ?_;refine S.stX (H.pick []) H 0 rfl (mvD m kk l)[m-kk]! b52 fun z H=> ?_;refine WX.nil (H.pick []) ?_;refine G2 ?_;refine sb [0,14,17] ?_;refine G2 ?_;refine yy (Yld.cast (Y.sub rfl rfl rfl Wo) (vi (show((m-kk:Nat):Int)-1=((m-(kk+1):Nat):Int)from Om))) ?_;refine go ?_;exact Rs [(17,_)] Sx ⟨(kk+1),rfl,rfl,(by rw[show mvD m (kk+1) l=(((mvD m kk l).set (m-kk) (mvD m kk l)[m-kk-1]!).set ((m-kk)-1) (mvD m kk l)[m-kk]!)from rfl];exact H),Om⟩
     refine WX.yldL rfl rfl (blt rfl) rfl (H.pick []) (S.ld rfl rfl (lWe (S.l H 0)) b50) ?_;refine WX.yldL rfl rfl (blt rfl) rfl (H.pick []) (S.ld rfl rfl (lWe (S.l H 0)) b49) ?_;have b53:(m-kk)<l.length:=Om;refine yx rfl (S.ixL (m-kk) (S.l H 0) rfl rfl rfl Om b53) ?_;refine S.stX (H.pick []) H 0 rfl (mvD m kk l)[m-kk-1]! b53 fun z H=> ?_;have b54:((m-kk)-1)<l.length:=Om;refine yx rfl (S.ixL ((m-kk)-1) (S.l H 0) rfl rfl rfl Om b54) ?_;refine S.stX (H.pick []) H 0 rfl (mvD m kk l)[m-kk]! b54 fun z H=> ?_;refine WX.nil (H.pick []) ?_;refine G4 ?_;refine yy (Yld.cast (Y.sub rfl rfl rfl Wo) (vi (show((m-kk:Nat):Int)-1=((m-(kk+1):Nat):Int)from Om))) ?_;refine go ?_;exact Rs [(17,_)] Sx ⟨(kk+1),rfl,rfl,(by rw[show mvD m (kk+1) l=(((mvD m kk l).set (m-kk) (mvD m kk l)[m-kk-1]!).set ((m-kk)-1) (mvD m kk l)[m-kk]!)from rfl];exact H),Om⟩
    ·refine go ?_;refine Rt [] ?_;have ek:kk=m-i:=Om;exact⟨rfl,by rw[show symF c (fu+1) a m b l=mvD m kk l from ite_no p5 (ite_to p31 (by rw[eb,ek]))];exact H⟩
  ·refine G2 ?_;refine sb [0,1,2,3,4] ?_;refine G5 ?_;refine yy (Y.shr rfl rfl rfl Om (shr1 (a) (b))) ?_;refine G13 ?_;refine sb [0,1,2,3,4,18,19] ?_
   (refine sb [0,1,2,3,4,18,19] ?_)
   refine jI (fun Ed W'=>∃lo hi:Nat,Ed=[(20,.int .i64 ((lo:Nat):Int)),(21,.int .i64 ((hi:Nat):Int))]∧Hp W W' (row tt.2.1 ce sz (.slice A l.length q) l::R)∧(a≤lo∧(a+b)/2+m≤lo+b∧lo≤hi∧hi≤m∧hi≤(a+b)/2)∧symStart c a m b l=bsF (fun h=>¬c l[(a+b)/2+m-1-h]! l[h]! <0) (hi-lo) lo hi) ?_ ?_
   ·refine go ?_;refine Cd (fun p60=> ?_) fun p60=> ?_
    ·refine G3 ?_;refine yy (Yld.cast (Y.sub rfl rfl rfl Wo) (vi (show((((a+b)/2:Nat):Int)+(m:Int))-(b:Int)=(((a+b)/2+m-b:Nat):Int)from Om))) ?_;refine go ?_;exact kI [(20,_),(21,_)] Sx ⟨_,_,rfl,H,Om,by unfold symStart;dsimp only;simp only[if_pos p60]⟩
    ·refine go ?_;exact kI [(20,_),(21,_)] Sx ⟨_,_,rfl,H,Om,by unfold symStart;dsimp only;simp only[if_neg p60]⟩
   rintro _ z ⟨lo,hi,rfl,H,⟨b1,b2,b3,b4,b5⟩,es⟩;refine go ?_
   (refine sb [20,21,0,1,2,3,4,18,19,22] ?_)
   refine WC.loopS 2 (fun mz Ed W'=>∃fk:Nat,∃i:Nat,∃j:Nat,mz=2*fk∧Ed=[(20,.int .i64 ((i:Nat):Int)),(21,.int .i64 ((j:Nat):Int))]∧Hp W W' (_::R)∧(i≤j)∧(lo≤i)∧(j≤hi)∧(j-i≤fk)∧(bsF (fun h=>¬c l[(a+b)/2+m-1-h]! l[h]! <0) fk i j=bsF (fun h=>¬c l[(a+b)/2+m-1-h]! l[h]! <0) (hi-lo) lo hi)) _ ⟨(hi-lo),lo,hi,rfl,rfl,H,b3,Nl,Nl,Nl,rfl⟩ ?_;rintro _ _ z ⟨fk,i,j,rfl,rfl,H,q1,q2,q3,q4,hd⟩;refine go ?_;refine Cd (fun p66=> ?_) fun p66=> ?_
   ·refine G8 ?_;refine yy (Y.shr rfl rfl rfl Om (shr1 (i) (j))) ?_;refine go ?_;refine Qr ?_;have b69:(((((a+b)/2)+m)-1)-((i+j)/2))<l.length:=Om;refine G5 ?_;refine yq (S.ixL (((((a+b)/2)+m)-1)-((i+j)/2)) (S.l H 0) rfl rfl rfl Om b69) ?_;refine yq (S.ld rfl rfl (lWx (S.l H 0)) b69) ?_;have b70:((i+j)/2)<l.length:=Om;refine G2 ?_;refine yq (S.ixL ((i+j)/2) (S.l H 0) rfl rfl rfl Om b70) ?_;refine yq (S.ld rfl rfl (lWx (S.l H 0)) b70) ?_;refine qcV (fst:=[]) rfl hF (fun w1 hw=>calls_ext hw (hc _ hm _ (H.ex hw) _ (hm _ (mem_b b69)) _ (hm _ (mem_b b70)))) ?_;refine go ?_;refine Qd H fun z H=> ?_;refine go ?_;refine Cd (fun p71=> ?_) fun p71=> ?_
    ·refine go ?_;exact Rs [(20,_),(21,_)] Sx ⟨(fk-1),((i+j)/2+1),j,rfl,rfl,H,Om,Om,Om,Om,(hd.symm.trans (by rw[show fk=(fk-1)+1 from Om];exact ite_to p66 (ite_to p71 rfl))).symm⟩
    ·refine go ?_;exact Rs [(20,_),(21,_)] Sx ⟨(fk-1),i,((i+j)/2),rfl,rfl,H,Om,Om,Om,Om,(hd.symm.trans (by rw[show fk=(fk-1)+1 from Om];exact ite_to p66 (ite_no (fun q=>q p71) rfl))).symm⟩
   ·have ei:=es.trans (hd.symm.trans (bsF_end (show¬(i:Int)<(j:Int) by omega)));refine G5 ?_
    (refine sb [0,1,2,3,4,18,19,20] ?_)
    refine G3 ?_;refine yy (Yld.cast (Y.sub rfl rfl rfl Wo) (vi (show((((a+b)/2:Nat):Int)+(m:Int))-(i:Int)=(((a+b)/2+m-i:Nat):Int)from Om))) ?_;refine G2 ?_
    (refine sb [0,1,2,3,4,18,20,24] ?_)
    refine jI (fun Ed W'=>Ed=[]∧Hp W W' (row tt.2.1 ce sz (.slice A l.length q) (if(i:Int)<(m:Int)∧(m:Int)<(((a+b)/2+m-i:Nat):Int)then rotF i m ((a+b)/2+m-i) l else l)::R)) ?_ ?_
    ·refine go ?_;refine Cd (fun p75=> ?_) fun p75=> ?_
     ·refine go ?_;refine c3 S.f201.has (rotG_any S _ _ _ _ (i) (m) ((a+b)/2+m-i) f cap c _ _ _ (H.front [0]) Om Om Om Om) ?_;rintro _ z ⟨rfl,H⟩;refine⟨_,rfl,?_⟩;refine go ?_;exact kI [] Sx ⟨rfl,by rw[if_pos p75];exact H⟩
     ·refine go ?_;exact kI [] Sx ⟨rfl,by rw[if_neg Om];exact H⟩
    rintro _ z ⟨rfl,H⟩;obtain⟨L1,e1⟩:∃L1,(if(i:Int)<(m:Int)∧(m:Int)<(((a+b)/2+m-i:Nat):Int)then rotF i m ((a+b)/2+m-i) l else l)=L1:=⟨_,rfl⟩;rw[e1]at H;have m1:∀x∈L1,x∈l:=by
     rw[←e1];intro x hx;split at hx
     ·exact rotF_mem Om Om x hx
     ·exact hx
    have n1:L1.length=l.length:=by rw[←e1];split<;>simp only[rotF_len]
    refine jI (fun Ed W'=>Ed=[]∧Hp W W' (row tt.2.1 ce sz (.slice A l.length q) (if(a:Int)<(i:Int)∧(i:Int)<(((a+b)/2:Nat):Int)then symF c fu a i ((a+b)/2) L1 else L1)::R)) ?_ ?_
    ·refine go ?_;refine Cd (fun p78=> ?_) fun p78=> ?_
     ·refine go ?_;refine c3 S.f174.has (IH L1 (a) (i) (((a+b)/2)) _ m1 n1 (H.front [0]) Om Om Om Om) ?_;rintro _ z ⟨rfl,H⟩;refine⟨_,rfl,?_⟩;refine go ?_;exact kI [] Sx ⟨rfl,by rw[if_pos p78];exact H⟩
     ·refine go ?_;exact kI [] Sx ⟨rfl,by rw[if_neg Om];exact H⟩
    rintro _ z ⟨rfl,H⟩;obtain⟨L2,e2⟩:∃L2,(if(a:Int)<(i:Int)∧(i:Int)<(((a+b)/2:Nat):Int)then symF c fu a i ((a+b)/2) L1 else L1)=L2:=⟨_,rfl⟩;rw[e2]at H;have m2:∀x∈L2,x∈l:=by
     rw[←e2];intro x hx;split at hx
     ·exact m1 x (symF_mem c fu _ _ _ L1 Om Om Om x hx)
     ·exact m1 x hx
    have n2:L2.length=l.length:=by rw[←e2];split<;>simp only[symF_len,n1]
    have ef:symF c (fu+1) a m b l=if(((a+b)/2:Nat):Int)<(((a+b)/2+m-i:Nat):Int)∧(((a+b)/2+m-i:Nat):Int)<(b:Int)then symF c fu ((a+b)/2) ((a+b)/2+m-i) b L2 else L2:=by
     rw[show symF c (fu+1) a m b l=sym3 (symF c fu) a m b i l from ite_no p5 (ite_no p31 (by rw[ei]))];unfold sym3;dsimp only;rw[e1,e2]
    refine go ?_;refine Cd (fun p80=> ?_) fun p80=> ?_
    ·refine go ?_;refine c3 S.f174.has (IH L2 (((a+b)/2)) ((a+b)/2+m-i) (b) _ m2 n2 (H.front [0]) Om Om Om Om) ?_;rintro _ z ⟨rfl,H⟩;refine⟨_,rfl,?_⟩;refine go ?_;refine En ?_;exact⟨rfl,by rw[ef,if_pos p80];exact H⟩
    ·refine go ?_;refine En ?_;exact⟨rfl,by rw[ef,if_neg Om];exact H⟩
theorem symG_any(S:SG ce sz vl tt fi)(A:Option Addr)(n q:Nat)(l:List α)(fu a m b:Nat)(f:FuncId)(cap:List Value)(c:α→α→Int)(W:World)(R:List Res)(w:World)(H:Hp W w (row tt.2.1 ce sz (.slice A n q) l::R))(ha:a<m)(hb:m<b)(hn:b≤n)(hf:b-a≤fu)(h1:n≤1000000)(hF:Has Tryz.prog f)(hc:∀l1:List α,(∀x∈l1,x∈l)→∀w1,Hp W w1 (row tt.2.1 ce sz (.slice A n q) l1::R)→∀x∈l,∀y∈l,Calls Tryz.prog f ([]++[(vl x),(vl y)]++cap).toArray w1 fun e w2=>e= .returned (.int .i64 (c x y))∧Ext w1 w2):
  Calls Tryz.prog (fi 174) #[.slice A n q,.int .i64 (a:Int),.int .i64 (m:Int),.int .i64 (b:Int),.func (.func f) #[] cap.toArray] w fun e w3=>e= .returned (resVal [])∧Hp W w3 (row tt.2.1 ce sz (.slice A n q) (symF c fu a m b l)::R):=by
 induction fu generalizing l a m b w with
 |zero=>omega
 |succ fu ih=>
  have e:=(S.l H 0).len;exact symG_step S A n q l fu a m b f cap c W R w H ha hb hn hf h1 (fun l2 a2 m2 b2 w2 hm hl H2 x1 x2 x3 x4=>ih l2 a2 m2 b2 w2 H2 x1 x2 Om x4 (fun l1 h1 w1 H1 x hx y hy=>hc l1 (fun z hz=>hm z (h1 z hz)) w1 H1 x (hm x hx) y (hm y hy))) hF hc
theorem staG_any(S:SG ce sz vl tt fi)(A:Option Addr)(n q:Nat)(l:List α)(f:FuncId)(cap:List Value)(c:α→α→Int)(W:World)(R:List Res)(w:World)(H:Hp W w (row tt.2.1 ce sz (.slice A n q) l::R))(h1:n≤39)(hF:Has Tryz.prog f)(hc:∀l1:List α,(∀x∈l1,x∈l)→∀w1,Hp W w1 (row tt.2.1 ce sz (.slice A n q) l1::R)→∀x∈l,∀y∈l,Calls Tryz.prog f ([]++[(vl x),(vl y)]++cap).toArray w1 fun e w2=>e= .returned (.int .i64 (c x y))∧Ext w1 w2):
  Calls Tryz.prog (fi 139) #[.slice A n q,.int .i64 (l.length:Int),.func (.func f) #[] cap.toArray] w fun e w'=>e= .returned (resVal [])∧Hp W w' (row tt.2.1 ce sz (.slice A n q) (stabF c l)::R):=by
 have e_n:=(S.l H 0).len;have z_n:=(S.l H 0).nle;subst e_n;refine wG (args:=[.slice A l.length q,.int .i64 (l.length:Int),.func (.func f) #[] cap.toArray]) S.f139 (by simp only[Tryz.f139,sC,sR,sP,sK,sO,Option.map,List.map,sT_0,sT_3,sT_4,sT_45,sT_135,sT_220,sT_333];rfl) ?_;refine go ?_;refine sb [7,8,0,1,2,6] ?_;refine WC.loopS 2 (fun mz Ed W'=>∃ph:Nat,mz=2*(l.length-20*ph)∧Ed=[(7,.int .i64 ((20*ph:Nat):Int)),(8,.int .i64 ((20*(ph+1):Nat):Int))]∧Hp W W' (row tt.2.1 ce sz (.slice A l.length q) (st1 c l ph)::R)∧(20*ph≤l.length)) _ ⟨0,rfl,rfl,H,Om⟩ ?_;rintro _ _ z ⟨ph,rfl,rfl,H,hp⟩;have wl:=st1_len c l ph;have wm:=st1_mem c l ph hp;refine go ?_;refine Cd (fun p8=> ?_) fun p8=> ?_
 ·refine G2 ?_;refine sb [0,1,2,6,7,8] ?_;refine go ?_;refine c3 S.f173.has (insG_any S _ _ _ _ ((20*ph)) ((20*(ph+1))) f cap c _ _ _ (H.front [0]) Om Om Om hF (fun l1 h1 w1 H1 x hx y hy=>hc l1 (fun z hz=>wm z (h1 z hz)) w1 H1 x (wm x hx) y (wm y hy))) ?_;rintro _ z ⟨rfl,H⟩;refine⟨_,rfl,?_⟩;refine G5 ?_;refine sb [0,1,2,6,7,8] ?_;refine go ?_;exact Rs [(7,_),(8,_)] Sx ⟨(ph+1),rfl,rfl,H,Om⟩
 ·refine G5 ?_;refine sb [0,1,2,6,7] ?_;refine go ?_;refine c3 S.f173.has (insG_any S _ _ _ _ ((20*ph)) (l.length) f cap c _ _ _ (H.front [0]) Om Om Om hF (fun l1 h1 w1 H1 x hx y hy=>hc l1 (fun z hz=>wm z (h1 z hz)) w1 H1 x (wm x hx) y (wm y hy))) ?_;rintro _ z ⟨rfl,H⟩;refine⟨_,rfl,?_⟩;refine go ?_;refine sb [6,0,1,2] ?_;refine WC.loopS 1 (fun mz Ed W'=>∃t:Nat,mz=2*(2-t)∧Ed=[(6,.int .i64 ((20+20*t:Nat):Int))]∧Hp W W' (row tt.2.1 ce sz (.slice A l.length q) (if t=0 then insF c (20*ph) l.length (st1 c l ph)else symF c l.length 0 20 l.length (insF c (20*ph) l.length (st1 c l ph)))::R)∧(t≤1)∧(t=1→20<l.length)) _ ⟨0,rfl,rfl,(by rw[if_pos rfl];exact H),Om,Om⟩ ?_;rintro _ _ z ⟨t,rfl,rfl,H,tt,t0⟩;refine go ?_;refine Cd (fun p14=> ?_) fun p14=> ?_
  ·obtain rfl:t=0:=Om;rw[if_pos rfl]at H;refine G2 ?_;refine sb [0,1,2,6] ?_;refine G3 ?_;refine yy (Yld.cast (Y.mul rfl rfl rfl Wo) (vi (show 2*((20+20*0:Nat):Int)=((40:Nat):Int)from Om))) ?_;refine go ?_;refine sb [0,1,2,6,7,8] ?_;refine WC.loopS 0 (fun mz Ed W'=>mz=0∧Ed=[]∧Hp W W' (_::R)) _ ⟨rfl,rfl,H⟩ ?_;rintro _ _ z ⟨rfl,rfl,H⟩;refine go ?_;refine WC.cond rfl (fun h19=> ?_) (fun h19=> ?_)
   ·exfalso;have q:=dec_t h19;omega
   ·have p19:=(dec_f h19);refine G5 ?_;refine sb [0,1,2,6,7] ?_;refine G4 ?_;refine yy (Yld.cast (Y.add rfl rfl rfl Wo) (vi (show(0:Int)+((20+20*0:Nat):Int)=((20:Nat):Int)from rfl))) ?_;refine G7 ?_;refine sb [0,1,2,6,7,9,54] ?_;refine WC.cond rfl (fun h23=> ?_) (fun h23=> ?_)
    ·have p23:=(dec_t h23);refine go ?_;refine c3 S.f174.has (symG_any S _ _ _ _ l.length (0) (20) (l.length) f cap c _ _ _ (H.front [0]) Om Om Om Om Om hF (fun l1 h1 w1 H1 x hx y hy=>hc l1 (fun z hz=>wm z (insF_mem c Om z (h1 z hz))) w1 H1 x (wm x (insF_mem c Om x hx)) y (wm y (insF_mem c Om y hy)))) ?_;rintro _ z ⟨rfl,H⟩;refine⟨_,rfl,?_⟩;refine G1 ?_;refine sb [0,1,2,6] ?_;refine go ?_;exact Rs [(6,_)] Sx ⟨1,rfl,rfl,(by rw[if_neg Dc];exact H),Nl,(fun _=>by omega)⟩
    ·exfalso;have q:=dec_f h23;omega
  ·refine go ?_;refine En ?_;exact⟨rfl,by rw[←stabF_eq c hp Om h1 tt Om t0];exact H⟩
theorem sstG_any(S:SG ce sz vl tt fi)(A:Option Addr)(n q:Nat)(l:List α)(f:FuncId)(cap:List Value)(c:α→α→Int)(W:World)(R:List Res)(w:World)(H:Hp W w (row tt.2.1 ce sz (.slice A n q) l::R))(h1:n≤39)(hF:Has Tryz.prog f)(hc:∀l1:List α,(∀x∈l1,x∈l)→∀w1,Hp W w1 (row tt.2.1 ce sz (.slice A n q) l1::R)→∀x∈l,∀y∈l,Calls Tryz.prog f ([]++[(vl x),(vl y)]++cap).toArray w1 fun e w2=>e= .returned (.int .i64 (c x y))∧Ext w1 w2):
  Calls Tryz.prog (fi 95) #[.slice A n q,.func (.func f) #[] cap.toArray] w fun e w'=>e= .returned (resVal [])∧Hp W w' (row tt.2.1 ce sz (.slice A n q) (stabF c l)::R):=by
 have e_n:=(S.l H 0).len;have z_n:=(S.l H 0).nle;subst e_n;refine wG (args:=[.slice A l.length q,.func (.func f) #[] cap.toArray]) S.f95 (by simp only[Tryz.f95,sC,sR,sP,sK,sO,Option.map,List.map,sT_0,sT_3,sT_4,sT_45,sT_135,sT_220,sT_333];rfl) ?_;refine G3 ?_;refine yy (Y.lenSl rfl rfl rfl S.u rfl) ?_;refine go ?_;refine c3 S.f139.has (staG_any S _ _ _ _ f cap c _ _ _ (H.front [0]) h1 hF hc) ?_;rintro _ z ⟨rfl,H⟩;refine⟨_,rfl,?_⟩;refine go ?_;refine En ?_;exact⟨rfl,H⟩
end
theorem sgI:SG ic 1 (fun x:Int=>.int .i64 x) (81,3,219) (fun f=>match f with|224=>275|173=>259|201=>271|174=>260|139=>242|95=>220|f=>f) where
 u:=Tryz.underlying81
 t0:=⟨_,_,ti3⟩
 len:=fun _=>rfl
 pos:=by decide
 cells:=fun _=>rfl
 one:=fun x=>List.all_eq_true.2 (ic_one x)
 ld0:=fun o n E C x A m cap l k ho hx h hk=>ld ho Tryz.underlying3 hx (Ls.at_c h hk rfl)
 f224:=⟨_,Tryz.func275,by kernel_rfl,by kernel_rfl,by kernel_rfl,by kernel_rfl⟩
 f173:=⟨_,Tryz.func259,by kernel_rfl,by kernel_rfl,by kernel_rfl,by kernel_rfl⟩
 f201:=⟨_,Tryz.func271,by kernel_rfl,by kernel_rfl,by kernel_rfl,by kernel_rfl⟩
 f174:=⟨_,Tryz.func260,by kernel_rfl,by kernel_rfl,by kernel_rfl,by kernel_rfl⟩
 f139:=⟨_,Tryz.func242,by kernel_rfl,by kernel_rfl,by kernel_rfl,by kernel_rfl⟩
 f95:=⟨_,Tryz.func220,by kernel_rfl,by kernel_rfl,by kernel_rfl,by kernel_rfl⟩
theorem sstI_any(A:Option Addr)(n q:Nat)(l:List Int)(f:FuncId)(cap:List Value)(c:Int→Int→Int)(W:World)(R:List Res)(w:World)(H:Hp W w (row 3 ic 1 (.slice A n q) l::R))(h1:n≤39)(hF:Has Tryz.prog f)(hc:∀l1:List Int,(∀x∈l1,x∈l)→∀w1,Hp W w1 (row 3 ic 1 (.slice A n q) l1::R)→∀x∈l,∀y∈l,Calls Tryz.prog f ([]++[Value.int .i64 x,Value.int .i64 y]++cap).toArray w1 fun e w2=>e= .returned (.int .i64 (c x y))∧Ext w1 w2):
  Calls Tryz.prog 220 #[.slice A n q,.func (.func f) #[] cap.toArray] w fun e w'=>e= .returned (resVal [])∧Hp W w' (row 3 ic 1 (.slice A n q) (stabF c l)::R):=sstG_any sgI A n q l f cap c W R w H h1 hF hc
end TW
end Go.Proofs.YtaclfjjipnpboaaGreatDoor
end
