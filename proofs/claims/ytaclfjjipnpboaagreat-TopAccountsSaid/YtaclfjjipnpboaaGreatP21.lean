/- Part 21 of the proof. Conditions: what each theorem states. -/
import Derived.Test.YtaclfjjipnpboaaGreatP01
import Derived.Test.YtaclfjjipnpboaaGreatP20
import Derived.Test.YtaclfjjipnpboaaGreatP04
import Derived.Sort.KeysCollected
import Derived.Test.YtaclfjjipnpboaaGreatP16
import Derived.Test.YtaclfjjipnpboaaGreatP18
set_option linter.all false
set_option maxHeartbeats 4000000
set_option maxRecDepth 4000
namespace Go.Proofs.YtaclfjjipnpboaaGreat
open Go Go.Eng Go.RowKit
namespace TW
structure Nd where(g:Nat)(mb:Option Nat)(pa:Nat)(nm:ByteArray)(se ct:Int)(ks:List (ByteArray×Nat×Nat))
instance:Inhabited Nd:=⟨⟨0,none,0,⟨#[]⟩,0,0,[]⟩⟩
def ksv(ks:List (ByteArray×Nat×Nat)):List (ByteArray×Value):=ks.map fun p=>(p.1,.pointer (some ⟨p.2.2,0,none⟩))
def ndF(x:Nd):List Res:=match x.mb with
 |none=>[box x.g 98 [.int .i64 x.se,.int .i64 x.ct,.map none]]
 |some b=>[box x.g 98 [.int .i64 x.se,.int .i64 x.ct,.map (some b)],mps b (ksv x.ks)]
theorem ksv_none:∀{ks:List (ByteArray×Nat×Nat)} {s:ByteArray},sget (ksv ks) s=none→s∉ks.map (·.1)
 |[],_,_=>by simp
 |(a,b)::r,s,h=>by
  simp only[ksv,List.map_cons,sget]at h;split at h
  ·cases h
  ·rename_i q;rw[List.map_cons,List.mem_cons,not_or];exact⟨q,ksv_none h⟩
theorem ksv_some:∀{ks:List (ByteArray×Nat×Nat)} {s:ByteArray} {v:Value},sget (ksv ks) s=some v→∃k a,(s,k,a)∈ks∧v= .pointer (some ⟨a,0,none⟩)
 |[],_,_,h=>by cases h
 |(a,b,c)::r,s,v,h=>by
  simp only[ksv,List.map_cons,sget]at h;split at h
  ·rename_i q;grind
  ·obtain⟨k,a',h1,h2⟩:=ksv_some h;grind
theorem ksv_put{ks:List (ByteArray×Nat×Nat)}{s:ByteArray}(k a:Nat)(h:sget (ksv ks) s=none):sset (ksv ks) s (.pointer (some ⟨a,0,none⟩))=ksv (ks++[(s,k,a)]):=by
 grind [sset_none,ksv]
structure NdOk(N:List Nd):Prop where
 z:0<N.length
 nk:∀i,i<N.length→N[i]!.mb=none→N[i]!.ks=[]
 up:∀i,i<N.length→∀p∈N[i]!.ks,i<p.2.1∧p.2.1<N.length∧N[p.2.1]!.g=p.2.2∧N[p.2.1]!.pa=i∧N[p.2.1]!.nm=p.1
 dn:∀k,0<k→k<N.length→N[k]!.pa<k∧(N[k]!.nm,k,N[k]!.g)∈N[N[k]!.pa]!.ks
 nd:∀i,i<N.length→(N[i]!.ks.map (·.1)).Nodup
section
variable{N:List Nd}{i:Nat}
def putK(N:List Nd)(i:Nat)(b:Nat)(s:ByteArray)(a:Nat):List Nd:=N.set i {N[i]! with mb:=some b,ks:=N[i]!.ks++[(s,N.length,a)]}++[⟨a,none,i,s,0,0,[]⟩]
theorem putK_len(b:Nat)(s:ByteArray)(a:Nat):(putK N i b s a).length=N.length+1:=by grind [putK,List.length_append,List.length_set]
theorem putK_at(b:Nat)(s:ByteArray)(a:Nat){k:Nat}(hk:k<N.length):(putK N i b s a)[k]! =if i=k then{N[i]! with mb:=some b,ks:=N[i]!.ks++[(s,N.length,a)]}else N[k]! :=by
 grind [putK,app_b,List.length_set,set_at]
theorem putK_end(b:Nat)(s:ByteArray)(a:Nat):(putK N i b s a)[N.length]! =⟨a,none,i,s,0,0,[]⟩:=by
 have:=app_e (l:=N.set i {N[i]! with mb:=some b,ks:=N[i]!.ks++[(s,N.length,a)]}) (x:=(⟨a,none,i,s,0,0,[]⟩:Nd));rw[List.length_set]at this;exact this
theorem putK_old(b:Nat)(s:ByteArray)(a:Nat){k:Nat}(hk:k<N.length):(putK N i b s a)[k]!.g=N[k]!.g∧(putK N i b s a)[k]!.pa=N[k]!.pa∧(putK N i b s a)[k]!.nm=N[k]!.nm∧(putK N i b s a)[k]!.se=N[k]!.se∧(putK N i b s a)[k]!.ct=N[k]!.ct:=by
 rw[putK_at b s a hk];grind
theorem putK_ks(b:Nat)(s:ByteArray)(a:Nat){k:Nat}(hk:k<N.length):(putK N i b s a)[k]!.ks=if i=k then N[k]!.ks++[(s,N.length,a)]else N[k]!.ks:=by
 rw[putK_at b s a hk];grind
theorem NdOk.put(h:NdOk N)(hi:i<N.length){s:ByteArray}(hs:sget (ksv N[i]!.ks) s=none)(b a:Nat):NdOk (putK N i b s a):=by
 have hl:=putK_len (N:=N) (i:=i) b s a;have hE:=putK_end (N:=N) (i:=i) b s a;refine⟨Om,fun k hk hm=> ?_,fun k hk p hp=> ?_,fun k h0 hk=> ?_,fun k hk=> ?_⟩<;>rw[hl]at hk
 ·by_cases e:k=N.length
  ·grind
  ·have hk':k<N.length:=Om;rw[putK_at b s a hk']at hm ⊢;by_cases e:i=k
   ·grind
   ·rw[if_neg e]at hm ⊢;exact h.nk k hk' hm
 ·by_cases e:k=N.length
  ·grind
  ·have hk':k<N.length:=Om;rw[putK_ks b s a hk']at hp;have old:p∈N[k]!.ks→k<p.2.1∧p.2.1<(putK N i b s a).length∧(putK N i b s a)[p.2.1]!.g=p.2.2∧(putK N i b s a)[p.2.1]!.pa=k∧(putK N i b s a)[p.2.1]!.nm=p.1:=fun hp=>by
    obtain⟨u1,u2,u3,u4,u5⟩:=h.up k hk' p hp;obtain⟨o1,o2,o3,_⟩:=putK_old (N:=N) (i:=i) b s a u2;grind
   grind
 ·by_cases e:k=N.length
  ·subst e;rw[hE];refine⟨hi,?_⟩;show _∈(putK N i b s a)[i]!.ks;rw[putK_ks b s a hi,if_pos rfl];grind
  ·have hk':k<N.length:=Om;obtain⟨o1,o2,o3,_⟩:=putK_old (N:=N) (i:=i) b s a hk';obtain⟨d1,d2⟩:=h.dn k h0 hk';rw[o1,o2,o3];refine⟨d1,?_⟩;grind [putK_ks,List.mem_append_left]
 ·by_cases e:k=N.length
  ·grind
  ·have hk':k<N.length:=Om;rw[putK_ks b s a hk'];have hn:=h.nd k hk';split
   ·rename_i e;subst e;rw[List.map_append];refine List.nodup_append.2 ⟨hn,by simp,fun x hx y hy q=> ?_⟩;grind [ksv_none]
   omega
def seS(N:List Nd):Int:=(N.map (·.se)).sum
def ctS(N:List Nd):Int:=(N.map (·.ct)).sum
theorem sumN_set(f:Nd→Int):∀{N:List Nd} {i:Nat} {x:Nd},i<N.length→((N.set i x).map f).sum=(N.map f).sum-f N[i]! +f x
 |[],_,_,h=>absurd h (Nat.not_lt_zero _)
 |y::r,0,x,_=>by
  grind
 |y::r,i+1,x,h=>by
  have:=sumN_set f (N:=r) (i:=i) (x:=x) (by grind);grind
theorem leN_sum(f:Nd→Int):∀{N:List Nd},(∀k,k<N.length→0≤f N[k]!)→0≤(N.map f).sum∧∀k,k<N.length→f N[k]!≤(N.map f).sum
 |[],_=>⟨Int.le_refl _,fun k h=>absurd h (Nat.not_lt_zero _)⟩
 |y::r,h=>by
  have ih:=leN_sum f (N:=r) fun k hk=>by have:=h (k+1) (by grind);grind
  have h0:0≤f y:=by simpa using h 0 (by simp)
  grind
theorem putK_sum(f:Nd→Int)(b:Nat)(s:ByteArray)(a:Nat)(hi:i<N.length)(h1:f {N[i]! with mb:=some b,ks:=N[i]!.ks++[(s,N.length,a)]}=f N[i]!)(h2:f ⟨a,none,i,s,0,0,[]⟩=0):((putK N i b s a).map f).sum=(N.map f).sum:=by
 unfold putK;rw[List.map_append,List.sum_append,sumN_set f hi,h1];grind
end
structure Fa(N0 N:List Nd)(S C:Int)(i j:Nat):Prop where
 ok:NdOk N
 hi:i<N.length
 n:N.length≤N0.length+j
 g0:N[0]!.g=N0[0]!.g
 s:seS N=S
 c:ctS N=C
 z:N[0]!.se=0∧N[0]!.ct=0
 v:∀k,k<N.length→0≤N[k]!.se∧0≤N[k]!.ct∧(N[k]!.ct=0→N[k]!.se=0)∧(0<k→nmF N[k]!.nm=0)
 lf:∀k,0<k→k<N.length→k≠i→N[k]!.ct=0→N[k]!.ks≠[]
 j0:j=0∨0<i
section
variable{N0 N:List Nd}{S C:Int}{i j:Nat}
theorem Fa.old(h:Fa N0 N S C i j){s:ByteArray}{k a:Nat}(hk:(s,k,a)∈N[i]!.ks):Fa N0 N S C k (j+1)∧N[k]!.g=a:=by
 obtain⟨u1,u2,u3,u4,u5⟩:=h.ok.up i h.hi _ hk;refine⟨⟨h.ok,u2,by have:=h.n;omega,h.g0,h.s,h.c,h.z,h.v,fun q h0 hq hne hc=> ?_,.inr (by grind)⟩,u3⟩;by_cases e:q=i
 ·grind
 ·exact h.lf q h0 hq e hc
theorem Fa.new(h:Fa N0 N S C i j){s:ByteArray}(hs:sget (ksv N[i]!.ks) s=none)(hn:nmF s=0)(b a:Nat):Fa N0 (putK N i b s a) S C N.length (j+1)∧(putK N i b s a)[N.length]!.g=a:=by
 have hl:=putK_len (N:=N) (i:=i) b s a;have hE:=putK_end (N:=N) (i:=i) b s a;have hz:=h.ok.z;obtain⟨z1,_,_,z4,z5⟩:=putK_old (N:=N) (i:=i) b s a hz;refine⟨⟨h.ok.put h.hi hs b a,by rw[hl];omega,by rw[hl];have:=h.n;omega,z1.trans h.g0,(putK_sum (·.se) b s a h.hi rfl rfl).trans h.s,(putK_sum (·.ct) b s a h.hi rfl rfl).trans h.c,⟨z4.trans h.z.1,z5.trans h.z.2⟩,fun k hk=> ?_,fun k h0 hk hne hc=> ?_,.inr hz⟩,by rw[hE]⟩<;>rw[hl]at hk
 ·by_cases e:k=N.length
  ·subst e;rw[hE];exact⟨Int.le_refl _,Int.le_refl _,fun _=>rfl,fun _=>hn⟩
  ·obtain⟨_,_,o3,o4,o5⟩:=putK_old (N:=N) (i:=i) b s a (show k<N.length by omega);rw[o3,o4,o5];exact h.v k Om
 ·have hk':k<N.length:=Om;rw[putK_ks b s a hk'];split
  ·simp
  ·rename_i e;rw[(putK_old (N:=N) (i:=i) b s a hk').2.2.2.2]at hc;exact h.lf k h0 hk' (fun q=>e q.symm) hc
theorem Fa.fin(h:Fa N0 N S C i j)(hj:0<j){v:Int}(hv:0≤v):Fa (N.set i {N[i]! with se:=N[i]!.se+v,ct:=N[i]!.ct+1}) (N.set i {N[i]! with se:=N[i]!.se+v,ct:=N[i]!.ct+1}) (S+v) (C+1) 0 0:=by
 have hi:=h.hi;have h0:0<i:=h.j0.resolve_left Om;have at_:∀k,k<N.length→(N.set i {N[i]! with se:=N[i]!.se+v,ct:=N[i]!.ct+1})[k]! =if i=k then{N[i]! with se:=N[i]!.se+v,ct:=N[i]!.ct+1}else N[k]! :=fun k hk=>set_at _ _ _ _ hk
 have old:∀k,k<N.length→(N.set i {N[i]! with se:=N[i]!.se+v,ct:=N[i]!.ct+1})[k]!.g=N[k]!.g∧(N.set i {N[i]! with se:=N[i]!.se+v,ct:=N[i]!.ct+1})[k]!.pa=N[k]!.pa∧(N.set i {N[i]! with se:=N[i]!.se+v,ct:=N[i]!.ct+1})[k]!.nm=N[k]!.nm∧(N.set i {N[i]! with se:=N[i]!.se+v,ct:=N[i]!.ct+1})[k]!.ks=N[k]!.ks∧(N.set i {N[i]! with se:=N[i]!.se+v,ct:=N[i]!.ct+1})[k]!.mb=N[k]!.mb:=fun k hk=>by
  grind
 have hl:(N.set i {N[i]! with se:=N[i]!.se+v,ct:=N[i]!.ct+1}).length=N.length:=List.length_set;refine⟨⟨Om,fun k hk hm=> ?_,fun k hk p hp=> ?_,fun k k0 hk=> ?_,fun k hk=> ?_⟩,Om,Nat.le_refl _,rfl,?_,?_,?_,fun k hk=> ?_,fun k k0 hk _ hc=> ?_,.inl rfl⟩
 ·rw[hl]at hk;obtain⟨_,_,_,o4,o5⟩:=old k hk;rw[o5]at hm;rw[o4];exact h.ok.nk k hk hm
 ·rw[hl]at hk;obtain⟨_,_,_,o4,_⟩:=old k hk;rw[o4]at hp;obtain⟨u1,u2,u3,u4,u5⟩:=h.ok.up k hk p hp;grind
 ·rw[hl]at hk;obtain⟨o1,o2,o3,_⟩:=old k hk;obtain⟨d1,d2⟩:=h.ok.dn k k0 hk;grind
 ·rw[hl]at hk;rw[(old k hk).2.2.2.1];exact h.ok.nd k hk
 ·show(List.map _ _).sum=_;rw[sumN_set (·.se) hi];have:=h.s;unfold seS at this;grind
 ·show(List.map _ _).sum=_;rw[sumN_set (·.ct) hi];have:=h.c;unfold ctS at this;grind
 ·rw[at_ 0 h.ok.z,if_neg Om];exact h.z
 ·rw[hl]at hk;have hvk:=h.v k hk;grind
 ·rw[hl]at hk;rw[(old k hk).2.2.2.1];rw[at_ k hk]at hc;by_cases e:i=k
  ·subst e;rw[if_pos rfl]at hc;have hc:N[i]!.ct+1=0:=hc;have:=(h.v i hk).2.1;omega
  ·rw[if_neg e]at hc;exact h.lf k k0 hk (fun q=>e q.symm) hc
end
end TW
end Go.Proofs.YtaclfjjipnpboaaGreat
section
attribute [local irreducible] Go.Eng.WC Go.Eng.WL Go.Eng.WK Go.Eng.WQ Go.Eng.WX Go.Eng.Yld
namespace Go.Proofs.YtaclfjjipnpboaaGreat
open Go Go.Eng Go.RowKit
namespace TW
theorem ksv_new{ks:List (ByteArray×Nat×Nat)}{s:ByteArray}{z:Value}(k a:Nat)(h:sget (ksv ks) s=none):sval (ksv (ks++[(s,k,a)])) s z= .pointer (some ⟨a,0,none⟩):=by
 rw[←ksv_put k a h];unfold sval;rw[sget_mset,if_pos rfl];rfl
theorem putK_eq{M:List Nd}{i q pa b a:Nat}{mb:Option Nat}{nm s:ByteArray}{se ct:Int}{ks:List (ByteArray×Nat×Nat)}(hx:M[i]! =⟨q,mb,pa,nm,se,ct,ks⟩):putK M i b s a=M.set i ⟨q,some b,pa,nm,se,ct,ks++[(s,M.length,a)]⟩++[⟨a,none,i,s,0,0,[]⟩]:=by unfold putK;rw[hx]
theorem Fa.le{N0 N:List Nd}{S C:Int}{i j k:Nat}(h:Fa N0 N S C i j)(hk:k<N.length):(0≤N[k]!.se∧N[k]!.se≤S)∧0≤N[k]!.ct∧N[k]!.ct≤C:=
 ⟨⟨(h.v k hk).1,h.s▸(leN_sum (·.se) fun k hk=>(h.v k hk).1).2 k hk⟩,(h.v k hk).2.1,h.c▸(leN_sum (·.ct) fun k hk=>(h.v k hk).2.1).2 k hk⟩
theorem fladd_any(g:Nat)(A_l:Option Addr)(n_l c_l:Nat)(l:List ByteArray)(v:Int)(N:List Nd)(S C:Int)(W:World)(R:List Res)(w:World)(H:Hp W w (big ndF N::R))(h_l:∀N' w',Hp W w' (big ndF N'::R)→Ls w' A_l n_l c_l sc 1 l)(hF:Fa N N S C 0 0)(hg0:N[0]!.g=g)(hv:0≤v)(hS:S+v≤100000000000000)(hC:C+1≤20000)(hn:∀s∈l,nmF s=0)(hl:0<n_l∧n_l≤100000):
  Calls Tryz.prog 27 #[.pointer (some ⟨g,0,none⟩),.slice A_l n_l c_l,.int .i64 v,.int .i64 1] w fun e w'=>∃N',e= .returned (resVal [])∧Hp W w' (big ndF N'::R)∧Fa N' N' (S+v) (C+1) 0 0∧N'.length≤N.length+l.length∧N'[0]!.g=N[0]!.g:=by
 have e_l:=(h_l _ _ H).len;have z_l:=(h_l _ _ H).nle;refine Wb Tryz.func27 ?_;refine go ?_;refine sb [12,0,2,3,10,11] ?_;refine WC.loopS 2 (fun mz Ed W'=>∃j:Nat,∃M:List Nd,∃i:Nat,∃q:Nat,mz=n_l-j∧Ed=[(12,.int .i64 ((j:Nat):Int)),(0,.pointer (some ⟨q,0,none⟩))]∧Hp W W' (big ndF M::R)∧(j≤n_l)∧(Fa N M S C i j)∧(M[i]!.g=q)) _ ⟨0,N,0,g,rfl,rfl,H,(Nat.zero_le _),hF,hg0⟩ ?_;rintro _ _ z ⟨j,M,i,q,rfl,rfl,H,jl,hM,hq⟩;refine go ?_;refine Cd (fun p7=> ?_) fun p7=> ?_
 ·have b10:j<n_l:=Om;refine G5 ?_;refine yy (Y.indexLs j (h_l _ _ H) rfl u51 ti9 rfl rfl rfl b10) ?_;refine yy (ld rfl u9 rfl (Ls.at_eq (h_l _ _ H) b10 rfl)) ?_;obtain⟨⟨g_,mb,pa,nm,se,ct,ks⟩,hx⟩:∃y,M[i]! =y:=⟨_,rfl⟩;have hq2:q=g_:=by rw[←hq,hx]
  subst hq2;have le_:=hM.le hM.hi;rw[hx]at le_;refine G5 ?_;dsimp only at le_;have nk_:=hM.ok.nk _ hM.hi;rw[hx]at nk_;rcases mb with _|b_
  ·have nk2:ks=[]:=nk_ rfl;subst nk2;have H:Hp W _ (box q 98 [.int .i64 se,.int .i64 ct,.map none]::hole ndF M (i)::_):=Hp.bigOutX ndF ⟨q,none,pa,nm,se,ct,[]⟩ hx H hM.hi;refine G3 ?_;refine yy (Y.eqlMN rfl u96 rfl) ?_;refine go ?_;refine WC.condT rfl ?_;refine go ?_;refine mmS H fun g15 z H=> ?_;refine go ?_;refine st H 1 ti96 fun z H=> ?_;rw[show([]:List (ByteArray×Value))=ksv []from rfl]at H;have hg:sget (ksv []) l[j]! =none:=rfl;refine G8 ?_;refine yy (Yld.cast (Y.lookupS rfl u96 u9 ti95 rfl rfl (fun _ h=>h▸(H.ms 0))) (show sval (ksv []) l[j]! _=Value.pointer none from by unfold sval;rw[hg];rfl)) ?_;refine yy (Y.eqlPN rfl u95 rfl) ?_;refine go ?_;refine WC.condT rfl ?_;refine go ?_;refine bx H fun g19 z H=> ?_;refine muS H 1 u96 u9 fun z H=> ?_;rw[ksv_put M.length g19 hg]at H;refine G1 ?_;refine sb [0,2,3,9,10,11,12] ?_;refine G6 ?_;refine yy (Yld.cast (Y.lookupS rfl u96 u9 ti95 rfl rfl (fun _ h=>h▸(H.ms 1))) (ksv_new M.length g19 hg)) ?_;have H:=H.front [2,1,1];have H:Hp W _ (big ndF (M.set (i) ⟨q,some g15,pa,nm,se,ct,[]++[(l[j]!,M.length,g19)]⟩)::_):=Hp.bigIn ndF ⟨q,some g15,pa,nm,se,ct,[]++[(l[j]!,M.length,g19)]⟩ H hM.hi;have H:=H.front [1,0];have H:Hp W _ (big ndF ((M.set (i) ⟨q,some g15,pa,nm,se,ct,[]++[(l[j]!,M.length,g19)]⟩)++[⟨g19,none,i,l[j]!,0,0,[]⟩])::_):=Hp.bigPush ndF ⟨g19,none,i,l[j]!,0,0,[]⟩ H;refine go ?_;exact Rs [(12,_),(0,_)] Sx ⟨(j+1),(putK M i g15 l[j]! g19),M.length,g19,rfl,rfl,(by rw[putK_eq hx];exact H),Om,(hM.new (s:=l[j]!) (by rw[hx];exact hg) (hn _ (mem_b (show j<l.length by omega))) g15 g19).1,(hM.new (s:=l[j]!) (by rw[hx];exact hg) (hn _ (mem_b (show j<l.length by omega))) g15 g19).2⟩
  ·have H:Hp W _ (box q 98 [.int .i64 se,.int .i64 ct,.map (some b_)]::mps b_ (ksv ks)::hole ndF M (i)::_):=Hp.bigOutX ndF ⟨q,some b_,pa,nm,se,ct,ks⟩ hx H hM.hi;refine G3 ?_;refine yy (Y.eqlMS rfl u96 rfl) ?_;refine go ?_;refine WC.condF rfl ?_;refine G9 ?_;rcases hg:sget (ksv ks) l[j]! with _|v_
   ·refine yy (Yld.cast (Y.lookupS rfl u96 u9 ti95 rfl rfl (fun _ h=>h▸(H.ms 1))) (show sval (ksv ks) l[j]! _=Value.pointer none from by unfold sval;rw[hg];rfl)) ?_;refine yy (Y.eqlPN rfl u95 rfl) ?_;refine go ?_;refine WC.condT rfl ?_;refine go ?_;refine bx H fun g26 z H=> ?_;refine muS H 2 u96 u9 fun z H=> ?_;rw[ksv_put M.length g26 hg]at H;refine G1 ?_;refine sb [0,2,3,9,10,11,12] ?_;refine G6 ?_;refine yy (Yld.cast (Y.lookupS rfl u96 u9 ti95 rfl rfl (fun _ h=>h▸(H.ms 2))) (ksv_new M.length g26 hg)) ?_;have H:=H.front [1,1,1];have H:Hp W _ (big ndF (M.set (i) ⟨q,some b_,pa,nm,se,ct,ks++[(l[j]!,M.length,g26)]⟩)::_):=Hp.bigIn ndF ⟨q,some b_,pa,nm,se,ct,ks++[(l[j]!,M.length,g26)]⟩ H hM.hi;have H:=H.front [1,0];have H:Hp W _ (big ndF ((M.set (i) ⟨q,some b_,pa,nm,se,ct,ks++[(l[j]!,M.length,g26)]⟩)++[⟨g26,none,i,l[j]!,0,0,[]⟩])::_):=Hp.bigPush ndF ⟨g26,none,i,l[j]!,0,0,[]⟩ H;refine go ?_;exact Rs [(12,_),(0,_)] Sx ⟨(j+1),(putK M i b_ l[j]! g26),M.length,g26,rfl,rfl,(by rw[putK_eq hx];exact H),Om,(hM.new (s:=l[j]!) (by rw[hx];exact hg) (hn _ (mem_b (show j<l.length by omega))) b_ g26).1,(hM.new (s:=l[j]!) (by rw[hx];exact hg) (hn _ (mem_b (show j<l.length by omega))) b_ g26).2⟩
   ·obtain⟨k_,a_,hk_,rfl⟩:=ksv_some hg;refine yy (Yld.cast (Y.lookupS rfl u96 u9 ti95 rfl rfl (fun _ h=>h▸(H.ms 1))) (show sval (ksv ks) l[j]! _=Value.pointer (some ⟨a_,0,none⟩)from by unfold sval;rw[hg];rfl)) ?_;refine yy (Y.eqlPS rfl u95 rfl) ?_;refine go ?_;refine WC.condF rfl ?_;refine G8 ?_;refine yy (Yld.cast (Y.lookupS rfl u96 u9 ti95 rfl rfl (fun _ h=>h▸(H.ms 1))) (show sval (ksv ks) l[j]! _=Value.pointer (some ⟨a_,0,none⟩)from by unfold sval;rw[hg];rfl)) ?_;have H:Hp W _ (big ndF M::_):=Hp.bigBack ndF ⟨q,some b_,pa,nm,se,ct,ks⟩ hx H hM.hi;refine go ?_;exact Rs [(12,_),(0,_)] Sx ⟨(j+1),M,k_,a_,rfl,rfl,H,Om,(hM.old (by rw[hx];exact hk_)).1,(hM.old (by rw[hx];exact hk_)).2⟩
 ·obtain⟨⟨g_,mb,pa,nm,se,ct,ks⟩,hx⟩:∃y,M[i]! =y:=⟨_,rfl⟩;have hq2:q=g_:=by rw[←hq,hx]
  subst hq2;have le_:=hM.le hM.hi;rw[hx]at le_;refine G8 ?_;dsimp only at le_;have nk_:=hM.ok.nk _ hM.hi;rw[hx]at nk_;rcases mb with _|b_
  ·have nk2:ks=[]:=nk_ rfl;subst nk2;have H:Hp W _ (box q 98 [.int .i64 se,.int .i64 ct,.map none]::hole ndF M (i)::_):=Hp.bigOutX ndF ⟨q,none,pa,nm,se,ct,[]⟩ hx H hM.hi;refine G5 ?_;refine yy (Yld.cast (Y.minI rfl rfl rfl rfl) (vi (show min (se+v) 100000000000001=se+v by omega))) ?_;refine go ?_;refine st H 0 ti3 fun z H=> ?_;refine G1 ?_;refine sb [0,3] ?_;refine G8 ?_;refine yy (Yld.cast (Y.minI rfl rfl rfl rfl) (vi (show min (ct+1) 20001=ct+1 by omega))) ?_;refine go ?_;refine st H 0 ti3 fun z H=> ?_;refine go ?_;refine En ?_;have H:Hp W _ (big ndF (M.set (i) ⟨q,none,pa,nm,se+v,ct+1,[]⟩)::_):=Hp.bigIn ndF ⟨q,none,pa,nm,se+v,ct+1,[]⟩ H hM.hi;have fn:=hM.fin (show 0<j by omega) hv;rw[hx]at fn;dsimp only at fn;exact⟨_,rfl,H,fn,(by rw[List.length_set];have:=hM.n;omega),(by rw[set_at _ _ _ _ hM.ok.z,if_neg (by have:=hM.j0;omega)];exact hM.g0)⟩
  ·have H:Hp W _ (box q 98 [.int .i64 se,.int .i64 ct,.map (some b_)]::mps b_ (ksv ks)::hole ndF M (i)::_):=Hp.bigOutX ndF ⟨q,some b_,pa,nm,se,ct,ks⟩ hx H hM.hi;refine G5 ?_;refine yy (Yld.cast (Y.minI rfl rfl rfl rfl) (vi (show min (se+v) 100000000000001=se+v by omega))) ?_;refine go ?_;refine st H 0 ti3 fun z H=> ?_;refine G9 ?_;refine yy (Yld.cast (Y.minI rfl rfl rfl rfl) (vi (show min (ct+1) 20001=ct+1 by omega))) ?_;refine go ?_;refine st H 0 ti3 fun z H=> ?_;refine go ?_;refine En ?_;have H:Hp W _ (big ndF (M.set (i) ⟨q,some b_,pa,nm,se+v,ct+1,ks⟩)::_):=Hp.bigIn ndF ⟨q,some b_,pa,nm,se+v,ct+1,ks⟩ H hM.hi;have fn:=hM.fin (show 0<j by omega) hv;rw[hx]at fn;dsimp only at fn;exact⟨_,rfl,H,fn,(by rw[List.length_set];have:=hM.n;omega),(by rw[set_at _ _ _ _ hM.ok.z,if_neg (by have:=hM.j0;omega)];exact hM.g0)⟩
theorem srtB_of{l l':List ByteArray}(h:l.Perm l'):srtB l=srtB l':=by
 grind [srtB,bl,decide,mergeSort_of_perm]
def kget:List (ByteArray×Nat×Nat)→ByteArray→Nat×Nat
 |[],_=>(0,0)
 |(a,p)::r,s=>if s=a then p else kget r s
theorem kget_mem:∀{ks:List (ByteArray×Nat×Nat)} {s:ByteArray},s∈ks.map (·.1)→(s,(kget ks s).1,(kget ks s).2)∈ks
 |[],_,h=>by cases h
 |(a,p)::r,s,h=>by
  unfold kget;by_cases e:s=a
  ·grind
  ·rw[if_neg e];rw[List.map_cons,List.mem_cons]at h;exact List.mem_cons_of_mem _ (kget_mem (h.resolve_left e))
theorem sget_ksv:∀{ks:List (ByteArray×Nat×Nat)} {s:ByteArray},s∈ks.map (·.1)→sget (ksv ks) s=some (.pointer (some ⟨(kget ks s).2,0,none⟩))
 |[],_,h=>by cases h
 |(a,b,c)::r,s,h=>by
  unfold kget ksv;rw[List.map_cons];unfold sget;by_cases e:s=a
  ·rw[if_pos e,if_pos e]
  ·rw[if_neg e,if_neg e];rw[List.map_cons,List.mem_cons]at h;exact sget_ksv (h.resolve_left e)
def lsS(rec:Nat→Int→List No→List No×Int)(N:List Nd)(ks:List (ByteArray×Nat×Nat))(p:Int)(acc:List No×Int)(s:ByteArray):List No×Int:=
 let k:=(kget ks s).1
 let r:=rec k (acc.1.length:Int) (acc.1++[⟨p,s,N[k]!.se,0,N[k]!.ct⟩])
 (r.1.set acc.1.length {r.1[acc.1.length]! with to:=N[k]!.se+r.2},acc.2+(N[k]!.se+r.2))
def lsK(N:List Nd):Nat→Nat→Int→List No→List No×Int
 |0,_,_,out=>(out,0)
 |f+1,i,p,out=>(srtB (N[i]!.ks.map (·.1))).foldl (lsS (lsK N f) N N[i]!.ks p) (out,0)
theorem names_perm{ks:List (ByteArray×Nat×Nat)}{S:List Nat}(hn:S.Nodup)(hb:∀j∈S,j<(ksv ks).length)(ha:∀j,j<(ksv ks).length→j∈S):(S.reverse.map fun i=>((ksv ks)[i]!).1).Perm (ks.map (·.1)):=by
 have h1:S.Perm (List.range (ksv ks).length):=(List.perm_ext_iff_of_nodup hn List.nodup_range).2 fun j=>⟨fun h=>List.mem_range.2 (hb j h),fun h=>ha j (List.mem_range.1 h)⟩;have h2:=((List.reverse_perm S).trans h1).map fun i=>((ksv ks)[i]!).1;refine h2.trans (List.Perm.of_eq ?_);refine list_ext (by simp[ksv]) fun k hk=> ?_;rw[List.length_map,List.length_range]at hk;have hk':k<ks.length:=by grind [ksv]
 rw[map_b _ (by grind),bang_eq (l:=List.range _) (by grind),List.getElem_range,map_b _ hk'];grind [ksv,map_b]
theorem names_eq{ks:List (ByteArray×Nat×Nat)}{S:List Nat}(hn:S.Nodup)(hb:∀j∈S,j<(ksv ks).length)(ha:∀j,j<(ksv ks).length→j∈S):srtB (S.reverse.map fun i=>((ksv ks)[i]!).1)=srtB (ks.map (·.1)):=srtB_of (names_perm hn hb ha)
theorem nd_blk{w:World}{N:List Nd}(h:(big ndF N).holds w){k:Nat}(hk:k<N.length):Blk w N[k]!.g 98 [.int .i64 N[k]!.se,.int .i64 N[k]!.ct,.map N[k]!.mb]:=by
 refine h.1 (box N[k]!.g 98 [.int .i64 N[k]!.se,.int .i64 N[k]!.ct,.map N[k]!.mb]) (List.mem_flatMap.2 ⟨_,mem_b hk,?_⟩);unfold ndF;grind
theorem nd_blkE{w:World}{N:List Nd}(h:(big ndF N).holds w){k:Nat}(hk:k<N.length){m:Option Nat}(hm:N[k]!.mb=m):Blk w N[k]!.g 98 [.int .i64 N[k]!.se,.int .i64 N[k]!.ct,.map m]:=hm▸nd_blk h hk
theorem nd_map{w:World}{N:List Nd}(h:(big ndF N).holds w){k b:Nat}(hk:k<N.length)(hb:N[k]!.mb=some b):MpS w b (ksv N[k]!.ks):=by
 refine h.1 (mps b (ksv N[k]!.ks)) (List.mem_flatMap.2 ⟨_,mem_b hk,?_⟩);grind [ndF,List.mem_cons_of_mem,List.mem_cons_self]
def lsA(N:List Nd)(f i:Nat)(p:Int)(out:List No)(j:Nat):List No×Int:=((srtB (N[i]!.ks.map (·.1))).take j).foldl (lsS (lsK N f) N N[i]!.ks p) (out,0)
def kdI(N:List Nd)(i j:Nat):Nat:=(kget N[i]!.ks (srtB (N[i]!.ks.map (·.1)))[j]!).1
def flN1(N:List Nd)(f i:Nat)(p:Int)(out:List No)(j:Nat):List No:=(lsA N f i p out j).1++[⟨p,(srtB (N[i]!.ks.map (·.1)))[j]!,N[kdI N i j]!.se,0,N[kdI N i j]!.ct⟩]
def lsR(N:List Nd)(f i:Nat)(p:Int)(out:List No)(j:Nat):List No×Int:=lsK N f (kdI N i j) ((lsA N f i p out j).1.length:Int) (flN1 N f i p out j)
theorem lsA_step{N:List Nd}{f i:Nat}{p:Int}{out:List No}{j:Nat}(h:j<(srtB (N[i]!.ks.map (·.1))).length):lsA N f i p out (j+1)=((lsR N f i p out j).1.set (lsA N f i p out j).1.length {(lsR N f i p out j).1[(lsA N f i p out j).1.length]! with to:=N[kdI N i j]!.se+(lsR N f i p out j).2},(lsA N f i p out j).2+(N[kdI N i j]!.se+(lsR N f i p out j).2)):=by
 unfold lsA;rw[take_1 h,List.foldl_append];rfl
theorem lsA_end{N:List Nd}{f i:Nat}{p:Int}{out:List No}{j:Nat}(h:(srtB (N[i]!.ks.map (·.1))).length≤j):lsA N f i p out j=lsK N (f+1) i p out:=by
 unfold lsA;rw[List.take_of_length_le h];rfl
def Bd(N:List Nd):Nat→Nat→Int→List No→Prop
 |0,_,_,_=>True
 |f+1,i,p,out=>∀j,j<(srtB (N[i]!.ks.map (·.1))).length→(lsA N f i p out j).1.length+1≤100000∧Bd N f (kdI N i j) ((lsA N f i p out j).1.length:Int) (flN1 N f i p out j)∧((lsA N f i p out j).1.length<(lsR N f i p out j).1.length∧(lsR N f i p out j).1.length≤100000)∧
  (0≤(lsA N f i p out j).2∧0≤N[kdI N i j]!.se∧0≤(lsR N f i p out j).2)∧(lsA N f i p out j).2+(N[kdI N i j]!.se+(lsR N f i p out j).2)≤100000000000000
theorem ks_len{N:List Nd}(h:NdOk N){i:Nat}(hi:i<N.length):N[i]!.ks.length≤N.length:=by
 have hn:(N[i]!.ks.map fun p=>p.2.1).Nodup:=by
  have h1:=h.nd i hi;rw[List.nodup_iff_pairwise_ne,List.pairwise_map]at h1 ⊢;refine(List.Pairwise.and_mem.1 h1).imp fun{a b} q e=>q.2.2 ?_;have ha:=h.up i hi a q.1;have hb:=h.up i hi b q.2.1;grind
 have:=nodup_bound N.length _ hn fun j hj=>by
  obtain⟨p,hp,rfl⟩:=List.mem_map.1 hj;exact(h.up i hi p hp).2.1
 grind
theorem kd_ok{N:List Nd}(h:NdOk N){i:Nat}(hi:i<N.length){j:Nat}(hj:j<(srtB (N[i]!.ks.map (·.1))).length):i<kdI N i j∧kdI N i j<N.length∧sget (ksv N[i]!.ks) (srtB (N[i]!.ks.map (·.1)))[j]! =some (.pointer (some ⟨N[kdI N i j]!.g,0,none⟩)):=by
 have hm:(srtB (N[i]!.ks.map (·.1)))[j]!∈N[i]!.ks.map (·.1):=(srtB_perm _).mem_iff.1 (mem_b hj);have hk:=kget_mem hm;obtain⟨u1,u2,u3,_⟩:=h.up i hi _ hk;simp_all [And.intro,sget_ksv,kdI]
theorem fllist_step(N:List Nd)(fu i:Nat)(p:Int)(v:Value)(L:List No)(W:World)(R:List Res)(w:World)(H:Hp W w (row 73 No.c 5 v L::big ndF N::R))(ok:NdOk N)(hi:i<N.length)(hb:Bd N (fu+1) i p L)(hN:N.length≤100000)(hf:N.length≤i+(fu+1))(IH:∀(k:Nat) (p2:Int) (v2:Value) (L2:List No) (R2:List Res) (w2:World),k<N.length→Bd N fu k p2 L2→N.length≤k+fu→Hp W w2 (row 73 No.c 5 v2 L2::big ndF N::R2)→Calls Tryz.prog 76 #[.pointer (some ⟨N[k]!.g,0,none⟩),v2,.int .i64 p2] w2 fun e w'=>∃v',e= .returned (.tuple #[v',.int .i64 (lsK N fu k p2 L2).2])∧Hp W w' (row 73 No.c 5 v' (lsK N fu k p2 L2).1::big ndF N::R2)):
  Calls Tryz.prog 76 #[.pointer (some ⟨N[i]!.g,0,none⟩),v,.int .i64 p] w fun e w'=>∃v',e= .returned (.tuple #[v',.int .i64 (lsK N (fu+1) i p L).2])∧Hp W w' (row 73 No.c 5 v' (lsK N (fu+1) i p L).1::big ndF N::R):=by
 refine Wb Tryz.func76 ?_;refine G10 ?_;rcases hmb:N[i]!.mb with _|b_
 ·have kz:N[i]!.ks=[]:=ok.nk i hi hmb;refine G2 ?_;refine yy (ld rfl u96 rfl (Blk.at_eq (nd_blkE (H.get (k:=1) rfl) hi hmb) rfl)) ?_;refine rgN H u96 fun g8 z H=> ?_;have H:=H.nilRow 9 sc 1;refine go ?_;refine sb [8,0,1,2,20] ?_;refine WC.loopS 1 (fun mz Ed W'=>∃u:Value,mz=0+0+0∧Ed=[(8,u)]∧Hp W W' (row 9 sc 1 u ([])::_::_::_::R)) _ ⟨_,rfl,rfl,H⟩ ?_;rintro _ _ z ⟨u,rfl,rfl,H⟩;refine go ?_;refine nxN (ty:=0) H 1 (fun z H=> ?_);refine go ?_;refine WC.condF rfl ?_;refine go ?_;refine c3 Fh (sortB_any _ _ _ _ _ (H.front [0]) (by first|exact nl_|simp)) ?_;rintro _ z ⟨rfl,H⟩;refine⟨_,rfl,?_⟩;rw[show srtB ([]:List ByteArray)=(srtB (N[i]!.ks.map (·.1)))from by rw[kz];rfl]at H;have kl2:(srtB (N[i]!.ks.map (·.1))).length≤100000:=by rw[srtB_len,List.length_map];have:=ks_len ok hi;omega
  obtain⟨A18,n19,c20,rfl,e_n19,_,_⟩:=H.op 0;refine go ?_;refine sb [33,1,10,0,2,31,32] ?_;refine WC.loopS 3 (fun mz Ed W'=>∃j:Nat,∃y:Value,mz=n19-j∧Ed=[(33,.int .i64 ((j:Nat):Int)),(1,y),(10,.int .i64 (lsA N fu i p L j).2)]∧Hp W W' (_::_::row 73 No.c 5 y ((lsA N fu i p L j).1)::_::R)∧(j≤n19)) _ ⟨0,_,rfl,rfl,H,(Nat.zero_le _)⟩ ?_;rintro _ _ z ⟨j,y,rfl,rfl,H,jl⟩;refine go ?_;refine Cd (fun p23=> ?_) fun p23=> ?_
  ·have p:=p23;rw[kz]at e_n19;have e0:(srtB (([]:List (ByteArray×Nat×Nat)).map (·.1))).length=0:=by rw[srtB_len];rfl
   omega
  ·refine go ?_;refine Rt [_,_] ?_;have le_:=lsA_end (N:=N) (f:=fu) (i:=i) (p:=p) (out:=L) (j:=j) Om;rw[←le_];exact⟨_,rfl,(H.drop [0,0])⟩
 ·have hx:N[i]! ={N[i]! with mb:=some b_}:=by rw[←hmb]
  have H:=H.front [1];have H:Hp W _ (box N[i]!.g 98 [.int .i64 N[i]!.se,.int .i64 N[i]!.ct,.map (some b_)]::mps b_ (ksv N[i]!.ks)::hole ndF N (i)::_):=Hp.bigOutX ndF {N[i]! with mb:=some b_} hx H hi;refine go ?_;refine rgS H 1 u96 fun g28 z H=> ?_;have H:=H.nilRow 9 sc 1;refine go ?_;refine sb [8,0,1,2,20] ?_;refine WC.loopS 1 (fun mz Ed W'=>∃S:List Nat,∃u:Value,mz=(ksv N[i]!.ks).length-S.length∧Ed=[(8,u)]∧Hp W W' (row 9 sc 1 u (S.reverse.map fun q=>((ksv N[i]!.ks)[q]!).1)::_::mrs g28 b_ (ksv N[i]!.ks) S::_::_::R)∧(S.Nodup∧∀j∈S,j<(ksv N[i]!.ks).length)) _ ⟨[],_,rfl,rfl,H,⟨List.nodup_nil,fun j hj=>(by cases hj)⟩⟩ ?_;rintro _ _ z ⟨S,u,rfl,rfl,H,hS⟩;have Sl:=nodup_bound _ S hS.1 hS.2;have kl:=ks_len ok hi;rw[show(ksv N[i]!.ks).length=N[i]!.ks.length from by simp[ksv]]at Sl;refine go ?_;refine nxS (ty:=0) H 2 (fun hall z H=> ?_) fun i32 z hi_i32 hS_i32 H=> ?_
  ·refine go ?_;refine WC.condF rfl ?_;have H:=H.front [2];have H:=H.unrangeS;have H:=H.front [2,0,1];have H:Hp W _ (big ndF N::_):=Hp.bigBack ndF {N[i]! with mb:=some b_} hx H hi;have nl_:(S.reverse.map fun q=>((ksv N[i]!.ks)[q]!).1).length≤100000:=by rw[List.length_map,List.length_reverse];omega
   refine go ?_;refine c3 Fh (sortB_any _ _ _ _ _ (H.front [1]) (by first|exact nl_|simp)) ?_;rintro _ z ⟨rfl,H⟩;refine⟨_,rfl,?_⟩;rw[names_eq hS.1 hS.2 hall]at H;have kl2:(srtB (N[i]!.ks.map (·.1))).length≤100000:=by rw[srtB_len,List.length_map];have:=ks_len ok hi;omega
   obtain⟨A38,n39,c40,rfl,_,_,_⟩:=H.op 0;refine go ?_;refine sb [33,1,10,0,2,31,32] ?_;refine WC.loopS 3 (fun mz Ed W'=>∃j:Nat,∃y:Value,mz=n39-j∧Ed=[(33,.int .i64 ((j:Nat):Int)),(1,y),(10,.int .i64 (lsA N fu i p L j).2)]∧Hp W W' (_::_::row 73 No.c 5 y ((lsA N fu i p L j).1)::R)∧(j≤n39)) _ ⟨0,_,rfl,rfl,H,(Nat.zero_le _)⟩ ?_;rintro _ _ z ⟨j,y,rfl,rfl,H,jl⟩;refine go ?_;refine Cd (fun p43=> ?_) fun p43=> ?_
   ·have kd_:=kd_ok ok hi (show j<(srtB (N[i]!.ks.map (·.1))).length by omega);have bj:=hb j (show j<(srtB (N[i]!.ks.map (·.1))).length by omega);have bj1:=bj.1;have bj2:=bj.2.2.1;have bj3:=bj.2.2.2.1;have bj4:=bj.2.2.2.2;have b46:j<n39:=Om;refine G13 ?_;refine yy (ld rfl u96 rfl (Blk.at_eq (nd_blkE (H.get (k:=1) rfl) hi hmb) rfl)) ?_;refine G1 ?_;refine yy (Yld.cast (Y.lookupS rfl u96 u9 ti95 rfl rfl (fun _ h=>h▸(nd_map (H.get (k:=1) rfl) hi hmb))) (show sval (ksv N[i]!.ks) (srtB (N[i]!.ks.map (·.1)))[j]! _=_ from by unfold sval;rw[kd_.2.2];try rfl)) ?_;obtain⟨A49,n50,c51,rfl,e_n50,_,_⟩:=H.op 2;refine go ?_;refine Xr H (HpC W _) (.load 0 (.load 1 (.load 2 (.load 3 (.load 4 (.load 5 (.load 6 (.load 7 (.load 8 (.load 9 (.load 10 (.load 11 (.alt 12 (.alt 13 (.load 14 (.fin)) (.none)) (.none)))))))))))))) (H.pick [0,0]) fun z H=> ?_;refine G6 ?_;refine yx rfl (ld rfl u3 rfl (Blk.at_c (fun _ h=>(nd_blk (h.get (k:=1) rfl) kd_.2.1)) rfl)) ?_;refine G3 ?_;refine yx rfl (ld rfl u3 rfl (Blk.at_c (fun _ h=>(nd_blk (h.get (k:=1) rfl) kd_.2.1)) rfl)) ?_;refine go ?_;refine bs1X (H.pick [0,0]) H u46 ti73 fun g53 z H=> ?_;refine apX (H.pick [1,1]) H 3 0 rfl [⟨p,(srtB (N[i]!.ks.map (·.1)))[j]!,N[kdI N i j]!.se,0,N[kdI N i j]!.ct⟩] u46 ti73 rfl No.one (by show(lsA N fu i p L j).1.length+1≤1000000;omega) fun v55 z H=> ?_;refine go ?_;refine WX.nil (H.pick [1,1]) ?_;refine G4 ?_;refine sb [0,1,2,10,13,14,31,32,33] ?_;refine go ?_;refine c3 Fh (IH (kdI N i j) (n50:Int) _ (flN1 N fu i p L j) _ _ kd_.2.1 (by rw[←e_n50];exact bj.2.1) Om (H.front [3,2])) ?_;rintro _ z ⟨v7,rfl,H⟩;rw[show lsK N fu (kdI N i j) ((n50:Nat):Int) (flN1 N fu i p L j)=lsR N fu i p L j from by unfold lsR;rw[e_n50]]at H ⊢;refine⟨_,rfl,?_⟩;refine G12 ?_;refine yy (ld rfl u3 rfl (Blk.at_eq (nd_blk (H.get (k:=1) rfl) kd_.2.1) rfl)) ?_;obtain⟨A59,n60,c61,rfl,_,_,_⟩:=H.op 0;have b62:n50<n60:=Om;refine go ?_;refine ste H 0 rfl {(lsR N fu i p L j).1[n50]! with to:=N[kdI N i j]!.se+(lsR N fu i p L j).2} b62 ti3 rfl fun z H=> ?_;have b63:n50<n60:=Om;refine G7 ?_;refine yy (Yld.cast (ld rfl u3 rfl (Ls.at_eq (H.l 0) b63 rfl)) (vi (show(((lsR N fu i p L j).1.set n50 {(lsR N fu i p L j).1[n50]! with to:=N[kdI N i j]!.se+(lsR N fu i p L j).2})[n50]!).to=N[kdI N i j]!.se+(lsR N fu i p L j).2 from by rw[set_b Om]))) ?_;refine G9 ?_;rw[show(lsA N fu i p L j).2+(N[kdI N i j]!.se+(lsR N fu i p L j).2)=(lsA N fu i p L (j+1)).2 from by rw[lsA_step (show j<(srtB (N[i]!.ks.map (·.1))).length by omega)]];exact Rs [(33,_),(1,_),(10,_)] Sx ⟨(j+1),(.slice A59 n60 c61),rfl,rfl,(by rw[lsA_step (show j<(srtB (N[i]!.ks.map (·.1))).length by omega),e_n50];exact((H.drop [2]).front [2,1,0])),Om⟩
   ·refine G11 ?_;refine sb [6,7] ?_;refine go ?_;refine Rt [_,_] ?_;have le_:=lsA_end (N:=N) (f:=fu) (i:=i) (p:=p) (out:=L) (j:=j) Om;rw[←le_];exact⟨_,rfl,((H.drop [0]).front [1,0])⟩
  ·refine go ?_;refine WC.condT rfl ?_;refine go ?_;refine enS H 2 ?_;refine go ?_;refine bs1 H u51 ti9 fun g67 z H=> ?_;refine ap H 1 0 rfl [((ksv N[i]!.ks)[i32]!).1] u51 ti9 rfl sc_one (by rw[List.length_map,List.length_reverse];exact room_le Sl (Nat.le_refl 1) Om) fun v69 z H=> ?_;refine go ?_;refine WK.roundS _ [(8,_)] Sx ?_ ⟨(i32::S),v69,rfl,rfl,(by rw[show((i32::S).reverse.map fun q=>((ksv N[i]!.ks)[q]!).1)=(S.reverse.map fun q=>((ksv N[i]!.ks)[q]!).1)++[((ksv N[i]!.ks)[i32]!).1]from by rw[List.reverse_cons,List.map_append];rfl];exact(H.drop [0])),⟨List.nodup_cons.2 ⟨hS_i32,hS.1⟩,fun j hj=>(List.mem_cons.1 hj).elim (fun e=>(by rw[e];exact hi_i32)) (hS.2 j)⟩⟩;exact left_lt hi_i32 hS_i32 hS.1 hS.2
theorem fllist_any(N:List Nd)(ok:NdOk N)(hN:N.length≤100000)(W:World):∀(fu i:Nat) (p:Int) (v:Value) (L:List No) (R:List Res) (w:World),i<N.length→Bd N fu i p L→N.length≤i+fu→Hp W w (row 73 No.c 5 v L::big ndF N::R)→Calls Tryz.prog 76 #[.pointer (some ⟨N[i]!.g,0,none⟩),v,.int .i64 p] w fun e w'=>∃v',e= .returned (.tuple #[v',.int .i64 (lsK N fu i p L).2])∧Hp W w' (row 73 No.c 5 v' (lsK N fu i p L).1::big ndF N::R)
 |0,i,p,v,L,R,w,hi,hb,hf,H=>by omega
 |fu+1,i,p,v,L,R,w,hi,hb,hf,H=>fllist_step N fu i p v L W R w H ok hi hb hN hf (fun k p2 v2 L2 R2 w2 h1 h2 h3 h4=>fllist_any N ok hN W fu k p2 v2 L2 R2 w2 h1 h2 h3 h4)
def flL(N:List Nd):List No:=(lsK N N.length 0 (-1) []).1
structure FlG(N:List Nd)(S:Int):Prop where
 b:Bd N N.length 0 (-1) []
 c:FlOk (flL N)
 s:seN (flL N) (flL N).length=S
theorem flbuilt_any(N:List Nd)(S:Int)(W:World)(R:List Res)(w:World)(H:Hp W w (big ndF N::R))(ok:NdOk N)(hN:N.length≤100000)(hG:FlG N S):
  Calls Tryz.prog 29 #[.pointer (some ⟨N[0]!.g,0,none⟩)] w fun e w'=>∃v',e= .returned (.tuple #[v',.int .i64 0])∧Hp W w' (row 73 No.c 5 v' (flL N)::R):=by
 refine Wb Tryz.func29 ?_;have H:=H.nilRow 73 No.c 5;refine go ?_;refine c3 Fh (fllist_any N ok hN _ N.length 0 (-1) _ [] _ _ ok.z hG.b Om (H.front [0,0])) ?_;rintro _ z ⟨v7,rfl,H⟩;refine⟨_,rfl,?_⟩;obtain⟨A8,n9,c10,rfl,_,_,_⟩:=H.op 0;refine go ?_;refine c1 H Fh (flchk_any _ _ _ _ _ (H.l 0) hG.c) fun z H=> ?_;refine G4 ?_;refine Kd ?_;refine go ?_;refine WC.condF rfl ?_;refine go ?_;refine Rt [_,_] ?_;exact⟨_,rfl,(H.drop [1])⟩
theorem flbuilt_g(N:List Nd)(S:Int)(g:Nat)(W:World)(R:List Res)(w:World)(H:Hp W w (big ndF N::R))(ok:NdOk N)(hN:N.length≤100000)(hG:FlG N S)(hg0:N[0]!.g=g):Calls Tryz.prog 29 #[.pointer (some ⟨g,0,none⟩)] w fun e w'=>∃v',e= .returned (.tuple #[v',.int .i64 0])∧Hp W w' (row 73 No.c 5 v' (flL N)::R):=by
 subst hg0;exact flbuilt_any N S W R w H ok hN hG
def kix(N:List Nd)(i:Nat):List Nat:=N[i]!.ks.map fun p=>p.2.1
section
variable{N:List Nd}
theorem kix_mem(h:NdOk N){i k:Nat}(hi:i<N.length):k∈kix N i↔0<k∧k<N.length∧N[k]!.pa=i:=by
 unfold kix;constructor
 ·intro hk;obtain⟨p,hp,rfl⟩:=List.mem_map.1 hk;obtain⟨u1,u2,_,u4,_⟩:=h.up i hi p hp;omega
 ·rintro⟨h0,h1,rfl⟩;exact List.mem_map.2 ⟨_,(h.dn k h0 h1).2,rfl⟩
theorem kix_nodup(h:NdOk N){i:Nat}(hi:i<N.length):(kix N i).Nodup:=by
 have h1:=h.nd i hi;unfold kix;rw[List.nodup_iff_pairwise_ne,List.pairwise_map]at h1 ⊢;refine(List.Pairwise.and_mem.1 h1).imp fun{a b} q e=>q.2.2 ?_;have ha:=h.up i hi a q.1;have hb:=h.up i hi b q.2.1;grind
theorem kix_perm(h:NdOk N):((List.range N.length).flatMap (kix N)).Perm (List.range' 1 (N.length-1)):=by
 refine(List.perm_ext_iff_of_nodup ?_ List.nodup_range').2 fun k=> ?_
 ·refine List.pairwise_flatMap.2 ⟨fun i hi=>kix_nodup h (List.mem_range.1 hi),?_⟩;refine(List.Pairwise.and_mem.1 (List.nodup_range (n:=N.length))).imp fun{a b} q=> ?_;intro k hk k2 hk2 e;subst e;have e1:=(kix_mem h (List.mem_range.1 q.1)).1 hk;simp_all [kix_mem,List.mem_range]
 ·rw[List.mem_flatMap];constructor
  ·rintro⟨i,hi,hk⟩;have:=(kix_mem h (List.mem_range.1 hi)).1 hk;grind
  ·intro hk;have hk:=List.mem_range'_1.1 hk;have:=(h.dn k Om Om).1;exact⟨N[k]!.pa,List.mem_range.2 Om,(kix_mem h Om).2 ⟨Om,Om,rfl⟩⟩
theorem sum_flatMap_(f:Nat→List Nat)(g:Nat→Int):∀l:List Nat,((l.flatMap f).map g).sum=(l.map fun i=>((f i).map g).sum).sum
 |[]=>rfl
 |x::r=>by rw[List.flatMap_cons,List.map_append,List.sum_append,sum_flatMap_ f g r,List.map_cons,List.sum_cons]
theorem sum_add_(f g:Nat→Int):∀l:List Nat,(l.map fun i=>f i+g i).sum=(l.map f).sum+(l.map g).sum
 |[]=>rfl
 |x::r=>by simp only[List.map_cons,List.sum_cons];rw[sum_add_ f g r];omega
theorem telescope(h:NdOk N)(f W:Nat→Int)(hW:∀i,i<N.length→W i=f i+((kix N i).map W).sum):((List.range N.length).map f).sum=W 0:=by
 have e1:((List.range N.length).map W).sum=((List.range N.length).map f).sum+((List.range N.length).map fun i=>((kix N i).map W).sum).sum:=by
  rw[←sum_add_]
  congr 1
  simp_all
 rw[←sum_flatMap_,perm_sum ((kix_perm h).map W)]at e1;have e2:List.range N.length=0::List.range' 1 (N.length-1):=by
  rw[List.range_eq_range'];obtain⟨n,hn⟩:∃n,N.length=n+1:=⟨N.length-1,by have:=h.z;omega⟩;rw[hn];rfl
 grind
theorem kget_eq:∀{ks:List (ByteArray×Nat×Nat)},(ks.map (·.1)).Nodup→∀p∈ks,kget ks p.1=p.2
 |[],_,p,h=>by cases h
 |(a,q)::r,hn,p,h=>by
  have hn:=List.nodup_cons.1 hn;unfold kget;rcases List.mem_cons.1 h with e|h
  ·rw[e,if_pos rfl]
  ·rw[if_neg (fun e=>hn.1 (List.mem_map.2 ⟨p,h,e⟩))];exact kget_eq hn.2 p h
theorem kd_perm(h:NdOk N){i:Nat}(hi:i<N.length):((srtB (N[i]!.ks.map (·.1))).map fun s=>(kget N[i]!.ks s).1).Perm (kix N i):=by
 refine((srtB_perm _).map _).trans (List.Perm.of_eq ?_);unfold kix;rw[List.map_map];exact List.map_congr_left fun p hp=>by show(kget N[i]!.ks p.1).1=p.2.1;rw[kget_eq (h.nd i hi) p hp]
def wtF(N:List Nd)(g:Nat→Int):Nat→Nat→Int
 |0,_=>0
 |f+1,i=>((kix N i).map fun k=>g k+wtF N g f k).sum
theorem wtF_fuel(h:NdOk N)(g:Nat→Int):∀f f' i,i<N.length→N.length≤i+f→N.length≤i+f'→wtF N g f i=wtF N g f' i
 |0,_,i,hi,h1,_=>by omega
 |_+1,0,i,hi,_,h2=>by omega
 |f+1,f'+1,i,hi,h1,h2=>by
  show(List.map _ _).sum=(List.map _ _).sum
  congr 1
  refine List.map_congr_left fun k hk=> ?_;obtain⟨k0,k1,k2⟩:=(kix_mem h hi).1 hk;have:=(h.dn k k0 k1).1;rw[wtF_fuel h g f f' k k1 Om Om]
theorem wtF_all(h:NdOk N)(g:Nat→Int):((List.range' 1 (N.length-1)).map g).sum=wtF N g N.length 0:=by
 have t:=telescope h (fun i=>if i=0 then 0 else g i) (fun i=>(if i=0 then 0 else g i)+wtF N g N.length i) fun i hi=>by
  show _+_=_+_
  congr 1
  obtain⟨n,hn⟩:∃n,N.length=n+1:=⟨N.length-1,Om⟩;rw[hn];show(List.map _ _).sum=_
  congr 1
  refine List.map_congr_left fun k hk=> ?_;obtain⟨k0,k1,k2⟩:=(kix_mem h hi).1 hk;have:=(h.dn k k0 k1).1;rw[if_neg Om,wtF_fuel h g n (n+1) k k1 Om Om]
 have e2:List.range N.length=0::List.range' 1 (N.length-1):=by
  rw[List.range_eq_range'];obtain⟨n,hn⟩:∃n,N.length=n+1:=⟨N.length-1,by have:=h.z;omega⟩;rw[hn];rfl
 rw[e2,List.map_cons,List.sum_cons,if_pos rfl]at t;have e3:(List.range' 1 (N.length-1)).map (fun i=>if i=0 then 0 else g i)=(List.range' 1 (N.length-1)).map g:=List.map_congr_left fun k hk=>if_neg (by grind);grind
theorem fold_sum{rec:Nat→Int→List No→List No×Int}{ks:List (ByteArray×Nat×Nat)}{p:Int}{g1 g2:Nat→Int}:∀(K:List ByteArray) (acc:List No×Int),
  (∀s∈K,∀q o,(rec (kget ks s).1 q o).2=g1 (kget ks s).1∧((rec (kget ks s).1 q o).1.length:Int)=(o.length:Int)+g2 (kget ks s).1)→
  (K.foldl (lsS rec N ks p) acc).2=acc.2+(K.map fun s=>N[(kget ks s).1]!.se+g1 (kget ks s).1).sum∧((K.foldl (lsS rec N ks p) acc).1.length:Int)=(acc.1.length:Int)+(K.map fun s=>1+g2 (kget ks s).1).sum
 |[],acc,_=>by simp
 |s::r,acc,h=>by
  have ih:=fold_sum (p:=p) r (lsS rec N ks p acc s) fun s' hs'=>h s' (List.mem_cons_of_mem _ hs');obtain⟨h1,h2⟩:=h s List.mem_cons_self (acc.1.length:Int) (acc.1++[⟨p,s,N[(kget ks s).1]!.se,0,N[(kget ks s).1]!.ct⟩]);have e1:(lsS rec N ks p acc s).2=acc.2+(N[(kget ks s).1]!.se+g1 (kget ks s).1):=by rw[←h1];rfl
  have e2:((lsS rec N ks p acc s).1.length:Int)=(acc.1.length:Int)+(1+g2 (kget ks s).1):=by
   grind [lsS,List.length_set,List.length_append,List.length_singleton]
  grind
theorem ls_sum(h:NdOk N):∀f i,i<N.length→N.length≤i+f→∀p out,(lsK N f i p out).2=wtF N (fun k=>N[k]!.se) f i∧((lsK N f i p out).1.length:Int)=(out.length:Int)+wtF N (fun _=>1) f i
 |0,i,hi,hf,_,_=>by omega
 |f+1,i,hi,hf,p,out=>by
  have hp:=kd_perm h hi;obtain⟨a1,a2⟩:=fold_sum (N:=N) (p:=p) (g1:=wtF N (fun k=>N[k]!.se) f) (g2:=wtF N (fun _=>1) f) (srtB (N[i]!.ks.map (·.1))) (out,0) fun s hs q o=>by
   have hk:(kget N[i]!.ks s).1∈kix N i:=hp.mem_iff.1 (List.mem_map_of_mem (f:=fun s=>(kget N[i]!.ks s).1) hs);obtain⟨k0,k1,k2⟩:=(kix_mem h hi).1 hk;have:=(h.dn _ k0 k1).1;exact ls_sum h f _ k1 Om q o
  have b1:=perm_sum (hp.map fun k=>N[k]!.se+wtF N (fun k=>N[k]!.se) f k);have b2:=perm_sum (hp.map fun k=>1+wtF N (fun _=>1) f k);rw[List.map_map]at b1 b2;refine⟨?_,?_⟩
  ·show((srtB (N[i]!.ks.map (·.1))).foldl (lsS (lsK N f) N N[i]!.ks p) (out,0)).2=((kix N i).map fun k=>N[k]!.se+wtF N (fun k=>N[k]!.se) f k).sum;rw[a1,←b1];show(0:Int)+_=_;rw[Int.zero_add];rfl
  ·show(((srtB (N[i]!.ks.map (·.1))).foldl (lsS (lsK N f) N N[i]!.ks p) (out,0)).1.length:Int)=_+((kix N i).map fun k=>1+wtF N (fun _=>1) f k).sum;rw[a2,←b2];rfl
theorem sum_nn:∀{l:List Int},(∀x∈l,0≤x)→0≤l.sum
 |[],_=>Int.le_refl _
 |x::r,h=>by
  have:=sum_nn fun y hy=>h y (List.mem_cons_of_mem x hy);have:=h x List.mem_cons_self;grind
theorem sum_take{l:List Int}(h:∀x∈l,0≤x){j:Nat}(hj:j<l.length):0≤(l.take j).sum∧(l.take j).sum+l[j]!≤l.sum:=by
 have e:l=l.take (j+1)++l.drop (j+1):=(List.take_append_drop _ _).symm;have h1:l.sum=(l.take (j+1)).sum+(l.drop (j+1)).sum:=by grind
 have h2:=sum_nn (l:=l.drop (j+1)) fun x hx=>h x (List.mem_of_mem_drop hx);have h3:=sum_nn (l:=l.take j) fun x hx=>h x (List.mem_of_mem_take hx);rw[take_1 hj,List.sum_append,List.sum_cons,List.sum_nil]at h1;omega
theorem wtF_nn(h:NdOk N){g:Nat→Int}(hg:∀k,k<N.length→0≤g k):∀f i,i<N.length→0≤wtF N g f i
 |0,_,_=>Int.le_refl _
 |f+1,i,hi=>by
  refine sum_nn fun x hx=> ?_;obtain⟨k,hk,rfl⟩:=List.mem_map.1 hx;obtain⟨k0,k1,k2⟩:=(kix_mem h hi).1 hk;have:=hg k k1;have:=wtF_nn h hg f k k1;omega
theorem bd_of(h:NdOk N)(hs:∀k,k<N.length→0≤N[k]!.se):∀f i,i<N.length→N.length≤i+f→∀p out,(out.length:Int)+wtF N (fun _=>1) f i≤99999→wtF N (fun k=>N[k]!.se) f i≤100000000000000→Bd N f i p out
 |0,i,hi,hf,_,_,_,_=>by omega
 |f+1,i,hi,hf,p,out,hz,hw=>fun j hj=>by
  have hp:=kd_perm h hi;have hk:∀s∈srtB (N[i]!.ks.map (·.1)),(0<(kget N[i]!.ks s).1∧(kget N[i]!.ks s).1<N.length)∧N.length≤(kget N[i]!.ks s).1+f:=fun s hs=>by
   have hk:(kget N[i]!.ks s).1∈kix N i:=hp.mem_iff.1 (List.mem_map_of_mem (f:=fun s=>(kget N[i]!.ks s).1) hs);obtain⟨k0,k1,k2⟩:=(kix_mem h hi).1 hk;have:=(h.dn _ k0 k1).1;omega
  have rec_:∀s∈srtB (N[i]!.ks.map (·.1)),∀q o,(lsK N f (kget N[i]!.ks s).1 q o).2=wtF N (fun k=>N[k]!.se) f (kget N[i]!.ks s).1∧((lsK N f (kget N[i]!.ks s).1 q o).1.length:Int)=(o.length:Int)+wtF N (fun _=>1) f (kget N[i]!.ks s).1:=fun s hs q o=>ls_sum h f _ (hk s hs).1.2 (hk s hs).2 q o;obtain⟨a1,a2⟩:=fold_sum (N:=N) (p:=p) (g1:=wtF N (fun k=>N[k]!.se) f) (g2:=wtF N (fun _=>1) f) ((srtB (N[i]!.ks.map (·.1))).take j) (out,0) fun s hs=>rec_ s (List.mem_of_mem_take hs);have b1:=perm_sum (hp.map fun k=>N[k]!.se+wtF N (fun k=>N[k]!.se) f k);have b2:=perm_sum (hp.map fun k=>1+wtF N (fun _=>1) f k);rw[List.map_map]at b1 b2;have n1:∀k,k<N.length→0≤wtF N (fun k=>N[k]!.se) f k:=fun k hk=>wtF_nn h hs f k hk;have n2:∀k,k<N.length→0≤wtF N (fun _=>1) f k:=fun k hk=>wtF_nn h (fun _ _=>by decide) f k hk;have t1:=sum_take (l:=(srtB (N[i]!.ks.map (·.1))).map fun s=>N[(kget N[i]!.ks s).1]!.se+wtF N (fun k=>N[k]!.se) f (kget N[i]!.ks s).1) (fun x hx=>by
   grind) (j:=j) (by grind)
  have t2:=sum_take (l:=(srtB (N[i]!.ks.map (·.1))).map fun s=>1+wtF N (fun _=>1) f (kget N[i]!.ks s).1) (fun x hx=>by
   grind) (j:=j) (by grind)
  rw[←List.map_take,map_b _ hj]at t1 t2;have z1:wtF N (fun k=>N[k]!.se) (f+1) i=((srtB (N[i]!.ks.map (·.1))).map fun s=>N[(kget N[i]!.ks s).1]!.se+wtF N (fun k=>N[k]!.se) f (kget N[i]!.ks s).1).sum:=b1.symm;have z2:wtF N (fun _=>1) (f+1) i=((srtB (N[i]!.ks.map (·.1))).map fun s=>1+wtF N (fun _=>1) f (kget N[i]!.ks s).1).sum:=b2.symm;have hkj:=hk _ (mem_b hj);have hsj:=hs _ hkj.1.2;have m1:=n1 _ hkj.1.2;have m2:=n2 _ hkj.1.2;have A1:(lsA N f i p out j).2=0+(((srtB (N[i]!.ks.map (·.1))).take j).map fun s=>N[(kget N[i]!.ks s).1]!.se+wtF N (fun k=>N[k]!.se) f (kget N[i]!.ks s).1).sum:=a1;have A2:((lsA N f i p out j).1.length:Int)=(out.length:Int)+(((srtB (N[i]!.ks.map (·.1))).take j).map fun s=>1+wtF N (fun _=>1) f (kget N[i]!.ks s).1).sum:=a2;obtain⟨r1,r2⟩:=rec_ _ (mem_b hj) ((lsA N f i p out j).1.length:Int) (flN1 N f i p out j);have fl:((flN1 N f i p out j).length:Int)=((lsA N f i p out j).1.length:Int)+1:=by grind [flN1,List.length_append]
  have R1:(lsR N f i p out j).2=wtF N (fun k=>N[k]!.se) f (kdI N i j):=r1;have R2:((lsR N f i p out j).1.length:Int)=((flN1 N f i p out j).length:Int)+wtF N (fun _=>1) f (kdI N i j):=r2;change _∧_+(N[kdI N i j]!.se+wtF N (fun k=>N[k]!.se) f (kdI N i j))≤_ at t1;change _∧_+(1+wtF N (fun _=>1) f (kdI N i j))≤_ at t2;change 0≤N[kdI N i j]!.se at hsj;change 0≤wtF N _ f (kdI N i j)at m1 m2;refine⟨Om,bd_of h hs f _ hkj.1.2 hkj.2 _ _ ?_ ?_,⟨Om,Om⟩,⟨Om,hsj,Om⟩,Om⟩
  ·grind [Int,flN1,wtF,kdI]
  grind [wtF,getElem!,kdI]
end
def fblk(N:List Nd):Nat→Nat→Int→Nat→List No
 |0,_,_,_=>[]
 |f+1,i,p,b=>(srtB (N[i]!.ks.map (·.1))).foldl (fun acc s=>acc++(⟨p,s,N[(kget N[i]!.ks s).1]!.se,N[(kget N[i]!.ks s).1]!.se+wtF N (fun k=>N[k]!.se) f (kget N[i]!.ks s).1,N[(kget N[i]!.ks s).1]!.ct⟩::fblk N f (kget N[i]!.ks s).1 ((b+acc.length:Nat):Int) (b+acc.length+1))) []
section
variable{N:List Nd}
theorem set_mid{α:Type}[Inhabited α](a b:List α)(x y:α):(a++x::b).set a.length y=a++y::b:=by
 grind
theorem at_mid{α:Type}[Inhabited α](a b:List α)(x:α):(a++x::b)[a.length]! =x:=by
 grind
theorem lsK_eq(h:NdOk N):∀f i,i<N.length→N.length≤i+f→∀p out,(lsK N f i p out).1=out++fblk N f i p out.length
 |0,i,hi,hf,_,_=>by omega
 |f+1,i,hi,hf,p,out=>by
  have hp:=kd_perm h hi;have key:∀(K:List ByteArray) (acc:List No×Int) (a:List No),(∀s∈K,(kget N[i]!.ks s).1<N.length∧N.length≤(kget N[i]!.ks s).1+f)→acc.1=out++a→
    (K.foldl (lsS (lsK N f) N N[i]!.ks p) acc).1=out++K.foldl (fun acc s=>acc++(⟨p,s,N[(kget N[i]!.ks s).1]!.se,N[(kget N[i]!.ks s).1]!.se+wtF N (fun k=>N[k]!.se) f (kget N[i]!.ks s).1,N[(kget N[i]!.ks s).1]!.ct⟩::fblk N f (kget N[i]!.ks s).1 ((out.length+acc.length:Nat):Int) (out.length+acc.length+1))) a:=by
   intro K
   induction K with
   |nil=>grind
   |cons s r ih=>
    intro acc a hk e;obtain⟨k1,k2⟩:=hk s List.mem_cons_self;rw[List.foldl_cons,List.foldl_cons];refine ih _ _ (fun s' hs'=>hk s' (List.mem_cons_of_mem _ hs')) ?_;have l1:acc.1.length=out.length+a.length:=by grind
    obtain⟨w1,_⟩:=ls_sum h f _ k1 k2 (acc.1.length:Int) (acc.1++[⟨p,s,N[(kget N[i]!.ks s).1]!.se,0,N[(kget N[i]!.ks s).1]!.ct⟩]);have e1:=lsK_eq h f _ k1 k2 (acc.1.length:Int) (acc.1++[⟨p,s,N[(kget N[i]!.ks s).1]!.se,0,N[(kget N[i]!.ks s).1]!.ct⟩]);grind [lsS,List.append_assoc,List.singleton_append,at_mid,set_mid,List.length_append,List.length_singleton]
  exact key _ (out,0) [] (fun s hs=>by
   have hk:(kget N[i]!.ks s).1∈kix N i:=hp.mem_iff.1 (List.mem_map_of_mem (f:=fun s=>(kget N[i]!.ks s).1) hs);obtain⟨k0,k1,k2⟩:=(kix_mem h hi).1 hk;have:=(h.dn _ k0 k1).1;omega) (List.append_nil _).symm
def ffo(N:List Nd)(f i:Nat)(p:Int):Nat→List ByteArray→List No
 |_,[]=>[]
 |b,s::r=>(⟨p,s,N[(kget N[i]!.ks s).1]!.se,N[(kget N[i]!.ks s).1]!.se+wtF N (fun k=>N[k]!.se) f (kget N[i]!.ks s).1,N[(kget N[i]!.ks s).1]!.ct⟩::fblk N f (kget N[i]!.ks s).1 (b:Int) (b+1))++ffo N f i p (b+1+(fblk N f (kget N[i]!.ks s).1 (b:Int) (b+1)).length) r
theorem fblk_ffo(f i:Nat)(p:Int)(b:Nat):fblk N (f+1) i p b=ffo N f i p b (srtB (N[i]!.ks.map (·.1))):=by
 have key:∀(K:List ByteArray) (a:List No),K.foldl (fun acc s=>acc++(⟨p,s,N[(kget N[i]!.ks s).1]!.se,N[(kget N[i]!.ks s).1]!.se+wtF N (fun k=>N[k]!.se) f (kget N[i]!.ks s).1,N[(kget N[i]!.ks s).1]!.ct⟩::fblk N f (kget N[i]!.ks s).1 ((b+acc.length:Nat):Int) (b+acc.length+1))) a=a++ffo N f i p (b+a.length) K:=by
  intro K
  induction K with
  |nil=>grind [ffo]
  |cons s r ih=>
   intro a;rw[List.foldl_cons,ih,List.append_assoc]
   congr 1
   show _=(_::_)++ffo _ _ _ _ _ r;grind
 exact key (srtB (N[i]!.ks.map (·.1))) []
theorem fblk_len(h:NdOk N){f i:Nat}(hi:i<N.length)(hf:N.length≤i+f)(p:Int)(b:Nat):((fblk N f i p b).length:Int)=wtF N (fun _=>1) f i:=by
 have e1:=lsK_eq h f i hi hf p (List.replicate b default);grind [ls_sum,List.replicate,default,List.length_append,List.length_replicate]
theorem flL_eq(h:NdOk N):flL N=fblk N N.length 0 (-1) 0:=by
 unfold flL;rw[lsK_eq h _ _ h.z Om];rfl
theorem flL_len(h:NdOk N):(flL N).length=N.length-1:=by
 have e:=fblk_len h h.z (by omega:N.length≤0+N.length) (-1) 0;rw[←flL_eq h,←wtF_all h]at e;have:((List.range' 1 (N.length-1)).map fun _=>(1:Int)).sum=((N.length-1:Nat):Int):=by
  have key:∀l:List Nat,(l.map fun _=>(1:Int)).sum=(l.length:Int):=fun l=>by
   induction l<;>grind
  grind
 omega
def Pr(b:Nat)(p:Int)(L:List No):Prop:=∀q,q<L.length→L[q]!.pa=p∨((b:Int)≤L[q]!.pa∧L[q]!.pa<(b:Int)+q)
theorem Pr.cons{b:Nat}{p:Int}{x:No}{sub r:List No}(hx:x.pa=p)(hs:Pr (b+1) (b:Int) sub)(hr:Pr (b+1+sub.length) p r):Pr b p ((x::sub)++r):=fun q hq=>by
 by_cases c:q<(x::sub).length
 ·rw[app_l c];cases q with
  |zero=>grind
  |succ q=>
   have c':q<sub.length:=by grind
   rw[show(x::sub)[q+1]! =sub[q]! from by simp]
   right
   rcases hs q c' with e|e<;>omega
 ·rw[List.length_append]at hq;rw[app_r Om hq];simp only[List.length_cons]at c hq ⊢;rcases hr (q-(sub.length+1)) Om with e|e<;>grind
inductive Up(X:List No):Int→Int→Prop where
 |here (a:Int):Up X a a
 |step {a p:Int}:0≤a→Up X X[a.toNat]!.pa p→Up X a p
theorem Up.trans{X:List No}{a b c:Int}(h:Up X a b)(g:Up X b c):Up X a c:=by
 induction h<;>grind [here,step]
def Blkd(X:List No)(b:Nat)(L:List No):Prop:=∀q,q<L.length→X[b+q]! =L[q]!
def Upw(X:List No)(b:Nat)(p:Int)(L:List No):Prop:=Blkd X b L→Up X ((b:Int)-1) p→(∀q,q<L.length→Up X ((b:Int)+q-1) L[q]!.pa)∧Up X ((b:Int)+L.length-1) p
theorem Upw.cons{X:List No}{b:Nat}{p:Int}{x:No}{sub r:List No}(hx:x.pa=p)(hs:Upw X (b+1) (b:Int) sub)(hr:Upw X (b+1+sub.length) p r):Upw X b p ((x::sub)++r):=fun hb h0=>by
 have b0:=hb 0 (by simp);have e0:X[b]!.pa=p:=by grind
 have bs:Blkd X (b+1) sub:=fun q hq=>by
  have:=hb (q+1) (by grind);grind
 have br:Blkd X (b+1+sub.length) r:=fun q hq=>by
  have:=hb (sub.length+1+q) (by grind);grind
 obtain⟨s1,s2⟩:=hs bs (by rw[show((b+1:Nat):Int)-1=(b:Int)from Om];exact .here _);have up:Up X (((b+1+sub.length:Nat):Int)-1) p:=by
  rw[show((b+1+sub.length:Nat):Int)-1=((b+1:Nat):Int)+(sub.length:Int)-1 from Om];exact s2.trans (.step Om (by rw[Int.toNat_natCast,e0];exact .here _))
 obtain⟨r1,r2⟩:=hr br up;refine⟨fun q hq=> ?_,?_⟩
 ·by_cases c:q<(x::sub).length
  ·rw[app_l c];cases q<;>grind
  grind
 grind
theorem fblk_ch(N:List Nd)(X:List No):∀f i p b,Upw X b p (fblk N f i p b)
 |0,_,_,_=>fun _ h0=>⟨fun q hq=>absurd hq (Nat.not_lt_zero q),by grind [fblk]⟩
 |f+1,i,p,b=>by
  rw[fblk_ffo];generalize srtB (N[i]!.ks.map (·.1))=K
  induction K generalizing b with
  |nil=>exact fun _ h0=>⟨fun q hq=>absurd hq (Nat.not_lt_zero q),by grind [ffo]⟩
  |cons s r ih=>exact Upw.cons rfl (fblk_ch N X f _ _ _) (ih _)
theorem up_ab{X:List No}(hX:∀k,k<X.length→X[k]!.pa<k){p:Int}:∀(n:Nat) (a:Int),a<n→a<X.length→Up X a p→abF X p n a=p
 |0,a,h1,_,u=>by
  cases u with
  |here=>rfl
  |step h0 _=>omega
 |n+1,a,h1,h2,u=>by
  by_cases c:0≤a∧a≠p
  ·cases u with
   |here=>omega
   |step h0 v=>
    have:=hX a.toNat Om;show(if 0≤a∧a≠p then _ else _)=p;rw[if_pos c];exact up_ab hX n _ Om Om v
  ·rw[abF_end c];cases u<;>grind
end
theorem blt_iff:∀x y:List UInt8,Op.bytesLess x y=true↔x<y
 |[],[]=>⟨fun h=>(by cases h),fun h=>absurd h (List.not_lt_nil _)⟩
 |[],_::_=>⟨fun _=>List.nil_lt_cons _ _,fun _=>rfl⟩
 |_::_,[]=>⟨fun h=>(by cases h),fun h=>absurd h (List.not_lt_nil _)⟩
 |a::x,b::y=>by
  show(decide (a<b)||(a==b&&Op.bytesLess x y))=true↔_;rw[Bool.or_eq_true,decide_eq_true_eq,Bool.and_eq_true,beq_iff_eq,blt_iff x y,List.cons_lt_cons_iff]
theorem ble_iff(x y:List UInt8):x≤y↔Op.bytesLess y x=false:=by
 show¬y<x↔_;rw[←blt_iff,Bool.not_eq_true]
theorem srtB_up(l:List ByteArray):(srtB l).Pairwise fun a b=>Y.lt b a=false:=by
 have h:=List.pairwise_mergeSort (le:=fun x y:List UInt8=>decide (x≤y)) (fun a b c h1 h2=>by
  grind) (fun a b=>by
  grind) (l.map bl)
 rw[←srtB_bl,List.pairwise_map]at h;refine h.imp fun{a b} q=> ?_;rw[decide_eq_true_eq,ble_iff]at q;show Op.bytesLess b.toList a.toList=false;rw[ByteArray.toList_eq,ByteArray.toList_eq];exact q
theorem srtB_lt{l:List ByteArray}(hn:l.Nodup):(srtB l).Pairwise fun a b=>Y.lt a b=true:=by
 have h1:=srtB_up l;have h2:(srtB l).Nodup:=(srtB_perm l).nodup_iff.2 hn;rw[List.nodup_iff_pairwise_ne]at h2;refine(h1.and h2).imp fun{a b} q=> ?_;cases e:Y.lt a b with
 |true=>rfl
 |false=>grind [absurd,ylt_tri]
def sumP(L:List No)(k:Int):Int:=(L.map fun x=>if x.pa=k then x.to else 0).sum
theorem sumP_cons(x:No)(L:List No)(k:Int):sumP (x::L) k=(if x.pa=k then x.to else 0)+sumP L k:=by rfl
theorem sumP_app(A B:List No)(k:Int):sumP (A++B) k=sumP A k+sumP B k:=by unfold sumP;grind
theorem sumP_zero{L:List No}{k:Int}(h:∀x∈L,x.pa≠k):sumP L k=0:=by
 induction L with
 |nil=>rfl
 |cons x r ih=>
  simp_all [sumP_cons,List.mem_cons_of_mem,if_neg,List.mem_cons_self]
theorem kdR_sum(l:List No)(k:Nat):∀m,m≤l.length→kdR l k m=sumP (l.drop (l.length-m)) k
 |0,_=>by rw[Nat.sub_zero,List.drop_length];rfl
 |m+1,h=>by
  have hl:l.length-(m+1)<l.length:=Om;rw[List.drop_eq_getElem_cons hl,sumP_cons,show l.length-(m+1)+1=l.length-m from Om,←kdR_sum l k m Om,←bang_eq hl];rw[show l.length-(m+1)=l.length-1-m from Om];show(if l[l.length-1-m]!.pa=(k:Int)then kdR l k m+l[l.length-1-m]!.to else kdR l k m)=_;omega
section
variable{N:List Nd}
structure Fb(N:List Nd)(b:Nat)(p:Int)(L:List No)(W C:Int):Prop where
 pr:Pr b p L
 nd:∀x∈L,∃k,0<k∧k<N.length∧x.nm=N[k]!.nm∧x.se=N[k]!.se∧x.ct=N[k]!.ct
 t:∀q,q<L.length→L[q]!.to=L[q]!.se+sumP L ((b+q:Nat):Int)
 tp:sumP L p=W
 sm:(L.map (·.se)).sum=W
 cm:(L.map (·.ct)).sum=C
 w0:0≤W
 tr:∀x∈L,0≤x.to∧x.to≤W
 so:∀q q',q<q'→q'<L.length→L[q]!.pa=L[q']!.pa→Y.lt L[q]!.nm L[q']!.nm=true
 f:∀q,q<L.length→L[q]!.ct=0→q+1<L.length∧L[q+1]!.pa=((b+q:Nat):Int)
theorem Fb.nil(N:List Nd)(b:Nat)(p:Int):Fb N b p [] 0 0:=
 ⟨fun q h=>absurd h (Nat.not_lt_zero q),fun x h=>(by cases h),fun q h=>absurd h (Nat.not_lt_zero q),rfl,rfl,rfl,Int.le_refl _,fun x h=>(by cases h),fun _ q _ h=>absurd h (Nat.not_lt_zero q),fun q h=>absurd h (Nat.not_lt_zero q)⟩
theorem pr_ne{b:Nat}{p:Int}{L:List No}(h:Pr b p L){k:Int}(h1:k≠p)(h2:k<b∨(b:Int)+L.length≤k):∀x∈L,x.pa≠k:=fun x hx e=>by
 obtain⟨q,hq,rfl⟩:=List.mem_iff_getElem.1 hx;have:=h q hq;grind
theorem Fb.cons{b:Nat}{p:Int}{x:No}{sub r:List No}{W1 W2 C1 C2:Int}(hs:Fb N (b+1) (b:Int) sub W1 C1)(hr:Fb N (b+1+sub.length) p r W2 C2)(hp:p<b)(hx:x.pa=p)(ht:x.to=x.se+W1)(h0:0≤x.se)
  (hn:∃k,0<k∧k<N.length∧x.nm=N[k]!.nm∧x.se=N[k]!.se∧x.ct=N[k]!.ct) (hk:x.ct=0→sub≠[]) (hso:∀y∈r,y.pa=p→Y.lt x.nm y.nm=true):Fb N b p ((x::sub)++r) (x.se+W1+W2) (x.ct+C1+C2):=by
 have pr:=Pr.cons hx hs.pr hr.pr;have hW1:=hs.w0;have hW2:=hr.w0;have at0:∀{q},q<sub.length→((x::sub)++r)[q+1]! =sub[q]! :=fun{q} h=>by grind
 have atr:∀{q},q<r.length→((x::sub)++r)[q+(sub.length+1)]! =r[q]! :=fun{q} h=>by
  grind
 have hlen:((x::sub)++r).length=sub.length+1+r.length:=by grind
 have cases_:∀q,q<((x::sub)++r).length→q=0∨(∃a,q=a+1∧a<sub.length)∨∃a,q=a+(sub.length+1)∧a<r.length:=fun q hq=>by
  by_cases c:q=0
  ·omega
  ·by_cases d:q<sub.length+1
   ·exact .inr (.inl ⟨q-1,Om,Om⟩)
   ·exact .inr (.inr ⟨q-(sub.length+1),Om,Om⟩)
 refine⟨pr,fun y hy=> ?_,fun q hq=> ?_,?_,?_,?_,Om,fun y hy=> ?_,fun q q' hqq hq' e=> ?_,fun q hq hc=> ?_⟩
 ·rw[List.cons_append,List.mem_cons,List.mem_append]at hy;rcases hy with rfl|hy|hy
  ·exact hn
  ·exact hs.nd y hy
  ·exact hr.nd y hy
 ·rw[List.cons_append,sumP_cons,sumP_app,←List.cons_append,hx];rcases cases_ q hq with rfl|⟨a,rfl,ha⟩|⟨a,rfl,ha⟩
  ·rw[show((x::sub)++r)[0]! =x from rfl,ht,Nat.add_zero,if_neg Om,hs.tp,sumP_zero (pr_ne hr.pr Om (.inl Om))];omega
  ·rw[at0 ha,hs.t a ha,if_neg Om,sumP_zero (pr_ne hr.pr (k:=((b+(a+1):Nat):Int)) Om (.inl Om)),show b+(a+1)=b+1+a from Om];omega
  ·rw[atr ha,hr.t a ha,if_neg Om,sumP_zero (pr_ne hs.pr (k:=((b+(a+(sub.length+1)):Nat):Int)) Om (.inr Om)),show b+(a+(sub.length+1))=b+1+sub.length+a from Om];omega
 ·rw[List.cons_append,sumP_cons,sumP_app,if_pos hx,ht,hr.tp,sumP_zero (pr_ne hs.pr Om (.inl Om))];omega
 ·rw[List.cons_append,List.map_cons,List.map_append,List.sum_cons,List.sum_append,hs.sm,hr.sm];omega
 ·rw[List.cons_append,List.map_cons,List.map_append,List.sum_cons,List.sum_append,hs.cm,hr.cm];omega
 ·rw[List.cons_append,List.mem_cons,List.mem_append]at hy;rcases hy with rfl|hy|hy
  ·omega
  ·have:=hs.tr y hy;omega
  ·have:=hr.tr y hy;omega
 ·have h1:=fun a ha=>hs.pr a ha;rcases cases_ q Om with rfl|⟨a,rfl,ha⟩|⟨a,rfl,ha⟩<;>rcases cases_ q' hq' with rfl|⟨a',rfl,ha'⟩|⟨a',rfl,ha'⟩
  ·omega
  ·grind
  ·grind
  ·omega
  ·rw[at0 ha,at0 ha']at e ⊢;exact hs.so a a' Om ha' e
  ·rw[at0 ha,atr ha']at e;have:=hs.pr a ha;have:=hr.pr a' ha';omega
  ·omega
  ·omega
  ·rw[atr ha,atr ha']at e ⊢;exact hr.so a a' Om ha' e
 ·rcases cases_ q hq with rfl|⟨a,rfl,ha⟩|⟨a,rfl,ha⟩
  ·have h1:=hk hc;have h2:0<sub.length:=List.length_pos_iff.2 h1;refine⟨Om,?_⟩;rw[at0 h2];have:=hs.pr 0 h2;omega
  ·rw[at0 ha]at hc;obtain⟨g1,g2⟩:=hs.f a ha hc;grind
  ·rw[atr ha]at hc;obtain⟨g1,g2⟩:=hr.f a ha hc;grind
theorem kd_node(h:NdOk N){i:Nat}(hi:i<N.length){s:ByteArray}(hs:s∈N[i]!.ks.map (·.1)):i<(kget N[i]!.ks s).1∧(kget N[i]!.ks s).1<N.length∧N[(kget N[i]!.ks s).1]!.nm=s:=by
 obtain⟨u1,u2,_,_,u5⟩:=h.up i hi _ (kget_mem hs);grind
theorem fblk_ok(h:NdOk N)(hs:∀k,k<N.length→0≤N[k]!.se)(hl:∀k,0<k→k<N.length→N[k]!.ct=0→N[k]!.ks≠[]):∀f i,i<N.length→N.length≤i+f→∀(p:Int) (b:Nat),p<b→Fb N b p (fblk N f i p b) (wtF N (fun k=>N[k]!.se) f i) (wtF N (fun k=>N[k]!.ct) f i)
 |0,i,hi,hf,_,_,_=>by omega
 |f+1,i,hi,hf,p,b,hpb=>by
  have hp:=kd_perm h hi;have b1:=perm_sum (hp.map fun k=>N[k]!.se+wtF N (fun k=>N[k]!.se) f k);have b2:=perm_sum (hp.map fun k=>N[k]!.ct+wtF N (fun k=>N[k]!.ct) f k);rw[List.map_map]at b1 b2;rw[fblk_ffo,show wtF N (fun k=>N[k]!.se) (f+1) i=_ from b1.symm,show wtF N (fun k=>N[k]!.ct) (f+1) i=_ from b2.symm];have key:∀(K:List ByteArray) (b:Nat),p<b→(∀s∈K,s∈N[i]!.ks.map (·.1))→K.Pairwise (fun a b=>Y.lt a b=true)→
    Fb N b p (ffo N f i p b K) (K.map ((fun k=>N[k]!.se+wtF N (fun k=>N[k]!.se) f k)∘fun s=>(kget N[i]!.ks s).1)).sum (K.map ((fun k=>N[k]!.ct+wtF N (fun k=>N[k]!.ct) f k)∘fun s=>(kget N[i]!.ks s).1)).sum∧∀y∈ffo N f i p b K,y.pa=p→y.nm∈K:=by
   intro K
   induction K with
   |nil=>intro b _ _ _;exact⟨Fb.nil N b p,fun y hy=>by cases hy⟩
   |cons s r ih=>
    intro b hpb hK hso;obtain⟨so1,so2⟩:=List.pairwise_cons.1 hso;obtain⟨k0,k1,k2⟩:=kd_node h hi (hK s List.mem_cons_self);have hsub:=fblk_ok h hs hl f _ k1 Om (b:Int) (b+1) Om;obtain⟨i1,i2⟩:=ih (b+1+(fblk N f (kget N[i]!.ks s).1 (b:Int) (b+1)).length) Om (fun s' hs'=>hK s' (List.mem_cons_of_mem _ hs')) so2;have hc:=Fb.cons (x:=⟨p,s,N[(kget N[i]!.ks s).1]!.se,N[(kget N[i]!.ks s).1]!.se+wtF N (fun k=>N[k]!.se) f (kget N[i]!.ks s).1,N[(kget N[i]!.ks s).1]!.ct⟩) hsub i1 hpb rfl rfl (hs _ k1) ⟨_,Om,k1,k2.symm,rfl,rfl⟩ (fun e=>by
     have hne:=hl _ Om k1 e;obtain⟨g,hg⟩:∃g,f=g+1:=⟨f-1,Om⟩;subst hg;rw[fblk_ffo];cases e2:srtB (N[(kget N[i]!.ks s).1]!.ks.map (·.1))with
     |nil=>
      grind [srtB_len,getElem!,kget,List.length_map,absurd,List.eq_nil_of_length_eq_zero]
     |cons t r'=>unfold ffo;simp) (fun y hy e=>so1 _ (i2 y hy e))
    refine⟨by
     rw[List.map_cons,List.map_cons,List.sum_cons,List.sum_cons];exact hc,fun y hy e=> ?_⟩
    have hy:y∈(_::_)++_:=hy;rw[List.cons_append,List.mem_cons,List.mem_append]at hy;rcases hy with rfl|hy|hy
    ·grind
    ·exact absurd e (pr_ne hsub.pr Om (.inl Om) y hy)
    grind
  exact(key _ b hpb (fun s hs=>(srtB_perm _).mem_iff.1 hs) (srtB_lt (h.nd i hi))).1
theorem seN_sum(l:List No):∀j,j≤l.length→seN l j=((l.take j).map (·.se)).sum
 |0,_=>by rfl
 |j+1,h=>by
  unfold seN;rw[seN_sum l j Om,take_1 Om,List.map_append,List.sum_append];simp
theorem ctN_sum(l:List No):∀j,j≤l.length→ctN l j=((l.take j).map (·.ct)).sum
 |0,_=>by rfl
 |j+1,h=>by
  unfold ctN;rw[ctN_sum l j Om,take_1 Om,List.map_append,List.sum_append];simp
theorem map_rng(N:List Nd)(g:Nd→Int):((List.range' 1 (N.length-1)).map fun k=>g N[k]!).sum+(if N=[]then 0 else g N[0]!)=(N.map g).sum:=by
 have e:N.map g=(List.range N.length).map fun k=>g N[k]! :=by
  refine list_ext (by simp) fun k hk=> ?_;grind
 rw[e];cases N with
 |nil=>rfl
 |cons x r=>
  rw[if_neg (by simp),show(x::r).length=r.length+1 from rfl,List.range_eq_range',List.range'_succ,List.map_cons,List.sum_cons];grind
theorem fl_ok:∀N S C,Fa N N S C 0 0→N.length≤2001→S≤100000000000000→C≤20000→FlG N S:=fun N S C h hn hS hC=>by
 have ok:=h.ok;have hz:=ok.z;have hse:∀k,k<N.length→0≤N[k]!.se:=fun k hk=>(h.v k hk).1;have hct:∀k,k<N.length→0≤N[k]!.ct:=fun k hk=>(h.v k hk).2.1;have ne:N≠[]:=fun e=>by grind
 have m1:=map_rng N (·.se);have m2:=map_rng N (·.ct);rw[if_neg ne]at m1 m2;have zs:N[0]!.se=0:=h.z.1;have zc:N[0]!.ct=0:=h.z.2;rw[zs,wtF_all ok]at m1;rw[zc,wtF_all ok]at m2;have hs':(N.map (·.se)).sum=S:=h.s;have hc':(N.map (·.ct)).sum=C:=h.c;have w1:wtF N (fun k=>N[k]!.se) N.length 0=S:=Om;have w2:wtF N (fun k=>N[k]!.ct) N.length 0=C:=Om;have F:=fblk_ok ok hse (fun k h0 hk e=>h.lf k h0 hk Om e) N.length 0 hz Om (-1) 0 Om;have X:=fblk_ch N (flL N) N.length 0 (-1) 0;rw[←flL_eq ok]at F X;rw[w1,w2]at F;have hlen:=flL_len ok;obtain⟨X1,_⟩:=X (fun q hq=>by rw[Nat.zero_add]) (.here _);have par:∀i,i<(flL N).length→-1≤(flL N)[i]!.pa∧(flL N)[i]!.pa<i:=fun i hi=>by have:=F.pr i hi;omega
 have sN:=leN_sum (·.se) (N:=N) hse;have cN:=leN_sum (·.ct) (N:=N) hct;have sE:seN (flL N) (flL N).length=S:=by rw[seN_sum _ _ Nl,List.take_length,F.sm]
 have cE:ctN (flL N) (flL N).length=C:=by rw[ctN_sum _ _ Nl,List.take_length,F.cm]
 have one:wtF N (fun _=>1) N.length 0=((N.length-1:Nat):Int):=by
  grind [fblk_len,flL_eq]
 refine⟨bd_of ok hse N.length 0 hz Om (-1) [] (by grind) Om,⟨Om,fun i hi=> ?_,Om,Om,par,fun i hi=> ?_,fun i j hij hj e=>F.so i j hij hj e,fun i hi=> ?_,fun i hi=> ?_,fun i hi e hc=> ?_⟩,sE⟩
 ·obtain⟨k,k0,k1,e1,e2,e3⟩:=F.nd _ (mem_b hi);have v:=h.v k k1;grind
 ·have:=par i hi;refine up_ab (fun k hk=>(par k hk).2) i _ Om Om ?_;grind
 ·have:=F.tr _ (mem_b hi);omega
 ·rw[F.t i hi,kdR_sum _ _ _ Nl,Nat.sub_self,List.drop_zero,Nat.zero_add]
 ·obtain⟨g1,g2⟩:=F.f i hi hc;unfold lfB at e;grind
theorem fl_ct{N:List Nd}{S C:Int}(h:Fa N N S C 0 0):ctN (flL N) (flL N).length=C∧(flL N).length+1=N.length:=by
 have ok:=h.ok;have hz:=ok.z;have hse:∀k,k<N.length→0≤N[k]!.se:=fun k hk=>(h.v k hk).1;have ne:N≠[]:=fun e=>by grind
 have m2:=map_rng N (·.ct);rw[if_neg ne]at m2;have zc:N[0]!.ct=0:=h.z.2;rw[zc,wtF_all ok]at m2;have hc':(N.map (·.ct)).sum=C:=h.c;have F:=fblk_ok ok hse (fun k h0 hk e=>h.lf k h0 hk Om e) N.length 0 hz Om (-1) 0 Om;rw[←flL_eq ok]at F;have hlen:=flL_len ok;refine⟨?_,Om⟩;rw[ctN_sum _ _ Nl,List.take_length,F.cm];omega
end
def fwN(l:List Sm):Nat→Int
 |0=>0
 |j+1=>if 0<l[j]!.n then fwN l j+l[j]!.w else fwN l j
def fkN(l:List Sm):Nat→Nat
 |0=>0
 |j+1=>fkN l j+l[j]!.n
theorem fwN_mono{l:List Sm}(h:∀j,j<l.length→0≤l[j]!.w):∀m n,m≤n→n≤l.length→0≤fwN l m∧fwN l m≤fwN l n
 |m,0,h1,_=>by rw[show m=0 from Om];exact⟨Int.le_refl _,Int.le_refl _⟩
 |m,n+1,h1,h2=>by
  have hw:=h n Om;by_cases e:m=n+1
  ·subst e;have ih:=fwN_mono h n n Nl Om;refine⟨?_,Int.le_refl _⟩;unfold fwN;split<;>omega
  ·have ih:=fwN_mono h m n Om Om;refine⟨ih.1,?_⟩;show _≤(if 0<l[n]!.n then _ else _);split<;>omega
theorem fkN_mono(l:List Sm):∀m n,m≤n→fkN l m≤fkN l n
 |m,0,h=>by rw[show m=0 from Om];exact Nat.le_refl _
 |m,n+1,h=>by
  by_cases e:m=n+1
  ·subst e;exact Nat.le_refl _
  ·have:=fkN_mono l m n Om;show _≤fkN l n+l[n]!.n;omega
theorem fr_nm{l:List ByteArray}(h:frF l=0):∀s∈l,nmF s=0:=fun s hs=>by
 unfold frF at h;split at h
 ·cases h
 ·obtain⟨i,hi,rfl⟩:=mem_at hs;exact fE_ok.1 h i hi
theorem Fa.start(g:Nat):Fa [⟨g,none,0,⟨#[]⟩,0,0,[]⟩] [⟨g,none,0,⟨#[]⟩,0,0,[]⟩] 0 0 0 0:=by
 have e:∀k,k<[(⟨g,none,0,⟨#[]⟩,0,0,[]⟩:Nd)].length→[(⟨g,none,0,⟨#[]⟩,0,0,[]⟩:Nd)][k]! =⟨g,none,0,⟨#[]⟩,0,0,[]⟩:=fun k hk=>by
  rw[show k=0 from by simpa using hk];rfl
 refine⟨⟨by simp,fun i hi _=>(by rw[e i hi]),fun i hi p hp=>(by rw[e i hi]at hp;cases hp),fun k h0 hk=>(by exfalso;simp at hk;omega),fun i hi=>(by rw[e i hi];exact List.nodup_nil)⟩,by simp,by simp,rfl,rfl,rfl,⟨rfl,rfl⟩,fun k hk=> ?_,fun k h0 hk=>(by exfalso;simp at hk;omega),.inl rfl⟩;rw[e k hk];exact⟨Int.le_refl _,Int.le_refl _,fun _=>rfl,fun h0=>by exfalso;simp at hk;omega⟩
theorem flosm_any(A_l:Option Addr)(n_l c_l:Nat)(l:List Sm)(w:World)(h_l:Ls w A_l n_l c_l Sm.c 4 l)(g_l:∀x∈l,Ls w x.A x.n x.cp sc 1 x.st)(ids:List Int)(E:Int)(hv:SqOk ids E (l.map Sm.q))(hn:n_l≤1000)(hS:fwN l l.length≤100000000000000)(hK:fkN l l.length≤2000):
  Calls Tryz.prog 11 #[.slice A_l n_l c_l] w fun e w'=>∃v L,e= .returned (.tuple #[v,.int .i64 0])∧OwnL w' w.heap.size 73 No.c 5 v L∧FlOk L∧seN L L.length=fwN l l.length∧Ext w w':=by
 have H:=(Hp.nil w);have e_l:=h_l.len;have z_l:=h_l.nle;have hw:∀j,j<l.length→0≤l[j]!.w:=fun j hj=>by
  have vj:_∧_∧(1≤l[j]!.w∧_)∧_:=hv.v (Sm.q l[j]!) (List.mem_map_of_mem (mem_b hj));omega
 refine Wb Tryz.func11 ?_;refine go ?_;refine c1 H Fh (smpchk_any _ _ _ _ _ (h_l.ext H.ext) (fun x hx=>(g_l x hx).ext H.ext) ids E hv) fun z H=> ?_;refine G4 ?_;refine Kd ?_;refine go ?_;refine WC.condF rfl ?_;refine go ?_;refine bx H fun g6 z H=> ?_;have H:=H.bigNil ndF;have H:=H.front [1,0];have H:Hp w _ (big ndF ([]++[⟨g6,none,0,⟨#[]⟩,0,0,[]⟩])::_):=Hp.bigPush ndF ⟨g6,none,0,⟨#[]⟩,0,0,[]⟩ H;have fs_:=Fa.start g6;refine go ?_;refine sb [17,5,15,16] ?_;refine WC.loopS 1 (fun mz Ed W'=>∃j:Nat,∃N:List Nd,∃C:Int,mz=n_l-j∧Ed=[(17,.int .i64 ((j:Nat):Int))]∧Hp w W' (big ndF N::[])∧(j≤n_l)∧(Fa N N (fwN l j) C 0 0)∧(0≤C∧C≤(j:Int))∧(N.length≤1+fkN l j)∧(N[0]!.g=g6)) _ ⟨0,_,0,rfl,rfl,(H.pick [0]),(Nat.zero_le _),fs_,Om,(by simp),rfl⟩ ?_;rintro _ _ z ⟨j,N,C,rfl,rfl,H,jl,hF,hC,hN,hg⟩;refine go ?_;refine Cd (fun p13=> ?_) fun p13=> ?_
 ·have vj:=hv.v (Sm.q l[j]!) (List.mem_map_of_mem (mem_b (show j<l.length by omega)));have vj:((0≤l[j]!.th∧l[j]!.th≤1000000000000000)∧(0≤l[j]!.at_∧l[j]!.at_<E∧l[j]!.at_≤1000000000000)∧(1≤l[j]!.w∧l[j]!.w≤1000000000000)∧frF l[j]!.st=0):=vj;have wj:=fwN_mono hw (j+1) l.length Om Nl;have kj:=fkN_mono l (j+1) l.length Om;have sl:=(g_l _ (mem_b (show j<l.length by omega))).len;have fl_:=frF_len vj.2.2.2;have kj2:fkN l (j+1)=fkN l j+l[j]!.n:=rfl;have b16:j<n_l:=Om;refine go ?_;refine al H ti53 fun g17 z H=> ?_;refine st H 0 ti53 fun z H=> ?_;refine go ?_;refine Cd (fun p20=> ?_) fun p20=> ?_
  ·have wj2:fwN l (j+1)=fwN l j+l[j]!.w:=if_pos Om;refine go ?_;refine c3 Fh (fladd_any _ _ _ _ l[j]!.st l[j]!.w N (fwN l j) C _ _ _ (H.front [1]) (fun _ _ H=>(g_l _ (mem_b (show j<l.length by omega))).ext H.ext) hF hg Om Om Om (fr_nm vj.2.2.2) Om) ?_;rintro _ z ⟨N21,rfl,H,hF,hN_,hg_⟩;refine⟨_,rfl,?_⟩;refine go ?_;exact Rs [(17,_)] Sx ⟨(j+1),N21,(C+1),rfl,rfl,(H.pick [0]),Om,(by rw[show fwN l (j+1)=fwN l j+l[j]!.w from if_pos Om];exact hF),Om,(by show _≤1+(fkN l j+l[j]!.n);omega),(hg_.trans hg)⟩
  ·refine go ?_;exact Rs [(17,_)] Sx ⟨(j+1),N,C,rfl,rfl,(H.pick [1]),Om,(by rw[show fwN l (j+1)=fwN l j from if_neg Om];exact hF),Om,(by show _≤1+(fkN l j+l[j]!.n);omega),hg⟩
 ·obtain rfl:j=l.length:=Om;have hG:=fl_ok N _ C hF Om hS Om;refine G5 ?_;refine sb [5] ?_;refine go ?_;refine c3 Fh (flbuilt_g N (fwN l l.length) _ _ _ _ (H.front [0]) hF.ok Om hG hg) ?_;rintro _ z ⟨v23,rfl,H⟩;refine⟨_,rfl,?_⟩;refine go ?_;refine Rt [_,_] ?_;exact⟨_,flL N,rfl,H.out 0,hG.c,hG.s,H.ext⟩
namespace Sq
open Go.Proofs.YtaclfjjipnpboaaGreat.Sp
theorem filter_take(l:List S){i:Nat}(h:i<l.length):(l.take (i+1)).filter ok=(l.take i).filter ok++if ok l[i]! then[l[i]!]else[]:=by
 rw[take_1 h,List.filter_append]
 congr 1
 cases hb:ok l[i]!
 ·rw[List.filter_cons_of_neg (by rw[hb];decide)];rfl
 ·rw[List.filter_cons_of_pos hb];rfl
theorem filter_len(l:List S)(i:Nat):((l.take i).filter ok).length≤i:=by
 have:=List.length_filter_le ok (l.take i);rw[List.length_take]at this;omega
theorem fold_take_len(ss:List S)(i:Nat):((ss.take i).foldl Sp.step []).length≤i:=by
 have:=Sp.fold_len (ss.take i) [];rw[List.length_take]at this;simp at this;omega
theorem fold_ext{ss:List S}{i n:Nat}(hi:i<ss.length)(hn:((ss.take i).foldl Sp.step []).length=n)(h:(decide ((n:Int)>0)&&decide (ss[i]!.f≤((ss.take i).foldl Sp.step [])[n-1]!.t))=true):
  (ss.take (i+1)).foldl Sp.step []=((ss.take i).foldl Sp.step []).set (n-1) ⟨((ss.take i).foldl Sp.step [])[n-1]!.f,max ((ss.take i).foldl Sp.step [])[n-1]!.t ss[i]!.t⟩:=by
 subst hn;have h1:=dec_t (and_t h).1;have h2:=dec_t (and_t h).2;rw[take_1 hi,List.foldl_append,List.foldl_cons,List.foldl_nil,Sp.step,if_pos ⟨Om,h2⟩];rfl
theorem fold_new{ss:List S}{i n:Nat}(hi:i<ss.length)(hn:((ss.take i).foldl Sp.step []).length=n)(h:(decide ((n:Int)>0)&&decide (ss[i]!.f≤((ss.take i).foldl Sp.step [])[n-1]!.t))=false):
  (ss.take (i+1)).foldl Sp.step []=(ss.take i).foldl Sp.step []++[ss[i]!]:=by
 subst hn;rw[take_1 hi,List.foldl_append,List.foldl_cons,List.foldl_nil,Sp.step,if_neg];rintro⟨h1,h2⟩;rcases and_f h with h|h
 ·have:=dec_f h;omega
 ·exact dec_f h h2
end Sq
theorem spnorm_any(A_l:Option Addr)(n_l c_l:Nat)(l:List Sp.S)(w:World)(h_l:Ls w A_l n_l c_l Sp.S.c 2 l)(hn:n_l≤100000):
  Calls Tryz.prog 79 #[.slice A_l n_l c_l] w fun e w'=>∃v,e= .returned v∧OwnL w' w.heap.size 33 Sp.S.c 2 v (Sp.norm l)∧Ext w w':=by
 have H:=(Hp.nil w);have e_l:=h_l.len;have z_l:=h_l.nle;refine Wb Tryz.func79 ?_;have H:=H.nilRow 33 Sp.S.c 2;refine go ?_;refine sb [12,3,4,10,11] ?_;refine WC.loopS 2 (fun mz Ed W'=>∃j:Nat,∃v:Value,mz=n_l-j∧Ed=[(12,.int .i64 ((j:Nat):Int)),(3,v)]∧Hp w W' (row 33 Sp.S.c 2 v ((l.take j).filter Sp.ok)::[])∧(j≤n_l)) _ ⟨0,_,rfl,rfl,(H.pick [0]),(Nat.zero_le _)⟩ ?_;rintro _ _ z ⟨j,v,rfl,rfl,H,jl⟩;have fl:=Sq.filter_len l j;refine go ?_;refine Cd (fun p9=> ?_) fun p9=> ?_
 ·have b12:j<n_l:=Om;refine go ?_;refine al H ti33 fun g13 z H=> ?_;refine st H 0 ti33 fun z H=> ?_;refine go ?_;refine c1 H Fh (spv_any _ _ _) fun z H=> ?_;refine go ?_;refine WC.cond rfl (fun h16=> ?_) (fun h16=> ?_)
  ·refine go ?_;refine bs1 H u106 ti33 fun g17 z H=> ?_;refine ap H 2 0 rfl [l[j]!] u106 ti33 rfl Sp.S.one (room_le fl (Nat.le_refl 1) Om) fun v19 z H=> ?_;refine go ?_;exact Rs [(12,_),(3,_)] Sx ⟨(j+1),v19,rfl,rfl,(by rw[Sq.filter_take l (show j<l.length by omega),if_pos (show Sp.ok l[j]! =true from h16)];exact(H.pick [2])),Om⟩
  ·refine go ?_;exact Rs [(12,_),(3,_)] Sx ⟨(j+1),v,rfl,rfl,(by rw[Sq.filter_take l (show j<l.length by omega),if_neg (by rw[show Sp.ok l[j]! =false from h16];decide),List.append_nil];exact(H.pick [1])),Om⟩
 ·rw[show l.take j=l from List.take_of_length_le Om]at H;have fl:=List.length_filter_le Sp.ok l;have sl:=srtS_len (l.filter Sp.ok);refine go ?_;refine c3 Fh (sortS_any _ _ _ _ _ (H.front [0]) Om) ?_;rintro _ z ⟨rfl,H⟩;refine⟨_,rfl,?_⟩;obtain⟨A23,n24,c25,rfl,_,_,_⟩:=H.op 0;have e_s:=(H.l 0).len;have H:=H.nilRow 33 Sp.S.c 2;refine G7 ?_;refine sb [4,25,26,27] ?_;refine go ?_;refine sb [27,4,25,26] ?_;refine WC.loopS 2 (fun mz Ed W'=>∃j:Nat,∃u:Value,mz=n24-j∧Ed=[(27,.int .i64 ((j:Nat):Int)),(4,u)]∧Hp w W' (row 33 Sp.S.c 2 u (List.foldl Sp.step [] (List.take j (srtS (l.filter Sp.ok))))::_::[])∧(j≤n24)) _ ⟨0,_,rfl,rfl,(H.pick [0,0]),(Nat.zero_le _)⟩ ?_;rintro _ _ z ⟨j,u,rfl,rfl,H,jl⟩;have fk:=Sq.fold_take_len (srtS (l.filter Sp.ok)) j;refine go ?_;refine Cd (fun p30=> ?_) fun p30=> ?_
  ·have b33:j<n24:=Om;refine go ?_;refine al H ti33 fun g34 z H=> ?_;refine st H 0 ti33 fun z H=> ?_;obtain⟨A37,n38,c39,rfl,_,_,_⟩:=H.op 1;refine go ?_;refine Qr ?_;refine G8 ?_;refine qg (fun hb=>Y.indexLs (n38-1) (H.l 1) rfl u106 ti33 (evg rfl hb) (evg rfl hb) (by have q0:=(dec_t hb);omega) (by have q0:=(dec_t hb);omega)) ?_;refine go ?_;refine Qd H fun z H=> ?_;refine go ?_;refine WC.cond rfl (fun h41=> ?_) (fun h41=> ?_)
   ·have p41:=(And.intro (dec_t (and_t h41).1) (dec_t (and_t h41).2));refine Xr H (HpC w _) (.load 0 (.load 1 (.load 2 (.load 3 (.load 4 (.load 5 (.load 6 (.load 7 (.load 9 (.load 10 (.alt 8 (.load 11 (.load 12 (.load 13 (.alt 14 (.fin) (.none))))) (.none)))))))))))) (H.pick [0,1]) fun z H=> ?_;have b42:(n38-1)<n38:=Om;refine G6 ?_;refine yx rfl (Y.indexLs (n38-1) (H.l 1) rfl u106 ti33 rfl rfl Om b42) ?_;refine G3 ?_;refine WX.yldL rfl rfl (blt rfl) rfl (H.pick [0,1]) (ld rfl u3 rfl (Ls.at_eq (H.l 1) b42 rfl)) ?_;have b43:(n38-1)<n38:=Om;refine G1 ?_;refine yx rfl (Y.indexLs (n38-1) (H.l 1) rfl u106 ti33 rfl rfl Om b43) ?_;refine go ?_;refine steX (H.pick [0,1]) H 1 rfl (⟨(List.foldl Sp.step [] (List.take j (srtS (l.filter Sp.ok))))[n38-1]!.f,max (List.foldl Sp.step [] (List.take j (srtS (l.filter Sp.ok))))[n38-1]!.t (srtS (l.filter Sp.ok))[j]!.t⟩:Sp.S) b43 ti3 rfl fun z H=> ?_;refine WX.nil (H.pick [0,1]) ?_;refine G2 ?_;refine sb [4,25,26,27] ?_;refine go ?_;exact Rs [(27,_),(4,_)] Sx ⟨(j+1),(.slice A37 n38 c39),rfl,rfl,(by rw[Sq.fold_ext (show j<(srtS (l.filter Sp.ok)).length from Om) Om h41];exact(H.pick [1,1])),Om⟩
   ·have p41:=((and_f h41).imp (fun h=>(dec_f h)) (fun h=>(dec_f h)));refine go ?_;refine bs1 H u106 ti33 fun g44 z H=> ?_;refine ap H 2 0 rfl [(srtS (l.filter Sp.ok))[j]!] u106 ti33 rfl Sp.S.one (room_le fk (Nat.le_refl 1) Om) fun v46 z H=> ?_;refine go ?_;exact Rs [(27,_),(4,_)] Sx ⟨(j+1),v46,rfl,rfl,(by rw[Sq.fold_new (show j<(srtS (l.filter Sp.ok)).length from Om) Om h41];exact(H.pick [2,2])),Om⟩
  ·refine go ?_;refine Rt [_] ?_;rw[List.take_of_length_le (show(srtS (l.filter Sp.ok)).length≤j from Om),join_norm]at H;exact⟨_,rfl,H.out 0,H.ext⟩
end TW
end Go.Proofs.YtaclfjjipnpboaaGreat
end
