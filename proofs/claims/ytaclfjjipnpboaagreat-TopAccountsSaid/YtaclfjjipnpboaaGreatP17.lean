/- Part 17 of the proof. Conditions: what each theorem states. -/
import Derived.Test.YtaclfjjipnpboaaGreatP01
import Derived.Test.YtaclfjjipnpboaaGreatP02
import Derived.Test.YtaclfjjipnpboaaGreatP03
import Derived.Test.YtaclfjjipnpboaaGreatP15
import Derived.Test.YtaclfjjipnpboaaGreatP04
import Derived.Test.YtaclfjjipnpboaaGreatP16
set_option linter.all false
set_option maxHeartbeats 4000000
set_option maxRecDepth 4000
namespace Go.Proofs.YtaclfjjipnpboaaGreat
open Go Go.Eng
namespace Sp
structure S where
 f:Int
 t:Int
instance:Inhabited S:=⟨⟨0,0⟩⟩
def S.c(x:S):List Value:=[.int .i64 x.f,.int .i64 x.t]
theorem S.one(x:S):∀u∈x.c,u.oneCell'=true:=by simp[S.c,Value.oneCell']
def ok(x:S):Bool:=(decide (0≤x.f)&&decide (x.f<x.t))&&decide (x.t≤1000000000000)
def inn(x:S)(q:Int):Bool:=(ok x&&decide (x.f≤q))&&decide (q<x.t)
def cov(l:List S)(q:Int):Bool:=l.any fun x=>inn x q
theorem ok_iff(x:S):ok x=true↔0≤x.f∧x.f<x.t∧x.t≤1000000000000:=by
 simp[ok,and_assoc]
theorem inn_iff(x:S)(q:Int):inn x q=true↔ok x=true∧x.f≤q∧q<x.t:=by
 simp[inn,and_assoc]
theorem cov_iff(l:List S)(q:Int):cov l q=true↔∃x∈l,inn x q=true:=List.any_eq_true
theorem cov_append(a b:List S)(q:Int):cov (a++b) q=(cov a q||cov b q):=List.any_append
theorem cov_cons(x:S)(b:List S)(q:Int):cov (x::b) q=(inn x q||cov b q):=List.any_cons
theorem cov_nil(q:Int):cov [] q=false:=rfl
theorem cov_congr{a b:List S}(h:∀x,ok x=true→(x∈a↔x∈b))(q:Int):cov a q=cov b q:=by
 rw[Bool.eq_iff_iff,cov_iff,cov_iff];constructor
 ·rintro⟨x,hx,hi⟩;exact⟨x,(h x ((inn_iff x q).1 hi).1).1 hx,hi⟩
 ·rintro⟨x,hx,hi⟩;exact⟨x,(h x ((inn_iff x q).1 hi).1).2 hx,hi⟩
theorem cov_filter(l:List S)(q:Int):cov (l.filter ok) q=cov l q:=
 cov_congr (fun x hx=>by grind) q
def Norm(l:List S):Prop:=(∀x∈l,ok x=true)∧l.Pairwise fun a b=>a.t<b.f
theorem Norm.nil:Norm []:=⟨by simp,.nil⟩
theorem Norm.tail{x:S}{r:List S}(h:Norm (x::r)):Norm r:=⟨fun y hy=>h.1 y (List.mem_cons_of_mem _ hy),(List.pairwise_cons.1 h.2).2⟩
theorem Norm.far{x:S}{r:List S}(h:Norm (x::r)){q:Int}(hc:cov r q=true):x.t<q:=by
 obtain⟨z,hz,hi⟩:=(cov_iff r q).1 hc;have h1:=(List.pairwise_cons.1 h.2).1 z hz;grind [inn_iff]
theorem Norm.first{x:S}{r:List S}(h:Norm (x::r)){q:Int}(hc:cov (x::r) q=true):x.f≤q:=by
 rw[cov_cons]at hc;rcases or_t hc with hc|hc
 ·grind [inn_iff]
 ·have h1:=h.far hc;have h2:=(ok_iff x).1 (h.1 x List.mem_cons_self);omega
theorem Norm.head{x:S}{r:List S}(h:Norm (x::r)):cov (x::r) x.f=true:=by
 have h2:=(ok_iff x).1 (h.1 x List.mem_cons_self);rw[cov_cons,(inn_iff x x.f).2 ⟨h.1 x List.mem_cons_self,Om,Om⟩];rfl
theorem Norm.le_end{x:S}{r:List S}(h:Norm (x::r)):cov (x::r) x.t=false:=by
 cases hc:cov (x::r) x.t with
 |false=>rfl
 |true=>
  rw[cov_cons]at hc;rcases or_t hc with hc|hc
  ·grind [inn_iff]
  ·have:=h.far hc;omega
theorem norm_unique:∀{a b:List S},Norm a→Norm b→(∀q,cov a q=cov b q)→a=b
 |[],[],_,_,_=>rfl
 |[],y::s,_,hb,h=>by have:=h y.f;rw[hb.head]at this;cases this
 |x::r,[],ha,_,h=>by have:=h x.f;rw[ha.head]at this;cases this
 |x::r,y::s,ha,hb,h=>by
  have e1:x.f=y.f:=by
   have h1:=ha.first ((h y.f).trans hb.head);have h2:=hb.first ((h x.f).symm.trans ha.head);omega
  have ox:=(ok_iff x).1 (ha.1 x List.mem_cons_self);have oy:=(ok_iff y).1 (hb.1 y List.mem_cons_self);have e2:x.t=y.t:=by
   have h1:¬x.t<y.t:=fun hlt=>by
    have h3:cov (y::s) x.t=true:=by rw[cov_cons,(inn_iff y x.t).2 ⟨hb.1 y List.mem_cons_self,Om,hlt⟩];rfl
    rw[←h,ha.le_end]at h3;cases h3
   have h2:¬y.t<x.t:=fun hlt=>by
    have h3:cov (x::r) y.t=true:=by rw[cov_cons,(inn_iff x y.t).2 ⟨ha.1 x List.mem_cons_self,Om,hlt⟩];rfl
    rw[h,hb.le_end]at h3;cases h3
   omega
  have e:x=y:=by
   obtain⟨a,b⟩:=x;simp_all
  subst e;rw[norm_unique ha.tail hb.tail fun q=> ?_];have hq:=h q;rw[cov_cons,cov_cons]at hq;cases hi:inn x q with
  |false=>grind
  |true=>
   have hlt:=((inn_iff x q).1 hi).2.2;cases hr:cov r q with
   |true=>have:=ha.far hr;omega
   |false=>
    cases hs:cov s q with
    |true=>have:=hb.far hs;omega
    |false=>rfl
def lastT(out:List S):Int:=out[out.length-1]!.t
def ext(out:List S)(t:Int):List S:=out.set (out.length-1) ⟨out[out.length-1]!.f,t⟩
def step(out:List S)(s:S):List S:=if 0<out.length∧s.f≤lastT out then ext out (max (lastT out) s.t)else out++[s]
theorem last_snoc(o:List S)(p:S):(o++[p])[(o++[p]).length-1]! =p:=by
 grind
theorem ext_snoc(o:List S)(p:S)(t:Int):ext (o++[p]) t=o++[⟨p.f,t⟩]:=by
 simp_all [ext,last_snoc,List.length_append,List.length_singleton,Nat.add_sub_cancel,List.set_append_right,Nat.le_refl,Nat.sub_self]
theorem step_len(out:List S)(s:S):(step out s).length≤out.length+1:=by
 unfold step ext;grind
theorem snoc_cases{α:Type}(o:List α):o=[]∨∃r p,o=r++[p]:=by
 rcases List.eq_nil_or_concat o with h|⟨r,p,h⟩<;>grind
theorem step_norm{out:List S}{s:S}(h:Norm out)(hs:ok s=true)(hl:∀p∈out,p.f≤s.f):Norm (step out s)∧(∀q,cov (step out s) q=(cov out q||inn s q))∧∀p∈step out s,p.f≤s.f:=by
 have os:=(ok_iff s).1 hs;rcases snoc_cases out with rfl|⟨o,p,rfl⟩
 ·unfold step;rw[if_neg (by simp)];refine⟨⟨by grind,by simp⟩,fun q=>by simp[cov],by simp⟩
 ·have hp:p∈o++[p]:=by simp
  have op:=(ok_iff p).1 (h.1 p hp);have hpf:=hl p hp;obtain⟨hw1,hw2,hw3⟩:=List.pairwise_append.1 h.2;have lt:lastT (o++[p])=p.t:=by unfold lastT;grind
  unfold step;rw[lt];by_cases hc:s.f≤p.t
  ·rw[if_pos ⟨by simp,hc⟩,ext_snoc];refine⟨⟨fun x hx=> ?_,List.pairwise_append.2 ⟨hw1,by simp,fun a ha b hb=> ?_⟩⟩,fun q=> ?_,fun x hx=> ?_⟩
   ·rcases List.mem_append.1 hx with hx|hx
    ·exact h.1 x (List.mem_append_left _ hx)
    ·have hx:=List.mem_singleton.1 hx;subst hx;exact(ok_iff _).2 ⟨op.1,by grind,by grind⟩
   ·grind
   ·rw[cov_append,cov_append,Bool.or_assoc]
    congr 1
    simp only[cov,List.any_cons,List.any_nil,Bool.or_false];rw[Bool.eq_iff_iff,Bool.or_eq_true,inn_iff,inn_iff,inn_iff,ok_iff,ok_iff,ok_iff];grind
   grind
  ·rw[if_neg (fun hh=>hc hh.2)];refine⟨⟨fun x hx=> ?_,List.pairwise_append.2 ⟨h.2,by simp,fun a ha b hb=> ?_⟩⟩,fun q=> ?_,fun x hx=> ?_⟩
   ·rcases List.mem_append.1 hx with hx|hx
    ·exact h.1 x hx
    grind
   ·grind
   ·rw[cov_append];simp[cov]
   grind
theorem fold_norm:∀(ss out:List S),Norm out→(∀s∈ss,ok s=true)→ss.Pairwise (fun a b=>a.f≤b.f)→(∀p∈out,∀s∈ss,p.f≤s.f)→
  Norm (ss.foldl step out)∧∀q,cov (ss.foldl step out) q=(cov out q||cov ss q)
 |[],out,h,_,_,_=>⟨h,fun q=>by simp[cov]⟩
 |s::r,out,h,hs,hp,hl=>by
  obtain⟨h1,h2,h3⟩:=step_norm h (hs s List.mem_cons_self) fun p hp=>hl p hp s List.mem_cons_self;obtain⟨hp1,hp2⟩:=List.pairwise_cons.1 hp;obtain⟨h4,h5⟩:=fold_norm r (step out s) h1 (fun x hx=>hs x (List.mem_cons_of_mem _ hx)) hp2 fun p hp x hx=>Int.le_trans (h3 p hp) (hp1 x hx);simp_all [And.intro,List.foldl_cons,cov_cons,Bool.or_assoc]
def byF(a b:S):Bool:=decide (a.f≤b.f)
def norm(l:List S):List S:=((l.filter ok).mergeSort byF).foldl step []
theorem sort_perm(l:List S):(l.mergeSort byF).Perm l:=List.mergeSort_perm l byF
theorem sort_pair(l:List S):(l.mergeSort byF).Pairwise fun a b=>a.f≤b.f:=by
 have:=List.pairwise_mergeSort (le:=byF) (fun a b c h1 h2=>by simp only[byF,decide_eq_true_eq]at *;omega) (fun a b=>by simp only[byF,Bool.or_eq_true,decide_eq_true_eq];omega) l;grind [byF]
theorem fold_perm{ss l:List S}(h:ss.Perm (l.filter ok))(hp:ss.Pairwise fun a b=>a.f≤b.f):Norm (ss.foldl step [])∧∀q,cov (ss.foldl step []) q=cov l q:=by
 obtain⟨h1,h2⟩:=fold_norm ss [] Norm.nil (fun s hs=>(List.mem_filter.1 (h.mem_iff.1 hs)).2) hp (by simp);refine⟨h1,fun q=> ?_⟩;rw[h2,cov_nil,Bool.false_or,←cov_filter l];grind [cov_congr]
theorem norm_norm(l:List S):Norm (norm l):=(fold_perm (sort_perm _) (sort_pair _)).1
theorem norm_cov(l:List S)(q:Int):cov (norm l) q=cov l q:=(fold_perm (sort_perm _) (sort_pair _)).2 q
theorem norm_eq{n l:List S}(h:Norm n)(hc:∀q,cov n q=cov l q):n=norm l:=norm_unique h (norm_norm l) fun q=>(hc q).trans (norm_cov l q).symm
theorem norm_of_perm{ss l:List S}(h:ss.Perm (l.filter ok))(hp:ss.Pairwise fun a b=>a.f≤b.f):ss.foldl step []=norm l:=norm_eq (fold_perm h hp).1 (fold_perm h hp).2
theorem norm_congr{a b:List S}(h:∀q,cov a q=cov b q):norm a=norm b:=norm_eq (norm_norm a) fun q=>(norm_cov a q).trans (h q)
theorem fold_len:∀(ss out:List S),(ss.foldl step out).length≤out.length+ss.length
 |[],out=>by simp
 |s::r,out=>by
  have h1:=fold_len r (step out s);have h2:=step_len out s;grind
theorem norm_len(l:List S):(norm l).length≤l.length:=by
 have h1:=fold_len ((l.filter ok).mergeSort byF) [];have h2:((l.filter ok).mergeSort byF).length=(l.filter ok).length:=List.length_mergeSort ..;have h3:=List.length_filter_le ok l;unfold norm;simp only[List.length_nil]at h1;omega
def one:Bool→Int
 |true=>1
 |false=>0
def cnt(p:Int→Bool):Nat→Int
 |0=>0
 |n+1=>cnt p n+one (p (n:Int))
theorem cnt_congr{p r:Int→Bool}(h:∀q,p q=r q):∀n,cnt p n=cnt r n
 |0=>rfl
 |n+1=>by rw[cnt,cnt,cnt_congr h n,h]
theorem cnt_or(p r:Int→Bool):∀n,cnt (fun q=>p q||r q) n+cnt (fun q=>p q&&r q) n=cnt p n+cnt r n
 |0=>rfl
 |n+1=>by
  have:=cnt_or p r n;simp only[cnt];cases p (n:Int)<;>cases r (n:Int)<;>simp only[one,Bool.or_true,Bool.or_false,Bool.and_true,Bool.and_false,Bool.not_true,Bool.not_false,Bool.true_or,Bool.false_or,Bool.true_and,Bool.false_and]<;>omega
theorem cnt_false{p:Int→Bool}(h:∀q,p q=false):∀n,cnt p n=0
 |0=>rfl
 |n+1=>by rw[cnt,cnt_false h n,h];rfl
theorem cnt_inn{x:S}(hx:ok x=true):∀n:Nat,cnt (inn x) n=max 0 (min (n:Int) x.t-x.f)
 |0=>by grind [ok_iff,cnt]
 |n+1=>by
  have ox:=(ok_iff x).1 hx;have ih:=cnt_inn hx n;rw[cnt,ih];by_cases hq:inn x (n:Int)=true
  ·have:=(inn_iff x _).1 hq;rw[hq,one];omega
  ·rw[show inn x (n:Int)=false by grind,one];have:¬(x.f≤(n:Int)∧(n:Int)<x.t):=fun hh=>hq ((inn_iff x _).2 ⟨hx,hh⟩);omega
def len(l:List S):Int:=(l.map fun x=>x.t-x.f).sum
theorem len_cnt:∀{l:List S},Norm l→len l=cnt (cov l) 1000000000000
 |[],_=>(cnt_false (p:=cov []) (fun _=>rfl) _).symm
 |x::r,h=>by
  have ih:=len_cnt h.tail;have ox:=(ok_iff x).1 (h.1 x List.mem_cons_self);have h1:=cnt_or (inn x) (cov r) 1000000000000;have h2:cnt (fun q=>inn x q&&cov r q) 1000000000000=0:=cnt_false (fun q=>by
   cases hc:cov r q with
   |false=>rw[Bool.and_false]
   |true=>
    have hf:=h.far hc;have:inn x q=false:=by
     cases hi:inn x q with
     |false=>rfl
     |true=>grind [inn_iff]
    grind) _
  have h3:=cnt_inn (h.1 x List.mem_cons_self) 1000000000000;have h4:cnt (cov (x::r)) 1000000000000=cnt (fun q=>inn x q||cov r q) 1000000000000:=cnt_congr (fun q=>cov_cons x r q) _;have h5:len (x::r)=(x.t-x.f)+len r:=by rfl
  omega
def lenF(l:List S):Int:=len (norm l)
theorem lenF_cnt(l:List S):lenF l=cnt (cov l) 1000000000000:=(len_cnt (norm_norm l)).trans (cnt_congr (fun q=>norm_cov l q) _)
theorem len_rng:∀{l:List S},(∀x∈l,ok x=true)→0≤len l∧len l≤1000000000000*(l.length:Int)
 |[],_=>by simp[len]
 |x::r,h=>by
  have ih:=len_rng fun y hy=>h y (List.mem_cons_of_mem _ hy);have ox:=(ok_iff x).1 (h x List.mem_cons_self);have h5:len (x::r)=(x.t-x.f)+len r:=by rfl
  grind
theorem len_take{l:List S}{i:Nat}(h:i<l.length):len (l.take (i+1))=len (l.take i)+l[i]!.t-l[i]!.f:=by
 unfold len;rw[take_bang h,List.map_append,List.sum_append];grind
theorem len_take_rng{l:List S}(h:∀x∈l,ok x=true)(i:Nat):0≤len (l.take i)∧len (l.take i)≤1000000000000*(i:Int):=by
 have:=len_rng (l:=l.take i) fun x hx=>h x (List.mem_of_mem_take hx);grind
theorem cnt_rng(p:Int→Bool):∀n:Nat,0≤cnt p n∧cnt p n≤(n:Int)
 |0=>by simp[cnt]
 |n+1=>by
  have:=cnt_rng p n;rw[cnt];cases p (n:Int)<;>simp only[one]<;>omega
end Sp
end Go.Proofs.YtaclfjjipnpboaaGreat
namespace Go.Proofs.YtaclfjjipnpboaaGreat
open Go Go.Eng Go.RowKit
namespace TW
def sumZ(f:Nat→Int):Nat→Int
 |0=>0
 |n+1=>sumZ f n+f n
theorem sumZ_congr{f g:Nat→Int}:∀n,(∀i,i<n→f i=g i)→sumZ f n=sumZ g n
 |0,_=>rfl
 |n+1,h=>by show sumZ f n+f n=sumZ g n+g n;rw[sumZ_congr n fun i hi=>h i Om,h n Om]
theorem sumZ_add(f g:Nat→Int):∀n,sumZ (fun i=>f i+g i) n=sumZ f n+sumZ g n
 |0=>rfl
 |n+1=>by show sumZ _ n+(f n+g n)=(sumZ f n+f n)+(sumZ g n+g n);rw[sumZ_add f g n];omega
theorem sumZ_sub(f g:Nat→Int):∀n,sumZ (fun i=>f i-g i) n=sumZ f n-sumZ g n
 |0=>rfl
 |n+1=>by show sumZ _ n+(f n-g n)=(sumZ f n+f n)-(sumZ g n+g n);rw[sumZ_sub f g n];omega
theorem sumZ_zero:∀n,sumZ (fun _=>0) n=0
 |0=>rfl
 |n+1=>by show sumZ _ n+0=0;rw[sumZ_zero n];rfl
theorem sumZ_le{f g:Nat→Int}:∀n,(∀i,i<n→f i≤g i)→sumZ f n≤sumZ g n
 |0,_=>Int.le_refl _
 |n+1,h=>by
  show sumZ f n+f n≤sumZ g n+g n;have:=sumZ_le n fun i hi=>h i Om;grind
theorem sumZ_swap(f:Nat→Nat→Int)(m:Nat):∀n,sumZ (fun i=>sumZ (fun j=>f i j) m) n=sumZ (fun j=>sumZ (fun i=>f i j) n) m
 |0=>(sumZ_zero m).symm
 |n+1=>by
  show sumZ _ n+sumZ (fun j=>f n j) m=sumZ (fun j=>sumZ (fun i=>f i j) n+f n j) m;rw[sumZ_add,sumZ_swap f m n]
theorem sumZ_one{c:Int}{k:Nat}:∀n,k<n→sumZ (fun i=>if i=k then c else 0) n=c
 |0,h=>by omega
 |n+1,h=>by
  show sumZ _ n+(if n=k then c else 0)=c;by_cases e:n=k
  ·subst e;rw[if_pos rfl,sumZ_congr (g:=fun _=>0) n fun i hi=>if_neg Om,sumZ_zero];omega
  ·rw[if_neg e,sumZ_one n Om];omega
def ind(f t q:Int):Int:=if f≤q∧q<t then 1 else 0
theorem sumZ_ind{f t:Int}(h0:0≤f)(h1:f≤t):∀n:Nat,sumZ (fun q=>ind f t (q:Int)) n=max 0 (min (n:Int) t-f)
 |0=>by show(0:Int)=_;omega
 |n+1=>by
  show sumZ _ n+ind f t (n:Int)=_;rw[sumZ_ind h0 h1 n];grind [ind]
theorem sumZ_len{f t:Int}(h0:0≤f)(h1:f≤t)(h2:t≤1000000000000):sumZ (fun q=>ind f t (q:Int)) 1000000000000=t-f:=by
 rw[sumZ_ind h0 h1];omega
section
variable{S:List Sc}
def slL(S:List Sc)(k:Nat):Int:=S[k]!.to-S[k]!.fr
theorem chS_sum(i:Nat):∀n,chS S i n=sumZ (fun k=>if S[k]!.pa=(i:Int)then slL S k else 0) n
 |0=>rfl
 |n+1=>by
  show(if S[n]!.pa=(i:Int)then chS S i n+(S[n]!.to-S[n]!.fr)else chS S i n)=sumZ _ n+(if S[n]!.pa=(i:Int)then slL S n else 0);rw[chS_sum i n];split
  ·rfl
  omega
theorem und_le{k i:Nat}(h:SlOk S)(u:Und S k i)(hi:i<S.length):k≤i∧(k≠i→∃j:Nat,S[i]!.pa=(j:Int)∧Und S k j):=by
 induction u with
 |one=>omega
 | @step i j u e ih=>
  have:=h.pa i hi;grind
theorem SlOk.de(h:SlOk S):∀i,i<S.length→0≤S[i]!.de∧S[i]!.de≤(i:Int):=by
 intro i
 induction i using Nat.strongRecOn with
 |_ i ih=>
  intro hi;have pa:=h.pa i hi;by_cases e:S[i]!.pa= -1
  ·rw[h.n0 i hi e];omega
  ·have n:=(h.ne i hi Om).2.2.2;grind
theorem SlOk.kids(h:SlOk S){i:Nat}(hi:i<S.length)(q:Int):∀n,n≤S.length→sumZ (fun k=>if S[k]!.pa=(i:Int)then ind S[k]!.fr S[k]!.to q else 0) n≤ind S[i]!.fr S[i]!.to q∧(sumZ (fun k=>if S[k]!.pa=(i:Int)then ind S[k]!.fr S[k]!.to q else 0) n=0∨∃k,k<n∧S[k]!.pa=(i:Int)∧S[k]!.fr≤q∧q<S[k]!.to)
 |0,_=>⟨by show(0:Int)≤ind _ _ _;grind [ind],.inl rfl⟩
 |n+1,hn=>by
  obtain⟨a,b⟩:=h.kids hi q n Om;show sumZ _ n+(if S[n]!.pa=(i:Int)then ind S[n]!.fr S[n]!.to q else 0)≤_∧(sumZ _ n+(if S[n]!.pa=(i:Int)then ind S[n]!.fr S[n]!.to q else 0)=0∨_);have b':(∃k,k<n∧S[k]!.pa=(i:Int)∧S[k]!.fr≤q∧q<S[k]!.to)→∃k,k<n+1∧S[k]!.pa=(i:Int)∧S[k]!.fr≤q∧q<S[k]!.to:=fun⟨k,h1,h2⟩=>⟨k,Om,h2⟩;by_cases e:S[n]!.pa=(i:Int)
  ·rw[if_pos e];by_cases c:S[n]!.fr≤q∧q<S[n]!.to
   ·have ei:ind S[n]!.fr S[n]!.to q=1:=if_pos c;rw[ei];have ne:=h.ne n hn Om;rw[e,Int.toNat_natCast]at ne;have ej:ind S[i]!.fr S[i]!.to q=1:=if_pos Om;rw[ej];rcases b with b|⟨k,h1,h2,h3,h4⟩
    ·grind
    ·exfalso;have nk:=h.ne k Om Om;rw[h2,Int.toNat_natCast]at nk;have u:=h.un n k h1 hn (by rw[←nk.1,←ne.1]) Om Om;obtain⟨j,e1,u1⟩:=(und_le h u hn).2 Om;have:j=i:=Om;subst this;have:=(und_le h u1 hi).1;have:=h.pa k Om;omega
   ·have ei:ind S[n]!.fr S[n]!.to q=0:=if_neg c;grind
  grind
theorem SlOk.kidsum(h:SlOk S){i:Nat}(hi:i<S.length)(n:Nat)(hn:n≤S.length):0≤chS S i n∧chS S i n≤S[i]!.to-S[i]!.fr:=by
 rw[chS_sum];have r:=h.rg i hi;refine⟨?_,?_⟩
 ·have:=sumZ_le (f:=fun _=>0) (g:=fun k=>if S[k]!.pa=(i:Int)then slL S k else 0) n (fun k hk=>by
   have rk:=h.rg k Om;show(0:Int)≤if S[k]!.pa=(i:Int)then slL S k else 0
   split
   ·show 0≤S[k]!.to-S[k]!.fr;omega
   omega)
  grind [sumZ_zero]
 ·have e:sumZ (fun k=>if S[k]!.pa=(i:Int)then slL S k else 0) n=sumZ (fun q=>sumZ (fun k=>if S[k]!.pa=(i:Int)then ind S[k]!.fr S[k]!.to (q:Int)else 0) n) 1000000000000:=by
   rw[←sumZ_swap];refine sumZ_congr _ fun k hk=> ?_;have rk:=h.rg k Om;by_cases c:S[k]!.pa=(i:Int)
   ·rw[if_pos c];exact(sumZ_len rk.1 Om rk.2.2).symm.trans (sumZ_congr _ fun q _=>(if_pos c).symm)
   simp_all [if_neg,sumZ_zero,sumZ_congr]
  have l:=sumZ_le 1000000000000 (fun q _=>(h.kids hi (q:Int) n hn).1);rw[sumZ_len r.1 Om r.2.2]at l;omega
theorem chS_rng(h:SlOk S){i:Nat}(hi:i<S.length)(n:Nat)(hn:n≤S.length):0≤chS S i n∧chS S i n≤1000000000000:=by
 have:=h.kidsum hi n hn;have:=h.rg i hi;omega
theorem SlOk.self(h:SlOk S){i:Nat}(hi:i<S.length):0≤S[i]!.se:=by
 rw[h.se i hi];have:=h.kidsum hi S.length Nl;omega
theorem SlOk.roots(h:SlOk S)(th q:Int):∀n,n≤S.length→sumZ (fun k=>if S[k]!.th=th∧S[k]!.pa= -1 then ind S[k]!.fr S[k]!.to q else 0) n=(if∃k,k<n∧S[k]!.th=th∧S[k]!.fr≤q∧q<S[k]!.to then 1 else 0)
 |0,_=>by rw[if_neg fun⟨k,hk,_⟩=>by omega];rfl
 |n+1,hn=>by
  have ih:=h.roots th q n Om;show sumZ _ n+(if S[n]!.th=th∧S[n]!.pa= -1 then ind S[n]!.fr S[n]!.to q else 0)=_;rw[ih];have up:(∃k,k<n∧S[k]!.th=th∧S[k]!.fr≤q∧q<S[k]!.to)→∃k,k<n+1∧S[k]!.th=th∧S[k]!.fr≤q∧q<S[k]!.to:=fun⟨k,h1,h2⟩=>⟨k,Om,h2⟩;by_cases g:∃k,k<n∧S[k]!.th=th∧S[k]!.fr≤q∧q<S[k]!.to
  ·rw[if_pos g,if_pos (up g)];have e0:(if S[n]!.th=th∧S[n]!.pa= -1 then ind S[n]!.fr S[n]!.to q else 0)=0:=by
    split
    ·rename_i z;refine if_neg fun c=> ?_;obtain⟨k,h1,h2,h3,h4⟩:=g;have u:=h.un n k h1 hn (by rw[h2,z.1]) Om Om;obtain⟨j,e1,_⟩:=(und_le h u hn).2 Om;omega
    ·rfl
   rw[e0];rfl
  ·rw[if_neg g];by_cases c:S[n]!.th=th∧S[n]!.fr≤q∧q<S[n]!.to
   ·have e:S[n]!.pa= -1:=by
     apply Classical.byContradiction;intro e;have pa:=h.pa n hn;have ne:=h.ne n hn Om;exact g ⟨S[n]!.pa.toNat,Om,by rw[ne.1];exact c.1,Om,Om⟩
    have e0:(if S[n]!.th=th∧S[n]!.pa= -1 then ind S[n]!.fr S[n]!.to q else 0)=1:=(if_pos ⟨c.1,e⟩).trans (if_pos c.2);rw[e0,if_pos (show∃k,k<n+1∧S[k]!.th=th∧S[k]!.fr≤q∧q<S[k]!.to from⟨n,Om,c⟩)];rfl
   ·have e0:(if S[n]!.th=th∧S[n]!.pa= -1 then ind S[n]!.fr S[n]!.to q else 0)=0:=by
     split
     ·rename_i z;exact if_neg fun z2=>c ⟨z.1,z2⟩
     ·rfl
    have g2:¬∃k,k<n+1∧S[k]!.th=th∧S[k]!.fr≤q∧q<S[k]!.to:=by
     rintro⟨k,h1,h2⟩;by_cases e:k=n
     ·subst e;exact c h2
     ·exact g ⟨k,Om,h2⟩
    rw[e0,if_neg g2];rfl
def bzL(S:List Sc)(th:Int):List Sp.S:=(S.filter fun x=>x.th==th).map fun x=>⟨x.fr,x.to⟩
theorem cnt_sum(p:Int→Bool):∀n,Sp.cnt p n=sumZ (fun q=>if p (q:Int)=true then 1 else 0) n
 |0=>rfl
 |n+1=>by
  show Sp.cnt p n+Go.Proofs.YtaclfjjipnpboaaGreat.Sp.one (p (n:Int))=sumZ _ n+(if p (n:Int)=true then 1 else 0);rw[cnt_sum p n]
  congr 1
  cases p (n:Int)<;>rfl
theorem SlOk.busy(h:SlOk S)(th:Int):Sp.lenF (bzL S th)=sumZ (fun k=>if S[k]!.th=th∧S[k]!.pa= -1 then slL S k else 0) S.length:=by
 rw[Sp.lenF_cnt,cnt_sum];have e:sumZ (fun k=>if S[k]!.th=th∧S[k]!.pa= -1 then slL S k else 0) S.length=sumZ (fun q=>sumZ (fun k=>if S[k]!.th=th∧S[k]!.pa= -1 then ind S[k]!.fr S[k]!.to (q:Int)else 0) S.length) 1000000000000:=by
  rw[←sumZ_swap];refine sumZ_congr _ fun k hk=> ?_;have rk:=h.rg k hk;by_cases c:S[k]!.th=th∧S[k]!.pa= -1
  ·rw[if_pos c];exact(sumZ_len rk.1 Om rk.2.2).symm.trans (sumZ_congr _ fun q _=>(if_pos c).symm)
  simp_all [if_neg,sumZ_zero,sumZ_congr]
 rw[e];refine sumZ_congr _ fun q _=> ?_;rw[h.roots th (q:Int) S.length Nl];have:Sp.cov (bzL S th) (q:Int)=true↔∃k,k<S.length∧S[k]!.th=th∧S[k]!.fr≤(q:Int)∧(q:Int)<S[k]!.to:=by
  rw[Sp.cov_iff];constructor
  ·rintro⟨x,hx,hi⟩;unfold bzL at hx;obtain⟨s,hs,rfl⟩:=List.mem_map.1 hx;obtain⟨s1,s2⟩:=List.mem_filter.1 hs;obtain⟨k,hk,rfl⟩:=mem_at s1;rw[Sp.inn_iff]at hi;grind
  ·rintro⟨k,hk,h1,h2⟩;refine⟨⟨S[k]!.fr,S[k]!.to⟩,List.mem_map.2 ⟨S[k]!,List.mem_filter.2 ⟨mem_b hk,beq_iff_eq.2 h1⟩,rfl⟩,?_⟩;have r:=h.rg k hk;simp_all [Sp.inn_iff,Sp.ok_iff,And.intro]
 simp_all
theorem SlOk.total(h:SlOk S):sumZ (fun i=>S[i]!.se) S.length=sumZ (fun k=>if S[k]!.pa= -1 then slL S k else 0) S.length:=by
 have e1:sumZ (fun i=>S[i]!.se) S.length=sumZ (fun i=>slL S i-sumZ (fun k=>if S[k]!.pa=(i:Int)then slL S k else 0) S.length) S.length:=
  sumZ_congr _ fun i hi=>by rw[h.se i hi,chS_sum];rfl
 rw[e1,sumZ_sub,sumZ_swap,←sumZ_sub];refine sumZ_congr _ fun k hk=> ?_;have pa:=h.pa k hk;by_cases c:S[k]!.pa= -1
 ·simp_all [if_pos,sumZ_congr,if_neg,sumZ_zero]
 ·rw[if_neg c];have e:sumZ (fun i=>if S[k]!.pa=(i:Int)then slL S k else 0) S.length=sumZ (fun i=>if i=S[k]!.pa.toNat then slL S k else 0) S.length:=
   sumZ_congr _ fun i _=>by
    omega
  rw[e,sumZ_one _ Om];omega
theorem SlOk.sums(h:SlOk S){ids:List Int}(hn:ids.Nodup)(hi:∀i,i<S.length→S[i]!.th∈ids):sumZ (fun i=>S[i]!.se) S.length=sumZ (fun j=>Sp.lenF (bzL S ids[j]!)) ids.length:=by
 rw[h.total,sumZ_congr (f:=fun j=>Sp.lenF (bzL S ids[j]!)) _ fun j _=>h.busy ids[j]!,sumZ_swap];refine sumZ_congr _ fun k hk=> ?_;by_cases c:S[k]!.pa= -1
 ·rw[if_pos c];obtain⟨j,hj,e⟩:=mem_at (hi k hk);have e2:sumZ (fun j=>if S[k]!.th=ids[j]!∧S[k]!.pa= -1 then slL S k else 0) ids.length=sumZ (fun i=>if i=j then slL S k else 0) ids.length:=
   sumZ_congr _ fun i hi=>by
    by_cases z:i=j
    ·grind
    ·rw[if_neg z,if_neg];grind [bang_eq,List.getElem_inj]
  rw[e2,sumZ_one _ hj]
 simp_all [if_neg,sumZ_congr,sumZ_zero]
end
end TW
end Go.Proofs.YtaclfjjipnpboaaGreat
section
attribute [local irreducible] Go.Eng.WC Go.Eng.WL Go.Eng.WK Go.Eng.WQ Go.Eng.WX Go.Eng.Yld
namespace Go.Proofs.YtaclfjjipnpboaaGreat
open Go Go.Eng Go.RowKit
namespace TW
theorem nested_yes(A_l:Option Addr)(n_l c_l:Nat)(l:List Sc)(w:World)(h_l:Ls w A_l n_l c_l Sc.c 8 l)(hv:SlOk l):
  Cr 166 #[.slice A_l n_l c_l] w (.bool true):=by
 have H:=(Hp.nil w);have e_l:=h_l.len;have z_l:=h_l.nle;refine Wb Tryz.func166 ?_;refine go ?_;refine sb [8,0,6,7] ?_;refine WC.loopS 1 (fun mz Ed W'=>∃j:Nat,mz=n_l-j∧Ed=[(8,.int .i64 ((j:Nat):Int))]∧Hp w W' ([])∧(j≤n_l)) _ ⟨0,rfl,rfl,(H.pick []),(Nat.zero_le _)⟩ ?_;rintro _ _ z ⟨j,rfl,rfl,H,jl⟩;refine go ?_;refine Cd (fun p6=> ?_) fun p6=> ?_
 ·have pj:=hv.pa j Om;have b9:j<n_l:=Om;refine go ?_;refine al H ti100 fun g10 z H=> ?_;refine go ?_;refine st H 0 ti100 fun z H=> ?_;refine go ?_;refine Cd (fun p13=> ?_) fun p13=> ?_
  ·omega
  ·refine go ?_;refine Cd (fun p15=> ?_) fun p15=> ?_
   ·refine go ?_;refine Cd (fun p17=> ?_) fun p17=> ?_
    ·have n0:=hv.n0 j Om Om;have p:=p17;omega
    ·refine G4 ?_;refine sb [0,6,7,8] ?_;refine go ?_;exact Rs [(8,_)] Sx ⟨(j+1),rfl,rfl,(H.pick []),Om⟩
   ·have nj:=hv.ne j Om Om;obtain⟨q,hq⟩:∃q:Nat,l[j]!.pa=(q:Int):=⟨l[j]!.pa.toNat,Om⟩;rw[hq]at nj;rw[Int.toNat_natCast]at nj;have dq:=hv.de q Om;have b19:q<n_l:=Om;refine G4 ?_;refine yy (Y.indexLs q (h_l.ext H.ext) rfl u34 ti100 rfl rfl hq b19) ?_;refine go ?_;refine al H ti100 fun g20 z H=> ?_;refine st H 0 ti100 fun z H=> ?_;refine G30 ?_;refine G4 ?_;refine sb [0,6,7,8,48] ?_;refine Cd (fun p23=> ?_) fun p23=> ?_
    ·omega
    ·refine go ?_;exact Rs [(8,_)] Sx ⟨(j+1),rfl,rfl,(H.pick []),Om⟩
 ·refine go ?_;refine Rt [_] ?_;exact⟨rfl,H.ext⟩
theorem under_yes(A_l:Option Addr)(n_l c_l:Nat)(l:List Sc)(i:Nat)(k:Nat)(w:World)(h_l:Ls w A_l n_l c_l Sc.c 8 l)(hv:SlOk l)(hu0:Und l i k)(hk0:k<n_l):
  Cr 206 #[.slice A_l n_l c_l,.int .i64 ((i:Nat):Int),.int .i64 ((k:Nat):Int)] w (.bool true):=by
 have H:=(Hp.nil w);have e_l:=h_l.len;have z_l:=h_l.nle;refine Wb Tryz.func206 ?_;refine go ?_;refine sb [2,0,1] ?_;refine WC.loopS 1 (fun mz Ed W'=>∃kk:Nat,mz=2*kk∧Ed=[(2,.int .i64 ((kk:Nat):Int))]∧Hp w W' ([])∧(Und l i kk)∧(kk<n_l)) _ ⟨k,rfl,rfl,(H.pick []),hu0,hk0⟩ ?_;rintro _ _ z ⟨kk,rfl,rfl,H,hu,hk⟩;refine go ?_;refine Cd (fun p5=> ?_) fun p5=> ?_
 ·refine go ?_;refine Cd (fun p8=> ?_) fun p8=> ?_
  ·refine go ?_;refine Rt [_] ?_;exact⟨rfl,H.ext⟩
  ·obtain⟨jj,hj,uj⟩:=(und_le hv hu Om).2 Om;have pj:=hv.pa kk Om;have b10:kk<n_l:=Om;refine G8 ?_;refine yy (Yld.cast (ld rfl u3 rfl (Ls.at_eq (h_l.ext H.ext) b10 rfl)) (vi hj)) ?_;refine go ?_;exact Rs [(2,_)] Sx ⟨jj,rfl,rfl,(H.pick []),uj,Om⟩
 ·omega
theorem apart_yes(A_l:Option Addr)(n_l c_l:Nat)(l:List Sc)(w:World)(h_l:Ls w A_l n_l c_l Sc.c 8 l)(hv:SlOk l):
  Cr 167 #[.slice A_l n_l c_l] w (.bool true):=by
 have H:=(Hp.nil w);have e_l:=h_l.len;have z_l:=h_l.nle;refine Wb Tryz.func167 ?_;refine G3 ?_;refine sb [0] ?_;refine go ?_;refine sb [10,0,8,9] ?_;refine WC.loopS 1 (fun mz Ed W'=>∃j:Nat,mz=n_l-j∧Ed=[(10,.int .i64 ((j:Nat):Int))]∧Hp w W' ([])∧(j≤n_l)) _ ⟨0,rfl,rfl,(H.pick []),(Nat.zero_le _)⟩ ?_;rintro _ _ z ⟨j,rfl,rfl,H,jl⟩;refine go ?_;refine Cd (fun p6=> ?_) fun p6=> ?_
 ·have rj:=hv.rg j Om;have sj:=hv.se j Om;have lj:l[j]!.to-l[j]!.fr=slL l j-chS l j 0:=by show l[j]!.to-l[j]!.fr=l[j]!.to-l[j]!.fr-0;omega
  have b9:j<n_l:=Om;refine go ?_;refine al H ti100 fun g10 z H=> ?_;refine go ?_;refine st H 0 ti100 fun z H=> ?_;refine G18 ?_;rw[lj];refine sb [24,5,0,3,4,8,9,10,22,23] ?_;refine WC.loopS 2 (fun mz Ed W'=>∃k:Nat,mz=n_l-k∧Ed=[(24,.int .i64 ((k:Nat):Int)),(5,.int .i64 (slL l j-chS l j k))]∧Hp w W' (_::[])∧(k≤n_l)) _ ⟨0,rfl,rfl,(H.pick [0]),(Nat.zero_le _)⟩ ?_;rintro _ _ z ⟨k,rfl,rfl,H,kl⟩;have ck:=chS_rng hv (show j<l.length by omega) k Om;have sk:slL l j=l[j]!.to-l[j]!.fr:=rfl;refine go ?_;refine Cd (fun p17=> ?_) fun p17=> ?_
  ·have rk:=hv.rg k Om;have b20:k<n_l:=Om;refine go ?_;refine al H ti100 fun g21 z H=> ?_;refine go ?_;refine st H 0 ti100 fun z H=> ?_;refine go ?_;refine Cd (fun p25=> ?_) fun p25=> ?_
   ·have ek:slL l j-chS l j k-(l[k]!.to-l[k]!.fr)=slL l j-chS l j (k+1):=by rw[show chS l j (k+1)=chS l j k+(l[k]!.to-l[k]!.fr)from if_pos p25];omega
    refine G12 ?_;refine sb [0,3,4,5,6,7,8,9,10,22,23,24] ?_;refine G30 ?_;refine G3 ?_;refine WL.callG rfl (blt rfl) rfl rfl rfl rfl rfl Fh (fun hb=>(evs_cons (evg rfl hb) (evs_cons (evg rfl hb) (evs_cons (evg rfl hb) evs_nil)))) (fun hb=>under_yes _ _ _ l k j _ (h_l.ext H.ext) hv (hv.un j k (by have q0:=(And.intro (And.intro (And.intro (dec_t (and_t (and_t (and_t hb).1).1).1) (eq_t (and_t (and_t (and_t hb).1).1).2)) (dec_t (and_t (and_t hb).1).2)) (dec_t (and_t hb).2));omega) (by have q0:=(And.intro (And.intro (And.intro (dec_t (and_t (and_t (and_t hb).1).1).1) (eq_t (and_t (and_t (and_t hb).1).1).2)) (dec_t (and_t (and_t hb).1).2)) (dec_t (and_t hb).2));omega) (by have q0:=(And.intro (And.intro (And.intro (dec_t (and_t (and_t (and_t hb).1).1).1) (eq_t (and_t (and_t (and_t hb).1).1).2)) (dec_t (and_t (and_t hb).1).2)) (dec_t (and_t hb).2));omega) (by have q0:=(And.intro (And.intro (And.intro (dec_t (and_t (and_t (and_t hb).1).1).1) (eq_t (and_t (and_t (and_t hb).1).1).2)) (dec_t (and_t (and_t hb).1).2)) (dec_t (and_t hb).2));omega) (by have q0:=(And.intro (And.intro (And.intro (dec_t (and_t (and_t (and_t hb).1).1).1) (eq_t (and_t (and_t (and_t hb).1).1).2)) (dec_t (and_t (and_t hb).1).2)) (dec_t (and_t hb).2));omega)) (by have q0:=(And.intro (And.intro (And.intro (dec_t (and_t (and_t (and_t hb).1).1).1) (eq_t (and_t (and_t (and_t hb).1).1).2)) (dec_t (and_t (and_t hb).1).2)) (dec_t (and_t hb).2));omega)) (fun z x=> ?_);have H:=H.ex x;refine go ?_;refine WC.cond rfl (fun h27=> ?_) (fun h27=> ?_)
    ·grind
    ·have p27:=((and_f h27).imp (fun h=>((and_f h).imp (fun h=>((and_f h).imp (fun h=>((and_f h).imp (fun h=>(dec_f h)) (fun h=>(eq_f h)))) (fun h=>(dec_f h)))) (fun h=>(dec_f h)))) (fun h=>h));refine G3 ?_;refine sb [0,3,4,5,8,9,10,22,23,24] ?_;refine G4 ?_;rw[ek];exact Rs [(24,_),(5,_)] Sx ⟨(k+1),rfl,rfl,(H.pick [1]),Om⟩
   ·have ek:slL l j-chS l j k=slL l j-chS l j (k+1):=by rw[show chS l j (k+1)=chS l j k from if_neg p25]
    refine G30 ?_;refine G5 ?_;refine WL.callG rfl (blt rfl) rfl rfl rfl rfl rfl Fh (fun hb=>(evs_cons (evg rfl hb) (evs_cons (evg rfl hb) (evs_cons (evg rfl hb) evs_nil)))) (fun hb=>under_yes _ _ _ l k j _ (h_l.ext H.ext) hv (hv.un j k (by have q0:=(And.intro (And.intro (And.intro (dec_t (and_t (and_t (and_t hb).1).1).1) (eq_t (and_t (and_t (and_t hb).1).1).2)) (dec_t (and_t (and_t hb).1).2)) (dec_t (and_t hb).2));omega) (by have q0:=(And.intro (And.intro (And.intro (dec_t (and_t (and_t (and_t hb).1).1).1) (eq_t (and_t (and_t (and_t hb).1).1).2)) (dec_t (and_t (and_t hb).1).2)) (dec_t (and_t hb).2));omega) (by have q0:=(And.intro (And.intro (And.intro (dec_t (and_t (and_t (and_t hb).1).1).1) (eq_t (and_t (and_t (and_t hb).1).1).2)) (dec_t (and_t (and_t hb).1).2)) (dec_t (and_t hb).2));omega) (by have q0:=(And.intro (And.intro (And.intro (dec_t (and_t (and_t (and_t hb).1).1).1) (eq_t (and_t (and_t (and_t hb).1).1).2)) (dec_t (and_t (and_t hb).1).2)) (dec_t (and_t hb).2));omega) (by have q0:=(And.intro (And.intro (And.intro (dec_t (and_t (and_t (and_t hb).1).1).1) (eq_t (and_t (and_t (and_t hb).1).1).2)) (dec_t (and_t (and_t hb).1).2)) (dec_t (and_t hb).2));omega)) (by have q0:=(And.intro (And.intro (And.intro (dec_t (and_t (and_t (and_t hb).1).1).1) (eq_t (and_t (and_t (and_t hb).1).1).2)) (dec_t (and_t (and_t hb).1).2)) (dec_t (and_t hb).2));omega)) (fun z x=> ?_);have H:=H.ex x;refine G3 ?_;refine sb [0,3,4,5,8,9,10,22,23,24,76] ?_;refine WC.cond rfl (fun h29=> ?_) (fun h29=> ?_)
    ·grind
    ·have p29:=((and_f h29).imp (fun h=>((and_f h).imp (fun h=>((and_f h).imp (fun h=>((and_f h).imp (fun h=>(dec_f h)) (fun h=>(eq_f h)))) (fun h=>(dec_f h)))) (fun h=>(dec_f h)))) (fun h=>h));refine G7 ?_;rw[ek];exact Rs [(24,_),(5,_)] Sx ⟨(k+1),rfl,rfl,(H.pick [1]),Om⟩
  ·have kl:chS l j k=chS l j l.length:=by rw[show k=l.length from Om]
   refine go ?_;refine Cd (fun p31=> ?_) fun p31=> ?_
   ·omega
   ·refine go ?_;exact Rs [(10,_)] Sx ⟨(j+1),rfl,rfl,(H.pick []),Om⟩
 ·refine go ?_;refine Rt [_] ?_;exact⟨rfl,H.ext⟩
structure SlN(ids:List Int)(E:Int)(l:List Sc):Prop where
 v:∀x∈l,nmF x.nm=0∧(x.th∈ids∧0≤x.th∧x.th≤1000000000000000)∧x.to≤E
theorem slichk_any(A_l:Option Addr)(n_l c_l:Nat)(l:List Sc)(w:World)(h_l:Ls w A_l n_l c_l Sc.c 8 l)(ids:List Int)(E:Int)(hv:SlOk l)(hn:SlN ids E l):
  Cr 104 #[.slice A_l n_l c_l] w (.int .i64 0):=by
 have H:=(Hp.nil w);have e_l:=h_l.len;have z_l:=h_l.nle;refine Wb Tryz.func104 ?_;refine go ?_;refine sb [8,0,6,7] ?_;refine WC.loopS 1 (fun mz Ed W'=>∃j:Nat,mz=n_l-j∧Ed=[(8,.int .i64 ((j:Nat):Int))]∧Hp w W' ([])∧(j≤n_l)) _ ⟨0,rfl,rfl,(H.pick []),(Nat.zero_le _)⟩ ?_;rintro _ _ z ⟨j,rfl,rfl,H,jl⟩;refine go ?_;refine Cd (fun p6=> ?_) fun p6=> ?_
 ·have vj:=hn.v _ (mem_b (show j<l.length by omega));have fj:=vj.1;have rj:=hv.rg j Om;have sj:(j:Int)>0→¬cmpSc l[j-1]! l[j]! >0:=fun q=>by
   have:=hv.so (j-1) Om;rw[show j-1+1=j from Om]at this;exact this
  have b9:j<n_l:=Om;refine go ?_;refine al H ti100 fun g10 z H=> ?_;refine go ?_;refine st H 0 ti100 fun z H=> ?_;refine G14 ?_;refine WL.callG rfl (blt rfl) rfl rfl rfl rfl rfl Fh (fun hb=>(evs_cons (evg rfl hb) evs_nil)) (fun hb=>spv_yes (l[j]!.fr) (l[j]!.to) _ (by have q0:=(And.intro (dec_f (or_f hb).1) (dec_f (or_f hb).2));omega)) (fun z x=> ?_);have H:=H.ex x;refine go ?_;refine WC.cond rfl (fun h14=> ?_) (fun h14=> ?_)
  ·have p14:=((or_t h14).imp (fun h=>((or_t h).imp (fun h=>(dec_t h)) (fun h=>(dec_t h)))) (fun h=>h));rcases p14 with(q|q)|q<;>first|omega|cases q
  ·have p14:=(And.intro (dec_f (or_f (or_f h14).1).1) (dec_f (or_f (or_f h14).1).2));refine go ?_;refine c1 H Fh (name_any _ _) fun z H=> ?_;refine G4 ?_;refine yy (Yld.cast (Y.neq rfl rfl rfl) (vb (by rw[fj];first|done|rfl))) ?_;refine G1 ?_;refine sb [0,3,4,5,6,7,8,31] ?_;refine WC.condF rfl ?_;refine go ?_;refine Qr ?_;refine G6 ?_;refine qg (fun hb=>Y.indexLs (j-1) (h_l.ext H.ext) rfl u34 ti100 (evg rfl hb) (evg rfl hb) (by have q0:=(dec_t hb);omega) (by have q0:=(dec_t hb);omega)) ?_;refine G2 ?_;refine WQ.callG rfl (blt rfl) rfl rfl rfl rfl rfl Fh (fun hb=>(evs_cons (evg rfl hb) (evs_cons (evg rfl hb) evs_nil))) (fun hb w hw=>calls_ext hw (slcmp_any l[(j-1)]! l[j]! _)) ?_;refine go ?_;refine Qd H fun z H=> ?_;refine go ?_;refine Cd (fun p19=> ?_) fun p19=> ?_
   ·grind
   ·refine go ?_;exact Rs [(8,_)] Sx ⟨(j+1),rfl,rfl,(H.pick []),Om⟩
 ·refine go ?_;refine c1 H Fh (nested_yes _ _ _ _ _ (h_l.ext H.ext) hv) fun z H=> ?_;refine G3 ?_;refine WL.guarded rfl rfl rfl ?_;refine c1 H Fh (apart_yes _ _ _ _ _ (h_l.ext H.ext) hv) fun z H=> ?_;refine G1 ?_;refine yy (Y.pickF rfl rfl rfl) ?_;refine go ?_;refine WC.condF rfl ?_;refine go ?_;refine Rt [_] ?_;exact⟨rfl,H.ext⟩
structure Tv where(E:Int)(tA:Option Addr)(tN tC:Nat)(th:List Th)(sA:Option Addr)(sN sC:Nat)(sl:List Sc)(gA:Option Addr)(gN gC:Nat)(sg:List Sg)(fA:Option Addr)(fN fC:Nat)(fw:List Fw)(mA:Option Addr)(mN mC:Nat)(sm:List Sm)(pA:Option Addr)(pN pC:Nat)(sp:List Sp)(bA:Option Addr)(bN bC:Nat)(bk:List Bk)(lA:Option Addr)(lN lC:Nat)(lo:List Lo)
def Tv.c(x:Tv):List Value:=[.int .i64 0,.int .i64 x.E,.slice x.tA x.tN x.tC,.slice x.sA x.sN x.sC,.slice x.gA x.gN x.gC,.slice x.fA x.fN x.fC,.slice x.mA x.mN x.mC,.slice x.pA x.pN x.pC,.slice x.bA x.bN x.bC,.slice x.lA x.lN x.lC]
abbrev Tv.v(x:Tv):Value:=.agg x.c.toArray
structure Tv.ok(w:World)(x:Tv):Prop where
 t:Ls w x.tA x.tN x.tC Th.c 3 x.th
 s:Ls w x.sA x.sN x.sC Sc.c 8 x.sl
 g:Ls w x.gA x.gN x.gC Sg.c 7 x.sg
 f:Ls w x.fA x.fN x.fC Fw.c 7 x.fw
 m:Ls w x.mA x.mN x.mC Sm.c 4 x.sm
 mg:∀y∈x.sm,Ls w y.A y.n y.cp sc 1 y.st
 p:Ls w x.pA x.pN x.pC Sp.c 3 x.sp
 b:Ls w x.bA x.bN x.bC Bk.c 7 x.bk
 bg:∀y∈x.bk,Ls w y.A y.k y.c_ sc 1 y.st
 l:Ls w x.lA x.lN x.lC Lo.c 4 x.lo
theorem Tv.ok.ext{w w':World}{x:Tv}(h:x.ok w)(e:Ext w w'):x.ok w':=⟨h.t.ext e,h.s.ext e,h.g.ext e,h.f.ext e,h.m.ext e,fun y hy=>(h.mg y hy).ext e,h.p.ext e,h.b.ext e,fun y hy=>(h.bg y hy).ext e,h.l.ext e⟩
abbrev Tv.ids(x:Tv):List Int:=x.th.map (·.id)
structure TvV(x:Tv):Prop where
 e:0<x.E∧x.E≤1000000000000
 tn:x.tN≤64
 gn:x.gN≤100000
 sn:x.sN≤1000
 mn:x.mN≤1000
 td:x.ids.Nodup
 tv:∀t∈x.th,thE t=0
 s:SlOk x.sl
 n:SlN x.ids x.E x.sl
 g:StChk (dsF x.th) x.sg x.E (dsF x.th).length
 f:FwOk x.ids x.E x.fw
 m:SqOk x.ids x.E (x.sm.map Sm.q)
 p:SpOk x.E x.sp
 b:BkOk x.ids x.E x.bk
 l:LsOk x.ids x.lo
theorem map_same{α β:Type}[Inhabited α](f:α→β){l:List α}{i:Nat}{y:α}(h:f y=f l[i]!):(l.set i y).map f=l.map f:=by
 rw[List.map_set,h];refine List.ext_getElem (by simp) fun k a b=> ?_;grind
def ntF(y:Pq):Int×ByteArray:=(y.th,y.nm)
theorem slE_nt(P:List Pq)(t:Tq)(a:Int)(o:Bool):(slE P t a o).1.map ntF=P.map ntF:=by
 unfold slE;split
 ·rfl
 ·exact map_same ntF rfl
theorem slA_nt:∀(k:Nat) (P:List Pq) (t:Tq) (a:Int),(slA k P t a).1.map ntF=P.map ntF
 |0,_,_,_=>rfl
 |k+1,P,t,a=>(slA_nt k _ _ a).trans (slE_nt P t a true)
theorem slG_nt(P:List Pq)(t:Tq)(x:Tm):(slG P t x).1.map ntF=P.map ntF:=by
 grind [slG,slA_nt]
theorem slV_nt(P:List Pq)(t:Tq)(x:Tm):(slV P t x).1.map ntF=P.map ntF∨x.kd=1∧(slV P t x).1.map ntF=P.map ntF++[(x.th,x.nm)]:=by
 unfold slV;split
 ·rename_i h;refine .inr ⟨h,?_⟩;rw[List.map_append];rfl
 ·split
  ·exact .inl (slE_nt _ _ _ _)
  ·exact .inl rfl
theorem slN_nt(o:List Tm):∀j,j≤o.length→(slN o j).1.length≤j∧∀y∈(slN o j).1.map ntF,∃x∈o,x.kd=1∧y=(x.th,x.nm)
 |0,_=>⟨Nat.le_refl _,fun y hy=>by cases hy⟩
 |j+1,hj=>by
  obtain⟨a,b⟩:=slN_nt o j Om;have hx:o[j]!∈o:=mem_b Om;have e1:(slN o (j+1)).1=(slV (slG (slN o j).1 ((xget (slN o j).2 o[j]!.th).getD default) o[j]!).1 {(slG (slN o j).1 ((xget (slN o j).2 o[j]!.th).getD default) o[j]!).2 with ex:=o[j]!.sr+1,la:=clk o[j]!.lo} o[j]!).1:=rfl;have g:=slG_nt (slN o j).1 ((xget (slN o j).2 o[j]!.th).getD default) o[j]!;have gl:=congrArg List.length g;rw[List.length_map,List.length_map]at gl;rw[e1];rcases slV_nt (slG (slN o j).1 ((xget (slN o j).2 o[j]!.th).getD default) o[j]!).1 {(slG (slN o j).1 ((xget (slN o j).2 o[j]!.th).getD default) o[j]!).2 with ex:=o[j]!.sr+1,la:=clk o[j]!.lo} o[j]! with h|⟨hk,h⟩
  ·have hl:=congrArg List.length h;grind
  ·have hl:=congrArg List.length h;grind
theorem clM_nt(E:Int)(b:Nat→Bool)(P:List Pq):(clM E b P).map ntF=P.map ntF:=by
 unfold clM;rw[List.map_map];refine List.ext_getElem (by simp) fun k h1 h2=> ?_;rw[List.getElem_map,List.getElem_map,List.getElem_range,←bang_eq (l:=P) (by grind)];show ntF (if b k=true then clP E P[k]! else P[k]!)=_;split<;>rfl
theorem slF_len(o:List Tm)(en:Int):(slF o en).length≤o.length:=by
 have h1:=congrArg List.length (clM_nt (enF en o) (fun i=>(slN o o.length).2.any fun t=>decide ((i:Int)∈t.2.l)) (slN o o.length).1);rw[List.length_map,List.length_map]at h1;have h2:=(slN_nt o o.length Nl).1;have h3:(slP2 o en).length=(slN o o.length).1.length:=h1;grind [slF,slK,slO_len,stabF_len,List.length_filter_le,Pq,decide,slP2]
theorem enF_tn(o:List Tm)(h:tnF o≤1000000000000):enF (tnF o) o=tnF o:=by
 have k:∀j,j≤o.length→enN (tnF o) o j=tnF o:=fun j=>by
  induction j with
  |zero=>intro _;rfl
  |succ j ih=>
   intro hj;have:=tnF_gt o (mem_b (show j<o.length by omega));grind [max,enN,tnF,clk,getElem!]
 unfold enF;rw[k _ Nl];grind [tnN_rng,tnF,clk]
theorem slF_n{ids:List Int}{o:List Tm}(h:OrdOk ids o)(hE:tnF o≤1000000000000):SlN ids (tnF o) (slF o (tnF o)):=⟨fun x hx=>by
 have ns:=slP2_nst (tnF o) h.s;have kp:Kpt (slP2 o (tnF o)) (slK o (tnF o)):=kpt_of ns.no;obtain⟨i,hi,rfl⟩:=mem_at hx;have hi':i<(slK o (tnF o)).length:=by unfold slF at hi;rwa[slO_len]at hi
 obtain⟨e1,_,e2,_,e3,_⟩:=slO_at (hpa_of (tnF o) h.s) _ Nl i hi';have e1:(slF o (tnF o))[i]!.th=_:=e1;have e2:(slF o (tnF o))[i]!.nm=_:=e2;have e3:(slF o (tnF o))[i]!.to=_:=e3;have hm:=((kp.m _).1 (mem_b hi')).1;obtain⟨j,hj,ej⟩:=mem_at hm;have hto:=(ns.le j hj).2.2;rw[ej,enF_tn o hE]at hto;have hm2:=List.mem_map_of_mem (f:=ntF) hm;rw[show(slP2 o (tnF o)).map ntF=(slN o o.length).1.map ntF from clM_nt _ _ _]at hm2;obtain⟨y,hy,hk,e⟩:=(slN_nt o o.length Nl).2 _ hm2;injection e with e4 e5
 rw[e1,e2,e3,e4,e5];refine⟨(h.v y hy).nm (by rw[hk];rfl),?_,hto⟩;exact h.th y hy⟩
theorem stStep_tk{ids:List Int}{S:List Td×Int}{b:Nat}(h:TkOk S.1 b)(hl:S.1.length=ids.length)(e:Tm):TkOk (stStep ids S e).1 (b+3):=by
 have at_:TkOk (atI ids e.th (evT e) S.1) (b+2):=by
  unfold atI;split
  ·have:=h _ (mem_b (show ids.idxOf e.th<S.1.length by omega));have k:=evF_len e S.1[ids.idxOf e.th]!.n S.1[ids.idxOf e.th]!.l this.1;exact(h.mono Om).set k.1 (by show(evF e _ _ _).length≤_;omega)
  ·exact h.mono Om
 have al:(atI ids e.th (evT e) S.1).length=ids.length:=by
  grind [atI,List.length_set]
 show TkOk (if ids.idxOf e.n<ids.length then _ else _) _;split
 ·split
  ·have:=at_ _ (mem_b (show ids.idxOf e.n<(atI ids e.th (evT e) S.1).length by omega));have k:=wakeF_len (clk e.lo) e.th (atI ids e.th (evT e) S.1)[ids.idxOf e.n]!.cs;exact(at_.mono Om).set (by show 1≤(wakeF _ _ _).length;omega) (by show(wakeF _ _ _).length≤_;omega)
  ·exact at_.mono Om
 ·exact at_.mono Om
theorem stFold_tk(ids:List Int)(o:List Tm)(en:Int):∀j,TkOk (stFold ids o en j).1 (1+3*j)
 |0=>fun t ht=>by
  obtain⟨x,_,rfl⟩:=List.mem_map.1 ht;exact⟨Nat.le_refl _,Nat.le_refl _⟩
 |j+1=>by
  have:=stStep_tk (stFold_tk ids o en j) (stFold_len ids o en j) o[j]!;rw[show 1+3*(j+1)=1+3*j+3 from Om];exact this
theorem stOf_len(ths:List Th)(o:List Tm)(en:Int):(stOf ths o en).length≤(1+3*o.length)*ths.length:=by
 refine Nat.le_trans (stRows_len _ _ (stFold_tk _ _ _ _) _) (Nat.mul_le_mul_left _ (dsT_len ths _))
def bstF(y:Bk):Option Addr×Nat×Nat×List ByteArray:=(y.A,y.k,y.c_,y.st)
theorem mmC_bs(s:List (Int×Int)×List Bk)(x:Tm):∀a,(mmC s x a).2.map bstF=s.2.map bstF
 |none=>rfl
 |some i=>map_same bstF rfl
theorem mmN_bs(en:Int)(o:List Tm):∀j,j≤o.length→∀y∈(mmN en o j).2.map bstF,∃x∈o,y=(x.A,x.k,x.c_,x.st)
 |0,_=>fun y hy=>by cases hy
 |j+1,hj=>by
  have ih:=mmN_bs en o j Om;have hx:o[j]!∈o:=mem_b Om;show∀y∈(mm1 en (mmN en o j) o[j]!).2.map bstF,_;unfold mm1;split
  ·exact ih
  ·split
   ·show∀y∈((mmC _ _ _).2++_).map bstF,_;rw[List.map_append,mmC_bs];intro y hy;rcases List.mem_append.1 hy with q|q
    ·grind
    ·exact⟨_,hx,List.mem_singleton.1 q⟩
   grind [mmC_bs]
theorem mmF_bs(o:List Tm)(en:Int):∀y∈mmF o en,∃x∈o,y.A=x.A∧y.k=x.k∧y.c_=x.c_∧y.st=x.st:=fun y hy=>by
 have h1:=(stabF_perm (c:=cmpBk) _).mem_iff.1 hy;have h2:=(List.mem_filter.1 h1).1;obtain⟨x,hx,e⟩:=mmN_bs _ o o.length Nl _ (List.mem_map_of_mem (f:=bstF) h2);injection e with e1 e
 grind
theorem hd_ths{ths:List Th}{d:List Dm}{s:List Sn}(h:hdE ths d s=0):ths.length≤64∧(∀t∈ths,thE t=0)∧(ths.map (·.id)).Nodup:=by
 unfold hdE at h;split at h
 ·cases h
 ·split at h
  ·cases h
  ·rename_i q1;split at h
   ·rename_i q;omega
   ·rename_i q;have z:=fE_ok.1 (Decidable.of_not_not q);have th_:∀i,i<ths.length→thE ths[i]! =0∧ths[i]!.id∉(ths.take i).map (·.id):=fun i hi=>by
     have:=z i hi;unfold th1 at this;grind
    refine⟨Om,fun t ht=> ?_,?_⟩
    ·grind [mem_at]
    ·rw[List.nodup_iff_pairwise_ne,List.pairwise_map,List.pairwise_iff_getElem];intro i j hi hj hij e;refine(th_ j hj).2 (List.mem_map.2 ⟨ths[i],?_,by grind⟩);exact List.mem_take_iff_getElem.2 ⟨i,Om,rfl⟩
theorem stRows_zero(ids:List Int):∀j,j≤ids.length→stRows ids (ids.map fun _=>tk0) 0 j=[]
 |0,_=>rfl
 |j+1,hj=>by
  have hi:ids.idxOf ids[j]! <ids.length:=List.idxOf_lt_length_of_mem (mem_b Om);show stRows ids _ 0 j++statesF ids[j]! 0 ((ids.map fun _=>tk0)[ids.idxOf ids[j]!]!).cs=[];rw[stRows_zero ids j Om,map_b _ hi];rfl
theorem tn_pos{ths:List Th}{o:List Tm}(h:stOf ths o (tnF o)≠[]):0<tnF o:=by
 cases o with
 |nil=>
  refine absurd ?_ h;exact stRows_zero (dsF ths) _ Nl
 |cons x r=>
  have:=tnF_gt (x::r) List.mem_cons_self;have:=(clk_rng x.lo).1;omega
theorem tv_mk{A_ta:Option Addr}{n_ta c_ta:Nat}{ta:List Th}{o:List Tm}{w w':World}(h_ta:Ls w A_ta n_ta c_ta Th.c 3 ta)(O:OrdOk (ta.map (·.id)) o)(t1:ta.length≤10)(t2:∀t∈ta,thE t=0)(t3:(ta.map (·.id)).Nodup)(hst:∀y∈o,Ls w y.A y.k y.c_ sc 1 y.st)(oL:o.length≤24)(h1:tnF o≤1000000000000)(x:Ext w w')
  {v1 v2 v3 v4 v5 v6 v7:Value} {xs:List Sm} (H:Hp w w' [row 100 Sc.c 8 v1 (slF o (tnF o)),row 113 Sg.c 7 v2 (stOf ta o (tnF o)),row 170 Fw.c 7 v3 (flF o),row 53 Sm.c 4 v4 xs,big smR xs,row 172 Sp.c 3 v5 (coF o),row 176 Bk.c 7 v6 (mmF o (tnF o)),row 186 Lo.c 4 v7 (lsF o)]) (hx:xs.map Sm.q=smFo o):
  ∃T:Tv,Value.agg #[.int .i64 0,.int .i64 (tnF o),.slice A_ta n_ta c_ta,v1,v2,v3,v4,v5,v6,v7]=T.v∧T.ok w'∧(T.sg≠[]→TvV T)∧T.E=tnF o∧T.th=ta∧T.sl=slF o (tnF o)∧T.sg=stOf ta o (tnF o)∧T.sN≤24∧T.mN≤24:=by
 obtain⟨A1,n1,c1,rfl,e1,_,_⟩:=H.op 0;obtain⟨A2,n2,c2,rfl,e2,_,_⟩:=H.op 1;obtain⟨A3,n3,c3,rfl,e3,_,_⟩:=H.op 2;obtain⟨A4,n4,c4,rfl,e4,_,_⟩:=H.op 3;obtain⟨A5,n5,c5,rfl,e5,_,_⟩:=H.op 5;obtain⟨A6,n6,c6,rfl,e6,_,_⟩:=H.op 6;obtain⟨A7,n7,c7,rfl,e7,_,_⟩:=H.op 7;have hB:(big smR xs).holds w':=H.get (k:=4) rfl;have xl:xs.length≤24:=by
  have:=congrArg List.length hx;rw[List.length_map]at this;rw[this];exact Nat.le_trans (smN_len _ _) oL
 have hg:=stOf_len ta o (tnF o);have hg2:(1+3*o.length)*ta.length≤73*10:=Nat.mul_le_mul Om t1;have hs:=slF_len o (tnF o);have etn:=h_ta.len;have ok:Tv.ok w' ⟨tnF o,A_ta,n_ta,c_ta,ta,A1,n1,c1,slF o (tnF o),A2,n2,c2,stOf ta o (tnF o),A3,n3,c3,flF o,A4,n4,c4,xs,A5,n5,c5,coF o,A6,n6,c6,mmF o (tnF o),A7,n7,c7,lsF o⟩:=⟨h_ta.ext x,H.l 0,H.l 1,H.l 2,H.l 3,fun y hy=>by
  have h2:=hB.1 (row 9 sc 1 (.slice y.A y.n y.cp) y.st) (List.mem_flatMap.2 ⟨y,hy,List.mem_cons_self⟩);exact OwnL.ls h2 (fun _=>rfl) Dc,H.l 5,H.l 6,fun y hy=>by
  obtain⟨z,hz,q1,q2,q3,q4⟩:=mmF_bs _ _ y hy;rw[q1,q2,q3,q4];exact(hst z hz).ext x,H.l 7⟩
 have sq:SqOk (ta.map (·.id)) (tnF o) (xs.map Sm.q):=by grind [smFo_ok]
 refine⟨_,rfl,ok,fun hne=> ?_,rfl,rfl,rfl,rfl,by grind,by grind⟩;have hE:0<tnF o:=tn_pos hne;have sg:StChk (dsF ta) (stOf ta o (tnF o)) (tnF o) (dsF ta).length:=stOf_ok O.srt O.st (fun z hz=>by have:=tnF_gt _ hz;omega) hE h1;exact⟨⟨hE,h1⟩,by grind,by grind,by grind,by grind,t3,t2,slF_ok _ O.s,slF_n O h1,sg,flF_ok O,sq,coF_ok O,mmF_ok O h1 hE,lsF_ok O⟩
theorem tv_of{A_ta:Option Addr}{n_ta c_ta:Nat}{ta:List Th}{da:List Dm}{na:List Sn}{pa:List Pk}{w w':World}(h_ta:Ls w A_ta n_ta c_ta Th.c 3 ta)(g_pa:PksOk w pa)(he:evsum pa pa.length≤24)(htl:ta.length≤10)(h0:trE ta da na pa=0)(x:Ext w w')
  {v1 v2 v3 v4 v5 v6 v7:Value} {xs:List Sm} (H:Hp w w' [row 100 Sc.c 8 v1 (slF (orL ta da na pa) (tnF (orL ta da na pa))),row 113 Sg.c 7 v2 (stOf ta (orL ta da na pa) (tnF (orL ta da na pa))),row 170 Fw.c 7 v3 (flF (orL ta da na pa)),row 53 Sm.c 4 v4 xs,big smR xs,row 172 Sp.c 3 v5 (coF (orL ta da na pa)),row 176 Bk.c 7 v6 (mmF (orL ta da na pa) (tnF (orL ta da na pa))),row 186 Lo.c 4 v7 (lsF (orL ta da na pa))]) (hx:xs.map Sm.q=smFo (orL ta da na pa)):
  ∃T:Tv,Value.agg #[.int .i64 0,.int .i64 (tnF (orL ta da na pa)),.slice A_ta n_ta c_ta,v1,v2,v3,v4,v5,v6,v7]=T.v∧T.ok w'∧(T.sg≠[]→TvV T)∧T.E=tnF (orL ta da na pa)∧T.th=ta∧T.sl=slF (orL ta da na pa) (tnF (orL ta da na pa))∧T.sg=stOf ta (orL ta da na pa) (tnF (orL ta da na pa))∧T.sN≤24∧T.mN≤24:=by
 have hkl:∀p∈pa,p.es.length=p.k:=fun p hp=>(g_pa p hp).l.len;have h1:orE ta da na pa=0∧tnF (orL ta da na pa)≤1000000000000:=by
  unfold trE at h0;omega
 have O:=orL_ok hkl he h1.1;have hlg:=or_lg h1.1;obtain⟨t1,t2,t3⟩:=hd_ths (of_zero (lg_pk hlg).1).1;have hst:∀y∈orL ta da na pa,Ls w y.A y.k y.c_ sc 1 y.st:=fun y hy=>by
  obtain⟨p,hp,_,hev⟩:=orL_ev y hy;exact(g_pa p hp).e _ hev
 have oL:(orL ta da na pa).length≤24:=Nat.le_trans orL_mem.2 (by rw[←List.length_map (f:=tmI),tgX_ids hkl];show(idsN pa pa.length).length≤24;grind [idsN_len]);grind [orL,tv_mk]
theorem nd_take{l:List Int}(h:l.Nodup){j:Nat}(hj:j<l.length):l[j]!∈l.take j→False:=fun hm=>by
 obtain⟨i,hi,e⟩:=List.mem_iff_getElem.1 hm;rw[List.length_take]at hi;rw[List.getElem_take,bang_eq hj]at e;have:=(List.getElem_inj h).1 e;omega
theorem threads_any(T:Tv)(w:World)(hT:T.ok w)(hv:TvV T):
  Calls Tryz.prog 102 #[Tv.v T] w fun e w'=>∃g,e= .returned (.tuple #[.map (some g),.int .i64 0])∧Hp w w' [mpi g (thM T.th T.th.length)]:=by
 have H:=(Hp.nil w);have e_t:=hT.t.len;have e_s:=hT.s.len;have e_g:=hT.g.len;have e_f:=hT.f.len;have e_m:=hT.m.len;have e_p:=hT.p.len;have e_b:=hT.b.len;have e_l:=hT.l.len;have z_t:=hT.t.nle;have z_s:=hT.s.nle;have z_g:=hT.g.nle;have z_f:=hT.f.nle;have z_m:=hT.m.nle;have z_p:=hT.p.nle;have z_b:=hT.b.nle;have z_l:=hT.l.nle;refine Wb Tryz.func102 ?_;refine go ?_;refine bx H fun g2 z H=> ?_;refine go ?_;refine Cd (fun p6=> ?_) fun p6=> ?_
 ·have:=hv.tn;have p:=p6;omega
 ·refine go ?_;refine mm H fun g8 z H=> ?_;refine go ?_;refine sb [18,4,16,17] ?_;refine WC.loopS 1 (fun mz Ed W'=>∃j:Nat,mz=T.tN-j∧Ed=[(18,.int .i64 ((j:Nat):Int))]∧Hp w W' (mpi g8 (thM T.th j)::_::[])∧(j≤T.tN)) _ ⟨0,rfl,rfl,(H.pick [0,0]),(Nat.zero_le _)⟩ ?_;rintro _ _ z ⟨j,rfl,rfl,H,jl⟩;refine go ?_;refine Cd (fun p14=> ?_) fun p14=> ?_
  ·have tj:=hv.tv _ (mem_b (show j<T.th.length by omega));have ij:(mget (thM T.th j) T.th[j]!.id).isSome=false:=by
    cases q:(mget (thM T.th j) T.th[j]!.id).isSome with
    |false=>rfl
    |true=>
     exfalso;have:=(thM_has (ths:=T.th) T.th[j]!.id j Om).1 q;rw[List.map_take]at this;have hj:j<T.th.length:=Om;refine nd_take (j:=j) hv.td (by rw[List.length_map];exact hj) ?_;rw[map_b _ hj];exact this
   have b17:j<T.tN:=Om;refine go ?_;refine al H ti57 fun g18 z H=> ?_;refine st H 0 ti57 fun z H=> ?_;refine go ?_;refine c1 H Fh (thread_any T.th[j]! _) fun z H=> ?_;refine G4 ?_;refine yy (Yld.cast (Y.neq rfl rfl rfl) (vb (by rw[tj];first|done|rfl))) ?_;refine go ?_;refine WC.condF rfl ?_;refine G7 ?_;refine yy (Y.lookupOk rfl u213 u3 ti9 rfl rfl (fun _ h=>h▸(H.mi 1))) ?_;refine G1 ?_;refine yy (Yld.cast (Y.extract rfl rfl rfl) rfl) ?_;refine yy (Yld.cast (Y.extract rfl rfl rfl) (vb ij)) ?_;refine go ?_;refine WC.condF rfl ?_;refine G2 ?_;refine sb [4,6,16,17,18] ?_;refine go ?_;refine mu H 1 u213 u3 fun z H=> ?_;refine go ?_;exact Rs [(18,_)] Sx ⟨(j+1),rfl,rfl,(H.pick [1,1]),Om⟩
  ·refine go ?_;refine Rt [_,_] ?_;exact⟨_,rfl,(by rw[show T.th.length=j from Om];exact(H.pick [0]))⟩
theorem ocl1_any(x:Sc)(g:Nat)(a b:Int)(w:World)(hg:Blk w g 33 [.int .i64 a,.int .i64 b]):
  Cr 119 #[.agg #[.int .i64 x.th,.int .i64 x.pa,.int .i64 x.de,.string x.nm,.int .i64 x.fr,.int .i64 x.to,.int .i64 x.se,.bool x.op],.pointer (some ⟨g,0,none⟩)] w (.bool (!(decide (a≤x.fr)&&decide (x.to≤b)))):=by
 have H:=(Hp.nil w);refine Wb Tryz.func119 ?_;refine go ?_;refine bx H fun g2 z H=> ?_;refine go ?_;refine c1 H Fh (within_any _ _ _ _ _) fun z H=> ?_;refine go ?_;refine Rt [_] ?_;exact⟨rfl,H.ext⟩
theorem ocl2_any(x:Sg)(g:Nat)(a b:Int)(w:World)(hg:Blk w g 33 [.int .i64 a,.int .i64 b]):
  Cr 122 #[.agg #[.int .i64 x.th,.int .i64 x.s,.int .i64 x.f,.int .i64 x.t,.int .i64 x.cpu,.int .i64 x.on,.int .i64 x.by_],.pointer (some ⟨g,0,none⟩)] w (.bool (!(decide (a≤x.f)&&decide (x.t≤b)))):=by
 have H:=(Hp.nil w);refine Wb Tryz.func122 ?_;refine go ?_;refine bx H fun g2 z H=> ?_;refine go ?_;refine c1 H Fh (within_any _ _ _ _ _) fun z H=> ?_;refine go ?_;refine Rt [_] ?_;exact⟨rfl,H.ext⟩
theorem ocl3_any(x:Bk)(g:Nat)(a b:Int)(w:World)(hg:Blk w g 33 [.int .i64 a,.int .i64 b]):
  Cr 124 #[.agg #[.int .i64 x.id,.int .i64 x.th,.int .i64 x.sz,.int .i64 x.fr,.int .i64 x.to,.slice x.A x.k x.c_,.bool x.lv],.pointer (some ⟨g,0,none⟩)] w (.bool (!(decide (a≤x.fr)&&decide (x.to≤b)))):=by
 have H:=(Hp.nil w);refine Wb Tryz.func124 ?_;refine go ?_;refine bx H fun g2 z H=> ?_;refine go ?_;refine c1 H Fh (within_any _ _ _ _ _) fun z H=> ?_;refine go ?_;refine Rt [_] ?_;exact⟨rfl,H.ext⟩
theorem ocl4_any(x:Fw)(g:Nat)(a b:Int)(w:World)(hg:Blk w g 33 [.int .i64 a,.int .i64 b]):
  Cr 126 #[.agg #[.int .i64 x.id,.int .i64 x.fth,.int .i64 x.fsr,.int .i64 x.tth,.int .i64 x.tsr,.int .i64 x.snd,.int .i64 x.rcv],.pointer (some ⟨g,0,none⟩)] w (.bool ((!(decide (a≤x.snd)&&decide (x.snd<b))|| !(decide (a≤x.rcv)&&decide (x.rcv<b))))):=by
 have H:=(Hp.nil w);refine Wb Tryz.func126 ?_;refine go ?_;refine bx H fun g2 z H=> ?_;refine go ?_;refine c1 H Fh (inside_any _ _ _ _) fun z H=> ?_;refine G5 ?_;refine WL.callG rfl (blt rfl) rfl rfl rfl rfl rfl Fh (fun hb=>(evs_cons (evg rfl hb) (evs_cons (evg rfl hb) evs_nil))) (fun hb=>inside_any _ _ _ _) (fun z x=> ?_);have H:=H.ex x;refine G4 ?_;refine sb [3] ?_;refine go ?_;refine Rt [_] ?_;exact⟨rfl,H.ext⟩
theorem ocl5_any(x:Sm)(g:Nat)(a b:Int)(w:World)(hg:Blk w g 33 [.int .i64 a,.int .i64 b]):
  Cr 129 #[.agg #[.int .i64 x.th,.int .i64 x.at_,.int .i64 x.w,.slice x.A x.n x.cp],.pointer (some ⟨g,0,none⟩)] w (.bool (!(decide (a≤x.at_)&&decide (x.at_<b)))):=by
 have H:=(Hp.nil w);refine Wb Tryz.func129 ?_;refine go ?_;refine bx H fun g2 z H=> ?_;refine go ?_;refine c1 H Fh (inside_any _ _ _ _) fun z H=> ?_;refine go ?_;refine Rt [_] ?_;exact⟨rfl,H.ext⟩
theorem ocl6_any(x:Sp)(g:Nat)(a b:Int)(w:World)(hg:Blk w g 33 [.int .i64 a,.int .i64 b]):
  Cr 131 #[.agg #[.string x.nm,.int .i64 x.at_,.int .i64 x.v],.pointer (some ⟨g,0,none⟩)] w (.bool (!(decide (a≤x.at_)&&decide (x.at_<b)))):=by
 have H:=(Hp.nil w);refine Wb Tryz.func131 ?_;refine go ?_;refine bx H fun g2 z H=> ?_;refine go ?_;refine c1 H Fh (inside_any _ _ _ _) fun z H=> ?_;refine go ?_;refine Rt [_] ?_;exact⟨rfl,H.ext⟩
theorem ixfXS_any(A_l:Option Addr)(n_l c_l:Nat)(l:List Sc)(f:FuncId)(cap:List Value)(pr:Sc→Bool)(w:World)(h_l:Ls w A_l n_l c_l Sc.c 8 l)(hF:Has Tryz.prog f)(hp:∀k,k<l.length→∀w1,Ext w w1→Calls Tryz.prog f ([]++[Value.agg (Sc.c l[k]!).toArray]++cap).toArray w1 fun e w2=>e= .returned (.bool (pr l[k]!))∧Ext w1 w2):
  Cr 171 #[.slice A_l n_l c_l,.func (.func f) #[] cap.toArray] w (.int .i64 (ixP pr l)):=by
 have H:=(Hp.nil w);have e_l:=h_l.len;have z_l:=h_l.nle;refine Wb Tryz.func171 ?_;refine go ?_;refine sb [8,0,1,7] ?_;refine WC.loopS 1 (fun mz Ed W'=>∃j:Nat,mz=n_l-j∧Ed=[(8,.int .i64 ((j:Nat):Int))]∧Hp w W' ([])∧(j≤n_l)∧(∀k,k<j→pr l[k]! =false)) _ ⟨0,rfl,rfl,(H.pick []),(Nat.zero_le _),(fun k h=>absurd h (Nat.not_lt_zero k))⟩ ?_;rintro _ _ z ⟨j,rfl,rfl,H,jl,hb⟩;refine go ?_;refine Cd (fun p6=> ?_) fun p6=> ?_
 ·have b10:j<n_l:=Om;refine go ?_;refine c1V rfl H hF (hp j Om _ H.ext) fun z H=> ?_;refine go ?_;refine WC.cond rfl (fun h11=> ?_) (fun h11=> ?_)
  ·refine go ?_;refine Rt [_] ?_;exact⟨ret1 (vi (ixP_at Om hb h11).symm),H.ext⟩
  ·refine go ?_;exact Rs [(8,_)] Sx ⟨(j+1),rfl,rfl,(H.pick []),Om,(fun k h=>(Nat.lt_succ_iff_lt_or_eq.1 h).elim (hb k) fun e=>e▸h11)⟩
 ·refine go ?_;refine Rt [_] ?_;exact⟨ret1 (vi (ixP_no (fun k hk=>hb k Om)).symm),H.ext⟩
theorem cfXS_any(A_l:Option Addr)(n_l c_l:Nat)(l:List Sc)(f:FuncId)(cap:List Value)(pr:Sc→Bool)(w:World)(h_l:Ls w A_l n_l c_l Sc.c 8 l)(hF:Has Tryz.prog f)(hp:∀k,k<l.length→∀w1,Ext w w1→Calls Tryz.prog f ([]++[Value.agg (Sc.c l[k]!).toArray]++cap).toArray w1 fun e w2=>e= .returned (.bool (pr l[k]!))∧Ext w1 w2):
  Cr 118 #[.slice A_l n_l c_l,.func (.func f) #[] cap.toArray] w (.bool (decide (ixP pr l≥0))):=by
 have H:=(Hp.nil w);have e_l:=h_l.len;have z_l:=h_l.nle;refine Wb Tryz.func118 ?_;refine G3 ?_;refine sb [0,1] ?_;refine go ?_;refine c1 H Fh (ixfXS_any _ _ _ _ f cap pr _ (h_l.ext H.ext) hF (fun k hk w1 x1=>hp k hk w1 (H.ext.trans x1))) fun z H=> ?_;refine go ?_;refine Rt [_] ?_;exact⟨rfl,H.ext⟩
theorem cfXS_no(A_l:Option Addr)(n_l c_l:Nat)(l:List Sc)(f:FuncId)(cap:List Value)(pr:Sc→Bool)(w:World)(h_l:Ls w A_l n_l c_l Sc.c 8 l)(hF:Has Tryz.prog f)(hp:∀k,k<l.length→∀w1,Ext w w1→Calls Tryz.prog f ([]++[Value.agg (Sc.c l[k]!).toArray]++cap).toArray w1 fun e w2=>e= .returned (.bool (pr l[k]!))∧Ext w1 w2)(hno:∀k,k<l.length→pr l[k]! =false):
  Cr 118 #[.slice A_l n_l c_l,.func (.func f) #[] cap.toArray] w (.bool false):=
 (cfXS_any _ _ _ l f cap pr w h_l hF hp).mono fun e w' r=>⟨by rw[r.1,ixP_no hno];rfl,r.2⟩
theorem ixfXG_any(A_l:Option Addr)(n_l c_l:Nat)(l:List Sg)(f:FuncId)(cap:List Value)(pr:Sg→Bool)(w:World)(h_l:Ls w A_l n_l c_l Sg.c 7 l)(hF:Has Tryz.prog f)(hp:∀k,k<l.length→∀w1,Ext w w1→Calls Tryz.prog f ([]++[Value.agg (Sg.c l[k]!).toArray]++cap).toArray w1 fun e w2=>e= .returned (.bool (pr l[k]!))∧Ext w1 w2):
  Cr 172 #[.slice A_l n_l c_l,.func (.func f) #[] cap.toArray] w (.int .i64 (ixP pr l)):=by
 have H:=(Hp.nil w);have e_l:=h_l.len;have z_l:=h_l.nle;refine Wb Tryz.func172 ?_;refine go ?_;refine sb [8,0,1,7] ?_;refine WC.loopS 1 (fun mz Ed W'=>∃j:Nat,mz=n_l-j∧Ed=[(8,.int .i64 ((j:Nat):Int))]∧Hp w W' ([])∧(j≤n_l)∧(∀k,k<j→pr l[k]! =false)) _ ⟨0,rfl,rfl,(H.pick []),(Nat.zero_le _),(fun k h=>absurd h (Nat.not_lt_zero k))⟩ ?_;rintro _ _ z ⟨j,rfl,rfl,H,jl,hb⟩;refine go ?_;refine Cd (fun p6=> ?_) fun p6=> ?_
 ·have b10:j<n_l:=Om;refine go ?_;refine c1V rfl H hF (hp j Om _ H.ext) fun z H=> ?_;refine go ?_;refine WC.cond rfl (fun h11=> ?_) (fun h11=> ?_)
  ·refine go ?_;refine Rt [_] ?_;exact⟨ret1 (vi (ixP_at Om hb h11).symm),H.ext⟩
  ·refine go ?_;exact Rs [(8,_)] Sx ⟨(j+1),rfl,rfl,(H.pick []),Om,(fun k h=>(Nat.lt_succ_iff_lt_or_eq.1 h).elim (hb k) fun e=>e▸h11)⟩
 ·refine go ?_;refine Rt [_] ?_;exact⟨ret1 (vi (ixP_no (fun k hk=>hb k Om)).symm),H.ext⟩
theorem cfXG_any(A_l:Option Addr)(n_l c_l:Nat)(l:List Sg)(f:FuncId)(cap:List Value)(pr:Sg→Bool)(w:World)(h_l:Ls w A_l n_l c_l Sg.c 7 l)(hF:Has Tryz.prog f)(hp:∀k,k<l.length→∀w1,Ext w w1→Calls Tryz.prog f ([]++[Value.agg (Sg.c l[k]!).toArray]++cap).toArray w1 fun e w2=>e= .returned (.bool (pr l[k]!))∧Ext w1 w2):
  Cr 121 #[.slice A_l n_l c_l,.func (.func f) #[] cap.toArray] w (.bool (decide (ixP pr l≥0))):=by
 have H:=(Hp.nil w);have e_l:=h_l.len;have z_l:=h_l.nle;refine Wb Tryz.func121 ?_;refine G3 ?_;refine sb [0,1] ?_;refine go ?_;refine c1 H Fh (ixfXG_any _ _ _ _ f cap pr _ (h_l.ext H.ext) hF (fun k hk w1 x1=>hp k hk w1 (H.ext.trans x1))) fun z H=> ?_;refine go ?_;refine Rt [_] ?_;exact⟨rfl,H.ext⟩
theorem cfXG_no(A_l:Option Addr)(n_l c_l:Nat)(l:List Sg)(f:FuncId)(cap:List Value)(pr:Sg→Bool)(w:World)(h_l:Ls w A_l n_l c_l Sg.c 7 l)(hF:Has Tryz.prog f)(hp:∀k,k<l.length→∀w1,Ext w w1→Calls Tryz.prog f ([]++[Value.agg (Sg.c l[k]!).toArray]++cap).toArray w1 fun e w2=>e= .returned (.bool (pr l[k]!))∧Ext w1 w2)(hno:∀k,k<l.length→pr l[k]! =false):
  Cr 121 #[.slice A_l n_l c_l,.func (.func f) #[] cap.toArray] w (.bool false):=
 (cfXG_any _ _ _ l f cap pr w h_l hF hp).mono fun e w' r=>⟨by rw[r.1,ixP_no hno];rfl,r.2⟩
theorem cfXB_no(A_l:Option Addr)(n_l c_l:Nat)(l:List Bk)(f:FuncId)(cap:List Value)(pr:Bk→Bool)(w:World)(h_l:Ls w A_l n_l c_l Bk.c 7 l)(hF:Has Tryz.prog f)(hp:∀k,k<l.length→∀w1,Ext w w1→Calls Tryz.prog f ([]++[Value.agg (Bk.c l[k]!).toArray]++cap).toArray w1 fun e w2=>e= .returned (.bool (pr l[k]!))∧Ext w1 w2)(hno:∀k,k<l.length→pr l[k]! =false):
  Cr 123 #[.slice A_l n_l c_l,.func (.func f) #[] cap.toArray] w (.bool false):=
 (cfB_any _ _ _ l f cap pr w h_l hF hp).mono fun e w' r=>⟨by rw[r.1,ixP_no hno];rfl,r.2⟩
theorem ixfXF_any(A_l:Option Addr)(n_l c_l:Nat)(l:List Fw)(f:FuncId)(cap:List Value)(pr:Fw→Bool)(w:World)(h_l:Ls w A_l n_l c_l Fw.c 7 l)(hF:Has Tryz.prog f)(hp:∀k,k<l.length→∀w1,Ext w w1→Calls Tryz.prog f ([]++[Value.agg (Fw.c l[k]!).toArray]++cap).toArray w1 fun e w2=>e= .returned (.bool (pr l[k]!))∧Ext w1 w2):
  Cr 173 #[.slice A_l n_l c_l,.func (.func f) #[] cap.toArray] w (.int .i64 (ixP pr l)):=by
 have H:=(Hp.nil w);have e_l:=h_l.len;have z_l:=h_l.nle;refine Wb Tryz.func173 ?_;refine go ?_;refine sb [8,0,1,7] ?_;refine WC.loopS 1 (fun mz Ed W'=>∃j:Nat,mz=n_l-j∧Ed=[(8,.int .i64 ((j:Nat):Int))]∧Hp w W' ([])∧(j≤n_l)∧(∀k,k<j→pr l[k]! =false)) _ ⟨0,rfl,rfl,(H.pick []),(Nat.zero_le _),(fun k h=>absurd h (Nat.not_lt_zero k))⟩ ?_;rintro _ _ z ⟨j,rfl,rfl,H,jl,hb⟩;refine go ?_;refine Cd (fun p6=> ?_) fun p6=> ?_
 ·have b10:j<n_l:=Om;refine go ?_;refine c1V rfl H hF (hp j Om _ H.ext) fun z H=> ?_;refine go ?_;refine WC.cond rfl (fun h11=> ?_) (fun h11=> ?_)
  ·refine go ?_;refine Rt [_] ?_;exact⟨ret1 (vi (ixP_at Om hb h11).symm),H.ext⟩
  ·refine go ?_;exact Rs [(8,_)] Sx ⟨(j+1),rfl,rfl,(H.pick []),Om,(fun k h=>(Nat.lt_succ_iff_lt_or_eq.1 h).elim (hb k) fun e=>e▸h11)⟩
 ·refine go ?_;refine Rt [_] ?_;exact⟨ret1 (vi (ixP_no (fun k hk=>hb k Om)).symm),H.ext⟩
theorem cfXF_any(A_l:Option Addr)(n_l c_l:Nat)(l:List Fw)(f:FuncId)(cap:List Value)(pr:Fw→Bool)(w:World)(h_l:Ls w A_l n_l c_l Fw.c 7 l)(hF:Has Tryz.prog f)(hp:∀k,k<l.length→∀w1,Ext w w1→Calls Tryz.prog f ([]++[Value.agg (Fw.c l[k]!).toArray]++cap).toArray w1 fun e w2=>e= .returned (.bool (pr l[k]!))∧Ext w1 w2):
  Cr 125 #[.slice A_l n_l c_l,.func (.func f) #[] cap.toArray] w (.bool (decide (ixP pr l≥0))):=by
 have H:=(Hp.nil w);have e_l:=h_l.len;have z_l:=h_l.nle;refine Wb Tryz.func125 ?_;refine G3 ?_;refine sb [0,1] ?_;refine go ?_;refine c1 H Fh (ixfXF_any _ _ _ _ f cap pr _ (h_l.ext H.ext) hF (fun k hk w1 x1=>hp k hk w1 (H.ext.trans x1))) fun z H=> ?_;refine go ?_;refine Rt [_] ?_;exact⟨rfl,H.ext⟩
theorem cfXF_no(A_l:Option Addr)(n_l c_l:Nat)(l:List Fw)(f:FuncId)(cap:List Value)(pr:Fw→Bool)(w:World)(h_l:Ls w A_l n_l c_l Fw.c 7 l)(hF:Has Tryz.prog f)(hp:∀k,k<l.length→∀w1,Ext w w1→Calls Tryz.prog f ([]++[Value.agg (Fw.c l[k]!).toArray]++cap).toArray w1 fun e w2=>e= .returned (.bool (pr l[k]!))∧Ext w1 w2)(hno:∀k,k<l.length→pr l[k]! =false):
  Cr 125 #[.slice A_l n_l c_l,.func (.func f) #[] cap.toArray] w (.bool false):=
 (cfXF_any _ _ _ l f cap pr w h_l hF hp).mono fun e w' r=>⟨by rw[r.1,ixP_no hno];rfl,r.2⟩
theorem ixfXM_any(A_l:Option Addr)(n_l c_l:Nat)(l:List Sm)(f:FuncId)(cap:List Value)(pr:Sm→Bool)(w:World)(h_l:Ls w A_l n_l c_l Sm.c 4 l)(hF:Has Tryz.prog f)(hp:∀k,k<l.length→∀w1,Ext w w1→Calls Tryz.prog f ([]++[Value.agg (Sm.c l[k]!).toArray]++cap).toArray w1 fun e w2=>e= .returned (.bool (pr l[k]!))∧Ext w1 w2):
  Cr 174 #[.slice A_l n_l c_l,.func (.func f) #[] cap.toArray] w (.int .i64 (ixP pr l)):=by
 have H:=(Hp.nil w);have e_l:=h_l.len;have z_l:=h_l.nle;refine Wb Tryz.func174 ?_;refine go ?_;refine sb [8,0,1,7] ?_;refine WC.loopS 1 (fun mz Ed W'=>∃j:Nat,mz=n_l-j∧Ed=[(8,.int .i64 ((j:Nat):Int))]∧Hp w W' ([])∧(j≤n_l)∧(∀k,k<j→pr l[k]! =false)) _ ⟨0,rfl,rfl,(H.pick []),(Nat.zero_le _),(fun k h=>absurd h (Nat.not_lt_zero k))⟩ ?_;rintro _ _ z ⟨j,rfl,rfl,H,jl,hb⟩;refine go ?_;refine Cd (fun p6=> ?_) fun p6=> ?_
 ·have b10:j<n_l:=Om;refine go ?_;refine c1V rfl H hF (hp j Om _ H.ext) fun z H=> ?_;refine go ?_;refine WC.cond rfl (fun h11=> ?_) (fun h11=> ?_)
  ·refine go ?_;refine Rt [_] ?_;exact⟨ret1 (vi (ixP_at Om hb h11).symm),H.ext⟩
  ·refine go ?_;exact Rs [(8,_)] Sx ⟨(j+1),rfl,rfl,(H.pick []),Om,(fun k h=>(Nat.lt_succ_iff_lt_or_eq.1 h).elim (hb k) fun e=>e▸h11)⟩
 ·refine go ?_;refine Rt [_] ?_;exact⟨ret1 (vi (ixP_no (fun k hk=>hb k Om)).symm),H.ext⟩
theorem cfXM_any(A_l:Option Addr)(n_l c_l:Nat)(l:List Sm)(f:FuncId)(cap:List Value)(pr:Sm→Bool)(w:World)(h_l:Ls w A_l n_l c_l Sm.c 4 l)(hF:Has Tryz.prog f)(hp:∀k,k<l.length→∀w1,Ext w w1→Calls Tryz.prog f ([]++[Value.agg (Sm.c l[k]!).toArray]++cap).toArray w1 fun e w2=>e= .returned (.bool (pr l[k]!))∧Ext w1 w2):
  Cr 128 #[.slice A_l n_l c_l,.func (.func f) #[] cap.toArray] w (.bool (decide (ixP pr l≥0))):=by
 have H:=(Hp.nil w);have e_l:=h_l.len;have z_l:=h_l.nle;refine Wb Tryz.func128 ?_;refine G3 ?_;refine sb [0,1] ?_;refine go ?_;refine c1 H Fh (ixfXM_any _ _ _ _ f cap pr _ (h_l.ext H.ext) hF (fun k hk w1 x1=>hp k hk w1 (H.ext.trans x1))) fun z H=> ?_;refine go ?_;refine Rt [_] ?_;exact⟨rfl,H.ext⟩
theorem cfXM_no(A_l:Option Addr)(n_l c_l:Nat)(l:List Sm)(f:FuncId)(cap:List Value)(pr:Sm→Bool)(w:World)(h_l:Ls w A_l n_l c_l Sm.c 4 l)(hF:Has Tryz.prog f)(hp:∀k,k<l.length→∀w1,Ext w w1→Calls Tryz.prog f ([]++[Value.agg (Sm.c l[k]!).toArray]++cap).toArray w1 fun e w2=>e= .returned (.bool (pr l[k]!))∧Ext w1 w2)(hno:∀k,k<l.length→pr l[k]! =false):
  Cr 128 #[.slice A_l n_l c_l,.func (.func f) #[] cap.toArray] w (.bool false):=
 (cfXM_any _ _ _ l f cap pr w h_l hF hp).mono fun e w' r=>⟨by rw[r.1,ixP_no hno];rfl,r.2⟩
theorem ixfXP_any(A_l:Option Addr)(n_l c_l:Nat)(l:List Sp)(f:FuncId)(cap:List Value)(pr:Sp→Bool)(w:World)(h_l:Ls w A_l n_l c_l Sp.c 3 l)(hF:Has Tryz.prog f)(hp:∀k,k<l.length→∀w1,Ext w w1→Calls Tryz.prog f ([]++[Value.agg (Sp.c l[k]!).toArray]++cap).toArray w1 fun e w2=>e= .returned (.bool (pr l[k]!))∧Ext w1 w2):
  Cr 175 #[.slice A_l n_l c_l,.func (.func f) #[] cap.toArray] w (.int .i64 (ixP pr l)):=by
 have H:=(Hp.nil w);have e_l:=h_l.len;have z_l:=h_l.nle;refine Wb Tryz.func175 ?_;refine go ?_;refine sb [8,0,1,7] ?_;refine WC.loopS 1 (fun mz Ed W'=>∃j:Nat,mz=n_l-j∧Ed=[(8,.int .i64 ((j:Nat):Int))]∧Hp w W' ([])∧(j≤n_l)∧(∀k,k<j→pr l[k]! =false)) _ ⟨0,rfl,rfl,(H.pick []),(Nat.zero_le _),(fun k h=>absurd h (Nat.not_lt_zero k))⟩ ?_;rintro _ _ z ⟨j,rfl,rfl,H,jl,hb⟩;refine go ?_;refine Cd (fun p6=> ?_) fun p6=> ?_
 ·have b10:j<n_l:=Om;refine go ?_;refine c1V rfl H hF (hp j Om _ H.ext) fun z H=> ?_;refine go ?_;refine WC.cond rfl (fun h11=> ?_) (fun h11=> ?_)
  ·refine go ?_;refine Rt [_] ?_;exact⟨ret1 (vi (ixP_at Om hb h11).symm),H.ext⟩
  ·refine go ?_;exact Rs [(8,_)] Sx ⟨(j+1),rfl,rfl,(H.pick []),Om,(fun k h=>(Nat.lt_succ_iff_lt_or_eq.1 h).elim (hb k) fun e=>e▸h11)⟩
 ·refine go ?_;refine Rt [_] ?_;exact⟨ret1 (vi (ixP_no (fun k hk=>hb k Om)).symm),H.ext⟩
theorem cfXP_any(A_l:Option Addr)(n_l c_l:Nat)(l:List Sp)(f:FuncId)(cap:List Value)(pr:Sp→Bool)(w:World)(h_l:Ls w A_l n_l c_l Sp.c 3 l)(hF:Has Tryz.prog f)(hp:∀k,k<l.length→∀w1,Ext w w1→Calls Tryz.prog f ([]++[Value.agg (Sp.c l[k]!).toArray]++cap).toArray w1 fun e w2=>e= .returned (.bool (pr l[k]!))∧Ext w1 w2):
  Cr 130 #[.slice A_l n_l c_l,.func (.func f) #[] cap.toArray] w (.bool (decide (ixP pr l≥0))):=by
 have H:=(Hp.nil w);have e_l:=h_l.len;have z_l:=h_l.nle;refine Wb Tryz.func130 ?_;refine G3 ?_;refine sb [0,1] ?_;refine go ?_;refine c1 H Fh (ixfXP_any _ _ _ _ f cap pr _ (h_l.ext H.ext) hF (fun k hk w1 x1=>hp k hk w1 (H.ext.trans x1))) fun z H=> ?_;refine go ?_;refine Rt [_] ?_;exact⟨rfl,H.ext⟩
theorem cfXP_no(A_l:Option Addr)(n_l c_l:Nat)(l:List Sp)(f:FuncId)(cap:List Value)(pr:Sp→Bool)(w:World)(h_l:Ls w A_l n_l c_l Sp.c 3 l)(hF:Has Tryz.prog f)(hp:∀k,k<l.length→∀w1,Ext w w1→Calls Tryz.prog f ([]++[Value.agg (Sp.c l[k]!).toArray]++cap).toArray w1 fun e w2=>e= .returned (.bool (pr l[k]!))∧Ext w1 w2)(hno:∀k,k<l.length→pr l[k]! =false):
  Cr 130 #[.slice A_l n_l c_l,.func (.func f) #[] cap.toArray] w (.bool false):=
 (cfXP_any _ _ _ l f cap pr w h_l hF hp).mono fun e w' r=>⟨by rw[r.1,ixP_no hno];rfl,r.2⟩
theorem outside_any(T:Tv)(w:World)(hT:T.ok w)(hv:TvV T):
  Cr 74 #[Tv.v T] w (.bool false):=by
 have H:=(Hp.nil w);have e_t:=hT.t.len;have e_s:=hT.s.len;have e_g:=hT.g.len;have e_f:=hT.f.len;have e_m:=hT.m.len;have e_p:=hT.p.len;have e_b:=hT.b.len;have e_l:=hT.l.len;have z_t:=hT.t.nle;have z_s:=hT.s.nle;have z_g:=hT.g.nle;have z_f:=hT.f.nle;have z_m:=hT.m.nle;have z_p:=hT.p.nle;have z_b:=hT.b.nle;have z_l:=hT.l.nle;have hnoXS:∀k,k<T.sl.length→(!(decide (0≤T.sl[k]!.fr)&&decide (T.sl[k]!.to≤T.E)))=false:=fun k hk=>by
  have r:=hv.s.rg k hk;have n:=(hv.n.v _ (mem_b hk)).2.2;simp only[Bool.or_eq_false_iff,Bool.not_eq_false',Bool.and_eq_true,decide_eq_true_eq];omega
 have hnoXG:∀k,k<T.sg.length→(!(decide (0≤T.sg[k]!.f)&&decide (T.sg[k]!.t≤T.E)))=false:=fun k hk=>by
  have r:=hv.g.v k hk;simp only[Bool.or_eq_false_iff,Bool.not_eq_false',Bool.and_eq_true,decide_eq_true_eq];omega
 have hnoXB:∀k,k<T.bk.length→(!(decide (0≤T.bk[k]!.fr)&&decide (T.bk[k]!.to≤T.E)))=false:=fun k hk=>by
  have r:=hv.b.v _ (mem_b hk);simp only[Bool.or_eq_false_iff,Bool.not_eq_false',Bool.and_eq_true,decide_eq_true_eq];omega
 have hnoXF:∀k,k<T.fw.length→((!(decide (0≤T.fw[k]!.snd)&&decide (T.fw[k]!.snd<T.E))|| !(decide (0≤T.fw[k]!.rcv)&&decide (T.fw[k]!.rcv<T.E))))=false:=fun k hk=>by
  have r:=hv.f.v _ (mem_b hk);simp only[Bool.or_eq_false_iff,Bool.not_eq_false',Bool.and_eq_true,decide_eq_true_eq];omega
 have hnoXM:∀k,k<T.sm.length→(!(decide (0≤T.sm[k]!.at_)&&decide (T.sm[k]!.at_<T.E)))=false:=fun k hk=>by
  have r:=(hv.m.v (Sm.q T.sm[k]!) (List.mem_map_of_mem (mem_b hk))).2.1;have r2:0≤T.sm[k]!.at_∧T.sm[k]!.at_<T.E∧T.sm[k]!.at_≤1000000000000:=r;simp only[Bool.or_eq_false_iff,Bool.not_eq_false',Bool.and_eq_true,decide_eq_true_eq];omega
 have hnoXP:∀k,k<T.sp.length→(!(decide (0≤T.sp[k]!.at_)&&decide (T.sp[k]!.at_<T.E)))=false:=fun k hk=>by
  have r:=(hv.p.v _ (mem_b hk)).2.1;simp only[Bool.or_eq_false_iff,Bool.not_eq_false',Bool.and_eq_true,decide_eq_true_eq];omega
 refine Wb Tryz.func74 ?_;refine go ?_;refine bx H fun g2 z H=> ?_;refine go ?_;refine al H ti33 fun g5 z H=> ?_;refine st H 0 ti33 fun z H=> ?_;refine G4 ?_;refine yy (Y.func rfl rfl rfl) ?_;refine c1 H Fh (cfXS_no _ _ _ _ 119 [.pointer (some ⟨g5,0,none⟩)] (fun y=> !(decide (0≤y.fr)&&decide (y.to≤T.E))) _ (hT.s.ext H.ext) Fh (fun k hk w1 x1=>ocl1_any T.sl[k]! g5 0 T.E w1 (Blk.ext ((H.b 0)) x1)) hnoXS) fun z H=> ?_;refine G3 ?_;refine WL.yldW rfl (blt rfl) rfl rfl rfl (Y.func rfl rfl rfl) ?_;refine WL.guarded rfl rfl rfl ?_;refine c1 H Fh (cfXG_no _ _ _ _ 122 [.pointer (some ⟨g5,0,none⟩)] (fun y=> !(decide (0≤y.f)&&decide (y.t≤T.E))) _ (hT.g.ext H.ext) Fh (fun k hk w1 x1=>ocl2_any T.sg[k]! g5 0 T.E w1 (Blk.ext ((H.b 0)) x1)) hnoXG) fun z H=> ?_;refine yy (Y.pickF rfl rfl rfl) ?_;refine G3 ?_;refine WL.yldW rfl (blt rfl) rfl rfl rfl (Y.func rfl rfl rfl) ?_;refine WL.guarded rfl rfl rfl ?_;refine c1 H Fh (cfXB_no _ _ _ _ 124 [.pointer (some ⟨g5,0,none⟩)] (fun y=> !(decide (0≤y.fr)&&decide (y.to≤T.E))) _ (hT.b.ext H.ext) Fh (fun k hk w1 x1=>ocl3_any T.bk[k]! g5 0 T.E w1 (Blk.ext ((H.b 0)) x1)) hnoXB) fun z H=> ?_;refine yy (Y.pickF rfl rfl rfl) ?_;refine G3 ?_;refine WL.yldW rfl (blt rfl) rfl rfl rfl (Y.func rfl rfl rfl) ?_;refine WL.guarded rfl rfl rfl ?_;refine c1 H Fh (cfXF_no _ _ _ _ 126 [.pointer (some ⟨g5,0,none⟩)] (fun y=>(!(decide (0≤y.snd)&&decide (y.snd<T.E))|| !(decide (0≤y.rcv)&&decide (y.rcv<T.E)))) _ (hT.f.ext H.ext) Fh (fun k hk w1 x1=>ocl4_any T.fw[k]! g5 0 T.E w1 (Blk.ext ((H.b 0)) x1)) hnoXF) fun z H=> ?_;refine yy (Y.pickF rfl rfl rfl) ?_;refine G3 ?_;refine WL.yldW rfl (blt rfl) rfl rfl rfl (Y.func rfl rfl rfl) ?_;refine WL.guarded rfl rfl rfl ?_;refine c1 H Fh (cfXM_no _ _ _ _ 129 [.pointer (some ⟨g5,0,none⟩)] (fun y=> !(decide (0≤y.at_)&&decide (y.at_<T.E))) _ (hT.m.ext H.ext) Fh (fun k hk w1 x1=>ocl5_any T.sm[k]! g5 0 T.E w1 (Blk.ext ((H.b 0)) x1)) hnoXM) fun z H=> ?_;refine yy (Y.pickF rfl rfl rfl) ?_;refine G3 ?_;refine WL.yldW rfl (blt rfl) rfl rfl rfl (Y.func rfl rfl rfl) ?_;refine WL.guarded rfl rfl rfl ?_;refine c1 H Fh (cfXP_no _ _ _ _ 131 [.pointer (some ⟨g5,0,none⟩)] (fun y=> !(decide (0≤y.at_)&&decide (y.at_<T.E))) _ (hT.p.ext H.ext) Fh (fun k hk w1 x1=>ocl6_any T.sp[k]! g5 0 T.E w1 (Blk.ext ((H.b 0)) x1)) hnoXP) fun z H=> ?_;refine yy (Y.pickF rfl rfl rfl) ?_;refine go ?_;refine Rt [_] ?_;exact⟨rfl,H.ext⟩
theorem tables_any(T:Tv)(w:World)(hT:T.ok w)(hv:TvV T):
  Cr 73 #[Tv.v T] w (.int .i64 0):=by
 have H:=(Hp.nil w);have e_t:=hT.t.len;have e_s:=hT.s.len;have e_g:=hT.g.len;have e_f:=hT.f.len;have e_m:=hT.m.len;have e_p:=hT.p.len;have e_b:=hT.b.len;have e_l:=hT.l.len;have z_t:=hT.t.nle;have z_s:=hT.s.nle;have z_g:=hT.g.nle;have z_f:=hT.f.nle;have z_m:=hT.m.nle;have z_p:=hT.p.nle;have z_b:=hT.b.nle;have z_l:=hT.l.nle;refine Wb Tryz.func73 ?_;refine go ?_;refine bx H fun g2 z H=> ?_;refine go ?_;refine c3 Fh (threads_any T _ (hT.ext H.ext) hv) ?_;rintro _ z ⟨g5,rfl,K⟩;have H:=H.join K;refine⟨_,rfl,?_⟩;refine G9 ?_;refine Kd ?_;refine go ?_;refine WC.condF rfl ?_;refine go ?_;refine Qr ?_;refine G2 ?_;refine WQ.call rfl (blt rfl) rfl rfl rfl Fh rfl (fun w hw=>calls_ext hw (slichk_any _ _ _ _ _ (Ls.ext (hT.s.ext H.ext) hw) T.ids T.E hv.s hv.n)) ?_;refine G3 ?_;refine WQ.call rfl (blt rfl) rfl rfl rfl Fh rfl (fun w hw=>calls_ext hw (knownS_any _ _ _ _ _ _ 105 (fun y=>y.th) _ (Mp.ext (H.mi 0) hw) (Ls.ext (hT.s.ext H.ext) hw) Fh (fun x w1=>thf1_any x w1) (fun y hy=>thM_ids (hv.n.v y hy).2.1.1))) ?_;refine go ?_;refine Qd H fun z H=> ?_;refine G3 ?_;refine Kd ?_;refine go ?_;refine WC.condF rfl ?_;refine go ?_;refine c1 H Fh (stachk_any _ _ _ _ _ _ _ _ _ (hT.t.ext H.ext) (hT.g.ext H.ext) T.E (by have:=hv.tn;omega) hv.g hv.e.2) fun z H=> ?_;refine G2 ?_;refine sb [1,3,6] ?_;refine G2 ?_;refine Kd ?_;refine go ?_;refine WC.condF rfl ?_;refine go ?_;refine Qr ?_;refine G2 ?_;refine WQ.call rfl (blt rfl) rfl rfl rfl Fh rfl (fun w hw=>calls_ext hw (flowchk_any _ _ _ _ _ (Ls.ext (hT.f.ext H.ext) hw) T.ids T.E hv.f hv.e.2)) ?_;refine G3 ?_;refine WQ.call rfl (blt rfl) rfl rfl rfl Fh rfl (fun w hw=>calls_ext hw (knownF_any _ _ _ _ _ _ 109 (fun y=>y.fth) _ (Mp.ext (H.mi 0) hw) (Ls.ext (hT.f.ext H.ext) hw) Fh (fun x w1=>thf2_any x w1) (fun y hy=>thM_ids (hv.f.k y hy).1))) ?_;refine go ?_;refine Qd H fun z H=> ?_;refine go ?_;refine c1 H Fh (knownF_any _ _ _ _ _ _ 110 (fun y=>y.tth) _ (H.mi 0) (hT.f.ext H.ext) Fh (fun x w1=>thf3_any x w1) (fun y hy=>thM_ids (hv.f.k y hy).2)) fun z H=> ?_;refine G4 ?_;refine Kd ?_;refine go ?_;refine WC.condF rfl ?_;refine go ?_;refine Qr ?_;refine G2 ?_;refine WQ.call rfl (blt rfl) rfl rfl rfl Fh rfl (fun w hw=>calls_ext hw (smpchk_any _ _ _ _ _ (Ls.ext (hT.m.ext H.ext) hw) (fun y hy=>(hT.mg y hy).ext (Ext.trans H.ext hw)) T.ids T.E hv.m)) ?_;refine G3 ?_;refine WQ.call rfl (blt rfl) rfl rfl rfl Fh rfl (fun w hw=>calls_ext hw (knownM_any _ _ _ _ _ _ 112 (fun y=>y.th) _ (Mp.ext (H.mi 0) hw) (Ls.ext (hT.m.ext H.ext) hw) Fh (fun x w1=>thf4_any x w1) (fun y hy=>thM_ids (hv.m.k (Sm.q y) (List.mem_map_of_mem hy))))) ?_;refine go ?_;refine Qd H fun z H=> ?_;refine G3 ?_;refine Kd ?_;refine go ?_;refine WC.condF rfl ?_;refine G2 ?_;refine sb [1,3] ?_;refine go ?_;refine c1 H Fh (stpchk_any _ _ _ _ _ (hT.p.ext H.ext) T.E hv.p) fun z H=> ?_;refine G4 ?_;refine Kd ?_;refine go ?_;refine WC.condF rfl ?_;refine go ?_;refine Qr ?_;refine G2 ?_;refine WQ.call rfl (blt rfl) rfl rfl rfl Fh rfl (fun w hw=>calls_ext hw (blkchk_any _ _ _ _ _ (Ls.ext (hT.b.ext H.ext) hw) (fun y hy=>(hT.bg y hy).ext (Ext.trans H.ext hw)) T.ids T.E hv.b hv.e.2)) ?_;refine G3 ?_;refine WQ.call rfl (blt rfl) rfl rfl rfl Fh rfl (fun w hw=>calls_ext hw (knownB_any _ _ _ _ _ _ 116 (fun y=>y.th) _ (Mp.ext (H.mi 0) hw) (Ls.ext (hT.b.ext H.ext) hw) Fh (fun x w1=>thf5_any x w1) (fun y hy=>thM_ids (hv.b.v y hy).2.1.1))) ?_;refine go ?_;refine Qd H fun z H=> ?_;refine G3 ?_;refine Kd ?_;refine go ?_;refine WC.condF rfl ?_;refine go ?_;refine c1 H Fh (loschk_any _ _ _ _ _ _ _ (H.mi 0) (hT.l.ext H.ext) T.ids hv.l (fun k hk=>thM_ids hk)) fun z H=> ?_;refine go ?_;refine Rt [_] ?_;exact⟨rfl,H.ext⟩
theorem trchk_any(T:Tv)(w:World)(hT:T.ok w)(hv:TvV T):
  Cr 26 #[Tv.v T] w (.int .i64 0):=by
 have H:=(Hp.nil w);have e_t:=hT.t.len;have e_s:=hT.s.len;have e_g:=hT.g.len;have e_f:=hT.f.len;have e_m:=hT.m.len;have e_p:=hT.p.len;have e_b:=hT.b.len;have e_l:=hT.l.len;have z_t:=hT.t.nle;have z_s:=hT.s.nle;have z_g:=hT.g.nle;have z_f:=hT.f.nle;have z_m:=hT.m.nle;have z_p:=hT.p.nle;have z_b:=hT.b.nle;have z_l:=hT.l.nle;have hE:=hv.e;refine Wb Tryz.func26 ?_;refine go ?_;refine bx H fun g2 z H=> ?_;refine go ?_;refine c1 H Fh (tables_any T _ (hT.ext H.ext) hv) fun z H=> ?_;refine G6 ?_;refine sb [1,3,7] ?_;refine Cd (fun p7=> ?_) fun p7=> ?_
 ·refine go ?_;refine Rt [_] ?_;exact⟨rfl,H.ext⟩
 ·refine go ?_;refine Cd (fun p11=> ?_) fun p11=> ?_
  ·omega
  ·refine go ?_;refine c1 H Fh (outside_any T _ (hT.ext H.ext) hv) fun z H=> ?_;refine go ?_;refine WC.condF rfl ?_;refine go ?_;refine Rt [_] ?_;exact⟨rfl,H.ext⟩
end TW
end Go.Proofs.YtaclfjjipnpboaaGreat
end
