/- Part 5 of the proof. Conditions: what each theorem states. -/
import Derived.Test.YtaclfjjipnpboaaGreatDoorP01
import Derived.Test.YtaclfjjipnpboaaGreatDoorP03
import Derived.Shelf.Small.Strs
import Derived.Lib.ItoaLen
import Derived.Lib.AtoiAll
import Derived.Test.YtaclfjjipnpboaaGreatDoorP04
import Derived.Lib.Builder
import Derived.Lib.UnsafeStr
import Derived.Lib.AppendStr
import Derived.Laws.Externs
import Derived.Test.YtaclfjjipnpboaaGreatDoorProg
set_option linter.all false
set_option maxHeartbeats 4000000
set_option maxRecDepth 4000
namespace Go.Proofs.YtaclfjjipnpboaaGreatDoor
open Go Go.Eng Go.RowKit
namespace TW
def fN{σ α:Type}[Inhabited α](f:σ→α→σ)(s:σ)(l:List α):Nat→σ
 |0=>s
 |i+1=>f (fN f s l i) l[i]!
def fE(f:Nat→Int):Nat→Int
 |0=>0
 |i+1=>if fE f i=0 then f i else fE f i
theorem fE_ok{f:Nat→Int}:∀{n:Nat},fE f n=0↔∀i,i<n→f i=0
 |0=>⟨fun _ i h=>absurd h (Nat.not_lt_zero i),fun _=>rfl⟩
 |n+1=>by
  show(if fE f n=0 then f n else fE f n)=0↔_;constructor
  ·intro h i hi;by_cases q:fE f n=0
   ·rw[if_pos q]at h;rcases Nat.lt_succ_iff_lt_or_eq.1 hi with hi|rfl
    ·exact(fE_ok.1 q) i hi
    ·exact h
   omega
  ·intro h;rw[if_pos (fE_ok.2 fun i hi=>h i (Nat.lt_succ_of_lt hi))];grind
theorem fE_hit{f:Nat→Int}{i:Nat}(h0:fE f i=0)(h:f i≠0):∀{n:Nat},i<n→fE f n=f i
 |n+1,hi=>by
  show(if fE f n=0 then f n else fE f n)=f i;rcases Nat.lt_succ_iff_lt_or_eq.1 hi with q|rfl
  ·have e:=fE_hit h0 h q;omega
  omega
theorem fE_next{f:Nat→Int}{i:Nat}(h0:fE f i=0)(h:f i=0):fE f (i+1)=0:=(if_pos h0).trans h
theorem if_f{α:Sort _}{b:Bool}{x y:α}(h:b=false):(if b=true then x else y)=y:=if_neg (by grind)
theorem ite_to{α:Sort _}{c:Prop}[Decidable c]{x y z:α}(h:c)(e:x=z):(if c then x else y)=z:=(if_pos h).trans e
theorem ite_no{α:Sort _}{c:Prop}[Decidable c]{x y z:α}(h:¬c)(e:y=z):(if c then x else y)=z:=(if_neg h).trans e
theorem fE_ret{f:Nat→Int}{i n:Nat}{e:Int}(h0:fE f i=0)(he:f i=e)(hne:e≠0)(hi:i<n):fE f n=e:=(fE_hit h0 Om hi).trans he
theorem fE_end{f:Nat→Int}{j n:Nat}(h0:fE f j=0)(e:n=j):fE f n=0:=e▸h0
def ixP{α:Type}(p:α→Bool)(l:List α):Int:=if l.findIdx p<l.length then((l.findIdx p:Nat):Int)else-1
theorem ixP_no{α:Type}[Inhabited α]{p:α→Bool}{l:List α}(h:∀k,k<l.length→p l[k]! =false):ixP p l= -1:=by
 unfold ixP;grind
theorem ixP_at{α:Type}[Inhabited α]{p:α→Bool}{l:List α}{j:Nat}(hj:j<l.length)(h:∀k,k<j→p l[k]! =false)(e:p l[j]! =true):ixP p l=j:=by
 have:l.findIdx p=j:=(List.findIdx_eq hj).2 ⟨by grind,fun k hk=>by grind⟩;simp_all [ixP,if_pos]
theorem fE_out{f:Nat→Int}{i n:Nat}{e y:Int}(h0:fE f i=0)(he:f i=e)(hne:e≠0)(hi:i<n):(if fE f n≠0 then fE f n else y)=e:=by
 rw[fE_ret h0 he hne hi,if_pos hne]
theorem fE_thru{f:Nat→Int}{j n:Nat}{y z:Int}(h0:fE f j=0)(e:n=j)(h:y=z):(if fE f n≠0 then fE f n else y)=z:=by
 grind
def eqW{α:Type}[Inhabited α](p:α→α→Bool)(l m:List α):Bool:=decide (l.length=m.length)&&(List.range l.length).all fun j=>p l[j]! m[j]!
theorem eqW_len{α:Type}[Inhabited α]{p:α→α→Bool}{l m:List α}(h:l.length≠m.length):eqW p l m=false:=by grind [eqW,decide_eq_false]
theorem eqW_no{α:Type}[Inhabited α]{p:α→α→Bool}{l m:List α}{j:Nat}(hj:j<l.length)(h:p l[j]! m[j]! =false):eqW p l m=false:=by
 unfold eqW;grind
theorem eqW_yes{α:Type}[Inhabited α]{p:α→α→Bool}{l m:List α}(hl:l.length=m.length)(h:∀k,k<l.length→p l[k]! m[k]! =true):eqW p l m=true:=by
 simp_all [eqW,decide_eq_true,List.all_eq_true,List.mem_range]
theorem map_b{α β:Type}[Inhabited α][Inhabited β](f:α→β){l:List α}{k:Nat}(h:k<l.length):(l.map f)[k]! =f l[k]! :=by
 rw[bang_eq (by grind),bang_eq h,List.getElem_map]
theorem eqW_refl{α:Type}[Inhabited α]{p:α→α→Bool}(h:∀x,p x x=true)(l:List α):eqW p l l=true:=eqW_yes rfl fun _ _=>h _
theorem eqW_map{α β:Type}[Inhabited α][Inhabited β]{p:β→β→Bool}(f:α→β)(l m:List α):eqW (fun x y=>p (f x) (f y)) l m=eqW p (l.map f) (m.map f):=by
 by_cases h:l.length=m.length
 ·cases hq:eqW p (l.map f) (m.map f)with
  |true=>
   simp_all [eqW_yes,eqW,List.all_eq_true,and_t,List.mem_range,map_b]
  |false=>
   cases hq':eqW (fun x y=>p (f x) (f y)) l m with
   |false=>rfl
   |true=>
    exfalso;unfold eqW at hq';have h2:=List.all_eq_true.1 (and_t hq').2;have:eqW p (l.map f) (m.map f)=true:=eqW_yes (by grind) fun k hk=>by
     simp_all
    grind
 grind [eqW_len]
theorem all_next{P:Nat→Prop}{j:Nat}(h:∀k,k<j→P k)(hj:P j):∀k,k<j+1→P k:=fun k hk=>(Nat.lt_succ_iff_lt_or_eq.1 hk).elim (h k) fun e=>e▸hj
def pkb(ks:List Int):List (Int×Value):=ks.map fun k=>(k,.bool true)
theorem mval_pkb:∀(ks:List Int) (x:Int),mval (pkb ks) x (.bool false)= .bool (decide (x∈ks))
 |[],x=>by rfl
 |k::r,x=>by
  have ih:=mval_pkb r x;unfold mval at ih ⊢;show(if x=k then some (Value.bool true)else mget (pkb r) x).getD _=_;grind
theorem mset_pkb{ks:List Int}{x:Int}(h:x∉ks):mset (pkb ks) x (.bool true)=pkb (ks++[x]):=by
 induction ks with
 |nil=>rfl
 |cons k r ih=>
  rw[List.mem_cons,not_or]at h;simp_all [ite,List.cons,Prod.mk,mset,pkb,List.nil,if_neg]
theorem nt_f{b:Bool}(h:b=false):¬b=true:=by grind
theorem nf_t{b:Bool}(h:b=true):¬b=false:=by grind
theorem set_b{α:Type}[Inhabited α]{l:List α}{k:Nat}{x:α}(h:k<l.length):(l.set k x)[k]! =x:=by
 grind
def ixF(l:List Int)(x:Int):Int:=if l.idxOf x<l.length then((l.idxOf x:Nat):Int)else-1
theorem ix_no{l:List Int}{x:Int}(h:∀k,k<l.length→¬x=l[k]!):¬l.idxOf x<l.length:=fun q=>h _ q (by rw[bang_eq q,List.getElem_idxOf])
theorem ix_at{l:List Int}{x:Int}{j:Nat}(hj:j<l.length)(h:∀k,k<j→¬x=l[k]!)(e:x=l[j]!):l.idxOf x=j:=by
 have hm:x∈l:=by grind
 have hl:=List.idxOf_lt_length_iff.2 hm;rcases Nat.lt_trichotomy (l.idxOf x) j with q|q|q
 ·grind
 ·exact q
 ·have:=List.not_of_lt_findIdx (p:=(·==x)) (xs:=l) q;grind
theorem ixF_at{l:List Int}{x:Int}{j:Nat}(hj:j<l.length)(h:∀k,k<j→¬x=l[k]!)(e:x=l[j]!):ixF l x=j:=by unfold ixF;rw[ix_at hj h e,if_pos hj]
theorem ixF_ge{l:List Int}{x:Int}:decide (ixF l x≥0)=decide (x∈l):=by
 unfold ixF;grind
theorem room_le{a b A B:Nat}(h1:a≤A)(h2:b≤B)(h:A+B≤1000000):a+b≤1000000:=Om
theorem mget_by{α:Type}[Inhabited α](f:α→Int×Nat)(tm:List α)(x:Int):(mget (pkv (tm.map f)) x=none∧¬(tm.map fun t=>(f t).1).idxOf x<tm.length)∨((tm.map fun t=>(f t).1).idxOf x<tm.length∧mget (pkv (tm.map f)) x=some (.pointer (some ⟨(f tm[(tm.map fun t=>(f t).1).idxOf x]!).2,0,none⟩))):=by
 have e:(tm.map f).map (·.1)=tm.map fun t=>(f t).1:=by simp_all
 rcases mget_pkv (tm.map f) x with⟨h1,h2⟩|⟨h1,h2⟩<;>grind
theorem map_keep{α β:Type}[Inhabited α][Inhabited β](f:α→β){tm:List α}{i:Nat}{x y:α}(hi:i<tm.length)(hx:tm[i]! =x)(e:f y=f x):(tm.set i y).map f=tm.map f:=by
 have h:=map_b f hi;rw[hx]at h;rw[List.map_set];exact List.ext_getElem (by simp) fun k a b=>by
  grind
theorem nodup_take{l:List Int}{j:Nat}(h:l.Nodup)(hj:j<l.length):¬l[j]!∈l.take j:=by
 intro q;obtain⟨k,hk,e⟩:=List.mem_iff_getElem.1 q;rw[List.length_take]at hk;rw[List.getElem_take,bang_eq hj]at e;grind [List.getElem_inj]
theorem mem_b{α:Type}[Inhabited α]{l:List α}{i:Nat}(h:i<l.length):l[i]!∈l:=by grind
theorem nodup_map_take{α:Type}[Inhabited α](f:α→Int){l:List α}{j:Nat}(h:(l.map f).Nodup)(hj:j<l.length):¬f l[j]!∈(l.take j).map f:=by
 grind [nodup_take,map_b,List.map_take]
theorem set_same{α:Type}[Inhabited α]{l:List α}{i:Nat}(h:i<l.length):l.set i l[i]! =l:=by rw[bang_eq h,List.set_getElem_self]
theorem set_twice{α:Type}{l:List α}{i:Nat}{x y:α}:(l.set i x).set i y=l.set i y:=by simp
theorem take_1{α:Type}[Inhabited α]{l:List α}{j:Nat}(h:j<l.length):l.take (j+1)=l.take j++[l[j]!]:=by
 rw[List.take_succ_eq_append_getElem h,bang_eq h]
end TW
end Go.Proofs.YtaclfjjipnpboaaGreatDoor
namespace Go.Proofs.YtaclfjjipnpboaaGreatDoor
open Go Go.Eng Go.RowKit Go.Shelf
namespace TW
def sc(s:ByteArray):List Value:=[.string s]
theorem sc_one(s:ByteArray):∀u∈sc s,u.oneCell'=true:=by simp[sc,Value.oneCell']
def ic(x:Int):List Value:=[.int .i64 x]
theorem ic_one(x:Int):∀u∈ic x,u.oneCell'=true:=by simp[ic,Value.oneCell']
def bc(x:Bool):List Value:=[.bool x]
structure Ev where(at_ kd:Int)(nm:ByteArray)(n m:Int)(A:Option Addr)(k c_:Nat)(st:List ByteArray)
instance:Inhabited Ev:=⟨⟨0,0,⟨#[]⟩,0,0,none,0,0,[]⟩⟩
def Ev.c(x:Ev):List Value:=[.int .i64 x.at_,.int .i64 x.kd,.string x.nm,.int .i64 x.n,.int .i64 x.m,.slice x.A x.k x.c_]
theorem Ev.one(x:Ev):∀u∈x.c,u.oneCell'=true:=by simp[Ev.c,Value.oneCell']
def Ev.ok(w:World)(x:Ev):Prop:=Ls w x.A x.k x.c_ sc 1 x.st
theorem Ev.ok.ext{w w':World}{x:Ev}(h:x.ok w)(e:Ext w w'):x.ok w':=Ls.ext h e
def EvsOk(w:World)(l:List Ev):Prop:=∀x∈l,x.ok w
theorem EvsOk.ext{w w':World}{l:List Ev}(h:EvsOk w l)(e:Ext w w'):EvsOk w' l:=fun x hx=>(h x hx).ext e
structure Pk where(th sr ls:Int)(A:Option Addr)(k c_:Nat)(es:List Ev)
instance:Inhabited Pk:=⟨⟨0,0,0,none,0,0,[]⟩⟩
def Pk.c(x:Pk):List Value:=[.int .i64 x.th,.int .i64 x.sr,.int .i64 x.ls,.slice x.A x.k x.c_]
theorem Pk.one(x:Pk):∀u∈x.c,u.oneCell'=true:=by simp[Pk.c,Value.oneCell']
structure Pk.ok(w:World)(x:Pk):Prop where
 l:Ls w x.A x.k x.c_ Ev.c 6 x.es
 e:EvsOk w x.es
theorem Pk.ok.ext{w w':World}{x:Pk}(h:x.ok w)(e:Ext w w'):x.ok w':=⟨h.l.ext e,h.e.ext e⟩
def PksOk(w:World)(l:List Pk):Prop:=∀x∈l,x.ok w
theorem PksOk.ext{w w':World}{l:List Pk}(h:PksOk w l)(e:Ext w w'):PksOk w' l:=fun x hx=>(h x hx).ext e
structure Th where(id:Int)(nm:ByteArray)(dom:Int)
instance:Inhabited Th:=⟨⟨0,⟨#[]⟩,0⟩⟩
def Th.c(x:Th):List Value:=[.int .i64 x.id,.string x.nm,.int .i64 x.dom]
theorem Th.one(x:Th):∀u∈x.c,u.oneCell'=true:=by simp[Th.c,Value.oneCell']
structure Dm where(id ppm:Int)
instance:Inhabited Dm:=⟨⟨0,0⟩⟩
def Dm.c(x:Dm):List Value:=[.int .i64 x.id,.int .i64 x.ppm]
structure Sn where(a ta b lo hi:Int)
instance:Inhabited Sn:=⟨⟨0,0,0,0,0⟩⟩
def Sn.c(x:Sn):List Value:=[.int .i64 x.a,.int .i64 x.ta,.int .i64 x.b,.int .i64 x.lo,.int .i64 x.hi]
theorem Sn.one(x:Sn):∀u∈x.c,u.oneCell'=true:=by simp[Sn.c,Value.oneCell']
def signs:ByteArray:=⟨#[95,46,58,47,60,62,36,42,126,45]⟩
def letB(c:Int):Bool:=((decide (c≥97)&&decide (c≤122))||(decide (c≥65)&&decide (c≤90)))||(decide (c≥48)&&decide (c≤57))||([95,46,58,47,60,62,36,42,126,45]:List Int).contains c
def ixB(c:Int):Int:=Lib.indexByte signs.data.toList c.toNat.toUInt8
theorem ix_all:∀c:Fin 256,decide (Lib.indexByte signs.data.toList c.val.toUInt8≥0)=([95,46,58,47,60,62,36,42,126,45]:List Int).contains (c.val:Int):=by decide+kernel
theorem let_ix{c:Int}(h:0≤c∧c≤255):((((decide (c≥97)&&decide (c≤122))||(decide (c≥65)&&decide (c≤90)))||(decide (c≥48)&&decide (c≤57)))||decide (ixB c≥0))=letB c:=by
 have:=ix_all ⟨c.toNat,Om⟩;simp only at this;grind [Int.toNat_of_nonneg,letB,ixB]
def nmF(s:ByteArray):Int:=if s=⟨#[]⟩∨(s.size:Int)>40 then 3 else fE (fun i=>if letB (bat s i)=true then 0 else 3) s.size
def frF(l:List ByteArray):Int:=if(l.length:Int)>32 then 7 else fE (fun i=>nmF l[i]!) l.length
structure Fm where(word:ByteArray)(nm n m st:Bool)(lo hi mlo mhi:Int)
instance:Inhabited Fm:=⟨⟨⟨#[]⟩,false,false,false,false,0,0,0,0⟩⟩
def Fm.c(x:Fm):List Value:=[.string x.word,.bool x.nm,.bool x.n,.bool x.m,.bool x.st,.int .i64 x.lo,.int .i64 x.hi,.int .i64 x.mlo,.int .i64 x.mhi]
def formsL:List Fm:=
 [default,
  ⟨⟨#[98,101,103,105,110]⟩,true,false,false,false,0,0,0,0⟩,
  ⟨⟨#[101,110,100]⟩,false,false,false,false,0,0,0,0⟩,
  ⟨⟨#[109,97,114,107]⟩,true,false,false,false,0,0,0,0⟩,
  ⟨⟨#[99,111,117,110,116]⟩,true,true,false,false,-1000000000000000,1000000000000000,0,0⟩,
  ⟨⟨#[115,97,109,112,108,101]⟩,false,true,false,true,1,1000000000000,0,0⟩,
  ⟨⟨#[115,101,110,100]⟩,false,true,false,false,0,1000000000000000,0,0⟩,
  ⟨⟨#[114,101,99,118]⟩,false,true,false,false,0,1000000000000000,0,0⟩,
  ⟨⟨#[114,117,110]⟩,false,true,false,false,0,63,0,0⟩,
  ⟨⟨#[115,116,111,112]⟩,false,true,true,false,0,3,0,1000000000000000⟩,
  ⟨⟨#[119,97,107,101]⟩,false,true,false,false,0,1000000000000000,0,0⟩,
  ⟨⟨#[97,108,108,111,99]⟩,false,true,true,true,0,1000000000000000,1,1000000000000⟩,
  ⟨⟨#[102,114,101,101]⟩,false,true,false,false,0,1000000000000000,0,0⟩]
def formF(k:Int):Fm:=if k<1∨k≥13 then default else formsL[k.toNat]!
def fmOk(k:Int):Bool:=decide (1≤k)&&decide (k<13)
theorem formF_out{k:Int}(h:k<1∨k≥13):formF k=default:=if_pos h
theorem formF_in{k:Int}(h1:1≤k)(h2:k<13):formF k=formsL[k.toNat]! :=if_neg Om
theorem fmOk_out{k:Int}(h:k<1∨k≥13):fmOk k=false:=by
 unfold fmOk;grind
theorem fmOk_in{k:Int}(h1:1≤k)(h2:k<13):fmOk k=true:=by grind [fmOk,decide_eq_true]
def evE(e:Ev):Int:=
 if e.at_<0∨e.at_>1000000000000 then 2
 else
  let f:=formF e.kd
  if((((fmOk e.kd=false∨f.nm=false∧e.nm≠⟨#[]⟩)∨f.n=false∧e.n≠0)∨f.m=false∧e.m≠0)∨f.st=false∧(e.k:Int)>0)then 1
  else
   let x:=if f.nm=true then nmF e.nm else frF e.st
   if x≠0 then x
   else if f.n=true∧(e.n<f.lo∨e.n>f.hi)then 2
   else if(e.kd=9∧e.n≠2)∧e.m≠0 then 1
   else if(f.m=true∧(e.m<f.mlo∨e.m>f.mhi))∧(e.kd≠9∨e.n=2)then 2
   else 0
def ev1(l:List Ev)(i:Nat):Int:=if evE l[i]!≠0 then evE l[i]! else if(i:Int)>0∧l[i]!.at_<l[i-1]!.at_ then 11 else 0
def evsE(l:List Ev):Int:=fE (ev1 l) l.length
def pkE(p:Pk):Int:=
 if fE (fun i=>if[p.th,p.sr,p.ls][i]! <0∨[p.th,p.sr,p.ls][i]! >1000000000000000 then 2 else 0) 3≠0 then 2
 else if p.ls>p.sr then 2
 else if IntKind.i64.wrap (p.sr+(p.k:Int))>1000000000000000 then 2
 else if(p.k:Int)=0 then 8
 else if(p.k:Int)>1000 then 7
 else evsE p.es
theorem pk_rng{x:Pk}(h:fE (fun i=>if[x.th,x.sr,x.ls][i]! <0∨[x.th,x.sr,x.ls][i]! >1000000000000000 then 2 else 0) 3=0):0≤x.sr∧x.sr≤1000000000000000:=by
 have q:=fE_ok.1 h 1 Dc;grind
structure PkOk(x:Pk):Prop where
 th:0≤x.th∧x.th≤1000000000000000
 sr:0≤x.sr∧x.sr≤1000000000000000
 ls:0≤x.ls∧x.ls≤1000000000000000
 le:x.ls≤x.sr
 to:x.sr+(x.k:Int)≤1000000000000000
 k:1≤x.k∧x.k≤1000
 e:evsE x.es=0
theorem pk_ok{x:Pk}(h:pkE x=0):PkOk x:=by
 unfold pkE at h;split at h
 ·cases h
 rename_i h0;have h0:=Decidable.of_not_not h0;have q:∀i:Nat,i<3→0≤([x.th,x.sr,x.ls]:List Int)[i]!∧([x.th,x.sr,x.ls]:List Int)[i]!≤1000000000000000:=fun i hi=>by
  have q:=fE_ok.1 h0 i hi;split at q
  ·cases q
  ·omega
 split at h
 ·cases h
 split at h
 ·cases h
 rename_i h2;split at h
 ·cases h
 split at h
 ·cases h
 have q1:0≤x.sr∧x.sr≤1000000000000000:=q 1 Dc;rw[wrap_i64 Om]at h2;exact⟨q 0 Dc,q1,q 2 Dc,Om,Om,Om,h⟩
def thE(t:Th):Int:=if((t.id<0∨t.id>1000000000000000)∨t.dom<0)∨t.dom≥8 then 2 else nmF t.nm
end TW
end Go.Proofs.YtaclfjjipnpboaaGreatDoor
namespace Go.Proofs.YtaclfjjipnpboaaGreatDoor
open Go Go.Eng Go.RowKit
namespace TW
inductive J where
 |mk (op n:Int) (s:ByteArray) (A:Option Addr) (k c:Nat) (ks:List ByteArray) (B:Option Addr) (m d:Nat) (kids:List J)
namespace J
def op:J→Int
 | .mk x _ _ _ _ _ _ _ _ _ _=>x
def n:J→Int
 | .mk _ x _ _ _ _ _ _ _ _ _=>x
def s:J→ByteArray
 | .mk _ _ x _ _ _ _ _ _ _ _=>x
def A:J→Option Addr
 | .mk _ _ _ x _ _ _ _ _ _ _=>x
def k:J→Nat
 | .mk _ _ _ _ x _ _ _ _ _ _=>x
def c:J→Nat
 | .mk _ _ _ _ _ x _ _ _ _ _=>x
def ks:J→List ByteArray
 | .mk _ _ _ _ _ _ x _ _ _ _=>x
def B:J→Option Addr
 | .mk _ _ _ _ _ _ _ x _ _ _=>x
def m:J→Nat
 | .mk _ _ _ _ _ _ _ _ x _ _=>x
def d:J→Nat
 | .mk _ _ _ _ _ _ _ _ _ x _=>x
def kids:J→List J
 | .mk _ _ _ _ _ _ _ _ _ _ x=>x
end J
instance:Inhabited J:=⟨.mk 0 0 ⟨#[]⟩ none 0 0 [] none 0 0 []⟩
def J.v(x:J):List Value:=[.int .i64 x.op,.int .i64 x.n,.string x.s,.slice x.A x.k x.c,.slice x.B x.m x.d]
theorem J.one(x:J):∀u∈x.v,u.oneCell'=true:=by simp[J.v,Value.oneCell']
theorem J.ind{p:J→Prop}(h:∀e:J,(∀k∈e.kids,p k)→p e):∀e,p e
 | .mk a b c d f g i j o q kids=>h _ fun k hk=>
  have:SizeOf.sizeOf k<SizeOf.sizeOf kids:=List.sizeOf_lt_of_mem hk
  J.ind h k
termination_by e=>SizeOf.sizeOf e
decreasing_by
 simp only[J.mk.sizeOf_spec];omega
mutual
def er:J→J
 | .mk o n s _ _ _ ks _ _ _ kids=>.mk o n s none 0 0 ks none 0 0 (erL kids)
def erL:List J→List J
 |[]=>[]
 |x::r=>er x::erL r
end
theorem erL_map:∀l,erL l=l.map er
 |[]=>rfl
 |x::r=>by rw[erL,erL_map r];rfl
theorem er_op(x:J):(er x).op=x.op:=by cases x;rw[er];rfl
theorem er_n(x:J):(er x).n=x.n:=by cases x;rw[er];rfl
theorem er_s(x:J):(er x).s=x.s:=by cases x;rw[er];rfl
theorem er_ks(x:J):(er x).ks=x.ks:=by cases x;rw[er];rfl
theorem er_kids(x:J):(er x).kids=x.kids.map er:=by cases x;rw[er];exact erL_map _
theorem er_eq(x:J):er x= .mk x.op x.n x.s none 0 0 x.ks none 0 0 (x.kids.map er):=by cases x;rw[er,erL_map];rfl
def Sj(x y:J):Prop:=er x=er y
theorem Sj.op{x y:J}(h:Sj x y):x.op=y.op:=by rw[←er_op x,h,er_op]
theorem Sj.n{x y:J}(h:Sj x y):x.n=y.n:=by rw[←er_n x,h,er_n]
theorem Sj.s{x y:J}(h:Sj x y):x.s=y.s:=by rw[←er_s x,h,er_s]
theorem Sj.ks{x y:J}(h:Sj x y):x.ks=y.ks:=by rw[←er_ks x,h,er_ks]
theorem Sj.kids{x y:J}(h:Sj x y):x.kids.map er=y.kids.map er:=by rw[←er_kids x,h,er_kids]
theorem Sj.len{x y:J}(h:Sj x y):x.kids.length=y.kids.length:=by have:=congrArg List.length h.kids;simpa using this
theorem Sj.kid{x y:J}(h:Sj x y){i:Nat}(hi:i<x.kids.length):Sj x.kids[i]! y.kids[i]! :=by
 have h2:=h.len;have:=congrArg (fun l=>l[i]?) h.kids;simp only[List.getElem?_map]at this;rw[List.getElem?_eq_getElem hi,List.getElem?_eq_getElem Om]at this;rw[bang_eq hi,bang_eq Om];exact Option.some.inj this
theorem Sj.mk{x y:J}(h1:x.op=y.op)(h2:x.n=y.n)(h3:x.s=y.s)(h4:x.ks=y.ks)(h5:x.kids.map er=y.kids.map er):Sj x y:=by
 unfold Sj;rw[er_eq x,er_eq y,h1,h2,h3,h4,h5]
mutual
def Gm(w:World):J→Prop
 | .mk _ _ _ A k c ks B m d kids=>Ls w A k c sc 1 ks∧Ls w B m d J.v 5 kids∧GmL w kids
def GmL(w:World):List J→Prop
 |[]=>True
 |x::r=>Gm w x∧GmL w r
end
theorem GmL_all{w:World}:∀{l:List J},GmL w l↔∀x∈l,Gm w x
 |[]=>by simp[GmL]
 |x::r=>by rw[GmL,GmL_all (l:=r),List.forall_mem_cons]
theorem Gm_iff{w:World}{x:J}:Gm w x↔Ls w x.A x.k x.c sc 1 x.ks∧Ls w x.B x.m x.d J.v 5 x.kids∧∀y∈x.kids,Gm w y:=by
 cases x;rw[Gm,GmL_all];rfl
theorem Gm.a{w:World}{x:J}(h:Gm w x):Ls w x.A x.k x.c sc 1 x.ks:=(Gm_iff.1 h).1
theorem Gm.b{w:World}{x:J}(h:Gm w x):Ls w x.B x.m x.d J.v 5 x.kids:=(Gm_iff.1 h).2.1
theorem Gm.kid{w:World}{x:J}(h:Gm w x){i:Nat}(hi:i<x.kids.length):Gm w x.kids[i]! :=(Gm_iff.1 h).2.2 _ (by rw[bang_eq hi];exact List.getElem_mem hi)
theorem Gm.ext{w w':World}{x:J}(h:Gm w x)(e:Ext w w'):Gm w' x:=by
 revert h;refine J.ind (p:=fun x=>Gm w x→Gm w' x) (fun x ih h=> ?_) x;exact Gm_iff.2 ⟨h.a.ext e,h.b.ext e,fun y hy=>ih y hy ((Gm_iff.1 h).2.2 y hy)⟩
def hdB(o:Bool)(ks:List ByteArray)(j:Nat):List UInt8:=(if j=0 then[]else[44])++(if o then 34::ks[j]!.data.toList++[34,58]else[])
def bdB(o:Bool)(ks:List ByteArray)(l:List (List UInt8)):Nat→List UInt8
 |0=>[]
 |j+1=>bdB o ks l j++(hdB o ks j++l[j]!)
mutual
def pr:J→List UInt8
 | .mk o n s _ _ _ ks _ _ _ kids=>if o=3 then Lib.itoa n else if o=4 then 34::s.data.toList++[34]
  else if o=6 then 123::bdB true ks (prL kids) kids.length++[125]else 91::bdB false ks (prL kids) kids.length++[93]
def prL:List J→List (List UInt8)
 |[]=>[]
 |x::r=>pr x::prL r
end
theorem prL_map:∀l,prL l=l.map pr
 |[]=>rfl
 |x::r=>by rw[prL,prL_map r];rfl
theorem pr_eq(x:J):pr x=if x.op=3 then Lib.itoa x.n else if x.op=4 then 34::x.s.data.toList++[34]
  else if x.op=6 then 123::bdB true x.ks (x.kids.map pr) x.kids.length++[125]else 91::bdB false x.ks (x.kids.map pr) x.kids.length++[93]:=by cases x;rw[pr,prL_map];rfl
theorem pr_er(x:J):pr (er x)=pr x:=by
 refine J.ind (p:=fun x=>pr (er x)=pr x) (fun x ih=> ?_) x;rw[pr_eq (er x),pr_eq x,er_op,er_n,er_s,er_ks,er_kids,List.length_map,List.map_map,List.map_congr_left (f:=pr∘er) (g:=pr) fun y hy=>ih y hy]
theorem Sj.pr{x y:J}(h:Sj x y):TW.pr x=TW.pr y:=by rw[←pr_er x,h,pr_er]
def cB(c:Int):Prop:=33≤c∧c≤126∧c≠34∧c≠92
def Cln(s:ByteArray):Prop:=0<s.size∧s.size≤40∧∀i,i<s.size→cB (bat s i)
def Vd:Nat→J→Prop
 |0,_=>False
 |d+1,x=>(x.op=3∧(-1000000000000000≤x.n∧x.n≤1000000000000000)∧x.s=⟨#[]⟩∧x.ks=[]∧x.kids=[])∨
  (x.op=4∧x.n=0∧Cln x.s∧x.ks=[]∧x.kids=[])∨
  (x.op=5∧x.n=0∧x.s=⟨#[]⟩∧x.ks=[]∧∀y∈x.kids,Vd d y)∨
  (x.op=6∧x.n=0∧x.s=⟨#[]⟩∧x.ks.length=x.kids.length∧(x.ks.Nodup∧∀k∈x.ks,Cln k)∧∀y∈x.kids,Vd d y)
theorem Vd.kid{d:Nat}{x:J}(h:Vd (d+1) x){y:J}(hy:y∈x.kids):Vd d y:=by
 rcases h with h|h|h|h
 ·rw[h.2.2.2.2]at hy;cases hy
 ·rw[h.2.2.2.2]at hy;cases hy
 ·exact h.2.2.2.2 y hy
 ·exact h.2.2.2.2.2 y hy
theorem Vd.pos{d:Nat}{x:J}(h:Vd d x):∃e,d=e+1:=by
 cases d with
 |zero=>exact h.elim
 |succ d=>exact⟨d,rfl⟩
mutual
def ft(b:Nat):J→Prop
 | .mk _ _ _ A _ _ _ B _ _ kids=>A.map (·.block)=some b∨B.map (·.block)=some b∨ftL b kids
def ftL(b:Nat):List J→Prop
 |[]=>False
 |x::r=>ft b x∨ftL b r
end
theorem ftL_any{b:Nat}:∀{l:List J},ftL b l↔∃x∈l,ft b x
 |[]=>by simp[ftL]
 |x::r=>by rw[ftL,ftL_any (l:=r)];simp
theorem ft_iff{b:Nat}{x:J}:ft b x↔x.A.map (·.block)=some b∨x.B.map (·.block)=some b∨∃y∈x.kids,ft b y:=by
 cases x;rw[ft,ftL_any];rfl
theorem Ls_loc{α:Type}{w w':World}{A:Option Addr}{n c sz:Nat}{f:α→List Value}{l:List α}(h:Ls w A n c f sz l)(hb:∀b,A.map (·.block)=some b→w'.heap[b]? =w.heap[b]?):Ls w' A n c f sz l:=
 ⟨h.len,h.le,h.max,fun i x hx=>by
  obtain⟨ad,rfl,_,h2,h3⟩:=h.rd i x hx;have e:=hb ad.block rfl;refine⟨ad,rfl,Nat.zero_le _,?_,fun j u hu=> ?_⟩
  ·rcases Nat.lt_or_ge ad.block w'.heap.size with q|q
   ·exact q
   ·rw[Array.getElem?_eq_none q,Array.getElem?_eq_getElem h2]at e;cases e
  ·rw[←h3 j u hu];show World.cell? _ _=World.cell? _ _;unfold World.cell?;rw[show(ad.add (i*sz+j)).block=ad.block from block_add _ _,e]⟩
theorem Gm_loc{w w':World}{x:J}(h:Gm w x)(hb:∀b,ft b x→w'.heap[b]? =w.heap[b]?):Gm w' x:=by
 revert h hb;refine J.ind (p:=fun x=>Gm w x→(∀b,ft b x→w'.heap[b]? =w.heap[b]?)→Gm w' x) (fun x ih h hb=> ?_) x;exact Gm_iff.2 ⟨Ls_loc h.a fun b e=>hb b (ft_iff.2 (.inl e)),Ls_loc h.b fun b e=>hb b (ft_iff.2 (.inr (.inl e))),fun y hy=>ih y hy ((Gm_iff.1 h).2.2 y hy) fun b e=>hb b (ft_iff.2 (.inr (.inr ⟨y,hy,e⟩)))⟩
def jR(x:J):Res:=⟨fun b=>ft b x,fun w=>Gm w x∧∀b,ft b x→b<w.heap.size,fun _ b h e=>h.2 b e,fun w w' hb h=>⟨Gm_loc h.1 hb,fun b e=>by
 have h1:=h.2 b e;rcases Nat.lt_or_ge b w'.heap.size with q|q
 ·exact q
 ·have:=hb b e;rw[Array.getElem?_eq_none q,Array.getElem?_eq_getElem h1]at this;cases this⟩⟩
def jL(x:J):List Res:=[jR x]
section
variable{W w:World}{L M:List Res}
theorem fold(H:Hp W w (L++M)){R:Res}(h:R.holds w)(hf:∀b,R.foot b→∃S∈L,S.foot b):Hp W w (R::M):=by
 have hp:=List.pairwise_append.1 H.far;refine⟨H.ext,?_,?_,List.pairwise_cons.2 ⟨?_,hp.2.1⟩⟩
 ·intro S hS;rcases List.mem_cons.1 hS with rfl|hS
  ·exact h
  ·exact H.holds S (List.mem_append_right _ hS)
 ·intro S hS b hb;rcases List.mem_cons.1 hS with rfl|hS
  ·obtain⟨T,hT,hb⟩:=hf b hb;exact H.own T (List.mem_append_left _ hT) b hb
  ·exact H.own S (List.mem_append_right _ hS) b hb
 ·intro S hS b h1 h2;obtain⟨T,hT,hb⟩:=hf b h1;exact hp.2.2 T hT S hS b hb h2
theorem row_ft{α:Type}{e:TypeId}{f:α→List Value}{sz k c:Nat}{A:Option Addr}{l:List α}{b:Nat}:A.map (·.block)=some b↔(row e f sz (.slice A k c) l).foot b:=by
 show _↔(Value.slice A k c).ownBlock=some b;cases A<;>rfl
theorem mk_J{t u:TypeId}(o n:Int)(s:ByteArray){A B:Option Addr}{k c m d:Nat}{ks:List ByteArray}{kids:List J}(H:Hp W w (row t sc 1 (.slice A k c) ks::row u J.v 5 (.slice B m d) kids::big jL kids::M)):
  Hp W w (jR (.mk o n s A k c ks B m d kids)::M):=by
 refine fold (L:=[_,_,_]) H ?_ fun b e=> ?_
 ·have hk:∀y∈kids,(jR y).holds w:=fun y hy=>(H.holds (big jL kids) (by simp)).1 _ (List.mem_flatMap.2 ⟨y,hy,List.mem_cons_self⟩);refine⟨Gm_iff.2 ⟨H.l 0,H.l 1,fun y hy=>(hk y hy).1⟩,fun b e=> ?_⟩;rcases ft_iff.1 e with e|e|⟨y,hy,e⟩
  ·exact Res.dom _ w b (H.holds (row t sc 1 (.slice A k c) ks) (by simp)) (row_ft.1 e)
  ·exact Res.dom _ w b (H.holds (row u J.v 5 (.slice B m d) kids) (by simp)) (row_ft.1 e)
  ·exact(hk y hy).2 b e
 ·rcases ft_iff.1 e with e|e|⟨y,hy,e⟩
  ·exact⟨row t sc 1 (.slice A k c) ks,by simp,row_ft.1 e⟩
  ·exact⟨row u J.v 5 (.slice B m d) kids,by simp,row_ft.1 e⟩
  ·exact⟨big jL kids,by simp,jR y,List.mem_flatMap.2 ⟨y,hy,List.mem_cons_self⟩,e⟩
def j0(o n:Int)(s:ByteArray):J:=.mk o n s none 0 0 [] none 0 0 []
theorem gm0(o n:Int)(s:ByteArray)(w:World):Gm w (j0 o n s):=Gm_iff.2 ⟨Ls.nil (z:=0) Dc,Ls.nil (z:=0) Dc,fun y hy=>(by cases hy)⟩
theorem Hp_j0(H:Hp W w L)(o n:Int)(s:ByteArray):Hp W w (jR (j0 o n s)::L):=by
 have q:∀b,¬ft b (j0 o n s):=fun b e=>by
  rcases ft_iff.1 e with e|e|⟨y,hy,_⟩
  ·cases e
  ·cases e
  ·cases hy
 exact fold (L:=[]) H ⟨gm0 o n s w,fun b e=>(q b e).elim⟩ fun b e=>(q b e).elim
theorem Hp_gm{x:J}(H:Hp W w L)(k:Nat)(hk:L[k]? =some (jR x):=by exact rfl):Gm w x:=(H.get hk).1
theorem boxRow{α:Type}{e g:Nat}{f:α→List Value}{sz:Nat}{l:List α}{cs:List Value}(H:Hp W w (box g e cs::L))(n:Nat)(hn:l.length=n)(hc:l.flatMap f=cs)(hs:cs.length=n*sz)(hm:n≤maxLen):Hp W w (row e f sz (.slice (some ⟨g,0,none⟩) n n) l::L):=by
 refine fold (L:=[_]) H ?_ fun b e=>⟨_,List.mem_cons_self,by
  have:g=b:=by injection e
  exact this.symm⟩
 show OwnL w 0 e f sz _ l;subst hn;exact⟨by rw[hc,hs],.inr ⟨g,l.length,cs.toArray,rfl,Nat.zero_le _,H.b 0,Nat.le_refl _,hm,by simpa using hs,by rw[←hs,hc];simp⟩⟩
end
end TW
end Go.Proofs.YtaclfjjipnpboaaGreatDoor
namespace Go.Proofs.YtaclfjjipnpboaaGreatDoor
open Go Go.Eng Go.Lib
namespace TW
theorem dec_small{u:Nat}(h:u<10):decDigits u=[UInt8.ofNat (48+u)]:=by rw[decDigits,dif_pos h]
theorem dec_big{u:Nat}(h:¬u<10):decDigits u=decDigits (u/10)++[UInt8.ofNat (48+u%10)]:=by rw[decDigits,dif_neg h]
theorem dig_chars(u:Nat):∀c∈decDigits u,48≤c.toNat∧c.toNat≤57:=by
 induction u using Nat.strongRecOn with
 |_ u ih=>
  have one:∀d:Nat,d<10→(UInt8.ofNat (48+d)).toNat=48+d:=fun d hd=>by
   simp[UInt8.toNat_ofNat'];omega
  by_cases h:u<10
  ·rw[dec_small h];intro c hc;rw[List.mem_singleton.1 hc,one u h];omega
  ·rw[dec_big h];intro c hc;rcases List.mem_append.1 hc with hc|hc
   ·exact ih (u/10) Om c hc
   ·rw[List.mem_singleton.1 hc,one _ (Nat.mod_lt _ Dc)];omega
theorem one_digit{d:Nat}(hd:d<10):(UInt8.ofNat (48+d)).toNat=48+d:=by
 simp[UInt8.toNat_ofNat'];omega
theorem parse_snoc(c:UInt8):∀(l:List UInt8) (acc a:Nat),parseUint10 acc l= .ok a→48≤c.toNat→c.toNat≤57→a<1844674407370955162→a*10+(c.toNat-48)<18446744073709551616→parseUint10 acc (l++[c])= .ok (a*10+(c.toNat-48))
 |[],acc,a,h,h1,h2,h3,h4=>by
  simp only[parseUint10]at h;injection h with h
  subst h;simp only[List.nil_append,parseUint10];rw[if_pos ⟨h1,h2⟩,if_neg Om,if_neg Om]
 |x::r,acc,a,h,h1,h2,h3,h4=>by
  simp only[parseUint10]at h;simp only[List.cons_append,parseUint10];split at h
  ·rename_i hx;rw[if_pos hx];split at h
   ·cases h
   ·rename_i hy;rw[if_neg hy];split at h
    ·cases h
    ·rename_i hz;rw[if_neg hz];exact parse_snoc c r _ a h h1 h2 h3 h4
  ·cases h
theorem parse_dec(u:Nat)(h:u<18446744073709551616):parseUint10 0 (decDigits u)= .ok u:=by
 induction u using Nat.strongRecOn with
 |_ u ih=>
  by_cases hu:u<10
  ·rw[dec_small hu];simp only[parseUint10];rw[one_digit hu,if_pos Om,if_neg Om,if_neg Om]
   congr 1;omega
  ·rw[dec_big hu];have hm:u%10<10:=Nat.mod_lt _ Dc;have:=parse_snoc (UInt8.ofNat (48+u%10)) (decDigits (u/10)) 0 (u/10) (ih (u/10) Om Om) (by rw[one_digit hm];omega) (by rw[one_digit hm];omega) Om (by rw[one_digit hm];omega);rw[this,one_digit hm]
   congr 1;omega
theorem dec_ne(u:Nat):decDigits u≠[]:=by
 by_cases hu:u<10
 ·rw[dec_small hu];simp
 ·rw[dec_big hu];simp
theorem atoi_itoa{v:Int}(h: -9223372036854775808≤v∧v≤9223372036854775807):atoiAll (itoa v)= .ok v:=by
 by_cases hneg:v<0
 ·obtain⟨u,rfl⟩:∃u:Nat,v= -(u:Int):=⟨v.natAbs,Om⟩;rw[itoa_neg u Om];unfold atoiAll;have e:parseMag (if(45:UInt8).toNat=43∨(45:UInt8).toNat=45 then decDigits u else 45::decDigits u)= .ok u:=by
   rw[if_pos (.inr rfl)];unfold parseMag;rw[if_neg (dec_ne u)];exact parse_dec u Om
  simp only[e];rw[if_neg (by simp),if_neg (by simp;omega)];simp
 ·obtain⟨u,rfl⟩:∃u:Nat,v=u:=⟨v.toNat,Om⟩;rw[itoa_nonneg];cases hd:decDigits u with
  |nil=>exact absurd hd (dec_ne u)
  |cons c r=>
   have hc:=dig_chars u c (by rw[hd];exact List.mem_cons_self);have e:parseMag (if c.toNat=43∨c.toNat=45 then r else c::r)= .ok u:=by
    rw[if_neg Om,←hd];unfold parseMag;rw[if_neg (dec_ne u)];exact parse_dec u Om
   unfold atoiAll;simp only[e];rw[if_neg Om,if_neg Om,if_neg Om]
theorem dec_head(u:Nat):(u=0∧decDigits u=[48])∨∃c r,decDigits u=c::r∧49≤c.toNat∧c.toNat≤57∧∀x∈r,48≤x.toNat∧x.toNat≤57:=by
 induction u using Nat.strongRecOn with
 |_ u ih=>
  by_cases h:u<10
  ·by_cases h0:u=0
   ·subst h0;exact .inl ⟨rfl,dec_small Dc⟩
   ·exact .inr ⟨_,[],dec_small h,by rw[one_digit h];omega,by rw[one_digit h];omega,by simp⟩
  ·rcases ih (u/10) Om with⟨e,_⟩|⟨c,r,e,h1,h2,h3⟩
   ·omega
   ·refine .inr ⟨c,r++[UInt8.ofNat (48+u%10)],by rw[dec_big h,e];rfl,h1,h2,fun x hx=> ?_⟩;rcases List.mem_append.1 hx with hx|hx
    ·exact h3 x hx
    ·have hm:u%10<10:=Nat.mod_lt _ Dc;rw[List.mem_singleton.1 hx,one_digit hm];omega
def sgn(n:Int):List UInt8:=if n<0 then[45]else[]
theorem itoa_sgn(n:Int):itoa n=sgn n++decDigits n.natAbs:=by
 unfold sgn;by_cases h:n<0
 ·obtain⟨u,rfl⟩:∃u:Nat,n= -(u:Int):=⟨n.natAbs,Om⟩;rw[if_pos h,itoa_neg u Om,Int.natAbs_neg,Int.natAbs_natCast];rfl
 ·obtain⟨u,rfl⟩:∃u:Nat,n=u:=⟨n.toNat,Om⟩;rw[if_neg h,itoa_nonneg,Int.natAbs_natCast];rfl
def txt(n:Int):ByteArray:=⟨(itoa n).toArray⟩
theorem txt_l(n:Int):(txt n).data.toList=itoa n:=by simp[txt]
theorem txt_s(n:Int):(txt n).size=(itoa n).length:=by simp[txt,ByteArray.size]
end TW
end Go.Proofs.YtaclfjjipnpboaaGreatDoor
namespace Go.Proofs.YtaclfjjipnpboaaGreatDoor
open Go Go.Eng Go.RowKit
namespace TW
theorem beq_no{a b:Int}(h:a≠b):(a==b)=false:=by simpa using h
theorem beq_yes{a b:Int}(h:a=b):(a==b)=true:=by simpa using h
theorem str_yes{s r:ByteArray}(h:s=r):(s==r)=true:=beqB_eq.2 h
theorem pr_3{x:J}(h:x.op=3):pr x=Lib.itoa x.n:=by rw[pr_eq,if_pos h]
theorem pr_4{x:J}(h:x.op=4):pr x=34::x.s.data.toList++[34]:=by rw[pr_eq,if_neg (by rw[h];decide),if_pos h]
theorem pr_5{x:J}(h:x.op=5):pr x=91::bdB false x.ks (x.kids.map pr) x.kids.length++[93]:=by rw[pr_eq,if_neg (by rw[h];decide),if_neg (by rw[h];decide),if_neg (by rw[h];decide)]
theorem pr_6{x:J}(h:x.op=6):pr x=123::bdB true x.ks (x.kids.map pr) x.kids.length++[125]:=by rw[pr_eq,if_neg (by rw[h];decide),if_neg (by rw[h];decide),if_pos h]
theorem bdB_next(o:Bool)(ks:List ByteArray)(l:List (List UInt8))(j:Nat):bdB o ks l (j+1)=bdB o ks l j++(hdB o ks j++l[j]!):=rfl
theorem bdB_le{o:Bool}{ks:List ByteArray}{l:List (List UInt8)}{i:Nat}:∀{j:Nat},i≤j→(bdB o ks l i).length≤(bdB o ks l j).length
 |j,h=>by
  induction j with
  |zero=>
   obtain rfl:i=0:=Om;exact Nat.le_refl _
  |succ j ih=>
   rcases Nat.lt_or_eq_of_le h with h|rfl
   ·rw[bdB_next,List.length_append];have:=ih Om;omega
   ·exact Nat.le_refl _
theorem bd_room{o:Bool}{ks:List ByteArray}{l:List J}{j:Nat}(h:j<l.length):(bdB o ks (l.map pr) j).length+(hdB o ks j).length+(pr l[j]!).length≤(bdB o ks (l.map pr) l.length).length:=by
 have:=bdB_le (o:=o) (ks:=ks) (l:=l.map pr) (show j+1≤l.length from h);rw[bdB_next,List.length_append,List.length_append,map_b pr h]at this;omega
theorem bd_step{o:Bool}{ks:List ByteArray}{l:List J}{j:Nat}(h:j<l.length):bdB o ks (l.map pr) (j+1)=bdB o ks (l.map pr) j++(hdB o ks j++pr l[j]!):=by rw[bdB_next,map_b pr h]
theorem pr_len5{x:J}(h:x.op=5):(pr x).length=(bdB false x.ks (x.kids.map pr) x.kids.length).length+2:=by rw[pr_5 h,List.length_append,List.length_cons];rfl
theorem pr_len6{x:J}(h:x.op=6):(pr x).length=(bdB true x.ks (x.kids.map pr) x.kids.length).length+2:=by rw[pr_6 h,List.length_append,List.length_cons];rfl
theorem hd_as{ks:List ByteArray}{j:Nat}(h:0<j):hdB false ks j=[44]:=by unfold hdB;rw[if_neg Om];rfl
theorem hd_os{ks:List ByteArray}{j:Nat}(h:0<j):hdB true ks j=(44::34::ks[j]!.data.toList:List UInt8)++[34,58]:=by unfold hdB;rw[if_neg Om];rfl
theorem cB_34{c:Int}(h:cB c):(c==34)=false:=beq_no h.2.2.1
theorem cB_92{c:Int}(h:cB c):(c==92)=false:=beq_no h.2.2.2
theorem cB_10{c:Int}(h:cB c):(c==10)=false:=beq_no (by have:=h.1;omega)
theorem cB_9{c:Int}(h:cB c):(c==9)=false:=beq_no (by have:=h.1;omega)
theorem let_cB{c:Int}(h:letB c=true):cB c:=by
 unfold letB at h;simp only[Bool.or_eq_true,Bool.and_eq_true,decide_eq_true_eq,List.contains_iff_mem,List.mem_cons,List.not_mem_nil,or_false]at h;unfold cB;omega
theorem toL_len(s:ByteArray):s.data.toList.length=s.size:=rfl
theorem take_toL{s:ByteArray}{j:Nat}(h:j<s.size):s.data.toList.take (j+1)=s.data.toList.take j++[s.data.toList[j]!]:=take_bang h
theorem take_all{s:ByteArray}{j:Nat}(h:s.size≤j):s.data.toList.take j=s.data.toList:=List.take_of_length_le h
theorem nm_cln{s:ByteArray}(h:nmF s=0):Cln s:=by
 unfold nmF at h;split at h
 ·cases h
 ·rename_i q;rw[not_or]at q;refine⟨?_,by have:=q.2;omega,fun i hi=> ?_⟩
  ·rcases Nat.eq_zero_or_pos s.size with e|e
   ·exact absurd (ByteArray.ext (Array.eq_empty_of_size_eq_zero e)) q.1
   ·exact e
  ·have:=fE_ok.1 h i hi;split at this
   ·rename_i l;exact let_cB l
   ·cases this
theorem Vd.parts{d:Nat}{x:J}(h:Vd (d+1) x):(∀i,i<x.s.size→cB (bat x.s i))∧x.s.size≤40∧(∀k∈x.ks,Cln k)∧x.ks.Nodup∧x.op≠2∧(x.op=3→-1000000000000000≤x.n∧x.n≤1000000000000000):=by
 rcases h with⟨ho,h1,h2,h3,_⟩|⟨ho,_,h2,h3,_⟩|⟨ho,_,h2,h3,_⟩|⟨ho,_,h2,_,⟨h3,h4⟩,_⟩
 ·rw[h2,h3];exact⟨fun i hi=>absurd hi (Nat.not_lt_zero i),Dc,by simp,List.nodup_nil,Om,fun _=>h1⟩
 ·rw[h3];exact⟨h2.2.2,h2.2.1,by simp,List.nodup_nil,Om,Om⟩
 ·rw[h2,h3];exact⟨fun i hi=>absurd hi (Nat.not_lt_zero i),Dc,by simp,List.nodup_nil,Om,Om⟩
 ·rw[h2];exact⟨fun i hi=>absurd hi (Nat.not_lt_zero i),Dc,h4,h3,Om,Om⟩
theorem Vd.ops{d:Nat}{x:J}(h:Vd d x):x.op=3∨x.op=4∨x.op=5∨x.op=6:=by
 obtain⟨e,rfl⟩:=h.pos;rcases h with h|h|h|h
 ·exact .inl h.1
 ·exact .inr (.inl h.1)
 ·exact .inr (.inr (.inl h.1))
 ·exact .inr (.inr (.inr h.1))
theorem pr_ne{d:Nat}{x:J}(h:Vd d x)(ho:5≤x.op):pr x≠[]:=by
 rcases h.ops with h|h|h|h
 ·omega
 ·omega
 ·rw[pr_5 h];simp
 ·rw[pr_6 h];simp
theorem Vd.five{d:Nat}{x:J}(h:Vd (d+1) x)(ho:x.op=5):x.n=0∧x.s=⟨#[]⟩∧x.ks=[]:=by
 rcases h with h|h|h|h
 ·omega
 ·omega
 ·exact⟨h.2.1,h.2.2.1,h.2.2.2.1⟩
 ·omega
theorem Vd.six{d:Nat}{x:J}(h:Vd (d+1) x)(ho:x.op=6):x.n=0∧x.s=⟨#[]⟩∧x.ks.length=x.kids.length∧x.ks.Nodup∧∀k∈x.ks,Cln k:=by
 rcases h with h|h|h|h
 ·omega
 ·omega
 ·omega
 ·exact⟨h.2.1,h.2.2.1,h.2.2.2.1,h.2.2.2.2.1⟩
theorem Vd.three{d:Nat}{x:J}(h:Vd (d+1) x)(ho:x.op=3):(-1000000000000000≤x.n∧x.n≤1000000000000000)∧x.s=⟨#[]⟩∧x.ks=[]∧x.kids=[]:=by
 rcases h with h|h|h|h
 ·exact h.2
 ·omega
 ·omega
 ·omega
theorem Vd.four{d:Nat}{x:J}(h:Vd (d+1) x)(ho:x.op=4):x.n=0∧Cln x.s∧x.ks=[]∧x.kids=[]:=by
 rcases h with h|h|h|h
 ·omega
 ·exact h.2
 ·omega
 ·omega
def At(s:ByteArray)(i:Nat)(l r:List UInt8):Prop:=s.data.toList.drop i=l++r
def Nd(r:List UInt8):Prop:=∀c t,r=c::t→c.toNat<48∨57<c.toNat
section
variable{s:ByteArray}{i:Nat}{l a b r:List UInt8}
theorem At.len(h:At s i l r):i+l.length+r.length=s.size∨l=[]∧r=[]:=by
 have:=congrArg List.length h;rw[List.length_drop,List.length_append,toL_len]at this;by_cases q:i≤s.size
 ·left;omega
 ·right;exact⟨List.eq_nil_of_length_eq_zero Om,List.eq_nil_of_length_eq_zero Om⟩
theorem At.cut(h:At s i (a++b) r):At s i a (b++r):=by unfold At at *;rw[h,List.append_assoc]
theorem At.go(h:At s i a r):At s (i+a.length) [] r:=by unfold At at *;rw[←List.drop_drop,h,List.drop_left];rfl
theorem At.skip(h:At s i (a++b) r):At s (i+a.length) b r:=by unfold At at *;rw[←List.drop_drop,h,List.append_assoc,List.drop_left]
theorem At.lt(h:At s i l r){j:Nat}(hj:j<l.length):i+j<s.size:=by
 rcases h.len with e|⟨e,_⟩
 ·omega
 ·rw[e]at hj;exact absurd hj (Nat.not_lt_zero _)
theorem At.get(h:At s i l r){j:Nat}(hj:j<l.length):s.data.toList[i+j]! =l[j]! :=by
 have h1:=h.lt hj;have:=congrArg (fun q=>q[j]?) h;simp only[List.getElem?_drop]at this;rw[List.getElem?_append_left hj,get_bang hj,get_bang (by rw[toL_len];exact h1)]at this;exact Option.some.inj this
theorem At.bat(h:At s i l r){j:Nat}(hj:j<l.length):Eng.bat s (i+j)=((l[j]!.toNat:Nat):Int):=by unfold Eng.bat;rw[h.get hj]
theorem At.b0{c:UInt8}(h:At s i (c::l) r):i<s.size∧Eng.bat s i=((c.toNat:Nat):Int):=⟨h.lt (j:=0) (Nat.zero_lt_succ _),h.bat (j:=0) (Nat.zero_lt_succ _)⟩
end
def hF(s:ByteArray)(i:Nat):Int:=if i<s.size then bat s i else 0
theorem hF_in{s:ByteArray}{i:Nat}(h:i<s.size):hF s i=bat s i:=if_pos h
theorem hF_nd{s:ByteArray}{i:Nat}{r:List UInt8}(h:At s i [] r)(hr:Nd r)(hi:i≤s.size):hF s i<48∨57<hF s i:=by
 unfold hF;split
 ·rename_i q;cases r with
  |nil=>
   rcases h.len with e|e
   ·simp at e;omega
   ·have:=congrArg List.length h;simp[toL_len]at this;omega
  |cons c t=>
   have:=(At.b0 (l:=t) (r:=[]) (show At s i (c::t) [] by unfold At at *;simpa using h)).2;rw[this];have:=hr c t rfl;omega
 ·left;decide
section
variable{s x:ByteArray}{i:Nat}{r:List UInt8}
theorem At.q_in(h:At s i (34::x.data.toList++[34]) r){j:Nat}(hj:j<x.size):hF s (i+1+j)=Eng.bat x j:=by
 have h2:At s (i+1) (x.data.toList++[34]) r:=At.skip (a:=[34]) h;have h3:=h2.cut;rw[hF_in (h3.lt (by rw[toL_len];exact hj)),h3.bat (by rw[toL_len];exact hj)];rfl
theorem At.q_out(h:At s i (34::x.data.toList++[34]) r):hF s (i+1+x.size)=34:=by
 have h2:At s (i+1+x.size) [34] r:=by
  have:=At.skip (a:=x.data.toList) (At.skip (a:=[34]) (b:=x.data.toList++[34]) h);exact this
 rw[hF_in h2.b0.1,h2.b0.2];rfl
theorem bl_of(x:ByteArray):(⟨x.data.toList.toArray⟩:ByteArray)=x:=by apply ByteArray.ext;simp
end
theorem sg_neg{n:Int}(h:n<0):(sgn n).length=1:=by unfold sgn;rw[if_pos h];rfl
theorem sg_pos{n:Int}(h:0≤n):(sgn n).length=0:=by unfold sgn;rw[if_neg Om];rfl
section
variable{s:ByteArray}{i F k:Nat}{r:List UInt8}{n:Int}
theorem nu_lt(h:At s i (Lib.itoa n) r):i<s.size:=by
 have:=h.lt (j:=0) (by rw[itoa_sgn,List.length_append];have:=List.length_pos_iff.2 (dec_ne n.natAbs);omega);exact this
theorem nu_dig(h:At s i (Lib.itoa n) r):At s (i+(sgn n).length) (Lib.decDigits n.natAbs) r:=by rw[itoa_sgn]at h;exact h.skip
theorem nu_neg(h:At s i (Lib.itoa n) r)(hn:n<0):hF s i=45:=by
 have e:At s i (45::Lib.decDigits n.natAbs) r:=by have h:=h;rw[itoa_sgn]at h;unfold sgn at h;rw[if_pos hn]at h;exact h
 rw[hF_in e.b0.1,e.b0.2];rfl
theorem nu_at(h:At s F (Lib.decDigits n.natAbs) r)(hk:k<(Lib.decDigits n.natAbs).length):48≤hF s (F+k)∧hF s (F+k)≤57:=by
 rw[hF_in (h.lt hk),h.bat hk];have:=dig_chars n.natAbs _ (bang_mem hk);omega
theorem nu_pos(h:At s i (Lib.itoa n) r)(hn:0≤n):hF s i≠45:=by
 have e:=nu_dig h;rw[sg_pos hn]at e;have:=nu_at (k:=0) e (List.length_pos_iff.2 (dec_ne _));simp only[Nat.add_zero]at this;omega
theorem nu_end(h:At s F (Lib.decDigits n.natAbs) r)(hr:Nd r)(hk:k=(Lib.decDigits n.natAbs).length):hF s (F+k)<48∨57<hF s (F+k):=by
 subst hk;refine hF_nd h.go hr ?_;have:=h.lt (j:=(Lib.decDigits n.natAbs).length-1) (by have:=List.length_pos_iff.2 (dec_ne n.natAbs);omega);omega
theorem nu_zero(h:At s F (Lib.decDigits n.natAbs) r):(bat s F=48→(Lib.decDigits n.natAbs).length=1)∧F<s.size:=by
 have h0:=List.length_pos_iff.2 (dec_ne n.natAbs);have hb:=h.bat (j:=0) h0;refine⟨fun e=> ?_,h.lt (j:=0) h0⟩;rcases dec_head n.natAbs with⟨_,e2⟩|⟨c,t,e2,h1,_⟩
 ·rw[e2];rfl
 ·rw[e2,Nat.add_zero]at hb;rw[hb]at e;have:((c::t:List UInt8)[0]!)=c:=rfl;rw[this]at e;omega
theorem nu_m0(n:Int):(txt n==(⟨#[45,48]⟩:ByteArray))=false:=beqB_ne.2 fun e=>by
 have q:Lib.itoa n=[45,48]:=by rw[←txt_l,e]
 rw[itoa_sgn]at q;unfold sgn at q;split at q
 ·rename_i hn;have q2:Lib.decDigits n.natAbs=[48]:=by injection q
  rcases dec_head n.natAbs with⟨e0,_⟩|⟨c,t,e2,h1,_⟩
  ·omega
  ·rw[e2]at q2;injection q2 with a b;subst a;exact absurd h1 Dc
 ·have:=dig_chars n.natAbs 45 (by rw[show Lib.decDigits n.natAbs=[45,48]from q];exact List.mem_cons_self);exact absurd this.1 Dc
theorem nu_txt(h:At s i (Lib.itoa n) r)(hF_:i+(sgn n).length=F):s.extract i (F+(Lib.decDigits n.natAbs).length)=txt n:=by
 have e:i+(Lib.itoa n).length=F+(Lib.decDigits n.natAbs).length:=by rw[itoa_sgn,List.length_append];omega
 apply ByteArray.ext;rw[←e,ByteArray.data_extract];apply Array.ext';rw[Array.toList_extract,show(txt n).data.toList=Lib.itoa n from txt_l n];unfold At at h;simp only[List.extract_eq_take_drop,Nat.add_sub_cancel_left,h,List.take_left']
end
theorem bd_split{o:Bool}{ks:List ByteArray}{l:List (List UInt8)}{k:Nat}:∀{n:Nat},k<n→∃t,bdB o ks l n=bdB o ks l k++(hdB o ks k++l[k]!)++t∧(k+1<n→∃t',t=44::t')∧(k+1=n→t=[])
 |0,h=>absurd h (Nat.not_lt_zero _)
 |n+1,h=>by
  rcases Nat.lt_or_eq_of_le (Nat.le_of_lt_succ h)with h|rfl
  ·obtain⟨t,e,h1,h2⟩:=bd_split (o:=o) (ks:=ks) (l:=l) h;refine⟨t++(hdB o ks n++l[n]!),by rw[bdB_next,e,List.append_assoc],fun _=> ?_,Om⟩;by_cases q:k+1<n
   ·obtain⟨t',e'⟩:=h1 q;exact⟨_,by rw[e'];rfl⟩
   ·rw[h2 Om];refine⟨(if o then 34::ks[n]!.data.toList++[34,58]else[])++l[n]!,?_⟩;unfold hdB;rw[if_neg Om];simp
  ·exact⟨[],by rw[bdB_next,List.append_nil],Om,fun _=>rfl⟩
def PH(c:UInt8):Prop:=c.toNat=34∨c.toNat=45∨(48≤c.toNat∧c.toNat≤57)∨c.toNat=91∨c.toNat=123
theorem num_hd(n:Int):∃c t,Lib.itoa n=c::t∧(c.toNat=45∨(48≤c.toNat∧c.toNat≤57)):=by
 rw[itoa_sgn];unfold sgn;split
 ·exact⟨45,_,rfl,.inl rfl⟩
 ·cases e:Lib.decDigits n.natAbs with
  |nil=>exact absurd e (dec_ne _)
  |cons c t=>exact⟨c,t,rfl,.inr (dig_chars n.natAbs c (by rw[e];exact List.mem_cons_self))⟩
theorem pr_hd{d:Nat}{x:J}(h:Vd d x):∃c t,pr x=c::t∧PH c:=by
 rcases h.ops with h|h|h|h
 ·obtain⟨c,t,e,q⟩:=num_hd x.n;refine⟨c,t,(pr_3 h).trans e,?_⟩;unfold PH;omega
 ·exact⟨34,_,pr_4 h,.inl rfl⟩
 ·exact⟨91,_,pr_5 h,.inr (.inr (.inr (.inl rfl)))⟩
 ·exact⟨123,_,pr_6 h,.inr (.inr (.inr (.inr rfl)))⟩
theorem va_hd{d i:Nat}{s:ByteArray}{x:J}{r:List UInt8}(h:Vd d x)(ha:At s i (pr x) r):i<s.size∧hF s i=bat s i∧(bat s i=34∨bat s i=45∨(48≤bat s i∧bat s i≤57)∨bat s i=91∨bat s i=123):=by
 obtain⟨c,t,e,q⟩:=pr_hd h;rw[e]at ha;refine⟨ha.b0.1,hF_in ha.b0.1,?_⟩;rw[ha.b0.2];unfold PH at q;omega
section
variable{o:Bool}{ks:List ByteArray}{l:List J}{s:ByteArray}{i k:Nat}{c:UInt8}{r:List UInt8}
theorem part_at(ha:At s i (bdB o ks (l.map pr) l.length++[c]) r)(hk:k<l.length)(hc:c=93∨c=125):∃r2,At s (i+(bdB o ks (l.map pr) k).length) (hdB o ks k++pr l[k]!) r2∧Nd r2∧(k+1<l.length→∃t,r2=44::t)∧(k+1=l.length→∃t,r2=c::t):=by
 obtain⟨t,e,h1,h2⟩:=bd_split (o:=o) (ks:=ks) (l:=l.map pr) hk;rw[e,map_b pr hk,List.append_assoc,List.append_assoc]at ha;have h3:=ha.skip.cut;refine⟨_,h3,?_,fun q=> ?_,fun q=> ?_⟩
 ·rcases Nat.lt_or_eq_of_le (show k+1≤l.length from hk)with q|q
  ·obtain⟨t',rfl⟩:=h1 q;intro c t e;injection e with e _
   subst e;left;decide
  ·rw[h2 q];intro c' t e;injection e with e _
   subst e;rcases hc with rfl|rfl<;>right<;>decide
 ·obtain⟨t',rfl⟩:=h1 q;exact⟨_,rfl⟩
 ·rw[h2 q];exact⟨_,rfl⟩
theorem nx_b{p:Nat}{r2:List UInt8}{n:Nat}(h:At s p [] r2)(h1:k<n→∃t,r2=44::t)(h2:k=n→∃t,r2=c::t)(hk:k≤n)(hc:c=93∨c=125):p<s.size∧((decide (k<n)=true∧bat s p=44)∨(decide (k<n)=false∧bat s p=((c.toNat:Nat):Int)∧((c.toNat:Nat):Int)≠44)):=by
 rcases Nat.lt_or_eq_of_le hk with q|q
 ·obtain⟨t,rfl⟩:=h1 q;have h3:At s p (44::t) []:=by unfold At at *;simpa using h
  exact⟨h3.b0.1,.inl ⟨decide_eq_true q,h3.b0.2⟩⟩
 ·obtain⟨t,rfl⟩:=h2 q;have h3:At s p (c::t) []:=by unfold At at *;simpa using h
  exact⟨h3.b0.1,.inr ⟨decide_eq_false Om,h3.b0.2,by rcases hc with rfl|rfl<;>decide⟩⟩
theorem hdB_len(h:0<k):(hdB false ks k).length=1:=by rw[hd_as h];rfl
theorem bd_end(ha:At s i (bdB o ks (l.map pr) l.length++[c]) r)(h0:l.length=0):i<s.size∧hF s i=((c.toNat:Nat):Int):=by
 rw[h0]at ha;have h3:At s i (c::[]) r:=ha;exact⟨h3.b0.1,(hF_in h3.b0.1).trans h3.b0.2⟩
theorem bd_first{d:Nat}(ha:At s i (bdB o ks (l.map pr) l.length++[c]) r)(hv:∀y∈l,Vd d y)(hc:c=93∨c=125):i<s.size∧hF s i=bat s i∧33≤bat s i∧(0<l.length→bat s i≠((c.toNat:Nat):Int)):=by
 rcases Nat.eq_zero_or_pos l.length with q|q
 ·have h:=bd_end ha q;have e:=hF_in h.1;refine⟨h.1,e,?_,Om⟩;rw[←e,h.2];rcases hc with rfl|rfl<;>decide
 ·obtain⟨r2,a2,_⟩:=part_at ha q hc;rw[show i+(bdB o ks (l.map pr) 0).length=i from rfl]at a2;cases o with
  |true=>
   have h3:At s i ((34:UInt8)::(ks[0]!.data.toList++([34,58]:List UInt8)++pr l[0]!)) r2:=a2;have h4:=h3.b0;refine⟨h4.1,hF_in h4.1,by rw[h4.2];decide,fun _=> ?_⟩;rw[h4.2];rcases hc with rfl|rfl<;>decide
  |false=>
   have h3:At s i (pr l[0]!) r2:=a2;have h4:=va_hd (hv _ (bang_mem q)) h3;refine⟨h4.1,h4.2.1,by have:=h4.2.2;omega,fun _=> ?_⟩;have:=h4.2.2;rcases hc with rfl|rfl
   ·show bat s i≠93;omega
   ·show bat s i≠125;omega
theorem bd_cnt{d:Nat}(hv:∀y∈l,Vd d y):∀{n:Nat},n≤l.length→n≤(bdB o ks (l.map pr) n).length
 |0,_=>Nat.zero_le _
 |n+1,h=>by
  have:=bd_cnt hv (n:=n) Om;obtain⟨c,t,e,_⟩:=pr_hd (hv _ (bang_mem (show n<l.length from h)));rw[bd_step h,List.length_append,List.length_append,e,List.length_cons];omega
theorem bd_max{d:Nat}(ha:At s i (bdB o ks (l.map pr) l.length++[c]) r)(hv:∀y∈l,Vd d y):l.length≤s.size:=by
 have h1:=bd_cnt (o:=o) (ks:=ks) hv (Nat.le_refl l.length);rcases ha.len with e|⟨e,_⟩
 ·rw[List.length_append]at e;omega
 ·simp at e
end
theorem ob_at{s:ByteArray}{ks:List ByteArray}{p k:Nat}{y r2:List UInt8}(a2:At s p (hdB true ks k++y) r2):At s (p+(if k=0 then 0 else 1)) (34::ks[k]!.data.toList++[34]) (58::(y++r2))∧At s (p+(if k=0 then 0 else 1)+(ks[k]!.size+2)) [58] (y++r2)∧At s (p+(if k=0 then 0 else 1)+(ks[k]!.size+2)+1) y r2∧(hdB true ks k).length=(if k=0 then 0 else 1)+(ks[k]!.size+2)+1:=by
 have e:hdB true ks k=(if k=0 then[]else[44])++((34::ks[k]!.data.toList++[34])++[58]):=by unfold hdB;simp
 have el:((if k=0 then[]else[44]):List UInt8).length=if k=0 then 0 else 1:=by split<;>rfl
 have ql:(34::ks[k]!.data.toList++[34]:List UInt8).length=ks[k]!.size+2:=by rw[List.length_append,List.length_cons,toL_len];rfl
 rw[e,List.append_assoc,List.append_assoc]at a2;have h1:=a2.skip;rw[el]at h1;have h2:=h1.skip;rw[ql]at h2;refine⟨h1.cut,h2.cut,h2.skip,?_⟩;rw[e,List.length_append,List.length_append,el,ql];rfl
theorem va_num{s:ByteArray}{i:Nat}{n:Int}{r:List UInt8}(h:At s i (Lib.itoa n) r):hF s i=45∨(48≤hF s i∧hF s i≤57):=by
 obtain⟨c,t,e,q⟩:=num_hd n;rw[e]at h;rw[hF_in h.b0.1,h.b0.2];omega
theorem hF_c{s:ByteArray}{i:Nat}{c:UInt8}{l r:List UInt8}(h:At s i (c::l) r):hF s i=((c.toNat:Nat):Int):=(hF_in h.b0.1).trans h.b0.2
end TW
end Go.Proofs.YtaclfjjipnpboaaGreatDoor
namespace Go.Eng
open Go Go.RowKit
def yc(b:UInt8):List Value:=[.int .u8 b.toNat]
theorem yc_one(x:UInt8):∀u∈yc x,u.oneCell'=true:=by simp[yc,Value.oneCell']
theorem yc_flat:∀(l:List UInt8),l.flatMap yc=Lib.byteCells l
 |[]=>rfl
 |x::r=>by rw[List.flatMap_cons,yc_flat r];rfl
section
variable{P:Program}{n:Nat}{ops:Array Oper}{Q:Exit→Act→World→Prop}{E:Env}{W w:World}{L:List Res}{o:Oper}{rest:List Oper}{d:Nat}{C:World→Prop}
theorem own_str{t u ty e:TypeId}{v:Value}{l:List UInt8}{s:ByteArray}(hU:P.underlying t=some (.slice e))(hS:P.underlying u=some .string)(hT:TI P e (.int .u8 0) 1 1)(ow:OwnL w 0 e yc 1 v l)(hl:l≠[])(hm:l.length+s.size≤1000000):
  ∃v' w',(Builtin.append_ #[t,u] ty #[v,.string s]).run P w= .ok v' w'∧OwnL w' 0 e yc 1 v' (l++s.data.toList)∧Gr w w' v.ownBlock∧(v'.ownBlock=v.ownBlock∨v'.ownBlock=some w.heap.size):=by
 obtain⟨i,hi,i1,i2,i3⟩:=hT;obtain⟨v',w',hr,h2,h3,_⟩:=Lib.run_append_own_string (P:=P) w 0 t u ty e i hU hS hi i1 i2 i3 v l.length (l.flatMap yc) ow s (by unfold maxLen;omega) Om (Nat.zero_le _);refine⟨v',w',hr,?_,⟨h3,Dle.of (run_drawn P _ _ _ _ hr)⟩,?_⟩
 ·unfold OwnL;rw[List.length_append,List.flatMap_append,yc_flat s.data.toList,←Lib.strCells_eq];exact h2
 ·rcases ow.2 with⟨rfl,h0⟩|⟨g,cap,cur,rfl,h1,g1,g2,g3,g4,g5⟩
  ·exact absurd (List.eq_nil_of_length_eq_zero h0) hl
  have hc:cur.size=cap:=by simpa using g4
  by_cases hq:l.length+s.size≤cap
  ·have:=Lib.run_append_room_string (P:=P) w t u ty e i hU hS hi i2 g l.length cap cur g1 s hq Om;rw[hr]at this;injection this with a b;subst a;exact .inl rfl
  ·have:=Lib.run_append_grow_string (P:=P) w t u ty e i (.int .u8 0) hU hS hi i1 ⟨g,0,none⟩ l.length cap (l.flatMap yc) (by rw[i2];exact ow.1) (World.ownsRow.cells (g:=g) ow rfl) s Om Om (by rw[i3];exact growslice_fits Om Om);rw[hr]at this;injection this with a b;subst a;exact .inr rfl
theorem aps{e t u:TypeId}{v:Value}{l:List UInt8}{c:Call}{s:ByteArray}{L':Value→List Res}(H:Hp W w L)(k:Nat)(hk:L[k]? =some (row e yc 1 v l))(hU:P.underlying t=some (.slice e))(hS:P.underlying u=some .string)(hT:TI P e (.int .u8 0) 1 1)(hl:l≠[])(hm:l.length+s.size≤1000000)
  (h:∀v' w',Hp W w' (L' v')→WL P n ops Q rest ((d,v')::E) w')
  (hd:o.dst=some d:=by exact rfl) (hn:d<n:=by exact blt rfl) (hg:o.guard=none:=by exact rfl) (ho:o.op= .call c:=by exact rfl) (hc:c.callee= .builtin .append:=by exact rfl) (ht:c.argTypes= #[t,u]:=by exact rfl) (ha:evs E c.args.toList=some [v,.string s]:=by exact rfl)
  (p:∀v',Put (row e yc 1 v' (l++s.data.toList)) k (row e yc 1 v l) L (L' v'):=by intro v';repeat (first|exact Put.here|apply Put.there)):WL P n ops Q (o::rest) E w:=by
 intro a hA;obtain⟨cb,hcb⟩:=run_builtin (P:=P) (w:=w) hA ho hc ha;obtain⟨v',w',hr,h2,h3,h4⟩:=own_str (ty:=o.type) hU hS hT (H.get hk) hl hm;refine wpList_plain hg fun K hK=>wp_of_run (w':=w') (v:=v') (hcb.trans ?_) (hK _ _ ?_)
 ·simp only[builtin,ht,Sem.run_bind,hr,Result.andThen_ok,Sem.run_pure]
 ·rw[hd];exact h v' w' (H.grown (p v') h3 h2 h4) _ (hA.put hn _)
theorem Blk.shape{g:Nat}{t:TypeId}{cs:List Value}(h:Blk w g t cs):w.shape? g=some (t,cs.length):=by
 unfold Blk at h;simp[World.shape?,h]
theorem cvU{src dst t T:TypeId}{x:Operand}{g sz by':Nat}{z:Value}{cs:List Value}(hb:Blk w g T cs)(hs:P.underlying src=some (.pointer t))(ht:P.underlying dst=some .unsafePointer)(hT:TI P t z sz by')
  (ho:o.op= .convert src dst x:=by exact rfl) (hx:ev E x=some (.pointer (some ⟨g,0,none⟩)):=by exact rfl) (hz:sz≠0:=by decide) (hc:0<cs.length:=by exact Nat.zero_lt_succ _):Yld P o n E (·=w) (.pointer (some ⟨g,0,none⟩)):=by
 rintro a _ hA rfl;obtain⟨i,hi,_,i2,_⟩:=hT;have:=Lib.run_to_unsafe (P:=P) _ ⟨g,0,none⟩ hs ht hi (by rw[i2];exact hz) hb.shape hc;simp only[execOp,ho,hA.ev hx,Sem.run_bind,this,Result.andThen_ok,Sem.run_pure]
theorem cvP{src dst t T:TypeId}{x:Operand}{g sz by':Nat}{z:Value}{cs:List Value}(hb:Blk w g T cs)(hs:P.underlying src=some .unsafePointer)(ht:P.underlying dst=some (.pointer t))(hT:TI P t z sz by')(hl:liesAt P P.depth T (cs.length/P.cellsOf T) 0 t 1=true)
  (ho:o.op= .convert src dst x:=by exact rfl) (hx:ev E x=some (.pointer (some ⟨g,0,none⟩)):=by exact rfl):Yld P o n E (·=w) (.pointer (some ⟨g,0,none⟩)):=by
 rintro a _ hA rfl;obtain⟨i,hi,_,_,_⟩:=hT;have:=Lib.run_from_unsafe (P:=P) _ ⟨g,0,none⟩ hs ht hi hb.shape hl;simp only[execOp,ho,hA.ev hx,Sem.run_bind,this,Result.andThen_ok,Sem.run_pure]
theorem nesc{c:Call}{f:FuncId}{fn:Func}{v:Value}(hf:P.funcs[f]? =some fn)(hn:(fn.name== "runtime.NumGoroutine")=false)(hb:fn.body.isNone=true)(hx:Extern.findNext fn=none)(he:Extern.find fn=some Extern.AbiNoEscape.same)
  (ho:o.op= .call c:=by exact rfl) (hc:c.callee= .value (.func f):=by exact rfl) (ha:evs E c.args.toList=some [v]:=by exact rfl):Yld P o n E C v:=by
 intro a w hA _;have:=run_callFunc_extern hf hn hb hx he #[v] w;have h1:c.args.map a.eval= #[v]:=by rw[←show[v].toArray= #[v]from rfl,←hA.evs ha,←List.map_toArray]
 simp[execOp,ho,resolve,hc,Act.eval,Deferred.ofValue,invoke,h1,this,Lib.run_noEscape]
theorem neqS{t e t':TypeId}{x y:Operand}{a:Addr}{z:Value}{sz by':Nat}(hU:P.underlying t=some (.pointer e))(hT:TI P e z sz by')(ho:o.op= .binOp .neq t x y t':=by exact rfl)(hx:ev E x=some (.pointer (some a)):=by exact rfl)(hy:ev E y=some (.pointer (some a)):=by exact rfl):Yld P o n E C (.bool false):=by
 intro b w hA _;obtain⟨i,hi,_⟩:=hT;have hb:=Lib.run_neq_ptr_same (P:=P) w a hU hi;have hg:(eqGuard .neq t x y (.pointer (some a)) (.pointer (some a))).run P w= .ok () w:=by simp[eqGuard]
 simp only[execOp,ho,hA.ev hx,hA.ev hy,Sem.run_bind,hg,hb,Result.andThen_ok,Sem.run_pure]
theorem usd{c:Call}{A:Addr}{k cap:Nat}(hcap:cap≠0)(ho:o.op= .call c:=by exact rfl)(hc:c.callee= .builtin .unsafeSliceData:=by exact rfl)(ha:evs E c.args.toList=some [.slice (some A) k cap]:=by exact rfl):Yld P o n E C (.pointer (some A)):=by
 intro a w hA _;obtain⟨cb,hcb⟩:=run_builtin (P:=P) (w:=w) hA ho hc ha;rw[hcb];simp only[builtin,Sem.run_bind,Lib.run_unsafeSliceData_row (P:=P) w _ _ A k cap hcap,Result.andThen_ok,Sem.run_pure]
theorem Only.freeze(w:World)(p:Addr)(k:Nat):Only p.block w (w.freeze p k):=by
 unfold World.freeze;split
 ·exact Only.refl _ w
 ·exact⟨rfl,rfl,rfl,by simp,fun j hj=>by
   simp only[Array.getElem?_modify];rw[if_neg fun e=>hj e.symm],Dle.of Nl⟩
theorem Hp.gone{w':World}{L':List Res}{R:Res}{k b:Nat}(H:Hp W w L)(t:Tk k L R L')(hf:R.foot b)(x:Only b w w'):Hp W w' L':=
 (Hp.turn (R':=⟨fun _=>False,fun _=>True,fun _ _ _ h=>h.elim,fun _ _ _ _=>trivial⟩) (H.perm t.perm) (Nat.le_of_eq x.size.symm) (fun j _ hj=>x.block j fun e=>hj (e▸hf)) (H.ext.only x (H.own R (t.perm.mem_iff.2 List.mem_cons_self) b hf)) trivial fun _ h=>h.elim).tail
theorem ust{t u e g m cap:Nat}{c:Call}{l:List UInt8}{L':List Res}(H:Hp W w L)(k:Nat)(hk:L[k]? =some (row e yc 1 (.slice (some ⟨g,0,none⟩) m cap) l))(hU:P.underlying t=some (.pointer e))(hc1:P.cellsOf e=1)(hl:l≠[])(h:∀w',Hp W w' L'→WL P n ops Q rest ((d,.string ⟨l.toArray⟩)::E) w')
  (hd:o.dst=some d:=by exact rfl) (hn:d<n:=by exact blt rfl) (hg:o.guard=none:=by exact rfl) (ho:o.op= .call c:=by exact rfl) (hc:c.callee= .builtin .unsafeString:=by exact rfl) (ht:c.argTypes= #[t,u]:=by exact rfl) (ha:evs E c.args.toList=some [.pointer (some ⟨g,0,none⟩),.int .i64 (m:Int)]:=by exact rfl)
  (p:Tk k L (row e yc 1 (.slice (some ⟨g,0,none⟩) m cap) l) L':=by repeat (first|exact Tk.here|apply Tk.there)):WL P n ops Q (o::rest) E w:=by
 intro a hA;obtain⟨cb,hcb⟩:=run_builtin (P:=P) (w:=w) hA ho hc ha;have ow:OwnL w 0 e yc 1 (.slice (some ⟨g,0,none⟩) m cap) l:=H.get hk;rcases ow.2 with⟨hs,_⟩|⟨g',cap',cur,hs,_,g1,g2,g3,g4,g5⟩
 ·cases hs
 injection hs with a1 a2 a3
 injection a1 with a1
 injection a1 with a1 _ _
 subst a1;subst a2;subst a3;have hr:=Lib.run_unsafeString_row (P:=P) w t u o.type e hU hc1 g cur.size (by simp[World.shape?,g1]) l hl (by rw[g4];omega) (by unfold maxLen at g3;omega) (fun j x hx=>World.ownsRow.cells (g:=g) ow rfl j _ (by rw[yc_flat];unfold Lib.byteCells;rw[List.getElem?_map,hx];rfl));refine wpList_plain hg fun K hK=>wp_of_run (w':=w.freeze ⟨g,0,none⟩ l.length) (v:=.string ⟨l.toArray⟩) (hcb.trans ?_) (hK _ _ ?_)
 ·simp only[builtin,ht,Sem.run_bind,hr,Result.andThen_ok,Sem.run_pure]
 ·rw[hd];exact h _ (H.gone p rfl (Only.freeze w ⟨g,0,none⟩ l.length)) _ (hA.put hn _)
end
end Go.Eng
namespace Go.Proofs.YtaclfjjipnpboaaGreatDoor
open Go Go.Eng Go.RowKit
namespace TW

structure Tm where(th sr at_ kd:Int)(nm:ByteArray)(n m:Int)(A:Option Addr)(k c_:Nat)(st:List ByteArray)(lo hi:Int)
instance:Inhabited Tm:=⟨⟨0,0,0,0,⟨#[]⟩,0,0,none,0,0,[],0,0⟩⟩
def Tm.c(x:Tm):List Value:=[.int .i64 x.th,.int .i64 x.sr,.int .i64 x.at_,.int .i64 x.kd,.string x.nm,.int .i64 x.n,.int .i64 x.m,.slice x.A x.k x.c_,.int .i64 x.lo,.int .i64 x.hi]
theorem Tm.one(x:Tm):∀u∈x.c,u.oneCell'=true:=by simp[Tm.c,Value.oneCell']
def clk(x:Int):Int:=max 0 (min x 1000000000000)
structure Ch where(t s cpu on by_:Int)
instance:Inhabited Ch:=⟨⟨0,0,0,0,0⟩⟩
def Ch.c(x:Ch):List Value:=[.int .i64 x.t,.int .i64 x.s,.int .i64 x.cpu,.int .i64 x.on,.int .i64 x.by_]
theorem Ch.one(x:Ch):∀u∈x.c,u.oneCell'=true:=by simp[Ch.c,Value.oneCell']
def popK(l:Int)(cs:List Ch):Nat→Nat
 |0=>0
 |1=>1
 |k+2=>if cs[k+1]!.t>l then popK l cs (k+1)else k+2
theorem popK_step{l:Int}{cs:List Ch}{j:Nat}(h:1<j)(ht:cs[j-1]!.t>l):popK l cs j=popK l cs (j-1):=by
 obtain⟨k,rfl⟩:∃k,j=k+2:=⟨j-2,Om⟩;show(if cs[k+1]!.t>l then popK l cs (k+1)else k+2)=popK l cs (k+1);grind
theorem popK_stop{l:Int}{cs:List Ch}{j:Nat}(h:j≤1∨¬cs[j-1]!.t>l):popK l cs j=j:=by
 match j,h with
 |0,_=>rfl
 |1,_=>rfl
 |k+2,h=>
  have h':¬cs[k+1]!.t>l:=by
   grind
  show(if cs[k+1]!.t>l then popK l cs (k+1)else k+2)=k+2;grind
def gapF(l:Int)(cs:List Ch):List Ch:=cs.take (popK l cs cs.length)++[⟨l,5,-1,-1,-1⟩]
theorem take_bangC{cs:List Ch}{i j:Nat}(h:i<j)(hj:j≤cs.length):(cs.take j)[i]! =cs[i]! :=by
 rw[List.getElem!_eq_getElem?_getD,List.getElem!_eq_getElem?_getD,List.getElem?_take_of_lt h]
def wakeF(a b:Int)(cs:List Ch):List Ch:=if cs[cs.length-1]!.s=1∨cs[cs.length-1]!.s=2 then cs++[⟨a,0,-1,-1,b⟩]else cs
def evK(e:Tm)(c:List Ch):List Ch:=
 if e.kd=8 then c++[⟨clk e.lo,4,e.n,-1,-1⟩]else if e.kd=9 then c++[⟨clk e.lo,e.n,-1,if e.n=2 then e.m else-1,-1⟩]else c
def evF(e:Tm)(n l:Int)(cs:List Ch):List Ch:=evK e (if e.sr=n then cs else gapF l cs)
theorem gapF_len(l:Int)(cs:List Ch):(gapF l cs).length≤cs.length+1:=by
 grind [gapF,List.length_append,List.length_take,Nat.min_le_right]
structure Sg where(th s f t cpu on by_:Int)
instance:Inhabited Sg:=⟨⟨0,0,0,0,0,0,0⟩⟩
def Sg.c(x:Sg):List Value:=[.int .i64 x.th,.int .i64 x.s,.int .i64 x.f,.int .i64 x.t,.int .i64 x.cpu,.int .i64 x.on,.int .i64 x.by_]
theorem Sg.one(x:Sg):∀u∈x.c,u.oneCell'=true:=by simp[Sg.c,Value.oneCell']
def sameF(a b:Sg):Bool:=(a.s==b.s&&a.cpu==b.cpu)&&a.on==b.on
def sgAt(th en:Int)(cs:List Ch)(i:Nat):Sg:=
 ⟨th,cs[i]!.s,cs[i]!.t,if i+1<cs.length then cs[i+1]!.t else en,cs[i]!.cpu,cs[i]!.on,if i+1<cs.length then cs[i+1]!.by_ else-1⟩
def sgPut(out:List Sg)(x:Sg):List Sg:=
 if x.t≤x.f then out
 else if(decide (0<out.length)&&sameF out[out.length-1]! x)=true then out.set (out.length-1) {out[out.length-1]! with t:=x.t,by_:=x.by_}
 else out++[x]
def stN(th en:Int)(cs:List Ch):Nat→List Sg
 |0=>[]
 |i+1=>sgPut (stN th en cs i) (sgAt th en cs i)
theorem sgPut_len(out:List Sg)(x:Sg):(sgPut out x).length≤out.length+1:=by
 unfold sgPut;grind
theorem stN_len(th en:Int)(cs:List Ch):∀i,(stN th en cs i).length≤i
 |0=>Nat.le_refl _
 |i+1=>Nat.le_trans (sgPut_len _ _) (Nat.succ_le_succ (stN_len th en cs i))
theorem stN_skip{th en:Int}{cs:List Ch}{i:Nat}{x:Sg}(hx:sgAt th en cs i=x)(h:x.t≤x.f):stN th en cs (i+1)=stN th en cs i:=by
 show sgPut _ _=_;rw[hx];exact if_pos h
theorem stN_join{th en:Int}{cs:List Ch}{i n:Nat}{x:Sg}(hx:sgAt th en cs i=x)(h:¬x.t≤x.f)(hn:(stN th en cs i).length=n)(hl:0<n)(hs:sameF (stN th en cs i)[n-1]! x=true):
  stN th en cs (i+1)=(stN th en cs i).set (n-1) {(stN th en cs i)[n-1]! with t:=x.t,by_:=x.by_}:=by
 subst hn;show sgPut _ _=_;rw[hx];exact(if_neg h).trans (if_pos (by grind))
theorem stN_new{th en:Int}{cs:List Ch}{i n:Nat}{x:Sg}(hx:sgAt th en cs i=x)(h:¬x.t≤x.f)(hn:(stN th en cs i).length=n)(hs:¬0<n∨sameF (stN th en cs i)[n-1]! x=false):
  stN th en cs (i+1)=stN th en cs i++[x]:=by
 subst hn;show sgPut _ _=_;rw[hx];refine(if_neg h).trans (if_neg ?_);grind
theorem set_bang{l:List Sg}{k:Nat}{x:Sg}(h:k<l.length):(l.set k x)[k]! =x:=by
 grind
def statesF(th en:Int)(cs:List Ch):List Sg:=stN th en cs cs.length
end TW
end Go.Proofs.YtaclfjjipnpboaaGreatDoor
section
attribute [local irreducible] Go.Eng.WC Go.Eng.WL Go.Eng.WK Go.Eng.WQ Go.Eng.WX Go.Eng.Yld
namespace Go.Proofs.YtaclfjjipnpboaaGreatDoor
open Go Go.Eng Go.RowKit
namespace TW
theorem becomes_any(g:Nat)(v:Value)(n l:Int)(cs:List Ch)(a s c o b:Int)(W:World)(R:List Res)(w:World)(H:Hp W w (box g 207 [v,.int .i64 n,.int .i64 l]::row 266 Ch.c 5 v cs::R))(hl:cs.length≤1000):
  Calls Tryz.prog 83 #[.pointer (some ⟨g,0,none⟩),.int .i64 a,.int .i64 s,.int .i64 c,.int .i64 o,.int .i64 b] w fun e w'=>∃v',e= .returned (resVal [])∧Hp W w' (box g 207 [v',.int .i64 n,.int .i64 l]::row 266 Ch.c 5 v' (cs++[⟨a,s,c,o,b⟩])::R):=by
 refine Wb Tryz.func83 ?_;refine go ?_;refine bs1 H u205 ti266 fun g4 z H=> ?_;refine ap H 2 0 rfl [⟨a,s,c,o,b⟩] u205 ti266 rfl Ch.one (by simp;omega) fun v6 z H=> ?_;obtain⟨A7,n8,c9,rfl,_,_,_⟩:=H.op 2;refine go ?_;refine st H 1 ti205 fun z H=> ?_;refine go ?_;refine En ?_;exact⟨_,rfl,(H.drop [0])⟩
theorem now_any(g:Nat)(A:Option Addr)(m k:Nat)(n l:Int)(cs:List Ch)(w:World)(mg:Blk w g 207 [.slice A m k,.int .i64 n,.int .i64 l])(hc:Ls w A m k Ch.c 5 cs)(hm:1≤m):
  Cr 134 #[.pointer (some ⟨g,0,none⟩)] w (.agg (Ch.c cs[m-1]!).toArray):=by
 have H:=(Hp.nil w);have zc:=hc.nle;refine Wb Tryz.func134 ?_;refine go ?_;refine al H ti266 fun g2 z H=> ?_;refine go ?_;refine WC.regionT 12 (by kernel_rfl) (by kernel_rfl) ?_;have b5:(m-1)<m:=Om;refine G10 ?_;refine yq (Y.indexLs (m-1) (hc.ext H.ext) rfl u205 ti266 rfl rfl Om b5) ?_;refine go ?_;refine WQ.tail (fun z x=> ?_);have H:=H.ex x;refine st H 0 ti266 fun z H=> ?_;refine go ?_;refine WK.ret [_] rfl ⟨⟨_,rfl,run_loadVar_blk u266 rfl ti266 (H.b 0)⟩,trivial⟩ ?_;exact⟨rfl,H.ext⟩
theorem gap_any(g:Nat)(v:Value)(n l:Int)(cs:List Ch)(W:World)(R:List Res)(w:World)(H:Hp W w (box g 207 [v,.int .i64 n,.int .i64 l]::row 266 Ch.c 5 v cs::R))(hl:cs.length≤999):
  Calls Tryz.prog 133 #[.pointer (some ⟨g,0,none⟩)] w fun e w'=>∃v',e= .returned (resVal [])∧Hp W w' (box g 207 [v',.int .i64 n,.int .i64 l]::row 266 Ch.c 5 v' (gapF l cs)::R):=by
 refine Wb Tryz.func133 ?_;refine go ?_;refine sb [0] ?_;refine WC.loopS 0 (fun mz Ed W'=>∃j:Nat,∃v:Value,mz=2*j∧Ed=[]∧Hp W W' (box g 207 [v,.int .i64 n,.int .i64 l]::row 266 Ch.c 5 v (cs.take j)::R)∧(j≤cs.length)∧(popK l cs j=popK l cs cs.length)) _ ⟨cs.length,_,rfl,rfl,(by rw[List.take_length];exact H),Nl,rfl⟩ ?_;rintro _ _ z ⟨j,v,rfl,rfl,H,jl,hp⟩;refine go ?_;refine Qr ?_;obtain⟨A7,n8,c9,rfl,_,_,_⟩:=H.op 1;refine G8 ?_;refine WQ.callG rfl (blt rfl) rfl rfl rfl rfl rfl Fh (fun hb=>(evs_cons (evg rfl hb) evs_nil)) (fun hb w hw=>calls_ext hw (now_any _ _ _ _ _ _ _ _ (Blk.ext (H.b 0) hw) (Ls.ext (H.l 1) hw) (by have q0:=(dec_t hb);omega))) ?_;refine qg (fun hb=>Y.field1 rfl u266 rfl u3 rfl (evg rfl hb) rfl) ?_;refine go ?_;refine Qd H fun z H=> ?_;refine go ?_;refine Cd (fun p10=> ?_) fun p10=> ?_
 ·refine go ?_;refine WC.regionT 14 (by kernel_rfl) (by kernel_rfl) ?_;have b11:(n8-1)≤n8:=Om;refine G11 ?_;refine yq (Y.sliceH (n8-1) rfl u205 ti266 rfl rfl Om Om) ?_;refine go ?_;refine WQ.tail (fun z x=> ?_);have H:=H.ex x;refine st H 0 ti205 fun z H=> ?_;have H:=H.cut 1 (n8-1) rfl Om;refine go ?_;refine WK.roundS _ [] ⟨rfl,trivial⟩ ?_ ⟨(n8-1),(.slice A7 (n8-1) c9),rfl,rfl,(by rw[show cs.take (n8-1)=(cs.take j).take (n8-1)from by rw[List.take_take,Nat.min_eq_left Om]];exact H),Om,(by rw[←hp,show n8-1=j-1 from Om];refine(popK_step Om ?_).symm;rw[←take_bangC (i:=j-1) Om jl,show j-1=n8-1 from Om];exact p10.2)⟩;omega
 ·refine G5 ?_;refine sb [0] ?_;refine go ?_;refine c3 Fh (becomes_any _ _ _ _ _ _ _ _ _ _ _ _ _ (H.front [0,0]) (by first|omega|(simp;omega)|(have:=gapF_len l cs;omega))) ?_;rintro _ z ⟨v12,rfl,H⟩;refine⟨_,rfl,?_⟩;refine go ?_;refine En ?_;have e:popK l cs cs.length=j:=by
    rw[←hp];refine popK_stop ?_;by_cases q:j≤1
    ·exact .inl q
    refine .inr ?_;rw[←take_bangC (i:=j-1) Om jl,show j-1=n8-1 from Om];rcases p10 with h|h
    ·omega
    ·exact h
  exact⟨_,rfl,by unfold gapF;rw[e];exact H⟩
theorem wake_any(g:Nat)(v:Value)(n l:Int)(cs:List Ch)(a b:Int)(W:World)(R:List Res)(w:World)(H:Hp W w (box g 207 [v,.int .i64 n,.int .i64 l]::row 266 Ch.c 5 v cs::R))(hl:cs.length≤1000)(h1:1≤cs.length):
  Calls Tryz.prog 86 #[.pointer (some ⟨g,0,none⟩),.int .i64 a,.int .i64 b] w fun e w'=>∃v',e= .returned (resVal [])∧Hp W w' (box g 207 [v',.int .i64 n,.int .i64 l]::row 266 Ch.c 5 v' (wakeF a b cs)::R):=by
 refine Wb Tryz.func86 ?_;obtain⟨A5,n6,c7,rfl,e_n6,_,_⟩:=H.op 1;refine go ?_;refine c1 H Fh (now_any _ _ _ _ _ _ _ _ (H.b 0) (H.l 1) Om) fun z H=> ?_;refine yy (Y.field1 rfl u266 rfl u3 rfl rfl rfl) ?_;refine go ?_;refine Cd (fun p9=> ?_) fun p9=> ?_
 ·refine go ?_;refine c3 Fh (becomes_any _ _ _ _ _ _ _ _ _ _ _ _ _ (H.front [0,0]) (by first|omega|(simp;omega)|(have:=gapF_len l cs;omega))) ?_;rintro _ z ⟨v10,rfl,H⟩;refine⟨_,rfl,?_⟩;refine go ?_;refine En ?_;have q:=p9;exact⟨_,rfl,by unfold wakeF;rw[if_pos (by rw[e_n6];exact q)];exact H⟩
 ·refine go ?_;refine En ?_;have q:=p9;exact⟨_,rfl,by unfold wakeF;rw[if_neg (by rw[e_n6];rintro(h|h);exact q.1 h;exact q.2 h)];exact H⟩
theorem sttime_any(x:Tm)(w:World):
  Cr 84 #[.agg #[.int .i64 x.th,.int .i64 x.sr,.int .i64 x.at_,.int .i64 x.kd,.string x.nm,.int .i64 x.n,.int .i64 x.m,.slice x.A x.k x.c_,.int .i64 x.lo,.int .i64 x.hi]] w (.int .i64 (clk x.lo)):=by
 have H:=(Hp.nil w);refine Wb Tryz.func84 ?_;refine go ?_;refine bx H fun g2 z H=> ?_;refine go ?_;refine Rt [_] ?_;exact⟨rfl,H.ext⟩
theorem stevent_any(g:Nat)(v:Value)(n l:Int)(cs:List Ch)(x:Tm)(W:World)(R:List Res)(w:World)(H:Hp W w (box g 207 [v,.int .i64 n,.int .i64 l]::row 266 Ch.c 5 v cs::R))(hl:cs.length≤998)(hs:0≤x.sr∧x.sr≤2000000000000000):
  Calls Tryz.prog 85 #[.pointer (some ⟨g,0,none⟩),.agg #[.int .i64 x.th,.int .i64 x.sr,.int .i64 x.at_,.int .i64 x.kd,.string x.nm,.int .i64 x.n,.int .i64 x.m,.slice x.A x.k x.c_,.int .i64 x.lo,.int .i64 x.hi]] w fun e w'=>∃v',e= .returned (resVal [])∧Hp W w' (box g 207 [v',.int .i64 (x.sr+1),.int .i64 (clk x.lo)]::row 266 Ch.c 5 v' (evF x n l cs)::R):=by
 refine Wb Tryz.func85 ?_;refine go ?_;refine bx H fun g5 z H=> ?_;refine G1 ?_;refine sb [0,3] ?_;refine go ?_;refine c1 H Fh (sttime_any _ _) fun z H=> ?_;refine go ?_;refine Qr ?_;refine go ?_;refine Qd H fun z H=> ?_;refine go ?_;refine Cd (fun p10=> ?_) fun p10=> ?_
 ·refine go ?_;refine c3 Fh (gap_any _ _ _ _ _ _ _ _ (H.front [1,1]) Om) ?_;rintro _ z ⟨v11,rfl,H⟩;refine⟨_,rfl,?_⟩;refine go ?_;refine st H 0 ti3 fun z H=> ?_;refine go ?_;refine st H 0 ti3 fun z H=> ?_;refine G11 ?_;refine sb [0,3,4,31,32] ?_;refine Cd (fun p15=> ?_) fun p15=> ?_
  ·refine go ?_;refine c3 Fh (becomes_any _ _ _ _ _ _ _ _ _ _ _ _ _ (H.front [0,0]) (by first|omega|(simp;omega)|(have:=gapF_len l cs;omega))) ?_;rintro _ z ⟨v16,rfl,H⟩;refine⟨_,rfl,?_⟩;refine go ?_;refine En ?_;exact⟨_,rfl,by unfold evF evK;rw[if_neg p10,if_pos p15];exact(H.drop [2])⟩
  ·refine go ?_;refine Cd (fun p18=> ?_) fun p18=> ?_
   ·refine go ?_;refine Cd (fun p22=> ?_) fun p22=> ?_
    ·refine go ?_;refine c3 Fh (becomes_any _ _ _ _ _ _ _ _ _ _ _ _ _ (H.front [0,0]) (by first|omega|(simp;omega)|(have:=gapF_len l cs;omega))) ?_;rintro _ z ⟨v23,rfl,H⟩;refine⟨_,rfl,?_⟩;refine go ?_;refine En ?_;exact⟨_,rfl,by unfold evF evK;rw[if_neg p10,if_neg p15,if_pos p18,if_pos p22];exact(H.drop [2])⟩
    ·refine G2 ?_;refine sb [0,3,4,5] ?_;refine go ?_;refine c3 Fh (becomes_any _ _ _ _ _ _ _ _ _ _ _ _ _ (H.front [0,0]) (by first|omega|(simp;omega)|(have:=gapF_len l cs;omega))) ?_;rintro _ z ⟨v24,rfl,H⟩;refine⟨_,rfl,?_⟩;refine go ?_;refine En ?_;exact⟨_,rfl,by unfold evF evK;rw[if_neg p10,if_neg p15,if_pos p18,if_neg p22];exact(H.drop [2])⟩
   ·refine go ?_;refine En ?_;exact⟨_,rfl,by unfold evF evK;rw[if_neg p10,if_neg p15,if_neg p18];exact(H.drop [2])⟩
 ·refine go ?_;refine st H 1 ti3 fun z H=> ?_;refine go ?_;refine st H 1 ti3 fun z H=> ?_;refine go ?_;refine Cd (fun p28=> ?_) fun p28=> ?_
  ·refine go ?_;refine c3 Fh (becomes_any _ _ _ _ _ _ _ _ _ _ _ _ _ (H.front [1,1]) (by first|omega|(simp;omega)|(have:=gapF_len l cs;omega))) ?_;rintro _ z ⟨v29,rfl,H⟩;refine⟨_,rfl,?_⟩;refine go ?_;refine En ?_;exact⟨_,rfl,by unfold evF evK;rw[if_pos p10,if_pos p28];exact(H.drop [2])⟩
  ·refine G4 ?_;refine sb [0,3,4,40] ?_;refine Cd (fun p31=> ?_) fun p31=> ?_
   ·refine go ?_;refine Cd (fun p35=> ?_) fun p35=> ?_
    ·refine go ?_;refine c3 Fh (becomes_any _ _ _ _ _ _ _ _ _ _ _ _ _ (H.front [1,1]) (by first|omega|(simp;omega)|(have:=gapF_len l cs;omega))) ?_;rintro _ z ⟨v36,rfl,H⟩;refine⟨_,rfl,?_⟩;refine go ?_;refine En ?_;exact⟨_,rfl,by unfold evF evK;rw[if_pos p10,if_neg p28,if_pos p31,if_pos p35];exact(H.drop [2])⟩
    ·refine go ?_;refine c3 Fh (becomes_any _ _ _ _ _ _ _ _ _ _ _ _ _ (H.front [1,1]) (by first|omega|(simp;omega)|(have:=gapF_len l cs;omega))) ?_;rintro _ z ⟨v37,rfl,H⟩;refine⟨_,rfl,?_⟩;refine go ?_;refine En ?_;exact⟨_,rfl,by unfold evF evK;rw[if_pos p10,if_neg p28,if_pos p31,if_neg p35];exact(H.drop [2])⟩
   ·refine go ?_;refine En ?_;exact⟨_,rfl,by unfold evF evK;rw[if_pos p10,if_neg p28,if_neg p31];exact(H.drop [0])⟩
theorem stsame_any(a:Sg)(b:Sg)(w:World):
  Cr 135 #[.agg #[.int .i64 a.th,.int .i64 a.s,.int .i64 a.f,.int .i64 a.t,.int .i64 a.cpu,.int .i64 a.on,.int .i64 a.by_],.agg #[.int .i64 b.th,.int .i64 b.s,.int .i64 b.f,.int .i64 b.t,.int .i64 b.cpu,.int .i64 b.on,.int .i64 b.by_]] w (.bool (sameF a b)):=by
 have H:=(Hp.nil w);refine Wb Tryz.func135 ?_;refine go ?_;refine bx H fun g2 z H=> ?_;refine bx H fun g4 z H=> ?_;refine G24 ?_;refine sb [4] ?_;refine go ?_;refine Rt [_] ?_;exact⟨rfl,H.ext⟩
theorem states_any(g:Nat)(A:Option Addr)(m k:Nat)(n l:Int)(th:Int)(en:Int)(cs:List Ch)(w:World)(mg:Blk w g 207 [.slice A m k,.int .i64 n,.int .i64 l])(hc:Ls w A m k Ch.c 5 cs)(hm:m≤1000):
  Calls Tryz.prog 87 #[.pointer (some ⟨g,0,none⟩),.int .i64 th,.int .i64 en] w fun e w'=>∃v,e= .returned v∧OwnL w' w.heap.size 119 Sg.c 7 v (statesF th en cs)∧Ext w w':=by
 have H:=(Hp.nil w);have ec:=hc.len;have zc:=hc.nle;refine Wb Tryz.func87 ?_;have H:=H.nilRow 119 Sg.c 7;refine go ?_;refine sb [19,7,0,1,2,17,18] ?_;refine WC.loopS 2 (fun mz Ed W'=>∃i:Nat,∃v:Value,mz=m-i∧Ed=[(19,.int .i64 ((i:Nat):Int)),(7,v)]∧Hp w W' (row 119 Sg.c 7 v (stN th en cs i)::[])∧(i≤m)) _ ⟨0,_,rfl,rfl,(H.pick [0]),(Nat.zero_le _)⟩ ?_;rintro _ _ z ⟨i,v,rfl,rfl,H,il⟩;have sl:=stN_len th en cs i;refine go ?_;refine WC.cond rfl (fun h8=> ?_) (fun h8=> ?_)
 ·have p8:=(dec_t h8);have b11:i<m:=Om;refine go ?_;refine al H ti266 fun g12 z H=> ?_;refine go ?_;refine st H 0 ti266 fun z H=> ?_;refine go ?_;refine Cd (fun p17=> ?_) fun p17=> ?_
  ·refine Qr ?_;have b18:(i+1)<m:=Om;refine G6 ?_;refine yq (Y.indexLs (i+1) (hc.ext H.ext) rfl u205 ti266 rfl rfl rfl b18) ?_;have b19:(i+1)<m:=Om;refine G8 ?_;refine yq (Y.indexLs (i+1) (hc.ext H.ext) rfl u205 ti266 rfl rfl rfl b19) ?_;refine go ?_;refine Qd H fun z H=> ?_;refine G1 ?_;refine sb [0,1,2,7,9,10,11,17,18,19] ?_;refine go ?_;refine al H ti119 fun g21 z H=> ?_;refine st H 0 ti119 fun z H=> ?_;refine go ?_;refine Cd (fun p25=> ?_) fun p25=> ?_
   ·refine go ?_;exact Rs [(19,_),(7,_)] Sx ⟨(i+1),v,rfl,rfl,(by rw[stN_skip (show sgAt th en cs i=(⟨th,cs[i]!.s,cs[i]!.t,cs[i+1]!.t,cs[i]!.cpu,cs[i]!.on,cs[i+1]!.by_⟩:Sg) by unfold sgAt;rw[ec,if_pos Om,if_pos Om]) p25];exact(H.pick [2])),Om⟩
   ·obtain⟨A28,n29,c30,rfl,e_n29,_,_⟩:=H.op 2;refine G9 ?_;refine sb [0,1,2,7,12,13,17,18,19] ?_;refine go ?_;refine Qr ?_;refine G5 ?_;refine qg (fun hb=>Y.indexLs (n29-1) (H.l 2) rfl u41 ti119 (evg rfl hb) (evg rfl hb) (by have q0:=(dec_t hb);omega) (by have q0:=(dec_t hb);omega)) ?_;refine G2 ?_;refine WQ.callG rfl (blt rfl) rfl rfl rfl rfl rfl Fh (fun hb=>(evs_cons (evg rfl hb) (evs_cons (evg rfl hb) evs_nil))) (fun hb w hw=>calls_ext hw (stsame_any _ (⟨th,cs[i]!.s,cs[i]!.t,cs[i+1]!.t,cs[i]!.cpu,cs[i]!.on,cs[i+1]!.by_⟩:Sg) _)) ?_;refine go ?_;refine Qd H fun z H=> ?_;refine go ?_;refine WC.cond rfl (fun h32=> ?_) (fun h32=> ?_)
    ·have p32:=(dec_t (and_t h32).1);refine go ?_;refine Xr H (HpC w _) (.load 0 (.load 1 (.load 2 (.load 3 (.load 4 (.load 5 (.load 6 (.load 7 (.load 8 (.load 9 (.load 10 (.load 11 (.alt 12 (.load 13 (.load 14 (.alt 15 (.fin) (.none)))) (.none)))))))))))))) (H.pick [0,0]) fun z H=> ?_;have b34:(n29-1)<n29:=Om;refine G9 ?_;refine yx rfl (Y.indexLs (n29-1) (H.l 2) rfl u41 ti119 rfl rfl Om b34) ?_;refine go ?_;refine steX (H.pick [0,0]) H 2 rfl {(stN th en cs i)[n29-1]! with t:=cs[i+1]!.t} b34 ti3 rfl fun z H=> ?_;have b35:(n29-1)<n29:=Om;refine yx rfl (Y.indexLs (n29-1) (H.l 2) rfl u41 ti119 rfl rfl Om b35) ?_;refine go ?_;refine steX (H.pick [0,0]) H 2 rfl {(stN th en cs i)[n29-1]! with t:=cs[i+1]!.t,by_:=cs[i+1]!.by_} b35 ti3 (set_bang Om) fun z H=> ?_;refine WX.nil (H.pick [0,0]) ?_;have q:=and_t h32;have q1:=dec_t q.1;have q2:=(H.pick [2]);rw[List.set_set]at q2;refine go ?_;exact Rs [(19,_),(7,_)] Sx ⟨(i+1),(.slice A28 n29 c30),rfl,rfl,(by rw[stN_join (show sgAt th en cs i=(⟨th,cs[i]!.s,cs[i]!.t,cs[i+1]!.t,cs[i]!.cpu,cs[i]!.on,cs[i+1]!.by_⟩:Sg) by unfold sgAt;rw[ec,if_pos Om,if_pos Om]) p25 e_n29 Om q.2];exact q2),Om⟩
    ·have p32:=((and_f h32).imp (fun h=>(dec_f h)) (fun h=>h));refine go ?_;refine bs1 H u41 ti119 fun g36 z H=> ?_;refine ap H 3 0 rfl [(⟨th,cs[i]!.s,cs[i]!.t,cs[i+1]!.t,cs[i]!.cpu,cs[i]!.on,cs[i+1]!.by_⟩:Sg)] u41 ti119 rfl Sg.one (by simp;omega) fun v38 z H=> ?_;refine G4 ?_;refine sb [0,1,2,7,17,18,19] ?_;refine go ?_;exact Rs [(19,_),(7,_)] Sx ⟨(i+1),v38,rfl,rfl,(by rw[stN_new (show sgAt th en cs i=(⟨th,cs[i]!.s,cs[i]!.t,cs[i+1]!.t,cs[i]!.cpu,cs[i]!.on,cs[i+1]!.by_⟩:Sg) by unfold sgAt;rw[ec,if_pos Om,if_pos Om]) p25 e_n29 ((and_f h32).imp (fun h=>by have:=dec_f h;omega) id)];exact(H.pick [3])),Om⟩
  ·refine go ?_;refine al H ti119 fun g40 z H=> ?_;refine st H 0 ti119 fun z H=> ?_;refine go ?_;refine Cd (fun p44=> ?_) fun p44=> ?_
   ·refine go ?_;exact Rs [(19,_),(7,_)] Sx ⟨(i+1),v,rfl,rfl,(by rw[stN_skip (show sgAt th en cs i=(⟨th,cs[i]!.s,cs[i]!.t,en,cs[i]!.cpu,cs[i]!.on,-1⟩:Sg) by unfold sgAt;rw[ec,if_neg Om,if_neg Om]) p44];exact(H.pick [2])),Om⟩
   ·obtain⟨A47,n48,c49,rfl,e_n48,_,_⟩:=H.op 2;refine G9 ?_;refine sb [0,1,2,7,12,13,17,18,19] ?_;refine go ?_;refine Qr ?_;refine G5 ?_;refine qg (fun hb=>Y.indexLs (n48-1) (H.l 2) rfl u41 ti119 (evg rfl hb) (evg rfl hb) (by have q0:=(dec_t hb);omega) (by have q0:=(dec_t hb);omega)) ?_;refine G2 ?_;refine WQ.callG rfl (blt rfl) rfl rfl rfl rfl rfl Fh (fun hb=>(evs_cons (evg rfl hb) (evs_cons (evg rfl hb) evs_nil))) (fun hb w hw=>calls_ext hw (stsame_any _ (⟨th,cs[i]!.s,cs[i]!.t,en,cs[i]!.cpu,cs[i]!.on,-1⟩:Sg) _)) ?_;refine go ?_;refine Qd H fun z H=> ?_;refine go ?_;refine WC.cond rfl (fun h51=> ?_) (fun h51=> ?_)
    ·have p51:=(dec_t (and_t h51).1);refine go ?_;refine Xr H (HpC w _) (.load 0 (.load 1 (.load 2 (.load 3 (.load 4 (.load 5 (.load 6 (.load 7 (.load 8 (.load 9 (.load 10 (.load 11 (.alt 12 (.load 13 (.load 14 (.alt 15 (.fin) (.none)))) (.none)))))))))))))) (H.pick [0,0]) fun z H=> ?_;have b53:(n48-1)<n48:=Om;refine G9 ?_;refine yx rfl (Y.indexLs (n48-1) (H.l 2) rfl u41 ti119 rfl rfl Om b53) ?_;refine go ?_;refine steX (H.pick [0,0]) H 2 rfl {(stN th en cs i)[n48-1]! with t:=en} b53 ti3 rfl fun z H=> ?_;have b54:(n48-1)<n48:=Om;refine yx rfl (Y.indexLs (n48-1) (H.l 2) rfl u41 ti119 rfl rfl Om b54) ?_;refine go ?_;refine steX (H.pick [0,0]) H 2 rfl {(stN th en cs i)[n48-1]! with t:=en,by_:= -1} b54 ti3 (set_bang Om) fun z H=> ?_;refine WX.nil (H.pick [0,0]) ?_;have q:=and_t h51;have q1:=dec_t q.1;have q2:=(H.pick [2]);rw[List.set_set]at q2;refine go ?_;exact Rs [(19,_),(7,_)] Sx ⟨(i+1),(.slice A47 n48 c49),rfl,rfl,(by rw[stN_join (show sgAt th en cs i=(⟨th,cs[i]!.s,cs[i]!.t,en,cs[i]!.cpu,cs[i]!.on,-1⟩:Sg) by unfold sgAt;rw[ec,if_neg Om,if_neg Om]) p44 e_n48 Om q.2];exact q2),Om⟩
    ·have p51:=((and_f h51).imp (fun h=>(dec_f h)) (fun h=>h));refine go ?_;refine bs1 H u41 ti119 fun g55 z H=> ?_;refine ap H 3 0 rfl [(⟨th,cs[i]!.s,cs[i]!.t,en,cs[i]!.cpu,cs[i]!.on,-1⟩:Sg)] u41 ti119 rfl Sg.one (by simp;omega) fun v57 z H=> ?_;refine G4 ?_;refine sb [0,1,2,7,17,18,19] ?_;refine go ?_;exact Rs [(19,_),(7,_)] Sx ⟨(i+1),v57,rfl,rfl,(by rw[stN_new (show sgAt th en cs i=(⟨th,cs[i]!.s,cs[i]!.t,en,cs[i]!.cpu,cs[i]!.on,-1⟩:Sg) by unfold sgAt;rw[ec,if_neg Om,if_neg Om]) p44 e_n48 ((and_f h51).imp (fun h=>by have:=dec_f h;omega) id)];exact(H.pick [3])),Om⟩
 ·have p8:=(dec_f h8);refine go ?_;refine Rt [_] ?_;have q:=dec_f h8;exact⟨_,rfl,(by rw[show statesF th en cs=stN th en cs i from by unfold statesF;rw[ec];congr 1;omega];exact H.out 0),H.ext⟩
end TW
end Go.Proofs.YtaclfjjipnpboaaGreatDoor
end
