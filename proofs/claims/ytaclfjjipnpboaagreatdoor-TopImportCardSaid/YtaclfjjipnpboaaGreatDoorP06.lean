/- Part 6 of the proof. Conditions: what each theorem states. -/
import Derived.Test.YtaclfjjipnpboaaGreatDoorP01
import Derived.Test.YtaclfjjipnpboaaGreatDoorP05
import Derived.Test.YtaclfjjipnpboaaGreatDoorP04
import Derived.Test.YtaclfjjipnpboaaGreatDoorP03
set_option linter.all false
set_option maxHeartbeats 4000000
set_option maxRecDepth 4000
namespace Go.Proofs.YtaclfjjipnpboaaGreatDoor
open Go Go.Eng Go.RowKit
namespace TW
structure Td where(n l:Int)(cs:List Ch)
instance:Inhabited Td:=⟨⟨0,0,[]⟩⟩
structure Tk where(g:Nat)(v:Value)(id:Int)(d:Td)
instance:Inhabited Tk:=⟨⟨0,.nilIface,0,default⟩⟩
def evT(e:Tm)(t:Td):Td:=⟨e.sr+1,clk e.lo,evF e t.n t.l t.cs⟩
def wkT(e:Tm)(t:Td):Td:={t with cs:=wakeF (clk e.lo) e.th t.cs}
def atI(ids:List Int)(x:Int)(f:Td→Td)(T:List Td):List Td:=if ids.idxOf x<ids.length then T.set (ids.idxOf x) (f T[ids.idxOf x]!)else T
def stStep(ids:List Int)(S:List Td×Int)(e:Tm):List Td×Int:=
 (if ids.idxOf e.n<ids.length then(if e.kd=10 then(atI ids e.th (evT e) S.1).set (ids.idxOf e.n) (wkT e (atI ids e.th (evT e) S.1)[ids.idxOf e.n]!)else atI ids e.th (evT e) S.1)else atI ids e.th (evT e) S.1,max S.2 (clk e.lo))
def tk0:Td:=⟨0,0,[⟨0,5,-1,-1,-1⟩]⟩
def stFold(ids:List Int)(o:List Tm)(en:Int)(j:Nat):List Td×Int:=fN (stStep ids) (ids.map fun _=>tk0,en) o j
def stRows(ids:List Int)(T:List Td)(en:Int)(j:Nat):List Sg:=fN (fun out id=>out++statesF id en T[ids.idxOf id]!.cs) [] ids j
def dsT(ths:List Th):Nat→List Int:=fN (fun out t=>if¬t.id∈out then out++[t.id]else out) [] ths
def dsF(ths:List Th):List Int:=dsT ths ths.length
theorem dsT_succ(ths:List Th)(j:Nat):dsT ths (j+1)=if¬ths[j]!.id∈dsT ths j then dsT ths j++[ths[j]!.id]else dsT ths j:=rfl
theorem dsT_nodup(ths:List Th):∀j,(dsT ths j).Nodup
 |0=>List.nodup_nil
 |j+1=>by
  rw[dsT_succ];split
  ·rename_i h;rw[List.nodup_append];exact⟨dsT_nodup ths j,by simp,fun a ha b hb e=>by grind⟩
  ·exact dsT_nodup ths j
theorem dsT_len(ths:List Th):∀j,(dsT ths j).length≤j
 |0=>Nat.le_refl _
 |j+1=>by
  have:=dsT_len ths j;grind [dsT_succ]
def stOf(ths:List Th)(o:List Tm)(en:Int):List Sg:=
 stRows (dsF ths) (stFold (dsF ths) o en o.length).1 (clk (stFold (dsF ths) o en o.length).2) (dsF ths).length
def tkF(t:Tk):Int×Nat:=(t.id,t.g)
theorem mget_tk(tm:List Tk)(x:Int):(mget (pkv (tm.map tkF)) x=none∧¬(tm.map Tk.id).idxOf x<tm.length)∨((tm.map Tk.id).idxOf x<tm.length∧mget (pkv (tm.map tkF)) x=some (.pointer (some ⟨tm[(tm.map Tk.id).idxOf x]!.g,0,none⟩))):=by
 have e:(tm.map tkF).map (·.1)=tm.map Tk.id:=by rw[List.map_map];rfl
 rcases mget_pkv (tm.map tkF) x with⟨h1,h2⟩|⟨h1,h2⟩
 ·grind
 ·rw[e,List.length_map]at h1;rw[e,map_b tkF h1]at h2;exact .inr ⟨h1,h2⟩
theorem tk_set{tm:List Tk}{i:Nat}{g:Nat}{v v':Value}{id:Int}{d d':Td}(hi:i<tm.length)(hx:tm[i]! =⟨g,v,id,d⟩):
  (tm.set i ⟨g,v',id,d'⟩).map tkF=tm.map tkF∧(tm.set i ⟨g,v',id,d'⟩).map Tk.id=tm.map Tk.id∧(tm.set i ⟨g,v',id,d'⟩).map Tk.d=(tm.map Tk.d).set i d'∧(tm.map Tk.d)[i]! =d:=by
 have h1:=map_b tkF hi;have h2:=map_b Tk.id hi;have h3:=map_b Tk.d hi;rw[hx]at h1 h2 h3;refine⟨?_,?_,?_,h3⟩
 ·rw[List.map_set];exact List.ext_getElem (by simp) fun k a b=>by
   rw[List.getElem_set];split
   ·subst k;rw[←bang_eq,h1];rfl
   ·rfl
 ·rw[List.map_set];exact List.ext_getElem (by simp) fun k a b=>by
   grind
 simp_all
def TkOk(T:List Td)(b:Nat):Prop:=∀t∈T,1≤t.cs.length∧t.cs.length≤b
theorem gapF_pos(l:Int)(cs:List Ch):1≤(gapF l cs).length:=by unfold gapF;simp
theorem evF_len(e:Tm)(n l:Int){cs:List Ch}(h:1≤cs.length):1≤(evF e n l cs).length∧(evF e n l cs).length≤cs.length+2:=by
 have q:=gapF_len l cs;have q':=gapF_pos l cs;have k:∀c:List Ch,c.length≤(evK e c).length∧(evK e c).length≤c.length+1:=by
  grind [evK]
 unfold evF;grind
theorem wakeF_len(a b:Int)(cs:List Ch):cs.length≤(wakeF a b cs).length∧(wakeF a b cs).length≤cs.length+1:=by
 grind [wakeF]
theorem mem_set_{α:Type}{l:List α}{i:Nat}{x y:α}(h:y∈l.set i x):y∈l∨y=x:=List.mem_or_eq_of_mem_set h
theorem TkOk.mono{T:List Td}{j k:Nat}(h:TkOk T j)(hk:j≤k):TkOk T k:=fun t ht=>⟨(h t ht).1,by have:=(h t ht).2;omega⟩
theorem TkOk.set{T:List Td}{j i:Nat}{d:Td}(h:TkOk T j)(h1:1≤d.cs.length)(h2:d.cs.length≤j):TkOk (T.set i d) j:=fun t ht=>(mem_set_ ht).elim (h t) fun e=>e▸⟨h1,h2⟩
theorem tk_len{tm:List Tk}{i b:Nat}{g:Nat}{v:Value}{id n l:Int}{cs:List Ch}(hb:TkOk (tm.map Tk.d) b)(hi:i<tm.length)(hx:tm[i]! =⟨g,v,id,n,l,cs⟩):1≤cs.length∧cs.length≤b:=by
 have h3:=map_b Tk.d hi;rw[hx]at h3;have hm:=mem_b (l:=tm.map Tk.d) (i:=i) (by grind);rw[h3]at hm;exact hb _ hm
theorem tk_turn{tm:List Tk}{i b b':Nat}{g:Nat}{v v':Value}{id n l:Int}{cs:List Ch}{d':Td}{ids:List Int}{S:List Td}(hi:i<tm.length)(hx:tm[i]! =⟨g,v,id,n,l,cs⟩)(hI:tm.map Tk.id=ids)(hd:tm.map Tk.d=S)(hb:TkOk (tm.map Tk.d) b)(f:Td→Td)(hf:f ⟨n,l,cs⟩=d')(h1:1≤d'.cs.length)(h2:d'.cs.length≤b')(hbb:b≤b'):
  ∃tn:List Tk,tn=tm.set i ⟨g,v',id,d'⟩∧tn.map tkF=tm.map tkF∧tn.map Tk.id=ids∧tn.map Tk.d=S.set i (f S[i]!)∧TkOk (tn.map Tk.d) b':=by
 obtain⟨e1,e2,e3,e4⟩:=tk_set (v':=v') (d':=d') hi hx;refine⟨_,rfl,e1,e2.trans hI,?_,?_⟩
 ·rw[e3,←hd,e4,hf]
 ·rw[e3];exact(hb.mono hbb).set h1 h2
theorem statesF_len(th en:Int)(cs:List Ch):(statesF th en cs).length≤cs.length:=stN_len th en cs cs.length
theorem stRows_len(ids:List Int){T:List Td}(en:Int){b:Nat}(h:TkOk T b):∀i,(stRows ids T en i).length≤b*i
 |0=>Nat.le_refl _
 |i+1=>by
  have h1:=stRows_len ids en h i;have h2:(statesF ids[i]! en T[ids.idxOf ids[i]!]!.cs).length≤b:=by
   refine Nat.le_trans (statesF_len _ _ _) ?_;by_cases q:ids.idxOf ids[i]! <T.length
   ·exact(h _ (mem_b q)).2
   ·rw[List.getElem!_eq_getElem?_getD,List.getElem?_eq_none Om];exact Nat.zero_le _
  show(stRows ids T en i++_).length≤_;grind
def ixD(d:List Dm)(id:Int):Int:=ixP (fun x=>x.id==id) d
def dm1(d:List Dm)(i:Nat):Int:=if((d[i]!.id<0∨d[i]!.id≥8)∨d[i]!.ppm<0)∨d[i]!.ppm>10000 then 2 else if ixD (d.take i) d[i]!.id≥0 then 4 else 0
def dmsE(d:List Dm):Int:=fE (dm1 d) d.length
def rdB(n:Int):Bool:=decide (n≥0)&&decide (n≤1000000000000)
def snE(d:List Dm)(x:Sn):Int:=
 if ixD d x.a<0 then 5 else if ixD d x.b<0 then 5
 else if x.a=x.b then 1
 else if rdB x.ta=false then 2 else if rdB x.lo=false then 2 else if rdB x.hi=false then 2 else if x.lo>x.hi then 2 else 0
def ckE(d:List Dm)(l:List Sn):Int:=
 if(d.length:Int)=0 then 8
 else if(d.length:Int)>8∨(l.length:Int)>200 then 7
 else if((d[0]!.id==0)&&(d[0]!.ppm==0))=false then 10
 else if dmsE d≠0 then dmsE d
 else fE (fun i=>snE d l[i]!) l.length
def th1(ths:List Th)(i:Nat):Int:=if thE ths[i]!≠0 then thE ths[i]! else if ths[i]!.id∈(ths.take i).map (·.id)then 4 else 0
def hdE(ths:List Th)(d:List Dm)(l:List Sn):Int:=
 if(ths.length:Int)=0 then 8 else if(ths.length:Int)>64 then 7
 else if fE (th1 ths) ths.length≠0 then fE (th1 ths) ths.length
 else if ckE d l≠0 then ckE d l
 else fE (fun i=>if¬(ixP (fun x=>x.id==ths[i]!.dom) d≥0)then 5 else 0) ths.length
structure Tl where(nx la:Int)
instance:Inhabited Tl:=⟨⟨0,0⟩⟩
def tlS(ids:List Int)(T:List Tl)(p:Pk):List Tl:=T.set (ids.idxOf p.th) ⟨p.sr+p.k,p.es[p.k-1]!.at_⟩
def tlE(ids:List Int)(T:List Tl)(p:Pk):Int:=
 if pkE p≠0 then pkE p
 else if¬ids.idxOf p.th<ids.length then 5
 else if(p.sr-p.ls==T[ids.idxOf p.th]!.nx&&decide (p.es[0]!.at_≥T[ids.idxOf p.th]!.la))=false then 11 else 0
def tlN(ids:List Int)(l:List Pk)(j:Nat):List Tl:=fN (tlS ids) (ids.map fun _=>default) l j
def lch1(ids:List Int)(l:List Pk)(j:Nat):Int:=tlE ids (tlN ids l j) l[j]!
def evsum(l:List Pk)(j:Nat):Nat:=fN (fun n p=>n+p.k) 0 l j
def lchE(ids:List Int)(l:List Pk):Int:=if fE (lch1 ids l) l.length≠0 then fE (lch1 ids l) l.length else if((evsum l l.length:Nat):Int)>20000 then 7 else 0
structure TlK where(g:Nat)(id:Int)(d:Tl)
instance:Inhabited TlK:=⟨⟨0,0,default⟩⟩
def tlF(t:TlK):Int×Nat:=(t.id,t.g)
theorem tlE_at{ids:List Int}{T:List Tl}{p:Pk}{t:Tl}(hT:T[ids.idxOf p.th]! =t):tlE ids T p=if pkE p≠0 then pkE p else if¬ids.idxOf p.th<ids.length then 5 else if(p.sr-p.ls==t.nx&&decide (p.es[0]!.at_≥t.la))=false then 11 else 0:=by subst hT;rfl
theorem tl_turn{tm:List TlK}{i g:Nat}{id:Int}{d d':Tl}{ids:List Int}{S:List Tl}(hi:i<tm.length)(hx:tm[i]! =⟨g,id,d⟩)(hI:tm.map TlK.id=ids)(hd:tm.map TlK.d=S):
  ∃tn:List TlK,tn=tm.set i ⟨g,id,d'⟩∧tn.map tlF=tm.map tlF∧tn.map TlK.id=ids∧tn.map TlK.d=S.set i d':=by
 refine⟨_,rfl,map_keep tlF (y:=⟨g,id,d'⟩) hi hx rfl,(map_keep TlK.id (y:=⟨g,id,d'⟩) hi hx rfl).trans hI,?_⟩;simp_all
structure Pp where(th sr ls:Int)(es:List Ev)
instance:Inhabited Pp:=⟨⟨0,0,0,[]⟩⟩
def ppOpen(own:List Pp)(p:Pk):List Pp:=if p.ls>0∨own.length=0 then own++[⟨p.th,p.sr,p.ls,[]⟩]else own
def ppPut(own:List Pp)(p:Pk):List Pp:=
 let o:=ppOpen own p
 o.set (o.length-1) {o[o.length-1]! with es:=o[o.length-1]!.es++p.es}
def aget:List (Int×List Pp)→Int→List Pp
 |[],_=>[]
 |(k,v)::r,x=>if x=k then v else aget r x
def aset:List (Int×List Pp)→Int→List Pp→List (Int×List Pp)
 |[],x,u=>[(x,u)]
 |(k,v)::r,x,u=>if x=k then(k,u)::r else(k,v)::aset r x u
def grS(G:List (Int×List Pp))(p:Pk):List (Int×List Pp):=aset G p.th (ppPut (aget G p.th) p)
def grN(l:List Pk)(j:Nat):List (Int×List Pp):=fN grS [] l j
def lgN(ths:List Th)(l:List Pk)(j:Nat):List Pp:=fN (fun out t=>out++aget (grN l l.length) t.id) [] ths j
def lgParts(ths:List Th)(l:List Pk):List Pp:=lgN ths l ths.length
def ofE(ths:List Th)(d:List Dm)(s:List Sn)(l:List Pk):Int:=
 if hdE ths d s≠0 then hdE ths d s else lchE (ths.map (·.id)) l
def evSame(a b:Ev):Bool:=((((a.at_==b.at_&&a.kd==b.kd)&&a.nm==b.nm)&&a.n==b.n)&&a.m==b.m)&&eqW (fun x y=>x==y) a.st b.st
def ppSame(a b:Pp):Bool:=((a.th==b.th&&a.sr==b.sr)&&a.ls==b.ls)&&eqW evSame a.es b.es
def Pk.pp(p:Pk):Pp:=⟨p.th,p.sr,p.ls,p.es⟩
def pkSame(a b:Pk):Bool:=ppSame a.pp b.pp
def thSame(a b:Th):Bool:=a.id==b.id&&a.nm==b.nm&&a.dom==b.dom
def dmSame(a b:Dm):Bool:=a.id==b.id&&a.ppm==b.ppm
def snSame(a b:Sn):Bool:=a.a==b.a&&a.ta==b.ta&&a.b==b.b&&(a.lo==b.lo&&a.hi==b.hi)
def lgSame(t t':List Th)(d d':List Dm)(s s':List Sn)(l l':List Pk):Bool:=((eqW thSame t t'&&eqW dmSame d d')&&eqW snSame s s')&&eqW pkSame l l'
def lgE(ths:List Th)(d:List Dm)(s:List Sn)(l:List Pk):Int:=
 if ofE ths d s l=0∧eqW ppSame (lgParts ths l) (l.map Pk.pp)=false then 10 else ofE ths d s l
end TW
end Go.Proofs.YtaclfjjipnpboaaGreatDoor
section
attribute [local irreducible] Go.Eng.WC Go.Eng.WL Go.Eng.WK Go.Eng.WQ Go.Eng.WX Go.Eng.Yld
namespace Go.Proofs.YtaclfjjipnpboaaGreatDoor
open Go Go.Eng Go.RowKit
namespace TW
theorem ixI_any(A_l:Option Addr)(n_l c_l:Nat)(l:List Int)(x:Int)(w:World)(h_l:Ls w A_l n_l c_l ic 1 l):
  Cr 154 #[.slice A_l n_l c_l,.int .i64 x] w (.int .i64 (ixF l x)):=by
 have H:=(Hp.nil w);have e_l:=h_l.len;have z_l:=h_l.nle;refine Wb Tryz.func154 ?_;refine go ?_;refine sb [8,0,1,7] ?_;refine WC.loopS 1 (fun mz Ed W'=>∃j:Nat,mz=n_l-j∧Ed=[(8,.int .i64 ((j:Nat):Int))]∧Hp w W' ([])∧(j≤n_l)∧(∀k,k<j→¬x=l[k]!)) _ ⟨0,rfl,rfl,(H.pick []),(Nat.zero_le _),(fun k h=>absurd h (Nat.not_lt_zero k))⟩ ?_;rintro _ _ z ⟨j,rfl,rfl,H,jl,hp⟩;refine go ?_;refine Cd (fun p6=> ?_) fun p6=> ?_
 ·have b10:j<n_l:=Om;refine go ?_;refine Cd (fun p11=> ?_) fun p11=> ?_
  ·refine go ?_;refine Rt [_] ?_;exact⟨ret1 (vi (ixF_at Om hp p11).symm),H.ext⟩
  ·refine go ?_;exact Rs [(8,_)] Sx ⟨(j+1),rfl,rfl,(H.pick []),Om,(fun k h=>(Nat.lt_succ_iff_lt_or_eq.1 h).elim (hp k) fun e=>e▸p11)⟩
 ·refine go ?_;refine Rt [_] ?_;exact⟨ret1 (vi (if_neg (ix_no (fun k hk=>hp k Om))).symm),H.ext⟩
theorem hasI_any(A_l:Option Addr)(n_l c_l:Nat)(l:List Int)(x:Int)(w:World)(h_l:Ls w A_l n_l c_l ic 1 l):
  Cr 114 #[.slice A_l n_l c_l,.int .i64 x] w (.bool (decide (x∈l))):=by
 have H:=(Hp.nil w);have e_l:=h_l.len;have z_l:=h_l.nle;refine Wb Tryz.func114 ?_;refine G3 ?_;refine sb [0,1] ?_;refine go ?_;refine c1 H Fh (ixI_any _ _ _ _ _ _ (h_l.ext H.ext)) fun z H=> ?_;refine go ?_;refine Rt [_] ?_;exact⟨ret1 (vb ixF_ge),H.ext⟩
theorem dst_any(A_ths:Option Addr)(n_ths c_ths:Nat)(ths:List Th)(w:World)(h_ths:Ls w A_ths n_ths c_ths Th.c 3 ths)(ht:n_ths≤1000):
  Calls Tryz.prog 82 #[.slice A_ths n_ths c_ths] w fun e w'=>∃v,e= .returned v∧OwnL w' w.heap.size 3 ic 1 v (dsF ths)∧Ext w w':=by
 have H:=(Hp.nil w);have e_ths:=h_ths.len;have z_ths:=h_ths.nle;refine Wb Tryz.func82 ?_;have H:=H.nilRow 3 ic 1;refine go ?_;refine sb [8,3,6,7] ?_;refine WC.loopS 2 (fun mz Ed W'=>∃j:Nat,∃v:Value,mz=n_ths-j∧Ed=[(8,.int .i64 ((j:Nat):Int)),(3,v)]∧Hp w W' (row 3 ic 1 v (dsT ths j)::[])∧(j≤n_ths)) _ ⟨0,_,rfl,rfl,(H.pick [0]),(Nat.zero_le _)⟩ ?_;rintro _ _ z ⟨j,v,rfl,rfl,H,jl⟩;have dl:=dsT_len ths j;refine go ?_;refine Cd (fun p9=> ?_) fun p9=> ?_
 ·have b12:j<n_ths:=Om;refine go ?_;refine al H ti68 fun g13 z H=> ?_;refine st H 0 ti68 fun z H=> ?_;obtain⟨A16,n17,c18,rfl,_,_,_⟩:=H.op 1;refine go ?_;refine c1 H Fh (hasI_any _ _ _ _ _ _ (H.l 1)) fun z H=> ?_;refine go ?_;refine Cd (fun p19=> ?_) fun p19=> ?_
  ·refine go ?_;refine bs1 H u81 ti3 fun g20 z H=> ?_;refine ap H 2 0 rfl [ths[j]!.id] u81 ti3 rfl ic_one (by simp;omega) fun v22 z H=> ?_;refine go ?_;exact Rs [(8,_),(3,_)] Sx ⟨(j+1),v22,rfl,rfl,(by rw[show dsT ths (j+1)=((dsT ths j)++[ths[j]!.id])from(ite_to p19 rfl)];exact(H.pick [2])),Om⟩
  ·refine go ?_;exact Rs [(8,_),(3,_)] Sx ⟨(j+1),(.slice A16 n17 c18),rfl,rfl,(by rw[show dsT ths (j+1)=(dsT ths j)from(ite_no (fun q=>q p19) rfl)];exact(H.pick [1])),Om⟩
 ·refine G9 ?_;refine sb [2] ?_;refine go ?_;refine Rt [_] ?_;exact⟨_,rfl,(by rw[show dsF ths=dsT ths j from by unfold dsF;congr 1;omega];exact H.out 0),H.ext⟩
abbrev trkF:Tk→List Res:=fun t=>[box t.g 207 [t.v,.int .i64 t.d.n,.int .i64 t.d.l],row 266 Ch.c 5 t.v t.d.cs]
theorem stOf_any(A_ths:Option Addr)(n_ths c_ths:Nat)(ths:List Th)(A_o:Option Addr)(n_o c_o:Nat)(o:List Tm)(en:Int)(w:World)(h_ths:Ls w A_ths n_ths c_ths Th.c 3 ths)(h_o:Ls w A_o n_o c_o Tm.c 10 o)(ht:n_ths≤100)(hn:n_o≤100)(hs:∀x∈o,0≤x.sr∧x.sr≤2000000000000000):
  Calls Tryz.prog 32 #[.slice A_ths n_ths c_ths,.slice A_o n_o c_o,.int .i64 en] w fun e w'=>∃v,e= .returned v∧OwnL w' w.heap.size 119 Sg.c 7 v (stOf ths o en)∧Ext w w':=by
 have H:=(Hp.nil w);have e_ths:=h_ths.len;have z_ths:=h_ths.nle;have e_o:=h_o.len;have z_o:=h_o.nle;have dn:(dsF ths).length≤ths.length:=dsT_len ths ths.length;refine Wb Tryz.func32 ?_;refine G4 ?_;refine mm H fun g3 z H=> ?_;refine go ?_;refine c2 H Fh (dst_any _ _ _ _ _ (h_ths.ext H.ext) Om) fun v6 z H=> ?_;obtain⟨A10,n11,c12,rfl,_,_,_⟩:=H.op 0;have H:=H.bigNil trkF;refine go ?_;refine sb [24,1,2,7,8,22,23] ?_;refine WC.loopS 1 (fun mz Ed W'=>∃j:Nat,∃tl:List Tk,mz=(dsF ths).length-j∧Ed=[(24,.int .i64 ((j:Nat):Int))]∧Hp w W' (mpi g3 (pkv (tl.map tkF))::_::big trkF tl::[])∧(j≤(dsF ths).length)∧(tl.map Tk.id=(dsF ths).take j)∧(tl.map Tk.d=((dsF ths).take j).map fun _=>tk0)) _ ⟨0,[],rfl,rfl,(H.pick [2,1,0]),(Nat.zero_le _),rfl,rfl⟩ ?_;rintro _ _ z ⟨j,tl,rfl,rfl,H,jl,hi,hd⟩;refine go ?_;refine Cd (fun p16=> ?_) fun p16=> ?_
 ·have b19:j<n11:=Om;refine go ?_;refine bx H fun g21 z H=> ?_;have H:=H.nilRow 266 Ch.c 5;refine go ?_;refine c3 Fh (becomes_any _ _ _ _ _ _ _ _ _ _ _ _ _ (H.front [1,0]) Dc) ?_;rintro _ z ⟨v25,rfl,H⟩;refine⟨_,rfl,?_⟩;refine G5 ?_;refine mu H 2 u202 u3 fun z H=> ?_;have H:=H.front [0,0,2];have H:Hp w _ (big trkF (tl++[⟨g21,v25,(dsF ths)[j]!,⟨0,0,[⟨0,5,-1,-1,-1⟩]⟩⟩])::_):=Hp.bigPush trkF ⟨g21,v25,(dsF ths)[j]!,⟨0,0,[⟨0,5,-1,-1,-1⟩]⟩⟩ H;have hk:=mset_pkv_new (ks:=tl.map tkF) (x:=(dsF ths)[j]!) (by rw[show(tl.map tkF).map (·.1)=tl.map Tk.id from by rw[List.map_map];rfl,hi];exact nodup_take (dsT_nodup ths ths.length) (by show j<(dsF ths).length;omega)) g21;refine go ?_;exact Rs [(24,_)] Sx ⟨(j+1),(tl++[⟨g21,v25,(dsF ths)[j]!,⟨0,0,[⟨0,5,-1,-1,-1⟩]⟩⟩]),rfl,rfl,(by rw[List.map_append];rw[show List.map tkF [(⟨g21,v25,(dsF ths)[j]!,⟨0,0,[⟨0,5,-1,-1,-1⟩]⟩⟩:Tk)]=[((dsF ths)[j]!,g21)]from rfl,←hk];exact(H.pick [1,1,0])),Om,(by rw[List.map_append,hi,take_1 Om];rfl),(by rw[List.map_append,hd,take_1 Om,List.map_append];rfl)⟩
 ·refine G11 ?_;refine sb [2,7,8,36,37,38] ?_;refine go ?_;refine sb [38,2,7,8,36,37] ?_;refine WC.loopS 2 (fun mz Ed W'=>∃j:Nat,∃tm:List Tk,mz=n_o-j∧Ed=[(38,.int .i64 ((j:Nat):Int)),(2,.int .i64 (stFold (dsF ths) o en j).2)]∧Hp w W' (mpi g3 (pkv (tm.map tkF))::_::big trkF tm::[])∧(j≤n_o)∧(tm.map Tk.id=dsF ths)∧(tm.map Tk.d=(stFold (dsF ths) o en j).1)∧(TkOk (tm.map Tk.d) (1+3*j))) _ ⟨0,tl,rfl,rfl,(H.pick [0,0,0]),(Nat.zero_le _),(by rw[hi,List.take_of_length_le Om]),(by rw[hd,List.take_of_length_le Om];rfl),(by rw[hd];intro t ht;obtain⟨_,_,rfl⟩:=List.mem_map.1 ht;exact⟨Nat.le_refl _,Nat.le_refl _⟩)⟩ ?_;rintro _ _ z ⟨j,tm,rfl,rfl,H,jl,hi,hd,hb⟩;refine go ?_;refine Cd (fun p30=> ?_) fun p30=> ?_
  ·have b33:j<n_o:=Om;refine go ?_;refine al H ti107 fun g34 z H=> ?_;refine st H 0 ti107 fun z H=> ?_;refine go ?_;refine c1 H Fh (sttime_any o[j]! _) fun z H=> ?_;have q:=mget_tk tm o[j]!.th;rw[hi]at q;have tn_:tm.length=(dsF ths).length:=by rw[←hi,List.length_map]
   refine G9 ?_;rcases q with⟨qb,qa⟩|⟨qa,qb⟩
   ·refine yy (Yld.cast (Y.lookup rfl u202 u3 ti204 rfl rfl (fun _ h=>h▸(H.mi 1))) (by unfold mval;rw[qb];first|done|rfl)) ?_;refine G4 ?_;refine yy (Y.neqPN rfl u204 rfl) ?_;refine go ?_;refine WC.condF rfl ?_;have he:tm.map Tk.d=(atI (dsF ths) o[j]!.th (evT o[j]!) (stFold (dsF ths) o en j).1):=hd.trans (if_neg Om).symm;have hb_t1:TkOk (tm.map Tk.d) (3+3*j):=hb.mono Om;have q:=mget_tk tm o[j]!.n;rw[hi]at q;have tn2:tm.length=(dsF ths).length:=by rw[←hi,List.length_map]
    refine G7 ?_;rcases q with⟨qd,qc⟩|⟨qc,qd⟩
    ·refine yy (Yld.cast (Y.lookup rfl u202 u3 ti204 rfl rfl (fun _ h=>h▸(H.mi 1))) (by unfold mval;rw[qd];first|done|rfl)) ?_;refine G4 ?_;refine yy (Y.neqPN rfl u204 rfl) ?_;refine G5 ?_;refine yy (Y.pickF rfl rfl rfl) ?_;refine G1 ?_;refine sb [2,7,8,13,15,36,37,38,68] ?_;refine WC.condF rfl ?_;refine go ?_;exact Rs [(38,_),(2,_)] Sx ⟨(j+1),tm,rfl,rfl,(H.pick [1,1,1]),Om,hi,(he.trans (if_neg Om).symm),(hb_t1.mono Om)⟩
    ·obtain⟨⟨g42,v43,i44,n45,l46,c47⟩,hy⟩:∃x,tm[((dsF ths).idxOf o[j]!.n)]! =x:=⟨_,rfl⟩;have tl_hy:=tk_len hb_t1 qc hy;have H:=H.front [3];have H:Hp w _ (box g42 207 [v43,.int .i64 n45,.int .i64 l46]::row 266 Ch.c 5 v43 c47::hole trkF tm (((dsF ths).idxOf o[j]!.n))::_):=Hp.bigOutX trkF ⟨g42,v43,i44,n45,l46,c47⟩ hy H qc;rw[hy]at qd;refine yy (Yld.cast (Y.lookup rfl u202 u3 ti204 rfl rfl (fun _ h=>h▸(H.mi 4))) (by unfold mval;rw[qd];first|done|rfl)) ?_;refine G4 ?_;refine yy (Y.neqPS rfl u204 rfl) ?_;refine G5 ?_;refine yy (Y.pickT rfl rfl rfl) ?_;refine go ?_;refine Cd (fun p52=> ?_) fun p52=> ?_
     ·refine Xr H (HpC w _) (.load 0 (.load 1 (.load 3 (.load 4 (.load 5 (.alt 2 (.alt 6 (.fin) (.none)) (.none))))))) (H.pick [2,2,2,2]) fun z H=> ?_;refine go ?_;refine c1X (H.pick [2,2,2,2]) H Fh (sttime_any o[j]! _) fun z H=> ?_;refine c3X (H.pick [2,2,2,2]) Fh (wake_any _ _ _ _ _ _ _ _ _ _ (H.front [0,0]) Om Om) ?_;rintro _ z ⟨v53,rfl,H⟩;refine⟨_,rfl,?_⟩;refine WX.nil (H.pick [2,2,2,2]) ?_;obtain⟨t2,ht,h1,hi_t2,hd_t2,hb_t2⟩:=tk_turn (v':=v53) (d':=⟨n45,l46,wakeF (clk o[j]!.lo) o[j]!.th c47⟩) (b':=(4+3*j)) qc hy hi he hb_t1 (wkT o[j]!) rfl (Nat.le_trans tl_hy.1 (wakeF_len _ _ _).1) (by have:=(wakeF_len (clk o[j]!.lo) o[j]!.th c47).2;show(wakeF _ _ _).length≤_;omega) Om;have H:Hp w _ (big trkF (tm.set (((dsF ths).idxOf o[j]!.n)) ⟨g42,v53,i44,⟨n45,l46,wakeF (clk o[j]!.lo) o[j]!.th c47⟩⟩)::_):=Hp.bigIn trkF ⟨g42,v53,i44,⟨n45,l46,wakeF (clk o[j]!.lo) o[j]!.th c47⟩⟩ H qc;rw[←ht,←h1]at H;refine go ?_;exact Rs [(38,_),(2,_)] Sx ⟨(j+1),t2,rfl,rfl,(H.pick [2,2,0]),Om,hi_t2,(hd_t2.trans ((if_pos Om).trans (if_pos p52)).symm),(hb_t2.mono Om)⟩
     ·have H:Hp w _ (big trkF tm::_):=Hp.bigBack trkF ⟨g42,v43,i44,n45,l46,c47⟩ hy H qc;refine go ?_;exact Rs [(38,_),(2,_)] Sx ⟨(j+1),tm,rfl,rfl,(H.pick [2,2,0]),Om,hi,(he.trans ((if_pos Om).trans (if_neg p52)).symm),(hb_t1.mono Om)⟩
   ·obtain⟨⟨g54,v55,i56,n57,l58,c59⟩,hx⟩:∃x,tm[((dsF ths).idxOf o[j]!.th)]! =x:=⟨_,rfl⟩;have tl_hx:=tk_len hb qa hx;have H:=H.front [3];have H:Hp w _ (box g54 207 [v55,.int .i64 n57,.int .i64 l58]::row 266 Ch.c 5 v55 c59::hole trkF tm (((dsF ths).idxOf o[j]!.th))::_):=Hp.bigOutX trkF ⟨g54,v55,i56,n57,l58,c59⟩ hx H qa;rw[hx]at qb;have es:=hs _ (mem_b (show j<o.length by omega));refine yy (Yld.cast (Y.lookup rfl u202 u3 ti204 rfl rfl (fun _ h=>h▸(H.mi 4))) (by unfold mval;rw[qb];first|done|rfl)) ?_;refine G4 ?_;refine yy (Y.neqPS rfl u204 rfl) ?_;refine go ?_;refine WC.condT rfl ?_;refine go ?_;refine c3 Fh (stevent_any _ _ _ _ _ _ _ _ _ (H.front [0,0]) Om Om) ?_;rintro _ z ⟨v64,rfl,H⟩;refine⟨_,rfl,?_⟩;obtain⟨t1,ht,h1,hi_t1,hd_t1,hb_t1⟩:=tk_turn (v':=v64) (d':=⟨o[j]!.sr+1,clk o[j]!.lo,evF o[j]! n57 l58 c59⟩) (b':=(3+3*j)) qa hx hi hd hb (evT o[j]!) rfl (evF_len _ _ _ tl_hx.1).1 (by have:=(evF_len o[j]! n57 l58 tl_hx.1).2;show(evF _ _ _ _).length≤_;omega) Om;have H:Hp w _ (big trkF (tm.set (((dsF ths).idxOf o[j]!.th)) ⟨g54,v64,i56,⟨o[j]!.sr+1,clk o[j]!.lo,evF o[j]! n57 l58 c59⟩⟩)::_):=Hp.bigIn trkF ⟨g54,v64,i56,⟨o[j]!.sr+1,clk o[j]!.lo,evF o[j]! n57 l58 c59⟩⟩ H qa;rw[←ht,←h1]at H;have he:t1.map Tk.d=(atI (dsF ths) o[j]!.th (evT o[j]!) (stFold (dsF ths) o en j).1):=hd_t1.trans (if_pos Om).symm;have q:=mget_tk t1 o[j]!.n;rw[hi_t1]at q;have tn2:t1.length=(dsF ths).length:=by rw[←hi_t1,List.length_map]
    refine G1 ?_;refine sb [2,7,8,13,36,37,38] ?_;refine G5 ?_;rcases q with⟨qd,qc⟩|⟨qc,qd⟩
    ·refine yy (Yld.cast (Y.lookup rfl u202 u3 ti204 rfl rfl (fun _ h=>h▸(H.mi 2))) (by unfold mval;rw[qd];first|done|rfl)) ?_;refine G4 ?_;refine yy (Y.neqPN rfl u204 rfl) ?_;refine G5 ?_;refine yy (Y.pickF rfl rfl rfl) ?_;refine go ?_;refine WC.condF rfl ?_;refine go ?_;exact Rs [(38,_),(2,_)] Sx ⟨(j+1),t1,rfl,rfl,(H.pick [2,2,0]),Om,hi_t1,(he.trans (if_neg Om).symm),(hb_t1.mono Om)⟩
    ·obtain⟨⟨g67,v68,i69,n70,l71,c72⟩,hy⟩:∃x,t1[((dsF ths).idxOf o[j]!.n)]! =x:=⟨_,rfl⟩;have tl_hy:=tk_len hb_t1 qc hy;have H:Hp w _ (box g67 207 [v68,.int .i64 n70,.int .i64 l71]::row 266 Ch.c 5 v68 c72::hole trkF t1 (((dsF ths).idxOf o[j]!.n))::_):=Hp.bigOutX trkF ⟨g67,v68,i69,n70,l71,c72⟩ hy H qc;rw[hy]at qd;refine yy (Yld.cast (Y.lookup rfl u202 u3 ti204 rfl rfl (fun _ h=>h▸(H.mi 4))) (by unfold mval;rw[qd];first|done|rfl)) ?_;refine G4 ?_;refine yy (Y.neqPS rfl u204 rfl) ?_;refine G5 ?_;refine yy (Y.pickT rfl rfl rfl) ?_;refine go ?_;refine Cd (fun p77=> ?_) fun p77=> ?_
     ·refine Xr H (HpC w _) (.load 0 (.load 1 (.load 3 (.load 4 (.load 5 (.alt 2 (.alt 6 (.fin) (.none)) (.none))))))) (H.pick [2,2,2,2]) fun z H=> ?_;refine go ?_;refine c1X (H.pick [2,2,2,2]) H Fh (sttime_any o[j]! _) fun z H=> ?_;refine c3X (H.pick [2,2,2,2]) Fh (wake_any _ _ _ _ _ _ _ _ _ _ (H.front [0,0]) Om Om) ?_;rintro _ z ⟨v78,rfl,H⟩;refine⟨_,rfl,?_⟩;refine WX.nil (H.pick [2,2,2,2]) ?_;obtain⟨t2,ht,h1,hi_t2,hd_t2,hb_t2⟩:=tk_turn (v':=v78) (d':=⟨n70,l71,wakeF (clk o[j]!.lo) o[j]!.th c72⟩) (b':=(4+3*j)) qc hy hi_t1 he hb_t1 (wkT o[j]!) rfl (Nat.le_trans tl_hy.1 (wakeF_len _ _ _).1) (by have:=(wakeF_len (clk o[j]!.lo) o[j]!.th c72).2;show(wakeF _ _ _).length≤_;omega) Om;have H:Hp w _ (big trkF (t1.set (((dsF ths).idxOf o[j]!.n)) ⟨g67,v78,i69,⟨n70,l71,wakeF (clk o[j]!.lo) o[j]!.th c72⟩⟩)::_):=Hp.bigIn trkF ⟨g67,v78,i69,⟨n70,l71,wakeF (clk o[j]!.lo) o[j]!.th c72⟩⟩ H qc;rw[←ht,←h1]at H;refine G2 ?_;refine sb [2,7,8,36,37,38] ?_;refine go ?_;exact Rs [(38,_),(2,_)] Sx ⟨(j+1),t2,rfl,rfl,(H.pick [2,2,0]),Om,hi_t2,(hd_t2.trans ((if_pos Om).trans (if_pos p77)).symm),(hb_t2.mono Om)⟩
     ·have H:Hp w _ (big trkF t1::_):=Hp.bigBack trkF ⟨g67,v68,i69,n70,l71,c72⟩ hy H qc;refine go ?_;exact Rs [(38,_),(2,_)] Sx ⟨(j+1),t1,rfl,rfl,(H.pick [2,2,0]),Om,hi_t1,(he.trans ((if_pos Om).trans (if_neg p77)).symm),(hb_t1.mono Om)⟩
  ·obtain rfl:j=o.length:=Om;have H:=H.nilRow 119 Sg.c 7;refine go ?_;refine sb [82,16,2,7,80,81] ?_;refine WC.loopS 2 (fun mz Ed W'=>∃i:Nat,∃v:Value,mz=(dsF ths).length-i∧Ed=[(82,.int .i64 ((i:Nat):Int)),(16,v)]∧Hp w W' (_::_::_::row 119 Sg.c 7 v (stRows (dsF ths) (stFold (dsF ths) o en o.length).1 (clk (stFold (dsF ths) o en o.length).2) i)::[])∧(i≤(dsF ths).length)) _ ⟨0,_,rfl,rfl,(H.pick [1,1,1,0]),(Nat.zero_le _)⟩ ?_;rintro _ _ z ⟨i,v,rfl,rfl,H,il⟩;have rl:=stRows_len (dsF ths) (clk (stFold (dsF ths) o en o.length).2) (hd▸hb.mono (show 1+3*o.length≤301 by omega)) i;refine go ?_;refine Cd (fun p87=> ?_) fun p87=> ?_
   ·have b90:i<n11:=Om;have q:=mget_tk tm (dsF ths)[i]!;rw[hi]at q;have tn_:tm.length=(dsF ths).length:=by rw[←hi,List.length_map]
    have qa:(dsF ths).idxOf (dsF ths)[i]! <tm.length:=by rw[tn_];exact List.idxOf_lt_length_iff.2 (mem_b Om)
    have qb:=(q.resolve_left fun h=>h.2 qa).2;obtain⟨⟨g91,v92,i93,n94,l95,c96⟩,hx⟩:∃x,tm[((dsF ths).idxOf (dsF ths)[i]!)]! =x:=⟨_,rfl⟩;have tl_hx:=tk_len hb qa hx;have H:=H.front [2];have H:Hp w _ (box g91 207 [v92,.int .i64 n94,.int .i64 l95]::row 266 Ch.c 5 v92 c96::hole trkF tm (((dsF ths).idxOf (dsF ths)[i]!))::_):=Hp.bigOutX trkF ⟨g91,v92,i93,n94,l95,c96⟩ hx H qa;rw[hx]at qb;refine G13 ?_;refine yy (Yld.cast (Y.lookup rfl u202 u3 ti204 rfl rfl (fun _ h=>h▸(H.mi 3))) (by unfold mval;rw[qb];first|done|rfl)) ?_;obtain⟨A100,n101,c102,rfl,_,_,_⟩:=H.op 1;refine go ?_;refine c2 H Fh (states_any _ _ _ _ _ _ _ _ _ _ (H.b 0) (H.l 1) Om) fun v103 z H=> ?_;obtain⟨A106,n107,c108,rfl,_,_,_⟩:=H.op 0;refine apl H 6 rfl (H.l 0) u41 ti119 Sg.one (room_le rl (Nat.le_trans (statesF_len _ _ _) tl_hx.2) Om) fun v105 z H=> ?_;have H:=H.front [1,1,1];have H:Hp w _ (big trkF tm::_):=Hp.bigBack trkF ⟨g91,(.slice A100 n101 c102),i93,n94,l95,c96⟩ hx H qa;have eT:(stFold (dsF ths) o en o.length).1[(dsF ths).idxOf (dsF ths)[i]!]!.cs=c96:=by rw[←hd,map_b Tk.d qa,hx]
    refine go ?_;exact Rs [(82,_),(16,_)] Sx ⟨(i+1),v105,rfl,rfl,(by rw[show stRows (dsF ths) (stFold (dsF ths) o en o.length).1 (clk (stFold (dsF ths) o en o.length).2) (i+1)=stRows (dsF ths) (stFold (dsF ths) o en o.length).1 (clk (stFold (dsF ths) o en o.length).2) i++statesF _ _ _ from rfl,eT];exact(H.pick [2,2,0,1])),Om⟩
   ·refine go ?_;refine Rt [_] ?_;exact⟨_,rfl,(by rw[show stOf ths o en=stRows (dsF ths) (stFold (dsF ths) o en o.length).1 (clk (stFold (dsF ths) o en o.length).2) i from by unfold stOf;congr 1;omega];exact H.out 3),H.ext⟩
end TW
end Go.Proofs.YtaclfjjipnpboaaGreatDoor
end
section
attribute [local irreducible] Go.Eng.WC Go.Eng.WL Go.Eng.WK Go.Eng.WQ Go.Eng.WX Go.Eng.Yld
namespace Go.Proofs.YtaclfjjipnpboaaGreatDoor
open Go Go.Eng Go.RowKit
def Tryz.lays109_ren:Go.Shelf.Ren:=⟨fun|137=>109|217=>151|266=>180|n=>n,fun|9=>9|5=>5|3=>3|n=>n,fun|n=>n⟩
theorem Tryz.lays109:Go.Proofs.Lays.n137 Tryz.prog Tryz.lays109_ren:={
 mixed:=by kernel_rfl
 f137:=Tryz.func109.trans (congrArg some (by kernel_rfl))
 f217:=Tryz.func151.trans (congrArg some (by kernel_rfl))
 f266:=Tryz.func180.trans (congrArg some (by kernel_rfl))
 t3:=Tryz.underlying3
 a3:=Tryz.isAgg3
 z3:=Tryz.sizeOf3
 v3:=Tryz.zeroValue3
 t5:=Tryz.underlying5
 a5:=Tryz.isAgg5
 z5:=Tryz.sizeOf5
 v5:=Tryz.zeroValue5
 t9:=Tryz.underlying9
 a9:=Tryz.isAgg9
 z9:=Tryz.sizeOf9
 v9:=Tryz.zeroValue9}
namespace TW
open Go.Shelf Go.Proofs
theorem indexByte_any(c:Int)(w:World):Cr 109 #[.string ⟨#[95,46,58,47,60,62,36,42,126,45]⟩,.int .u8 c] w (.int .i64 (ixB c)):=
 (Any.strings_IndexByte Tryz.lays109 signs c w).mono fun e w' ⟨he,hw⟩=>⟨he,by subst hw;exact Ext.refl _⟩
theorem letter_any(c:Int)(w:World)(hc:0≤c∧c≤255):
  Cr 119 #[.int .u8 c] w (.bool (letB c)):=by
 have H:=(Hp.nil w);refine Wb Tryz.func119 ?_;refine G14 ?_;refine WL.yldGs [(_,_)] rfl (blt rfl) rfl rfl rfl (fun hb=>Y.move rfl rfl) ?_;refine WL.yldGs [(_,_)] rfl (blt rfl) rfl rfl rfl (fun hb=>Y.leq rfl (evg (evg rfl hb.1) hb.2.1) rfl) ?_;refine G6 ?_;refine WL.yldGs [(_,_)] rfl (blt rfl) rfl rfl rfl (fun hb=>Y.move rfl rfl) ?_;refine WL.yldGs [(_,_)] rfl (blt rfl) rfl rfl rfl (fun hb=>Y.leq rfl (evg (evg rfl hb.1) hb.2.1) rfl) ?_;refine G4 ?_;refine WL.callG rfl (blt rfl) rfl rfl rfl rfl rfl Fh (fun hb=>(evs_cons rfl (evs_cons (evg rfl hb) evs_nil))) (fun hb=>indexByte_any _ _) (fun z x=> ?_);have H:=H.ex x;refine go ?_;refine Rt [_] ?_;exact⟨ret1 (vb (let_ix hc)),H.ext⟩
theorem name_any(s:ByteArray)(w:World):
  Cr 65 #[.string s] w (.int .i64 (nmF s)):=by
 have H:=(Hp.nil w);refine Wb Tryz.func65 ?_;refine G9 ?_;refine yg (fun hb=>Y.lenStr rfl rfl rfl u9 (evs_cons (evg rfl hb) evs_nil)) ?_;refine G3 ?_;refine sb [0,10] ?_;refine Cd (fun p4=> ?_) fun p4=> ?_
 ·refine go ?_;refine Rt [_] ?_;exact⟨ret1 (vi (Eq.symm (ite_to p4 rfl))),H.ext⟩
 ·refine G5 ?_;refine yy (Y.lenStr rfl rfl rfl u9 rfl) ?_;refine go ?_;refine sb [13,0,12] ?_;refine WC.loopS 1 (fun mz Ed W'=>∃j:Nat,mz=s.size-j∧Ed=[(13,.int .i64 ((j:Nat):Int))]∧Hp w W' ([])∧(j≤s.size)∧(fE (fun i=>if letB (bat s i)=true then 0 else 3) j=0)) _ ⟨0,rfl,rfl,(H.pick []),(Nat.zero_le _),rfl⟩ ?_;rintro _ _ z ⟨j,rfl,rfl,H,jl,hp⟩;refine go ?_;refine Cd (fun p10=> ?_) fun p10=> ?_
  ·have b14:j<s.size:=Om;refine G11 ?_;refine yy (Y.indexStr j rfl u9 rfl rfl rfl b14) ?_;refine c1 H Fh (letter_any _ _ (bat_rng _ _)) fun z H=> ?_;refine go ?_;refine WC.cond rfl (fun h15=> ?_) (fun h15=> ?_)
   ·refine go ?_;refine Rt [_] ?_;exact⟨ret1 (vi (Eq.symm (ite_no (fun q=>q.elim p4.1 p4.2) (fE_ret hp (if_f (not_t h15)) Dc Om)))),H.ext⟩
   ·refine go ?_;exact Rs [(13,_)] Sx ⟨(j+1),rfl,rfl,(H.pick []),Om,(fE_next hp (if_pos (not_f h15)))⟩
  ·refine go ?_;refine Rt [_] ?_;exact⟨ret1 (vi (Eq.symm (ite_no (fun q=>q.elim p4.1 p4.2) (fE_end hp Om)))),H.ext⟩
theorem frames_any(A_l:Option Addr)(n_l c_l:Nat)(l:List ByteArray)(w:World)(h_l:Ls w A_l n_l c_l sc 1 l):
  Cr 182 #[.slice A_l n_l c_l] w (.int .i64 (frF l)):=by
 have H:=(Hp.nil w);have e_l:=h_l.len;have z_l:=h_l.nle;refine Wb Tryz.func182 ?_;refine G9 ?_;refine sb [0,8] ?_;refine Cd (fun p4=> ?_) fun p4=> ?_
 ·refine go ?_;refine Rt [_] ?_;subst e_l;exact⟨ret1 (vi (Eq.symm (ite_to p4 rfl))),H.ext⟩
 ·refine go ?_;refine sb [11,9,10] ?_;refine WC.loopS 1 (fun mz Ed W'=>∃j:Nat,mz=n_l-j∧Ed=[(11,.int .i64 ((j:Nat):Int))]∧Hp w W' ([])∧(j≤n_l)∧(fE (fun i=>nmF l[i]!) j=0)) _ ⟨0,rfl,rfl,(H.pick []),(Nat.zero_le _),rfl⟩ ?_;rintro _ _ z ⟨j,rfl,rfl,H,jl,hp⟩;refine go ?_;refine Cd (fun p10=> ?_) fun p10=> ?_
  ·have b13:j<n_l:=Om;refine go ?_;refine c1 H Fh (name_any _ _) fun z H=> ?_;refine go ?_;refine Cd (fun p16=> ?_) fun p16=> ?_
   ·refine go ?_;refine Rt [_] ?_;subst e_l;exact⟨ret1 (vi (Eq.symm (ite_no p4 (fE_ret hp rfl p16 Om)))),H.ext⟩
   ·refine go ?_;exact Rs [(11,_)] Sx ⟨(j+1),rfl,rfl,(H.pick []),Om,(fE_next hp (Decidable.of_not_not (fun q=>q p16)))⟩
  ·refine go ?_;refine Rt [_] ?_;subst e_l;exact⟨ret1 (vi (Eq.symm (ite_no p4 (fE_end hp Om)))),H.ext⟩
theorem forms_any(W:World)(R:List Res)(w:World)(H:Hp W w R):
  Calls Tryz.prog 181 #[] w fun e w'=>∃g,e= .returned (.slice (some ⟨g,0,none⟩) 13 13)∧Hp W w' (box g 278 (formsL.flatMap Fm.c)::R):=by
 refine Wb Tryz.func181 ?_;refine go ?_;refine bs (zs:=[.string ⟨#[]⟩,.bool false,.bool false,.bool false,.bool false,.int .i64 0,.int .i64 0,.int .i64 0,.int .i64 0,.string ⟨#[]⟩,.bool false,.bool false,.bool false,.bool false,.int .i64 0,.int .i64 0,.int .i64 0,.int .i64 0,.string ⟨#[]⟩,.bool false,.bool false,.bool false,.bool false,.int .i64 0,.int .i64 0,.int .i64 0,.int .i64 0,.string ⟨#[]⟩,.bool false,.bool false,.bool false,.bool false,.int .i64 0,.int .i64 0,.int .i64 0,.int .i64 0,.string ⟨#[]⟩,.bool false,.bool false,.bool false,.bool false,.int .i64 0,.int .i64 0,.int .i64 0,.int .i64 0,.string ⟨#[]⟩,.bool false,.bool false,.bool false,.bool false,.int .i64 0,.int .i64 0,.int .i64 0,.int .i64 0,.string ⟨#[]⟩,.bool false,.bool false,.bool false,.bool false,.int .i64 0,.int .i64 0,.int .i64 0,.int .i64 0,.string ⟨#[]⟩,.bool false,.bool false,.bool false,.bool false,.int .i64 0,.int .i64 0,.int .i64 0,.int .i64 0,.string ⟨#[]⟩,.bool false,.bool false,.bool false,.bool false,.int .i64 0,.int .i64 0,.int .i64 0,.int .i64 0,.string ⟨#[]⟩,.bool false,.bool false,.bool false,.bool false,.int .i64 0,.int .i64 0,.int .i64 0,.int .i64 0,.string ⟨#[]⟩,.bool false,.bool false,.bool false,.bool false,.int .i64 0,.int .i64 0,.int .i64 0,.int .i64 0,.string ⟨#[]⟩,.bool false,.bool false,.bool false,.bool false,.int .i64 0,.int .i64 0,.int .i64 0,.int .i64 0,.string ⟨#[]⟩,.bool false,.bool false,.bool false,.bool false,.int .i64 0,.int .i64 0,.int .i64 0,.int .i64 0]) (cs:=[_,_,_,_,_,_,_,_,_,_,_,_,_,_,_,_,_,_,_,_,_,_,_,_,_,_,_,_,_,_,_,_,_,_,_,_,_,_,_,_,_,_,_,_,_,_,_,_,_,_,_,_,_,_,_,_,_,_,_,_,_,_,_,_,_,_,_,_,_,_,_,_,_,_,_,_,_,_,_,_,_,_,_,_,_,_,_,_,_,_,_,_,_,_,_,_,_,_,_,_,_,_,_,_,_,_,_,_,_,_,_,_,_,_,_,_,_]) H u313 ti278 fun g4 z H=> ?_;refine G2 ?_;refine sb [0] ?_;refine go ?_;refine Rt [_] ?_;exact⟨_,rfl,H⟩
theorem formOf_any(k:Int)(w:World):
  Cr 152 #[.int .i64 k] w (.tuple #[.agg #[.string (formF k).word,.bool (formF k).nm,.bool (formF k).n,.bool (formF k).m,.bool (formF k).st,.int .i64 (formF k).lo,.int .i64 (formF k).hi,.int .i64 (formF k).mlo,.int .i64 (formF k).mhi],.bool (fmOk k)]):=by
 have H:=(Hp.nil w);refine Wb Tryz.func152 ?_;refine go ?_;refine al H ti278 fun g2 z H=> ?_;refine go ?_;refine c3 Fh (forms_any _ _ _ (H.front [])) ?_;rintro _ z ⟨g5,rfl,H⟩;refine⟨_,rfl,?_⟩;refine go ?_;refine Cd (fun p9=> ?_) fun p9=> ?_
 ·refine go ?_;refine st H 1 ti278 fun z H=> ?_;refine go ?_;refine WK.ret [_,_] rfl ⟨⟨_,rfl,run_loadVar_blk u278 rfl ti278 (H.b 1)⟩,rfl,trivial⟩ ?_;exact⟨(show _=_ from by rw[formF_out p9,fmOk_out p9];rfl),H.ext⟩
 ·have b12:k.toNat<13:=Om;refine G5 ?_;refine yy (Y.indexLs k.toNat (Ls.lit (f:=Fm.c) (sz:=9) (l:=formsL) (H.b 0) (fun _=>rfl) rfl (by first|decide|exact(show 13≤maxLen by decide)) rfl) rfl u313 ti278 rfl rfl Om b12) ?_;refine yy (Y.loadS (cs:=[_,_,_,_,_,_,_,_,_]) rfl u278 rfl ti278 rfl (Ls.part_eq (Ls.lit (f:=Fm.c) (sz:=9) (l:=formsL) (H.b 0) (fun _=>rfl) rfl (by first|decide|exact(show 13≤maxLen by decide)) rfl) b12 rfl)) ?_;refine st H 1 ti278 fun z H=> ?_;refine go ?_;refine WK.ret [_,_] rfl ⟨⟨_,rfl,run_loadVar_blk u278 rfl ti278 (H.b 1)⟩,rfl,trivial⟩ ?_;exact⟨(show _=_ from by rw[formF_in Om Om,fmOk_in Om Om];rfl),H.ext⟩
theorem names_any(f:Fm)(x:Ev)(w:World)(h_x:Ls w x.A x.k x.c_ sc 1 x.st):
  Cr 153 #[.agg #[.string f.word,.bool f.nm,.bool f.n,.bool f.m,.bool f.st,.int .i64 f.lo,.int .i64 f.hi,.int .i64 f.mlo,.int .i64 f.mhi],.agg #[.int .i64 x.at_,.int .i64 x.kd,.string x.nm,.int .i64 x.n,.int .i64 x.m,.slice x.A x.k x.c_]] w (.int .i64 (if f.nm=true then nmF x.nm else frF x.st)):=by
 have H:=(Hp.nil w);have e_x:=h_x.len;have z_x:=h_x.nle;refine Wb Tryz.func153 ?_;refine go ?_;refine bx H fun g2 z H=> ?_;refine bx H fun g4 z H=> ?_;refine go ?_;refine WC.cond rfl (fun h8=> ?_) (fun h8=> ?_)
 ·refine go ?_;refine c1 H Fh (name_any _ _) fun z H=> ?_;refine G2 ?_;refine sb [4] ?_;refine go ?_;refine Rt [_] ?_;exact⟨ret1 (vi (Eq.symm (ite_to h8 rfl))),H.ext⟩
 ·refine go ?_;refine c1 H Fh (frames_any _ _ _ _ _ (h_x.ext H.ext)) fun z H=> ?_;refine go ?_;refine Rt [_] ?_;exact⟨ret1 (vi (Eq.symm (ite_no (nt_f h8) rfl))),H.ext⟩
theorem evcheck_any(x:Ev)(w:World)(h_x:Ls w x.A x.k x.c_ sc 1 x.st):
  Cr 113 #[.agg #[.int .i64 x.at_,.int .i64 x.kd,.string x.nm,.int .i64 x.n,.int .i64 x.m,.slice x.A x.k x.c_]] w (.int .i64 (evE x)):=by
 have H:=(Hp.nil w);have e_x:=h_x.len;have z_x:=h_x.nle;refine Wb Tryz.func113 ?_;refine go ?_;refine bx H fun g2 z H=> ?_;refine go ?_;refine Cd (fun p6=> ?_) fun p6=> ?_
 ·refine go ?_;refine Rt [_] ?_;exact⟨ret1 (vi (Eq.symm (ite_to p6 rfl))),H.ext⟩
 ·refine go ?_;refine c1 H Fh (formOf_any _ _) fun z H=> ?_;refine go ?_;refine al H ti278 fun g9 z H=> ?_;refine st H 0 ti278 fun z H=> ?_;refine G2 ?_;refine sb [1,3,4] ?_;refine G9 ?_;refine WL.yldGs [(_,_)] rfl (blt rfl) rfl rfl rfl (fun hb=>Y.fieldAddr rfl u73 rfl ti9 Dc rfl) ?_;refine WL.yldGs [(_,_)] rfl (blt rfl) rfl rfl rfl (fun hb=>Y.load1 rfl u9 rfl (evg (evg rfl hb.1) hb.2.1) (Blk.at_eq (H.b 1) rfl)) ?_;refine WL.yldGs [(_,_)] rfl (blt rfl) rfl rfl rfl (fun hb=>Y.neqStr rfl (evg (evg rfl hb.1) hb.2.1) rfl) ?_;refine G7 ?_;refine WL.yldGs [(_,_)] rfl (blt rfl) rfl rfl rfl (fun hb=>Y.fieldAddr rfl u73 rfl ti3 Dc rfl) ?_;refine WL.yldGs [(_,_)] rfl (blt rfl) rfl rfl rfl (fun hb=>Y.load1 rfl u3 rfl (evg (evg rfl hb.1) hb.2.1) (Blk.at_eq (H.b 1) rfl)) ?_;refine WL.yldGs [(_,_)] rfl (blt rfl) rfl rfl rfl (fun hb=>Y.neq rfl (evg (evg rfl hb.1) hb.2.1) rfl) ?_;refine G7 ?_;refine WL.yldGs [(_,_)] rfl (blt rfl) rfl rfl rfl (fun hb=>Y.fieldAddr rfl u73 rfl ti3 Dc rfl) ?_;refine WL.yldGs [(_,_)] rfl (blt rfl) rfl rfl rfl (fun hb=>Y.load1 rfl u3 rfl (evg (evg rfl hb.1) hb.2.1) (Blk.at_eq (H.b 1) rfl)) ?_;refine WL.yldGs [(_,_)] rfl (blt rfl) rfl rfl rfl (fun hb=>Y.neq rfl (evg (evg rfl hb.1) hb.2.1) rfl) ?_;refine G7 ?_;refine WL.yldGs [(_,_)] rfl (blt rfl) rfl rfl rfl (fun hb=>Y.fieldAddr rfl u73 rfl ti63 Dc rfl) ?_;refine WL.yldGs [(_,_)] rfl (blt rfl) rfl rfl rfl (fun hb=>Y.load1 rfl u63 rfl (evg (evg rfl hb.1) hb.2.1) (Blk.at_eq (H.b 1) rfl)) ?_;refine WL.yldGs [(_,_)] rfl (blt rfl) rfl rfl rfl (fun hb=>Y.lenSl rfl rfl rfl u63 (evs_cons (evg (evg rfl hb.1) hb.2.1) evs_nil)) ?_;refine WL.yldGs [(_,_)] rfl (blt rfl) rfl rfl rfl (fun hb=>Y.gtr rfl (evg (evg rfl hb.1) hb.2.1) rfl) ?_;refine go ?_;refine WC.cond rfl (fun h13=> ?_) (fun h13=> ?_)
  ·have p13:=((or_t h13).imp (fun h=>((or_t h).imp (fun h=>((or_t h).imp (fun h=>((or_t h).imp (fun h=>h) (fun h=>(beqB_ne.1 (not_t (and_t h).2))))) (fun h=>(eq_f (not_t (and_t h).2))))) (fun h=>(eq_f (not_t (and_t h).2))))) (fun h=>(dec_t (and_t h).2)));refine go ?_;refine Rt [_] ?_;exact⟨ret1 (vi (Eq.symm (ite_no (fun q=>q.elim p6.1 p6.2) (ite_to ((or_t h13).imp (fun h=>((or_t h).imp (fun h=>((or_t h).imp (fun h=>((or_t h).imp (fun h=>(not_t h)) (fun h=>⟨(not_t (and_t h).1),(beqB_ne.1 (not_t (and_t h).2))⟩))) (fun h=>⟨(not_t (and_t h).1),(eq_f (not_t (and_t h).2))⟩))) (fun h=>⟨(not_t (and_t h).1),(eq_f (not_t (and_t h).2))⟩))) (fun h=>⟨(not_t (and_t h).1),(dec_t (and_t h).2)⟩)) rfl)))),H.ext⟩
  ·have p13:=(And.intro (And.intro (And.intro ((and_f (or_f (or_f (or_f (or_f h13).1).1).1).2).imp (fun h=>h) (fun h=>(beqB_eq.1 (not_f h)))) ((and_f (or_f (or_f (or_f h13).1).1).2).imp (fun h=>h) (fun h=>(eq_t (not_f h))))) ((and_f (or_f (or_f h13).1).2).imp (fun h=>h) (fun h=>(eq_t (not_f h))))) ((and_f (or_f h13).2).imp (fun h=>h) (fun h=>(dec_f h))));refine G2 ?_;refine sb [1,3] ?_;refine go ?_;refine c1 H Fh (names_any (formF x.kd) x _ (h_x.ext H.ext)) fun z H=> ?_;refine go ?_;refine Cd (fun p18=> ?_) fun p18=> ?_
   ·refine go ?_;refine Rt [_] ?_;exact⟨ret1 (vi (Eq.symm (ite_no (fun q=>q.elim p6.1 p6.2) (ite_no (fun q=>q.elim (fun q=>q.elim (fun q=>q.elim (fun q=>q.elim (nf_t (not_f (or_f (or_f (or_f (or_f h13).1).1).1).1)) (fun q=>(and_f (or_f (or_f (or_f (or_f h13).1).1).1).2).elim (fun h=>(nf_t (not_f h)) q.1) (fun h=>(fun q=>q (beqB_eq.1 (not_f h))) q.2))) (fun q=>(and_f (or_f (or_f (or_f h13).1).1).2).elim (fun h=>(nf_t (not_f h)) q.1) (fun h=>(fun q=>q (eq_t (not_f h))) q.2))) (fun q=>(and_f (or_f (or_f h13).1).2).elim (fun h=>(nf_t (not_f h)) q.1) (fun h=>(fun q=>q (eq_t (not_f h))) q.2))) (fun q=>(and_f (or_f h13).2).elim (fun h=>(nf_t (not_f h)) q.1) (fun h=>(dec_f h) q.2))) (ite_to p18 rfl))))),H.ext⟩
   ·refine G14 ?_;refine WL.yldGs [(_,_)] rfl (blt rfl) rfl rfl rfl (fun hb=>Y.fieldAddr rfl u73 rfl ti3 Dc rfl) ?_;refine WL.yldGs [(_,_)] rfl (blt rfl) rfl rfl rfl (fun hb=>Y.load1 rfl u3 rfl (evg (evg rfl hb.1) hb.2.1) (Blk.at_eq (H.b 1) rfl)) ?_;refine WL.yldGs [(_,_)] rfl (blt rfl) rfl rfl rfl (fun hb=>Y.fieldAddr rfl u278 rfl ti3 Dc rfl) ?_;refine WL.yldGs [(_,_)] rfl (blt rfl) rfl rfl rfl (fun hb=>Y.load1 rfl u3 rfl (evg (evg rfl hb.1) hb.2.1) (Blk.at_eq (H.b 0) rfl)) ?_;refine WL.yldGs [(_,_)] rfl (blt rfl) rfl rfl rfl (fun hb=>Y.gtr rfl (evg (evg rfl hb.1) hb.2.1) (evg (evg rfl hb.1) hb.2.1)) ?_;refine go ?_;refine WC.cond rfl (fun h22=> ?_) (fun h22=> ?_)
    ·have p22:=((or_t (and_t h22).2).imp (fun h=>(dec_t h)) (fun h=>(dec_t h)));refine go ?_;refine Rt [_] ?_;exact⟨ret1 (vi (Eq.symm (ite_no (fun q=>q.elim p6.1 p6.2) (ite_no (fun q=>q.elim (fun q=>q.elim (fun q=>q.elim (fun q=>q.elim (nf_t (not_f (or_f (or_f (or_f (or_f h13).1).1).1).1)) (fun q=>(and_f (or_f (or_f (or_f (or_f h13).1).1).1).2).elim (fun h=>(nf_t (not_f h)) q.1) (fun h=>(fun q=>q (beqB_eq.1 (not_f h))) q.2))) (fun q=>(and_f (or_f (or_f (or_f h13).1).1).2).elim (fun h=>(nf_t (not_f h)) q.1) (fun h=>(fun q=>q (eq_t (not_f h))) q.2))) (fun q=>(and_f (or_f (or_f h13).1).2).elim (fun h=>(nf_t (not_f h)) q.1) (fun h=>(fun q=>q (eq_t (not_f h))) q.2))) (fun q=>(and_f (or_f h13).2).elim (fun h=>(nf_t (not_f h)) q.1) (fun h=>(dec_f h) q.2))) (ite_no (fun q=>q p18) (ite_to ⟨(and_t h22).1,((or_t (and_t h22).2).imp (fun h=>(dec_t h)) (fun h=>(dec_t h)))⟩ rfl)))))),H.ext⟩
    ·have p22:=((and_f h22).imp (fun h=>h) (fun h=>(And.intro (dec_f (or_f h).1) (dec_f (or_f h).2))));refine G16 ?_;refine sb [1,3,86] ?_;refine Cd (fun p25=> ?_) fun p25=> ?_
     ·refine go ?_;refine Rt [_] ?_;exact⟨ret1 (vi (Eq.symm (ite_no (fun q=>q.elim p6.1 p6.2) (ite_no (fun q=>q.elim (fun q=>q.elim (fun q=>q.elim (fun q=>q.elim (nf_t (not_f (or_f (or_f (or_f (or_f h13).1).1).1).1)) (fun q=>(and_f (or_f (or_f (or_f (or_f h13).1).1).1).2).elim (fun h=>(nf_t (not_f h)) q.1) (fun h=>(fun q=>q (beqB_eq.1 (not_f h))) q.2))) (fun q=>(and_f (or_f (or_f (or_f h13).1).1).2).elim (fun h=>(nf_t (not_f h)) q.1) (fun h=>(fun q=>q (eq_t (not_f h))) q.2))) (fun q=>(and_f (or_f (or_f h13).1).2).elim (fun h=>(nf_t (not_f h)) q.1) (fun h=>(fun q=>q (eq_t (not_f h))) q.2))) (fun q=>(and_f (or_f h13).2).elim (fun h=>(nf_t (not_f h)) q.1) (fun h=>(dec_f h) q.2))) (ite_no (fun q=>q p18) (ite_no (fun q=>(and_f h22).elim (fun h=>(nt_f h) q.1) (fun h=>(fun q=>q.elim (dec_f (or_f h).1) (dec_f (or_f h).2)) q.2)) (ite_to p25 rfl))))))),H.ext⟩
     ·refine G10 ?_;refine WL.yldGs [(_,_)] rfl (blt rfl) rfl rfl rfl (fun hb=>Y.fieldAddr rfl u73 rfl ti3 Dc rfl) ?_;refine WL.yldGs [(_,_)] rfl (blt rfl) rfl rfl rfl (fun hb=>Y.load1 rfl u3 rfl (evg (evg rfl hb.1) hb.2.1) (Blk.at_eq (H.b 1) rfl)) ?_;refine WL.yldGs [(_,_)] rfl (blt rfl) rfl rfl rfl (fun hb=>Y.fieldAddr rfl u278 rfl ti3 Dc rfl) ?_;refine WL.yldGs [(_,_)] rfl (blt rfl) rfl rfl rfl (fun hb=>Y.load1 rfl u3 rfl (evg (evg rfl hb.1) hb.2.1) (Blk.at_eq (H.b 0) rfl)) ?_;refine WL.yldGs [(_,_)] rfl (blt rfl) rfl rfl rfl (fun hb=>Y.gtr rfl (evg (evg rfl hb.1) hb.2.1) (evg (evg rfl hb.1) hb.2.1)) ?_;refine G7 ?_;refine WL.yldGs [(_,_)] rfl (blt rfl) rfl rfl rfl (fun hb=>Y.fieldAddr rfl u73 rfl ti3 Dc rfl) ?_;refine WL.yldGs [(_,_)] rfl (blt rfl) rfl rfl rfl (fun hb=>Y.load1 rfl u3 rfl (evg (evg rfl hb.1) hb.2.1) (Blk.at_eq (H.b 1) rfl)) ?_;refine WL.yldGs [(_,_)] rfl (blt rfl) rfl rfl rfl (fun hb=>Y.eql rfl (evg (evg rfl hb.1) hb.2.1) rfl) ?_;refine go ?_;refine WC.cond rfl (fun h28=> ?_) (fun h28=> ?_)
      ·have p28:=(And.intro ((or_t (and_t (and_t h28).1).2).imp (fun h=>(dec_t h)) (fun h=>(dec_t h))) ((or_t (and_t h28).2).imp (fun h=>(eq_f (not_t h))) (fun h=>(eq_t h))));refine go ?_;refine Rt [_] ?_;exact⟨ret1 (vi (Eq.symm (ite_no (fun q=>q.elim p6.1 p6.2) (ite_no (fun q=>q.elim (fun q=>q.elim (fun q=>q.elim (fun q=>q.elim (nf_t (not_f (or_f (or_f (or_f (or_f h13).1).1).1).1)) (fun q=>(and_f (or_f (or_f (or_f (or_f h13).1).1).1).2).elim (fun h=>(nf_t (not_f h)) q.1) (fun h=>(fun q=>q (beqB_eq.1 (not_f h))) q.2))) (fun q=>(and_f (or_f (or_f (or_f h13).1).1).2).elim (fun h=>(nf_t (not_f h)) q.1) (fun h=>(fun q=>q (eq_t (not_f h))) q.2))) (fun q=>(and_f (or_f (or_f h13).1).2).elim (fun h=>(nf_t (not_f h)) q.1) (fun h=>(fun q=>q (eq_t (not_f h))) q.2))) (fun q=>(and_f (or_f h13).2).elim (fun h=>(nf_t (not_f h)) q.1) (fun h=>(dec_f h) q.2))) (ite_no (fun q=>q p18) (ite_no (fun q=>(and_f h22).elim (fun h=>(nt_f h) q.1) (fun h=>(fun q=>q.elim (dec_f (or_f h).1) (dec_f (or_f h).2)) q.2)) (ite_no (fun q=>p25.elim (fun h=>(fun q=>h.elim (fun h=>h q.1) (fun h=>(fun q=>q h) q.2)) q.1) (fun h=>(fun q=>q h) q.2)) (ite_to ⟨⟨(and_t (and_t h28).1).1,((or_t (and_t (and_t h28).1).2).imp (fun h=>(dec_t h)) (fun h=>(dec_t h)))⟩,((or_t (and_t h28).2).imp (fun h=>(eq_f (not_t h))) (fun h=>(eq_t h)))⟩ rfl)))))))),H.ext⟩
      ·have p28:=((and_f h28).imp (fun h=>((and_f h).imp (fun h=>h) (fun h=>(And.intro (dec_f (or_f h).1) (dec_f (or_f h).2))))) (fun h=>(And.intro (eq_t (not_f (or_f h).1)) (eq_f (or_f h).2))));refine go ?_;refine Rt [_] ?_;exact⟨ret1 (vi (Eq.symm (ite_no (fun q=>q.elim p6.1 p6.2) (ite_no (fun q=>q.elim (fun q=>q.elim (fun q=>q.elim (fun q=>q.elim (nf_t (not_f (or_f (or_f (or_f (or_f h13).1).1).1).1)) (fun q=>(and_f (or_f (or_f (or_f (or_f h13).1).1).1).2).elim (fun h=>(nf_t (not_f h)) q.1) (fun h=>(fun q=>q (beqB_eq.1 (not_f h))) q.2))) (fun q=>(and_f (or_f (or_f (or_f h13).1).1).2).elim (fun h=>(nf_t (not_f h)) q.1) (fun h=>(fun q=>q (eq_t (not_f h))) q.2))) (fun q=>(and_f (or_f (or_f h13).1).2).elim (fun h=>(nf_t (not_f h)) q.1) (fun h=>(fun q=>q (eq_t (not_f h))) q.2))) (fun q=>(and_f (or_f h13).2).elim (fun h=>(nf_t (not_f h)) q.1) (fun h=>(dec_f h) q.2))) (ite_no (fun q=>q p18) (ite_no (fun q=>(and_f h22).elim (fun h=>(nt_f h) q.1) (fun h=>(fun q=>q.elim (dec_f (or_f h).1) (dec_f (or_f h).2)) q.2)) (ite_no (fun q=>p25.elim (fun h=>(fun q=>h.elim (fun h=>h q.1) (fun h=>(fun q=>q h) q.2)) q.1) (fun h=>(fun q=>q h) q.2)) (ite_no (fun q=>(and_f h28).elim (fun h=>(fun q=>(and_f h).elim (fun h=>(nt_f h) q.1) (fun h=>(fun q=>q.elim (dec_f (or_f h).1) (dec_f (or_f h).2)) q.2)) q.1) (fun h=>(fun q=>q.elim (fun q=>q (eq_t (not_f (or_f h).1))) (eq_f (or_f h).2)) q.2)) rfl)))))))),H.ext⟩
end TW
end Go.Proofs.YtaclfjjipnpboaaGreatDoor
end
section
attribute [local irreducible] Go.Eng.WC Go.Eng.WL Go.Eng.WK Go.Eng.WQ Go.Eng.WX Go.Eng.Yld
namespace Go.Proofs.YtaclfjjipnpboaaGreatDoor
open Go Go.Eng Go.RowKit
namespace TW
theorem eqg86:Tryz.prog.eqGuardType Tryz.prog.depth 86=false:=by kernel_rfl
theorem eq86(a0:Int)(a1:Int)(b0:Int)(b1:Int)(w:World):(Op.equalIn 10000 86 (.agg #[.int .i64 a0,.int .i64 a1]) (.agg #[.int .i64 b0,.int .i64 b1])).run Tryz.prog w= .ok ((a0==b0)&&(a1==b1)) w:=by
 go_simp
 (repeat' split)<;>simp_all
theorem evs_any(A_l:Option Addr)(n_l c_l:Nat)(l:List Ev)(w:World)(h_l:Ls w A_l n_l c_l Ev.c 6 l)(g_l:EvsOk w l):
  Cr 161 #[.slice A_l n_l c_l] w (.int .i64 (evsE l)):=by
 have H:=(Hp.nil w);have e_l:=h_l.len;have z_l:=h_l.nle;refine Wb Tryz.func161 ?_;refine go ?_;refine sb [8,0,6,7] ?_;refine WC.loopS 1 (fun mz Ed W'=>∃j:Nat,mz=n_l-j∧Ed=[(8,.int .i64 ((j:Nat):Int))]∧Hp w W' ([])∧(j≤n_l)∧(fE (ev1 l) j=0)) _ ⟨0,rfl,rfl,(H.pick []),(Nat.zero_le _),rfl⟩ ?_;rintro _ _ z ⟨j,rfl,rfl,H,jl,hp⟩;refine go ?_;refine Cd (fun p6=> ?_) fun p6=> ?_
 ·have b9:j<n_l:=Om;refine go ?_;refine al H ti73 fun g10 z H=> ?_;refine go ?_;refine st H 0 ti73 fun z H=> ?_;refine go ?_;refine c1 H Fh (evcheck_any l[j]! _ ((g_l _ (mem_b (show j<l.length from Om))).ext H.ext)) fun z H=> ?_;refine go ?_;refine Cd (fun p15=> ?_) fun p15=> ?_
  ·refine go ?_;refine Rt [_] ?_;subst e_l;exact⟨ret1 (vi (Eq.symm (fE_ret hp (ite_to p15 rfl) p15 Om))),H.ext⟩
  ·refine go ?_;refine Qr ?_;refine G8 ?_;refine qg (fun hb=>Y.indexLs (j-1) (h_l.ext H.ext) rfl u53 ti73 (evg rfl hb) (evg rfl hb) (by have q0:=(dec_t hb);omega) (by have q0:=(dec_t hb);omega)) ?_;refine go ?_;refine Qd H fun z H=> ?_;refine G1 ?_;refine sb [0,6,7,8,30] ?_;refine Cd (fun p18=> ?_) fun p18=> ?_
   ·refine go ?_;refine Rt [_] ?_;subst e_l;exact⟨ret1 (vi (Eq.symm (fE_ret hp (ite_no (fun q=>q p15) (ite_to p18 rfl)) Dc Om))),H.ext⟩
   ·refine go ?_;exact Rs [(8,_)] Sx ⟨(j+1),rfl,rfl,(H.pick []),Om,(fE_next hp (ite_no (fun q=>q p15) (ite_no (fun q=>p18.elim (fun h=>h q.1) (fun h=>h q.2)) rfl)))⟩
 ·refine go ?_;refine Rt [_] ?_;subst e_l;exact⟨ret1 (vi (Eq.symm (fE_end hp Om))),H.ext⟩
theorem packet_any(x:Pk)(w:World)(h_x:x.ok w):
  Cr 125 #[.agg #[.int .i64 x.th,.int .i64 x.sr,.int .i64 x.ls,.slice x.A x.k x.c_]] w (.int .i64 (pkE x)):=by
 have H:=(Hp.nil w);have e_x:=h_x.l.len;have z_x:=h_x.l.nle;refine Wb Tryz.func125 ?_;refine go ?_;refine bx H fun g2 z H=> ?_;refine go ?_;refine bs (zs:=[.int .i64 0,.int .i64 0,.int .i64 0]) (cs:=[_,_,_]) H u81 ti3 fun g6 z H=> ?_;refine go ?_;refine sb [13,1,11,12] ?_;refine WC.loopS 1 (fun mz Ed W'=>∃j:Nat,mz=3-j∧Ed=[(13,.int .i64 ((j:Nat):Int))]∧Hp w W' (_::_::[])∧(j≤3)∧(fE (fun i=>if[x.th,x.sr,x.ls][i]! <0∨[x.th,x.sr,x.ls][i]! >1000000000000000 then 2 else 0) j=0)) _ ⟨0,rfl,rfl,(H.pick [0,0]),(Nat.zero_le _),rfl⟩ ?_;rintro _ _ z ⟨j,rfl,rfl,H,jl,hp⟩;refine go ?_;refine Cd (fun p10=> ?_) fun p10=> ?_
 ·have b13:j<3:=Om;refine G5 ?_;refine yy (Y.indexLs j (Ls.lit (f:=ic) (sz:=1) (l:=[x.th,x.sr,x.ls]) (H.b 0) (fun _=>rfl) rfl (by first|decide|exact(show 3≤maxLen by decide)) rfl) rfl u81 ti3 rfl rfl rfl b13) ?_;refine yy (ld rfl u3 rfl (Ls.at_eq (Ls.lit (f:=ic) (sz:=1) (l:=[x.th,x.sr,x.ls]) (H.b 0) (fun _=>rfl) rfl (by first|decide|exact(show 3≤maxLen by decide)) rfl) b13 rfl)) ?_;refine go ?_;refine Cd (fun p15=> ?_) fun p15=> ?_
  ·refine go ?_;refine Rt [_] ?_;exact⟨ret1 (vi (Eq.symm (ite_to (by rw[fE_ret hp (ite_to p15 rfl) Dc Om];decide) rfl))),H.ext⟩
  ·refine go ?_;exact Rs [(13,_)] Sx ⟨(j+1),rfl,rfl,(H.pick [0,0]),Om,(fE_next hp (ite_no (fun q=>q.elim p15.1 p15.2) rfl))⟩
 ·obtain rfl:j=3:=Om;have rg:=pk_rng hp;refine G16 ?_;refine sb [1,24] ?_;refine WC.cond rfl (fun h20=> ?_) (fun h20=> ?_)
  ·have p20:=(dec_t h20);refine go ?_;refine WC.sub [(1,_),(24,.bool true)] ⟨rfl,kn h20,trivial⟩ ?_;refine WC.condT rfl ?_;refine go ?_;refine Rt [_] ?_;exact⟨ret1 (vi (Eq.symm (ite_no (not_not_intro (fE_end hp Om)) (ite_to (dec_t h20) rfl)))),H.ext⟩
  ·have p20:=(dec_f h20);refine G6 ?_;refine yy (Y.add rfl rfl rfl rfl) ?_;refine go ?_;refine Cd (fun p22=> ?_) fun p22=> ?_
   ·refine go ?_;refine Rt [_] ?_;exact⟨ret1 (vi (Eq.symm (ite_no (not_not_intro (fE_end hp Om)) (ite_no (dec_f h20) (ite_to p22 rfl))))),H.ext⟩
   ·refine go ?_;refine Cd (fun p25=> ?_) fun p25=> ?_
    ·refine go ?_;refine Rt [_] ?_;exact⟨ret1 (vi (Eq.symm (ite_no (not_not_intro (fE_end hp Om)) (ite_no (dec_f h20) (ite_no p22 (ite_to p25 rfl)))))),H.ext⟩
    ·refine G7 ?_;refine sb [1,42] ?_;refine Cd (fun p28=> ?_) fun p28=> ?_
     ·refine go ?_;refine Rt [_] ?_;exact⟨ret1 (vi (Eq.symm (ite_no (not_not_intro (fE_end hp Om)) (ite_no (dec_f h20) (ite_no p22 (ite_no p25 (ite_to p28 rfl))))))),H.ext⟩
     ·refine go ?_;refine c1 H Fh (evs_any _ _ _ _ _ (h_x.ext H.ext).l (h_x.ext H.ext).e) fun z H=> ?_;refine go ?_;refine Rt [_] ?_;exact⟨ret1 (vi (Eq.symm (ite_no (not_not_intro (fE_end hp Om)) (ite_no (dec_f h20) (ite_no p22 (ite_no p25 (ite_no p28 rfl))))))),H.ext⟩
theorem thread_any(x:Th)(w:World):
  Cr 121 #[.agg #[.int .i64 x.id,.string x.nm,.int .i64 x.dom]] w (.int .i64 (thE x)):=by
 have H:=(Hp.nil w);refine Wb Tryz.func121 ?_;refine go ?_;refine bx H fun g2 z H=> ?_;refine go ?_;refine Cd (fun p6=> ?_) fun p6=> ?_
 ·refine G3 ?_;refine sb [2] ?_;refine go ?_;refine Rt [_] ?_;exact⟨ret1 (vi (Eq.symm (ite_to p6 rfl))),H.ext⟩
 ·refine go ?_;refine c1 H Fh (name_any _ _) fun z H=> ?_;refine go ?_;refine Rt [_] ?_;exact⟨ret1 (vi (Eq.symm (ite_no (fun q=>q.elim (fun q=>q.elim (fun q=>q.elim p6.1.1.1 p6.1.1.2) p6.1.2) p6.2) rfl))),H.ext⟩
theorem ixfD_any(A_l:Option Addr)(n_l c_l:Nat)(l:List Dm)(f:FuncId)(cap:List Value)(pr:Dm→Bool)(w:World)(h_l:Ls w A_l n_l c_l Dm.c 2 l)(hF:Has Tryz.prog f)(hp:∀k,k<l.length→∀w1,Ext w w1→Calls Tryz.prog f ([]++[Value.agg (Dm.c l[k]!).toArray]++cap).toArray w1 fun e w2=>e= .returned (.bool (pr l[k]!))∧Ext w1 w2):
  Cr 160 #[.slice A_l n_l c_l,.func (.func f) #[] cap.toArray] w (.int .i64 (ixP pr l)):=by
 have H:=(Hp.nil w);have e_l:=h_l.len;have z_l:=h_l.nle;refine Wb Tryz.func160 ?_;refine go ?_;refine sb [8,0,1,7] ?_;refine WC.loopS 1 (fun mz Ed W'=>∃j:Nat,mz=n_l-j∧Ed=[(8,.int .i64 ((j:Nat):Int))]∧Hp w W' ([])∧(j≤n_l)∧(∀k,k<j→pr l[k]! =false)) _ ⟨0,rfl,rfl,(H.pick []),(Nat.zero_le _),(fun k h=>absurd h (Nat.not_lt_zero k))⟩ ?_;rintro _ _ z ⟨j,rfl,rfl,H,jl,hb⟩;refine go ?_;refine Cd (fun p6=> ?_) fun p6=> ?_
 ·have b10:j<n_l:=Om;refine go ?_;refine c1V rfl H hF (hp j Om _ H.ext) fun z H=> ?_;refine go ?_;refine WC.cond rfl (fun h11=> ?_) (fun h11=> ?_)
  ·refine go ?_;refine Rt [_] ?_;exact⟨ret1 (vi (ixP_at Om hb h11).symm),H.ext⟩
  ·refine go ?_;exact Rs [(8,_)] Sx ⟨(j+1),rfl,rfl,(H.pick []),Om,(fun k h=>(Nat.lt_succ_iff_lt_or_eq.1 h).elim (hb k) fun e=>e▸h11)⟩
 ·refine go ?_;refine Rt [_] ?_;exact⟨ret1 (vi (ixP_no (fun k hk=>hb k Om)).symm),H.ext⟩
theorem cfD_any(A_l:Option Addr)(n_l c_l:Nat)(l:List Dm)(f:FuncId)(cap:List Value)(pr:Dm→Bool)(w:World)(h_l:Ls w A_l n_l c_l Dm.c 2 l)(hF:Has Tryz.prog f)(hp:∀k,k<l.length→∀w1,Ext w w1→Calls Tryz.prog f ([]++[Value.agg (Dm.c l[k]!).toArray]++cap).toArray w1 fun e w2=>e= .returned (.bool (pr l[k]!))∧Ext w1 w2):
  Cr 123 #[.slice A_l n_l c_l,.func (.func f) #[] cap.toArray] w (.bool (decide (ixP pr l≥0))):=by
 have H:=(Hp.nil w);have e_l:=h_l.len;have z_l:=h_l.nle;refine Wb Tryz.func123 ?_;refine G3 ?_;refine sb [0,1] ?_;refine go ?_;refine c1 H Fh (ixfD_any _ _ _ _ f cap pr _ (h_l.ext H.ext) hF (fun k hk w1 x1=>hp k hk w1 (H.ext.trans x1))) fun z H=> ?_;refine go ?_;refine Rt [_] ?_;exact⟨rfl,H.ext⟩
theorem clix1_any(x:Dm)(g:Nat)(i:Int)(w:World)(hg:Blk w g 3 [.int .i64 i]):
  Cr 209 #[.agg #[.int .i64 x.id,.int .i64 x.ppm],.pointer (some ⟨g,0,none⟩)] w (.bool (x.id==i)):=by
 have H:=(Hp.nil w);refine Wb Tryz.func209 ?_;refine go ?_;refine bx H fun g2 z H=> ?_;refine go ?_;refine Rt [_] ?_;exact⟨rfl,H.ext⟩
theorem clix_any(A_d:Option Addr)(n_d c_d:Nat)(d:List Dm)(i:Int)(w:World)(h_d:Ls w A_d n_d c_d Dm.c 2 d):
  Cr 187 #[.slice A_d n_d c_d,.int .i64 i] w (.int .i64 (ixD d i)):=by
 have H:=(Hp.nil w);have e_d:=h_d.len;have z_d:=h_d.nle;refine Wb Tryz.func187 ?_;refine go ?_;refine bx H fun g2 z H=> ?_;refine G4 ?_;refine yy (Y.func rfl rfl rfl) ?_;refine c1 H Fh (ixfD_any _ _ _ _ 209 [.pointer (some ⟨g2,0,none⟩)] (fun x=>x.id==i) _ (h_d.ext H.ext) Fh (fun k hk w1 x1=>clix1_any d[k]! g2 i w1 (Blk.ext ((H.b 0)) x1))) fun z H=> ?_;refine go ?_;refine Rt [_] ?_;exact⟨rfl,H.ext⟩
theorem reading_any(n:Int)(w:World):
  Cr 188 #[.int .i64 n] w (.bool (rdB n)):=by
 have H:=(Hp.nil w);refine Wb Tryz.func188 ?_;refine go ?_;refine Rt [_] ?_;exact⟨rfl,H.ext⟩
theorem domains_any(A_d:Option Addr)(n_d c_d:Nat)(d:List Dm)(w:World)(h_d:Ls w A_d n_d c_d Dm.c 2 d):
  Cr 158 #[.slice A_d n_d c_d] w (.int .i64 (dmsE d)):=by
 have H:=(Hp.nil w);have e_d:=h_d.len;have z_d:=h_d.nle;refine Wb Tryz.func158 ?_;refine G3 ?_;refine sb [0] ?_;refine go ?_;refine sb [7,0,5,6] ?_;refine WC.loopS 1 (fun mz Ed W'=>∃j:Nat,mz=n_d-j∧Ed=[(7,.int .i64 ((j:Nat):Int))]∧Hp w W' ([])∧(j≤n_d)∧(fE (dm1 d) j=0)) _ ⟨0,rfl,rfl,(H.pick []),(Nat.zero_le _),rfl⟩ ?_;rintro _ _ z ⟨j,rfl,rfl,H,jl,hp⟩;refine go ?_;refine Cd (fun p6=> ?_) fun p6=> ?_
 ·have b9:j<n_d:=Om;refine go ?_;refine al H ti86 fun g10 z H=> ?_;refine go ?_;refine st H 0 ti86 fun z H=> ?_;refine go ?_;refine Cd (fun p14=> ?_) fun p14=> ?_
  ·refine G3 ?_;refine sb [2] ?_;refine go ?_;refine Rt [_] ?_;subst e_d;exact⟨ret1 (vi (Eq.symm (fE_ret hp (ite_to p14 rfl) Dc Om))),H.ext⟩
  ·refine go ?_;refine Qr ?_;have b17:j≤n_d:=Om;refine G2 ?_;refine yq (Y.sliceH j rfl u23 ti86 rfl rfl rfl (Nat.le_trans b17 (h_d.ext H.ext).le)) ?_;refine G2 ?_;refine WQ.call rfl (blt rfl) rfl rfl rfl Fh rfl (fun w hw=>calls_ext hw (clix_any _ _ _ _ _ _ (Ls.ext ((h_d.ext H.ext).take b17) hw))) ?_;refine go ?_;refine Qd H fun z H=> ?_;refine go ?_;refine Cd (fun p18=> ?_) fun p18=> ?_
   ·refine go ?_;refine Rt [_] ?_;subst e_d;exact⟨ret1 (vi (Eq.symm (fE_ret hp (ite_no (fun q=>q.elim (fun q=>q.elim (fun q=>q.elim p14.1.1.1 p14.1.1.2) p14.1.2) p14.2) (ite_to p18 rfl)) Dc Om))),H.ext⟩
   ·refine go ?_;exact Rs [(7,_)] Sx ⟨(j+1),rfl,rfl,(H.pick []),Om,(fE_next hp (ite_no (fun q=>q.elim (fun q=>q.elim (fun q=>q.elim p14.1.1.1 p14.1.1.2) p14.1.2) p14.2) (ite_no p18 rfl)))⟩
 ·refine go ?_;refine Rt [_] ?_;subst e_d;exact⟨ret1 (vi (Eq.symm (fE_end hp Om))),H.ext⟩
theorem snap_any(A_d:Option Addr)(n_d c_d:Nat)(d:List Dm)(x:Sn)(w:World)(h_d:Ls w A_d n_d c_d Dm.c 2 d):
  Cr 159 #[.slice A_d n_d c_d,.agg #[.int .i64 x.a,.int .i64 x.ta,.int .i64 x.b,.int .i64 x.lo,.int .i64 x.hi]] w (.int .i64 (snE d x)):=by
 have H:=(Hp.nil w);have e_d:=h_d.len;have z_d:=h_d.nle;refine Wb Tryz.func159 ?_;refine go ?_;refine bx H fun g2 z H=> ?_;refine G2 ?_;refine sb [0,3] ?_;refine go ?_;refine c1 H Fh (clix_any _ _ _ _ _ _ (h_d.ext H.ext)) fun z H=> ?_;refine go ?_;refine WC.cond rfl (fun h7=> ?_) (fun h7=> ?_)
 ·have p7:=(dec_t h7);refine go ?_;refine WC.sub [(3,_),(5,.bool true)] ⟨rfl,kn h7,trivial⟩ ?_;refine WC.condT rfl ?_;refine go ?_;refine Rt [_] ?_;exact⟨ret1 (vi (Eq.symm (ite_to (dec_t h7) rfl))),H.ext⟩
 ·have p7:=(dec_f h7);refine go ?_;refine c1 H Fh (clix_any _ _ _ _ _ _ (h_d.ext H.ext)) fun z H=> ?_;refine go ?_;refine Cd (fun p9=> ?_) fun p9=> ?_
  ·refine go ?_;refine Rt [_] ?_;exact⟨ret1 (vi (Eq.symm (ite_no (dec_f h7) (ite_to p9 rfl)))),H.ext⟩
  ·refine go ?_;refine Cd (fun p12=> ?_) fun p12=> ?_
   ·refine G3 ?_;refine sb [4] ?_;refine go ?_;refine Rt [_] ?_;exact⟨ret1 (vi (Eq.symm (ite_no (dec_f h7) (ite_no p9 (ite_to p12 rfl))))),H.ext⟩
   ·refine go ?_;refine c1 H Fh (reading_any _ _) fun z H=> ?_;refine go ?_;refine WC.cond rfl (fun h16=> ?_) (fun h16=> ?_)
    ·refine go ?_;refine WC.sub [(22,.bool true)] ⟨kn h16,trivial⟩ ?_;refine WC.condT rfl ?_;refine go ?_;refine Rt [_] ?_;exact⟨ret1 (vi (Eq.symm (ite_no (dec_f h7) (ite_no p9 (ite_no p12 (ite_to (not_t h16) rfl)))))),H.ext⟩
    ·refine go ?_;refine c1 H Fh (reading_any _ _) fun z H=> ?_;refine go ?_;refine WC.cond rfl (fun h19=> ?_) (fun h19=> ?_)
     ·refine go ?_;refine WC.sub [(22,.bool true)] ⟨kn h19,trivial⟩ ?_;refine WC.condT rfl ?_;refine go ?_;refine Rt [_] ?_;exact⟨ret1 (vi (Eq.symm (ite_no (dec_f h7) (ite_no p9 (ite_no p12 (ite_no (nf_t (not_f h16)) (ite_to (not_t h19) rfl))))))),H.ext⟩
     ·refine go ?_;refine c1 H Fh (reading_any _ _) fun z H=> ?_;refine go ?_;refine WC.cond rfl (fun h22=> ?_) (fun h22=> ?_)
      ·refine go ?_;refine WC.sub [(22,.bool true)] ⟨kn h22,trivial⟩ ?_;refine WC.condT rfl ?_;refine G3 ?_;refine sb [4] ?_;refine go ?_;refine Rt [_] ?_;exact⟨ret1 (vi (Eq.symm (ite_no (dec_f h7) (ite_no p9 (ite_no p12 (ite_no (nf_t (not_f h16)) (ite_no (nf_t (not_f h19)) (ite_to (not_t h22) rfl)))))))),H.ext⟩
      ·refine go ?_;refine Cd (fun p24=> ?_) fun p24=> ?_
       ·refine go ?_;refine Rt [_] ?_;exact⟨ret1 (vi (Eq.symm (ite_no (dec_f h7) (ite_no p9 (ite_no p12 (ite_no (nf_t (not_f h16)) (ite_no (nf_t (not_f h19)) (ite_no (nf_t (not_f h22)) (ite_to p24 rfl))))))))),H.ext⟩
       ·refine go ?_;refine Rt [_] ?_;exact⟨ret1 (vi (Eq.symm (ite_no (dec_f h7) (ite_no p9 (ite_no p12 (ite_no (nf_t (not_f h16)) (ite_no (nf_t (not_f h19)) (ite_no (nf_t (not_f h22)) (ite_no p24 rfl))))))))),H.ext⟩
theorem clcheck_any(A_d:Option Addr)(n_d c_d:Nat)(d:List Dm)(A_l:Option Addr)(n_l c_l:Nat)(l:List Sn)(w:World)(h_d:Ls w A_d n_d c_d Dm.c 2 d)(h_l:Ls w A_l n_l c_l Sn.c 5 l):
  Cr 122 #[.slice A_d n_d c_d,.slice A_l n_l c_l] w (.int .i64 (ckE d l)):=by
 have H:=(Hp.nil w);have e_d:=h_d.len;have z_d:=h_d.nle;have e_l:=h_l.len;have z_l:=h_l.nle;refine Wb Tryz.func122 ?_;refine go ?_;refine Cd (fun p4=> ?_) fun p4=> ?_
 ·refine go ?_;refine Rt [_] ?_;subst e_d;subst e_l;exact⟨ret1 (vi (Eq.symm (ite_to p4 rfl))),H.ext⟩
 ·refine G13 ?_;refine sb [0,1,19] ?_;refine Cd (fun p8=> ?_) fun p8=> ?_
  ·refine go ?_;refine Rt [_] ?_;subst e_d;subst e_l;exact⟨ret1 (vi (Eq.symm (ite_no p4 (ite_to p8 rfl)))),H.ext⟩
  ·have b12:0<n_d:=Om;refine G8 ?_;refine yy (Y.neqS rfl eqg86 (eq86 _ _ _ _) rfl rfl) ?_;refine go ?_;refine WC.cond rfl (fun h13=> ?_) (fun h13=> ?_)
   ·refine go ?_;refine Rt [_] ?_;subst e_d;subst e_l;exact⟨ret1 (vi (Eq.symm (ite_no p4 (ite_no (fun q=>q.elim p8.1 p8.2) (ite_to (not_t h13) rfl))))),H.ext⟩
   ·refine go ?_;refine c1 H Fh (domains_any _ _ _ _ _ (h_d.ext H.ext)) fun z H=> ?_;refine go ?_;refine Cd (fun p18=> ?_) fun p18=> ?_
    ·refine go ?_;refine Rt [_] ?_;subst e_d;subst e_l;exact⟨ret1 (vi (Eq.symm (ite_no p4 (ite_no (fun q=>q.elim p8.1 p8.2) (ite_no (nf_t (not_f h13)) (ite_to p18 rfl)))))),H.ext⟩
    ·refine G8 ?_;refine sb [0,30,31,32] ?_;refine go ?_;refine sb [32,0,30,31] ?_;refine WC.loopS 1 (fun mz Ed W'=>∃j:Nat,mz=n_l-j∧Ed=[(32,.int .i64 ((j:Nat):Int))]∧Hp w W' ([])∧(j≤n_l)∧(fE (fun i=>snE d l[i]!) j=0)) _ ⟨0,rfl,rfl,(H.pick []),(Nat.zero_le _),rfl⟩ ?_;rintro _ _ z ⟨j,rfl,rfl,H,jl,hp⟩;refine go ?_;refine Cd (fun p24=> ?_) fun p24=> ?_
     ·have b27:j<n_l:=Om;refine go ?_;refine al H ti98 fun g28 z H=> ?_;refine st H 0 ti98 fun z H=> ?_;refine go ?_;refine c1 H Fh (snap_any _ _ _ d l[j]! _ (h_d.ext H.ext)) fun z H=> ?_;refine go ?_;refine Cd (fun p32=> ?_) fun p32=> ?_
      ·refine go ?_;refine Rt [_] ?_;subst e_d;subst e_l;exact⟨ret1 (vi (Eq.symm (ite_no p4 (ite_no (fun q=>q.elim p8.1 p8.2) (ite_no (nf_t (not_f h13)) (ite_no (fun q=>q p18) (fE_ret hp rfl p32 Om))))))),H.ext⟩
      ·refine go ?_;exact Rs [(32,_)] Sx ⟨(j+1),rfl,rfl,(H.pick []),Om,(fE_next hp (Decidable.of_not_not (fun q=>q p32)))⟩
     ·refine go ?_;refine Rt [_] ?_;subst e_d;subst e_l;exact⟨ret1 (vi (Eq.symm (ite_no p4 (ite_no (fun q=>q.elim p8.1 p8.2) (ite_no (nf_t (not_f h13)) (ite_no (fun q=>q p18) (fE_end hp Om))))))),H.ext⟩
theorem eqg68:Tryz.prog.eqGuardType Tryz.prog.depth 68=false:=by kernel_rfl
theorem eq68(a0:Int)(a1:ByteArray)(a2:Int)(b0:Int)(b1:ByteArray)(b2:Int)(w:World):(Op.equalIn 10000 68 (.agg #[.int .i64 a0,.string a1,.int .i64 a2]) (.agg #[.int .i64 b0,.string b1,.int .i64 b2])).run Tryz.prog w= .ok ((a0==b0)&&(a1==b1)&&(a2==b2)) w:=by
 go_simp
 (repeat' split)<;>simp_all [beq_toListBytes]
theorem eqg98:Tryz.prog.eqGuardType Tryz.prog.depth 98=false:=by kernel_rfl
theorem eq98(a0:Int)(a1:Int)(a2:Int)(a3:Int)(a4:Int)(b0:Int)(b1:Int)(b2:Int)(b3:Int)(b4:Int)(w:World):(Op.equalIn 10000 98 (.agg #[.int .i64 a0,.int .i64 a1,.int .i64 a2,.int .i64 a3,.int .i64 a4]) (.agg #[.int .i64 b0,.int .i64 b1,.int .i64 b2,.int .i64 b3,.int .i64 b4])).run Tryz.prog w= .ok ((a0==b0)&&(a1==b1)&&(a2==b2)&&((a3==b3)&&(a4==b4))) w:=by
 go_simp
 (repeat' split)<;>simp_all
theorem eqS_any(A_l:Option Addr)(n_l c_l:Nat)(l:List ByteArray)(A_m:Option Addr)(n_m c_m:Nat)(m:List ByteArray)(w:World)(h_l:Ls w A_l n_l c_l sc 1 l)(h_m:Ls w A_m n_m c_m sc 1 m):
  Cr 99 #[.slice A_l n_l c_l,.slice A_m n_m c_m] w (.bool (eqW (fun x y=>x==y) l m)):=by
 have H:=(Hp.nil w);have e_l:=h_l.len;have z_l:=h_l.nle;have e_m:=h_m.len;have z_m:=h_m.nle;refine Wb Tryz.func99 ?_;refine go ?_;refine Cd (fun p4=> ?_) fun p4=> ?_
 ·refine go ?_;refine Rt [_] ?_;exact⟨ret1 (vb (eqW_len Om).symm),H.ext⟩
 ·refine go ?_;refine sb [13,0,1,12] ?_;refine WC.loopS 1 (fun mz Ed W'=>∃j:Nat,mz=n_l-j∧Ed=[(13,.int .i64 ((j:Nat):Int))]∧Hp w W' ([])∧(j≤n_l)∧(∀k,k<j→(fun x y=>x==y) l[k]! m[k]! =true)) _ ⟨0,rfl,rfl,(H.pick []),(Nat.zero_le _),(fun k h=>absurd h (Nat.not_lt_zero k))⟩ ?_;rintro _ _ z ⟨j,rfl,rfl,H,jl,he⟩;refine go ?_;refine Cd (fun p10=> ?_) fun p10=> ?_
  ·refine go ?_;refine Qr ?_;have b14:j<n_l:=Om;have b15:j<n_m:=Om;refine go ?_;refine Qd H fun z H=> ?_;refine go ?_;refine WC.cond rfl (fun h16=> ?_) (fun h16=> ?_)
   ·have p16:=(beqB_ne.1 (not_t h16));refine go ?_;refine Rt [_] ?_;exact⟨ret1 (vb (eqW_no (j:=j) Om (not_t h16)).symm),H.ext⟩
   ·have p16:=(beqB_eq.1 (not_f h16));refine go ?_;exact Rs [(13,_)] Sx ⟨(j+1),rfl,rfl,(H.pick []),Om,(all_next he (not_f h16))⟩
  ·refine go ?_;refine Rt [_] ?_;exact⟨ret1 (vb (eqW_yes Om (fun k hk=>he k Om)).symm),H.ext⟩
theorem eqT_any(A_l:Option Addr)(n_l c_l:Nat)(l:List Th)(A_m:Option Addr)(n_m c_m:Nat)(m:List Th)(w:World)(h_l:Ls w A_l n_l c_l Th.c 3 l)(h_m:Ls w A_m n_m c_m Th.c 3 m):
  Cr 23 #[.slice A_l n_l c_l,.slice A_m n_m c_m] w (.bool (eqW thSame l m)):=by
 have H:=(Hp.nil w);have e_l:=h_l.len;have z_l:=h_l.nle;have e_m:=h_m.len;have z_m:=h_m.nle;refine Wb Tryz.func23 ?_;refine G11 ?_;refine sb [0,1,10] ?_;refine Cd (fun p4=> ?_) fun p4=> ?_
 ·refine go ?_;refine Rt [_] ?_;exact⟨ret1 (vb (eqW_len Om).symm),H.ext⟩
 ·refine go ?_;refine sb [13,0,1,12] ?_;refine WC.loopS 1 (fun mz Ed W'=>∃j:Nat,mz=n_l-j∧Ed=[(13,.int .i64 ((j:Nat):Int))]∧Hp w W' ([])∧(j≤n_l)∧(∀k,k<j→thSame l[k]! m[k]! =true)) _ ⟨0,rfl,rfl,(H.pick []),(Nat.zero_le _),(fun k h=>absurd h (Nat.not_lt_zero k))⟩ ?_;rintro _ _ z ⟨j,rfl,rfl,H,jl,he⟩;refine go ?_;refine Cd (fun p10=> ?_) fun p10=> ?_
  ·refine go ?_;refine Qr ?_;have b14:j<n_l:=Om;have b15:j<n_m:=Om;refine G8 ?_;refine yq (Y.neqS rfl eqg68 (eq68 _ _ _ _ _ _) rfl rfl) ?_;refine Qd H fun z H=> ?_;refine go ?_;refine WC.cond rfl (fun h16=> ?_) (fun h16=> ?_)
   ·refine go ?_;refine Rt [_] ?_;exact⟨ret1 (vb (eqW_no (j:=j) Om (not_t h16)).symm),H.ext⟩
   ·refine go ?_;exact Rs [(13,_)] Sx ⟨(j+1),rfl,rfl,(H.pick []),Om,(all_next he (not_f h16))⟩
  ·refine go ?_;refine Rt [_] ?_;exact⟨ret1 (vb (eqW_yes Om (fun k hk=>he k Om)).symm),H.ext⟩
theorem eqD_any(A_l:Option Addr)(n_l c_l:Nat)(l:List Dm)(A_m:Option Addr)(n_m c_m:Nat)(m:List Dm)(w:World)(h_l:Ls w A_l n_l c_l Dm.c 2 l)(h_m:Ls w A_m n_m c_m Dm.c 2 m):
  Cr 24 #[.slice A_l n_l c_l,.slice A_m n_m c_m] w (.bool (eqW dmSame l m)):=by
 have H:=(Hp.nil w);have e_l:=h_l.len;have z_l:=h_l.nle;have e_m:=h_m.len;have z_m:=h_m.nle;refine Wb Tryz.func24 ?_;refine G11 ?_;refine sb [0,1,10] ?_;refine Cd (fun p4=> ?_) fun p4=> ?_
 ·refine go ?_;refine Rt [_] ?_;exact⟨ret1 (vb (eqW_len Om).symm),H.ext⟩
 ·refine go ?_;refine sb [13,0,1,12] ?_;refine WC.loopS 1 (fun mz Ed W'=>∃j:Nat,mz=n_l-j∧Ed=[(13,.int .i64 ((j:Nat):Int))]∧Hp w W' ([])∧(j≤n_l)∧(∀k,k<j→dmSame l[k]! m[k]! =true)) _ ⟨0,rfl,rfl,(H.pick []),(Nat.zero_le _),(fun k h=>absurd h (Nat.not_lt_zero k))⟩ ?_;rintro _ _ z ⟨j,rfl,rfl,H,jl,he⟩;refine go ?_;refine Cd (fun p10=> ?_) fun p10=> ?_
  ·refine go ?_;refine Qr ?_;have b14:j<n_l:=Om;have b15:j<n_m:=Om;refine G8 ?_;refine yq (Y.neqS rfl eqg86 (eq86 _ _ _ _) rfl rfl) ?_;refine Qd H fun z H=> ?_;refine go ?_;refine WC.cond rfl (fun h16=> ?_) (fun h16=> ?_)
   ·refine go ?_;refine Rt [_] ?_;exact⟨ret1 (vb (eqW_no (j:=j) Om (not_t h16)).symm),H.ext⟩
   ·refine go ?_;exact Rs [(13,_)] Sx ⟨(j+1),rfl,rfl,(H.pick []),Om,(all_next he (not_f h16))⟩
  ·refine go ?_;refine Rt [_] ?_;exact⟨ret1 (vb (eqW_yes Om (fun k hk=>he k Om)).symm),H.ext⟩
theorem eqN_any(A_l:Option Addr)(n_l c_l:Nat)(l:List Sn)(A_m:Option Addr)(n_m c_m:Nat)(m:List Sn)(w:World)(h_l:Ls w A_l n_l c_l Sn.c 5 l)(h_m:Ls w A_m n_m c_m Sn.c 5 m):
  Cr 25 #[.slice A_l n_l c_l,.slice A_m n_m c_m] w (.bool (eqW snSame l m)):=by
 have H:=(Hp.nil w);have e_l:=h_l.len;have z_l:=h_l.nle;have e_m:=h_m.len;have z_m:=h_m.nle;refine Wb Tryz.func25 ?_;refine G11 ?_;refine sb [0,1,10] ?_;refine Cd (fun p4=> ?_) fun p4=> ?_
 ·refine go ?_;refine Rt [_] ?_;exact⟨ret1 (vb (eqW_len Om).symm),H.ext⟩
 ·refine go ?_;refine sb [13,0,1,12] ?_;refine WC.loopS 1 (fun mz Ed W'=>∃j:Nat,mz=n_l-j∧Ed=[(13,.int .i64 ((j:Nat):Int))]∧Hp w W' ([])∧(j≤n_l)∧(∀k,k<j→snSame l[k]! m[k]! =true)) _ ⟨0,rfl,rfl,(H.pick []),(Nat.zero_le _),(fun k h=>absurd h (Nat.not_lt_zero k))⟩ ?_;rintro _ _ z ⟨j,rfl,rfl,H,jl,he⟩;refine go ?_;refine Cd (fun p10=> ?_) fun p10=> ?_
  ·refine go ?_;refine Qr ?_;have b14:j<n_l:=Om;have b15:j<n_m:=Om;refine G8 ?_;refine yq (Y.neqS rfl eqg98 (eq98 _ _ _ _ _ _ _ _ _ _) rfl rfl) ?_;refine Qd H fun z H=> ?_;refine go ?_;refine WC.cond rfl (fun h16=> ?_) (fun h16=> ?_)
   ·refine go ?_;refine Rt [_] ?_;exact⟨ret1 (vb (eqW_no (j:=j) Om (not_t h16)).symm),H.ext⟩
   ·refine go ?_;exact Rs [(13,_)] Sx ⟨(j+1),rfl,rfl,(H.pick []),Om,(all_next he (not_f h16))⟩
  ·refine go ?_;refine Rt [_] ?_;exact⟨ret1 (vb (eqW_yes Om (fun k hk=>he k Om)).symm),H.ext⟩
theorem evsame_any(x:Ev)(y:Ev)(w:World)(h_x:Ls w x.A x.k x.c_ sc 1 x.st)(h_y:Ls w y.A y.k y.c_ sc 1 y.st):
  Cr 72 #[.agg #[.int .i64 x.at_,.int .i64 x.kd,.string x.nm,.int .i64 x.n,.int .i64 x.m,.slice x.A x.k x.c_],.agg #[.int .i64 y.at_,.int .i64 y.kd,.string y.nm,.int .i64 y.n,.int .i64 y.m,.slice y.A y.k y.c_]] w (.bool (evSame x y)):=by
 have H:=(Hp.nil w);have e_x:=h_x.len;have z_x:=h_x.nle;have e_y:=h_y.len;have z_y:=h_y.nle;refine Wb Tryz.func72 ?_;refine go ?_;refine bx H fun g2 z H=> ?_;refine bx H fun g4 z H=> ?_;refine G2 ?_;refine sb [2,3] ?_;refine G30 ?_;refine G9 ?_;refine WL.callG rfl (blt rfl) rfl rfl rfl rfl rfl Fh (fun hb=>(evs_cons (evg rfl hb) (evs_cons (evg rfl hb) evs_nil))) (fun hb=>eqS_any _ _ _ _ _ _ _ _ _ (h_x.ext H.ext) (h_y.ext H.ext)) (fun z x=> ?_);have H:=H.ex x;refine G3 ?_;refine sb [4] ?_;refine go ?_;refine Rt [_] ?_;exact⟨rfl,H.ext⟩
theorem eqEv_any(A_l:Option Addr)(n_l c_l:Nat)(l:List Ev)(A_m:Option Addr)(n_m c_m:Nat)(m:List Ev)(w:World)(h_l:Ls w A_l n_l c_l Ev.c 6 l)(g_l:EvsOk w l)(h_m:Ls w A_m n_m c_m Ev.c 6 m)(g_m:EvsOk w m):
  Cr 71 #[.slice A_l n_l c_l,.slice A_m n_m c_m,.func (.func 72) #[] #[]] w (.bool (eqW evSame l m)):=by
 have H:=(Hp.nil w);have e_l:=h_l.len;have z_l:=h_l.nle;have e_m:=h_m.len;have z_m:=h_m.nle;refine Wb Tryz.func71 ?_;refine go ?_;refine Cd (fun p4=> ?_) fun p4=> ?_
 ·refine go ?_;refine Rt [_] ?_;exact⟨ret1 (vb (eqW_len Om).symm),H.ext⟩
 ·refine go ?_;refine sb [17,1,2,15,16] ?_;refine WC.loopS 1 (fun mz Ed W'=>∃j:Nat,mz=n_l-j∧Ed=[(17,.int .i64 ((j:Nat):Int))]∧Hp w W' ([])∧(j≤n_l)∧(∀k,k<j→evSame l[k]! m[k]! =true)) _ ⟨0,rfl,rfl,(H.pick []),(Nat.zero_le _),(fun k h=>absurd h (Nat.not_lt_zero k))⟩ ?_;rintro _ _ z ⟨j,rfl,rfl,H,jl,he⟩;refine go ?_;refine Cd (fun p10=> ?_) fun p10=> ?_
  ·have b13:j<n_l:=Om;refine go ?_;refine al H ti73 fun g14 z H=> ?_;refine go ?_;refine st H 0 ti73 fun z H=> ?_;have b17:j<n_m:=Om;refine go ?_;refine al H ti73 fun g18 z H=> ?_;refine st H 0 ti73 fun z H=> ?_;refine go ?_;refine c1V (fst:=[]) (cap:=[]) rfl H Fh (evsame_any l[j]! m[j]! _ ((g_l _ (mem_b (show j<l.length from Om))).ext H.ext) ((g_m _ (mem_b (show j<m.length from Om))).ext H.ext)) fun z H=> ?_;refine go ?_;refine WC.cond rfl (fun h21=> ?_) (fun h21=> ?_)
   ·refine go ?_;refine Rt [_] ?_;exact⟨ret1 (vb (eqW_no (j:=j) Om (not_t h21)).symm),H.ext⟩
   ·refine G3 ?_;refine sb [1,2,15,16,17] ?_;refine go ?_;exact Rs [(17,_)] Sx ⟨(j+1),rfl,rfl,(H.pick []),Om,(all_next he (not_f h21))⟩
  ·refine go ?_;refine Rt [_] ?_;exact⟨ret1 (vb (eqW_yes Om (fun k hk=>he k Om)).symm),H.ext⟩
theorem pksame_any(x:Pk)(y:Pk)(w:World)(h_x:x.ok w)(h_y:y.ok w):
  Cr 28 #[.agg #[.int .i64 x.th,.int .i64 x.sr,.int .i64 x.ls,.slice x.A x.k x.c_],.agg #[.int .i64 y.th,.int .i64 y.sr,.int .i64 y.ls,.slice y.A y.k y.c_]] w (.bool (pkSame x y)):=by
 have H:=(Hp.nil w);have e_x:=h_x.l.len;have z_x:=h_x.l.nle;have e_y:=h_y.l.len;have z_y:=h_y.l.nle;refine Wb Tryz.func28 ?_;refine go ?_;refine bx H fun g2 z H=> ?_;refine bx H fun g4 z H=> ?_;refine G2 ?_;refine sb [2,3] ?_;refine G25 ?_;refine WL.callG rfl (blt rfl) rfl rfl rfl rfl rfl Fh (fun hb=>(evs_cons (evg rfl hb) (evs_cons (evg rfl hb) (evs_cons rfl evs_nil)))) (fun hb=>eqEv_any _ _ _ _ _ _ _ _ _ (h_x.ext H.ext).l (h_x.ext H.ext).e (h_y.ext H.ext).l (h_y.ext H.ext).e) (fun z x=> ?_);have H:=H.ex x;refine go ?_;refine Rt [_] ?_;exact⟨rfl,H.ext⟩
theorem pksame1_any(x:Pk)(y:Pk)(w:World)(h_x:x.ok w)(h_y:y.ok w):
  Cr 27 #[.agg #[.int .i64 x.th,.int .i64 x.sr,.int .i64 x.ls,.slice x.A x.k x.c_],.agg #[.int .i64 y.th,.int .i64 y.sr,.int .i64 y.ls,.slice y.A y.k y.c_]] w (.bool (pkSame x y)):=by
 have H:=(Hp.nil w);have e_x:=h_x.l.len;have z_x:=h_x.l.nle;have e_y:=h_y.l.len;have z_y:=h_y.l.nle;refine Wb Tryz.func27 ?_;refine go ?_;refine bx H fun g2 z H=> ?_;refine bx H fun g4 z H=> ?_;refine go ?_;refine c1 H Fh (pksame_any x y _ ⟨(h_x.ext H.ext).l,(h_x.ext H.ext).e⟩ ⟨(h_y.ext H.ext).l,(h_y.ext H.ext).e⟩) fun z H=> ?_;refine go ?_;refine Rt [_] ?_;exact⟨rfl,H.ext⟩
theorem eqPk_any(A_l:Option Addr)(n_l c_l:Nat)(l:List Pk)(A_m:Option Addr)(n_m c_m:Nat)(m:List Pk)(w:World)(h_l:Ls w A_l n_l c_l Pk.c 4 l)(g_l:PksOk w l)(h_m:Ls w A_m n_m c_m Pk.c 4 m)(g_m:PksOk w m):
  Cr 26 #[.slice A_l n_l c_l,.slice A_m n_m c_m,.func (.func 27) #[] #[]] w (.bool (eqW pkSame l m)):=by
 have H:=(Hp.nil w);have e_l:=h_l.len;have z_l:=h_l.nle;have e_m:=h_m.len;have z_m:=h_m.nle;refine Wb Tryz.func26 ?_;refine G11 ?_;refine sb [0,1,2,14] ?_;refine Cd (fun p4=> ?_) fun p4=> ?_
 ·refine go ?_;refine Rt [_] ?_;exact⟨ret1 (vb (eqW_len Om).symm),H.ext⟩
 ·refine go ?_;refine sb [17,1,2,15,16] ?_;refine WC.loopS 1 (fun mz Ed W'=>∃j:Nat,mz=n_l-j∧Ed=[(17,.int .i64 ((j:Nat):Int))]∧Hp w W' ([])∧(j≤n_l)∧(∀k,k<j→pkSame l[k]! m[k]! =true)) _ ⟨0,rfl,rfl,(H.pick []),(Nat.zero_le _),(fun k h=>absurd h (Nat.not_lt_zero k))⟩ ?_;rintro _ _ z ⟨j,rfl,rfl,H,jl,he⟩;refine go ?_;refine Cd (fun p10=> ?_) fun p10=> ?_
  ·have b13:j<n_l:=Om;refine go ?_;refine al H ti55 fun g14 z H=> ?_;refine go ?_;refine st H 0 ti55 fun z H=> ?_;have b17:j<n_m:=Om;refine go ?_;refine al H ti55 fun g18 z H=> ?_;refine st H 0 ti55 fun z H=> ?_;refine go ?_;refine c1V (fst:=[]) (cap:=[]) rfl H Fh (pksame1_any l[j]! m[j]! _ ⟨((g_l _ (mem_b (show j<l.length from Om))).ext H.ext).l,((g_l _ (mem_b (show j<l.length from Om))).ext H.ext).e⟩ ⟨((g_m _ (mem_b (show j<m.length from Om))).ext H.ext).l,((g_m _ (mem_b (show j<m.length from Om))).ext H.ext).e⟩) fun z H=> ?_;refine go ?_;refine WC.cond rfl (fun h21=> ?_) (fun h21=> ?_)
   ·refine go ?_;refine Rt [_] ?_;exact⟨ret1 (vb (eqW_no (j:=j) Om (not_t h21)).symm),H.ext⟩
   ·refine G3 ?_;refine sb [1,2,15,16,17] ?_;refine go ?_;exact Rs [(17,_)] Sx ⟨(j+1),rfl,rfl,(H.pick []),Om,(all_next he (not_f h21))⟩
  ·refine go ?_;refine Rt [_] ?_;exact⟨ret1 (vb (eqW_yes Om (fun k hk=>he k Om)).symm),H.ext⟩
theorem lgsame_any(A_ta:Option Addr)(n_ta c_ta:Nat)(ta:List Th)(A_da:Option Addr)(n_da c_da:Nat)(da:List Dm)(A_na:Option Addr)(n_na c_na:Nat)(na:List Sn)(A_pa:Option Addr)(n_pa c_pa:Nat)(pa:List Pk)(A_tb:Option Addr)(n_tb c_tb:Nat)(tb:List Th)(A_db:Option Addr)(n_db c_db:Nat)(db:List Dm)(A_nb:Option Addr)(n_nb c_nb:Nat)(nb:List Sn)(A_pb:Option Addr)(n_pb c_pb:Nat)(pb:List Pk)(w:World)(h_ta:Ls w A_ta n_ta c_ta Th.c 3 ta)(h_da:Ls w A_da n_da c_da Dm.c 2 da)(h_na:Ls w A_na n_na c_na Sn.c 5 na)(h_pa:Ls w A_pa n_pa c_pa Pk.c 4 pa)(g_pa:PksOk w pa)(h_tb:Ls w A_tb n_tb c_tb Th.c 3 tb)(h_db:Ls w A_db n_db c_db Dm.c 2 db)(h_nb:Ls w A_nb n_nb c_nb Sn.c 5 nb)(h_pb:Ls w A_pb n_pb c_pb Pk.c 4 pb)(g_pb:PksOk w pb):
  Cr 8 #[.agg #[.slice A_ta n_ta c_ta,.slice A_da n_da c_da,.slice A_na n_na c_na,.slice A_pa n_pa c_pa],.agg #[.slice A_tb n_tb c_tb,.slice A_db n_db c_db,.slice A_nb n_nb c_nb,.slice A_pb n_pb c_pb]] w (.bool (lgSame ta tb da db na nb pa pb)):=by
 have H:=(Hp.nil w);have e_ta:=h_ta.len;have z_ta:=h_ta.nle;have e_da:=h_da.len;have z_da:=h_da.nle;have e_na:=h_na.len;have z_na:=h_na.nle;have e_pa:=h_pa.len;have z_pa:=h_pa.nle;have e_tb:=h_tb.len;have z_tb:=h_tb.nle;have e_db:=h_db.len;have z_db:=h_db.nle;have e_nb:=h_nb.len;have z_nb:=h_nb.nle;have e_pb:=h_pb.len;have z_pb:=h_pb.nle;refine Wb Tryz.func8 ?_;refine go ?_;refine bx H fun g2 z H=> ?_;refine bx H fun g4 z H=> ?_;refine go ?_;refine Xr H (HpC w _) (.load 0 (.load 1 (.load 2 (.load 3 (.alt 4 (.alt 5 (.alt 6 (.alt 7 (.fin) (.none)) (.none)) (.none)) (.alt 5 (.alt 4 (.alt 6 (.alt 7 (.fin) (.none)) (.none)) (.none)) (.none))))))) (H.pick [0,0]) fun z H=> ?_;refine G4 ?_;refine WX.alt ?_ ?_
 ·refine alX (H.pick [0,0]) H ti26 fun g7 z H=> ?_;refine alX (H.pick [1,1]) H ti26 fun g9 z H=> ?_;refine stX (H.pick [2,2]) H 1 ti26 fun z H=> ?_;refine stX (H.pick [2,2]) H 0 ti26 fun z H=> ?_;refine WX.nil (H.pick [2,2]) ?_;refine go ?_;refine c1 H Fh (eqT_any _ _ _ _ _ _ _ _ _ (h_ta.ext H.ext) (h_tb.ext H.ext)) fun z H=> ?_;refine G5 ?_;refine WL.callG rfl (blt rfl) rfl rfl rfl rfl rfl Fh (fun hb=>(evs_cons (evg rfl hb) (evs_cons (evg rfl hb) evs_nil))) (fun hb=>eqD_any _ _ _ _ _ _ _ _ _ (h_da.ext H.ext) (h_db.ext H.ext)) (fun z x=> ?_);have H:=H.ex x;refine G6 ?_;refine WL.callG rfl (blt rfl) rfl rfl rfl rfl rfl Fh (fun hb=>(evs_cons (evg rfl hb) (evs_cons (evg rfl hb) evs_nil))) (fun hb=>eqN_any _ _ _ _ _ _ _ _ _ (h_na.ext H.ext) (h_nb.ext H.ext)) (fun z x=> ?_);have H:=H.ex x;refine G6 ?_;refine WL.callG rfl (blt rfl) rfl rfl rfl rfl rfl Fh (fun hb=>(evs_cons (evg rfl hb) (evs_cons (evg rfl hb) (evs_cons rfl evs_nil)))) (fun hb=>eqPk_any _ _ _ _ _ _ _ _ _ (h_pa.ext H.ext) (g_pa.ext H.ext) (h_pb.ext H.ext) (g_pb.ext H.ext)) (fun z x=> ?_);have H:=H.ex x;refine G3 ?_;refine sb [4] ?_;refine go ?_;refine Rt [_] ?_;exact⟨rfl,H.ext⟩
 refine alX (H.pick [0,0]) H ti26 fun g12 z H=> ?_;refine alX (H.pick [1,1]) H ti26 fun g14 z H=> ?_;refine stX (H.pick [2,2]) H 0 ti26 fun z H=> ?_;refine stX (H.pick [2,2]) H 1 ti26 fun z H=> ?_;refine WX.nil (H.pick [2,2]) ?_;refine go ?_;refine c1 H Fh (eqT_any _ _ _ _ _ _ _ _ _ (h_ta.ext H.ext) (h_tb.ext H.ext)) fun z H=> ?_;refine G5 ?_;refine WL.callG rfl (blt rfl) rfl rfl rfl rfl rfl Fh (fun hb=>(evs_cons (evg rfl hb) (evs_cons (evg rfl hb) evs_nil))) (fun hb=>eqD_any _ _ _ _ _ _ _ _ _ (h_da.ext H.ext) (h_db.ext H.ext)) (fun z x=> ?_);have H:=H.ex x;refine G6 ?_;refine WL.callG rfl (blt rfl) rfl rfl rfl rfl rfl Fh (fun hb=>(evs_cons (evg rfl hb) (evs_cons (evg rfl hb) evs_nil))) (fun hb=>eqN_any _ _ _ _ _ _ _ _ _ (h_na.ext H.ext) (h_nb.ext H.ext)) (fun z x=> ?_);have H:=H.ex x;refine G6 ?_;refine WL.callG rfl (blt rfl) rfl rfl rfl rfl rfl Fh (fun hb=>(evs_cons (evg rfl hb) (evs_cons (evg rfl hb) (evs_cons rfl evs_nil)))) (fun hb=>eqPk_any _ _ _ _ _ _ _ _ _ (h_pa.ext H.ext) (g_pa.ext H.ext) (h_pb.ext H.ext) (g_pb.ext H.ext)) (fun z x=> ?_);have H:=H.ex x;refine go ?_;refine Rt [_] ?_;exact⟨rfl,H.ext⟩
end TW
end Go.Proofs.YtaclfjjipnpboaaGreatDoor
end
