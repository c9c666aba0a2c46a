/- Part 8 of the proof. Conditions: what each theorem states. -/
import Derived.Test.YtaclfjjipnpboaaGreatDoorP01
import Derived.Test.YtaclfjjipnpboaaGreatDoorP05
import Derived.ProofKit
import Derived.OpenShut
import Derived.Carry
import Derived.Deep.Slices
import Derived.ChangeMaps5
import Derived.Test.YtaclfjjipnpboaaGreatDoorP02
import Derived.Lib.SlicesCompact
import Derived.Test.YtaclfjjipnpboaaGreatDoorP07
import Derived.Test.YtaclfjjipnpboaaGreatDoorP04
set_option linter.all false
set_option maxHeartbeats 4000000
set_option maxRecDepth 4000
namespace Go.Proofs.YtaclfjjipnpboaaGreatDoor
open Go Go.Eng Go.RowKit
namespace TW
theorem shr1(i j:Nat):((i:Int)+(j:Int)).fdiv (2 ^ min (1:Int).toNat IntKind.u64.bits)=(((i+j)/2:Nat):Int):=by
 rw[show min (1:Int).toNat IntKind.u64.bits=1 from rfl,Int.fdiv_eq_ediv_of_nonneg _ Dc];omega
section
variable{α:Type}[Inhabited α](c:α→α→Int)
def swp(l:List α)(i j:Nat):List α:=(l.set i l[j]!).set j l[i]!
theorem swp_len(l:List α)(i j:Nat):(swp l i j).length=l.length:=by simp[swp]
theorem swp_mem{l:List α}{i j:Nat}(hi:i<l.length)(hj:j<l.length):∀x∈swp l i j,x∈l:=fun x hx=>by
 rcases List.mem_or_eq_of_mem_set hx with h|rfl<;>grind
def insJ(a:Nat):Nat→List α→List α
 |0,l=>l
 |j+1,l=>if((j+1:Nat):Int)>(a:Int)∧c l[j+1]! l[j]! <0 then insJ a j (swp l (j+1) j)else l
theorem insJ_len(a:Nat):∀(j:Nat) (l:List α),(insJ c a j l).length=l.length
 |0,_=>rfl
 |j+1,l=>by
  unfold insJ;split
  ·rw[insJ_len a j,swp_len]
  ·rfl
theorem insJ_mem(a:Nat):∀(j:Nat) (l:List α),j<l.length→∀x∈insJ c a j l,x∈l
 |0,_,_,x,hx=>hx
 |j+1,l,hj,x,hx=>by
  unfold insJ at hx;split at hx
  ·exact swp_mem hj Om x (insJ_mem a j _ (by rw[swp_len];omega) x hx)
  omega
theorem insJ_go{a j:Nat}{l:List α}(h1:(j:Int)>(a:Int))(h2:c l[j]! l[j-1]! <0):insJ c a j l=insJ c a (j-1) (swp l j (j-1)):=by
 obtain⟨k,rfl⟩:∃k,j=k+1:=⟨j-1,Om⟩;exact if_pos ⟨h1,h2⟩
theorem insJ_stop{a j:Nat}{l:List α}(h:¬(j:Int)>(a:Int)∨¬c l[j]! l[j-1]! <0):insJ c a j l=l:=by
 cases j with
 |zero=>rfl
 |succ k=>exact if_neg fun q=>h.elim (fun h=>h q.1) (fun h=>h q.2)
def insN(a:Nat):Nat→List α→List α
 |0,l=>l
 |k+1,l=>insJ c a (a+1+k) (insN a k l)
theorem insN_len(a:Nat):∀(k:Nat) (l:List α),(insN c a k l).length=l.length
 |0,_=>rfl
 |k+1,l=>by show(insJ c a _ _).length=_;rw[insJ_len,insN_len a k]
theorem insN_mem(a:Nat):∀(k:Nat) (l:List α),a+k<l.length∨k=0→∀x∈insN c a k l,x∈l
 |0,_,_,x,hx=>hx
 |k+1,l,h,x,hx=>by
  have hx':x∈insJ c a (a+1+k) (insN c a k l):=hx;exact insN_mem a k l Om x (insJ_mem c a _ _ (by rw[insN_len];omega) x hx')
def insF(a b:Nat)(l:List α):List α:=insN c a (b-(a+1)) l
theorem insF_len(a b:Nat)(l:List α):(insF c a b l).length=l.length:=insN_len c a _ l
theorem insF_mem{a b:Nat}{l:List α}(h:b≤l.length):∀x∈insF c a b l,x∈l:=insN_mem c a _ l Om
def swr(a b:Nat):Nat→List α→List α
 |0,l=>l
 |k+1,l=>swp (swr a b k l) (a+k) (b+k)
theorem swr_len(a b:Nat):∀(k:Nat) (l:List α),(swr a b k l).length=l.length
 |0,_=>rfl
 |k+1,l=>by show(swp _ _ _).length=_;rw[swp_len,swr_len a b k]
theorem swr_mem(a b:Nat):∀(k:Nat) (l:List α),a+k≤l.length→b+k≤l.length→∀x∈swr a b k l,x∈l
 |0,_,_,_,x,hx=>hx
 |k+1,l,h1,h2,x,hx=>by
  have hx':x∈swp (swr a b k l) (a+k) (b+k):=hx;exact swr_mem a b k l Om Om x (swp_mem (by rw[swr_len];omega) (by rw[swr_len];omega) x hx')
def rotL:Nat→Nat→Nat→Nat→List α→List α
 |0,_,_,_,l=>l
 |f+1,m,i,j,l=>if(i:Int)≠(j:Int)then(if(i:Int)>(j:Int)then rotL f m (i-j) j (swr (m-i) m j l)else rotL f m i (j-i) (swr (m-i) (m+j-i) i l))else swr (m-i) m i l
theorem rotL_len:∀(f m i j:Nat) (l:List α),(rotL f m i j l).length=l.length
 |0,_,_,_,_=>rfl
 |f+1,m,i,j,l=>by
  unfold rotL;split
  ·split
   ·rw[rotL_len f,swr_len]
   ·rw[rotL_len f,swr_len]
  ·rw[swr_len]
theorem rotL_mem:∀(f m i j:Nat) (l:List α),i≤m→m+j≤l.length→∀x∈rotL f m i j l,x∈l
 |0,_,_,_,_,_,_,x,hx=>hx
 |f+1,m,i,j,l,h1,h2,x,hx=>by
  unfold rotL at hx;split at hx
  ·split at hx
   ·exact swr_mem _ _ _ _ Om Om x (rotL_mem f m _ _ _ Om (by rw[swr_len];omega) x hx)
   ·exact swr_mem _ _ _ _ Om Om x (rotL_mem f m _ _ _ Om (by rw[swr_len];omega) x hx)
  ·exact swr_mem _ _ _ _ Om Om x hx
def rotF(a m b:Nat)(l:List α):List α:=rotL (b-a) m (m-a) (b-m) l
def bsF(p:Nat→Prop)[DecidablePred p]:Nat→Nat→Nat→Nat
 |0,i,_=>i
 |f+1,i,j=>if(i:Int)<(j:Int)then(if p ((i+j)/2)then bsF p f ((i+j)/2+1) j else bsF p f i ((i+j)/2))else i
theorem bsF_end{p:Nat→Prop}[DecidablePred p]{f i j:Nat}(h:¬(i:Int)<(j:Int)):bsF p f i j=i:=by
 cases f with
 |zero=>rfl
 |succ f=>exact if_neg h
theorem bsF_rng(p:Nat→Prop)[DecidablePred p]:∀(f i j:Nat),i≤j→i≤bsF p f i j∧bsF p f i j≤j
 |0,i,j,h=>⟨Nat.le_refl _,h⟩
 |f+1,i,j,h=>by
  unfold bsF;split
  ·split
   ·have:=bsF_rng p f ((i+j)/2+1) j Om;omega
   ·have:=bsF_rng p f i ((i+j)/2) Om;omega
  ·omega
def mvU(a:Nat):Nat→List α→List α
 |0,l=>l
 |k+1,l=>swp (mvU a k l) (a+k) (a+k+1)
def mvD(m:Nat):Nat→List α→List α
 |0,l=>l
 |k+1,l=>swp (mvD m k l) (m-k) (m-k-1)
theorem mvU_len(a:Nat):∀(k:Nat) (l:List α),(mvU a k l).length=l.length
 |0,_=>rfl
 |k+1,l=>by show(swp _ _ _).length=_;rw[swp_len,mvU_len a k]
theorem mvD_len(a:Nat):∀(k:Nat) (l:List α),(mvD a k l).length=l.length
 |0,_=>rfl
 |k+1,l=>by show(swp _ _ _).length=_;rw[swp_len,mvD_len a k]
theorem mvU_mem(a:Nat):∀(k:Nat) (l:List α),a+k<l.length→∀x∈mvU a k l,x∈l
 |0,_,_,x,hx=>hx
 |k+1,l,h,x,hx=>by
  have hx':x∈swp (mvU a k l) (a+k) (a+k+1):=hx;exact mvU_mem a k l Om x (swp_mem (by rw[mvU_len];omega) (by rw[mvU_len];omega) x hx')
theorem mvD_mem(m:Nat):∀(k:Nat) (l:List α),m<l.length→∀x∈mvD m k l,x∈l
 |0,_,_,x,hx=>hx
 |k+1,l,h,x,hx=>by
  have hx':x∈swp (mvD m k l) (m-k) (m-k-1):=hx;exact mvD_mem m k l h x (swp_mem (by rw[mvD_len];omega) (by rw[mvD_len];omega) x hx')
def symStart(a m b:Nat)(l:List α):Nat:=
 let mid:=(a+b)/2
 let n:=mid+m
 let start:=if(m:Int)>(mid:Int)then n-b else a
 let r:=if(m:Int)>(mid:Int)then mid else m
 bsF (fun h=>¬c l[n-1-h]! l[h]! <0) (r-start) start r
def sym3(rec:Nat→Nat→Nat→List α→List α)(a m b s:Nat)(l:List α):List α:=
 let mid:=(a+b)/2
 let e:=mid+m-s
 let l1:=if(s:Int)<(m:Int)∧(m:Int)<(e:Int)then rotF s m e l else l
 let l2:=if(a:Int)<(s:Int)∧(s:Int)<(mid:Int)then rec a s mid l1 else l1
 if(mid:Int)<(e:Int)∧(e:Int)<(b:Int)then rec mid e b l2 else l2
def symF:Nat→Nat→Nat→Nat→List α→List α
 |0,_,_,_,l=>l
 |f+1,a,m,b,l=>
  if(m:Int)-(a:Int)=1 then mvU a (bsF (fun h=>c l[h]! l[a]! <0) (b-m) m b-1-a) l
  else if(b:Int)-(m:Int)=1 then mvD m (m-bsF (fun h=>¬c l[m]! l[h]! <0) (m-a) a m) l
  else sym3 (symF f) a m b (symStart c a m b l) l
theorem rotF_len(a m b:Nat)(l:List α):(rotF a m b l).length=l.length:=rotL_len _ _ _ _ _
theorem rotF_mem{a m b:Nat}{l:List α}(h:m≤b)(hb:b≤l.length):∀x∈rotF a m b l,x∈l:=rotL_mem _ _ _ _ _ Om Om
theorem sym3_len{rec:Nat→Nat→Nat→List α→List α}(h:∀a m b l,(rec a m b l).length=l.length)(a m b s:Nat)(l:List α):(sym3 rec a m b s l).length=l.length:=by
 have h1:(if(s:Int)<(m:Int)∧(m:Int)<(((a+b)/2+m-s:Nat):Int)then rotF s m ((a+b)/2+m-s) l else l).length=l.length:=by
  grind [rotF_len]
 grind [sym3]
theorem symF_len:∀(f a m b:Nat) (l:List α),(symF c f a m b l).length=l.length
 |0,_,_,_,_=>rfl
 |f+1,a,m,b,l=>by
  unfold symF;split
  ·rw[mvU_len]
  ·split
   ·rw[mvD_len]
   ·exact sym3_len (fun a m b l=>symF_len f a m b l) _ _ _ _ _
theorem symStart_rng{a m b:Nat}{l:List α}(h1:a<m)(h2:m<b):(a+b)/2+m≤symStart c a m b l+b∧a≤symStart c a m b l∧symStart c a m b l≤(a+b)/2∧symStart c a m b l≤m:=by
 unfold symStart;dsimp only;by_cases q:(m:Int)>(((a+b)/2:Nat):Int)
 ·simp only[if_pos q];have:=bsF_rng (fun h=>¬c l[(a+b)/2+m-1-h]! l[h]! <0) ((a+b)/2-((a+b)/2+m-b)) ((a+b)/2+m-b) ((a+b)/2) Om;omega
 ·simp only[if_neg q];have:=bsF_rng (fun h=>¬c l[(a+b)/2+m-1-h]! l[h]! <0) (m-a) a m Om;omega
theorem symF_mem:∀(f a m b:Nat) (l:List α),a<m→m<b→b≤l.length→∀x∈symF c f a m b l,x∈l
 |0,_,_,_,_,_,_,_,x,hx=>hx
 |f+1,a,m,b,l,h1,h2,h3,x,hx=>by
  unfold symF at hx;split at hx
  ·have:=bsF_rng (fun h=>c l[h]! l[a]! <0) (b-m) m b Om;exact mvU_mem a _ l Om x hx
  ·split at hx
   ·exact mvD_mem m _ l Om x hx
   ·obtain⟨r1,r2,r3,r4⟩:=symStart_rng c (l:=l) h1 h2;generalize symStart c a m b l=s at hx r1 r2 r3 r4;unfold sym3 at hx;dsimp only at hx;have hs:∀x∈(if(s:Int)<(m:Int)∧(m:Int)<(((a+b)/2+m-s:Nat):Int)then rotF s m ((a+b)/2+m-s) l else l),x∈l:=by
     intro x hx;split at hx
     ·exact rotF_mem Om Om x hx
     omega
    have hl1:(if(s:Int)<(m:Int)∧(m:Int)<(((a+b)/2+m-s:Nat):Int)then rotF s m ((a+b)/2+m-s) l else l).length=l.length:=by
     grind [rotF_len]
    generalize (if(s:Int)<(m:Int)∧(m:Int)<(((a+b)/2+m-s:Nat):Int)then rotF s m ((a+b)/2+m-s) l else l)=L1 at hx hs hl1;have hs2:∀x∈(if(a:Int)<(s:Int)∧(s:Int)<(((a+b)/2:Nat):Int)then symF c f a s ((a+b)/2) L1 else L1),x∈l:=by
     intro x hx;split at hx
     ·exact hs x (symF_mem f a s _ L1 Om Om Om x hx)
     grind
    have hl2:(if(a:Int)<(s:Int)∧(s:Int)<(((a+b)/2:Nat):Int)then symF c f a s ((a+b)/2) L1 else L1).length=l.length:=by
     grind [symF_len]
    generalize (if(a:Int)<(s:Int)∧(s:Int)<(((a+b)/2:Nat):Int)then symF c f a s ((a+b)/2) L1 else L1)=L2 at hx hs2 hl2;split at hx
    ·exact hs2 x (symF_mem f _ _ b L2 Om Om Om x hx)
    grind
def stabF(l:List α):List α:=
 if 20≤l.length then
  let l2:=insF c 20 l.length (insF c 0 20 l)
  if 20<l.length then symF c l.length 0 20 l.length l2 else l2
 else insF c 0 l.length l
def st1(l:List α):Nat→List α
 |0=>l
 |k+1=>insF c (20*k) (20*(k+1)) (st1 l k)
theorem st1_len(l:List α):∀k,(st1 c l k).length=l.length
 |0=>rfl
 |k+1=>by show(insF c _ _ _).length=_;rw[insF_len,st1_len l k]
theorem st1_mem(l:List α):∀k,20*k≤l.length→∀x∈st1 c l k,x∈l
 |0,_,x,hx=>hx
 |k+1,h,x,hx=>st1_mem l k Om x (insF_mem c (by rw[st1_len];omega) x hx)
theorem stabF_eq{l:List α}{ph t:Nat}(h1:20*ph≤l.length)(h2:¬20*(ph+1)≤l.length)(h3:l.length≤39)(ht:t≤1)(hx:¬20+20*t<l.length)(h0:t=1→20<l.length):
  (if t=0 then insF c (20*ph) l.length (st1 c l ph)else symF c l.length 0 20 l.length (insF c (20*ph) l.length (st1 c l ph)))=stabF c l:=by
 unfold stabF;by_cases q:20≤l.length
 ·obtain rfl:ph=1:=Om;rw[if_pos q];dsimp only;by_cases q2:20<l.length
  ·rw[if_neg Om,if_pos q2];rfl
  ·rw[if_pos Om,if_neg q2];rfl
 ·obtain rfl:ph=0:=Om;rw[if_neg q,if_pos Om];rfl
theorem stabF_len{l:List α}:(stabF c l).length=l.length:=by
 grind [stabF,symF_len,insF_len]
end
end TW
end Go.Proofs.YtaclfjjipnpboaaGreatDoor
namespace Go.Eng
open Go Go.RowKit Go.WideShapes Go.ChangeShapes Go.WideElems Go.Deep
section
variable{H:Type}{enc:TypeId×Value→H}{P:Program}
theorem trodAll_stays(hl:laidOutB P=true){W W':World}{sp:Nat→Bool}:∀{ts:List TypeId} {vs:List Value} {ds:List (DataW H)} {ps:List MemPlace},
  (ts.all fun t=>P.readableRec t&&decide (t<P.types.size))=true→DataW.TrodAll enc P W 0 (fun _=>true) true ts vs ds ps→(∀p∈ps,W.sameAt W' p)→(∀p∈ps,sp p.block=true)→DataW.TrodAll enc P W' 0 sp true ts vs ds ps
 |[],[],[],_,_,h,_,_=>h
 |t::ts,v::vs,d::ds,ps,hr,h,hs,hp=>by
  obtain⟨p,q,h1,h2,rfl⟩:=h;simp only[List.all_cons,Bool.and_eq_true,decide_eq_true_eq]at hr;exact⟨p,q,Trod_stays hl hr.1.1 hr.1.2 h1 (fun x hx=>hs x (List.mem_append_left _ hx)) (fun x hx=>hp x (List.mem_append_left _ hx)),
   trodAll_stays hl hr.2 h2 (fun x hx=>hs x (List.mem_append_right _ hx)) (fun x hx=>hp x (List.mem_append_right _ hx)),rfl⟩
theorem law_post{f:Func}{s:ChangeSpec}{W W':World}{args:Array Value}{ds gs:List (DataW H)}{before:List MemPlace}{tb:TypeId}(hvars:s.vars=[])(hl:laidOutB P=true)(hr:(f.params.toList.all fun t=>P.readableRec t&&decide (t<P.types.size))=true)
  (hres:f.resultTypes= #[tb]) (htb:P.underlying tb=some .bool) (hW:DataW.Whole enc P f.params.toList s.vars false W args.toList ds gs before)
  (hfn:s.fn H (ds++gs)={results:=[.lit (.bool true)],args:=ds}) (x:Ext W W'):s.post enc P f false true false false W args (.bool true) W':=by
 have hlt:∀p∈before,p.block<W.heap.size:=hW.lt;have hW0:=hW;obtain⟨p,q,hA,hV,rfl,hfz,hnd⟩:=hW;rw[hvars]at hV;have hq:q=[]:=by cases gs with
  |nil=>exact hV
  |cons g gs=>cases hV
 subst hq;have hsame:∀y∈p,W.sameAt W' y:=fun y hy=>Below.same x.toBelow (hlt y (by grind));have hold:∀y∈p,(fun b=>decide (b<W.heap.size)) y.block=true:=fun y hy=>by grind
 refine⟨ds,gs,p++[],[],p,[],hW0,?_,?_,?_,?_,fun h=>by cases h⟩
 ·rw[hfn,hres];exact⟨[],[],shut_bool htb true,rfl,rfl⟩
 ·grind [trodAll_stays]
 ·rw[hvars,hfn];rfl
 ·exact Below.frame x.toBelow _
end
inductive FK where
 |int (k:IntKind)
 |bool
 |str
 |sl
def FK.ok:FK→Value→Prop
 | .int k,v=>∃a,v= .int k a∧(Lit.int k a).wf=true
 | .bool,v=>∃b,v= .bool b
 | .str,v=>∃s,v= .string s∧s.size≤maxLen
 | .sl,v=>∃A n c,v= .slice A n c
def okAll:List FK→List Value→Prop
 |[],[]=>True
 |k::ks,v::vs=>k.ok v∧okAll ks vs
 |_,_=>False
theorem okAll_append:∀{ks kr:List FK} {vs vr:List Value},okAll ks vs→okAll kr vr→okAll (ks++kr) (vs++vr)
 |[],_,[],_,_,h=>h
 |_::_,_,_::_,_,h,h'=>⟨h.1,okAll_append h.2 h'⟩
theorem okAll_length:∀{ks:List FK} {vs:List Value},okAll ks vs→vs.length=ks.length
 |[],[],_=>rfl
 |_::_,_::_,h=>by simp[okAll_length h.2]
def flatFs(g:TypeId→Option (List FK))(cells:TypeId→Nat):Nat→List Field→Option (List FK)
 |_,[]=>some []
 |off,f::r=>match g f.type with
  |none=>none
  |some kf=>if f.offset=off∧cells f.type=kf.length then(flatFs g cells (off+kf.length) r).map (kf++·)else none
def flatK(P:Program):Nat→TypeId→Option (List FK)
 |0,_=>none
 |n+1,t=>match P.underlying t with
  |some (.int k)=>some [.int k]
  |some .bool=>some [.bool]
  |some .string=>some [.str]
  |some (.slice _)=>some [.sl]
  |some (.struct fs)=>(flatFs (flatK P n) P.cellsOf 0 fs.toList).bind fun ks=>if P.cellsOf t=ks.length then some ks else none
  |some (.array m e)=>(flatK P n e).bind fun ks=>if P.cellsOf e=ks.length∧P.cellsOf t=m*ks.length then some (List.replicate m ks).flatten else none
  |_=>none
theorem flatFs_ok{g:TypeId→Option (List FK)}{cells:TypeId→Nat}{cs:List Value}:∀(l:List Field) (off:Nat) (ks:List FK),flatFs g cells off l=some ks→
  (∀f∈l,∀kf,g f.type=some kf→okAll kf ((cs.drop f.offset).take (cells f.type)))→okAll ks ((cs.drop off).take ks.length)
 |[],off,ks,h,_=>by grind [flatFs,okAll]
 |f::r,off,ks,h,hf=>by
  simp only[flatFs]at h;cases hg:g f.type with
  |none=>grind
  |some kf=>
   rw[hg]at h;dsimp only at h;split at h
   ·rename_i hc;cases hr:flatFs g cells (off+kf.length) r with
    |none=>grind
    |some kr=>
     rw[hr]at h;simp at h;subst h;have h1:=hf f (by simp) kf hg;rw[hc.1,hc.2]at h1;have h2:=flatFs_ok r _ kr hr (fun f' hf'=>hf f' (by simp[hf']));simp_all [List.length_append,List.take_add,List.drop_drop,okAll_append]
   ·cases h
section
variable{H:Type}{enc:TypeId×Value→H}{P:Program}{w:World}{base:Nat}{spare:Nat→Bool}{held:Bool}
theorem flat_array{ks:List FK}:∀(m:Nat) (cs:List Value),cs.length=m*ks.length→(∀i,i<m→okAll ks ((cs.drop (i*ks.length)).take ks.length))→okAll (List.replicate m ks).flatten cs
 |0,cs,hl,_=>by
  simp_all [List.nil,List.eq_nil_of_length_eq_zero,okAll]
 |m+1,cs,hl,h=>by
  rw[List.replicate_succ,List.flatten_cons];have h0:=h 0 Om;simp only[Nat.zero_mul,List.drop_zero]at h0;have h1:=flat_array (ks:=ks) m (cs.drop ks.length) (by grind) (fun i hi=>by
   grind [List.drop_drop,Nat.succ_mul,Nat.add_comm])
  grind [okAll_append,List.take_append_drop]
theorem flat_ok:∀(n:Nat) {t:TypeId} {ks:List FK} {fuel:Nat} {cs:List Value} {x:DataW H×List MemPlace},flatK P n t=some ks→DataW.trod enc P w base spare held fuel t cs=some x→okAll ks cs
 |0,_,_,_,_,_,h,_=>by cases h
 |n+1,t,ks,fuel,cs,x,h,hx=>by
  unfold flatK at h;split at h
  ·rename_i k hU;injection h with h;subst h
   obtain⟨a,rfl,_,hw⟩:=DataW.trod_int hU hx;exact⟨⟨a,rfl,hw⟩,trivial⟩
  ·rename_i hU;injection h with h;subst h
   obtain⟨b,rfl,_⟩:=DataW.trod_bool hU hx;exact⟨⟨b,rfl⟩,trivial⟩
  ·rename_i hU;injection h with h;subst h
   obtain⟨s,rfl,_,hs⟩:=DataW.trod_string hU hx;exact⟨⟨s,rfl,hs⟩,trivial⟩
  ·rename_i e hU;injection h with h;subst h
   rcases open_slice hU hx with⟨rfl,_⟩|⟨a,len,cap,_,_,_,_,rfl,_⟩
   ·exact⟨⟨_,_,_,rfl⟩,trivial⟩
   ·exact⟨⟨_,_,_,rfl⟩,trivial⟩
  ·rename_i fs hU;cases hfs:flatFs (flatK P n) P.cellsOf 0 fs.toList with
   |none=>rw[hfs]at h;cases h
   |some kk=>
    rw[hfs]at h;simp only[Option.bind_some]at h;split at h
    ·rename_i hc;injection h with h;subst h
     obtain⟨xs,m,_,_,hl,hxl,hg⟩:=DataW.trod_struct hU hx;have:=flatFs_ok (cs:=cs) fs.toList 0 kk hfs (fun f hf kf hk=>by
      obtain⟨i,hi⟩:=List.mem_iff_getElem?.1 hf;have hi':fs[i]? =some f:=by simpa using hi
      have h1:=hg i f hi';have hlt:i<xs.length:=by rw[hxl];exact(Array.getElem?_eq_some_iff.1 hi').1
      rw[List.getElem?_eq_getElem hlt]at h1;exact flat_ok n hk h1)
     rw[List.drop_zero,List.take_of_length_le Om]at this;exact this
    ·cases h
  ·rename_i m e hU;cases hk:flatK P n e with
   |none=>rw[hk]at h;cases h
   |some kk=>
    rw[hk]at h;simp only[Option.bind_some]at h;split at h
    ·rename_i hc;injection h with h;subst h
     obtain⟨xs,m',_,_,hl,hxl,hg⟩:=DataW.trod_array hU hx;refine flat_array m cs (by rw[hl,hc.2]) (fun i hi=> ?_);have h1:=hg i hi;have hlt:i<xs.length:=by rw[hxl];exact hi
     rw[List.getElem?_eq_getElem hlt,hc.1]at h1;exact flat_ok n hk h1
    ·cases h
  ·cases h
end
theorem okAll_1{k0:FK}{vs:List Value}(h:okAll [k0] vs):∃v0,vs=[v0]∧k0.ok v0:=by
 have hl:=okAll_length h
 match vs,hl with
 |[v0],_=>exact⟨v0,rfl,h.1⟩
theorem okAll_2{k0 k1:FK}{vs:List Value}(h:okAll [k0,k1] vs):∃v0 v1,vs=[v0,v1]∧k0.ok v0∧k1.ok v1:=by
 have hl:=okAll_length h
 match vs,hl with
 |[v0,v1],_=>exact⟨v0,v1,rfl,h.1,h.2.1⟩
theorem okAll_3{k0 k1 k2:FK}{vs:List Value}(h:okAll [k0,k1,k2] vs):∃v0 v1 v2,vs=[v0,v1,v2]∧k0.ok v0∧k1.ok v1∧k2.ok v2:=by
 have hl:=okAll_length h
 match vs,hl with
 |[v0,v1,v2],_=>exact⟨v0,v1,v2,rfl,h.1,h.2.1,h.2.2.1⟩
theorem okAll_5{k0 k1 k2 k3 k4:FK}{vs:List Value}(h:okAll [k0,k1,k2,k3,k4] vs):∃v0 v1 v2 v3 v4,vs=[v0,v1,v2,v3,v4]∧k0.ok v0∧k1.ok v1∧k2.ok v2∧k3.ok v3∧k4.ok v4:=by
 have hl:=okAll_length h
 match vs,hl with
 |[v0,v1,v2,v3,v4],_=>exact⟨v0,v1,v2,v3,v4,rfl,h.1,h.2.1,h.2.2.1,h.2.2.2.1,h.2.2.2.2.1⟩
end Go.Eng
namespace Go.Eng
open Go Go.RowKit Go.WideShapes Go.ChangeShapes Go.WideElems Go.Deep
section
variable{H:Type}{enc:TypeId×Value→H}{P:Program}{w:World}{base:Nat}{spare:Nat→Bool}{held:Bool}
end
end Go.Eng
namespace Go.Proofs.YtaclfjjipnpboaaGreatDoor
open Go Go.Eng
namespace Ck
end Ck
end Go.Proofs.YtaclfjjipnpboaaGreatDoor
namespace Go.Proofs.YtaclfjjipnpboaaGreatDoor
open Go Go.Eng
namespace Ck
theorem mem_compact(zs:List Int)(q:Int):q∈Lib.compact zs↔q∈zs:=by
 unfold Lib.compact Lib.compactUpTo;rw[List.mem_map];constructor
 ·grind
 ·intro hq;obtain⟨j,hj,rfl⟩:=List.mem_iff_getElem.1 hq;have key:∀j,(hj:j<zs.length)→∃a,a∈(List.range zs.length).filter (Lib.keeps zs.toArray)∧zs.toArray[a]! =zs[j]:=by
   intro j
   induction j with
   |zero=>intro hj;exact⟨0,List.mem_filter.2 ⟨by grind,by rfl⟩,by grind⟩
   |succ j ih=>
    intro hj;by_cases hk:Lib.keeps zs.toArray (j+1)=true
    ·exact⟨j+1,List.mem_filter.2 ⟨by grind,hk⟩,by grind⟩
    ·obtain⟨a,ha,he⟩:=ih Om;refine⟨a,ha,?_⟩;rw[he];have hk':=of_decide_eq_false (by unfold Lib.keeps at hk;grind:decide (j+1=0∨zs.toArray[j+1]!≠zs.toArray[j+1-1]!)=false);grind
  grind
end Ck
end Go.Proofs.YtaclfjjipnpboaaGreatDoor
namespace Go.Proofs.YtaclfjjipnpboaaGreatDoor
open Go Go.Eng Go.RowKit
namespace TW
theorem set_at{α:Type}[Inhabited α](l:List α)(i p:Nat)(x:α)(hp:p<l.length):(l.set i x)[p]! =if i=p then x else l[p]! :=by
 rw[bang_eq (by grind),List.getElem_set,bang_eq hp]
theorem mem_at{α:Type}[Inhabited α]{l:List α}{x:α}(h:x∈l):∃i,i<l.length∧l[i]! =x:=by
 obtain⟨i,hi,e⟩:=List.mem_iff_getElem.1 h;exact⟨i,hi,by grind⟩
def evsN(l:List Pk)(j:Nat):List Ev:=fN (fun out p=>out++p.es) [] l j
def evsOf(l:List Pk):List Ev:=evsN l l.length
theorem evsN_len{l:List Pk}(h:∀p∈l,p.es.length=p.k):∀j,j≤l.length→(evsN l j).length=evsum l j
 |0,_=>rfl
 |j+1,hj=>by
  show(evsN l j++l[j]!.es).length=evsum l j+l[j]!.k;rw[List.length_append,evsN_len h j Om,h _ (mem_b hj)]
def sntN(es:List Ev):Nat→List (Int×Int)
 |0=>[]
 |j+1=>if es[j]!.kd=6 then iset (sntN es j) es[j]!.n 1 else sntN es j
def exq(es:List Ev)(j:Nat):Int:=if es[j]!.kd=6∧(iget (sntN es j) es[j]!.n).getD 0>0 then 4 else 0
def exE(ths:List Th)(d:List Dm)(s:List Sn)(l:List Pk):Int:=if lgE ths d s l≠0 then lgE ths d s l else fE (exq (evsOf l)) (idsOf l).length
def sndN(es:List Ev):Nat→List (Int×Int)
 |0=>[]
 |j+1=>if es[j]!.kd=6 then iset (sndN es j) es[j]!.n (j:Int)else sndN es j
theorem sndN_rng(es:List Ev):∀(j:Nat) (x v:Int),iget (sndN es j) x=some v→0≤v∧v<(j:Int)
 |0,_,_,h=>by cases h
 |j+1,x,v,h=>by
  have h:iget (if es[j]!.kd=6 then iset (sndN es j) es[j]!.n (j:Int)else sndN es j) x=some v:=h;split at h
  ·rw[iget_iset]at h;split at h
   ·grind
   ·have:=sndN_rng es j x v h;omega
  ·have:=sndN_rng es j x v h;omega
def nxt1(ids:List Ix)(N:List (List Int))(i:Nat):List (List Int):=if(i:Int)>0∧ids[i-1]!.th=ids[i]!.th then N.set (i-1) (N[i-1]! ++[(i:Int)])else N
def nxt2(es:List Ev)(m:List (Int×Int))(N:List (List Int))(i:Nat):List (List Int):=
 if(iget m es[i]!.n).isSome=true∧es[i]!.kd=7 then N.set ((iget m es[i]!.n).getD 0).toNat (N[((iget m es[i]!.n).getD 0).toNat]! ++[(i:Int)])else N
def nxtN(ids:List Ix)(es:List Ev)(m:List (Int×Int)):Nat→List (List Int)
 |0=>List.replicate ids.length []
 |i+1=>nxt2 es m (nxt1 ids (nxtN ids es m i) i) i
def LB(N:List (List Int))(n:Nat)(B:Nat):Prop:=N.length=n∧∀l∈N,(∀x∈l,0≤x∧x<(n:Int))∧l.length≤B
theorem LB.up{N:List (List Int)}{n B B':Nat}(h:LB N n B)(hB:B≤B'):LB N n B':=⟨h.1,fun l hl=>⟨(h.2 l hl).1,Nat.le_trans (h.2 l hl).2 hB⟩⟩
theorem LB.at_{N:List (List Int)}{n B k:Nat}(h:LB N n B)(hk:k<n):(∀x∈N[k]!,0≤x∧x<(n:Int))∧N[k]!.length≤B:=h.2 _ (mem_b (by rw[h.1];exact hk))
theorem LB.set_{N:List (List Int)}{n B k:Nat}{l:List Int}(h:LB N n B)(hl:(∀x∈l,0≤x∧x<(n:Int))∧l.length≤B):LB (N.set k l) n B:=
 ⟨by rw[List.length_set];exact h.1,fun y hy=>(List.mem_or_eq_of_mem_set hy).elim (h.2 y) fun e=>e▸hl⟩
theorem LB.add{N:List (List Int)}{n B k:Nat}{l:List Int}(h:LB N n B)(hk:k<n)(hl:∀x∈l,0≤x∧x<(n:Int)):LB (N.set k (N[k]! ++l)) n (B+l.length):=
 (h.up Om).set_ ⟨fun x hx=>(List.mem_append.1 hx).elim ((h.at_ hk).1 x) (hl x),by rw[List.length_append];have:=(h.at_ hk).2;omega⟩
theorem nxt1_ok{ids:List Ix}{N:List (List Int)}{n B i:Nat}(h:LB N n B)(hi:i<n):LB (nxt1 ids N i) n (B+1):=by
 unfold nxt1;split
 ·exact h.add (l:=[(i:Int)]) Om fun x hx=>by grind
 ·exact h.up (Nat.le_succ _)
theorem nxt2_ok{es:List Ev}{m:List (Int×Int)}{N:List (List Int)}{n B i:Nat}(h:LB N n B)(hi:i<n)(hm:∀x v,iget m x=some v→0≤v∧v<(n:Int)):LB (nxt2 es m N i) n (B+1):=by
 unfold nxt2;split
 ·rename_i q;obtain⟨v,hv⟩:=Option.isSome_iff_exists.1 q.1;have:=hm _ _ hv;rw[hv];exact h.add (l:=[(i:Int)]) (by grind) fun x hx=>by grind
 ·exact h.up (Nat.le_succ _)
theorem nxtN_ok{ids:List Ix}{es:List Ev}{m:List (Int×Int)}(hm:∀x v,iget m x=some v→0≤v∧v<(ids.length:Int)):∀i,i≤ids.length→LB (nxtN ids es m i) ids.length (2*i)
 |0,_=>⟨List.length_replicate,fun l hl=>by rw[(List.mem_replicate.1 hl).2];grind⟩
 |i+1,hi=>nxt2_ok (nxt1_ok (nxtN_ok hm i Om) Om) Om hm
def csF(l:List Int):List Int:=Lib.compact (srtI l)
theorem csF_len(l:List Int):(csF l).length≤l.length:=by
 unfold csF Lib.compact Lib.compactUpTo;rw[List.length_map];refine Nat.le_trans (List.length_filter_le _ _) ?_;rw[List.length_range,srtI_len];omega
theorem csF_mem{l:List Int}{x:Int}:x∈csF l↔x∈l:=by
 grind [csF,Ck.mem_compact,srtI,List.mem_mergeSort]
def edK(N:List (List Int)):Nat→List (List Int)
 |0=>N
 |i+1=>(edK N i).set i (csF (edK N i)[i]!)
theorem edK_ok{N:List (List Int)}{n B:Nat}(h:LB N n B):∀i,i≤n→LB (edK N i) n B
 |0,_=>h
 |i+1,hi=>by
  have ih:=edK_ok h i Om;have:=ih.at_ (show i<n by omega);exact ih.set_ ⟨fun x hx=>this.1 x (csF_mem.1 hx),Nat.le_trans (csF_len _) this.2⟩
theorem edK_at{N:List (List Int)}:∀i,i≤N.length→(edK N i).length=N.length∧∀p,p<N.length→(edK N i)[p]! =if p<i then csF N[p]! else N[p]!
 |0,_=>⟨rfl,fun p _=>by rfl⟩
 |i+1,hi=>by
  obtain⟨h1,h2⟩:=edK_at (N:=N) i Om;refine⟨by show(List.set _ _ _).length=_;grind,fun p hp=> ?_⟩;show(List.set _ _ _)[p]! =_;grind
def edF(ids:List Ix)(es:List Ev):List (List Int):=edK (nxtN ids es (sndN es es.length) es.length) ids.length
theorem edF_ok{ids:List Ix}{es:List Ev}(h:es.length=ids.length):LB (edF ids es) ids.length (2*ids.length):=by
 unfold edF;rw[h];exact edK_ok (nxtN_ok (fun x v hv=>by have:=sndN_rng es _ x v hv;omega) _ Nl) _ Nl
def lget:List (Int×List Int)→Int→List Int
 |[],_=>[]
 |(k,v)::r,x=>if x=k then v else lget r x
def lset:List (Int×List Int)→Int→List Int→List (Int×List Int)
 |[],x,u=>[(x,u)]
 |(k,v)::r,x,u=>if x=k then(k,u)::r else(k,v)::lset r x u
def dmA(ths:List Th)(ids:List Ix)(i:Nat):Int:=domOf ths ids[i]!.th
def gpN(ths:List Th)(ids:List Ix):Nat→List (Int×List Int)
 |0=>[]
 |i+1=>lset (gpN ths ids i) (dmA ths ids i) (lget (gpN ths ids i) (dmA ths ids i)++[(i:Int)])
def cmpS(a b:ByteArray):Int:=if Y.lt a b=true then-1 else if Y.gt a b=true then 1 else 0
def orF(l:List Int):Int:=fE (fun i=>l[i]!) l.length
def cmpI(a b:Int):Int:=if a<b then-1 else if a>b then 1 else 0
def cmA(es:List Ev)(a b:Int):Int:=cmpI es[a.toNat]!.at_ es[b.toNat]!.at_
def blkF(es:List Ev)(s:List Int)(k:Nat):Nat→Nat→Nat
 |0,n=>n
 |f+1,n=>if(n:Int)<(s.length:Int)∧es[s[n]!.toNat]!.at_=es[s[k]!.toNat]!.at_ then blkF es s k f (n+1)else n
def blkE(es:List Ev)(s:List Int)(k:Nat):Nat:=blkF es s k (s.length-k) k
theorem blkF_rng(es:List Ev)(s:List Int)(k:Nat):∀f n,n≤blkF es s k f n∧(n≤s.length→blkF es s k f n≤s.length)
 |0,n=>⟨Nat.le_refl _,fun h=>h⟩
 |f+1,n=>by
  unfold blkF;split
  ·rename_i q;have:=blkF_rng es s k f (n+1);omega
  omega
theorem blkE_rng(es:List Ev){s:List Int}{k:Nat}(h:k<s.length):k<blkE es s k∧blkE es s k≤s.length:=by
 unfold blkE;obtain⟨f,hf⟩:∃f,s.length-k=f+1:=⟨s.length-k-1,Om⟩;rw[hf];unfold blkF;rw[if_pos ⟨Om,rfl⟩];have:=blkF_rng es s k f (k+1);omega
def putA(N:List (List Int))(bef blk:List Int):Nat→List (List Int)
 |0=>N
 |j+1=>(putA N bef blk j).set bef[j]!.toNat ((putA N bef blk j)[bef[j]!.toNat]! ++blk)
theorem putA_len(N:List (List Int))(bef blk:List Int):∀j,(putA N bef blk j).length=N.length
 |0=>rfl
 |j+1=>by show(List.set _ _ _).length=_;rw[List.length_set];exact putA_len N bef blk j
def rgB(es:List Ev)(s:List Int):Nat→Nat→Nat→List (List Int)→List (List Int)
 |0,_,_,N=>N
 |f+1,k0,k,N=>if(k:Int)<(s.length:Int)then rgB es s f k (blkE es s k) (putA N ((s.take k).drop k0) ((s.take (blkE es s k)).drop k) ((s.take k).drop k0).length)else N
theorem rgB_end{es:List Ev}{s:List Int}{f k0 k:Nat}{N:List (List Int)}(h:¬(k:Int)<(s.length:Int)):rgB es s f k0 k N=N:=by
 cases f with
 |zero=>rfl
 |succ f=>exact if_neg h
theorem rgB_len(es:List Ev)(s:List Int):∀(f k0 k:Nat) (N:List (List Int)),(rgB es s f k0 k N).length=N.length
 |0,_,_,_=>rfl
 |f+1,k0,k,N=>by
  unfold rgB;split
  ·rw[rgB_len es s f,putA_len]
  ·rfl
theorem putA_at(N:List (List Int))(bef blk:List Int)(hb:∀x∈bef,x.toNat<N.length):∀j,j≤bef.length→∀a,a<N.length→(putA N bef blk j)[a]! =N[a]! ++(putA (List.replicate N.length []) bef blk j)[a]!
 |0,_,a,ha=>by
  show N[a]! =N[a]! ++(List.replicate N.length [])[a]!;grind
 |j+1,hj,a,ha=>by
  have ih:=putA_at N bef blk hb j Om;have hk:=hb _ (mem_b (show j<bef.length from hj));show(List.set _ _ _)[a]! =N[a]! ++(List.set _ _ _)[a]!;rw[set_at _ _ _ _ (by grind [putA_len]),set_at _ _ _ _ (by grind [putA_len,List.length_replicate])];grind
theorem rgB_at(es:List Ev)(s:List Int):∀(f k0 k:Nat) (N:List (List Int)),(∀x∈s,x.toNat<N.length)→∀a,a<N.length→(rgB es s f k0 k N)[a]! =N[a]! ++(rgB es s f k0 k (List.replicate N.length []))[a]!
 |0,_,_,N,_,a,ha=>by
  show N[a]! =N[a]! ++(List.replicate N.length [])[a]!;grind
 |f+1,k0,k,N,hs,a,ha=>by
  unfold rgB;have hb:∀x∈(s.take k).drop k0,x.toNat<N.length:=fun x hx=>hs x (List.mem_of_mem_take (List.mem_of_mem_drop hx));split
  ·rw[rgB_at es s f _ _ _ (by grind [putA_len]) a (by grind [putA_len]),putA_at N _ _ hb _ Nl a ha];rw[rgB_at es s f _ _ (putA (List.replicate N.length []) _ _ _) (by grind [putA_len,List.length_replicate]) a (by grind [putA_len,List.length_replicate])];grind [putA_len,List.length_replicate,List.append_assoc]
  grind
def rdS(es:List Ev)(s:List Int)(n a:Nat):List Int:=(rgB es s s.length 0 0 (List.replicate n []))[a]!
theorem rgB_S{es:List Ev}{s:List Int}{N:List (List Int)}(hs:∀x∈s,x.toNat<N.length){a:Nat}(ha:a<N.length):(rgB es s s.length 0 0 N)[a]! =N[a]! ++rdS es s N.length a:=rgB_at es s _ _ _ N hs a ha
theorem putA_mem{N:List (List Int)}{bef blk:List Int}:∀j,j≤bef.length→∀a,a<N.length→(∀i,i<j→bef[i]!.toNat≠a)→(putA N bef blk j)[a]! =N[a]!
 |0,_,_,_,_=>rfl
 |j+1,hj,a,ha,h=>by
  show(List.set _ _ _)[a]! =_;rw[set_at _ _ _ _ (by grind [putA_len]),if_neg (h j Om)];exact putA_mem j Om a ha fun i hi=>h i Om
theorem rgB_mem{es:List Ev}{s:List Int}:∀(f k0 k:Nat) (N:List (List Int)) (a:Nat),a<N.length→(∀x∈s,x.toNat≠a)→(rgB es s f k0 k N)[a]! =N[a]!
 |0,_,_,_,_,_,_=>rfl
 |f+1,k0,k,N,a,ha,h=>by
  unfold rgB;split
  ·rw[rgB_mem f _ _ _ a (by grind [putA_len]) h,putA_mem _ Nl a ha fun i hi=>h _ (List.mem_of_mem_take (List.mem_of_mem_drop (mem_b hi)))]
  ·rfl
theorem rdS_none{es:List Ev}{s:List Int}{n a:Nat}(ha:a<n)(h:∀x∈s,x.toNat≠a):rdS es s n a=[]:=by
 grind [rdS,rgB_mem,bang_eq]
theorem putA_LB{N:List (List Int)}{n B:Nat}{bef blk:List Int}(h:LB N n B)(hn:bef.Nodup)(hb:∀x∈bef,0≤x∧x<(n:Int))(hk:∀x∈blk,0≤x∧x<(n:Int)):∀j,j≤bef.length→LB (putA N bef blk j) n (B+blk.length)
 |0,_=>h.up Om
 |j+1,hj=>by
  have ih:=putA_LB h hn hb hk j Om;have hx:=hb _ (mem_b (show j<bef.length from hj));refine ih.set_ ⟨fun x hx'=>(List.mem_append.1 hx').elim ((ih.at_ Om).1 x) (hk x),?_⟩;rw[putA_mem j Om _ (by rw[h.1];omega) fun i hi e=> ?_]
  ·rw[List.length_append];have:=(h.at_ (show bef[j]!.toNat<n by omega)).2;omega
  grind [mem_b,getElem!,bang_eq,List.getElem_inj]
theorem take_drop_len{s:List Int}{k n:Nat}(h1:k≤n)(h2:n≤s.length):((s.take n).drop k).length=n-k:=by
 grind
theorem rgB_LB{es:List Ev}{s:List Int}{n:Nat}(hn:s.Nodup)(hs:∀x∈s,0≤x∧x<(n:Int)):∀(f k0 k:Nat) (N:List (List Int)) (B:Nat),LB N n B→k≤s.length→LB (rgB es s f k0 k N) n (B+(s.length-k))
 |0,_,_,_,_,h,_=>h.up Om
 |f+1,k0,k,N,B,h,hk=>by
  unfold rgB;split
  ·obtain⟨r1,r2⟩:=blkE_rng es (s:=s) (k:=k) Om;have hp:=putA_LB (blk:=(s.take (blkE es s k)).drop k) h (hn.sublist ((List.drop_sublist _ _).trans (List.take_sublist _ _)):((s.take k).drop k0).Nodup) (fun x hx=>hs x (List.mem_of_mem_take (List.mem_of_mem_drop hx))) (fun x hx=>hs x (List.mem_of_mem_take (List.mem_of_mem_drop hx))) _ Nl;rw[take_drop_len Om r2]at hp;exact(rgB_LB hn hs f _ _ _ _ hp r2).up Om
  grind
structure GpOk(ths:List Th)(ids:List Ix)(G:List (Int×List Int))(i:Nat):Prop where
 keys:(G.map (·.1)).Nodup
 el:∀g∈G,g.2.Nodup∧g.2.length≤i∧∀x∈g.2,0≤x∧x<(i:Int)∧dmA ths ids x.toNat=g.1
theorem lget_mem:∀(G:List (Int×List Int)) (x:Int),lget G x=[]∨(x,lget G x)∈G
 |[],_=>.inl rfl
 |(k,v)::r,x=>by
  by_cases q:x=k
  ·simp_all [lget,List.cons,Prod.mk,if_pos,List.mem_cons_self]
  ·rw[show lget ((k,v)::r) x=lget r x from if_neg q];exact(lget_mem r x).imp id fun h=>List.mem_cons_of_mem _ h
theorem lset_mem:∀{G:List (Int×List Int)} {x:Int} {u:List Int} {y:Int×List Int},y∈lset G x u→y∈G∨y=(x,u)
 |[],x,u,y,h=>.inr (List.mem_singleton.1 h)
 |(k,v)::r,x,u,y,h=>by
  by_cases q:x=k
  ·have e:lset ((k,v)::r) x u=(k,u)::r:=if_pos q;grind
  ·have e:lset ((k,v)::r) x u=(k,v)::lset r x u:=if_neg q;rw[e]at h;rcases List.mem_cons.1 h with h|h
   ·grind
   ·exact(lset_mem h).imp (List.mem_cons_of_mem _) id
theorem lset_keys:∀(G:List (Int×List Int)) (x:Int) (u:List Int),(G.map (·.1)).Nodup→((lset G x u).map (·.1)).Nodup∧∀y,y∈(lset G x u).map (·.1)→y=x∨y∈G.map (·.1)
 |[],x,u,_=>⟨by simp[lset],fun y hy=>.inl (by grind [lset])⟩
 |(k,v)::r,x,u,h=>by
  rw[List.map_cons,List.nodup_cons]at h;by_cases q:x=k
  ·simp_all [lset,List.cons,Prod.mk,if_pos,And.intro,List.map_cons,List.nodup_cons]
  ·have e:lset ((k,v)::r) x u=(k,v)::lset r x u:=if_neg q;obtain⟨a,b⟩:=lset_keys r x u h.2;grind
theorem gpN_ok(ths:List Th)(ids:List Ix):∀i,GpOk ths ids (gpN ths ids i) i
 |0=>⟨List.nodup_nil,fun g hg=>by cases hg⟩
 |i+1=>by
  have ih:=gpN_ok ths ids i;refine⟨(lset_keys _ _ _ ih.keys).1,fun g hg=> ?_⟩;rcases lset_mem hg with h|rfl
  ·obtain⟨a,b,c⟩:=ih.el g h;grind
  ·have key:(lget (gpN ths ids i) (dmA ths ids i)).Nodup∧(lget (gpN ths ids i) (dmA ths ids i)).length≤i∧∀x∈lget (gpN ths ids i) (dmA ths ids i),0≤x∧x<(i:Int)∧dmA ths ids x.toNat=dmA ths ids i:=by
    rcases lget_mem (gpN ths ids i) (dmA ths ids i)with h|h
    ·grind
    ·exact ih.el _ h
   grind
def srtG(es:List Ev)(l:List Int):List Int:=stabF (cmA es) l
def rdF(ths:List Th)(ids:List Ix)(es:List Ev)(N:List (List Int)):List (List Int):=(List.range N.length).map fun a=>N[a]! ++rdS es (srtG es (lget (gpN ths ids ids.length) (dmA ths ids a))) N.length a
def wtI(w:List Int)(l:List Int)(j:Nat):List Int:=fN (fun w k=>w.set k.toNat (w[k.toNat]! +1)) w l j
def wtN(N:List (List Int))(i:Nat):List Int:=fN (fun w l=>wtI w l l.length) (List.replicate N.length 0) N i
def rdyN(w:List Int):Nat→List Int
 |0=>[]
 |i+1=>if w[i]! =0 then rdyN w i++[(i:Int)]else rdyN w i
def kaI(s:List Int×List Int)(k:Int):List Int×List Int:=
 (if s.2[k.toNat]! -1=0 then s.1++[k]else s.1,s.2.set k.toNat (s.2[k.toNat]! -1))
def kaR(s:List Int×List Int)(l:List Int)(j:Nat):List Int×List Int:=fN kaI s l j
def kaF(N:List (List Int)):Nat→List Int→List Int→Nat→Nat
 |0,_,_,d=>d
 |f+1,r,w,d=>if(r.length:Int)>0 then kaF N f (kaR (r.drop 1,w) N[r[0]!.toNat]! N[r[0]!.toNat]!.length).1 (kaR (r.drop 1,w) N[r[0]!.toNat]! N[r[0]!.toNat]!.length).2 (d+1)else d
def wS(w:List Int):Nat:=(w.map Int.toNat).sum
def kaM(r w:List Int):Nat:=r.length+wS w
def kahn(N:List (List Int)):Nat:=kaF N (kaM (rdyN (wtN N N.length) N.length) (wtN N N.length)) (rdyN (wtN N N.length) N.length) (wtN N N.length) 0
theorem wS_set:∀(w:List Int) (k:Nat) (v:Int),k<w.length→wS (w.set k v)+w[k]!.toNat=wS w+v.toNat
 |[],k,v,h=>by simp at h
 |x::r,0,v,h=>by grind [wS]
 |x::r,k+1,v,h=>by
  have ih:=wS_set r k v (by grind);unfold wS at ih ⊢;grind
theorem kaI_M{r w:List Int}{k:Int}(hk:k.toNat<w.length):kaM (kaI (r,w) k).1 (kaI (r,w) k).2≤kaM r w:=by
 grind [wS_set,getElem!,kaI,kaM,List.length_append,List.length_cons,List.length_nil]
theorem kaI_len(s:List Int×List Int)(k:Int):(kaI s k).2.length=s.2.length:=List.length_set
theorem kaF_end{N:List (List Int)}{f d:Nat}{w:List Int}:kaF N f [] w d=d:=by
 cases f with
 |zero=>rfl
 |succ f=>rfl
def soE(ths:List Th)(d:List Dm)(s:List Sn)(l:List Pk):Int:=
 if exE ths d s l≠0 then exE ths d s l
 else if(kahn (rdF ths (idsOf l) (evsOf l) (edF (idsOf l) (evsOf l))):Int)<((idsOf l).length:Int)then 13 else 0
def caN(ths:List Th)(l:List Pk):List (List Int):=rdF ths (idsOf l) (evsOf l) (edF (idsOf l) (evsOf l))
def vcI(ids:List Ix)(N:List (List Int))(th:Int)(at_:Nat):Nat→Int
 |0=>0
 |i+1=>if ids[i]!.th=th∧(i=at_∨(aftF N i)[at_]! =true)then ids[i]!.sr+1 else vcI ids N th at_ i
def vcF(ths:List Th)(ids:List Ix)(N:List (List Int))(at_:Nat)(j:Nat):List Int:=(ths.take j).map fun t=>vcI ids N t.id at_ ids.length
end TW
end Go.Proofs.YtaclfjjipnpboaaGreatDoor
section
attribute [local irreducible] Go.Eng.WC Go.Eng.WL Go.Eng.WK Go.Eng.WQ Go.Eng.WX Go.Eng.Yld
namespace Go.Proofs.YtaclfjjipnpboaaGreatDoor
open Go Go.Eng Go.RowKit
namespace TW
theorem A_l_none{A:Option Addr}{w:World}{n c:Nat}{l:List Int}(h:A.isNone=true)(hl:Ls w A n c ic 1 l):Ls w none n c ic 1 l:=by cases A with|none=>exact hl|some a=>cases h
theorem af_done{N:List (List Int)}{m:Nat}{sn:List Bool}{w:World}{b e:Nat}{v:Value}(h:OwnL w b e bc 1 v sn):OwnL w b e bc 1 v (dfs N m [] sn):=by cases m<;>exact h
theorem cloneI_any(A_l:Option Addr)(n_l c_l:Nat)(l:List Int)(w:World)(h_l:Ls w A_l n_l c_l ic 1 l)(hn:n_l≤100000):
  Calls Tryz.prog 198 #[.slice A_l n_l c_l] w fun e w'=>∃v,e= .returned v∧OwnL w' w.heap.size 3 ic 1 v (l)∧Ext w w':=by
 have H:=(Hp.nil w);have e_l:=h_l.len;have z_l:=h_l.nle;refine Wb Tryz.func198 ?_;refine G6 ?_;refine yy (Y.eqlNilS rfl u81 rfl) ?_;refine go ?_;refine WC.cond rfl (fun h4=> ?_) (fun h4=> ?_)
 ·refine go ?_;refine Rt [_] ?_;have e:l=[]:=none_nil (A_l_none h4 h_l);subst e;exact⟨_,rfl,OwnL.nil_,H.ext⟩
 ·refine go ?_;refine bs0 ic H u81 ti3 fun v7 z H=> ?_;refine go ?_;refine apl H 0 rfl (h_l.ext H.ext) u81 ti3 ic_one (by simp only[List.length_nil];omega) fun v9 z H=> ?_;refine go ?_;refine Rt [_] ?_;exact⟨_,rfl,H.out 0,H.ext⟩
theorem ixfT_any(A_l:Option Addr)(n_l c_l:Nat)(l:List Th)(f:FuncId)(cap:List Value)(pr:Th→Bool)(w:World)(h_l:Ls w A_l n_l c_l Th.c 3 l)(hF:Has Tryz.prog f)(hp:∀k,k<l.length→∀w1,Ext w w1→Calls Tryz.prog f ([]++[Value.agg (Th.c l[k]!).toArray]++cap).toArray w1 fun e w2=>e= .returned (.bool (pr l[k]!))∧Ext w1 w2):
  Cr 240 #[.slice A_l n_l c_l,.func (.func f) #[] cap.toArray] w (.int .i64 (ixP pr l)):=by
 have H:=(Hp.nil w);have e_l:=h_l.len;have z_l:=h_l.nle;refine Wb Tryz.func240 ?_;refine go ?_;refine sb [8,0,1,7] ?_;refine WC.loopS 1 (fun mz Ed W'=>∃j:Nat,mz=n_l-j∧Ed=[(8,.int .i64 ((j:Nat):Int))]∧Hp w W' ([])∧(j≤n_l)∧(∀k,k<j→pr l[k]! =false)) _ ⟨0,rfl,rfl,(H.pick []),(Nat.zero_le _),(fun k h=>absurd h (Nat.not_lt_zero k))⟩ ?_;rintro _ _ z ⟨j,rfl,rfl,H,jl,hb⟩;refine go ?_;refine Cd (fun p6=> ?_) fun p6=> ?_
 ·have b10:j<n_l:=Om;refine go ?_;refine c1V rfl H hF (hp j Om _ H.ext) fun z H=> ?_;refine go ?_;refine WC.cond rfl (fun h11=> ?_) (fun h11=> ?_)
  ·refine go ?_;refine Rt [_] ?_;exact⟨ret1 (vi (ixP_at Om hb h11).symm),H.ext⟩
  ·refine go ?_;exact Rs [(8,_)] Sx ⟨(j+1),rfl,rfl,(H.pick []),Om,(fun k h=>(Nat.lt_succ_iff_lt_or_eq.1 h).elim (hb k) fun e=>e▸h11)⟩
 ·refine go ?_;refine Rt [_] ?_;exact⟨ret1 (vi (ixP_no (fun k hk=>hb k Om)).symm),H.ext⟩
theorem after_any(x:Cw)(ids:List Ix)(es:List Ev)(N:List (List Int))(i:Nat)(w:World)(hw:x.ok 300 w ids es N)(hN:NOk N)(hi:i<N.length)(hnl:ids.length=N.length)(h1:N.length≤100):
  Calls Tryz.prog 167 #[.pointer (some ⟨x.g,0,none⟩),.int .i64 (i:Int)] w fun e w'=>∃v,e= .returned v∧OwnL w' w.heap.size 4 bc 1 v (aftF N i)∧Ext w w':=by
 have H:=(Hp.nil w);obtain⟨hwb,hwi,hwe,hwm,ns,hn1,hn2,rfl⟩:=hw;rw[List.length_map]at hi hnl h1;have e_i:=hwi.len;have e_n:=hn1.len;have hni:=(hn2 _ (mem_b (show i<ns.length by omega))).len;have hnb:=(hN _ (List.mem_map_of_mem (mem_b (show i<ns.length by omega)))).2;refine Wb Tryz.func167 ?_;refine G3 ?_;refine sb [0,1] ?_;refine go ?_;refine ms (f:=bc) (m:=x.iN) false H u301 ti4 Om fun v3 z H=> ?_;have b6:i<x.nN:=Om;refine go ?_;refine c2 H Fh (cloneI_any _ _ _ _ _ ((hn2 _ (mem_b (show i<ns.length from Om))).ext H.ext) Om) fun v7 z H=> ?_;refine go ?_;refine sb [6,5,0] ?_;refine WC.loopS 2 (fun mz Ed W'=>∃m:Nat,∃v:Value,∃u:Value,∃t:List Int,∃sn:List Bool,mz=2*m∧Ed=[(6,v),(5,u)]∧Hp w W' (row 3 ic 1 v (t)::row 4 bc 1 u (sn)::[])∧(m=wgt (ns.map Nx.l) t sn)∧(dfs (ns.map Nx.l) m t sn=aftF (ns.map Nx.l) i)∧(∀x∈t,0≤x∧x<((ns.map Nx.l).length:Int))∧(sn.length=(ns.map Nx.l).length)∧(m≤101000)) _ ⟨(wgt (ns.map Nx.l) (ns.map Nx.l)[i]! (List.replicate (ns.map Nx.l).length false)),_,_,(ns.map Nx.l)[i]!,(List.replicate (ns.map Nx.l).length false),rfl,rfl,(by rw[map_b Nx.l Om,List.length_map,←hnl,e_i];exact(H.pick [0,0])),rfl,rfl,(hN _ (mem_b (by rw[List.length_map];omega))).1,(List.length_replicate),(wgt_le _ (fun l hl=>(hN l hl).2) (hN _ (mem_b (by rw[List.length_map];omega))).2 (by rw[List.length_map];omega))⟩ ?_;rintro _ _ z ⟨m,v,u,t,sn,rfl,rfl,H,hm,hd,ht,hsl,hmb⟩;have sl:=sum_le (N:=ns.map Nx.l) sn (fun l hl=>(hN l hl).2) _ Nl;have wl:t.length≤m:=by rw[hm];unfold wgt;omega
 have nl2:(ns.map Nx.l).length=ns.length:=List.length_map _;obtain⟨A10,n11,c12,rfl,e_n11,_,_⟩:=H.op 0;subst e_n11;refine go ?_;refine Cd (fun p15=> ?_) fun p15=> ?_
 ·have hkx:=ht _ (mem_b (show t.length-1<t.length by omega));have hkn:t[t.length-1]!.toNat<(ns.map Nx.l).length:=Om;have b17:(t.length-1)<t.length:=Om;refine G8 ?_;refine yy (Y.indexLs (t.length-1) (H.l 0) rfl u81 ti3 rfl rfl Om b17) ?_;have b19:(t.length-1)≤t.length:=Om;refine G8 ?_;refine yy (Y.sliceH (t.length-1) rfl u81 ti3 rfl rfl Om Om) ?_;have H:=H.cut 0 ((t.length-1)) rfl Om;obtain⟨A21,n22,c23,rfl,_,_,_⟩:=H.op 1;have b24:t[t.length-1]!.toNat<n22:=Om;refine G5 ?_;refine yy (Y.indexLs t[t.length-1]!.toNat (H.l 1) rfl u301 ti4 rfl rfl Om b24) ?_;refine go ?_;refine WC.cond rfl (fun h25=> ?_) (fun h25=> ?_)
  ·have b27:t[t.length-1]!.toNat<n22:=Om;refine G3 ?_;refine yy (Y.indexLs t[t.length-1]!.toNat (H.l 1) rfl u301 ti4 rfl rfl Om b27) ?_;refine ste H 1 rfl true b27 ti4 rfl fun z H=> ?_;have b28:t[t.length-1]!.toNat<x.nN:=Om;refine G1 ?_;refine sb [0,5,6,7] ?_;refine G7 ?_;refine yy (Y.indexLs t[t.length-1]!.toNat (hn1.ext H.ext) rfl u179 ti81 rfl rfl Om b28) ?_;refine go ?_;refine apl H 0 rfl ((hn2 _ (mem_b (show t[t.length-1]!.toNat<ns.length from Om))).ext H.ext) u81 ti3 ic_one (by have hq:=(hN _ (mem_b hkn)).2;rw[map_b Nx.l Om]at hq;rw[List.length_take];omega) fun v29 z H=> ?_;have hg:=wgt_new (N:=ns.map Nx.l) (t:=t) Om hkn hsl (nt_f (not_t h25));rw[map_b Nx.l (by rw[List.length_map]at hkn;exact hkn)]at hg;refine go ?_;exact Rs [(6,_),(5,_)] Sx ⟨(m-1),v29,(.slice A21 n22 c23),((t.take (t.length-1))++ns[t[t.length-1]!.toNat]!.l),(sn.set t[t.length-1]!.toNat true),rfl,rfl,(H.pick [0,0]),Om,(hd.symm.trans (by rw[show m=(m-1)+1 from Om];exact ite_to Om (ite_to (nt_f (not_t h25)) (by rw[map_b Nx.l (by rw[List.length_map]at hkn;exact hkn)];rfl)))).symm,(by intro x hx;rcases List.mem_append.1 hx with h|h;exact ht x (List.mem_of_mem_take h);exact(hN _ (List.mem_map_of_mem (mem_b (by rw[List.length_map]at hkn;exact hkn)))).1 x h),(by rw[List.length_set];exact hsl),Om⟩
  ·have hg:=wgt_seen (N:=ns.map Nx.l) (t:=t) (s:=sn) Om;refine go ?_;exact Rs [(6,_),(5,_)] Sx ⟨(m-1),(.slice A10 ((t.length-1)) c12),(.slice A21 n22 c23),(t.take (t.length-1)),sn,rfl,rfl,(H.pick [0,0]),Om,(hd.symm.trans (by rw[show m=(m-1)+1 from Om];exact ite_to Om (ite_no (not_not_intro (not_f h25)) rfl))).symm,(fun x hx=>ht x (List.mem_of_mem_take hx)),hsl,Om⟩
 ·refine go ?_;refine Rt [_] ?_;have e0:t=[]:=List.length_eq_zero_iff.1 Om;subst e0;exact⟨_,rfl,(by rw[←hd];exact af_done (H.out 1)),H.ext⟩
theorem dom1_any(t:Th)(ga:Nat)(gb:Nat)(i:Nat)(x:Cw)(ids:List Ix)(w:World)(h2:Blk w ga 294 [.pointer (some ⟨x.g,0,none⟩)])(h3:Blk w gb 3 [.int .i64 (i:Int)])(hb:Blk w x.g 300 x.cells)(hids:Ls w x.iA x.iN x.iC Ix.c 2 ids)(hi:i<ids.length):
  Cr 241 #[.agg #[.int .i64 t.id,.string t.nm,.int .i64 t.dom],.pointer (some ⟨ga,0,none⟩),.pointer (some ⟨gb,0,none⟩)] w (.bool (t.id==ids[i]!.th)):=by
 have H:=(Hp.nil w);have e_i:=hids.len;have z_i:=hids.nle;refine Wb Tryz.func241 ?_;refine go ?_;refine bx H fun g2 z H=> ?_;refine go ?_;refine Qr ?_;have b5:i<x.iN:=Om;refine go ?_;refine Qd H fun z H=> ?_;refine go ?_;refine Rt [_] ?_;exact⟨rfl,H.ext⟩
theorem domain_any(x:Cw)(ids:List Ix)(i:Nat)(ths:List Th)(w:World)(hb:Blk w x.g 300 x.cells)(hids:Ls w x.iA x.iN x.iC Ix.c 2 ids)(hths:Ls w x.tA x.tN x.tC Th.c 3 ths)(hi:i<ids.length)(hk:ixP (fun t=>t.id==ids[i]!.th) ths≥0):
  Cr 219 #[.pointer (some ⟨x.g,0,none⟩),.int .i64 (i:Int)] w (.int .i64 (domOf ths ids[i]!.th)):=by
 have H:=(Hp.nil w);have e_i:=hids.len;have z_i:=hids.nle;have e_t:=hths.len;have z_t:=hths.nle;have hl:=ixP_lt (fun t=>t.id==ids[i]!.th) ths;refine Wb Tryz.func219 ?_;refine go ?_;refine bx H fun g2 z H=> ?_;refine bx H fun g4 z H=> ?_;refine G9 ?_;refine yy (Y.func rfl rfl rfl) ?_;refine c1 H Fh (ixfT_any _ _ _ _ 241 [.pointer (some ⟨g2,0,none⟩),.pointer (some ⟨g4,0,none⟩)] (fun t=>t.id==ids[i]!.th) _ (hths.ext H.ext) Fh (fun k hk w1 x1=>dom1_any ths[k]! g2 g4 i x ids w1 (Blk.ext (H.b 1) x1) (Blk.ext (H.b 0) x1) (hb.ext (H.ext.trans x1)) (hids.ext (H.ext.trans x1)) hi)) fun z H=> ?_;have b8:(ixP (fun t=>t.id==ids[i]!.th) ths).toNat<x.tN:=Om;refine G10 ?_;refine yy (Y.indexLs (ixP (fun t=>t.id==ids[i]!.th) ths).toNat (hths.ext H.ext) rfl u22 ti68 rfl rfl Om b8) ?_;refine G4 ?_;refine sb [4] ?_;refine go ?_;refine Rt [_] ?_;exact⟨rfl,H.ext⟩
theorem nanI_any(x:Int)(w:World):
  Cr 140 #[.int .i64 x] w (.bool false):=by
 have H:=(Hp.nil w);refine Wb Tryz.func140 ?_;refine G6 ?_;refine yy (Yld.cast (Y.neq rfl rfl rfl) (vb (show(!(x==x))=false from by simp[beqB_self]))) ?_;refine go ?_;refine Rt [_] ?_;exact⟨rfl,H.ext⟩
theorem cmpI_any(x:Int)(y:Int)(w:World):
  Cr 97 #[.int .i64 x,.int .i64 y] w (.int .i64 (cmpI x y)):=by
 have H:=(Hp.nil w);refine Wb Tryz.func97 ?_;refine go ?_;refine c1 H Fh (nanI_any _ _) fun z H=> ?_;refine go ?_;refine c1 H Fh (nanI_any _ _) fun z H=> ?_;refine go ?_;refine WC.condF rfl ?_;refine go ?_;refine WC.condF rfl ?_;refine go ?_;refine Cd (fun p10=> ?_) fun p10=> ?_
 ·refine G3 ?_;refine sb [4] ?_;refine go ?_;refine Rt [_] ?_;exact⟨ret1 (vi (Eq.symm (ite_to p10 rfl))),H.ext⟩
 ·refine go ?_;refine Cd (fun p14=> ?_) fun p14=> ?_
  ·refine go ?_;refine Rt [_] ?_;exact⟨ret1 (vi (Eq.symm (ite_no p10 (ite_to p14 rfl)))),H.ext⟩
  ·refine go ?_;refine Rt [_] ?_;exact⟨ret1 (vi (Eq.symm (ite_no p10 (ite_no p14 rfl)))),H.ext⟩
theorem nanS_any(x:ByteArray)(w:World):
  Cr 172 #[.string x] w (.bool false):=by
 have H:=(Hp.nil w);refine Wb Tryz.func172 ?_;refine G6 ?_;refine yy (Yld.cast (Y.neqStr rfl rfl rfl) (vb (show(!(x==x))=false from by simp[beqB_self]))) ?_;refine go ?_;refine Rt [_] ?_;exact⟨rfl,H.ext⟩
theorem cmpS_any(x:ByteArray)(y:ByteArray)(w:World):
  Cr 137 #[.string x,.string y] w (.int .i64 (cmpS x y)):=by
 have H:=(Hp.nil w);refine Wb Tryz.func137 ?_;refine go ?_;refine c1 H Fh (nanS_any _ _) fun z H=> ?_;refine go ?_;refine c1 H Fh (nanS_any _ _) fun z H=> ?_;refine G6 ?_;refine sb [0,1,6,11] ?_;refine WC.condF rfl ?_;refine go ?_;refine WC.condF rfl ?_;refine G6 ?_;refine yy (Y.lssStr rfl rfl rfl) ?_;refine go ?_;refine WC.cond rfl (fun h10=> ?_) (fun h10=> ?_)
 ·refine go ?_;refine Rt [_] ?_;exact⟨ret1 (vi (Eq.symm (ite_to h10 rfl))),H.ext⟩
 ·refine G6 ?_;refine yy (Y.gtrStr rfl rfl rfl) ?_;refine go ?_;refine WC.cond rfl (fun h14=> ?_) (fun h14=> ?_)
  ·refine go ?_;refine Rt [_] ?_;exact⟨ret1 (vi (Eq.symm (ite_no (nt_f h10) (ite_to h14 rfl)))),H.ext⟩
  ·refine go ?_;refine Rt [_] ?_;exact⟨ret1 (vi (Eq.symm (ite_no (nt_f h10) (ite_no (nt_f h14) rfl)))),H.ext⟩
theorem or_any(A_l:Option Addr)(n_l c_l:Nat)(l:List Int)(w:World)(h_l:Ls w A_l n_l c_l ic 1 l):
  Cr 132 #[.slice A_l n_l c_l] w (.int .i64 (orF l)):=by
 have H:=(Hp.nil w);have e_l:=h_l.len;have z_l:=h_l.nle;refine Wb Tryz.func132 ?_;refine G12 ?_;refine sb [3,6,7,8] ?_;refine go ?_;refine sb [8,3,6,7] ?_;refine WC.loopS 1 (fun mz Ed W'=>∃j:Nat,mz=n_l-j∧Ed=[(8,.int .i64 ((j:Nat):Int))]∧Hp w W' ([])∧(j≤n_l)∧(fE (fun i=>l[i]!) j=0)) _ ⟨0,rfl,rfl,(H.pick []),(Nat.zero_le _),rfl⟩ ?_;rintro _ _ z ⟨j,rfl,rfl,H,jl,hp⟩;refine go ?_;refine Cd (fun p7=> ?_) fun p7=> ?_
 ·have b10:j<n_l:=Om;refine go ?_;refine Cd (fun p12=> ?_) fun p12=> ?_
  ·refine go ?_;refine Rt [_] ?_;subst e_l;exact⟨ret1 (vi (Eq.symm (fE_ret hp rfl p12 Om))),H.ext⟩
  ·refine go ?_;exact Rs [(8,_)] Sx ⟨(j+1),rfl,rfl,(H.pick []),Om,(fE_next hp (Decidable.of_not_not (fun q=>q p12)))⟩
 ·refine G9 ?_;refine sb [2] ?_;refine go ?_;refine Rt [_] ?_;subst e_l;exact⟨ret1 (vi (Eq.symm (fE_end hp Om))),H.ext⟩
theorem nx_zero{W w:World}{M:List Res}(H:Hp W w M):∀n,Hp W w (big nxF (List.replicate n default)::M)
 |0=>H.bigNil nxF
 |n+1=>by
  have h:=Hp.bigPush nxF (default:Nx) ((nx_zero H n).nilRow 3 ic 1);rwa[←List.replicate_succ']at h
theorem edges_any(X:Cw)(ids:List Ix)(es:List Ev)(ns:List Nx)(W:World)(R:List Res)(w:World)(H:Hp W w (box X.g 300 X.cells::row 105 Ix.c 2 (.slice X.iA X.iN X.iC) ids::row 73 Ev.c 6 (.slice X.eA X.eN X.eC) es::row 81 Nx.c 1 (.slice X.nA X.nN X.nC) ns::big nxF ns::R))(hN:ns.map Nx.l=List.replicate ids.length [])(he:es.length=ids.length)(h1:ids.length≤100):
  Calls Tryz.prog 196 #[.pointer (some ⟨X.g,0,none⟩)] w fun e w'=>∃ns',e= .returned (resVal [])∧Hp W w' (box X.g 300 X.cells::row 105 Ix.c 2 (.slice X.iA X.iN X.iC) ids::row 73 Ev.c 6 (.slice X.eA X.eN X.eC) es::row 81 Nx.c 1 (.slice X.nA X.nN X.nC) ns'::big nxF ns'::R)∧ns'.map Nx.l=edF ids es:=by
 have e_i:=(H.l 1).len;have e_e:=(H.l 2).len;have e_n:=(H.l 3).len;have z_e:=(H.l 2).nle;have nl0:ns.length=ids.length:=by rw[←List.length_map (f:=Nx.l),hN,List.length_replicate]
 have hM:∀x v,iget (sndN es es.length) x=some v→0≤v∧v<(ids.length:Int):=fun x v hv=>by have:=sndN_rng es _ x v hv;omega
 refine Wb Tryz.func196 ?_;refine G1 ?_;refine mm H fun g8 z H=> ?_;refine go ?_;refine sb [16,0,2,14,15] ?_;refine WC.loopS 1 (fun mz Ed W'=>∃j:Nat,mz=X.eN-j∧Ed=[(16,.int .i64 ((j:Nat):Int))]∧Hp W W' (mpi g8 (im (sndN es j))::_::_::_::_::_::R)∧(j≤X.eN)) _ ⟨0,rfl,rfl,H,(Nat.zero_le _)⟩ ?_;rintro _ _ z ⟨j,rfl,rfl,H,jl⟩;refine go ?_;refine Cd (fun p14=> ?_) fun p14=> ?_
 ·have b17:j<X.eN:=Om;refine go ?_;refine al H ti73 fun g18 z H=> ?_;refine go ?_;refine st H 0 ti73 fun z H=> ?_;refine go ?_;refine Cd (fun p21=> ?_) fun p21=> ?_
  ·refine G5 ?_;refine mu H 1 u178 u3 fun z H=> ?_;refine go ?_;exact Rs [(16,_)] Sx ⟨(j+1),rfl,rfl,(by rw[show sndN es (j+1)=iset (sndN es j) es[j]!.n (j:Int)from(ite_to p21 rfl),←mset_im];exact(H.drop [0])),Om⟩
  ·refine go ?_;exact Rs [(16,_)] Sx ⟨(j+1),rfl,rfl,(by rw[show sndN es (j+1)=sndN es j from(ite_no p21 rfl)];exact(H.drop [0])),Om⟩
 ·obtain rfl:j=es.length:=Om;refine G14 ?_;refine sb [0,2,32,33,34] ?_;refine go ?_;refine sb [34,0,2,32,33] ?_;refine WC.loopS 1 (fun mz Ed W'=>∃i:Nat,∃ms:List Nx,mz=X.eN-i∧Ed=[(34,.int .i64 ((i:Nat):Int))]∧Hp W W' (_::_::_::_::row 81 Nx.c 1 (.slice X.nA X.nN X.nC) ms::big nxF ms::R)∧(i≤X.eN)∧(ms.map Nx.l=nxtN ids es (sndN es es.length) i)) _ ⟨0,ns,rfl,rfl,H,(Nat.zero_le _),hN⟩ ?_;rintro _ _ z ⟨i,ms,rfl,rfl,H,il,hn⟩;have lb:=nxtN_ok (ids:=ids) (es:=es) hM i Om;have nl:ms.length=ids.length:=by rw[←List.length_map (f:=Nx.l),hn];exact lb.1
  refine go ?_;refine Cd (fun p26=> ?_) fun p26=> ?_
  ·have b29:i<X.eN:=Om;refine go ?_;refine al H ti73 fun g30 z H=> ?_;refine go ?_;refine st H 0 ti73 fun z H=> ?_;refine go ?_;refine Qr ?_;refine G8 ?_;refine qg (fun hb=>Yld.cast (Y.sub rfl (evg rfl hb) rfl (wrap_i64 (by have q0:=(dec_t hb);first|omega|(dsimp only;omega)))) (vi (show(i:Int)-1=(((i-1):Nat):Int)from(by have q0:=(dec_t hb);omega)))) ?_;refine qg (fun hb=>Y.indexLs (i-1) (H.l 3) rfl u297 ti105 (evg rfl hb) (evg rfl hb) (by have q0:=(dec_t hb);omega) (by have q0:=(dec_t hb);omega)) ?_;refine go ?_;refine Qd H fun z H=> ?_;refine go ?_;refine Cd (fun p34=> ?_) fun p34=> ?_
   ·obtain⟨⟨Af35,nf35,cf35,lf35⟩,xf35⟩:∃y,ms[(i-1)]! =y:=⟨_,rfl⟩;have kf35:(i-1)<ms.length:=Om;have gf35:((nxtN ids es (sndN es es.length) i))[(i-1)]! =lf35:=by rw[←hn,map_b Nx.l kf35,xf35]
    have H:=H.front [6];have H:Hp W _ (row 3 ic 1 (.slice Af35 nf35 cf35) lf35::hole nxF ms ((i-1))::_):=Hp.bigOutX nxF ⟨Af35,nf35,cf35,lf35⟩ xf35 H kf35;have vf35:Value.slice ms[(i-1)]!.A ms[(i-1)]!.n ms[(i-1)]!.cp= .slice Af35 nf35 cf35:=by rw[xf35]
    have e_nf35:=(H.l 0).len;have z_nf35:=(H.l 0).nle;refine Xr H (HpC W _) (.load 0 (.load 1 (.load 2 (.load 3 (.load 4 (.load 5 (.load 6 (.load 7 (.load 8 (.load 9 (.load 10 (.load 11 (.load 12 (.load 14 (.alt 13 (.alt 15 (.alt 16 (.load 17 (.alt 18 (.fin) (.none))) (.none)) (.none)) (.alt 15 (.alt 13 (.alt 16 (.load 17 (.alt 18 (.fin) (.none))) (.none)) (.none)) (.none))))))))))))))))) (H.pick [1,1,1,1,1,1]) fun z H=> ?_;refine G5 ?_;refine yx rfl (Yld.cast (Y.sub rfl rfl rfl Wo) (vi (show(i:Int)-1=(((i-1):Nat):Int)from Om))) ?_;refine G5 ?_;refine yx rfl (Yld.cast (Y.sub rfl rfl rfl Wo) (vi (show(i:Int)-1=(((i-1):Nat):Int)from Om))) ?_;have b38:(i-1)<X.nN:=Om;refine yx rfl (Y.indexLs (i-1) (H.l 7) rfl u179 ti81 rfl rfl Om b38) ?_;refine go ?_;refine bs1L (H.pick [1,1,1,1,1,1]) H (fun z H=>Yld.cast (Y.load1 rfl u81 rfl rfl (Ls.at_eq (H.l 7) b38 rfl)) vf35) u81 ti3 fun g39 z H=> ?_;refine apX (H.pick [2,2,2,2,2,2]) H 1 0 rfl [(i:Int)] u81 ti3 rfl ic_one (room_le (by rw[←gf35];exact(lb.at_ Om).2) (Nat.le_refl 1) Om) fun v41 z H=> ?_;have b42:(i-1)<X.nN:=Om;refine yx rfl (Y.indexLs (i-1) (H.l 8) rfl u179 ti81 rfl rfl Om b42) ?_;obtain⟨A43,n44,c45,rfl,_,_,_⟩:=H.op 1;refine steX (H.pick [2,2,2,2,2,2]) H 8 rfl ⟨A43,n44,c45,(lf35++[(i:Int)])⟩ b42 ti81 xf35 fun z H=> ?_;refine WX.nil (H.pick [2,2,2,2,2,2]) ?_;have H:=H.front [1,1];have H:Hp W _ (big nxF (ms.set ((i-1)) ⟨A43,n44,c45,(lf35++[(i:Int)])⟩)::_):=Hp.bigIn nxF ⟨A43,n44,c45,(lf35++[(i:Int)])⟩ H kf35;obtain⟨m1,q_m1⟩:∃m:List Nx,m=(ms.set ((i-1)) ⟨A43,n44,c45,(lf35++[(i:Int)])⟩):=⟨_,rfl⟩;rw[←q_m1]at H;have hm1:m1.map Nx.l=nxt1 ids (nxtN ids es (sndN es es.length) i) i:=by rw[q_m1,List.map_set,hn];refine Eq.trans ?_ (if_pos p34).symm;rw[gf35]
    have nl1:m1.length=ids.length:=by rw[q_m1,List.length_set];exact nl
    have lb1:=nxt1_ok (ids:=ids) lb (show i<ids.length by omega);refine G1 ?_;refine sb [0,2,5,6,32,33,34] ?_;refine G4 ?_;refine yy (Y.lookupOk rfl u178 u3 ti3 rfl rfl (fun _ h=>h▸(H.mi 3))) ?_;refine G1 ?_;refine yy (Yld.cast (Y.extract rfl rfl rfl) (mval_im _ _)) ?_;refine yy (Yld.cast (Y.extract rfl rfl rfl) (vb (isSome_im _ _))) ?_;refine go ?_;refine WC.cond rfl (fun h48=> ?_) (fun h48=> ?_)
    ·have p48:=(eq_t (and_t h48).2);obtain⟨kv,hkv⟩:=Option.isSome_iff_exists.1 (and_t h48).1;have hkr:=sndN_rng es _ _ _ hkv;have hkn:((iget (sndN es es.length) es[i]!.n).getD 0).toNat<ids.length:=by rw[hkv];show kv.toNat<_;omega
     have hkz:0≤((iget (sndN es es.length) es[i]!.n).getD 0):=by rw[hkv];exact hkr.1
     obtain⟨⟨Af49,nf49,cf49,lf49⟩,xf49⟩:∃y,m1[((iget (sndN es es.length) es[i]!.n).getD 0).toNat]! =y:=⟨_,rfl⟩;have kf49:((iget (sndN es es.length) es[i]!.n).getD 0).toNat<m1.length:=Om;have gf49:((nxt1 ids (nxtN ids es (sndN es es.length) i) i))[((iget (sndN es es.length) es[i]!.n).getD 0).toNat]! =lf49:=by rw[←hm1,map_b Nx.l kf49,xf49]
     have H:Hp W _ (row 3 ic 1 (.slice Af49 nf49 cf49) lf49::hole nxF m1 (((iget (sndN es es.length) es[i]!.n).getD 0).toNat)::_):=Hp.bigOutX nxF ⟨Af49,nf49,cf49,lf49⟩ xf49 H kf49;have vf49:Value.slice m1[((iget (sndN es es.length) es[i]!.n).getD 0).toNat]!.A m1[((iget (sndN es es.length) es[i]!.n).getD 0).toNat]!.n m1[((iget (sndN es es.length) es[i]!.n).getD 0).toNat]!.cp= .slice Af49 nf49 cf49:=by rw[xf49]
     have e_nf49:=(H.l 0).len;have z_nf49:=(H.l 0).nle;refine Xr H (HpC W _) (.load 0 (.load 1 (.load 2 (.load 3 (.load 4 (.load 5 (.load 6 (.load 7 (.load 8 (.load 9 (.load 10 (.load 12 (.alt 11 (.alt 13 (.alt 14 (.load 15 (.alt 16 (.fin) (.none))) (.none)) (.none)) (.alt 13 (.alt 11 (.alt 14 (.load 15 (.alt 16 (.fin) (.none))) (.none)) (.none)) (.none))))))))))))))) (H.pick [1,1,1,1,1,1,1]) fun z H=> ?_;have b52:((iget (sndN es es.length) es[i]!.n).getD 0).toNat<X.nN:=Om;refine G10 ?_;refine yx rfl (Y.indexLs ((iget (sndN es es.length) es[i]!.n).getD 0).toNat (H.l 8) rfl u179 ti81 rfl rfl (Int.toNat_of_nonneg hkz).symm b52) ?_;refine go ?_;refine bs1L (H.pick [1,1,1,1,1,1,1]) H (fun z H=>Yld.cast (Y.load1 rfl u81 rfl rfl (Ls.at_eq (H.l 8) b52 rfl)) vf49) u81 ti3 fun g53 z H=> ?_;refine apX (H.pick [2,2,2,2,2,2,2]) H 1 0 rfl [(i:Int)] u81 ti3 rfl ic_one (room_le (by rw[←gf49];exact(lb1.at_ hkn).2) (Nat.le_refl 1) Om) fun v55 z H=> ?_;have b56:((iget (sndN es es.length) es[i]!.n).getD 0).toNat<X.nN:=Om;refine yx rfl (Y.indexLs ((iget (sndN es es.length) es[i]!.n).getD 0).toNat (H.l 9) rfl u179 ti81 rfl rfl (Int.toNat_of_nonneg hkz).symm b56) ?_;obtain⟨A57,n58,c59,rfl,_,_,_⟩:=H.op 1;refine steX (H.pick [2,2,2,2,2,2,2]) H 9 rfl ⟨A57,n58,c59,(lf49++[(i:Int)])⟩ b56 ti81 xf49 fun z H=> ?_;refine WX.nil (H.pick [2,2,2,2,2,2,2]) ?_;have H:=H.front [1,1];have H:Hp W _ (big nxF (m1.set (((iget (sndN es es.length) es[i]!.n).getD 0).toNat) ⟨A57,n58,c59,(lf49++[(i:Int)])⟩)::_):=Hp.bigIn nxF ⟨A57,n58,c59,(lf49++[(i:Int)])⟩ H kf49;obtain⟨m2,q_m2⟩:∃m:List Nx,m=(m1.set (((iget (sndN es es.length) es[i]!.n).getD 0).toNat) ⟨A57,n58,c59,(lf49++[(i:Int)])⟩):=⟨_,rfl⟩;rw[←q_m2]at H;refine go ?_;exact Rs [(34,_)] Sx ⟨(i+1),m2,rfl,rfl,((H.drop [1,1,1]).front [1,1,1,1,1,0]),Om,(by rw[q_m2,List.map_set,hm1];refine Eq.trans ?_ (if_pos ⟨(and_t h48).1,(eq_t (and_t h48).2)⟩).symm;rw[gf49])⟩
    ·have p48:=((and_f h48).imp (fun h=>h) (fun h=>(eq_f h)));refine go ?_;exact Rs [(34,_)] Sx ⟨(i+1),m1,rfl,rfl,((H.drop [1,1]).front [1,1,1,1,1,0]),Om,(hm1.trans (if_neg (fun q=>(and_f h48).elim (fun h=>(nt_f h) q.1) (fun h=>(eq_f h) q.2))).symm)⟩
   ·have hm1:ms.map Nx.l=nxt1 ids (nxtN ids es (sndN es es.length) i) i:=hn.trans (if_neg (fun q=>p34.elim (fun h=>h q.1) (fun h=>h q.2))).symm;have nl1:=nl;have lb1:=nxt1_ok (ids:=ids) lb (show i<ids.length by omega);refine G2 ?_;refine sb [0,2,5,6,32,33,34] ?_;refine G4 ?_;refine yy (Y.lookupOk rfl u178 u3 ti3 rfl rfl (fun _ h=>h▸(H.mi 1))) ?_;refine G1 ?_;refine yy (Yld.cast (Y.extract rfl rfl rfl) (mval_im _ _)) ?_;refine yy (Yld.cast (Y.extract rfl rfl rfl) (vb (isSome_im _ _))) ?_;refine go ?_;refine WC.cond rfl (fun h62=> ?_) (fun h62=> ?_)
    ·have p62:=(eq_t (and_t h62).2);obtain⟨kv,hkv⟩:=Option.isSome_iff_exists.1 (and_t h62).1;have hkr:=sndN_rng es _ _ _ hkv;have hkn:((iget (sndN es es.length) es[i]!.n).getD 0).toNat<ids.length:=by rw[hkv];show kv.toNat<_;omega
     have hkz:0≤((iget (sndN es es.length) es[i]!.n).getD 0):=by rw[hkv];exact hkr.1
     obtain⟨⟨Af63,nf63,cf63,lf63⟩,xf63⟩:∃y,ms[((iget (sndN es es.length) es[i]!.n).getD 0).toNat]! =y:=⟨_,rfl⟩;have kf63:((iget (sndN es es.length) es[i]!.n).getD 0).toNat<ms.length:=Om;have gf63:((nxt1 ids (nxtN ids es (sndN es es.length) i) i))[((iget (sndN es es.length) es[i]!.n).getD 0).toNat]! =lf63:=by rw[←hm1,map_b Nx.l kf63,xf63]
     have H:=H.front [6];have H:Hp W _ (row 3 ic 1 (.slice Af63 nf63 cf63) lf63::hole nxF ms (((iget (sndN es es.length) es[i]!.n).getD 0).toNat)::_):=Hp.bigOutX nxF ⟨Af63,nf63,cf63,lf63⟩ xf63 H kf63;have vf63:Value.slice ms[((iget (sndN es es.length) es[i]!.n).getD 0).toNat]!.A ms[((iget (sndN es es.length) es[i]!.n).getD 0).toNat]!.n ms[((iget (sndN es es.length) es[i]!.n).getD 0).toNat]!.cp= .slice Af63 nf63 cf63:=by rw[xf63]
     have e_nf63:=(H.l 0).len;have z_nf63:=(H.l 0).nle;refine Xr H (HpC W _) (.load 0 (.load 1 (.load 2 (.load 3 (.load 4 (.load 5 (.load 6 (.load 7 (.load 8 (.load 9 (.load 10 (.load 12 (.alt 11 (.alt 13 (.alt 14 (.load 15 (.alt 16 (.fin) (.none))) (.none)) (.none)) (.alt 13 (.alt 11 (.alt 14 (.load 15 (.alt 16 (.fin) (.none))) (.none)) (.none)) (.none))))))))))))))) (H.pick [1,1,1,1,1,1]) fun z H=> ?_;have b66:((iget (sndN es es.length) es[i]!.n).getD 0).toNat<X.nN:=Om;refine G10 ?_;refine yx rfl (Y.indexLs ((iget (sndN es es.length) es[i]!.n).getD 0).toNat (H.l 7) rfl u179 ti81 rfl rfl (Int.toNat_of_nonneg hkz).symm b66) ?_;refine go ?_;refine bs1L (H.pick [1,1,1,1,1,1]) H (fun z H=>Yld.cast (Y.load1 rfl u81 rfl rfl (Ls.at_eq (H.l 7) b66 rfl)) vf63) u81 ti3 fun g67 z H=> ?_;refine apX (H.pick [2,2,2,2,2,2]) H 1 0 rfl [(i:Int)] u81 ti3 rfl ic_one (room_le (by rw[←gf63];exact(lb1.at_ hkn).2) (Nat.le_refl 1) Om) fun v69 z H=> ?_;have b70:((iget (sndN es es.length) es[i]!.n).getD 0).toNat<X.nN:=Om;refine yx rfl (Y.indexLs ((iget (sndN es es.length) es[i]!.n).getD 0).toNat (H.l 8) rfl u179 ti81 rfl rfl (Int.toNat_of_nonneg hkz).symm b70) ?_;obtain⟨A71,n72,c73,rfl,_,_,_⟩:=H.op 1;refine steX (H.pick [2,2,2,2,2,2]) H 8 rfl ⟨A71,n72,c73,(lf63++[(i:Int)])⟩ b70 ti81 xf63 fun z H=> ?_;refine WX.nil (H.pick [2,2,2,2,2,2]) ?_;have H:=H.front [1,1];have H:Hp W _ (big nxF (ms.set (((iget (sndN es es.length) es[i]!.n).getD 0).toNat) ⟨A71,n72,c73,(lf63++[(i:Int)])⟩)::_):=Hp.bigIn nxF ⟨A71,n72,c73,(lf63++[(i:Int)])⟩ H kf63;obtain⟨m2,q_m2⟩:∃m:List Nx,m=(ms.set (((iget (sndN es es.length) es[i]!.n).getD 0).toNat) ⟨A71,n72,c73,(lf63++[(i:Int)])⟩):=⟨_,rfl⟩;rw[←q_m2]at H;refine go ?_;exact Rs [(34,_)] Sx ⟨(i+1),m2,rfl,rfl,((H.drop [1,1]).front [1,1,1,1,1,0]),Om,(by rw[q_m2,List.map_set,hm1];refine Eq.trans ?_ (if_pos ⟨(and_t h62).1,(eq_t (and_t h62).2)⟩).symm;rw[gf63])⟩
    ·have p62:=((and_f h62).imp (fun h=>h) (fun h=>(eq_f h)));refine go ?_;exact Rs [(34,_)] Sx ⟨(i+1),ms,rfl,rfl,(H.drop [0]),Om,(hm1.trans (if_neg (fun q=>(and_f h62).elim (fun h=>(nt_f h) q.1) (fun h=>(eq_f h) q.2))).symm)⟩
  ·obtain rfl:i=es.length:=Om;refine G13 ?_;refine sb [0,113,114] ?_;refine go ?_;refine sb [114,0,113] ?_;refine WC.loopS 1 (fun mz Ed W'=>∃q:Nat,∃mq:List Nx,mz=X.nN-q∧Ed=[(114,.int .i64 ((q:Nat):Int))]∧Hp W W' (_::_::_::_::row 81 Nx.c 1 (.slice X.nA X.nN X.nC) mq::big nxF mq::R)∧(q≤X.nN)∧(mq.map Nx.l=edK (nxtN ids es (sndN es es.length) es.length) q)) _ ⟨0,ms,rfl,rfl,H,(Nat.zero_le _),hn⟩ ?_;rintro _ _ z ⟨q,mq,rfl,rfl,H,ql,hq⟩;have lb:=edK_ok (nxtN_ok (ids:=ids) (es:=es) hM es.length Om) q Om;have nl:mq.length=ids.length:=by rw[←List.length_map (f:=Nx.l),hq];exact lb.1
   refine go ?_;refine Cd (fun p77=> ?_) fun p77=> ?_
   ·obtain⟨⟨Af81,nf81,cf81,lf81⟩,xf81⟩:∃y,mq[q]! =y:=⟨_,rfl⟩;have kf81:q<mq.length:=Om;have gf81:((edK (nxtN ids es (sndN es es.length) es.length) q))[q]! =lf81:=by rw[←hq,map_b Nx.l kf81,xf81]
    have H:=H.front [5];have H:Hp W _ (row 3 ic 1 (.slice Af81 nf81 cf81) lf81::hole nxF mq (q)::_):=Hp.bigOutX nxF ⟨Af81,nf81,cf81,lf81⟩ xf81 H kf81;have vf81:Value.slice mq[q]!.A mq[q]!.n mq[q]!.cp= .slice Af81 nf81 cf81:=by rw[xf81]
    have e_nf81:=(H.l 0).len;have z_nf81:=(H.l 0).nle;have b84:q<X.nN:=Om;refine G15 ?_;refine yy (Yld.cast (Y.load1 rfl u81 rfl rfl (Ls.at_eq (H.l 6) b84 rfl)) vf81) ?_;refine c3 Fh (sortI_any _ _ _ _ _ (H.front [0]) (Nat.le_trans (by rw[←gf81];exact(lb.at_ Om).2) Om)) ?_;rintro _ z ⟨rfl,H⟩;refine⟨_,rfl,?_⟩;refine go ?_;refine Xr H (HpC W _) (.load 0 (.load 1 (.load 2 (.load 3 (.load 4 (.load 5 (.load 6 (.load 7 (.load 8 (.load 9 (.load 10 (.alt 11 (.alt 12 (.load 13 (.alt 14 (.fin) (.none))) (.none)) (.none))))))))))))) (H.pick [1,1,1,1,1]) fun z H=> ?_;have b85:q<X.nN:=Om;refine G11 ?_;refine WX.yldL rfl rfl (blt rfl) rfl (H.pick [1,1,1,1,1]) (Yld.cast (Y.load1 rfl u81 rfl rfl (Ls.at_eq (H.l 6) b85 rfl)) vf81) ?_;refine c3X (H.pick [1,1,1,1,1]) Fh (compactI_any _ _ _ _ _ (H.front [0]) (by rw[srtI_len];exact Nat.le_trans (by rw[←gf81];exact(lb.at_ Om).2) Om)) ?_;rintro _ z ⟨v86,rfl,H⟩;refine⟨_,rfl,?_⟩;have b87:q<X.nN:=Om;obtain⟨A88,n89,c90,rfl,_,_,_⟩:=H.op 0;refine go ?_;refine steX (H.pick [1,1,1,1,1]) H 6 rfl ⟨A88,n89,c90,(Lib.compact (srtI lf81))⟩ b87 ti81 xf81 fun z H=> ?_;refine WX.nil (H.pick [1,1,1,1,1]) ?_;have H:Hp W _ (big nxF (mq.set (q) ⟨A88,n89,c90,(Lib.compact (srtI lf81))⟩)::_):=Hp.bigIn nxF ⟨A88,n89,c90,(Lib.compact (srtI lf81))⟩ H kf81;obtain⟨m3,q_m3⟩:∃m:List Nx,m=(mq.set (q) ⟨A88,n89,c90,(Lib.compact (srtI lf81))⟩):=⟨_,rfl⟩;rw[←q_m3]at H;refine go ?_;exact Rs [(114,_)] Sx ⟨(q+1),m3,rfl,rfl,(H.front [1,1,1,1,1,0]),Om,(by rw[q_m3,List.map_set,hq];show _=List.set _ _ _;rw[gf81];rfl)⟩
   ·refine go ?_;refine En ?_;exact⟨mq,rfl,(H.drop [0]),by rw[hq];unfold edF;congr 1;omega⟩
end TW
end Go.Proofs.YtaclfjjipnpboaaGreatDoor
end
