/- Part 19 of the proof. Conditions: what each theorem states. -/
import Derived.Test.YtaclfjjipnpboaaGreatDoorP01
import Derived.Test.YtaclfjjipnpboaaGreatDoorP15
import Derived.Test.YtaclfjjipnpboaaGreatDoorP04
import Derived.Test.YtaclfjjipnpboaaGreatDoorP18
import Derived.Test.YtaclfjjipnpboaaGreatDoorP17
import Derived.RangeFuncNested
import Derived.RangeFuncLeaves
set_option linter.all false
set_option maxHeartbeats 4000000
set_option maxRecDepth 4000
namespace Go.Proofs.YtaclfjjipnpboaaGreatDoor
open Go Go.Eng Go.RowKit
namespace TW
theorem mq{α β:Type}[Inhabited α][Inhabited β]{f:α→β}(h:f default=default)(l:List α)(i:Nat):(l.map f)[i]! =f l[i]! :=by
 by_cases q:i<l.length
 ·exact map_b f q
 ·rw[List.getElem!_eq_getElem?_getD,List.getElem!_eq_getElem?_getD,List.getElem?_eq_none (by simpa using q),List.getElem?_eq_none Om];exact h.symm
theorem fN_map{σ α β:Type}[Inhabited α][Inhabited β]{f:α→β}(h:f default=default)(g:σ→β→σ)(s:σ)(l:List α):∀j,fN g s (l.map f) j=fN (fun s x=>g s (f x)) s l j
 |0=>rfl
 |j+1=>by show g (fN g s (l.map f) j) (l.map f)[j]! =_;rw[fN_map h g s l j,mq h];rfl
def eQ(x:Ev):Ev:={x with A:=none,c_:=0}
def eP(p:Pk):Pk:=⟨p.th,p.sr,p.ls,none,p.k,0,p.es.map eQ⟩
def eT(x:Tm):Tm:={x with A:=none,c_:=0}
theorem qd:eQ default=default:=rfl
theorem pd:eP default=default:=rfl
theorem td:eT default=default:=rfl
theorem mE(l:List Ev)(i:Nat):(l.map eQ)[i]! =eQ l[i]! :=mq qd l i
theorem mP(l:List Pk)(i:Nat):(l.map eP)[i]! =eP l[i]! :=mq pd l i
theorem mT(l:List Tm)(i:Nat):(l.map eT)[i]! =eT l[i]! :=mq td l i
section
variable(es:List Ev)
theorem sntN_e:∀j,sntN (es.map eQ) j=sntN es j
 |0=>rfl
 |j+1=>by unfold sntN;rw[sntN_e j,mE];rfl
theorem exq_e:exq (es.map eQ)=exq es:=by funext j;unfold exq;rw[sntN_e,mE];rfl
theorem sndN_e:∀j,sndN (es.map eQ) j=sndN es j
 |0=>rfl
 |j+1=>by unfold sndN;rw[sndN_e j,mE];rfl
theorem nxtN_e(ids:List Ix)(m:List (Int×Int)):∀i,nxtN ids (es.map eQ) m i=nxtN ids es m i
 |0=>rfl
 |i+1=>by unfold nxtN;rw[nxtN_e ids m i];unfold nxt2;rw[mE];rfl
theorem edF_e(ids:List Ix):edF ids (es.map eQ)=edF ids es:=by unfold edF;rw[sndN_e,nxtN_e,List.length_map]
theorem cmA_e:cmA (es.map eQ)=cmA es:=by funext a b;unfold cmA;rw[mE,mE];rfl
theorem blkF_e(s:List Int)(k:Nat):∀f n,blkF (es.map eQ) s k f n=blkF es s k f n
 |0,_=>rfl
 |f+1,n=>by unfold blkF;rw[mE,mE,blkF_e s k f];rfl
theorem rgB_e(s:List Int):∀f k0 k N,rgB (es.map eQ) s f k0 k N=rgB es s f k0 k N
 |0,_,_,_=>rfl
 |f+1,k0,k,N=>by unfold rgB blkE;rw[blkF_e,rgB_e s f]
theorem rdF_e(ths:List Th)(ids:List Ix)(N:List (List Int)):rdF ths ids (es.map eQ) N=rdF ths ids es N:=by
 unfold rdF rdS srtG;simp only[rgB_e,cmA_e]
end
section
variable(l:List Pk)
theorem idsOf_e:idsOf (l.map eP)=idsOf l:=by unfold idsOf;rw[List.length_map];exact fN_map pd _ _ l _
theorem evsN_e:∀j,evsN (l.map eP) j=(evsN l j).map eQ
 |0=>rfl
 |j+1=>by show evsN (l.map eP) j++(l.map eP)[j]!.es=(evsN l j++l[j]!.es).map eQ;rw[evsN_e j,mP,List.map_append];rfl
theorem evsOf_e:evsOf (l.map eP)=(evsOf l).map eQ:=by unfold evsOf;rw[List.length_map];exact evsN_e l _
theorem caN_e(ths:List Th):caN ths (l.map eP)=caN ths l:=by unfold caN;rw[idsOf_e,evsOf_e,rdF_e,edF_e]
theorem pkE_e(p:Pk):pkE (eP p)=pkE p:=by
 have h:evsE (p.es.map eQ)=evsE p.es:=by
  unfold evsE;rw[List.length_map]
  congr 1
  funext i;unfold ev1;rw[mE,mE];rfl
 unfold pkE;rw[show(eP p).es=p.es.map eQ from rfl,h];rfl
theorem tlN_e(ids:List Int)(j:Nat):tlN ids (l.map eP) j=tlN ids l j:=by
 unfold tlN;rw[fN_map pd]
 congr 1
 funext T p;unfold tlS;rw[show(eP p).es=p.es.map eQ from rfl,mE];rfl
theorem evsum_e(j:Nat):evsum (l.map eP) j=evsum l j:=fN_map pd _ _ l j
theorem lchE_e(ids:List Int):lchE ids (l.map eP)=lchE ids l:=by
 have h:lch1 ids (l.map eP)=lch1 ids l:=by
  funext j;unfold lch1 tlE;rw[tlN_e,mP,pkE_e,show(eP l[j]!).es=l[j]!.es.map eQ from rfl,mE];rfl
 unfold lchE;rw[h,List.length_map,evsum_e]
theorem ofE_e(t:List Th)(d:List Dm)(s:List Sn):ofE t d s (l.map eP)=ofE t d s l:=by unfold ofE;rw[lchE_e]
end
def eR(x:Pp):Pp:=⟨x.th,x.sr,x.ls,x.es.map eQ⟩
def gM(x:Int×List Pp):Int×List Pp:=(x.1,x.2.map eR)
theorem rd_:eR default=default:=rfl
theorem aget_e:∀(G:List (Int×List Pp)) (x:Int),aget (G.map gM) x=(aget G x).map eR
 |[],_=>rfl
 |(k,v)::r,x=>by
  show(if x=k then v.map eR else aget (r.map gM) x)=(if x=k then v else aget r x).map eR;rw[aget_e r];split<;>rfl
theorem aset_e:∀(G:List (Int×List Pp)) (x:Int) (u:List Pp),aset (G.map gM) x (u.map eR)=(aset G x u).map gM
 |[],_,_=>rfl
 |(k,v)::r,x,u=>by
  show(if x=k then(k,u.map eR)::r.map gM else(k,v.map eR)::aset (r.map gM) x (u.map eR))=(if x=k then(k,u)::r else(k,v)::aset r x u).map gM;rw[aset_e r];split<;>rfl
theorem ppPut_e(o:List Pp)(p:Pk):ppPut (o.map eR) (eP p)=(ppPut o p).map eR:=by
 have h:ppOpen (o.map eR) (eP p)=(ppOpen o p).map eR:=by
  unfold ppOpen;rw[List.length_map];show(if p.ls>0∨o.length=0 then _ else _)=_;split
  ·rw[List.map_append];rfl
  ·rfl
 unfold ppPut;dsimp only;rw[h,List.length_map,List.map_set,mq rd_]
 congr 1
 show Pp.mk _ _ _ ((ppOpen o p)[(ppOpen o p).length-1]!.es.map eQ++p.es.map eQ)=Pp.mk _ _ _ (((ppOpen o p)[(ppOpen o p).length-1]!.es++p.es).map eQ);rw[List.map_append];rfl
theorem grN_e(l:List Pk):∀j,grN (l.map eP) j=(grN l j).map gM
 |0=>rfl
 |j+1=>by
  show grS (grN (l.map eP) j) (l.map eP)[j]! =(grS (grN l j) l[j]!).map gM;rw[grN_e l j,mP];unfold grS;rw[←aset_e,←ppPut_e,←aget_e];rfl
theorem lgParts_e(t:List Th)(l:List Pk):lgParts t (l.map eP)=(lgParts t l).map eR:=by
 have h:∀j,lgN t (l.map eP) j=(lgN t l j).map eR:=by
  intro j
  induction j with
  |zero=>rfl
  |succ j ih=>
   show lgN t (l.map eP) j++aget (grN (l.map eP) (l.map eP).length) t[j]!.id=(lgN t l j++aget (grN l l.length) t[j]!.id).map eR;rw[ih,List.length_map,grN_e,aget_e,List.map_append]
 exact h _
theorem ppSame_e:(fun a b=>ppSame (eR a) (eR b))=ppSame:=by
 funext a b;unfold ppSame;show(_&&eqW evSame (a.es.map eQ) (b.es.map eQ))=_;rw[←eqW_map (p:=evSame) eQ];rfl
theorem lgE_e(t:List Th)(d:List Dm)(s:List Sn)(l:List Pk):lgE t d s (l.map eP)=lgE t d s l:=by
 unfold lgE;rw[ofE_e,lgParts_e,show(l.map eP).map Pk.pp=(l.map Pk.pp).map eR from by rw[List.map_map,List.map_map];rfl,←eqW_map (p:=ppSame) eR,ppSame_e]
section
variable(ths:List Th)(d:List Dm)(s:List Sn)(l:List Pk)
theorem rwK_e(p:Pk):∀k,rwK ths d s (eP p) k=(rwK ths d s p k).map eT
 |0=>rfl
 |k+1=>by
  show rwK ths d s (eP p) k++[mkT d s (dmO ths p.th) p.th (p.sr+(k:Int)) (p.es.map eQ)[k]!]=(rwK ths d s p k++[_]).map eT;rw[rwK_e p k,mE,List.map_append];rfl
theorem rwN_e:∀j,rwN ths d s (l.map eP) j=(rwN ths d s l j).map eT
 |0=>rfl
 |j+1=>by
  show rwN ths d s (l.map eP) j++rwK ths d s (l.map eP)[j]! (l.map eP)[j]!.es.length=(rwN ths d s l j++rwK ths d s l[j]! l[j]!.es.length).map eT;rw[rwN_e j,mP,rwK_e,show(eP l[j]!).es.length=l[j]!.es.length from List.length_map _,List.map_append]
theorem veN_e:∀i,veN ths (l.map eP) i=veN ths l i
 |0=>rfl
 |i+1=>by unfold veN veI;rw[veN_e i,idsOf_e,caN_e]
theorem tg1_e(c:Bool)(raw:List Tm)(i:Nat)(o:List Tm)(k:Nat):tg1 c (raw.map eT) i (o.map eT) k=(tg1 c raw i o k).map eT:=by
 have h:(o.map eT).set i (tgL (o.map eT)[i]! (max (o.map eT)[i]!.lo (raw.map eT)[k]!.lo))=(o.set i (tgL o[i]! (max o[i]!.lo raw[k]!.lo))).map eT:=by rw[mT,mT,List.map_set];rfl
 unfold tg1;rw[h,mT,mT];split
 ·refine Eq.trans ?_ List.map_set.symm;rfl
 ·rfl
theorem tgI_e(V:List (List Int))(raw:List Tm)(i:Nat)(o:List Tm):∀k,tgI V ths (raw.map eT) i (o.map eT) k=(tgI V ths raw i o k).map eT
 |0=>rfl
 |k+1=>by
  have h:aftB V ths (raw.map eT) i k=aftB V ths raw i k:=by unfold aftB;rw[mT];rfl
  unfold tgI;rw[tgI_e V raw i o k,tg1_e,h]
theorem tgN_e(V:List (List Int))(raw:List Tm):∀i,tgN V ths (raw.map eT) i=(tgN V ths raw i).map eT
 |0=>rfl
 |i+1=>by unfold tgN;rw[tgN_e V raw i,tgI_e,List.length_map]
theorem tgX_e:tgX ths d s (l.map eP)=(tgX ths d s l).map eT:=by unfold tgX;rw[idsOf_e,veN_e,List.length_map,rwN_e,tgN_e,List.length_map]
theorem rwE_e:rwE ths d s (l.map eP)=rwE ths d s l:=by
 have k:(fun j:Nat=>erK ths d s (l.map eP)[j]!)=fun j:Nat=>erK ths d s l[j]! :=by
  funext j;rw[mP];unfold erK;show fE (fun k=>bdE d s (dmO ths l[j]!.th) (l[j]!.es.map eQ)[k]!.at_) (l[j]!.es.map eQ).length=_;simp only[mE,List.length_map];rfl
 have e:soE ths d s (l.map eP)=soE ths d s l:=by unfold soE exE;rw[lgE_e,idsOf_e,evsOf_e,rdF_e,edF_e,exq_e]
 unfold rwE;rw[e,k,List.length_map]
theorem tgE_e:tgE ths d s (l.map eP)=tgE ths d s l:=by
 unfold tgE ixP;rw[rwE_e,tgX_e,List.findIdx_map,List.length_map];rfl
end
section
variable(C:Int→Int)(X:List Tm)(V:List (List Int))
theorem wqN_e(n:Nat):∀k,wqN C (X.map eT) n k=wqN C X n k
 |0=>rfl
 |k+1=>by unfold wqN wq1;rw[wqN_e n k,mT];rfl
theorem beF_e(W:List (List Int)):beF C (X.map eT) V W=beF C X V W:=by
 have f:∀i,frB C (X.map eT) V W i=frB C X V W i:=fun i=>by
  unfold frB blk1;simp only[mT];rfl
 have h:∀c,beN C (X.map eT) V W c=beN C X V W c:=by
  intro c
  induction c with
  |zero=>rfl
  |succ c ih=>
   unfold beN be1;rw[ih];simp only[f,mT];rfl
 exact h _
theorem orR_e:∀k W out,orR C (X.map eT) V k W (out.map eT)=(orR C X V k W out).map (List.map eT)
 |0,_,_=>rfl
 |k+1,W,out=>by
  unfold orR;rw[beF_e];split
  ·rfl
  ·rw[mT,←orR_e k,List.map_append];rfl
end
section
variable(ths:List Th)(d:List Dm)(s:List Sn)(l:List Pk)
theorem orO_e:orO ths d s (l.map eP)=(orO ths d s l).map (List.map eT):=by
 unfold orO;rw[tgX_e,idsOf_e,veN_e,List.length_map,wqN_e];exact orR_e _ _ _ _ _ []
theorem orE_e:orE ths d s (l.map eP)=orE ths d s l:=by
 unfold orE;rw[tgE_e,orO_e];cases orO ths d s l<;>rfl
theorem orL_e:orL ths d s (l.map eP)=(orL ths d s l).map eT:=by
 unfold orL;rw[orE_e,orO_e];split
 ·rfl
 ·cases orO ths d s l<;>rfl
end
section
variable(o:List Tm)(en:Int)
theorem tnF_e:tnF (o.map eT)=tnF o:=by
 have h:∀j,tnN (o.map eT) j=tnN o j:=by
  intro j
  induction j with
  |zero=>rfl
  |succ j ih=>unfold tnN;rw[ih,mT];rfl
 unfold tnF;rw[h,List.length_map]
theorem slF_e:slF (o.map eT) en=slF o en:=by
 have h:∀j,slN (o.map eT) j=slN o j:=fun j=>fN_map td _ _ o j;have k:∀j,enN en (o.map eT) j=enN en o j:=by
  intro j
  induction j with
  |zero=>rfl
  |succ j ih=>unfold enN;rw[ih,mT];rfl
 unfold slF slK slP2 enF;rw[h,k,List.length_map]
theorem stOf_e(ths:List Th):stOf ths (o.map eT) en=stOf ths o en:=by
 have h:∀ids j,stFold ids (o.map eT) en j=stFold ids o en j:=fun ids j=>fN_map td _ _ o j;unfold stOf;rw[h,List.length_map]
def fM(x:Int×Tm):Int×Tm:=(x.1,eT x.2)
theorem xget_e:∀(m:List (Int×Tm)) (i:Int),xget (m.map fM) i=(xget m i).map eT
 |[],_=>rfl
 |(k,v)::r,i=>by
  show(if i=k then some (eT v)else xget (r.map fM) i)=(if i=k then some v else xget r i).map eT;rw[xget_e r];split<;>rfl
theorem xset_e:∀(m:List (Int×Tm)) (i:Int) (u:Tm),xset (m.map fM) i (eT u)=(xset m i u).map fM
 |[],_,_=>rfl
 |(k,v)::r,i,u=>by
  show(if i=k then(k,eT u)::r.map fM else(k,eT v)::xset (r.map fM) i (eT u))=(if i=k then(k,u)::r else(k,v)::xset r i u).map fM;rw[xset_e r];split<;>rfl
theorem flF_e:flF (o.map eT)=flF o:=by
 have h:∀j,flN (o.map eT) j=((flN o j).1.map fM,(flN o j).2):=by
  intro j
  induction j with
  |zero=>rfl
  |succ j ih=>
   show fl1 (flN (o.map eT) j) (o.map eT)[j]! =((fl1 (flN o j) o[j]!).1.map fM,(fl1 (flN o j) o[j]!).2);rw[ih,mT];generalize o[j]! =x;show(if x.kd=6 then(xset ((flN o j).1.map fM) x.n (eT x),(flN o j).2)else if x.kd=7 then fl7 ((flN o j).1.map fM,(flN o j).2) (eT x) (xget ((flN o j).1.map fM) x.n)else((flN o j).1.map fM,(flN o j).2))=_;rw[xset_e,xget_e];unfold fl1;split
   ·rfl
   split
   ·cases xget (flN o j).1 x.n<;>rfl
   ·rfl
 unfold flF;rw[h,List.length_map]
theorem smFo_e:smFo (o.map eT)=smFo o:=by
 have h:∀j,smN (o.map eT) j=smN o j:=by
  intro j
  induction j with
  |zero=>rfl
  |succ j ih=>unfold smN;rw[ih,mT];rfl
 unfold smFo;rw[h,List.length_map]
theorem coF_e:coF (o.map eT)=coF o:=by
 have h:∀j,coA (o.map eT) j=coA o j:=by
  intro j
  induction j with
  |zero=>rfl
  |succ j ih=>unfold coA;rw[ih,mT];rfl
 unfold coF coL;rw[h,List.length_map]
theorem lsF_e:lsF (o.map eT)=lsF o:=by
 have h:∀j,lsN (o.map eT) j=lsN o j:=fun j=>fN_map td _ _ o j;unfold lsF;rw[h,List.length_map]
def eB(x:Bk):Bk:={x with A:=none,c_:=0}
theorem mmF_e:mmF (o.map eT) en=(mmF o en).map eB:=by
 have he:mmE (o.map eT) en=mmE o en:=by unfold mmE;rw[List.length_map,mT];rfl
 have hc:∀(s:List (Int×Int)×List Bk) (x:Tm) v,mmC (s.1,s.2.map eB) (eT x) v=((mmC s x v).1,(mmC s x v).2.map eB):=by
  intro s x v;cases v with
  |none=>rfl
  |some i=>show(_,(s.2.map eB).set i.toNat {(s.2.map eB)[i.toNat]! with to:=clk x.lo,lv:=false})=(_,(s.2.set i.toNat _).map eB);rw[List.map_set,mq (f:=eB) rfl];rfl
 have h:∀e j,mmN e (o.map eT) j=((mmN e o j).1,(mmN e o j).2.map eB):=by
  intro e j
  induction j with
  |zero=>rfl
  |succ j ih=>
   show mm1 e (mmN e (o.map eT) j) (o.map eT)[j]! =((mm1 e (mmN e o j) o[j]!).1,(mm1 e (mmN e o j) o[j]!).2.map eB);rw[ih,mT];generalize o[j]! =x;generalize mmN e o j=s;unfold mm1;rw[hc];show(if x.kd≠11∧x.kd≠12 then _ else if x.kd=11 then _ else _)=_;split
   ·rfl
   split
   ·rw[List.length_map,List.map_append];rfl
   ·rfl
 unfold mmF;rw[he,h,List.length_map,List.filter_map];exact(stabF_map (f:=eB) (c:=cmpBk) (d:=cmpBk) rfl (fun _ _=>rfl) _).symm
end
theorem tab_eq{t:List Th}{d:List Dm}{s:List Sn}{l m:List Pk}(h:l.map eP=m.map eP):trE t d s l=trE t d s m∧tnF (orL t d s l)=tnF (orL t d s m)∧(∀e,slF (orL t d s l) e=slF (orL t d s m) e)∧(∀e,stOf t (orL t d s l) e=stOf t (orL t d s m) e)∧flF (orL t d s l)=flF (orL t d s m)∧
  smFo (orL t d s l)=smFo (orL t d s m)∧coF (orL t d s l)=coF (orL t d s m)∧lsF (orL t d s l)=lsF (orL t d s m)∧∀e,(mmF (orL t d s l) e).map eB=(mmF (orL t d s m) e).map eB:=by
 have e:(orL t d s l).map eT=(orL t d s m).map eT:=by rw[←orL_e,←orL_e,h]
 have k:∀{α:Type} (f:List Tm→α),(∀o,f (o.map eT)=f o)→f (orL t d s l)=f (orL t d s m):=fun f hf=>by rw[←hf,e,hf]
 have n:=k tnF tnF_e;refine⟨?_,n,fun a=>k (slF · a) fun o=>slF_e o a,fun a=>k (stOf t · a) fun o=>stOf_e o a t,k flF flF_e,k smFo smFo_e,k coF coF_e,k lsF lsF_e,fun a=>by rw[←mmF_e,e,mmF_e]⟩;unfold trE;rw[n,←orE_e t d s l,h,orE_e]
def evl(l:List Pk):List (Int×Ev):=l.flatMap fun p=>p.es.map fun e=>(p.th,e)
def im1(m:List (Int×List Ev))(y:Int×Ev):List (Int×List Ev):=xset m y.1 ((xget m y.1).getD []++[eQ y.2])
def imF(l:List (Int×Ev)):List (Int×List Ev):=l.foldl im1 []
def imE(l:List (Int×Ev))(x:Int):List Ev:=(xget (imF l) x).getD []
theorem imF_s(l:List (Int×Ev))(y:Int×Ev):imF (l++[y])=im1 (imF l) y:=by unfold imF;rw[List.foldl_append];rfl
theorem imE_s(l:List (Int×Ev))(y:Int×Ev)(x:Int):imE (l++[y]) x=if x=y.1 then imE l x++[eQ y.2]else imE l x:=by
 unfold imE;rw[imF_s];unfold im1;rw[xget_xset];split
 ·rename_i q;rw[q];rfl
 ·rfl
theorem imE_p(i x:Int):∀(es:List Ev) (l:List (Int×Ev)),imE (l++es.map fun e=>(i,e)) x=if x=i then imE l x++es.map eQ else imE l x
 |[],l=>by
  show imE (l++[]) x=if x=i then imE l x++[]else imE l x
  rw[List.append_nil,List.append_nil];split<;>rfl
 |e::r,l=>by
  rw[show l++List.map (fun e=>(i,e)) (e::r)=(l++[(i,e)])++r.map (fun e=>(i,e))from by rw[List.append_assoc];rfl,imE_p i x r,imE_s];show(if x=i then(if x=i then imE l x++[eQ e]else imE l x)++r.map eQ else if x=i then imE l x++[eQ e]else imE l x)=_;split
  ·rw[List.append_assoc];rfl
  ·rfl
theorem evl_s{l:List Pk}{j:Nat}(h:j<l.length):evl (l.take (j+1))=evl (l.take j)++l[j]!.es.map fun e=>(l[j]!.th,e):=by
 unfold evl;rw[take_bang h,List.flatMap_append]
 congr 1
 exact List.append_nil _
def imO(x:Int)(es:List Ev):List Pp:=if es=[]then[]else[⟨x,0,0,es⟩]
theorem im_grp{ths:List Th}{d:List Dm}{s:List Sn}{l:List Pk}(h:lgE ths d s l=0)(hk:∀p∈l,p.es.length=p.k)(h0:∀p∈l,p.ls≤0):∀j,j≤l.length→∀x,
  (aget (grN l j) x).map eR=imO x (imE (evl (l.take j)) x)∧(imE (evl (l.take j)) x=[]→(ths.map (·.id)).idxOf x<ths.length→(tlN (ths.map (·.id)) l j)[(ths.map (·.id)).idxOf x]!.nx=0)
 |0,_,x=>⟨rfl,fun _ q=>by
   rw[show tlN (ths.map (·.id)) l 0=(ths.map (·.id)).map (fun _=>(default:Tl))from rfl,map_b _ (by rw[List.length_map];exact q)];rfl⟩
 |j+1,hj,x=>by
  obtain⟨a,b⟩:=im_grp h hk h0 j Om x;obtain⟨q1,q2⟩:=lg_pk1 h (show j<l.length from hj);have hm:=mem_b (show j<l.length from hj);have ok:=lg_pkok h _ hm;have l0:l[j]!.ls=0:=by have:=ok.ls;have:=h0 _ hm;omega
  have ne:l[j]!.es.map eQ≠[]:=fun e=>by have:=congrArg List.length e;rw[List.length_map,hk _ hm]at this;have:=ok.k;simp at *;omega
  rw[evl_s hj,imE_p];constructor
  ·show(aget (aset (grN l j) l[j]!.th (ppPut (aget (grN l j) l[j]!.th) l[j]!)) x).map eR=_;rw[aget_aset];by_cases e:x=l[j]!.th
   ·rw[if_pos e,if_pos e,←ppPut_e,←e,a];unfold imO;rw[if_neg (fun q=>ne (List.append_eq_nil_iff.1 q).2)];by_cases c:imE (evl (l.take j)) x=[]
    ·have nx:=b c (by rw[e];exact q1);rw[←e]at q2;rw[if_pos c,c];unfold ppPut ppOpen;rw[if_pos (.inr rfl)];show[Pp.mk l[j]!.th l[j]!.sr l[j]!.ls ([]++l[j]!.es.map eQ)]=_;rw[l0,show l[j]!.sr=0 from Om,e]
    ·rw[if_neg c];unfold ppPut ppOpen;rw[if_neg (by show¬(l[j]!.ls>0∨1=0);omega)];rfl
   ·rw[if_neg e,if_neg e];exact a
  ·intro c hx;rw[tlN_next];unfold tlS;rw[set_at _ _ _ _ (by rw[tlN_len,List.length_map];exact hx)];by_cases e:x=l[j]!.th
   ·rw[if_pos e]at c;exact absurd (List.append_eq_nil_iff.1 c).2 ne
   ·rw[if_neg e]at c;rw[if_neg fun q=>e ?_]
    ·exact b c hx
    ·have i1:(ths.map (·.id)).idxOf x<(ths.map (·.id)).length:=by rw[List.length_map];exact hx
     have i2:(ths.map (·.id)).idxOf l[j]!.th<(ths.map (·.id)).length:=by rw[List.length_map];exact q1
     rw[←List.getElem_idxOf i1,←List.getElem_idxOf i2];simp only[q]
def imP(t:List Th)(l:List Pk):List Pp:=t.flatMap fun t=>imO t.id (imE (evl l) t.id)
theorem eqW_to{α β:Type}[Inhabited α]{p:α→α→Bool}{f:α→β}{l m:List α}(h:eqW p l m=true)(hp:∀x∈l,∀y∈m,p x y=true→f x=f y):l.map f=m.map f:=by
 unfold eqW at h;rw[Bool.and_eq_true,decide_eq_true_eq,List.all_eq_true]at h;refine List.ext_getElem (by rw[List.length_map,List.length_map];exact h.1) fun i i1 i2=> ?_;rw[List.length_map]at i1 i2;have:=h.2 i (List.mem_range.2 i1);rw[bang_eq i1,bang_eq i2]at this;rw[List.getElem_map,List.getElem_map];exact hp _ (List.getElem_mem i1) _ (List.getElem_mem i2) this
theorem evSame_eq{a b:Ev}(ha:a.st.length=a.k)(hb:b.st.length=b.k)(h:evSame a b=true):eQ a=eQ b:=by
 unfold evSame at h;simp only[Bool.and_eq_true,beq_iff_eq]at h;obtain⟨⟨⟨⟨⟨h1,h2⟩,h3⟩,h4⟩,h5⟩,h6⟩:=h;have h6:=eqW_to (f:=id) h6 (fun x _ y _ q=>beqB_eq.1 q);rw[List.map_id,List.map_id]at h6;have h3:=beqB_eq.1 h3;unfold eQ;rw[h1,h2,h3,h4,h5,h6,←ha,←hb,h6]
theorem im_parts{ths:List Th}{d:List Dm}{s:List Sn}{l:List Pk}(h:lgE ths d s l=0)(hk:∀p∈l,p.es.length=p.k)(h0:∀p∈l,p.ls≤0)(hs:∀p∈l,∀e∈p.es,e.st.length=e.k):
  (lgParts ths l).map eR=imP ths l∧imP ths l=(l.map Pk.pp).map eR:=by
 have e1:(lgParts ths l).map eR=imP ths l:=by
  have k:∀j,j≤ths.length→(lgN ths l j).map eR=imP (ths.take j) l:=by
   intro j
   induction j with
   |zero=>exact fun _=>rfl
   |succ j ih=>
    intro hj;show(lgN ths l j++aget (grN l l.length) ths[j]!.id).map eR=_;have:=(im_grp h hk h0 l.length Nl ths[j]!.id).1;rw[List.take_length]at this;rw[List.map_append,ih Om,this,take_bang (show j<ths.length from hj)];unfold imP;rw[List.flatMap_append]
    congr 1
    exact(List.append_nil _).symm
  have:=k ths.length Nl;rwa[List.take_length]at this
 refine⟨e1,e1.symm.trans (eqW_to (lg_pk h).2 fun x hx y hy q=> ?_)⟩;obtain⟨p,hp,rfl⟩:=List.mem_map.1 hy;unfold ppSame at q;simp only[Bool.and_eq_true,beq_iff_eq]at q;obtain⟨⟨⟨q1,q2⟩,q3⟩,q4⟩:=q;have q5:=eqW_to (f:=eQ) q4 fun a ha b hb r=>by
  obtain⟨p2,hp2,ha2⟩:=lgN_es hk _ x hx a ha;exact evSame_eq (hs _ hp2 _ ha2) (hs _ hp _ hb) r
 unfold eR;rw[q1,q2,q3,q5]
theorem pk_same{l m:List Pk}(h:(l.map Pk.pp).map eR=(m.map Pk.pp).map eR):eqW pkSame l m=true:=by
 have r:∀x,ppSame x x=true:=fun x=>by
  unfold ppSame;rw[eqW_refl (fun a=>by unfold evSame;rw[eqW_refl (fun y=>beqB_self y)];simp[beqB_self])];simp
 show eqW (fun p q=>ppSame p.pp q.pp) l m=true;rw[eqW_map (p:=ppSame) Pk.pp,←ppSame_e,eqW_map (p:=ppSame) eR,h];exact eqW_refl r _
theorem eP_of{l m:List Pk}(hl:∀p∈l,p.es.length=p.k)(hm:∀p∈m,p.es.length=p.k)(h:(l.map Pk.pp).map eR=(m.map Pk.pp).map eR):l.map eP=m.map eP:=by
 have k:∀l:List Pk,(∀p∈l,p.es.length=p.k)→l.map eP=((l.map Pk.pp).map eR).map fun r=>⟨r.th,r.sr,r.ls,none,r.es.length,0,r.es⟩:=fun l hl=>by
  rw[List.map_map,List.map_map];refine List.map_congr_left fun p hp=> ?_;show eP p=⟨p.th,p.sr,p.ls,none,(p.es.map eQ).length,0,p.es.map eQ⟩;rw[List.length_map,hl p hp];rfl
 rw[k l hl,k m hm,h]
end TW
end Go.Proofs.YtaclfjjipnpboaaGreatDoor
section
attribute [local irreducible] Go.Eng.WC Go.Eng.WL Go.Eng.WK Go.Eng.WQ Go.Eng.WX Go.Eng.Yld
namespace Go.Proofs.YtaclfjjipnpboaaGreatDoor
open Go Go.Eng Go.RowKit
namespace TW
structure Ge where(id:Int)(A:Option Addr)(n c:Nat)(l:List Ev)
instance:Inhabited Ge:=⟨⟨0,none,0,0,[]⟩⟩
def geM(x:Ge):Int×Value:=(x.id,.slice x.A x.n x.c)
def geP(x:Ge):Int×List Ev:=(x.id,x.l.map eQ)
abbrev stR:Ev→List Res:=fun e=>[row 9 sc 1 (.slice e.A e.k e.c_) e.st]
abbrev geF:Ge→List Res:=fun x=>[row 73 Ev.c 6 (.slice x.A x.n x.c) x.l,big stR x.l]
theorem ge_none:∀{gl:List Ge} {x:Int},mget (gl.map geM) x=none→xget (gl.map geP) x=none∧(∀u,xset (gl.map geP) x u=gl.map geP++[(x,u)])∧(∀u,mset (gl.map geM) x u=gl.map geM++[(x,u)])
 |[],x,_=>⟨rfl,fun _=>rfl,fun _=>rfl⟩
 |y::r,x,h=>by
  have h1:(if x=y.id then some (Value.slice y.A y.n y.c)else mget (r.map geM) x)=none:=h;by_cases q:x=y.id
  ·rw[if_pos q]at h1;cases h1
  ·rw[if_neg q]at h1;obtain⟨a,b,c⟩:=ge_none h1;refine⟨?_,fun u=> ?_,fun u=> ?_⟩
   ·show(if x=y.id then some (y.l.map eQ)else xget (r.map geP) x)=none;rw[if_neg q];exact a
   ·show(if x=y.id then(y.id,u)::r.map geP else(y.id,y.l.map eQ)::xset (r.map geP) x u)=_;rw[if_neg q,b];rfl
   ·show(if x=y.id then(y.id,u)::r.map geM else(y.id,Value.slice y.A y.n y.c)::mset (r.map geM) x u)=_;rw[if_neg q,c];rfl
theorem ge_some:∀{gl:List Ge} {x:Int} {v:Value},mget (gl.map geM) x=some v→∃i,i<gl.length∧gl[i]!.id=x∧v= .slice gl[i]!.A gl[i]!.n gl[i]!.c∧xget (gl.map geP) x=some (gl[i]!.l.map eQ)∧(∀u,xset (gl.map geP) x u=(gl.map geP).set i (x,u))∧(∀u,mset (gl.map geM) x u=(gl.map geM).set i (x,u))
 |[],x,v,h=>by cases h
 |y::r,x,v,h=>by
  have h1:(if x=y.id then some (Value.slice y.A y.n y.c)else mget (r.map geM) x)=some v:=h;by_cases q:x=y.id
  ·rw[if_pos q]at h1;injection h1 with h1
   subst q;refine⟨0,Nat.succ_pos _,rfl,h1.symm,if_pos rfl,fun u=>if_pos rfl,fun u=>if_pos rfl⟩
  ·rw[if_neg q]at h1;obtain⟨i,hi,a,b,c,d,e⟩:=ge_some h1;refine⟨i+1,Nat.succ_lt_succ hi,a,b,(if_neg q).trans c,fun u=> ?_,fun u=> ?_⟩
   ·show(if x=y.id then(y.id,u)::r.map geP else(y.id,y.l.map eQ)::xset (r.map geP) x u)=_;rw[if_neg q,d];rfl
   ·show(if x=y.id then(y.id,u)::r.map geM else(y.id,Value.slice y.A y.n y.c)::mset (r.map geM) x u)=_;rw[if_neg q,e];rfl
theorem ph_M{y:Ev}(hk:1≤y.kd∧y.kd≤12):(cfE y).ph≠⟨#[77]⟩:=(cf_k5 _ (cfE_mem hk)).2
structure MtV(u:J)(t:Th):Prop where
 ob:Obj u
 ks:u.ks=[⟨#[112,104]⟩,⟨#[116,105,100]⟩,⟨#[110,97,109,101]⟩]
 ph:(⟨#[112,104]⟩:ByteArray)∈u.ks∧(kv u ⟨#[112,104]⟩).op=4∧(kv u ⟨#[112,104]⟩).s=⟨#[77]⟩
 tid:(⟨#[116,105,100]⟩:ByteArray)∈u.ks∧(kv u ⟨#[116,105,100]⟩).op=3∧(kv u ⟨#[116,105,100]⟩).n=t.id
 nm:(⟨#[110,97,109,101]⟩:ByteArray)∈u.ks∧(kv u ⟨#[110,97,109,101]⟩).op=4∧(kv u ⟨#[110,97,109,101]⟩).s=t.nm
def mtf(t:Th)(k:ByteArray):J:=if k=⟨#[112,104]⟩then j0 4 0 ⟨#[77]⟩else if k=⟨#[116,105,100]⟩then j0 3 t.id ⟨#[]⟩else j0 4 0 t.nm
theorem mtV{u:J}{t:Th}(h:Sj u (mtJ t)):MtV u t:=by
 have e:u.ks=[⟨#[112,104]⟩,⟨#[116,105,100]⟩,⟨#[110,97,109,101]⟩]:=h.ks;have f1:mtf t ⟨#[112,104]⟩=j0 4 0 ⟨#[77]⟩:=if_pos rfl;have f2:mtf t ⟨#[116,105,100]⟩=j0 3 t.id ⟨#[]⟩:=(if_neg Dc).trans (if_pos rfl);have f3:mtf t ⟨#[110,97,109,101]⟩=j0 4 0 t.nm:=(if_neg Dc).trans (if_neg Dc);have h':Sj u (.mk 6 0 ⟨#[]⟩ none 0 0 [⟨#[112,104]⟩,⟨#[116,105,100]⟩,⟨#[110,97,109,101]⟩] none 0 0 ([⟨#[112,104]⟩,⟨#[116,105,100]⟩,⟨#[110,97,109,101]⟩].map (mtf t))):=by
  rw[List.map_cons,List.map_cons,List.map_cons,List.map_nil,f1,f2,f3];exact h
 have g1:=kv_map h' (k:=⟨#[112,104]⟩) (by simp);have g2:=kv_map h' (k:=⟨#[116,105,100]⟩) (by simp);have g3:=kv_map h' (k:=⟨#[110,97,109,101]⟩) (by simp);rw[f1]at g1;rw[f2]at g2;rw[f3]at g3;exact⟨mt_obj h,e,⟨by rw[e];simp,g1.op,g1.s⟩,⟨by rw[e];simp,g2.op,g2.n⟩,⟨by rw[e];simp,g3.op,g3.s⟩⟩
theorem addK_yes{S:List Int}{k:Int}(h:k∈S):addK S k=S:=if_pos h
theorem addK_no{S:List Int}{k:Int}(h:¬k∈S):addK S k=S++[k]:=if_neg h
theorem men_any(gx g1 g2:Nat)(v:Value)(ids:List Int)(i:Int)(W:World)(R:List Res)(w:World)(H:Hp W w (box gx 83 [v,.map (some g1),.map (some g2)]::row 3 ic 1 v ids::R))(hl:ids.length≤1000):
  Calls Tryz.prog 62 #[.pointer (some ⟨gx,0,none⟩),.int .i64 i] w fun e w'=>∃v',e= .returned (resVal [])∧Hp W w' (box gx 83 [v',.map (some g1),.map (some g2)]::row 3 ic 1 v' (addK ids i)::R):=by
 refine Wb Tryz.func62 ?_;obtain⟨A5,n6,c7,rfl,_,_,_⟩:=H.op 1;refine go ?_;refine c1 H Fh (hasI_any _ _ _ _ _ _ (H.l 1)) fun z H=> ?_;refine go ?_;refine Cd (fun p8=> ?_) fun p8=> ?_
 ·refine go ?_;refine bs1 H u81 ti3 fun g9 z H=> ?_;refine ap H 2 0 rfl [i] u81 ti3 rfl ic_one (by simp only[List.length_cons,List.length_nil];omega) fun v11 z H=> ?_;obtain⟨A12,n13,c14,rfl,_,_,_⟩:=H.op 2;refine go ?_;refine st H 1 ti81 fun z H=> ?_;refine go ?_;refine En ?_;exact⟨_,rfl,(by rw[addK_no p8];exact(H.drop [0]))⟩
 ·refine go ?_;refine En ?_;exact⟨_,rfl,(by rw[addK_yes (Decidable.of_not_not (fun q=>q p8))];exact H)⟩
theorem obM_any(gx g1 g2:Nat)(v:Value)(ids:List Int)(m1:List (Int×Value))(u:J)(t:Th)(W:World)(R:List Res)(w:World)(H:Hp W w (box gx 83 [v,.map (some g1),.map (some g2)]::row 3 ic 1 v ids::mpi g1 m1::R))(g_u:Gm W u)(hu:Sj u (mtJ t))(ht:0≤t.id)(hn:nmF t.nm=0)(hm:mget m1 t.id=none)(hl:ids.length≤1000):
  Calls Tryz.prog 19 #[.pointer (some ⟨gx,0,none⟩),.agg #[.int .i64 u.op,.int .i64 u.n,.string u.s,.slice u.A u.k u.c,.slice u.B u.m u.d]] w fun e w'=>∃v',e= .returned (.int .i64 0)∧Hp W w' (box gx 83 [v',.map (some g1),.map (some g2)]::row 3 ic 1 v' (addK ids t.id)::mpi g1 (mset m1 t.id (.string t.nm))::R):=by
 have e_k:=g_u.a.len;have e_b:=g_u.b.len;have z_b:=g_u.b.nle;have z_k:=g_u.a.nle;have hv:=mtV hu;have ob:=hv.ob;have hn2:nmF (kv u ⟨#[110,97,109,101]⟩).s=0:=by rw[hv.nm.2.2];exact hn
 have hm2:mget m1 (kv u ⟨#[116,105,100]⟩).n=none:=by rw[hv.tid.2.2];exact hm
 refine Wb Tryz.func19 ?_;refine go ?_;refine bx H fun g6 z H=> ?_;refine G6 ?_;refine yy (Yld.cast (Y.neq rfl rfl rfl) (vb (by rw[ob.op];first|done|rfl))) ?_;refine go ?_;refine bx H fun g9 z H=> ?_;refine go ?_;refine c3 Fh (thr_any _ u _ _ _ (H.front [0]) g_u ob ⟨hv.tid.1,hv.tid.2.1,(by rw[hv.tid.2.2];omega)⟩ ⟨hv.ph.1,hv.ph.2.1⟩) ?_;rintro _ z ⟨rfl,H⟩;refine⟨_,rfl,?_⟩;refine G13 ?_;refine sb [0,3,5,6,7,27] ?_;refine WC.condF rfl ?_;refine G5 ?_;refine yy (Yld.cast (Y.neqStr rfl rfl rfl) (vb (by rw[hv.ph.2.2];first|done|exact mt_ph))) ?_;refine go ?_;refine WC.condF rfl ?_;refine go ?_;refine c1 H Fh (get_any _ u ⟨#[110,97,109,101]⟩ 4 _ (H.b 0) (g_u.ext H.ext) ob hv.nm.1 hv.nm.2.1) fun z H=> ?_;refine yy (Y.field1 rfl u66 rfl u9 rfl rfl rfl) ?_;refine G10 ?_;refine WL.guarded rfl rfl rfl ?_;refine bs (zs:=[.string ⟨#[]⟩,.string ⟨#[]⟩,.string ⟨#[]⟩]) (cs:=[_,_,_]) H u63 ti9 fun g19 z H=> ?_;refine WL.guarded rfl rfl rfl ?_;refine c1 H Fh (exactly_any _ u _ _ _ [⟨#[112,104]⟩,⟨#[116,105,100]⟩,⟨#[110,97,109,101]⟩] _ (H.b 1) (g_u.ext H.ext) (Ls.lit (f:=sc) (sz:=1) (l:=([⟨#[112,104]⟩,⟨#[116,105,100]⟩,⟨#[110,97,109,101]⟩]:List ByteArray)) (H.b 0) (fun _=>rfl) rfl (by first|decide|exact(show 3≤maxLen by decide)) rfl) hv.ks.symm) fun z H=> ?_;refine WL.yldW rfl (blt rfl) rfl rfl rfl (Yld.cast (Y.not rfl rfl) (vb rfl)) ?_;refine yy (Y.pickF rfl rfl rfl) ?_;refine go ?_;refine WC.condF rfl ?_;refine go ?_;refine c1 H Fh (name_any _ _) fun z H=> ?_;refine G4 ?_;refine yy (Yld.cast (Y.neq rfl rfl rfl) (vb (by rw[hn2];first|done|rfl))) ?_;refine go ?_;refine WC.condF rfl ?_;refine G9 ?_;refine yy (Yld.cast (Y.lookup rfl u79 u3 ti9 rfl rfl (fun _ h=>h▸(H.mi 5))) (by unfold mval;rw[hm2];first|done|rfl)) ?_;refine yy (Yld.cast (Y.neqStr rfl rfl rfl) (vb (show _=false from Dc))) ?_;refine G1 ?_;refine sb [0,6,11,80] ?_;refine WC.condF rfl ?_;refine go ?_;refine c3 Fh (men_any _ _ _ _ ids _ _ _ _ (H.front [3,3]) hl) ?_;rintro _ z ⟨v27,rfl,H⟩;refine⟨_,rfl,?_⟩;refine G8 ?_;refine mu H 5 u79 u3 fun z H=> ?_;refine go ?_;refine Rt [_] ?_;exact⟨_,rfl,(by rw[←hv.tid.2.2,←hv.nm.2.2];exact(H.drop [2,2,2]))⟩
theorem ge_put0{ge:List Ge}{i:Int}{y e:Ev}{A:Option Addr}{n c:Nat}(ga:xget (ge.map geP) i=none)(gb:∀u,xset (ge.map geP) i u=ge.map geP++[(i,u)])(he:eQ e=eQ y):(ge++[(⟨i,A,n,c,[]++[e]⟩:Ge)]).map geP=im1 (ge.map geP) (i,y):=by
 unfold im1;rw[ga,gb,List.map_append];show _++[(i,[eQ e])]=_;rw[he];rfl
theorem ge_put1{ge:List Ge}{i:Int}{k:Nat}{l:List Ev}{y e:Ev}{A:Option Addr}{n c:Nat}(ga:xget (ge.map geP) i=some (l.map eQ))(gb:∀u,xset (ge.map geP) i u=(ge.map geP).set k (i,u))(he:eQ e=eQ y):(ge.set k (⟨i,A,n,c,l++[e]⟩:Ge)).map geP=im1 (ge.map geP) (i,y):=by
 unfold im1;rw[ga,gb,List.map_set];show _=(ge.map geP).set k (i,l.map eQ++[eQ y]);rw[←he];unfold geP;dsimp only;rw[List.map_append];rfl
theorem eQ_k{y:Ev}{A:Option Addr}{n c:Nat}(h:n=y.k):eQ ⟨y.at_,y.kd,y.nm,y.n,y.m,A,n,c,y.st⟩=eQ y:=by subst h;rfl
theorem obE_any(gx g1 g2:Nat)(v:Value)(ids:List Int)(ge:List Ge)(u:J)(i:Int)(y:Ev)(W:World)(R:List Res)(w:World)(H:Hp W w (box gx 83 [v,.map (some g1),.map (some g2)]::row 3 ic 1 v ids::mpi g2 (ge.map geM)::big geF ge::R))(g_u:Gm W u)(hu:Sj u (wrJ i y))(hy:EvX y)(he:evE y=0)(hk:y.st.length=y.k)(hi:0≤i∧i≤1000000000000000)(hl:ids.length≤1000)(hb:∀x∈ge,x.l.length≤1000):
  Calls Tryz.prog 19 #[.pointer (some ⟨gx,0,none⟩),.agg #[.int .i64 u.op,.int .i64 u.n,.string u.s,.slice u.A u.k u.c,.slice u.B u.m u.d]] w fun e w'=>∃v' ge',e= .returned (.int .i64 0)∧Hp W w' (box gx 83 [v',.map (some g1),.map (some g2)]::row 3 ic 1 v' (addK ids i)::mpi g2 (ge'.map geM)::big geF ge'::R)∧ge'.map geP=im1 (ge.map geP) (i,y):=by
 have e_k:=g_u.a.len;have e_b:=g_u.b.len;have z_b:=g_u.b.nle;have z_k:=g_u.a.nle;have hv:=wrV hu hy.kd;have ob:=hv.ob;have sl:=hy.st.1;refine Wb Tryz.func19 ?_;refine go ?_;refine bx H fun g7 z H=> ?_;refine G6 ?_;refine yy (Yld.cast (Y.neq rfl rfl rfl) (vb (by rw[ob.op];first|done|rfl))) ?_;refine go ?_;refine bx H fun g10 z H=> ?_;refine go ?_;refine c3 Fh (thr_any _ u _ _ _ (H.front [0]) g_u ob ⟨hv.tid.1,hv.tid.2.1,(by rw[hv.tid.2.2];omega)⟩ ⟨hv.ph.1,hv.ph.2.1⟩) ?_;rintro _ z ⟨rfl,H⟩;refine⟨_,rfl,?_⟩;refine go ?_;refine WC.condF rfl ?_;refine G5 ?_;refine yy (Yld.cast (Y.neqStr rfl rfl rfl) (vb (by rw[hv.ph.2.2,beqB_ne.2 (ph_M hy.kd)];first|done|rfl))) ?_;refine go ?_;refine WC.condT rfl ?_;refine go ?_;refine c3 Fh (event_any u i y _ _ _ (H.front []) g_u hu hy he hk hi) ?_;rintro _ z ⟨v18,rfl,H⟩;refine⟨_,rfl,?_⟩;refine go ?_;refine al H ti73 fun g20 z H=> ?_;obtain⟨A22,n23,c24,rfl,_,_,_⟩:=H.op 1;refine go ?_;refine st H 0 ti73 fun z H=> ?_;refine G2 ?_;refine sb [0,8,9,10] ?_;refine G3 ?_;rcases hq:mget (ge.map geM) i with _|v0
 ·obtain⟨ga,gb,gc⟩:=ge_none hq;have H:=(H.nilRow 73 Ev.c 6).front [0];have H:=H.bigNil stR;refine yy (Yld.cast (Y.eql rfl rfl rfl) (vb rfl)) ?_;refine go ?_;refine WC.condT rfl ?_;refine go ?_;refine c3 Fh (men_any _ _ _ _ ids i _ _ _ (H.front [6,6]) hl) ?_;rintro _ z ⟨v30,rfl,H⟩;refine⟨_,rfl,?_⟩;refine go ?_;refine WC.regionG (HpC W _) [0,1,2,3,4,5,6,7,8,9,10,11,12,13,14] (.load 0 (.load 1 (.load 2 (.load 3 (.load 4 (.load 5 (.load 6 (.load 7 (.load 8 (.load 9 (.load 10 (.load 11 (.alt 12 (.alt 13 (.alt 14 (.drop (.fin)) (.none)) (.none)) (.none)))))))))))))) (H.pick [0,0,0,1,1,1,1,1,1]) (by kernel_rfl) (by kernel_rfl) (fun z x=> ?_);have H:=H.ex x;refine G10 ?_;refine yx rfl (Yld.cast (Y.lookup rfl u80 u3 ti53 rfl rfl (fun _ h=>h.mi 7)) (by unfold mval;rw[hq];first|done|rfl)) ?_;refine go ?_;refine bs1X (H.pick [0,0,0,1,1,1,1,1,1]) H u53 ti73 fun g31 z H=> ?_;refine apX (H.pick [1,1,1,2,2,2,2,2,2]) H 4 0 rfl [⟨y.at_,y.kd,y.nm,y.n,y.m,A22,n23,c24,y.st⟩] u53 ti73 rfl Ev.one (by simp only[List.length_cons,List.length_nil];omega) fun v33 z H=> ?_;obtain⟨A34,n35,c36,rfl,_,_,_⟩:=H.op 4;refine muX (H.pick [1,1,1,2,2,2,2,2,2]) H 9 u80 u3 fun z H=> ?_;refine WX.drop ?_;refine WX.nil trivial ?_;refine go ?_;refine Rt [_] ?_;have eqk:=eQ_k (y:=y) (A:=A22) (c:=c24) (show n23=y.k by omega);have H:=H.front [6,3];have H:Hp W _ (big stR ([]++[⟨y.at_,y.kd,y.nm,y.n,y.m,A22,n23,c24,y.st⟩])::_):=Hp.bigPush stR ⟨y.at_,y.kd,y.nm,y.n,y.m,A22,n23,c24,y.st⟩ H;have H:=H.front [4,0,7];have H:Hp W _ (big geF (ge++[⟨i,A34,n35,c36,[]++[⟨y.at_,y.kd,y.nm,y.n,y.m,A22,n23,c24,y.st⟩]⟩])::_):=Hp.bigPush geF ⟨i,A34,n35,c36,[]++[⟨y.at_,y.kd,y.nm,y.n,y.m,A22,n23,c24,y.st⟩]⟩ H;exact⟨_,_,rfl,(by rw[List.map_append,show List.map geM [(⟨i,A34,n35,c36,[]++[⟨y.at_,y.kd,y.nm,y.n,y.m,A22,n23,c24,y.st⟩]⟩:Ge)]=[(i,.slice A34 n35 c36)]from rfl,←gc];exact((H.drop [1,3,3,3]).front [1,1,1,0])),ge_put0 ga gb eqk⟩
 ·obtain⟨k,gi,gid,rfl,ga,gb,gc⟩:=ge_some hq;have hbk:=hb _ (mem_b gi);obtain⟨⟨id,A,n,c,l0⟩,hx⟩:∃x,ge[k]! =x:=⟨_,rfl⟩;rw[hx]at gid ga hq hbk;dsimp only at gid ga hq hbk;have H:=H.front [7];have H:Hp W _ (row 73 Ev.c 6 (.slice A n c) l0::big stR l0::hole geF ge (k)::_):=Hp.bigOutX geF ⟨id,A,n,c,l0⟩ hx H gi;have en:=(H.l 0).len;have zn:=(H.l 0).nle;refine yy (Yld.cast (Y.eql rfl rfl rfl) (vb rfl)) ?_;refine go ?_;refine WC.condT rfl ?_;refine go ?_;refine c3 Fh (men_any _ _ _ _ ids i _ _ _ (H.front [7,7]) hl) ?_;rintro _ z ⟨v42,rfl,H⟩;refine⟨_,rfl,?_⟩;refine go ?_;refine WC.regionG (HpC W _) [0,1,2,3,4,5,6,7,8,9,10,11,12,13,14] (.load 0 (.load 1 (.load 2 (.load 3 (.load 4 (.load 5 (.load 6 (.load 7 (.load 8 (.load 9 (.load 10 (.load 11 (.alt 12 (.alt 13 (.alt 14 (.drop (.fin)) (.none)) (.none)) (.none)))))))))))))) (H.pick [0,0,1,1,1,1,1,1,1]) (by kernel_rfl) (by kernel_rfl) (fun z x=> ?_);have H:=H.ex x;refine G10 ?_;refine yx rfl (Yld.cast (Y.lookup rfl u80 u3 ti53 rfl rfl (fun _ h=>h.mi 8)) (by unfold mval;rw[hq];first|done|rfl)) ?_;refine go ?_;refine bs1X (H.pick [0,0,1,1,1,1,1,1,1]) H u53 ti73 fun g43 z H=> ?_;refine apX (H.pick [1,1,2,2,2,2,2,2,2]) H 3 0 rfl [⟨y.at_,y.kd,y.nm,y.n,y.m,A22,n23,c24,y.st⟩] u53 ti73 rfl Ev.one (by simp only[List.length_cons,List.length_nil];omega) fun v45 z H=> ?_;obtain⟨A46,n47,c48,rfl,_,_,_⟩:=H.op 3;refine muX (H.pick [1,1,2,2,2,2,2,2,2]) H 10 u80 u3 fun z H=> ?_;refine WX.drop ?_;refine WX.nil trivial ?_;refine G5 ?_;refine sb [4] ?_;refine go ?_;refine Rt [_] ?_;have eqk:=eQ_k (y:=y) (A:=A22) (c:=c24) (show n23=y.k by omega);have H:=H.front [7,4];have H:Hp W _ (big stR (l0++[⟨y.at_,y.kd,y.nm,y.n,y.m,A22,n23,c24,y.st⟩])::_):=Hp.bigPush stR ⟨y.at_,y.kd,y.nm,y.n,y.m,A22,n23,c24,y.st⟩ H;have H:=H.front [4,0,3];have H:Hp W _ (big geF (ge.set (k) ⟨i,A46,n47,c48,l0++[⟨y.at_,y.kd,y.nm,y.n,y.m,A22,n23,c24,y.st⟩]⟩)::_):=Hp.bigIn geF ⟨i,A46,n47,c48,l0++[⟨y.at_,y.kd,y.nm,y.n,y.m,A22,n23,c24,y.st⟩]⟩ H gi;exact⟨_,_,rfl,(by rw[List.map_set,show geM (⟨i,A46,n47,c48,l0++[⟨y.at_,y.kd,y.nm,y.n,y.m,A22,n23,c24,y.st⟩]⟩:Ge)=(i,.slice A46 n47 c48)from rfl,←gc];exact((H.drop [1,3,3,3]).front [1,1,1,0])),ge_put1 ga gb eqk⟩
end TW
end Go.Proofs.YtaclfjjipnpboaaGreatDoor
end
namespace Go.Eng
open Go Go.RowKit
def plainC(c:Call):Bool:=match c.callee with
 | .builtin .append| .builtin .len=>true
 |_=>false
def plainO(o:Oper):Bool:=match o.op with
 | .move _| .assign _| .pick .. | .alloc _| .box .. | .build .. | .buildSlice .. | .load .. | .store .. | .binOp .. | .unOp .. | .fieldAddr .. | .indexAddr .. | .extract .. | .slice .. | .index .. =>true
 | .call c=>plainC c
 |_=>false
section plain
variable{P:Program}
theorem val_run{s:Sem Value}{w w':World}{r:Next}(h:(do pure (Next.value (←s)):Sem Next).run P w= .ok r w'):∃v,r= .value v:=by
 rw[Sem.run_bind]at h;cases hs:s.run P w with
 |ok v w1=>rw[hs]at h;simp[Result.andThen]at h;exact⟨v,h.1.symm⟩
 |halt x w1=>rw[hs]at h;simp[Result.andThen]at h
theorem skip_run{s:Sem Unit}{w w':World}{r:Next}(h:(do s;pure Next.skip:Sem Next).run P w= .ok r w'):r= .skip:=by
 rw[Sem.run_bind]at h;cases hs:s.run P w with
 |ok v w1=>rw[hs]at h;simp[Result.andThen]at h;exact h.1.symm
 |halt x w1=>rw[hs]at h;simp[Result.andThen]at h
theorem pure_run{w w':World}{v:Value}{r:Next}(h:(pure (Next.value v):Sem Next).run P w= .ok r w'):∃v,r= .value v:=by
 simp at h;exact⟨v,h.1.symm⟩
theorem pick_run{s:Sem Bool}{x y:Value}{w w':World}{r:Next}(h:(do pure (Next.value (if(←s)then x else y)):Sem Next).run P w= .ok r w'):∃v,r= .value v:=by
 rw[Sem.run_bind]at h;cases hs:s.run P w with
 |ok v w1=>rw[hs]at h;simp[Result.andThen]at h;exact⟨_,h.1.symm⟩
 |halt x w1=>rw[hs]at h;simp[Result.andThen]at h
theorem plain_result{o:Oper}(h:plainO o=true){ρ:Operand→Value}{w w':World}{r:Next}(hr:(execOp ρ o).run P w= .ok r w'):(∃v,r= .value v)∨r= .skip:=by
 unfold execOp at hr;unfold plainO at h;cases ho:o.op
 case call c=>
  rw[ho]at h hr
  left
  have h:plainC c=true:=h;have hr:(do let d ←resolve ρ c o.type;invoke d.target d.args:Sem Next).run P w= .ok r w':=hr;unfold plainC at h;unfold resolve at hr;cases hc:c.callee<;>rw[hc]at h hr
  ·cases h
  ·cases h
  ·rename_i b;simp only[pure_bind]at hr;unfold invoke builtin at hr;cases b<;>first
    |exact val_run hr
    |cases h
 all_goals
  rw[ho]at h hr
  first
  |exact .inl (pure_run hr)
  |exact .inl (val_run hr)
  |exact .inl (pick_run hr)
  |exact .inr (skip_run hr)
  |exact absurd h (by simp)
theorem plain_nodefer{o:Oper}(h:plainO o=true):∀c,o.op≠ .defer c:=by
 intro c e;unfold plainO at h;rw[e]at h;cases h
section into
variable{F:Fence}{m:Nat}{Q:Exit→Act→World→Prop}
theorem opIn_of(hf:∀f,F.fn f)(hQ:∀a w,¬Q .outgrown a w){o:Oper}(hp:plainO o=true){a:Act}{w:World}{K:Act→World→Prop}(h:o.wp P a w K Q∨(o.asks P a w∧LetsOut Q)):o.wpIn F m P a w K Q:=by
 rcases h with h|⟨_,a',w',hq⟩
 ·refine⟨fun f _=>hf f,?_⟩;rw[Oper.semAt_eq _ _ _ (plain_nodefer hp)];unfold Oper.wp at h;cases hr:(execOp a.eval o).run P w with
  |ok r w1=>
   rw[hr]at h;rcases plain_result hp hr with⟨v,rfl⟩|rfl<;>exact h
  |halt x w1=>
   rw[hr]at h;cases x<;>exact h
 ·exact absurd hq (hQ _ _)
theorem listIn_of(hf:∀f,F.fn f)(hQ:∀a w,¬Q .outgrown a w){ops:Array Oper}:∀{l:List Oper} (a:Act) (w:World),(l.all plainO)=true→wpList P ops Q l a w→wpListIn F m P ops Q l a w
 |[],_,_,_,h=>h
 |o::r,a,w,hp,h=>by
  simp only[List.all_cons,Bool.and_eq_true]at hp;unfold wpList at h;unfold wpListIn;split
  ·rename_i hw;rw[if_pos hw]at h;refine Oper.wpIn_mono (fun a w=>listIn_of hf hQ a w hp.2) (opIn_of hf hQ hp.1 h)
  ·rename_i hw;rw[if_neg hw]at h;exact⟨fun f _=>hf f,listIn_of hf hQ _ _ hp.2 h⟩
end into
end plain
def WCi(l:Nat)(P:Program)(n:Nat)(c:Code)(Q:Exit→Act→World→Prop)(E:Env)(w:World):Prop:=∀a,Ok n E a→c.wpIn (Fence.wide.inRound l) 1 P Q a w
section code
variable{l:Nat}{P:Program}{n:Nat}{Q:Exit→Act→World→Prop}{E:Env}{w:World}
theorem WCi.seq{x y:Code}(h:∀K:Act→World→Prop,(∀E w,WCi l P n y Q E w→WK n K E w)→WCi l P n x (Exit.then K Q) E w):WCi l P n (.seq x y) Q E w:=by
 intro a ha;refine wpIn_seq ?_;exact h (fun a w=>y.wpIn (Fence.wide.inRound l) 1 P Q a w) (fun E w hc a ha=>hc a ha) a ha
theorem WCi.block{id:Nat}{c:Code}(h:WCi l P n c (Exit.inBlock id Q) E w):WCi l P n (.block id c) Q E w:=fun a ha=>wpIn_block (h a ha)
theorem WCi.region{id:Nat}{q q':List Oper}(h:WL P n q.toArray Q q' E w)(hQ:∀a w,¬Q .outgrown a w)(hp:(q.all plainO)=true:=by kernel_rfl)(hl:q=q':=by exact rfl):WCi l P n (.region id q.toArray false) Q E w:=by
 subst hl;exact fun a ha=>wpIn_region_lit (listIn_of (fun _=>trivial) hQ a w hp (h a ha))
end code
theorem own_ext{w0:World}{B:Nat}(h:w0.heap.size≤B){W W':World}{row:Option Nat}(hs:Ext w0 W)(hg:W.grownBy W' row)(hr:∀r,row=some r→B≤r∧∃o:Obj,W.heap[r]? =some o∧o.isCells=false):Ext w0 W':=
 Ext.of (hs.toBelow.grown hg hs.size fun k e=>Nat.le_trans h (hr k e).1)
def mrk(d:Nat):Deferred:={target:=.collected d,args:= #[]}
def mkd(d:Nat):Res:=⟨fun b=>b=d,fun w=>w.heap[d]? =some (.deferred (some [])),fun _ _ h e=>e▸(Array.getElem?_eq_some_iff.1 h).1,fun _ _ hb h=>(hb d rfl).trans h⟩
section ap
variable{P:Program}{ops:Array Oper}{Q:Exit→Act→World→Prop}{D:List Deferred}
theorem opwp_ap{o:Oper}{a:Act}{w:World}{K K':Act→World→Prop}(h:o.wp P a w K (fun e a w=>Q e (apD D a) w))(hK:∀a w,K a w→K' (apD D a) w):o.wp P (apD D a) w K' Q:=by
 have he:(apD D a).eval=a.eval:=rfl;have hp:∀(b:Act) v,(apD D b).put o.dst v=apD D (b.put o.dst v):=fun b v=>by cases o.dst<;>rfl
 unfold Oper.wp at h ⊢;rw[he];generalize (execOp a.eval o).run P w=r at h;unfold Oper.upon at h ⊢;split at h<;>first
  |(rw[hp];exact hK _ _ h)
  |exact h
  |(refine h.mono fun e w' h=> ?_
    cases e with
    |returned v=>show K' ((apD D a).put o.dst v) w';rw[hp];exact hK _ _ h
    |panicked c=>exact h
    |outgrown=>obtain⟨a,w,h⟩:=h;exact⟨_,_,h⟩)
  |(refine h.mono fun v w' h=> ?_
    show K' ((apD D a).put o.dst v) w';rw[hp];exact hK _ _ h)
  |(show K' ((apD D {a with defers:=_::a.defers}).put o.dst undef) _
    rw[hp];exact hK _ _ h)
theorem wpAny_ap:∀(k:Nat) (listed:Array Bool) (a:Act) (w:World),wpAny P .any ops (fun e a w=>Q e (apD D a) w) k listed a w→wpAny P .any ops Q k listed (apD D a) w
 |0,_,_,_,h=>h
 |k+1,listed,a,w,h=>by
  refine⟨h.1,fun i hi=> ?_⟩;have h1:=h.2 i hi;unfold wpOp at h1 ⊢;cases ho:ops[i]? with
  |none=>simp only[ho]at h1 ⊢;exact wpAny_ap k _ a w h1
  |some o=>
   simp only[ho]at h1 ⊢;rw[show(apD D a).tmps=a.tmps from rfl];split
   ·rename_i hw;rw[if_pos hw]at h1;rcases h1 with h1|⟨h1,a',w',hq⟩
    ·exact .inl (opwp_ap h1 fun a w h=>wpAny_ap k _ a w h)
    ·exact .inr ⟨h1,_,_,hq⟩
   ·rename_i hw;rw[if_neg hw]at h1;have:=wpAny_ap k _ _ w h1;rwa[show(apD D a).put o.dst undef=apD D (a.put o.dst undef)from by cases o.dst<;>rfl]
end ap
section
variable{P:Program}{n:Nat}{Q:Exit→Act→World→Prop}{E:Env}{w:World}{D:List Deferred}
theorem condTD{c:Operand}{x y:Code}(h:WCD D P n x Q E w)(hc:ev E c=some (.bool true):=by exact rfl):WCD D P n (.cond c x y) Q E w:=fun a ha=>wp_cond_true (show a.eval c=_ from ha.ev hc) (h a ha)
theorem condD{c:Operand}{x y:Code}{b:Bool}(hc:ev E c=some (.bool b))(ht:b=true→WCD D P n x Q E w)(hf:b=false→WCD D P n y Q E w):WCD D P n (.cond c x y) Q E w:=by
 cases b with
 |true=>exact condTD (ht rfl) hc
 |false=>exact condFD (hf rfl) hc
theorem blockD{id:Nat}{c:Code}(h:WCD D P n c (Exit.inBlock id Q) E w):WCD D P n (.block id c) Q E w:=fun a ha=>wp_block (h a ha)
theorem stD{W:World}{L:List Res}(H:Hp W w L){id:Nat}{l:List Oper}{y:Code}(m:Nat)(h:∀K:Act→World→Prop,(∀E w,WCD D P n y Q E w→WK n K E w)→WQ P n (l.take m).toArray (Ext w) (fun a'=>∀w',Ext w w'→wpList P l.toArray (Exit.then K (fun e a w=>Q e (apD D a) w)) (l.drop m) a' w') (l.take m) E)
  (hm:P.follows .mixedOrders=true:=by kernel_rfl) (hB:tailB l m=true:=by kernel_rfl):WCD D P n (.seq (.region id l.toArray true) y) Q E w:=by
 intro a ha;refine wp_seq (wp_region_any hm (wpAny_ap _ _ _ _ (any_region_tail hB ((Ext.refl w).drawn (Nat.le_succ _)) ?_)));have t:=h (fun a w=>y.wp P Q (apD D a) w) (fun E w hc a ha=>hc a ha) a ha;have e:(fun e a w=>Exit.then (fun a w=>y.wp P Q a w) Q e (apD D a) w)=Exit.then (fun a w=>y.wp P Q (apD D a) w) (fun e a w=>Q e (apD D a) w):=by
  funext e a w;cases e<;>rfl
 rw[e];exact t
theorem loopD{c:Code}(I:Nat→List Nat→Env→World→Prop)(m:Nat)(ds:List Nat)(h₀:I m ds E w)
  (round:∀m ds E w,I m ds E w→WCD (ds.map mrk) P n c (Exit.then (fun a' w'=>∃m' ds' E' a0,m'<m∧I m' ds' E' w'∧Ok n E' a0∧a'=apD (ds'.map mrk) a0) Q) E w):WCD (ds.map mrk) P n (.loop c) Q E w:=by
 intro a ha b k cs;have key:∀m,∀a w E ds,I m ds E w→Ok n E a→∃e a' w',Q e a' w'∧Arrives P (lone (b.at (apD (ds.map mrk) a) (.code c:: .inLoop c::k)) cs w) b k cs e a' w':=by
  intro m
  induction m using Nat.strongRecOn with
  |_ m ih=>
   intro a w E ds hI hok;obtain⟨e,a₁,w₁,hq,harr⟩:=round m ds E w hI a hok b (.inLoop c::k) cs;cases e with
   |normal=>
    obtain⟨m',ds',E',a0,hlt,hI',hok',rfl⟩:=hq;obtain⟨e₂,a₂,w₂,hq₂,harr₂⟩:=ih m' hlt a0 w₁ E' ds' hI' hok';exact⟨e₂,a₂,w₂,hq₂,.of_steps (Steps.trans harr (.one step_inLoop)) harr₂⟩
   |exit id=>exact⟨_,a₁,w₁,hq,.pass (x:=.inLoop c) rfl (fun _ _=>.inl (by simp)) harr⟩
   |goto l=>exact⟨_,a₁,w₁,hq,.pass (x:=.inLoop c) rfl (fun _ _=>.inl (by simp)) harr⟩
   |ret=>exact⟨_,a₁,w₁,hq,.pass (x:=.inLoop c) rfl (fun _ _=>.inl (by simp)) harr⟩
   |panic ch=>exact⟨_,a₁,w₁,hq,.pass (x:=.inLoop c) rfl (fun _ _=>.inl (by simp)) harr⟩
   |outgrown=>exact⟨_,a₁,w₁,hq,.pass (x:=.inLoop c) rfl (fun _ _=>.inl (by simp)) harr⟩
 obtain⟨e,a',w',hq,harr⟩:=key m a w E ds h₀ ha;exact⟨e,a',w',hq,.of_steps (.one step_loop) harr⟩
end
section
variable{P:Program}{o:Oper}{n:Nat}{E:Env}{C:World→Prop}
theorem add_0(A:Option Addr)(sz c:Nat):(if c=0 then A else A.map (·.add (0*sz)))=A:=by
 split
 ·rfl
 ·cases A with
  |none=>rfl
  |some a=>simp[Addr.add]
theorem sl0{x y:Operand}{t e:TypeId}{A:Option Addr}{len cap:Nat}{k:IntKind}{z:Value}{sz by':Nat}(ho:o.op= .slice t x (some y) none none)(hU:P.underlying t=some (.slice e))(hT:TI P e z sz by')(hx:ev E x=some (.slice A len cap))(hy:ev E y=some (.int k 0)):Yld P o n E C (.slice A len cap):=by
 have h:=Y.sliceL (n:=n) (C:=C) 0 ho hU hT hx hy rfl (Nat.zero_le _);rwa[add_0]at h
theorem sl3{x y q m:Operand}{t e:TypeId}{A:Option Addr}{len cap:Nat}{k k' k'':IntKind}{a b:Int}{z:Value}{sz by':Nat}(j:Nat)(ho:o.op= .slice t x (some y) (some q) (some m))(hU:P.underlying t=some (.slice e))(hT:TI P e z sz by')(hx:ev E x=some (.slice A len cap))(hy:ev E y=some (.int k 0))(hq:ev E q=some (.int k' a))(ha:a=(j:Int))(hm:ev E m=some (.int k'' b))(hb:b=(j:Int))(h2:j≤cap):Yld P o n E C (.slice A j j):=by
 intro B w hB _;subst ha hb;have h3:(0:Int)≤0∧(0:Int)≤(j:Int):=Om;have h4:(0:Int)≤(j:Int)∧(j:Int)≤(cap:Int):=Om;have h5:(0:Int)≤(j:Int)∧(j:Int)≤(j:Int):=Om;simp only[execOp,ho,hB.ev hx,Option.map,hB.ev hy,hB.ev hq,hB.ev hm,Instr.sliceAt,Instr.slice,Instr.sliceBounds,Instr.sliceBound,asIntOf,Sem.run_bind,Sem.run_pure,Result.andThen_ok,run_underlying hU,hT.sizeOf,h3,h4,h5,and_self,if_true,Int.toNat_natCast,Option.isSome];simp only[Int.toNat_zero,Nat.sub_zero];by_cases hj:j=0
 ·rw[if_pos hj]
 ·rw[if_neg hj];cases A with
  |none=>rfl
  |some a=>simp[Addr.add]
end
def WLi(P:Program)(n:Nat)(ops:Array Oper)(Q:Exit→Act→World→Prop)(l:List Oper)(E:Env)(w:World):Prop:=∀a,Ok n E a→wpListIn Fence.wide 2 P ops Q l a w
section
variable{P:Program}{n:Nat}{ops:Array Oper}{Q:Exit→Act→World→Prop}{E:Env}{w:World}{o:Oper}{rest:List Oper}{d:Nat}{v:Value}
theorem WC.regionY{id:Nat}{l l':List Oper}(h:WLi P n l.toArray Q l' E w)(hl:l=l':=by exact rfl):WC P n (.region id l.toArray false) Q E w:=by
 subst hl;exact fun a ha=>(wpIn_wide (n:=2)).1 (wpIn_region_lit (h a ha))
theorem WLi.nil(h:WK n (Q .normal) E w):WLi P n ops Q [] E w:=fun a ha=>h a ha
theorem WLi.yld(hy:Yld P o n E (·=w) v)(h:WLi P n ops Q rest ((d,v)::E) w)(hp:plainO o=true:=by exact rfl)(hd:o.dst=some d:=by exact rfl)(hn:d<n:=by exact blt rfl)(hg:o.guard=none:=by exact rfl):WLi P n ops Q (o::rest) E w:=by
 intro a ha;unfold wpListIn;rw[if_pos (wanted_plain hg _)];refine⟨fun f _=>trivial,?_⟩;rw[Oper.semAt_eq _ _ _ (plain_nodefer hp),hy a w ha rfl];show wpListIn _ _ P ops Q rest (a.put o.dst v) w;rw[hd];exact h _ (ha.put hn v)
theorem WLi.yield{l:Nat}{c:Call}{x:Operand}{R:Ending→World→Prop}(hy:YieldAt Fence.wide 1 P l #[v] w R)(h:∀e w',R e w'→∃b,e= .returned (.bool b)∧WLi P n ops Q rest ((d,.bool b)::E) w')
  (ho:o.op= .call c:=by exact rfl) (hc:c.callee= .value x:=by exact rfl) (hx:ev E x=some (.func (.yield l) #[] #[]):=by exact rfl) (hv:evs E c.args.toList=some [v]:=by exact rfl) (hd:o.dst=some d:=by exact rfl) (hn:d<n:=by exact blt rfl) (hg:o.guard=none:=by exact rfl):WLi P n ops Q (o::rest) E w:=by
 intro a ha;unfold wpListIn;rw[if_pos (wanted_plain hg _)];refine⟨fun f _=>trivial,?_⟩;obtain⟨fn,tmps,assign,body,hr,hR⟩:=hy;have hm:c.args.map a.eval= #[v]:=by
  have:=ha.evs hv;apply Array.toList_inj.1;rw[Array.toList_map,this]
 have hs:(o.semAt Fence.wide.round a.eval).run P w= .ok (.round l fn tmps assign body) w:=by
  rw[Oper.semAt_eq _ _ _ (fun c' e=>by rw[ho]at e;cases e)];simp[execOp,ho,resolve,hc,hm,ha.ev hx,Deferred.ofValue,invoke,hr]
 rw[hs];refine⟨fun h=>(by cases h),hR.mono fun e w' hq=> ?_⟩;obtain⟨b,rfl,h⟩:=h e w' hq;show wpListIn _ _ P ops Q rest (a.put o.dst (.bool b)) w';rw[hd];exact h _ (ha.put hn _)
end
def kpR(B:Nat)(z:World):Res:=
 ⟨fun b=>B≤b∧b<z.heap.size,fun w=>∀b,B≤b→b<z.heap.size→w.heap[b]? =z.heap[b]?,
  fun w b h e=>by
   have:=h b e.1 e.2;rw[Array.getElem?_eq_getElem e.2]at this;exact(Array.getElem?_eq_some_iff.1 this).1,
  fun w w' hb h b e1 e2=>(hb b ⟨e1,e2⟩).trans (h b e1 e2)⟩
def Cel(R:Res):Prop:=∀w b,R.holds w→R.foot b→∃o:Obj,w.heap[b]? =some o∧o.isCells=true
theorem cel_box{g:Nat}{t:TypeId}{cs:List Value}:Cel (box g t cs):=fun w b h e=>by
 have h:Blk w g t cs:=h;have e:b=g:=e;subst e;exact⟨_,h,rfl⟩
theorem cel_row{α:Type}{e:TypeId}{f:α→List Value}{sz:Nat}{v:Value}{l:List α}:Cel (row e f sz v l):=fun w b h hb=>by
 have h:OwnL w 0 e f sz v l:=h;have hb:v.ownBlock=some b:=hb;rcases h.2 with⟨rfl,_⟩|⟨g,c,cur,rfl,h1,h2,h3,h4,h5,h6⟩
 ·cases hb
 ·have:b=g:=by
   have hb':some g=some b:=hb;injection hb' with hb'
   exact hb'.symm
  subst this;exact⟨_,by first|exact h2|exact h5|exact h6|exact h1,rfl⟩
inductive Sfe(L:List Res):List Res→Prop
 |cel {R M}:Cel R→Sfe L M→Sfe L (R::M)
 |old {R S M}:S∈L→(∀b,R.foot b→S.foot b)→Sfe L M→Sfe L (R::M)
 |rest {M}:(∀S∈M,S∈L)→Sfe L M
theorem Sfe.get{L:List Res}:∀{M:List Res},Sfe L M→∀R∈M,Cel R∨∃S∈L,∀b,R.foot b→S.foot b
 |_,.cel h t,R,hR=>(List.mem_cons.1 hR).elim (fun e=>.inl (e▸h)) (t.get R)
 |_,.old h f t,R,hR=>(List.mem_cons.1 hR).elim (fun e=>.inr ⟨_,h,e▸f⟩) (t.get R)
 |_,.rest h,R,hR=>.inr ⟨R,h R hR,fun _ h=>h⟩
section
variable{P:Program}{n:Nat}{Q:Exit→Act→World→Prop}{E:Env}{w:World}{D:List Deferred}
theorem rlD{id:Nat}{l l':List Oper}(h:WL P n l.toArray (fun e a w=>Q e (apD D a) w) l' E w)(hl:l=l':=by exact rfl):WCD D P n (.region id l.toArray false) Q E w:=by
 subst hl;exact fun a ha=>wp_region_lit (wpList_ap l a w (h a ha))
theorem Hp.own_turn{W A B:World}{L M:List Res}{k:Nat}{row:Option Nat}(hk:W.heap.size≤k)(hs:Sfe L M)(hf:∀R∈L,∀b,R.foot b→b<k)(H:Hp W A M)(hg:A.grownBy B row)(hr:∀r,row=some r→k≤r∧∃o:Obj,A.heap[r]? =some o∧o.isCells=false):Hp W B M:=by
 have key:∀R∈M,∀b,R.foot b→B.heap[b]? =A.heap[b]? :=fun R hR b hb=>by
  have hlt:=R.dom A b (H.holds R hR) hb;refine hg.block b hlt fun e=> ?_;obtain⟨h1,o,h2,h3⟩:=hr b e.symm;rcases hs.get R hR with hc|⟨S,hS,hSf⟩
  ·obtain⟨o',h4,h5⟩:=hc A b (H.holds R hR) hb;rw[h2]at h4;injection h4 with h4
   subst h4;rw[h3]at h5;cases h5
  ·have:=hf S hS b (hSf b hb);omega
 exact⟨own_ext hk H.ext hg hr,fun R hR=>R.loc A B (key R hR) (H.holds R hR),H.own,H.far⟩
theorem rfD{W:World}{L:List Res}{q:Type}{L':q→List Res}{id p gf g1 g2:Nat}{g:Operand}{lb:Array Value}{assign body:Code}{v:Value}{E':Env}(one:Bool)(H:Hp W w L)
  (hg:ev E g=some (.func (.func gf) #[] lb)) (eg:∀args w,(callFunc gf args).run P w= .ok (.enter gf args) w) (hp:p<n) (hg1:g1<w.heap.size) (hg2:g2<w.heap.size)
  (hseq:SeqStopsK Fence.wide 2 P gf lb (fun _:Unit=> #[v]) (fun A B=>B.heap[g1]? =A.heap[g1]?∧B.heap[g2]? =A.heap[g2]?) (fun xs=>xs=if one=true then[()]else[]) (fun _=>True) 1 w)
  (hs:∀x,Sfe L (L' x))
  (hassign:∀l z,WCi l P n assign (fun e a' z'=>e= .normal∧z'=z∧Ok n E' a') ((p,v)::E) z)
  (hbody:∀l z,Hp W z (kpR w.heap.size z::L)→WCi l P n body (fun e a' z'=>e= .normal∧z'.heap[g1]? =z.heap[g1]?∧z'.heap[g2]? =z.heap[g2]?∧∃x,Hp W z' (kpR w.heap.size z::L' x)) E' z)
  (h0:one=false→∀d z,Hp W z (mkd d::L)→∀a,Ok n E a→Q .normal (apD (mrk d::D) a) z) (h1:one=true→∀d z x,Hp W z (mkd d::L' x)→∀a,Ok n E a→Q .normal (apD (mrk d::D) a) z):WCD D P n (.block id (.rangeFunc g #[p] assign body)) Q E w:=by
 have hf:∀R∈L,∀b,R.foot b→b<w.heap.size:=fun R hR b hb=>R.dom w b (H.holds R hR) hb;have hsL:Sfe L L:=.rest fun _ h=>h;have hk:=H.ext.size;have I2:∀{M:List Res} {d:Nat} {z:World},Sfe L M→Hp W z M→w.heap.size≤d→z.heap[d]? =some (.deferred (some []))→Hp W z (mkd d::M):=fun{M d z} hM hz hd hz2=>by
  refine⟨hz.ext,?_,?_,List.pairwise_cons.2 ⟨?_,hz.far⟩⟩
  ·intro R hR;rcases List.mem_cons.1 hR with rfl|hR
   ·exact hz2
   ·exact hz.holds R hR
  ·intro R hR b hb;rcases List.mem_cons.1 hR with rfl|hR
   ·have hb:b=d:=hb;omega
   ·exact hz.own R hR b hb
  ·intro R hR b h1 h2;have h1:b=d:=h1;subst h1;rcases hM.get R hR with hc|⟨S,hS,hSf⟩
   ·obtain⟨o,h4,h5⟩:=hc z b (hz.holds R hR) h2;rw[hz2]at h4;injection h4 with h4
    subst h4;cases h5
   ·have:=hf S hS b (hSf b h2);omega
 intro a ha;refine(wpIn_wide (n:=3)).1 (wpIn_block ?_)
 let I:List Unit→World→Prop:=fun xs z=>w.heap.size≤z.heap.size∧((xs=[]∧Hp W z L)∨(xs=[()]∧∃x,Hp W z (L' x)))
 refine wpIn_rangeFunc_ownH (F:=Fence.wide) (I:=I) (Ix:=fun _ _ _=>False) (Ax:=fun _ a' _=>Ok n E' a') rfl Dc (show a.eval g=_ from ha.ev hg) trivial eg hseq (fun h k=>⟨k.1.trans h.1,k.2.trans h.2⟩)
  (fun W l o o' hl _ _ _=>⟨World.putObj_heap_other Om,World.putObj_heap_other Om⟩) (Below.refl _ _) (fun _=>rfl) ?_ (fun _ _ _ _ _ h=>h.elim) ⟨Nat.le_refl _,.inl ⟨rfl,H⟩⟩ (fun _ _ _ _ _ _ h _ _=>h) ?_ ?_ ?_ ?_
 ·intro xs A B row hs' hg' hr;refine⟨Nat.le_trans hs'.1 hg'.size,hs'.2.imp (fun h=>⟨h.1,h.2.own_turn hk hsL hf hg' hr⟩) fun h=>⟨h.1,?_⟩⟩;obtain⟨x,hx⟩:=h.2;exact⟨x,hx.own_turn hk (hs x) hf hg' hr⟩
 ·intro l pre x z K hi hK;have e0:({tmps:=((#[p]:Array Nat).zip #[v]).foldl (fun t (x:Nat×Value)=>t.setIfInBounds x.1 x.2) (apD D a).tmps,defers:=[]}:Act)=a.put (some p) v:=by
   unfold Act.put apD;simp[ha.defers]
  have h2:Ok n ((p,v)::E) {tmps:=((#[p]:Array Nat).zip #[v]).foldl (fun t (x:Nat×Value)=>t.setIfInBounds x.1 x.2) (apD D a).tmps,defers:=[]}:=by rw[e0];exact ha.put hp v
  refine wpIn_mono (hassign l z _ h2) fun e a' z' he=> ?_;obtain⟨rfl,rfl,hok⟩:=he;exact hK a' _ (KeepsFrom.refl _ _) ⟨rfl,rfl⟩ hi hok
 ·intro l pre x a' z hl hrec hi hA hlt;have hpre:pre=[]:=by
   cases pre with
   |nil=>rfl
   |cons a r=>simp at hlt
  subst hpre;rcases hi.2 with⟨_,hz⟩|⟨e,_⟩
  ·have hz':Hp W z (kpR w.heap.size z::L):=by
    refine⟨hz.ext,?_,?_,List.pairwise_cons.2 ⟨?_,hz.far⟩⟩
    ·intro R hR;rcases List.mem_cons.1 hR with rfl|hR
     ·exact fun b _ _=>rfl
     ·exact hz.holds R hR
    ·intro R hR b hb;rcases List.mem_cons.1 hR with rfl|hR
     ·exact Nat.le_trans hk hb.1
     ·exact hz.own R hR b hb
    ·intro R hR b h1 h2;have:=hf R hR b h2;have:=h1.1;omega
   refine wpIn_mono (hbody l z hz' a' hA) fun e a2 z' he=> ?_;obtain⟨rfl,e1,e2,x,hx⟩:=he;have hkp:∀b,w.heap.size≤b→b<z.heap.size→z'.heap[b]? =z.heap[b]? :=hx.holds _ List.mem_cons_self;have hsz:z.heap.size≤z'.heap.size:=by
    obtain⟨r,hr⟩:=hrec;have h1:=(Array.getElem?_eq_some_iff.1 hr).1;have h2:=(kpR w.heap.size z).dom z' (z.heap.size-1) hkp ⟨Om,Om⟩;omega
   exact⟨⟨hsz,fun k o hB hk ho=>(hkp k hB (Array.getElem?_eq_some_iff.1 hk).1).trans hk⟩,⟨e1,e2⟩,Nat.le_trans hi.1 hsz,.inr ⟨rfl,x,hx.tail⟩⟩
  ·cases e
 ·intro d xs z hd hS hi hz;have hw:({(apD D a)with defers:={target:=.collected d,args:= #[]}::(apD D a).defers}:Act)=apD (mrk d::D) a:=by
   unfold apD mrk;simp[ha.defers]
  show Q .normal _ _;rw[hw];subst hS;cases one with
  |false=>
   rcases hi.2 with⟨_,h⟩|⟨e,_⟩
   ·exact h0 rfl d z (I2 hsL h hd hz) a ha
   ·cases e
  |true=>
   rcases hi.2 with⟨e,_⟩|⟨_,x,h⟩
   ·cases e
   ·exact h1 rfl d z x (I2 (hs x) h hd hz) a ha
 ·exact fun _ _ _ _ _ _ h=>h.elim
theorem loopDS{c:Code}(k:Nat)(I:Nat→List Nat→Env→World→Prop)(m:Nat)(ds:List Nat)(h₀:I m ds (E.take k) w)
  (round:∀m ds Ed w,I m ds Ed w→WCD (ds.map mrk) P n c (Exit.then (fun a' w'=>∃m' ds' Ed' a0,m'<m∧I m' ds' Ed' w'∧Ok n (Ed'++E.drop k) a0∧a'=apD (ds'.map mrk) a0) Q) (Ed++E.drop k) w):WCD (ds.map mrk) P n (.loop c) Q E w:=by
 refine loopD (fun m ds E' w=>∃Ed,E'=Ed++E.drop k∧I m ds Ed w) m ds ⟨E.take k,(List.take_append_drop k E).symm,h₀⟩ ?_;rintro m ds _ w ⟨Ed,rfl,hI⟩;intro a ha;refine wp_mono (round m ds Ed w hI a ha) fun e a w h=> ?_;cases e with
 |normal=>
  obtain⟨m',ds',Ed',a0,h1,h2,h3,h4⟩:=h;exact⟨m',ds',_,a0,h1,⟨Ed',rfl,h2⟩,h3,h4⟩
 |_=>exact h
theorem roundDS{Es:Env}{I:Nat→List Nat→Env→World→Prop}{m d:Nat}{ds:List Nat}(m':Nat)(Ed':Env)(hs:Sub (Ed'++Es) E)(hlt:m'<m)(hI:I m' (d::ds) Ed' w):WK n (fun a w=>Exit.then (fun a' w'=>∃m' ds' Ed' a0,m'<m∧I m' ds' Ed' w'∧Ok n (Ed'++Es) a0∧a'=apD (ds'.map mrk) a0) Q .normal (apD (mrk d::ds.map mrk) a) w) E w:=
 fun a ha=>⟨m',d::ds,Ed',a,hlt,hI,ha.sub hs,rfl⟩
theorem Sfe.same{L M:List Res}{R:Res}(h:Sfe L M)(hm:R∈L:=by repeat (first|exact List.mem_cons_self|apply List.mem_cons_of_mem)):Sfe L (R::M):=.old hm (fun _ h=>h) h
theorem rfDb{W:World}{L:List Res}{q:Type}(L':q→List Res){id b ia pt p gf g1 g2:Nat}{oa:Oper}{g:Operand}{lb:Array Value}{body y:Code}{v:Value}(one:Bool)(H:Hp W w L)
  (hseq:SeqStopsK Fence.wide 2 P gf lb (fun _:Unit=> #[v]) (fun A B=>B.heap[g1]? =A.heap[g1]?∧B.heap[g2]? =A.heap[g2]?) (fun xs=>xs=if one=true then[()]else[]) (fun _=>True) 1 w)
  (eg:∀args w,(callFunc gf args).run P w= .ok (.enter gf args) w) (hg1:g1<w.heap.size) (hg2:g2<w.heap.size) (hs:∀x,Sfe L (L' x))
  (hbody:∀l z,Hp W z (kpR w.heap.size z::L)→WCi l P n body (fun e a' z'=>e= .normal∧z'.heap[g1]? =z.heap[g1]?∧z'.heap[g2]? =z.heap[g2]?∧∃x,Hp W z' (kpR w.heap.size z::L' x)) ((pt,v)::(p,v)::E) z)
  (h0:one=false→∀d z,Hp W z (mkd d::L)→WCD (mrk d::D) P n y Q E z) (h1:one=true→∀d z x,Hp W z (mkd d::L' x)→WCD (mrk d::D) P n y Q E z)
  (hg:ev E g=some (.func (.func gf) #[] lb):=by exact rfl) (hp:p<n:=by exact blt rfl) (hpt:pt<n:=by exact blt rfl) (ho:oa.op= .assign (.tmp p):=by exact rfl) (hd:oa.dst=some pt:=by exact rfl) (hog:oa.guard=none:=by exact rfl):
  WCD D P n (.block id (.rangeFunc g #[p] (.region ia #[oa] false) body)) (Exit.inBlock b (Exit.then (fun a w=>y.wp P Q a w) Q)) E w:=by
 refine rfD (L':=L') (E':=(pt,v)::(p,v)::E) one H hg eg hp hg1 hg2 hseq hs ?_ hbody (fun h d z H a ha=>h0 h d z H a ha) (fun h d z x H a ha=>h1 h d z x H a ha);exact fun l z=>WCi.region (q:=[oa]) (WL.yld hd hpt hog (Y.assign ho (by show look p ((p,v)::E)=some v;simp[look])) (WL.nil fun a ha=>⟨rfl,rfl,ha⟩)) (fun _ _ h=>by cases h.1) (by simp[plainO,ho]) rfl
theorem ofD{c:Code}(h:WCD [] P n c Q E w):WC P n c Q E w:=fun a ha=>by
 have:=h a ha;rwa[show apD [] a=a from by unfold apD;rw[List.append_nil]]at this
theorem exitDb{id:Nat}{y:Code}{K1 K2:Act→World→Prop}(h:WCD D P n y Q E w):WCD D P n (.exit id) (Exit.then K1 (Exit.then K2 (Exit.inBlock id (Exit.then (fun a w=>y.wp P Q a w) Q)))) E w:=fun a ha=>wp_exit (by
 show(if id=id then _ else _:Prop);rw[if_pos rfl];exact h a ha)
theorem njD{ops:Array Oper}{y:Code}{Q':Exit→Act→World→Prop}{K:Act→World→Prop}(k:∀E w,WCD D P n y Q E w→WK n K E w)(h:WCD D P n y Q E w):WL P n ops (Exit.then K Q') [] E w:=WL.nil (WK.then_normal (k _ _ h))
theorem calls_of_WCm{m:Nat}{f:FuncId}{fn:Func}{c:Code}{args:List Value}{R:Ending→World→Prop}(hf:P.funcs[f]? =some fn)(hb:fn.body=some c)(hn:fn.ntmps=n)(hl:args.length≤n)
  (h:WC P n c (bodyPostM Fence.wide m P fn R) (params 0 args) w):Calls P f args.toArray w R:=
 callsIn_wide.1 (callsIn_of_wp_marks hf hb trivial (wpIn_wide.2 (by rw[hn];exact h _ (ok_params args hl))))
def mkF(d:Nat):List Res:=[mkd d]
theorem Hp.shut{W:World}{L:List Res}{d:Nat}(H:Hp W w (mkd d::L)):Hp W (w.putObj d (.deferred none)) L:=by
 have hd:=H.own _ List.mem_cons_self d rfl;have hlt:d<w.heap.size:=(mkd d).dom w d H.head rfl;have hf:=(List.pairwise_cons.1 H.far).1;refine⟨Ext.of (H.ext.toBelow.grown (grownBy_putObj' w d _) H.ext.size fun k e=>by cases e;exact hd),fun R hR=>R.loc w _ (fun b hb=>World.putObj_heap_other fun e=>hf R hR d rfl (e▸hb)) (H.holds R (List.mem_cons_of_mem _ hR)),fun R hR=>H.own R (List.mem_cons_of_mem _ hR),(List.pairwise_cons.1 H.far).2⟩
theorem retM{m:Nat}{fn:Func}{R:Ending→World→Prop}{rs:List ResultVar}{W:World}{L:List Res}{ds:List Nat}(vs:List Value)(hr:fn.results=rs.toArray)(H:Hp W w (big mkF ds.reverse::L))(h:∀z,Hp W z L→resOk P z E rs vs∧R (.returned (resVal vs)) z):
  WCD (ds.map mrk) P n .ret (bodyPostM Fence.wide m P fn R) E w:=by
 intro a ha;refine wp_ret ?_;show LeavesInM Fence.wide m P fn a.tmps R (a.defers++ds.map mrk) .returning w;rw[ha.defers,List.nil_append];have H':Hp W w (ds.map mkd++L):=by
  refine(Hp.unstar H).perm (List.Perm.append_right _ ?_);have:ds.reverse.flatMap mkF=ds.reverse.map mkd:=by
   induction ds.reverse with
   |nil=>rfl
   |cons x r ih=>rw[List.flatMap_cons,ih];rfl
  rw[this];exact(List.reverse_perm ds).map _
 clear H
 induction ds generalizing w with
 |nil=>
  obtain⟨h1,h2⟩:=h w H';exact⟨_,run_results ha hr h1,h2⟩
 |cons d r ih=>
  have hd:w.heap[d]? =some (.deferred (some [])):=H'.head;exact⟨by simp,.inl ⟨d,_,rfl,run_takeDeferred hd,ih H'.shut⟩⟩
end
end Go.Eng
set_option maxHeartbeats 4000000
set_option maxRecDepth 4000
namespace Go.Proofs.YtaclfjjipnpboaaGreatDoor
open Go Go.Eng Go.RowKit
namespace TW
theorem chunk_any(A:Option Addr)(n c:Nat)(W:World)(R:List Res)(w:World)(H:Hp W w R):
  Calls Tryz.prog 21 #[.slice A n c,.int .i64 1000] w fun e w'=>∃g1 g2,e= .returned (.func (.func 67) #[] #[.pointer (some ⟨g1,0,none⟩),.pointer (some ⟨g2,0,none⟩)])∧Hp W w' (box g1 53 [.slice A n c]::box g2 3 [.int .i64 1000]::R):=by
 refine Wb Tryz.func21 ?_;refine sr fun K2 k2=> ?_;refine bx H fun g3 z H=> ?_;refine bx H fun g5 z H=> ?_;refine go1 ?_;refine nk k2 [2,3] ?_;refine WC.seq (fun K7 k7=> ?_);refine sr fun K8 k8=> ?_;refine yy (ld rfl u3 rfl (Blk.at_eq (H.b 0) rfl)) ?_;refine go1 ?_;refine nk k8 [2,3,6] ?_;refine Cd (fun p9=> ?_) fun p9=> ?_
 ·clear k2 k7 k8;exact absurd p9 Dc
 ·refine WC.skip ?_;refine WK.then_normal (k7 _ _ ?_);refine sb [2,3] ?_;refine sr fun K10 k10=> ?_;refine yy (Y.func rfl rfl rfl) ?_;refine go1 ?_;refine nk k10 [4] ?_;refine WC.ret ?_;refine Rt [_] ?_;exact⟨g3,g5,rfl,(H.front [1,0])⟩
theorem chunk_run(l g1 g2:Nat)(A:Option Addr)(n c:Nat)(J Jx:List Unit→World→Prop)(W:World)(hJ:∀pre A B,J pre A→Ext A B→J pre B)(h1:Blk W g1 53 [.slice A n c])(h2:Blk W g2 3 [.int .i64 1000])(hn:n≤1000)(hc:n≤c)
  (hY:∀(pre:List Unit) (x:Unit) W1,J pre W1→pre.length<1→YieldAt Fence.wide 1 Tryz.prog l #[.slice A n n] W1 fun e W'=>(e= .returned (.bool true)∧J (pre++[x]) W'∧(W'.heap[g1]? =W1.heap[g1]?∧W'.heap[g2]? =W1.heap[g2]?))∨(e= .returned (.bool false)∧Jx (pre++[x]) W'))
  (h0:J [] W):Calls Tryz.prog 67 #[.func (.yield l) #[] #[],.pointer (some ⟨g1,0,none⟩),.pointer (some ⟨g2,0,none⟩)] W fun e W'=>(∃v,e= .returned v)∧((∃xs,xs=(if decide (0<n)=true then[()]else[])∧J xs W')∨∃pre:List Unit,True∧Jx pre W'):=by
 refine Wb Tryz.func67 ?_;refine sr fun K0 k0=> ?_;refine go1 ?_;refine nk k0 [0,1,2,4] ?_;refine WC.block ?_;refine sb [0,1,2,4] ?_;refine WC.loop (fun m Ed w=>(m=1∧Ed=[(0,.func (.yield l) #[] #[]),(1,.pointer (some ⟨g1,0,none⟩)),(2,.pointer (some ⟨g2,0,none⟩)),(4,.int .i64 0)]∧J [] w∧Blk w g1 53 [.slice A n c]∧Blk w g2 3 [.int .i64 1000])∨(m=0∧0<n∧Ed=[(0,.func (.yield l) #[] #[]),(1,.pointer (some ⟨g1,0,none⟩)),(2,.pointer (some ⟨g2,0,none⟩)),(4,.int .i64 1000)]∧J [()] w∧Blk w g1 53 [.slice A n c]∧Blk w g2 3 [.int .i64 1000])) 1 (.inl ⟨rfl,rfl,h0,h1,h2⟩) ?_;have out:∀(w:World) (xs:List Unit),xs=(if decide (0<n)=true then[()]else[])→J xs w→∀E,WK Tryz.f67.ntmps (Exit.then (fun a' w'=>∃m' E',m'<1∧((m'=1∧E'=[(0,Value.func (.yield l) #[] #[]),(1,.pointer (some ⟨g1,0,none⟩)),(2,.pointer (some ⟨g2,0,none⟩)),(4,.int .i64 0)]∧J [] w'∧Blk w' g1 53 [.slice A n c]∧Blk w' g2 3 [.int .i64 1000])∨(m'=0∧0<n∧E'=[(0,.func (.yield l) #[] #[]),(1,.pointer (some ⟨g1,0,none⟩)),(2,.pointer (some ⟨g2,0,none⟩)),(4,.int .i64 1000)]∧J [()] w'∧Blk w' g1 53 [.slice A n c]∧Blk w' g2 3 [.int .i64 1000]))∧Ok Tryz.f67.ntmps E' a') (Exit.inBlock 0 (bodyPost Tryz.prog Tryz.f67 fun e W'=>(∃v,e= .returned v)∧((∃xs,xs=(if decide (0<n)=true then[()]else[])∧J xs W')∨∃pre:List Unit,True∧Jx pre W'))) (.exit 0)) E w:=fun w xs hx hj E=>by
  refine WK.then_exit ?_;refine WK.in_exit ?_;refine En ?_;exact⟨⟨_,rfl⟩,.inl ⟨xs,hx,hj⟩⟩
 rintro m Ed w (⟨rfl,rfl,hj,b1,b2⟩|⟨rfl,hn0,rfl,hj,b1,b2⟩)
 ·refine WC.seq (fun K1 k1=> ?_);refine sr fun K2 k2=> ?_;refine go1 ?_;refine yy (ld rfl u53 rfl (Blk.at_eq b1 rfl)) ?_;refine yy (Y.lenSl rfl rfl rfl u53 rfl) ?_;refine go1 ?_;refine nk k2 [0,1,2,4,9] ?_;refine WC.cond rfl (fun h=> ?_) (fun h=> ?_)
  ·have p9:0<n:=by have:=dec_t h;omega
   refine WC.skip ?_;refine WK.then_normal (k1 _ _ ?_);refine sb [0,1,2,4] ?_;refine WC.seq (fun K3 k3=> ?_);refine WC.block ?_;refine WC.seq (fun K4 k4=> ?_);refine Qr ?_;refine yq (ld rfl u3 rfl (Blk.at_ext b2 rfl)) ?_;refine yq (ld rfl u53 rfl (Blk.at_ext b1 rfl)) ?_;refine yq (Y.move rfl rfl) ?_;refine yq (sl0 rfl u53 ti73 rfl rfl) ?_;refine yq (Y.lenSl rfl rfl rfl u53 rfl) ?_;refine yq (Y.minI (r:=(n:Int)) rfl rfl rfl Om) ?_;refine yq (Y.assign rfl rfl) ?_;refine WQ.done (fun z x=> ?_);refine WK.then_normal (k4 _ _ ?_);have hj:=hJ _ _ _ hj x;have b1:=b1.ext x;have b2:=b2.ext x;refine sb [0,1,2,4,5] ?_;refine WC.seq (fun K5 k5=> ?_);refine WC.regionY ?_;refine WLi.yld (Y.move rfl rfl) ?_;refine WLi.yld (ld rfl u53 rfl (Blk.at_eq b1 rfl)) ?_;refine WLi.yld (Y.move rfl rfl) ?_;refine WLi.yld (Y.move rfl rfl) ?_;refine WLi.yld (Y.move rfl rfl) ?_;refine WLi.yld (Y.add (r:=(n:Int)) rfl rfl rfl (by rw[Int.zero_add];exact wrap_i64 Om)) ?_;refine WLi.yld (Y.move rfl rfl) ?_;refine WLi.yld (Y.move rfl rfl) ?_;refine WLi.yld (Y.add (r:=(n:Int)) rfl rfl rfl (by rw[Int.zero_add];exact wrap_i64 Om)) ?_;refine WLi.yld (sl3 n rfl u53 ti73 rfl rfl rfl rfl rfl rfl hc) ?_;refine WLi.yield (hY [] () _ hj (Nat.zero_lt_one)) ?_;rintro e w' (⟨rfl,hj,e1,e2⟩|⟨rfl,hx⟩)
   ·have b1:Blk w' g1 53 [.slice A n c]:=e1.trans b1;have b2:Blk w' g2 3 [.int .i64 1000]:=e2.trans b2;refine⟨true,rfl,?_⟩;refine WLi.yld (Y.not rfl rfl) ?_;refine WLi.nil ?_;refine WK.then_normal (k5 _ _ ?_);refine sb [0,1,2,4,30] ?_;refine WC.condF rfl ?_;refine WC.skip ?_;refine WK.in_normal ?_;refine WK.then_normal (k3 _ _ ?_);refine sb [0,1,2,4] ?_;refine WC.region rfl ?_;refine go1 ?_;refine yy (ld rfl u3 rfl (Blk.at_eq b2 rfl)) ?_;refine yy (Y.add (r:=(1000:Int)) rfl rfl rfl rfl) ?_;refine go1 ?_;refine WL.nil ?_;refine WK.then_normal ?_;refine WK.sub [(0,_),(1,_),(2,_),(4,_)] ⟨rfl,⟨rfl,⟨rfl,⟨rfl,trivial⟩⟩⟩⟩ ?_;exact fun a ha=>⟨0,_,Nat.zero_lt_one,.inr ⟨rfl,p9,rfl,hj,b1,b2⟩,ha⟩
   ·refine⟨false,rfl,?_⟩;refine WLi.yld (Y.not rfl rfl) ?_;refine WLi.nil ?_;refine WK.then_normal (k5 _ _ ?_);refine sb [0,1,2,4,30] ?_;refine WC.condT rfl ?_;refine WC.ret ?_;refine WK.in_ret ?_;refine WK.then_ret ?_;refine WK.then_ret ?_;refine WK.in_ret ?_;refine Rt [] ?_;exact⟨⟨_,rfl⟩,.inr ⟨_,trivial,hx⟩⟩
  ·have p9:n=0:=by have:=dec_f h;omega
   refine WC.exit ?_;refine WK.then_exit ?_;exact out w [] (by rw[if_neg (by simp[p9])]) hj _
 ·refine WC.seq (fun K1 k1=> ?_);refine sr fun K2 k2=> ?_;refine go1 ?_;refine yy (ld rfl u53 rfl (Blk.at_eq b1 rfl)) ?_;refine yy (Y.lenSl rfl rfl rfl u53 rfl) ?_;refine go1 ?_;refine nk k2 [0,1,2,4,9] ?_;refine WC.cond rfl (fun h=> ?_) (fun h=> ?_)
  ·exact absurd (dec_t h) Om
  ·refine WC.exit ?_;refine WK.then_exit ?_;refine WK.then_exit ?_;refine WK.in_exit ?_;refine En ?_;exact⟨⟨_,rfl⟩,.inl ⟨_,by rw[if_pos (by simp[hn0])],hj⟩⟩
theorem chunk_stops(g1 g2:Nat)(A:Option Addr)(n c:Nat)(w:World)(h1:Blk w g1 53 [.slice A n c])(h2:Blk w g2 3 [.int .i64 1000])(hn:n≤1000)(hc:n≤c):
  SeqStopsK Fence.wide 2 Tryz.prog 67 #[.pointer (some ⟨g1,0,none⟩),.pointer (some ⟨g2,0,none⟩)] (fun _:Unit=> #[.slice A n n]) (fun A B=>B.heap[g1]? =A.heap[g1]?∧B.heap[g2]? =A.heap[g2]?) (fun xs=>xs=if decide (0<n)=true then[()]else[]) (fun _=>True) 1 w:=
 fun l J Jx W hW hJ _ hY h0=>callsIn_wide.2 (chunk_run l g1 g2 A n c J Jx W (fun pre X Y hx x=>hJ pre X Y none hx ⟨x.os,x.tape,x.output,x.size,fun k hk _=>x.block k hk⟩ (fun r e=>by cases e))
  ((hW.block g1 h1.lt).trans h1) ((hW.block g2 h2.lt).trans h2) hn hc hY h0)
end TW
end Go.Proofs.YtaclfjjipnpboaaGreatDoor
