/- Part 17 of the proof. Conditions: what each theorem states. -/
import Derived.Test.YtaclfjjipnpboaaGreatDoorP01
import Derived.Test.YtaclfjjipnpboaaGreatDoorP03
import Derived.Test.YtaclfjjipnpboaaGreatDoorP04
import Derived.Test.YtaclfjjipnpboaaGreatDoorP16
import Derived.Recover
import Derived.Test.YtaclfjjipnpboaaGreatDoorP07
set_option linter.all false
set_option maxHeartbeats 4000000
set_option maxRecDepth 4000
namespace Go.Eng
open Go Go.RowKit
section
variable{P:Program}{ops:Array Oper}{C:World→Prop}
def wpAnyG(P:Program)(ops:Array Oper)(C:World→Prop)(G:Array Bool→Bool)(Q:Act→World→Prop):Nat→Array Bool→Act→World→Prop
 |0,listed,a,w=>(G listed=true→C w)∧Region.ready .any ops listed=[]∧Q a w
 |f+1,listed,a,w=>(G listed=true→C w)∧(Region.ready .any ops listed=[]→Q a w)∧∀i∈Region.ready .any ops listed,lOp P ops i (wpAnyG P ops C G Q f (listed.setIfInBounds i true)) a w
theorem wpAny_of_G{G:Array Bool→Bool}{Q:Act→World→Prop}{Q':Exit→Act→World→Prop}(hQ:∀a w,Q a w→Q' .normal a w):∀(f:Nat) (listed:Array Bool) (a:Act) (w:World),wpAnyG P ops C G Q f listed a w→wpAny P .any ops Q' f listed a w
 |0,_,_,_,h=>⟨h.2.1,hQ _ _ h.2.2⟩
 |f+1,_,_,_,h=>⟨fun h0=>hQ _ _ (h.2.1 h0),fun i hi=>wpOp_of_lOp (lOp_mono (fun a' w'=>wpAny_of_G hQ f _ a' w') (h.2.2 i hi))⟩
theorem wpAnyG_first{G:Array Bool→Bool}{Q:Act→World→Prop}{i:Nat}{oi:Oper}{v:Value}{C0:World→Prop}(S:Array Bool→Prop)(hi:ops[i]? =some oi)(hsel:∀(j:Nat) (o:Oper) cs b,ops[j]? =some o→o.op≠ .select cs b)
  (hS:∀listed,S listed→∀j,j∈Region.ready .any ops listed→j≠i→i∈Region.ready .any ops listed→S (listed.setIfInBounds j true))
  (hC:∀listed,S listed→i∈Region.ready .any ops listed→∀w,(G (listed.setIfInBounds i true)=true→C w)→(G listed=true→C w)∧C0 w):
  ∀(f:Nat) (listed:Array Bool) (a:Act) (w:World),
   (∀j oj,ops[j]? =some oj→j≠i→listed.getD j true=false→(∀e∈oj.after,Region.binds .any e=true→e.on≠i)→oi.apart ops oj=true)→
   S listed→i∈Region.ready .any ops listed→PureIn P ops C0 oi v a→wpAnyG P ops C G Q f (listed.setIfInBounds i true) (a.put oi.dst v) w→wpAnyG P ops C G Q (f+1) listed a w:=by
 intro f
 induction f with
 |zero=>
  intro listed a w _ hs hr hy H;have hc:=hC listed hs hr w H.1;refine⟨hc.1,fun h=>(by rw[h]at hr;cases hr),fun j hj=> ?_⟩;by_cases hji:j=i
  ·subst hji;exact hy.lOp hi hc.2 H
  ·have:=ready_mono hj hji;rw[H.2.1]at this;cases this
 |succ f ih=>
  intro listed a w hfree hs hr hy H;have hc:=hC listed hs hr w H.1;refine⟨hc.1,fun h=>(by rw[h]at hr;cases hr),fun j hj=> ?_⟩;by_cases hji:j=i
  ·subst hji;exact hy.lOp hi hc.2 H
  ·have h1:=H.2.2 j (ready_mono hj hji);obtain⟨hjun,oj,hoj,hall⟩:=mem_ready.1 hj;have hnot:∀e∈oj.after,Region.binds .any e=true→e.on≠i:=fun e he hb heq=>by
    have h1:=hall e he hb;have h0:=(mem_ready.1 hr).1;rw[heq]at h1;rcases Nat.lt_or_ge i listed.size with h'|h'
    ·simp[h']at h0 h1;rw[h0]at h1;cases h1
    ·simp[Array.getElem?_eq_none h']at h1
   have h2:=lOp_put hoj (hfree j oj hoj hji hjun hnot) (fun cs b=>hsel i oi cs b hi) (fun cs b=>hsel j oj cs b hoj) hy h1;have hfree':∀k ok,ops[k]? =some ok→k≠i→(listed.setIfInBounds j true).getD k true=false→
     (∀e∈ok.after,Region.binds .any e=true→e.on≠i)→oi.apart ops ok=true:=fun k ok hk hki hun hno=>by
    refine hfree k ok hk hki ?_ hno;by_cases hjk:j=k
    ·subst hjk;exact hjun
    ·rw[getD_set_ne true hjk]at hun;exact hun
   refine lOp_mono (fun a' w' h3=> ?_) h2;refine ih (listed.setIfInBounds j true) a' w' hfree' (hS listed hs j hj hji hr) (ready_mono hr (Ne.symm hji)) h3.1 ?_;rw[Array.setIfInBounds_comm _ _ hji];exact h3.2
def needB(F:List Nat)(listed:Array Bool):Bool:=F.any fun d=> !listed.getD d true
def userB(ops:Array Oper)(F:List Nat)(listed:Array Bool)(i:Nat):Bool:=F.any fun d=> !listed.getD d true&&(match ops[d]? with|some o=>o.after.toList.any fun e=>Region.binds .any e&&e.on==i|none=>false)
def orderG(ops:Array Oper)(F:List Nat):Ord→Bool→Bool→Nat→Array Bool→Bool
 | .fin,_,_,0,listed=>(Region.ready .any ops listed).isEmpty
 | .load i r,z,_,f+1,listed=>(z||userB ops F listed i)&&(Region.ready .any ops listed).contains i&&Region.free .any ops listed i&&orderG ops F r z false f (listed.setIfInBounds i true)
 | .alt i r s,z,b,f+1,listed=>(b||(Region.ready .any ops listed).all ((i::s.heads).contains ·))&&(Region.ready .any ops listed).contains i&&orderG ops F r z false f (listed.setIfInBounds i true)&&orderG ops F s z true (f+1) listed
 | .none,_,b,_,_=>b
 | .drop r,z,b,f,listed=> !z&& !b&& !needB F listed&&orderG ops F r true false f listed
 |_,_,_,_,_=>false
theorem need_set{F:List Nat}{listed:Array Bool}{j:Nat}(h:needB F listed=false):needB F (listed.setIfInBounds j true)=false:=by
 unfold needB at*;rw[List.any_eq_false]at*;intro d hd;have:=h d hd;by_cases e:j=d
 ·subst e;rcases Nat.lt_or_ge j listed.size with q|q
  ·simp[Array.getD_eq_getD_getElem?,q]
  ·simp[Array.getD_eq_getD_getElem?,Array.getElem?_eq_none,q]
 ·rw[getD_set_ne true e];exact this
abbrev clsB(C:World→Prop)(z:Bool):World→Prop:=if z then fun _=>True else C
theorem mixG_both{F:List Nat}{Q:Act→World→Prop}(hs:Region.noSelect ops=true):∀(q:Ord) (z b:Bool) (f:Nat) (listed:Array Bool) (a:Act) (w:World),orderG ops F q z b f listed=true→(z=true→needB F listed=false)→wpMixC P ops Q q (clsB C z) a w→
  (b=false→wpAnyG P ops C (needB F) Q f listed a w)∧(b=true→∀j∈q.heads,∃f',f=f'+1∧lOp P ops j (wpAnyG P ops C (needB F) Q f' (listed.setIfInBounds j true)) a w)
 | .fin,z,b,0,listed,a,w,hB,hz,h=>⟨fun _=>⟨fun hn=>by
   cases z with
   |true=>rw[hz rfl]at hn;cases hn
   |false=>exact h.1,by simpa[orderG]using hB,h.2⟩,fun _ j hj=>by simp[Ord.heads]at hj⟩
 | .load i r,z,b,f+1,listed,a,w,hB,hz,h=>by
  simp only[orderG,Bool.and_eq_true]at hB;obtain⟨o,v,ho,hy,hr⟩:=h;have H:=(mixG_both hs r z false f _ _ _ hB.2 (fun e=>need_set (hz e)) hr).1 rfl;refine⟨fun _=> ?_,fun _ j hj=>by simp[Ord.heads]at hj⟩;have hrd:i∈Region.ready .any ops listed:=by simpa using hB.1.1.2
  cases z with
  |true=>exact wpAnyG_first (fun l=>needB F l=false) ho (Region.noSelect_spec hs) (fun l h j _ _ _=>need_set h) (fun l h _ w hw=>⟨fun e=>(by rw[h]at e;cases e),trivial⟩) f listed a w (Region.free_spec ho hB.1.2) (hz rfl) hrd hy H
  |false=>
   have hu:userB ops F listed i=true:=by simpa using hB.1.1.1
   obtain⟨d,hd,hq⟩:=List.any_eq_true.1 hu;rw[Bool.and_eq_true]at hq;have hdl:listed.getD d true=false:=by simpa using hq.1
   have hq2:=hq.2;cases hod:ops[d]? with
   |none=>rw[hod]at hq2;cases hq2
   |some od=>
    rw[hod]at hq2;obtain⟨e,he,hb⟩:=List.any_eq_true.1 hq2;rw[Bool.and_eq_true,beq_iff_eq]at hb;have hdi:∀l:Array Bool,i∈Region.ready .any ops l→∀j∈Region.ready .any ops l,j≠d:=fun l hi j hj e2=>by
     subst e2;obtain⟨_,oj,hoj,hall⟩:=mem_ready.1 hj;rw[hod]at hoj;have h1:=hall e (by cases hoj;simpa using he) hb.1;rw[hb.2]at h1;have h0:=(mem_ready.1 hi).1;rcases Nat.lt_or_ge i l.size with h'|h'
     ·simp[h']at h0 h1;rw[h0]at h1;cases h1
     ·simp[Array.getElem?_eq_none h']at h1
    refine wpAnyG_first (fun l=>l.getD d true=false) ho (Region.noSelect_spec hs) (fun l h j hj _ hi=> ?_) (fun l h hi w hw=> ?_) f listed a w (Region.free_spec ho hB.1.2) hdl hrd hy H
    ·rw[getD_set_ne true (hdi l hi j hj)];exact h
    ·have hn:∀l:Array Bool,l.getD d true=false→needB F l=true:=fun l h=>List.any_eq_true.2 ⟨d,hd,by rw[h];rfl⟩;have hc:=hw (hn _ (by rw[getD_set_ne true (hdi l hi i hi)];exact h));exact⟨fun _=>hc,hc⟩
 | .alt i r s,z,b,f+1,listed,a,w,hB,hz,h=>by
  simp only[orderG,Bool.and_eq_true,Bool.or_eq_true,List.all_eq_true,List.contains_iff_mem]at hB;have hi:lOp P ops i (wpAnyG P ops C (needB F) Q f (listed.setIfInBounds i true)) a w:=lOp_mono (fun a' w' h'=>(mixG_both hs r z false f _ a' w' hB.1.2 (fun e=>need_set (hz e)) h').1 rfl) h.1.2;have hS:=(mixG_both hs s z true (f+1) listed a w hB.2 hz h.2).2 rfl;have hall:∀j∈i::s.heads,lOp P ops j (wpAnyG P ops C (needB F) Q f (listed.setIfInBounds j true)) a w:=fun j hj=>by
   rcases List.mem_cons.1 hj with rfl|hj
   ·exact hi
   ·obtain⟨f',e,h'⟩:=hS j hj;cases e;exact h'
  refine⟨fun hb=>⟨fun hn=> ?_,fun h0=> ?_,fun j hj=> ?_⟩,fun _ j hj=>⟨f,rfl,hall j hj⟩⟩
  ·cases z with
   |true=>rw[hz rfl]at hn;cases hn
   |false=>exact h.1.1
  ·have:=hB.1.1.2;rw[h0]at this;cases this
  ·rcases hB.1.1.1 with e|e
   ·rw[hb]at e;cases e
   ·exact hall j (e j hj)
 | .drop r,z,b,f,listed,a,w,hB,hz,h=>by
  cases f with
  |zero=>
   simp only[orderG,Bool.and_eq_true,Bool.not_eq_true']at hB;obtain⟨⟨⟨_,hb⟩,hn⟩,hr⟩:=hB;exact⟨fun _=>(mixG_both hs r true false 0 listed a w hr (fun _=>hn) h).1 rfl,fun e=>by rw[hb]at e;cases e⟩
  |succ f=>
   simp only[orderG,Bool.and_eq_true,Bool.not_eq_true']at hB;obtain⟨⟨⟨_,hb⟩,hn⟩,hr⟩:=hB;exact⟨fun _=>(mixG_both hs r true false (f+1) listed a w hr (fun _=>hn) h).1 rfl,fun e=>by rw[hb]at e;cases e⟩
 | .none,z,b,_,_,_,_,hB,_,_=>⟨fun hb=>(by unfold orderG at hB;rw[hb]at hB;cases hB),fun _ j hj=>(by simp[Ord.heads]at hj)⟩
 | .fin,_,_,_+1,_,_,_,hB,_,_=>by simp[orderG]at hB
 | .load ..,_,_,0,_,_,_,hB,_,_=>by simp[orderG]at hB
 | .alt ..,_,_,0,_,_,_,hB,_,_=>by simp[orderG]at hB
def mixG(ops:Array Oper)(F:List Nat)(q:Ord):Bool:=Region.noSelect ops&&orderG ops F q false false ops.size (Array.replicate ops.size false)
theorem WC.regionG{n:Nat}{Q:Exit→Act→World→Prop}{E:Env}{w:World}{id:Nat}{l:List Oper}(C:World→Prop)(F:List Nat)(seq:Ord)(_hC:C w)(hm:P.follows .mixedOrders=true)(hB:mixG l.toArray F seq=true)
  (h:∀w1,Ext w w1→WX P n l.toArray C (Q .normal) seq E w1):WC P n (.region id l.toArray true) Q E w:=by
 intro a ha;simp only[mixG,Bool.and_eq_true]at hB;exact wp_region_any hm (wpAny_of_G (fun _ _ h=>h) _ _ _ _ ((mixG_both (C:=C) hB.1 seq false false _ _ a _ hB.2 (fun e=>by cases e) (h _ ((Ext.refl w).drawn (Nat.le_succ _)) a ha)).1 rfl))
theorem WX.drop{n:Nat}{Q:Act→World→Prop}{E:Env}{w:World}{r:Ord}(h:WX P n ops (fun _=>True) Q r E w):WX P n ops C Q (.drop r) E w:=fun a ha=>h a ha
end
end Go.Eng
section
attribute [local irreducible] Go.Eng.WC Go.Eng.WL Go.Eng.WK Go.Eng.WQ Go.Eng.WX Go.Eng.Yld
namespace Go.Proofs.YtaclfjjipnpboaaGreatDoor
open Go Go.Eng Go.RowKit
namespace TW
def VaP(x:J):Prop:=∀(g:Nat) (s:ByteArray) (i:Nat) (lv:Int) (d:Nat) (r:List UInt8) (W:World) (R:List Res) (w:World),Hp W w (box g 157 [.string s,.int .i64 ((i:Nat):Int)]::R)→Tabs W→s.size≤100000→Vd d x→1≤lv∧lv+d≤17→At s i (pr x) r→Nd r→
 Calls Tryz.prog 57 #[.pointer (some ⟨g,0,none⟩),.int .i64 lv] w fun e w'=>∃y,e= .returned (.agg #[.int .i64 y.op,.int .i64 y.n,.string y.s,.slice y.A y.k y.c,.slice y.B y.m y.d])∧Sj y x∧Hp W w' (jR y::box g 157 [.string s,.int .i64 ((i+(pr x).length:Nat):Int)]::R)
theorem arr2_any(u:J)(ih:∀y∈u.kids,VaP y)(g:Nat)(s:ByteArray)(i:Nat)(lv:Int)(d:Nat)(r:List UInt8)(W:World)(R:List Res)(w:World)(H:Hp W w (box g 157 [.string s,.int .i64 ((i:Nat):Int)]::R))(hT:Tabs W)(hz:s.size≤100000)(vd:Vd (d+1) u)(ho:u.op=5)(hl:1≤lv∧lv+d≤16)(ha:At s i (bdB false u.ks (u.kids.map pr) u.kids.length++[93]) r):
  Calls Tryz.prog 106 #[.pointer (some ⟨g,0,none⟩),.int .i64 lv] w fun e w'=>∃y,e= .returned (.agg #[.int .i64 y.op,.int .i64 y.n,.string y.s,.slice y.A y.k y.c,.slice y.B y.m y.d])∧Sj y u∧Hp W w' (jR y::box g 157 [.string s,.int .i64 ((i+(bdB false u.ks (u.kids.map pr) u.kids.length).length+1:Nat):Int)]::R):=by
 obtain⟨hn,hs,hk⟩:=vd.five ho;obtain⟨f1,f2,f3,f4⟩:=bd_first ha (fun y hy=>vd.kid hy) (.inl rfl);have f5:=bd_max ha (fun y hy=>vd.kid hy);refine Wb Tryz.func106 ?_;refine go ?_;refine al H ti66 fun g4 z H=> ?_;refine go ?_;refine al H ti66 fun g7 z H=> ?_;refine st H 0 ti66 fun z H=> ?_;refine go ?_;refine c1 H Fh (peek_any g s i _ (H.b 2) hz (fun _=>f3)) fun z H=> ?_;rcases Nat.eq_zero_or_pos u.kids.length with q0|q0
 ·refine yy (Yld.cast (Y.eql rfl rfl rfl) (vb (beq_yes (bd_end (c:=93) ha q0).2))) ?_;refine go ?_;refine WC.condT rfl ?_;refine G5 ?_;refine yy (Yld.cast (Y.add rfl rfl rfl Wo) (vi (show(((i):Nat):Int)+1=((i+1:Nat):Int)from rfl))) ?_;refine go ?_;refine st H 2 ti3 fun z H=> ?_;refine go ?_;refine st H 1 ti66 fun z H=> ?_;refine go ?_;refine WK.ret [_] rfl ⟨⟨_,rfl,run_loadVar_blk u66 rfl ti66 (H.b 1)⟩,trivial⟩ ?_;exact⟨j0 5 0 ⟨#[]⟩,rfl,Sj.mk ho.symm hn.symm hs.symm hk.symm (by rw[List.eq_nil_of_length_eq_zero q0];rfl),(by rw[show i+(bdB false u.ks (u.kids.map pr) u.kids.length).length+1=i+1 from by rw[q0];rfl];exact Hp_j0 (H.drop [0,0]) 5 0 ⟨#[]⟩)⟩
 ·refine yy (Yld.cast (Y.eql rfl rfl rfl) (vb (beq_no (f2▸f4 q0)))) ?_;refine go ?_;refine WC.condF rfl ?_;have H:=H.nilRow 66 J.v 5;have H:=H.bigNil jL;refine go ?_;refine sb [6,0,1,4,5] ?_;refine WC.loopS 1 (fun mz Ed W'=>∃k:Nat,∃b:Bool,∃ys:List J,∃v:Value,mz=u.kids.length-k∧Ed=[(6,.bool b)]∧Hp W W' (box g7 66 [.int .i64 5,.int .i64 0,.string ⟨#[]⟩,.slice none 0 0,v]::row 66 J.v 5 v ys::big jL ys::box g 157 [.string s,.int .i64 ((i+(bdB false u.ks (u.kids.map pr) k).length+(hdB false u.ks k).length:Nat):Int)]::_::R)∧((b=true∧k<u.kids.length)∨(b=false∧k=u.kids.length∧0<k))∧(ys.map er=(u.kids.take k).map er)) _ ⟨0,true,[],_,rfl,rfl,(H.front [2,1,0,1,0]),(.inl ⟨rfl,q0⟩),rfl⟩ ?_;rintro _ _ z ⟨k,b,ys,v,rfl,rfl,H,bk,hy⟩;refine go ?_;refine WC.cond rfl (fun h19=> ?_) (fun h19=> ?_)
  ·have kn:k<u.kids.length:=by rcases bk with⟨_,q⟩|⟨q,_⟩<;>simp_all
   obtain⟨r2,a2,n2,t2,t3⟩:=part_at ha kn (.inl rfl);have a3:=a2.skip;have a4:=a3.go;obtain⟨A21,n22,c23,rfl,_,_,_⟩:=H.op 1;refine go ?_;refine WC.regionG (HpC W _) [0,1,2,3,4,5,6,7,8,9] (.load 0 (.load 1 (.load 2 (.load 3 (.load 4 (.alt 5 (.alt 6 (.alt 7 (.load 8 (.alt 9 (.drop (.fin)) (.none))) (.none)) (.none)) (.none))))))) (H.pick [0,1,2]) (by kernel_rfl) (by kernel_rfl) (fun z x=> ?_);have H:=H.ex x;refine go ?_;refine c3X (H.pick [0,1,2]) Fh (ih _ (mem_b (show k<u.kids.length from Om)) g s (i+(bdB false u.ks (u.kids.map pr) k).length+(hdB false u.ks k).length) (lv+1) d r2 _ _ _ (H.front [3]) hT hz (vd.kid (mem_b (show k<u.kids.length from Om))) Om a3 n2) ?_;rintro _ z ⟨y24,rfl,h25,H⟩;refine⟨_,rfl,?_⟩;refine bs1X (H.pick [2,3,3]) H u64 ti66 fun g27 z H=> ?_;refine apX (H.pick [3,4,4]) H 4 0 rfl [y24] u64 ti66 rfl J.one (by have:=congrArg List.length hy;rw[List.length_map,List.length_map,List.length_take]at this;simp only[List.length_cons,List.length_nil];omega) fun v29 z H=> ?_;obtain⟨A30,n31,c32,rfl,_,_,_⟩:=H.op 4;refine go ?_;refine stX (H.pick [3,4,4]) H 3 ti64 fun z H=> ?_;refine WX.drop ?_;refine WX.nil trivial ?_;have nb:=nx_b a4 t2 t3 kn (.inl rfl);refine go ?_;refine c3 Fh (next_any g s ((i+(bdB false u.ks (u.kids.map pr) k).length+(hdB false u.ks k).length)+(pr u.kids[k]!).length) 93 (decide (k+1<u.kids.length)) _ _ _ (H.front [2]) hz nb.1 Dc nb.2) ?_;rintro _ z ⟨rfl,H⟩;refine⟨_,rfl,?_⟩;have H:=H.front [2,4];have H:Hp W _ (big jL (ys++[y24])::_):=Hp.bigPush jL y24 H;refine go ?_;exact Rs [(6,_)] Sx ⟨(k+1),(decide (k+1<u.kids.length)),(ys++[y24]),(.slice A30 n31 c32),rfl,rfl,(by rw[show i+(bdB false u.ks (u.kids.map pr) (k+1)).length+(hdB false u.ks (k+1)).length=(i+(bdB false u.ks (u.kids.map pr) k).length+(hdB false u.ks k).length)+(pr u.kids[k]!).length+1 from by rw[hdB_len (Nat.succ_pos k),bd_step (show k<u.kids.length from Om),List.length_append,List.length_append];omega];exact((H.drop [2]).front [2,2,0,0,0])),((Nat.lt_or_eq_of_le (show k+1≤u.kids.length from Om)).elim (fun q=>.inl ⟨decide_eq_true q,q⟩) fun q=>.inr ⟨decide_eq_false Om,q,Nat.succ_pos k⟩),(by rw[List.map_append,hy,take_bang (show k<u.kids.length from Om),List.map_append];exact congrArg (_++[·]) h25)⟩
  ·obtain⟨A34,n35,c36,rfl,_,_,_⟩:=H.op 1;refine go ?_;refine st H 4 ti66 fun z H=> ?_;refine go ?_;refine WK.ret [_] rfl ⟨⟨_,rfl,run_loadVar_blk u66 rfl ti66 (H.b 4)⟩,trivial⟩ ?_;have H:=(H.drop [0,3]);rcases bk with⟨e_,_⟩|⟨_,ek,k0⟩
   ·exact absurd (e_.symm.trans h19) Dc
   exact⟨.mk 5 0 ⟨#[]⟩ none 0 0 [] A34 n35 c36 ys,rfl,Sj.mk ho.symm hn.symm hs.symm hk.symm (by rw[show u.kids=u.kids.take k from by rw[ek,List.take_length]];exact hy),(by rw[show i+(bdB false u.ks (u.kids.map pr) u.kids.length).length+1=i+(bdB false u.ks (u.kids.map pr) k).length+(hdB false u.ks k).length from by rw[hdB_len k0,ek]];exact mk_J 5 0 ⟨#[]⟩ (H.nilRow 9 sc 1))⟩
theorem obj2_any(u:J)(ih:∀y∈u.kids,VaP y)(g:Nat)(s:ByteArray)(i:Nat)(lv:Int)(d:Nat)(r:List UInt8)(W:World)(R:List Res)(w:World)(H:Hp W w (box g 157 [.string s,.int .i64 ((i:Nat):Int)]::R))(hT:Tabs W)(hz:s.size≤100000)(vd:Vd (d+1) u)(ho:u.op=6)(hl:1≤lv∧lv+d≤16)(ha:At s i (bdB true u.ks (u.kids.map pr) u.kids.length++[125]) r):
  Calls Tryz.prog 107 #[.pointer (some ⟨g,0,none⟩),.int .i64 lv] w fun e w'=>∃y,e= .returned (.agg #[.int .i64 y.op,.int .i64 y.n,.string y.s,.slice y.A y.k y.c,.slice y.B y.m y.d])∧Sj y u∧Hp W w' (jR y::box g 157 [.string s,.int .i64 ((i+(bdB true u.ks (u.kids.map pr) u.kids.length).length+1:Nat):Int)]::R):=by
 obtain⟨hn,hs,hk,hnd,hcl⟩:=vd.six ho;obtain⟨f1,f2,f3,f4⟩:=bd_first ha (fun y hy=>vd.kid hy) (.inr rfl);have f5:=bd_max ha (fun y hy=>vd.kid hy);refine Wb Tryz.func107 ?_;refine go ?_;refine al H ti66 fun g4 z H=> ?_;refine go ?_;refine al H ti66 fun g7 z H=> ?_;refine st H 0 ti66 fun z H=> ?_;refine go ?_;refine c1 H Fh (peek_any g s i _ (H.b 2) hz (fun _=>f3)) fun z H=> ?_;rcases Nat.eq_zero_or_pos u.kids.length with q0|q0
 ·refine yy (Yld.cast (Y.eql rfl rfl rfl) (vb (beq_yes (bd_end (c:=125) ha q0).2))) ?_;refine go ?_;refine WC.condT rfl ?_;refine G5 ?_;refine yy (Yld.cast (Y.add rfl rfl rfl Wo) (vi (show(((i):Nat):Int)+1=((i+1:Nat):Int)from rfl))) ?_;refine go ?_;refine st H 2 ti3 fun z H=> ?_;refine go ?_;refine st H 1 ti66 fun z H=> ?_;refine go ?_;refine WK.ret [_] rfl ⟨⟨_,rfl,run_loadVar_blk u66 rfl ti66 (H.b 1)⟩,trivial⟩ ?_;exact⟨j0 6 0 ⟨#[]⟩,rfl,Sj.mk ho.symm hn.symm hs.symm (by rw[List.eq_nil_of_length_eq_zero (hk.trans q0)];rfl) (by rw[List.eq_nil_of_length_eq_zero q0];rfl),(by rw[show i+(bdB true u.ks (u.kids.map pr) u.kids.length).length+1=i+1 from by rw[q0];rfl];exact Hp_j0 (H.drop [0,0]) 6 0 ⟨#[]⟩)⟩
 ·refine yy (Yld.cast (Y.eql rfl rfl rfl) (vb (beq_no (f2▸f4 q0)))) ?_;refine go ?_;refine WC.condF rfl ?_;refine G3 ?_;refine mmS H fun g14 z H=> ?_;obtain⟨n3,hn3,H⟩:∃n,n=Value.slice none 0 0∧Hp W _ (row 9 sc 1 n []::_):=⟨_,rfl,H.nilRow 9 sc 1⟩;obtain⟨n4,hn4,H⟩:∃n,n=Value.slice none 0 0∧Hp W _ (row 66 J.v 5 n []::_):=⟨_,rfl,H.nilRow 66 J.v 5⟩;have H:=H.bigNil jL;refine go ?_;refine sb [7,0,1,4,5,6] ?_;refine WC.loopS 1 (fun mz Ed W'=>∃k:Nat,∃b:Bool,∃ys:List J,∃vk:Value,∃v:Value,mz=u.kids.length-k∧Ed=[(7,.bool b)]∧Hp W W' (box g7 66 [.int .i64 6,.int .i64 0,.string ⟨#[]⟩,vk,v]::row 9 sc 1 vk (u.ks.take k)::row 66 J.v 5 v ys::big jL ys::mps g14 ((u.ks.take k).map fun k=>(k,Value.bool true))::box g 157 [.string s,.int .i64 ((i+(bdB true u.ks (u.kids.map pr) k).length+(if k=0 then 0 else 1):Nat):Int)]::_::R)∧((b=true∧k<u.kids.length)∨(b=false∧k=u.kids.length∧0<k))∧(ys.map er=(u.kids.take k).map er)) _ ⟨0,true,[],n3,n4,rfl,rfl,(by subst hn3;subst hn4;exact(H.front [4,2,1,0,0,1,0])),(.inl ⟨rfl,q0⟩),rfl⟩ ?_;rintro _ _ z ⟨k,b,ys,vk,v,rfl,rfl,H,bk,hy⟩;refine go ?_;refine WC.cond rfl (fun h23=> ?_) (fun h23=> ?_)
  ·have kn:k<u.kids.length:=by rcases bk with⟨_,q⟩|⟨q,_⟩<;>simp_all
   obtain⟨r2,a2,n2,t2,t3⟩:=part_at ha kn (.inr rfl);obtain⟨b1,b2,a3,b4⟩:=ob_at a2;have a4:=a3.go;refine go ?_;refine c1 H Fh (peek_any g s (i+(bdB true u.ks (u.kids.map pr) k).length+(if k=0 then 0 else 1)) _ (H.b 5) hz (fun _=>by rw[b1.b0.2];decide)) fun z H=> ?_;refine go ?_;refine c3 Fh (text2_any g s (i+(bdB true u.ks (u.kids.map pr) k).length+(if k=0 then 0 else 1)) u.ks[k]! (58::(pr u.kids[k]! ++r2)) _ _ _ (H.front [5]) hz (hcl _ (mem_b (show k<u.ks.length from Om))) b1) ?_;rintro _ z ⟨rfl,H⟩;refine⟨_,rfl,?_⟩;refine G6 ?_;refine yy (Yld.cast (Y.lookupS rfl u275 u9 ti4 rfl rfl (fun _ h=>h▸(H.ms 5))) (show sval ((u.ks.take k).map fun k=>(k,Value.bool true)) u.ks[k]! (.bool false)= .bool false from by unfold sval;rw[sget_map (nodup_at hnd (show k<u.ks.length from Om))];rfl)) ?_;refine go ?_;refine WC.condF rfl ?_;refine G5 ?_;refine muS H 5 u275 u9 fun z H=> ?_;refine go ?_;refine c1 H Fh (peek_any g s ((i+(bdB true u.ks (u.kids.map pr) k).length+(if k=0 then 0 else 1))+(u.ks[k]!.size+2)) _ (H.b 0) hz (fun _=>by rw[b2.b0.2];decide)) fun z H=> ?_;refine go ?_;refine c3 Fh (take_any g s ((i+(bdB true u.ks (u.kids.map pr) k).length+(if k=0 then 0 else 1))+(u.ks[k]!.size+2)) 58 _ _ _ (H.front [0]) hz b2.b0.1 b2.b0.2) ?_;rintro _ z ⟨rfl,H⟩;refine⟨_,rfl,?_⟩;obtain⟨A33,n34,c35,rfl,_,_,_⟩:=H.op 2;obtain⟨A36,n37,c38,rfl,_,_,_⟩:=H.op 3;refine go ?_;refine WC.regionG (HpC W _) [0,1,2,3,4,5,6,7,8,9,10,11,12,13,14] (.load 0 (.load 1 (.load 2 (.load 5 (.load 6 (.load 7 (.load 8 (.load 9 (.alt 3 (.alt 4 (.load 13 (.alt 10 (.alt 11 (.alt 12 (.alt 14 (.drop (.load 15 (.alt 16 (.fin) (.none)))) (.none)) (.none)) (.none)) (.none))) (.none)) (.none)))))))))) (H.pick [1,3,3,3]) (by kernel_rfl) (by kernel_rfl) (fun z x=> ?_);have H:=H.ex x;refine go ?_;refine bs1X (H.pick [1,3,3,3]) H u63 ti9 fun g39 z H=> ?_;refine apX (H.pick [2,4,4,4]) H 3 0 rfl [u.ks[k]!] u63 ti9 rfl sc_one (by have:=congrArg List.length hy;rw[List.length_map,List.length_map,List.length_take]at this;simp only[List.length_cons,List.length_nil,List.length_take];omega) fun v41 z H=> ?_;refine go ?_;refine c3X (H.pick [2,4,4,4]) Fh (ih _ (mem_b (show k<u.kids.length from Om)) g s (((i+(bdB true u.ks (u.kids.map pr) k).length+(if k=0 then 0 else 1))+(u.ks[k]!.size+2))+1) (lv+1) d r2 _ _ _ (H.front [1]) hT hz (vd.kid (mem_b (show k<u.kids.length from Om))) Om a3 n2) ?_;rintro _ z ⟨y42,rfl,h43,H⟩;refine⟨_,rfl,?_⟩;refine bs1X (H.pick [3,5,5,5]) H u64 ti66 fun g45 z H=> ?_;refine apX (H.pick [4,6,6,6]) H 6 0 rfl [y42] u64 ti66 rfl J.one (by have:=congrArg List.length hy;rw[List.length_map,List.length_map,List.length_take]at this;simp only[List.length_cons,List.length_nil,List.length_take];omega) fun v47 z H=> ?_;obtain⟨A48,n49,c50,rfl,_,_,_⟩:=H.op 5;refine stX (H.pick [4,6,6,6]) H 4 ti63 fun z H=> ?_;refine WX.drop ?_;obtain⟨A51,n52,c53,rfl,_,_,_⟩:=H.op 6;refine go ?_;refine stX trivial H 4 ti64 fun z H=> ?_;refine WX.nil trivial ?_;have nb:=nx_b a4 t2 t3 kn (.inr rfl);refine G2 ?_;refine sb [0,1,4,5,6] ?_;refine go ?_;refine c3 Fh (next_any g s (((i+(bdB true u.ks (u.kids.map pr) k).length+(if k=0 then 0 else 1))+(u.ks[k]!.size+2))+1+(pr u.kids[k]!).length) 125 (decide (k+1<u.kids.length)) _ _ _ (H.front [2]) hz nb.1 Dc nb.2) ?_;rintro _ z ⟨rfl,H⟩;refine⟨_,rfl,?_⟩;have H:=H.front [2,6];have H:Hp W _ (big jL (ys++[y42])::_):=Hp.bigPush jL y42 H;refine go ?_;exact Rs [(7,_)] Sx ⟨(k+1),(decide (k+1<u.kids.length)),(ys++[y42]),(.slice A48 n49 c50),(.slice A51 n52 c53),rfl,rfl,(by rw[show i+(bdB true u.ks (u.kids.map pr) (k+1)).length+(if(k+1)=0 then 0 else 1)=((i+(bdB true u.ks (u.kids.map pr) k).length+(if k=0 then 0 else 1))+(u.ks[k]!.size+2))+1+(pr u.kids[k]!).length+1 from by rw[if_neg (Nat.succ_ne_zero k),bd_step (show k<u.kids.length from Om),List.length_append,List.length_append,b4];omega,take_bang (show k<u.ks.length from Om),List.map_append,show List.map (fun k=>(k,Value.bool true)) [u.ks[k]!]=[(u.ks[k]!,Value.bool true)]from rfl,←sset_none _ _ _ (sget_map (nodup_at hnd (show k<u.ks.length from Om)))];exact((H.drop [2,2]).front [2,2,2,0,1,0,0])),((Nat.lt_or_eq_of_le (show k+1≤u.kids.length from Om)).elim (fun q=>.inl ⟨decide_eq_true q,q⟩) fun q=>.inr ⟨decide_eq_false Om,q,Nat.succ_pos k⟩),(by rw[List.map_append,hy,take_bang (show k<u.kids.length from Om),List.map_append];exact congrArg (_++[·]) h43)⟩
  ·obtain⟨A55,n56,c57,rfl,_,_,_⟩:=H.op 1;obtain⟨A58,n59,c60,rfl,_,_,_⟩:=H.op 2;refine go ?_;refine st H 6 ti66 fun z H=> ?_;refine go ?_;refine WK.ret [_] rfl ⟨⟨_,rfl,run_loadVar_blk u66 rfl ti66 (H.b 6)⟩,trivial⟩ ?_;have H:=(H.drop [0,3,4]);rcases bk with⟨e_,_⟩|⟨_,ek,k0⟩
   ·exact absurd (e_.symm.trans h23) Dc
   have H:=mk_J 6 0 ⟨#[]⟩ H;exact⟨_,rfl,Sj.mk (x:=.mk 6 0 ⟨#[]⟩ A55 n56 c57 (u.ks.take k) A58 n59 c60 ys) (y:=u) ho.symm hn.symm hs.symm (List.take_of_length_le Om) (by rw[show u.kids=u.kids.take k from by rw[ek,List.take_length]];exact hy),(by rw[show i+(bdB true u.ks (u.kids.map pr) u.kids.length).length+1=i+(bdB true u.ks (u.kids.map pr) k).length+(if k=0 then 0 else 1)from by rw[if_neg Om,ek]];exact H)⟩
theorem value_step(u:J)(ih:∀y∈u.kids,VaP y)(g:Nat)(s:ByteArray)(i:Nat)(lv:Int)(d:Nat)(r:List UInt8)(W:World)(R:List Res)(w:World)(H:Hp W w (box g 157 [.string s,.int .i64 ((i:Nat):Int)]::R))(hT:Tabs W)(hz:s.size≤100000)(vd:Vd d u)(hl:1≤lv∧lv+d≤17)(ha:At s i (pr u) r)(hr:Nd r):
  Calls Tryz.prog 57 #[.pointer (some ⟨g,0,none⟩),.int .i64 lv] w fun e w'=>∃y,e= .returned (.agg #[.int .i64 y.op,.int .i64 y.n,.string y.s,.slice y.A y.k y.c,.slice y.B y.m y.d])∧Sj y u∧Hp W w' (jR y::box g 157 [.string s,.int .i64 ((i+(pr u).length:Nat):Int)]::R):=by
 obtain⟨d,rfl⟩:=vd.pos;obtain⟨v1,v2,v3⟩:=va_hd vd ha;refine Wb Tryz.func57 ?_;refine go ?_;refine al H ti66 fun g4 z H=> ?_;refine go ?_;refine c1 H Fh (peek_any g s i _ (H.b 1) hz (fun _=>by omega)) fun z H=> ?_;refine G5 ?_;rcases vd.ops with ho|ho|ho|ho
 ·have hn:=vd.three ho;have a1:At s i (Lib.itoa u.n) r:=pr_3 ho▸ha;have hv:=va_num a1;refine yy (Yld.cast (Y.eql rfl rfl rfl) (vb (beq_no Om))) ?_;refine go ?_;refine WC.condF rfl ?_;refine G2 ?_;refine yy (Yld.cast (Y.eql rfl rfl rfl) (vb (beq_no Om))) ?_;refine go ?_;refine WC.condF rfl ?_;refine G2 ?_;refine yy (Yld.cast (Y.eql rfl rfl rfl) (vb (beq_no Om))) ?_;refine go ?_;refine WC.condF rfl ?_;refine G2 ?_;refine yy (Yld.cast (Y.eql rfl rfl rfl) (vb (beq_no Om))) ?_;refine go ?_;refine WC.condF rfl ?_;refine G2 ?_;refine yy (Yld.cast (Y.eql rfl rfl rfl) (vb (beq_no Om))) ?_;refine G2 ?_;refine WL.yldW rfl (blt rfl) rfl rfl rfl (Yld.cast (Y.eql rfl rfl rfl) (vb (beq_no Om))) ?_;refine yy (Y.pickF rfl rfl rfl) ?_;refine go ?_;refine WC.condF rfl ?_;refine go ?_;refine c3 Fh (num2_any g s i u.n r _ _ _ (H.front [1]) hz hn.1 hT a1 hr) ?_;rintro _ z ⟨rfl,H⟩;refine⟨_,rfl,?_⟩;refine st H 1 ti66 fun z H=> ?_;refine go ?_;refine WK.ret [_] rfl ⟨⟨_,rfl,run_loadVar_blk u66 rfl ti66 (H.b 1)⟩,trivial⟩ ?_;exact⟨j0 3 u.n ⟨#[]⟩,rfl,Sj.mk ho.symm rfl hn.2.1.symm hn.2.2.1.symm (by rw[hn.2.2.2];rfl),(by rw[pr_3 ho];exact Hp_j0 (H.drop [1]) 3 u.n ⟨#[]⟩)⟩
 ·have hn:=vd.four ho;have a1:At s i (34::u.s.data.toList++[34]) r:=pr_4 ho▸ha;have hv:hF s i=34:=hF_c a1;refine yy (Yld.cast (Y.eql rfl rfl rfl) (vb (beq_no Om))) ?_;refine go ?_;refine WC.condF rfl ?_;refine G2 ?_;refine yy (Yld.cast (Y.eql rfl rfl rfl) (vb (beq_no Om))) ?_;refine G2 ?_;refine sb [0,1,4,5,14] ?_;refine WC.condF rfl ?_;refine G2 ?_;refine yy (Yld.cast (Y.eql rfl rfl rfl) (vb (beq_no Om))) ?_;refine go ?_;refine WC.condF rfl ?_;refine G2 ?_;refine yy (Yld.cast (Y.eql rfl rfl rfl) (vb (beq_yes hv))) ?_;refine go ?_;refine WC.condT rfl ?_;refine go ?_;refine c3 Fh (text2_any g s i u.s r _ _ _ (H.front [1]) hz hn.2.1 a1) ?_;rintro _ z ⟨rfl,H⟩;refine⟨_,rfl,?_⟩;refine go ?_;refine st H 1 ti66 fun z H=> ?_;refine go ?_;refine WK.ret [_] rfl ⟨⟨_,rfl,run_loadVar_blk u66 rfl ti66 (H.b 1)⟩,trivial⟩ ?_;exact⟨j0 4 0 u.s,rfl,Sj.mk ho.symm hn.1.symm rfl hn.2.2.1.symm (by rw[hn.2.2.2];rfl),(by rw[show(pr u).length=u.s.size+2 from by rw[pr_4 ho,List.length_append,List.length_cons,toL_len];rfl];exact Hp_j0 (H.drop [1]) 4 0 u.s)⟩
 ·have a0:At s i ([91]++(bdB false u.ks (u.kids.map pr) u.kids.length++[93])) r:=pr_5 ho▸ha;have hv:hF s i=91:=hF_c a0;have a1:=a0.skip;refine yy (Yld.cast (Y.eql rfl rfl rfl) (vb (beq_no Om))) ?_;refine go ?_;refine WC.condF rfl ?_;refine G2 ?_;refine yy (Yld.cast (Y.eql rfl rfl rfl) (vb (beq_no Om))) ?_;refine go ?_;refine WC.condF rfl ?_;refine G2 ?_;refine yy (Yld.cast (Y.eql rfl rfl rfl) (vb (beq_no Om))) ?_;refine go ?_;refine WC.condF rfl ?_;refine G2 ?_;refine yy (Yld.cast (Y.eql rfl rfl rfl) (vb (beq_no Om))) ?_;refine go ?_;refine WC.condF rfl ?_;refine G2 ?_;refine yy (Yld.cast (Y.eql rfl rfl rfl) (vb (beq_yes hv))) ?_;refine G3 ?_;refine yy (Y.pickT rfl rfl rfl) ?_;refine go ?_;refine WC.condT rfl ?_;refine G3 ?_;refine yy (Yld.cast (Y.gtr rfl rfl rfl) (bf Om)) ?_;refine go ?_;refine WC.condF rfl ?_;refine G2 ?_;refine sb [0,1,4,5] ?_;refine G5 ?_;refine yy (Yld.cast (Y.add rfl rfl rfl Wo) (vi (show(((i):Nat):Int)+1=((i+1:Nat):Int)from rfl))) ?_;refine go ?_;refine st H 1 ti3 fun z H=> ?_;refine G4 ?_;refine yy (Yld.cast (Y.eql rfl rfl rfl) (vb (beq_yes hv))) ?_;refine go ?_;refine WC.condT rfl ?_;refine go ?_;refine c3 Fh (arr2_any u ih g s (i+1) lv d r _ _ _ (H.front [1]) hT hz vd ho Om a1) ?_;rintro _ z ⟨y28,rfl,h29,H⟩;refine⟨_,rfl,?_⟩;refine st H 2 ti66 fun z H=> ?_;refine go ?_;refine WK.ret [_] rfl ⟨⟨_,rfl,run_loadVar_blk u66 rfl ti66 (H.b 2)⟩,trivial⟩ ?_;exact⟨_,rfl,h29,(by rw[show i+(pr u).length=i+1+(bdB false u.ks (u.kids.map pr) u.kids.length).length+1 from by rw[pr_len5 ho];omega];exact(H.drop [2]))⟩
 ·have a0:At s i ([123]++(bdB true u.ks (u.kids.map pr) u.kids.length++[125])) r:=pr_6 ho▸ha;have hv:hF s i=123:=hF_c a0;have a1:=a0.skip;refine yy (Yld.cast (Y.eql rfl rfl rfl) (vb (beq_no Om))) ?_;refine go ?_;refine WC.condF rfl ?_;refine G2 ?_;refine yy (Yld.cast (Y.eql rfl rfl rfl) (vb (beq_no Om))) ?_;refine go ?_;refine WC.condF rfl ?_;refine G2 ?_;refine yy (Yld.cast (Y.eql rfl rfl rfl) (vb (beq_no Om))) ?_;refine go ?_;refine WC.condF rfl ?_;refine G2 ?_;refine yy (Yld.cast (Y.eql rfl rfl rfl) (vb (beq_no Om))) ?_;refine go ?_;refine WC.condF rfl ?_;refine G2 ?_;refine yy (Yld.cast (Y.eql rfl rfl rfl) (vb (beq_no Om))) ?_;refine G2 ?_;refine WL.yldW rfl (blt rfl) rfl rfl rfl (Yld.cast (Y.eql rfl rfl rfl) (vb (beq_yes hv))) ?_;refine yy (Y.pickF rfl rfl rfl) ?_;refine go ?_;refine WC.condT rfl ?_;refine G3 ?_;refine yy (Yld.cast (Y.gtr rfl rfl rfl) (bf Om)) ?_;refine G1 ?_;refine sb [0,1,4,5,40] ?_;refine WC.condF rfl ?_;refine G7 ?_;refine yy (Yld.cast (Y.add rfl rfl rfl Wo) (vi (show(((i):Nat):Int)+1=((i+1:Nat):Int)from rfl))) ?_;refine go ?_;refine st H 1 ti3 fun z H=> ?_;refine G4 ?_;refine yy (Yld.cast (Y.eql rfl rfl rfl) (vb (beq_no Om))) ?_;refine go ?_;refine WC.condF rfl ?_;refine go ?_;refine c3 Fh (obj2_any u ih g s (i+1) lv d r _ _ _ (H.front [1]) hT hz vd ho Om a1) ?_;rintro _ z ⟨y41,rfl,h42,H⟩;refine⟨_,rfl,?_⟩;refine st H 2 ti66 fun z H=> ?_;refine go ?_;refine WK.ret [_] rfl ⟨⟨_,rfl,run_loadVar_blk u66 rfl ti66 (H.b 2)⟩,trivial⟩ ?_;exact⟨_,rfl,h42,(by rw[show i+(pr u).length=i+1+(bdB true u.ks (u.kids.map pr) u.kids.length).length+1 from by rw[pr_len6 ho];omega];exact(H.drop [2]))⟩
theorem value_any:∀x,VaP x:=J.ind fun x ih g s i lv d r W R w H hT hz vd hl ha hr=>value_step x ih g s i lv d r W R w H hT hz vd hl ha hr
end TW
end Go.Proofs.YtaclfjjipnpboaaGreatDoor
end
namespace Go.Eng
open Go Go.RowKit
def apD(D:List Deferred)(a:Act):Act:={a with defers:=a.defers++D}
theorem wpList_ap{P:Program}{ops:Array Oper}{Q:Exit→Act→World→Prop}{D:List Deferred}:∀(l:List Oper) (a:Act) (w:World),
  wpList P ops (fun e a w=>Q e (apD D a) w) l a w→wpList P ops Q l (apD D a) w:=by
 intro l
 induction l with
 |nil=>exact fun a w h=>h
 |cons o l ih=>
  intro a w h;have he:(apD D a).eval=a.eval:=rfl;have hp:∀(b:Act) v,(apD D b).put o.dst v=apD D (b.put o.dst v):=fun b v=>by cases o.dst<;>rfl
  unfold wpList at h ⊢;rw[show(apD D a).tmps=a.tmps from rfl];split
  ·rename_i hw;rw[if_pos hw]at h;rcases h with h|⟨h,hl⟩
   ·refine .inl ?_;unfold Oper.wp at h ⊢;rw[he];generalize (execOp a.eval o).run P w=r at h;unfold Oper.upon at h ⊢;split at h<;>first
     |(rw[hp];exact ih _ _ h)
     |exact h
     |(refine h.mono fun e w' h=> ?_
       cases e with
       |returned v=>show wpList P ops Q l ((apD D a).put o.dst v) w';rw[hp];exact ih _ _ h
       |panicked c=>exact h
       |outgrown=>obtain⟨a,w,h⟩:=h;exact⟨_,_,h⟩)
     |(refine h.mono fun v w' h=> ?_
       show wpList P ops Q l ((apD D a).put o.dst v) w';rw[hp];exact ih _ _ h)
     |(show wpList P ops Q l ((apD D {a with defers:=_::a.defers}).put o.dst undef) _
       rw[hp];exact ih _ _ h)
   ·obtain⟨a',w',h'⟩:=hl;exact .inr ⟨h,_,_,h'⟩
  ·rename_i hw;rw[if_neg hw]at h;rw[hp];exact ih _ _ h
def WCD(D:List Deferred)(P:Program)(n:Nat)(c:Code)(Q:Exit→Act→World→Prop)(E:Env)(w:World):Prop:=∀a,Ok n E a→c.wp P Q (apD D a) w
section
variable{P:Program}{n:Nat}{Q:Exit→Act→World→Prop}{E:Env}{w:World}{D:List Deferred}{ops:Array Oper}
theorem srD{id:Nat}{l l':List Oper}{y:Code}(h:∀K:Act→World→Prop,(∀E w,WCD D P n y Q E w→WK n K E w)→WL P n l.toArray (Exit.then K (fun e a w=>Q e (apD D a) w)) l' E w)(hl:l=l':=by exact rfl):WCD D P n (.seq (.region id l.toArray false) y) Q E w:=by
 subst hl;intro a ha;refine wp_seq (wp_region_lit (wpList_ap l a w ?_));have t:=h (fun a w=>y.wp P Q (apD D a) w) (fun E w hc a ha=>hc a ha) a ha;have e:(fun e a w=>Exit.then (fun a w=>y.wp P Q a w) Q e (apD D a) w)=Exit.then (fun a w=>y.wp P Q (apD D a) w) (fun e a w=>Q e (apD D a) w):=by
  funext e a w;cases e<;>rfl
 rw[e];exact t
theorem nkD{y:Code}{Q':Exit→Act→World→Prop}{K:Act→World→Prop}{E':Env}(k:∀E w,WCD D P n y Q E w→WK n K E w)(ks:List Nat)(h:WCD D P n y Q E' w)(hs:Sb E ks E':=by repeat (first|exact Sb.nil|(apply Sb.cons;exact rfl))):WL P n ops (Exit.then K Q') [] E w:=
 WL.nil (WK.then_normal (k _ _ fun a ha=>h a (ha.sub hs.sub)))
theorem sbD{c:Code}{E':Env}(ks:List Nat)(h:WCD D P n c Q E' w)(hs:Sb E ks E':=by repeat (first|exact Sb.nil|(apply Sb.cons;exact rfl))):WCD D P n c Q E w:=fun a ha=>h a (ha.sub hs.sub)
theorem seqD{x y:Code}(h:WCD D P n x (Exit.then (fun a w=>y.wp P Q a w) Q) E w):WCD D P n (.seq x y) Q E w:=fun a ha=>wp_seq (h a ha)
theorem condFD{c:Operand}{x y:Code}(h:WCD D P n y Q E w)(hc:ev E c=some (.bool false):=by exact rfl):WCD D P n (.cond c x y) Q E w:=fun a ha=>wp_cond_false (show a.eval c=_ from ha.ev hc) (h a ha)
theorem skipD{y:Code}(h:WCD D P n y Q E w):WCD D P n .skip (Exit.then (fun a w=>y.wp P Q a w) Q) E w:=fun a ha=>wp_skip (h a ha)
theorem srK{id:Nat}{l l':List Oper}{y:Code}(h:WL P n l.toArray (Exit.then (fun a w=>y.wp P Q a w) Q) l' E w)(hl:l=l':=by exact rfl):WC P n (.seq (.region id l.toArray false) y) Q E w:=by
 subst hl;exact fun a ha=>wp_seq (wp_region_lit (h a ha))
theorem deD{o:Oper}{y:Code}{x:Operand}{f:FuncId}{E':Env}{cs:List Value}{ty:Array TypeId}(ks:List Nat)
  (h:WCD [{target:=.fn (.func f) cs.toArray,args:= #[]}] P n y Q E' w)
  (ho:o.op= .defer {callee:=.value x,args:= #[],argTypes:=ty}:=by exact rfl) (hx:ev E x=some (.func (.func f) #[] cs.toArray):=by exact rfl) (hd:o.dst=none:=by exact rfl) (hg:o.guard=none:=by exact rfl)
  (hs:Sb E ks E':=by repeat (first|exact Sb.nil|(apply Sb.cons;exact rfl))):WL P n ops (Exit.then (fun a w=>y.wp P Q a w) Q) [o] E w:=by
 intro a ha;have hs':(execOp a.eval o).run P w= .ok (.defer {target:=.fn (.func f) cs.toArray,args:= #[]}) w:=by
  simp[execOp,ho,resolve,ha.ev hx,Deferred.ofValue]
 refine wpList_plain hg fun K hK=> ?_;unfold Oper.wp;rw[hs'];show K (({a with defers:=_::a.defers}:Act).put o.dst undef) w;rw[hd];refine hK _ _ ?_;have t:=h a (ha.sub hs.sub);show y.wp P Q {a with defers:=_::a.defers} w;rw[ha.defers];unfold apD at t;rw[ha.defers]at t;exact t
theorem retD{fn:Func}{R:Ending→World→Prop}{rs:List ResultVar}{f:FuncId}{cs:List Value}(vs:List Value)(hr:fn.results=rs.toArray)(h:resOk P w E rs vs)(hR:R (.returned (resVal vs)) w)
  (hf:Has P f) (hc:CallsD P f cs.toArray .returning w fun e u' w'=>(∃v,e= .returned v)∧u'= .returning∧w'=w):
  WCD [{target:=.fn (.func f) cs.toArray,args:= #[]}] P n .ret (bodyPostD P fn R) E w:=by
 intro a ha;refine wp_ret ?_;show Leaves P fn (apD _ a).tmps R (apD _ a).defers .returning w;rw[show(apD [{target:=.fn (.func f) cs.toArray,args:= #[]}] a).defers=[{target:=.fn (.func f) cs.toArray,args:= #[]}]from by simp[apD,ha.defers]];refine leaves_cons (by simp) (by show(callFunc f (#[]++cs.toArray)).run P w=_;rw[Array.empty_append];exact run_callFunc hf _ _) (hc.mono ?_);rintro e u' w' ⟨⟨v,rfl⟩,rfl,rfl⟩;exact⟨_,run_results ha hr h,hR⟩
theorem jS{x y:Code}{Es:Env}(ks:List Nat)(I:Env→World→Prop)(h1:WC P n x (fun e a w'=>e= .normal∧∃Ed,I Ed w'∧Ok n (Ed++Es) a) E w)(h2:∀Ed w',I Ed w'→WC P n y Q (Ed++Es) w')
  (_hs:Sb E ks Es:=by repeat (first|exact Sb.nil|(apply Sb.cons;exact rfl))):WC P n (.seq x y) Q E w:=by
 intro a ha;refine wp_seq (wp_mono (h1 a ha) fun e a w h=> ?_);obtain⟨rfl,Ed,hI,hok⟩:=h;exact h2 Ed w hI a hok
theorem calls_of_WCD{f:FuncId}{fn:Func}{c:Code}{args:List Value}{R:Ending→World→Prop}(hf:P.funcs[f]? =some fn)(hb:fn.body=some c)(hn:fn.ntmps=n)(hl:args.length≤n)
  (h:WC P n c (bodyPostD P fn R) (params 0 args) w):Calls P f args.toArray w R:=by
 refine calls_of_wp_defers hf hb ?_;rw[hn];exact h _ (ok_params args hl)
end
end Go.Eng
section
attribute [local irreducible] Go.Eng.WC Go.Eng.WL Go.Eng.WK Go.Eng.WQ Go.Eng.WX Go.Eng.Yld
namespace Go.Proofs.YtaclfjjipnpboaaGreatDoor
open Go Go.Eng Go.RowKit
namespace TW
theorem idle56(a b c:Value)(w:World):CallsD Tryz.prog 56 #[a,b,c] .returning w fun e u' w'=>(∃v,e= .returned v)∧u'= .returning∧w'=w:=by
 refine callsD_of_wpS Tryz.func56 rfl fun c₀ cs hu=> ?_;apply wpS_seq;apply wpS_region;simp[wpOpsS,go_sem,recoverD,hu,Tryz.ntmps56,Exit.thenS];apply wpS_seq;apply wpS_region;simp[wpOpsS,go_sem,Exit.thenS];refine wpS_cond (t:=false) (by simp[Act.eval,Array.replicate]) ?_;simp only[Bool.false_eq_true,if_false];refine wpS_of_wp (wp_skip ?_);cases c₀;simp_all [bodyPostS,results,Tryz.results56]
theorem Parse_any(u:J)(W:World)(R:List Res)(w:World)(H:Hp W w R)(hT:Tabs W)(vd:Vd 16 u)(hz:(pr u).length≤65536):
  Calls Tryz.prog 18 #[.string ⟨(pr u).toArray⟩] w fun e w'=>∃y,e= .returned (.tuple #[.agg #[.int .i64 y.op,.int .i64 y.n,.string y.s,.slice y.A y.k y.c,.slice y.B y.m y.d],.int .i64 0,.int .i64 0])∧Sj y u∧Hp W w' (jR y::R):=by
 have ha:At ⟨(pr u).toArray⟩ 0 (pr u) []:=by simp[At]
 have hs:(⟨(pr u).toArray⟩:ByteArray).size=(pr u).length:=rfl;have he:hF ⟨(pr u).toArray⟩ (0+(pr u).length)=0:=if_neg Om;refine calls_of_WCD (args:=[.string ⟨(pr u).toArray⟩]) Tryz.func18 rfl rfl (ble rfl) ?_;refine go ?_;refine al H ti66 fun g3 z H=> ?_;refine al H ti3 fun g5 z H=> ?_;refine al H ti32 fun g7 z H=> ?_;refine G4 ?_;refine yy (Y.lenStr rfl rfl rfl u9 rfl) ?_;refine yy (Yld.cast (Y.gtr rfl rfl rfl) (bf Om)) ?_;refine go ?_;refine WC.condF rfl ?_;refine G2 ?_;refine srK ?_;refine yy (Y.func rfl rfl rfl) ?_;refine deD [0,2,3,4] ?_;refine srD fun K12 k12=> ?_;refine go ?_;refine bx H fun g13 z H=> ?_;refine G1 ?_;refine nkD k12 [0,2,3,4,5] ?_;refine srD fun K15 k15=> ?_;refine go ?_;refine c3 Fh (value_any u _ ⟨(pr u).toArray⟩ 0 1 16 [] _ _ _ (H.front [0]) hT Om vd Dc ha (fun c t h=>by cases h)) ?_;rintro _ z ⟨y16,rfl,h17,H⟩;refine⟨_,rfl,?_⟩;refine st H 4 ti66 fun z H=> ?_;refine nkD k15 [0,2,3,4,5] ?_;refine seqD ?_;refine srD fun K20 k20=> ?_;refine go ?_;refine c1 H Fh (peek_any _ ⟨(pr u).toArray⟩ (0+(pr u).length) _ (H.b 1) Om (fun _=>by omega)) fun z H=> ?_;refine yy (Yld.cast (Y.neq rfl rfl rfl) (vb (by rw[he]))) ?_;refine G6 ?_;refine WL.yldW rfl (blt rfl) rfl rfl rfl (Y.lenStr rfl rfl rfl u9 rfl) ?_;refine WL.yldW rfl (blt rfl) rfl rfl rfl (Yld.cast (Y.lss rfl rfl rfl) (bf Om)) ?_;refine yy (Y.pickF rfl rfl rfl) ?_;refine nkD k20 [2,3,4,5,27] ?_;refine condFD ?_;refine skipD ?_;refine sbD [2,3,4] ?_;refine srD fun K21 k21=> ?_;refine go ?_;refine st H 4 ti66 fun z H=> ?_;refine st H 3 ti3 fun z H=> ?_;refine st H 2 ti32 fun z H=> ?_;refine nkD k21 [2,3,4] ?_;refine retD (f:=56) (cs:=[_,_,_]) [_,_,_] rfl ⟨⟨_,rfl,run_loadVar_blk u66 rfl ti66 (H.b 4)⟩,⟨_,rfl,run_loadVar_one u3 rfl (Blk.at_eq (H.b 3) rfl _ rfl)⟩,⟨_,rfl,run_loadVar_one u32 rfl (Blk.at_eq (H.b 2) rfl _ rfl)⟩,trivial⟩ ?_ ⟨_,Tryz.func56,rfl,by kernel_rfl⟩ (idle56 _ _ _ _);exact⟨_,rfl,h17,(H.drop [1,1,1,1])⟩
structure Cf where(ph:ByteArray)(kd:Int)(nm:Bool)(fn fm:ByteArray)(hs:Bool)
instance:Inhabited Cf:=⟨⟨⟨#[]⟩,0,false,⟨#[]⟩,⟨#[]⟩,false⟩⟩
def Cf.c(x:Cf):List Value:=[.string x.ph,.int .i64 x.kd,.bool x.nm,.string x.fn,.string x.fm,.bool x.hs]
def cfL:List Cf:=
 [⟨⟨#[66]⟩,1,true,⟨#[]⟩,⟨#[]⟩,false⟩,
  ⟨⟨#[69]⟩,2,false,⟨#[]⟩,⟨#[]⟩,false⟩,
  ⟨⟨#[105]⟩,3,true,⟨#[]⟩,⟨#[]⟩,false⟩,
  ⟨⟨#[67]⟩,4,true,⟨#[118,97,108,117,101]⟩,⟨#[]⟩,false⟩,
  ⟨⟨#[80]⟩,5,false,⟨#[119,101,105,103,104,116]⟩,⟨#[]⟩,true⟩,
  ⟨⟨#[115]⟩,6,false,⟨#[105,100]⟩,⟨#[]⟩,false⟩,
  ⟨⟨#[102]⟩,7,false,⟨#[105,100]⟩,⟨#[]⟩,false⟩,
  ⟨⟨#[82]⟩,8,false,⟨#[99,112,117]⟩,⟨#[]⟩,false⟩,
  ⟨⟨#[83]⟩,9,false,⟨#[115,116,97,116,101]⟩,⟨#[111,110]⟩,false⟩,
  ⟨⟨#[87]⟩,10,false,⟨#[119,97,107,101,115]⟩,⟨#[]⟩,false⟩,
  ⟨⟨#[78]⟩,11,false,⟨#[105,100]⟩,⟨#[115,105,122,101]⟩,true⟩,
  ⟨⟨#[68]⟩,12,false,⟨#[105,100]⟩,⟨#[]⟩,false⟩]
def kA(f:Cf):List ByteArray:=[⟨#[112,104]⟩,⟨#[116,105,100]⟩]++if f.nm=true then[⟨#[110,97,109,101]⟩]else[]
def kB(f:Cf):List ByteArray:=kA f++[⟨#[116,115]⟩]
def kC(f:Cf):List ByteArray:=kB f++if f.fn=⟨#[]⟩then[]else[f.fn]
def keysF(f:Cf)(on:Bool):List ByteArray:=
 if f.ph=⟨#[80]⟩then kB f++[⟨#[115,116,97,99,107]⟩,⟨#[119,101,105,103,104,116]⟩]
 else if f.ph=⟨#[78]⟩then kB f++[⟨#[105,100]⟩,⟨#[115,105,122,101]⟩,⟨#[115,116,97,99,107]⟩]
 else kC f++if f.fm≠⟨#[]⟩∧on=true then[f.fm]else[]
theorem kA_t{f:Cf}(h:f.nm=true):kA f=[⟨#[112,104]⟩,⟨#[116,105,100]⟩]++[⟨#[110,97,109,101]⟩]:=by unfold kA;rw[if_pos h]
theorem kA_f{f:Cf}(h:f.nm=false):kA f=[⟨#[112,104]⟩,⟨#[116,105,100]⟩]:=by unfold kA;rw[if_neg (by rw[h];decide)];rfl
theorem kC_t{f:Cf}(h:f.fn≠⟨#[]⟩):kC f=kA f++[⟨#[116,115]⟩]++[f.fn]:=by unfold kC;rw[if_neg h];rfl
theorem kC_f{f:Cf}(h:f.fn=⟨#[]⟩):kC f=kA f++[⟨#[116,115]⟩]:=by unfold kC;rw[if_pos h];exact List.append_nil _
theorem kA_len(f:Cf):(kA f).length≤3:=by unfold kA;split<;>decide
theorem kC_len(f:Cf):(kC f).length≤5:=by
 have:=kA_len f;unfold kC kB;simp only[List.length_append,List.length_cons,List.length_nil];split<;>simp only[List.length_cons,List.length_nil]<;>omega
def valF(f:Cf)(i:Int)(x:Ev)(k:ByteArray):J:=
 if k=⟨#[112,104]⟩then j0 4 0 f.ph else if k=⟨#[116,105,100]⟩then j0 3 i ⟨#[]⟩else if k=⟨#[110,97,109,101]⟩then j0 4 0 x.nm
 else if k=⟨#[116,115]⟩then j0 3 x.at_ ⟨#[]⟩else if k=⟨#[115,116,97,99,107]⟩then .mk 5 0 ⟨#[]⟩ none 0 0 [] none 0 0 (x.st.map fun s=>j0 4 0 s)
 else if k=f.fn then j0 3 x.n ⟨#[]⟩else j0 3 x.m ⟨#[]⟩
def cfE(x:Ev):Cf:=cfL[(x.kd-1).toNat]!
def onE(x:Ev):Bool:= !(cfE x).ph==⟨#[83]⟩||x.n==2
def wrK(x:Ev):List ByteArray:=keysF (cfE x) (onE x)
theorem kB_len(f:Cf):(kB f).length≤4:=by
 have:=kA_len f;unfold kB;simp only[List.length_append,List.length_cons,List.length_nil];omega
theorem wrK_len(x:Ev):(wrK x).length≤7:=by
 have:=kC_len (cfE x);have:=kB_len (cfE x);unfold wrK keysF;split
 ·simp only[List.length_append,List.length_cons,List.length_nil];omega
 ·split
  ·simp only[List.length_append,List.length_cons,List.length_nil];omega
  ·rw[List.length_append];split<;>simp only[List.length_cons,List.length_nil]<;>omega
def wrJ(i:Int)(x:Ev):J:=.mk 6 0 ⟨#[]⟩ none 0 0 (wrK x) none 0 0 ((wrK x).map (valF (cfE x) i x))
structure Gap where(th sr n:Int)
instance:Inhabited Gap:=⟨⟨0,0,0⟩⟩
def Gap.c(x:Gap):List Value:=[.int .i64 x.th,.int .i64 x.sr,.int .i64 x.n]
theorem Gap.one(x:Gap):∀u∈x.c,u.oneCell'=true:=by simp[Gap.c,Value.oneCell']
def gapN(p:List Pk)(j:Nat):List Gap:=((p.take j).filter fun x=>decide (x.ls>0)).map fun x=>⟨x.th,x.sr-x.ls,x.ls⟩
theorem gapN_s{p:List Pk}{j:Nat}(h:j<p.length):gapN p (j+1)=gapN p j++if p[j]!.ls>0 then[⟨p[j]!.th,p[j]!.sr-p[j]!.ls,p[j]!.ls⟩]else[]:=by
 unfold gapN;rw[take_bang h,List.filter_append,List.map_append]
 congr 1
 by_cases q:p[j]!.ls>0
 ·rw[if_pos q,List.filter_cons_of_pos (by simpa using q)];rfl
 ·rw[if_neg q,List.filter_cons_of_neg (by simpa using q)];rfl
theorem gapN_t{p:List Pk}{j:Nat}(h:j<p.length)(q:p[j]!.ls>0):gapN p (j+1)=gapN p j++[⟨p[j]!.th,p[j]!.sr-p[j]!.ls,p[j]!.ls⟩]:=by rw[gapN_s h,if_pos q]
theorem gapN_f{p:List Pk}{j:Nat}(h:j<p.length)(q:¬p[j]!.ls>0):gapN p (j+1)=gapN p j:=by rw[gapN_s h,if_neg q,List.append_nil]
theorem gapN_len(p:List Pk)(j:Nat):(gapN p j).length≤j:=by
 unfold gapN;rw[List.length_map];exact Nat.le_trans (List.length_filter_le _ _) (by rw[List.length_take];omega)
theorem gap_no{p:List Pk}(h:gapN p p.length=[]):∀x∈p,x.ls≤0:=by
 intro x hx;unfold gapN at h;rw[List.take_length,List.map_eq_nil_iff,List.filter_eq_nil_iff]at h;have:=h x hx;simpa using this
def mtJ(t:Th):J:=.mk 6 0 ⟨#[]⟩ none 0 0 [⟨#[112,104]⟩,⟨#[116,105,100]⟩,⟨#[110,97,109,101]⟩] none 0 0 [j0 4 0 ⟨#[77]⟩,j0 3 t.id ⟨#[]⟩,j0 4 0 t.nm]
def pkJ(p:Pk):List J:=p.es.map (wrJ p.th)
def allJ(t:List Th)(p:List Pk):J:=.mk 5 0 ⟨#[]⟩ none 0 0 [] none 0 0 (t.map mtJ++p.flatMap pkJ)
theorem wr_stk(l:List ByteArray)(A:Option Addr)(n c:Nat):Sj (.mk 5 0 ⟨#[]⟩ none 0 0 [] A n c (l.map fun s=>j0 4 0 s)) (.mk 5 0 ⟨#[]⟩ none 0 0 [] none 0 0 (l.map fun s=>j0 4 0 s)):=Sj.mk rfl rfl rfl rfl rfl
theorem Hp.j0s{W w:World}{L:List Res}(H:Hp W w L)(l:List ByteArray):Hp W w (big jL (l.map fun s=>j0 4 0 s)::L):=by
 have h:∀n,n≤l.length→Hp W w (big jL ((l.take n).map fun s=>j0 4 0 s)::L):=by
  intro n
  induction n with
  |zero=>exact fun _=>H.bigNil jL
  |succ n ih=>
   intro hn;rw[take_bang (show n<l.length from hn),List.map_append];exact Hp.bigPush jL _ (Hp_j0 (ih Om) 4 0 l[n]!)
 have:=h l.length Nl;rwa[List.take_length]at this
theorem ix_kd:∀k:Fin 12,ixP (fun f:Cf=>f.kd==((k.val:Nat):Int)+1) cfL=((k.val:Nat):Int):=by decide+kernel
theorem ixkd{k:Int}(h:1≤k∧k≤12):ixP (fun f:Cf=>f.kd==k) cfL=(((k-1).toNat:Nat):Int):=by
 have:=ix_kd ⟨(k-1).toNat,Om⟩;simp only at this;rw[show(((k-1).toNat:Nat):Int)+1=k from Om]at this;exact this
theorem chforms_any(W:World)(R:List Res)(w:World)(H:Hp W w R):
  Calls Tryz.prog 50 #[] w fun e w'=>∃v,e= .returned v∧Hp W w' (row 142 Cf.c 6 v cfL::R):=by
 refine Wb Tryz.func50 ?_;refine go ?_;refine bs (zs:=[.string ⟨#[]⟩,.int .i64 0,.bool false,.string ⟨#[]⟩,.string ⟨#[]⟩,.bool false,.string ⟨#[]⟩,.int .i64 0,.bool false,.string ⟨#[]⟩,.string ⟨#[]⟩,.bool false,.string ⟨#[]⟩,.int .i64 0,.bool false,.string ⟨#[]⟩,.string ⟨#[]⟩,.bool false,.string ⟨#[]⟩,.int .i64 0,.bool false,.string ⟨#[]⟩,.string ⟨#[]⟩,.bool false,.string ⟨#[]⟩,.int .i64 0,.bool false,.string ⟨#[]⟩,.string ⟨#[]⟩,.bool false,.string ⟨#[]⟩,.int .i64 0,.bool false,.string ⟨#[]⟩,.string ⟨#[]⟩,.bool false,.string ⟨#[]⟩,.int .i64 0,.bool false,.string ⟨#[]⟩,.string ⟨#[]⟩,.bool false,.string ⟨#[]⟩,.int .i64 0,.bool false,.string ⟨#[]⟩,.string ⟨#[]⟩,.bool false,.string ⟨#[]⟩,.int .i64 0,.bool false,.string ⟨#[]⟩,.string ⟨#[]⟩,.bool false,.string ⟨#[]⟩,.int .i64 0,.bool false,.string ⟨#[]⟩,.string ⟨#[]⟩,.bool false,.string ⟨#[]⟩,.int .i64 0,.bool false,.string ⟨#[]⟩,.string ⟨#[]⟩,.bool false,.string ⟨#[]⟩,.int .i64 0,.bool false,.string ⟨#[]⟩,.string ⟨#[]⟩,.bool false]) (cs:=[_,_,_,_,_,_,_,_,_,_,_,_,_,_,_,_,_,_,_,_,_,_,_,_,_,_,_,_,_,_,_,_,_,_,_,_,_,_,_,_,_,_,_,_,_,_,_,_,_,_,_,_,_,_,_,_,_,_,_,_,_,_,_,_,_,_,_,_,_,_,_,_]) H u140 ti142 fun g4 z H=> ?_;refine go ?_;refine Rt [_] ?_;exact⟨_,rfl,boxRow (f:=Cf.c) (sz:=6) (l:=cfL) H 12 rfl rfl rfl Dc⟩
theorem ixfC_any(A_l:Option Addr)(n_l c_l:Nat)(l:List Cf)(f:FuncId)(cap:List Value)(pr:Cf→Bool)(w:World)(h_l:Ls w A_l n_l c_l Cf.c 6 l)(hF:Has Tryz.prog f)(hp:∀k,k<l.length→∀w1,Ext w w1→Calls Tryz.prog f ([]++[Value.agg (Cf.c l[k]!).toArray]++cap).toArray w1 fun e w2=>e= .returned (.bool (pr l[k]!))∧Ext w1 w2):
  Cr 49 #[.slice A_l n_l c_l,.func (.func f) #[] cap.toArray] w (.int .i64 (ixP pr l)):=by
 have H:=(Hp.nil w);have e_l:=h_l.len;have z_l:=h_l.nle;refine Wb Tryz.func49 ?_;refine go ?_;refine sb [8,0,1,7] ?_;refine WC.loopS 1 (fun mz Ed W'=>∃j:Nat,mz=n_l-j∧Ed=[(8,.int .i64 ((j:Nat):Int))]∧Hp w W' ([])∧(j≤n_l)∧(∀k,k<j→pr l[k]! =false)) _ ⟨0,rfl,rfl,(H.pick []),(Nat.zero_le _),(fun k h=>absurd h (Nat.not_lt_zero k))⟩ ?_;rintro _ _ z ⟨j,rfl,rfl,H,jl,hb⟩;refine go ?_;refine Cd (fun p6=> ?_) fun p6=> ?_
 ·have b10:j<n_l:=Om;refine go ?_;refine c1V rfl H hF (hp j Om _ H.ext) fun z H=> ?_;refine go ?_;refine WC.cond rfl (fun h11=> ?_) (fun h11=> ?_)
  ·refine go ?_;refine Rt [_] ?_;exact⟨ret1 (vi (ixP_at Om hb h11).symm),H.ext⟩
  ·refine go ?_;exact Rs [(8,_)] Sx ⟨(j+1),rfl,rfl,(H.pick []),Om,(fun k h=>(Nat.lt_succ_iff_lt_or_eq.1 h).elim (hb k) fun e=>e▸h11)⟩
 ·refine go ?_;refine Rt [_] ?_;exact⟨ret1 (vi (ixP_no (fun k hk=>hb k Om)).symm),H.ext⟩
theorem chtext_any(s:ByteArray)(w:World):
  Cr 14 #[.string s] w (.agg #[.int .i64 4,.int .i64 0,.string s,.slice none 0 0,.slice none 0 0]):=by
 have H:=(Hp.nil w);refine Wb Tryz.func14 ?_;refine go ?_;refine al H ti66 fun g2 z H=> ?_;refine go ?_;refine st H 0 ti66 fun z H=> ?_;refine G1 ?_;refine sb [2] ?_;refine go ?_;refine WK.ret [_] rfl ⟨⟨_,rfl,run_loadVar_blk u66 rfl ti66 (H.b 0)⟩,trivial⟩ ?_;exact⟨rfl,H.ext⟩
theorem chnum_any(n:Int)(w:World):
  Cr 15 #[.int .i64 n] w (.agg #[.int .i64 3,.int .i64 n,.string ⟨#[]⟩,.slice none 0 0,.slice none 0 0]):=by
 have H:=(Hp.nil w);refine Wb Tryz.func15 ?_;refine go ?_;refine al H ti66 fun g2 z H=> ?_;refine go ?_;refine st H 0 ti66 fun z H=> ?_;refine go ?_;refine WK.ret [_] rfl ⟨⟨_,rfl,run_loadVar_blk u66 rfl ti66 (H.b 0)⟩,trivial⟩ ?_;exact⟨rfl,H.ext⟩
theorem wr1_any(f:Cf)(g:Nat)(x:Ev)(w:World)(hg:Blk w g 73 [.int .i64 x.at_,.int .i64 x.kd,.string x.nm,.int .i64 x.n,.int .i64 x.m,.slice x.A x.k x.c_]):
  Cr 51 #[.agg #[.string f.ph,.int .i64 f.kd,.bool f.nm,.string f.fn,.string f.fm,.bool f.hs],.pointer (some ⟨g,0,none⟩)] w (.bool (f.kd==x.kd)):=by
 have H:=(Hp.nil w);refine Wb Tryz.func51 ?_;refine go ?_;refine bx H fun g2 z H=> ?_;refine go ?_;refine Rt [_] ?_;exact⟨rfl,H.ext⟩
theorem ev1_any(f:Cf)(g:Nat)(s:ByteArray)(w:World)(hg:Blk w g 9 [.string s]):
  Cr 111 #[.agg #[.string f.ph,.int .i64 f.kd,.bool f.nm,.string f.fn,.string f.fm,.bool f.hs],.pointer (some ⟨g,0,none⟩)] w (.bool (f.ph==s)):=by
 have H:=(Hp.nil w);refine Wb Tryz.func111 ?_;refine go ?_;refine bx H fun g2 z H=> ?_;refine go ?_;refine Rt [_] ?_;exact⟨rfl,H.ext⟩
theorem keys_any(f:Cf)(on:Bool)(W:World)(R:List Res)(w:World)(H:Hp W w R):
  Calls Tryz.prog 52 #[.agg #[.string f.ph,.int .i64 f.kd,.bool f.nm,.string f.fn,.string f.fm,.bool f.hs],.bool on] w fun e w'=>∃v,e= .returned v∧Hp W w' (row 9 sc 1 v (keysF f on)::R):=by
 refine Wb Tryz.func52 ?_;refine go ?_;refine bx H fun g3 z H=> ?_;refine go ?_;refine bs (zs:=[.string ⟨#[]⟩,.string ⟨#[]⟩]) (cs:=[_,_]) H u63 ti9 fun g6 z H=> ?_;have H:=boxRow (f:=sc) (sz:=1) (l:=[⟨#[112,104]⟩,⟨#[116,105,100]⟩]) (H.front [0]) 2 rfl rfl rfl Dc;refine G2 ?_;refine jS [1,2] (fun Ed w'=>∃v8:Value,Ed=[(5,v8)]∧Hp W w' (row 9 sc 1 v8 (kA f)::box g3 142 (Cf.c f)::R)) ?_ ?_
 ·refine G4 ?_;refine sb [1,2,5,8] ?_;refine WC.cond rfl (fun h10=> ?_) (fun h10=> ?_)
  ·refine go ?_;refine bs1 H u63 ti9 fun g11 z H=> ?_;refine ap H 1 0 rfl [⟨#[110,97,109,101]⟩] u63 ti9 rfl sc_one (by have:=kA_len f;have:=kC_len f;simp only[List.length_append,List.length_cons,List.length_nil];omega) fun v13 z H=> ?_;refine G2 ?_;exact kI [(5,_)] Sx ⟨_,rfl,(by rw[kA_t h10];exact(H.drop [0]))⟩
  ·refine G1 ?_;exact kI [(5,_)] Sx ⟨_,rfl,(by rw[kA_f h10];exact H)⟩
 ·rintro _ z ⟨v8,rfl,H⟩;refine go ?_;refine bs1 H u63 ti9 fun g15 z H=> ?_;refine ap H 1 0 rfl [⟨#[116,115]⟩] u63 ti9 rfl sc_one (by have:=kA_len f;have:=kC_len f;simp only[List.length_append,List.length_cons,List.length_nil];omega) fun v17 z H=> ?_;refine go ?_;refine Cd (fun p21=> ?_) fun p21=> ?_
  ·refine go ?_;refine bs (zs:=[.string ⟨#[]⟩,.string ⟨#[]⟩]) (cs:=[_,_]) H u63 ti9 fun g23 z H=> ?_;refine ap H 2 0 rfl [⟨#[115,116,97,99,107]⟩,⟨#[119,101,105,103,104,116]⟩] u63 ti9 rfl sc_one (by have:=kA_len f;have:=kC_len f;simp only[List.length_append,List.length_cons,List.length_nil];omega) fun v25 z H=> ?_;refine go ?_;refine Rt [_] ?_;exact⟨_,rfl,(by rw[show keysF f on=(((kA f)++[⟨#[116,115]⟩])++[⟨#[115,116,97,99,107]⟩,⟨#[119,101,105,103,104,116]⟩])from(if_pos p21)];exact(H.drop [0,0,1]))⟩
  ·refine go ?_;refine Cd (fun p27=> ?_) fun p27=> ?_
   ·refine go ?_;refine bs (zs:=[.string ⟨#[]⟩,.string ⟨#[]⟩,.string ⟨#[]⟩]) (cs:=[_,_,_]) H u63 ti9 fun g29 z H=> ?_;refine ap H 2 0 rfl [⟨#[105,100]⟩,⟨#[115,105,122,101]⟩,⟨#[115,116,97,99,107]⟩] u63 ti9 rfl sc_one (by have:=kA_len f;have:=kC_len f;simp only[List.length_append,List.length_cons,List.length_nil];omega) fun v31 z H=> ?_;refine go ?_;refine Rt [_] ?_;exact⟨_,rfl,(by rw[show keysF f on=(((kA f)++[⟨#[116,115]⟩])++[⟨#[105,100]⟩,⟨#[115,105,122,101]⟩,⟨#[115,116,97,99,107]⟩])from((if_neg p21).trans (if_pos p27))];exact(H.drop [0,0,1]))⟩
   ·refine G3 ?_;have H:=(H.drop [0]);refine jS [1,2] (fun Ed w'=>∃v32:Value,Ed=[(5,v32)]∧Hp W w' (row 9 sc 1 v32 (kC f)::box g3 142 (Cf.c f)::R)) ?_ ?_
    ·refine G5 ?_;refine sb [1,2,5,29] ?_;refine Cd (fun p34=> ?_) fun p34=> ?_
     ·refine go ?_;refine bs1 H u63 ti9 fun g35 z H=> ?_;refine ap H 1 0 rfl [f.fn] u63 ti9 rfl sc_one (by have:=kA_len f;have:=kC_len f;simp only[List.length_append,List.length_cons,List.length_nil];omega) fun v37 z H=> ?_;refine G2 ?_;exact kI [(5,_)] Sx ⟨_,rfl,(by rw[kC_t p34];exact(H.drop [0]))⟩
     ·refine G1 ?_;exact kI [(5,_)] Sx ⟨_,rfl,(by rw[kC_f p34];exact H)⟩
    ·rintro _ z ⟨v32,rfl,H⟩;refine go ?_;refine WC.cond rfl (fun h40=> ?_) (fun h40=> ?_)
     ·have p40:=(beqB_ne.1 (not_t (and_t h40).1));refine go ?_;refine bs1 H u63 ti9 fun g41 z H=> ?_;refine ap H 1 0 rfl [f.fm] u63 ti9 rfl sc_one (by have:=kA_len f;have:=kC_len f;simp only[List.length_append,List.length_cons,List.length_nil];omega) fun v43 z H=> ?_;refine go ?_;refine Rt [_] ?_;exact⟨_,rfl,(by rw[show keysF f on=((kC f)++[f.fm])from((if_neg p21).trans ((if_neg p27).trans (congrArg (kC f++·) (if_pos ⟨p40,(and_t h40).2⟩))))];exact(H.drop [0,1]))⟩
     ·have p40:=((and_f h40).imp (fun h=>(beqB_eq.1 (not_f h))) (fun h=>h));refine go ?_;refine Rt [_] ?_;exact⟨_,rfl,(by rw[show keysF f on=(kC f)from((if_neg p21).trans ((if_neg p27).trans ((congrArg (kC f++·) (if_neg fun h=>p40.elim h.1 fun q=>by rw[q]at h;cases h.2)).trans (List.append_nil _))))];exact(H.drop [1]))⟩
theorem wrix_any(A:Option Addr)(n c g:Nat)(x:Ev)(w:World)(h:Ls w A n c Cf.c 6 cfL)(hg:Blk w g 73 [.int .i64 x.at_,.int .i64 x.kd,.string x.nm,.int .i64 x.n,.int .i64 x.m,.slice x.A x.k x.c_])(hk:1≤x.kd∧x.kd≤12):
  Cr 49 #[.slice A n c,.func (.func 51) #[] #[.pointer (some ⟨g,0,none⟩)]] w (.int .i64 (((x.kd-1).toNat:Nat):Int)):=
 (ixfC_any A n c cfL 51 [.pointer (some ⟨g,0,none⟩)] (fun f=>f.kd==x.kd) w h Fh (fun k _ w1 x1=>wr1_any cfL[k]! g x w1 (Blk.ext hg x1))).mono fun e w' ⟨he,xw⟩=>⟨he.trans (ret1 (vi (ixkd hk))),xw⟩
theorem written_any(i:Int)(u:Ev)(W:World)(R:List Res)(w:World)(H:Hp W w R)(h_x:Ls W u.A u.k u.c_ sc 1 u.st)(hk:1≤u.kd∧u.kd≤12)(hs:u.st.length≤32):
  Calls Tryz.prog 16 #[.int .i64 i,.agg #[.int .i64 u.at_,.int .i64 u.kd,.string u.nm,.int .i64 u.n,.int .i64 u.m,.slice u.A u.k u.c_]] w fun e w'=>∃y,e= .returned (.agg #[.int .i64 y.op,.int .i64 y.n,.string y.s,.slice y.A y.k y.c,.slice y.B y.m y.d])∧Sj y (wrJ i u)∧Hp W w' (jR y::R):=by
 have e_x:=h_x.len;have z_x:=h_x.nle;have cl:cfL.length=12:=rfl;have kl:=wrK_len u;refine Wb Tryz.func16 ?_;refine go ?_;refine bx H fun g3 z H=> ?_;refine al H ti66 fun g5 z H=> ?_;refine go ?_;refine c3 Fh (chforms_any _ _ _ (H.front [])) ?_;rintro _ z ⟨v8,rfl,H⟩;refine⟨_,rfl,?_⟩;refine yy (Y.func rfl rfl rfl) ?_;obtain⟨A10,n11,c12,rfl,_,_,_⟩:=H.op 0;refine c1 H Fh (wrix_any _ _ _ g3 u _ (H.l 0) (H.b 2) hk) fun z H=> ?_;refine go ?_;refine c3 Fh (chforms_any _ _ _ (H.front [])) ?_;rintro _ z ⟨v14,rfl,H⟩;refine⟨_,rfl,?_⟩;obtain⟨A16,n17,c18,rfl,_,_,_⟩:=H.op 0;have b19:(u.kd-1).toNat<n17:=Om;refine G1 ?_;refine yy (Y.indexLs (u.kd-1).toNat (H.l 0) rfl u140 ti142 rfl rfl Om b19) ?_;refine go ?_;refine al H ti142 fun g20 z H=> ?_;refine st H 0 ti142 fun z H=> ?_;refine go ?_;refine c3 Fh (keys_any (cfE u) (onE u) _ _ _ (H.front [])) ?_;rintro _ z ⟨v23,rfl,H⟩;refine⟨_,rfl,?_⟩;obtain⟨A25,n26,c27,rfl,e_n26,_,_⟩:=H.op 0;refine go ?_;refine al H ti66 fun g28 z H=> ?_;refine st H 0 ti66 fun z H=> ?_;refine G9 ?_;have H:=(H.drop [3,3]);have H:=H.nilRow 66 J.v 5;have H:=H.bigNil jL;refine sb [34,0,3,4,6,7,32,33] ?_;refine WC.loopS 1 (fun mz Ed W'=>∃k:Nat,∃ys:List J,∃v:Value,mz=n26-k∧Ed=[(34,.int .i64 ((k:Nat):Int))]∧Hp W W' (big jL ys::row 66 J.v 5 v ys::box g28 66 [.int .i64 6,.int .i64 0,.string ⟨#[]⟩,(.slice A25 n26 c27),v]::_::_::_::_::R)∧(k≤n26)∧(ys.map er=((wrK u).take k).map fun a=>er (valF (cfE u) i u a))) _ ⟨0,[],_,rfl,rfl,H,(Nat.zero_le _),rfl⟩ ?_;rintro _ _ z ⟨k,ys,v,rfl,rfl,H,kl,hy⟩;have e_w:(wrK u).length=n26:=e_n26;refine go ?_;refine Cd (fun p36=> ?_) fun p36=> ?_
 ·have b39:k<n26:=Om;refine G9 ?_;refine sb [0,3,4,6,7,9,32,33,34] ?_;refine G1 ?_;refine al H ti66 fun g41 z H=> ?_;refine G1 ?_;refine jI (fun Ed w'=>∃y43:J,Ed=[]∧Hp W w' (jR y43::box g41 66 [.int .i64 y43.op,.int .i64 y43.n,.string y43.s,.slice y43.A y43.k y43.c,.slice y43.B y43.m y43.d]::big jL ys::row 66 J.v 5 v ys::box g28 66 [.int .i64 6,.int .i64 0,.string ⟨#[]⟩,(.slice A25 n26 c27),v]::row 9 sc 1 (.slice A25 n26 c27) (wrK u)::box g20 142 (Cf.c (cfE u))::box g5 66 [.int .i64 0,.int .i64 0,.string ⟨#[]⟩,.slice none 0 0,.slice none 0 0]::box g3 73 [.int .i64 u.at_,.int .i64 u.kd,.string u.nm,.int .i64 u.n,.int .i64 u.m,.slice u.A u.k u.c_]::R)∧(Sj y43 (valF (cfE u) i u (wrK u)[k]!))) ?_ ?_
  ·refine go ?_;refine Cd (fun p47=> ?_) fun p47=> ?_
   ·refine go ?_;refine c1 H Fh (chtext_any _ _) fun z H=> ?_;refine st H 0 ti66 fun z H=> ?_;have H:=Hp_j0 H 4 0 (cfE u).ph;refine G2 ?_;exact kI [] Sx ⟨(j0 4 0 (cfE u).ph),rfl,H,(congrArg er (show j0 4 0 (cfE u).ph=valF (cfE u) i u (wrK u)[k]! from(if_pos p47).symm))⟩
   ·refine go ?_;refine Cd (fun p49=> ?_) fun p49=> ?_
    ·refine go ?_;refine c1 H Fh (chnum_any _ _) fun z H=> ?_;refine st H 0 ti66 fun z H=> ?_;have H:=Hp_j0 H 3 i ⟨#[]⟩;refine G2 ?_;exact kI [] Sx ⟨(j0 3 i ⟨#[]⟩),rfl,H,(congrArg er (show j0 3 i ⟨#[]⟩=valF (cfE u) i u (wrK u)[k]! from((if_neg p47).trans (if_pos p49)).symm))⟩
    ·refine go ?_;refine Cd (fun p51=> ?_) fun p51=> ?_
     ·refine go ?_;refine c1 H Fh (chtext_any _ _) fun z H=> ?_;refine st H 0 ti66 fun z H=> ?_;have H:=Hp_j0 H 4 0 u.nm;refine G2 ?_;exact kI [] Sx ⟨(j0 4 0 u.nm),rfl,H,(congrArg er (show j0 4 0 u.nm=valF (cfE u) i u (wrK u)[k]! from((if_neg p47).trans ((if_neg p49).trans (if_pos p51))).symm))⟩
     ·refine go ?_;refine Cd (fun p53=> ?_) fun p53=> ?_
      ·refine go ?_;refine c1 H Fh (chnum_any _ _) fun z H=> ?_;refine st H 0 ti66 fun z H=> ?_;have H:=Hp_j0 H 3 u.at_ ⟨#[]⟩;refine G2 ?_;exact kI [] Sx ⟨(j0 3 u.at_ ⟨#[]⟩),rfl,H,(congrArg er (show j0 3 u.at_ ⟨#[]⟩=valF (cfE u) i u (wrK u)[k]! from((if_neg p47).trans ((if_neg p49).trans ((if_neg p51).trans (if_pos p53)))).symm))⟩
      ·refine G4 ?_;refine sb [0,3,4,6,7,9,10,32,33,34,38,61] ?_;refine Cd (fun p55=> ?_) fun p55=> ?_
       ·refine go ?_;refine st H 0 ti66 fun z H=> ?_;have H:=H.nilRow 66 J.v 5;refine go ?_;refine sb [67,0,3,4,6,7,9,10,32,33,34,65,66] ?_;refine WC.loopS 1 (fun mz Ed W'=>∃q:Nat,∃vq:Value,mz=u.k-q∧Ed=[(67,.int .i64 ((q:Nat):Int))]∧Hp W W' (row 66 J.v 5 vq ((u.st.take q).map fun s=>j0 4 0 s)::box g41 66 [.int .i64 5,.int .i64 0,.string ⟨#[]⟩,.slice none 0 0,vq]::_::_::_::_::_::_::_::R)∧(q≤u.k)) _ ⟨0,_,rfl,rfl,H,(Nat.zero_le _)⟩ ?_;rintro _ _ z ⟨q,vq,rfl,rfl,H,ql⟩;refine go ?_;refine Cd (fun p61=> ?_) fun p61=> ?_
        ·have b64:q<u.k:=Om;obtain⟨A65,n66,c67,rfl,_,_,_⟩:=H.op 0;refine go ?_;refine WC.regionG (HpC W _) [0,1,2,3,4,5,6,7] (.load 0 (.load 1 (.load 2 (.alt 3 (.alt 4 (.alt 5 (.load 6 (.alt 7 (.drop (.fin)) (.none))) (.none)) (.none)) (.none))))) (H.pick [1,1,1,1,1,1,1,1]) (by kernel_rfl) (by kernel_rfl) (fun z x=> ?_);have H:=H.ex x;refine go ?_;refine c1X (H.pick [1,1,1,1,1,1,1,1]) H Fh (chtext_any _ _) fun z H=> ?_;refine bs1X (H.pick [1,1,1,1,1,1,1,1]) H u64 ti66 fun g68 z H=> ?_;refine apX (H.pick [2,2,2,2,2,2,2,2]) H 1 0 rfl [j0 4 0 u.st[q]!] u64 ti66 rfl J.one (by simp only[List.length_map,List.length_take,List.length_cons,List.length_nil];omega) fun v70 z H=> ?_;obtain⟨A71,n72,c73,rfl,_,_,_⟩:=H.op 1;refine go ?_;refine stX (H.pick [2,2,2,2,2,2,2,2]) H 2 ti64 fun z H=> ?_;refine WX.drop ?_;refine WX.nil trivial ?_;refine go ?_;exact Rs [(67,_)] Sx ⟨(q+1),(.slice A71 n72 c73),rfl,rfl,(by rw[take_bang (show q<u.st.length from Om),List.map_append];exact(H.drop [0])),Om⟩
        ·obtain⟨A74,n75,c76,rfl,_,_,_⟩:=H.op 0;rw[show u.st.take q=u.st from by rw[show q=u.st.length from Om,List.take_length]]at H;have H:=mk_J 5 0 ⟨#[]⟩ (((Hp.j0s H u.st).front [1]).nilRow 9 sc 1);refine G5 ?_;exact kI [] Sx ⟨(.mk 5 0 ⟨#[]⟩ none 0 0 [] A74 n75 c76 (u.st.map fun s=>j0 4 0 s)),rfl,H,((wr_stk u.st A74 n75 c76).trans (congrArg er (show _=valF (cfE u) i u (wrK u)[k]! from((if_neg p47).trans ((if_neg p49).trans ((if_neg p51).trans ((if_neg p53).trans (if_pos p55))))).symm)))⟩
       ·refine go ?_;refine Cd (fun p78=> ?_) fun p78=> ?_
        ·refine go ?_;refine c1 H Fh (chnum_any _ _) fun z H=> ?_;refine st H 0 ti66 fun z H=> ?_;have H:=Hp_j0 H 3 u.n ⟨#[]⟩;refine G2 ?_;exact kI [] Sx ⟨(j0 3 u.n ⟨#[]⟩),rfl,H,(congrArg er (show j0 3 u.n ⟨#[]⟩=valF (cfE u) i u (wrK u)[k]! from((if_neg p47).trans ((if_neg p49).trans ((if_neg p51).trans ((if_neg p53).trans ((if_neg p55).trans (if_pos p78)))))).symm))⟩
        ·refine go ?_;refine c1 H Fh (chnum_any _ _) fun z H=> ?_;refine st H 0 ti66 fun z H=> ?_;have H:=Hp_j0 H 3 u.m ⟨#[]⟩;refine G2 ?_;exact kI [] Sx ⟨(j0 3 u.m ⟨#[]⟩),rfl,H,(congrArg er (show j0 3 u.m ⟨#[]⟩=valF (cfE u) i u (wrK u)[k]! from((if_neg p47).trans ((if_neg p49).trans ((if_neg p51).trans ((if_neg p53).trans ((if_neg p55).trans (if_neg p78)))))).symm))⟩
  ·rintro _ z ⟨y43,rfl,H,h44⟩;refine sb [0,3,4,6,7,9,10,32,33,34] ?_;refine go ?_;refine bs1 H u64 ti66 fun g79 z H=> ?_;refine ap H 4 0 rfl [y43] u64 ti66 rfl J.one (by have:=congrArg List.length hy;rw[List.length_map,List.length_map,List.length_take]at this;simp only[List.length_cons,List.length_nil];omega) fun v81 z H=> ?_;obtain⟨A82,n83,c84,rfl,_,_,_⟩:=H.op 4;refine go ?_;refine st H 5 ti64 fun z H=> ?_;have H:=H.front [1,2];have H:Hp W _ (big jL (ys++[y43])::_):=Hp.bigPush jL y43 H;refine go ?_;exact Rs [(34,_)] Sx ⟨(k+1),(ys++[y43]),(.slice A82 n83 c84),rfl,rfl,(H.drop [1,1]),Om,(by rw[List.map_append,hy,take_bang (show k<(wrK u).length from Om),List.map_append];exact congrArg (_++[·]) h44)⟩
 ·obtain⟨A86,n87,c88,rfl,_,_,_⟩:=H.op 1;refine go ?_;refine st H 5 ti66 fun z H=> ?_;refine go ?_;refine WK.ret [_] rfl ⟨⟨_,rfl,run_loadVar_blk u66 rfl ti66 (H.b 5)⟩,trivial⟩ ?_;have H:=((H.drop [2,3,3,3]).front [2,1,0]);exact⟨_,rfl,(show Sj (.mk 6 0 ⟨#[]⟩ A25 n26 c27 (wrK u) A86 n87 c88 ys) (wrJ i u)from Sj.mk rfl rfl rfl rfl (show ys.map er=_ by rw[hy,show k=(wrK u).length from Om,List.take_length];exact(List.map_map ..).symm)),mk_J 6 0 ⟨#[]⟩ H⟩
theorem gaps_any(A_ta:Option Addr)(n_ta c_ta:Nat)(ta:List Th)(A_da:Option Addr)(n_da c_da:Nat)(da:List Dm)(A_na:Option Addr)(n_na c_na:Nat)(na:List Sn)(A_pa:Option Addr)(n_pa c_pa:Nat)(pa:List Pk)(w:World)(h_ta:Ls w A_ta n_ta c_ta Th.c 3 ta)(h_da:Ls w A_da n_da c_da Dm.c 2 da)(h_na:Ls w A_na n_na c_na Sn.c 5 na)(h_pa:Ls w A_pa n_pa c_pa Pk.c 4 pa)(g_pa:PksOk w pa)(hk:∀x∈pa,x.k≤1000000)(hl:n_pa≤1000)(ht:n_ta≤1000)(he:evsum pa pa.length≤1000)(h0:lgE ta da na pa=0):
  Calls Tryz.prog 13 #[.agg #[.slice A_ta n_ta c_ta,.slice A_da n_da c_da,.slice A_na n_na c_na,.slice A_pa n_pa c_pa]] w fun e w'=>∃v,e= .returned v∧OwnL w' w.heap.size 138 Gap.c 3 v (gapN pa pa.length)∧Ext w w':=by
 have H:=(Hp.nil w);have e_ta:=h_ta.len;have z_ta:=h_ta.nle;have e_da:=h_da.len;have z_da:=h_da.nle;have e_na:=h_na.len;have z_na:=h_na.nle;have e_pa:=h_pa.len;have z_pa:=h_pa.nle;refine Wb Tryz.func13 ?_;refine go ?_;refine bx H fun g2 z H=> ?_;refine go ?_;refine c1 H Fh (lgcheck_any _ _ _ _ _ _ _ _ _ _ _ _ _ _ _ _ _ (h_ta.ext H.ext) (h_da.ext H.ext) (h_na.ext H.ext) (h_pa.ext H.ext) (g_pa.ext H.ext) hk Om Om he) fun z H=> ?_;obtain _:True:=trivial;refine yy (Yld.cast (Y.neq rfl rfl rfl) (vb (by rw[h0]))) ?_;refine go ?_;refine WC.condF rfl ?_;have H:=H.nilRow 138 Gap.c 3;refine go ?_;refine sb [12,3,10,11] ?_;refine WC.loopS 2 (fun mz Ed W'=>∃j:Nat,∃v:Value,mz=n_pa-j∧Ed=[(12,.int .i64 ((j:Nat):Int)),(3,v)]∧Hp w W' (row 138 Gap.c 3 v (gapN pa j)::_::[])∧(j≤n_pa)) _ ⟨0,_,rfl,rfl,(H.pick [0,0]),(Nat.zero_le _)⟩ ?_;rintro _ _ z ⟨j,v,rfl,rfl,H,jl⟩;have dl:=gapN_len pa j;refine go ?_;refine Cd (fun p13=> ?_) fun p13=> ?_
 ·have pk:=lg_pkok h0 _ (mem_b (show j<pa.length by omega));have r1:=pk.sr;have r2:=pk.ls;have b16:j<n_pa:=Om;refine go ?_;refine al H ti55 fun g17 z H=> ?_;refine st H 0 ti55 fun z H=> ?_;refine go ?_;refine Cd (fun p20=> ?_) fun p20=> ?_
  ·refine go ?_;refine bs1 H u60 ti138 fun g21 z H=> ?_;refine ap H 2 0 rfl [⟨pa[j]!.th,pa[j]!.sr-pa[j]!.ls,pa[j]!.ls⟩] u60 ti138 rfl Gap.one (by simp only[List.length_cons,List.length_nil];omega) fun v23 z H=> ?_;refine go ?_;exact Rs [(12,_),(3,_)] Sx ⟨(j+1),v23,rfl,rfl,(by rw[gapN_t (show j<pa.length by omega) p20];exact(H.pick [2,2])),Om⟩
  ·refine G3 ?_;refine sb [3,10,11,12] ?_;refine go ?_;exact Rs [(12,_),(3,_)] Sx ⟨(j+1),v,rfl,rfl,(by rw[gapN_f (show j<pa.length by omega) p20];exact(H.pick [1,1])),Om⟩
 ·refine go ?_;refine Rt [_] ?_;exact⟨_,rfl,(by rw[show pa.length=j from Om];exact H.out 0),H.ext⟩
end TW
end Go.Proofs.YtaclfjjipnpboaaGreatDoor
end
