/- Part 4 of the proof. Conditions: what each theorem states. -/
import Derived.Test.YtaclfjjipnpboaaGreatP01
import Derived.Test.YtaclfjjipnpboaaGreatP03
import Derived.Test.YtaclfjjipnpboaaGreatP02
import Derived.Laws.CopyRow
import Derived.Test.YtaclfjjipnpboaaGreatProg
set_option linter.all false
set_option maxHeartbeats 4000000
set_option maxRecDepth 4000
namespace Go.Eng
open Go Go.RowKit
theorem flat1{α:Type}{f:α→List Value}(hf:∀x,(f x).length=1):∀(l:List α),(l.flatMap f).length=l.length
 |[]=>rfl
 |x::r=>by rw[List.flatMap_cons,List.length_append,hf,flat1 hf r,List.length_cons];omega
theorem flat1_take{α:Type}{f:α→List Value}(hf:∀x,(f x).length=1):∀(l:List α) (k:Nat),(l.take k).flatMap f=(l.flatMap f).take k
 |[],k=>by simp
 |x::r,0=>by simp
 |x::r,k+1=>by
  rw[List.take_succ_cons,List.flatMap_cons,List.flatMap_cons,flat1_take hf r k];grind [List.length_eq_one_iff]
theorem flat1_drop{α:Type}{f:α→List Value}(hf:∀x,(f x).length=1):∀(l:List α) (k:Nat),(l.drop k).flatMap f=(l.flatMap f).drop k
 |[],k=>by simp
 |x::r,0=>by simp
 |x::r,k+1=>by
  rw[List.drop_succ_cons,List.flatMap_cons,flat1_drop hf r k];grind [List.length_eq_one_iff]
section
variable{P:Program}{n:Nat}{ops:Array Oper}{Q:Exit→Act→World→Prop}{E:Env}{w:World}{o:Oper}{rest:List Oper}{d:Nat}{α:Type}{f:α→List Value}{base e:Nat}{l s:List α}
theorem run_copyE{t ty:TypeId}{A B:Option Addr}{len cap k m c':Nat}{A':Option Addr}{cap2:Nat}(hU:P.underlying t=some (.slice e))(hs:(P.info? e).map (·.size)=some 1)(own:OwnL w base e f 1 (.slice A len cap) l)(src:Ls w B m c' f 1 s)
  (hf:∀x,(f x).length=1) (h1:∀x,∀u∈f x,u.oneCell'=true) (hk:k<len) (hm:0<m) (hA:A'=(A.map (·.add k))):
  ∃w',(Builtin.copy_ #[t,t] ty #[.slice A' (len-k) cap2,.slice B m c']).run P w= .ok (.int .i64 ((min m (len-k):Nat):Int)) w'∧OwnL w' base e f 1 (.slice A len cap) (l.take k++s.take (min m (len-k))++l.drop (k+min m (len-k)))∧Gr w w' (Value.slice A len cap).ownBlock:=by
 rcases own.2 with⟨hs',h0⟩|⟨g,cap',cur,hs',g1,g2,g3,g4,g5,g6⟩
 ·grind
 ·injection hs' with e1 e2 e3
  subst e1;subst e2;subst e3;obtain⟨ad,rfl⟩:=Option.isSome_iff_exists.1 (src.isSome hm);have hA':A'=some ⟨g,k,none⟩:=by rw[hA,Option.map_some,add_blk,Nat.zero_add]
  subst hA';have hc5:cur.toList.length=cap:=by grind
  have hsl:=src.len;have hcs:((s.take (min m (l.length-k))).flatMap f).length=min m (l.length-k):=by grind [flat1,List.length_take]
  have hmn:Nat.min m (l.length-k)=min m (l.length-k):=rfl;have hcs':cur.size=cap:=Om;have hr:=run_copy_row P w t t ty e g k (l.length-k) cap2 ad m c' cur e ((s.take (min m (l.length-k))).flatMap f) hU hs g2 (by rw[hcs,hmn])
   (fun j v hv=>by
    rw[flat1_take hf]at hv;have hj:j<min m (l.length-k):=by
     grind
    rw[List.getElem?_take_of_lt hj]at hv;have hjs:j<s.length:=Om;obtain⟨ad',he,_,_,hc⟩:=src.rd j s[j] (List.getElem?_eq_getElem hjs);injection he with he;subst he
    have hx:(f s[j])[0]? =some v:=by
     have hlen0:0<(f s[j]).length:=by grind
     have:=getElem?_flatMap hf (l:=s) (i:=j) (j:=0) (List.getElem?_eq_getElem hjs) (List.getElem?_eq_getElem hlen0);grind
    grind)
   Om
   (fun v hv=>by grind)
  rw[hcs]at hr;refine⟨_,hr,⟨?_,.inr ⟨g,cap,_,?_,g1,setRow_heap w g cur _ e _ g2,?_,g4,?_,?_⟩⟩,?_⟩
  ·grind [flat1]
  ·grind
  ·grind
  ·grind
  ·have hll:(l.take k++s.take (min m (l.length-k))++l.drop (k+min m (l.length-k))).length=l.length:=by
    grind
   rw[hll];rw[Nat.mul_one]at g6 ⊢;simp only[List.flatMap_append];rw[flat1_take hf l,flat1_drop hf l,←g6];have e1:(cur.toList.take k).length=k:=by grind
   have e2:(cur.toList.take l.length).take k=cur.toList.take k:=by grind
   rw[e2];have e3:(cur.toList.take k++(s.take (min m (l.length-k))).flatMap f).length=k+min m (l.length-k):=by grind
   rw[List.take_append,e3,List.take_of_length_le Om,List.drop_take]
  ·refine⟨⟨rfl,rfl,rfl,by simp_all,fun j _ hne=> ?_⟩,Dle.of Nl⟩;have hj:j≠g:=fun hh=>hne (by rw[hh];rfl);simp[World.setRow,Array.getElem?_modify,Ne.symm hj]
theorem run_copyB{a:Act}{c:Call}{args:List Value}(hA:Ok n E a)(ho:o.op= .call c)(hc:c.callee= .builtin .copy)(ha:evs E c.args.toList=some args){v:Value}{w':World}
  (hr:(Builtin.copy_ c.argTypes o.type args.toArray).run P w= .ok v w'):(execOp a.eval o).run P w= .ok (.value v) w':=by
 obtain⟨cb,hcb⟩:=run_builtin (P:=P) (w:=w) hA ho hc ha;grind [builtin,Sem.run_bind,Result.andThen_ok,Sem.run_pure]
theorem WL.copy0{t:TypeId}{A B:Option Addr}{len cap m c':Nat}{c:Call}(hd:o.dst=some d)(hn:d<n)(hg:o.guard=none)(ho:o.op= .call c)(hc:c.callee= .builtin .copy)(ht:c.argTypes= #[t,t])(hU:P.underlying t=some (.slice e))(hs:(P.info? e).map (·.size)=some 1)
  (ha:evs E c.args.toList=some [.slice A len cap,.slice B m c']) (own:OwnL w base e f 1 (.slice A len cap) l) (src:Ls w B m c' f 1 s) (hf:∀x,(f x).length=1) (h1:∀x,∀u∈f x,u.oneCell'=true) (hk:0<len) (hm:0<m)
  (h:∀w',OwnL w' base e f 1 (.slice A len cap) (s.take (min m len)++l.drop (min m len))→Gr w w' (Value.slice A len cap).ownBlock→WL P n ops Q rest ((d,.int .i64 ((min m len:Nat):Int))::E) w'):WL P n ops Q (o::rest) E w:=by
 intro a hA;obtain⟨w',hr,h2,h3⟩:=run_copyE (P:=P) (ty:=o.type) (cap2:=cap) hU hs own src hf h1 hk hm (show A=A.map (·.add 0) by simp_all [none,some,Addr.add]);simp only[Nat.sub_zero,Nat.zero_add,List.take_zero,List.nil_append]at hr h2;refine wpList_plain hg fun K hK=>wp_of_run (run_copyB hA ho hc ha (by rw[ht];exact hr)) (hK _ _ ?_);rw[hd];exact h w' h2 h3 _ (hA.put hn _)
theorem Run.copyE{k:Nat}{t:TypeId}{A B:Option Addr}{len cap m c':Nat}{c:Call}(ho:o.op= .call c)(hc:c.callee= .builtin .copy)(ht:c.argTypes= #[t,t])(hU:P.underlying t=some (.slice e))(hs:(P.info? e).map (·.size)=some 1)
  (ha:evs E c.args.toList=some [.slice (if cap=k then A else A.map (·.add (k*1))) (len-k) (cap-k),.slice B m c']) (own:OwnL w base e f 1 (.slice A len cap) l) (src:Ls w B m c' f 1 s) (hf:∀x,(f x).length=1) (h1:∀x,∀u∈f x,u.oneCell'=true) (hk:k<len) (hm:0<m):
  RunV P n o E w fun v' w'=>v'= .int .i64 ((min m (len-k):Nat):Int)∧OwnL w' base e f 1 (.slice A len cap) (l.take k++s.take (min m (len-k))++l.drop (k+min m (len-k)))∧Gr w w' (Value.slice A len cap).ownBlock:=by
 intro a hA;have hle:=own.form;obtain⟨A2,cap2,hv,hle1,hle2⟩:=hle;injection hv with _ hv2 hv3
 have hne:cap≠k:=Om;rw[if_neg hne,Nat.mul_one]at ha;obtain⟨w',hr,h2,h3⟩:=run_copyE (P:=P) (ty:=o.type) (cap2:=cap-k) hU hs own src hf h1 hk hm rfl;exact⟨_,w',run_copyB hA ho hc ha (by grind),rfl,h2,h3⟩
end
section
variable{g b:Nat}{u v:Value}{w w':World}{m:PM}
end
section
variable{P:Program}{n:Nat}{ops:Array Oper}{C:World→Prop}{Q:Act→World→Prop}{r:Ord}{E:Env}{w:World}{o:Oper}{i d:Nat}
theorem wanted_undef{a:Act}(ha:Ok n E a){j t:Nat}{want:Bool}(hg:o.guard=some (j,want))(hj:(ops[j]?).bind (·.dst)=some t)(ht:look t E=some undef):Region.wanted o (yielded ops a.tmps)=false:=by
 have:yielded ops a.tmps j=none:=by simp[Go.yielded,hj,ha.at_ t _ ht,undef]
 grind [Region.wanted]
end
namespace Y
section
variable{P:Program}{o:Oper}{n:Nat}{E:Env}{C:World→Prop}
theorem sliceB{x y q:Operand}{t e:TypeId}{A:Option Addr}{len cap:Nat}{k k':IntKind}{a b:Int}{z:Value}{sz by':Nat}(i j:Nat)(ho:o.op= .slice t x (some y) (some q) none)(hU:P.underlying t=some (.slice e))(hT:TI P e z sz by')(hx:ev E x=some (.slice A len cap))(hy:ev E y=some (.int k a))(ha:a=(i:Int))(hq:ev E q=some (.int k' b))(hb:b=(j:Int))(h1:i≤j)(h2:j≤cap):
  Yld P o n E C (.slice (if cap=i then A else A.map (·.add (i*sz))) (j-i) (cap-i)):=by
 intro B w hB _;subst ha hb;have h3:(0:Int)≤(i:Int)∧(i:Int)≤(j:Int):=Om;have h4:(0:Int)≤(j:Int)∧(j:Int)≤(cap:Int):=Om;simp only[execOp,ho,hB.ev hx,Option.map,hB.ev hy,hB.ev hq,Instr.sliceAt,Instr.slice,Instr.sliceBounds,Instr.sliceBound,asIntOf,Sem.run_bind,Sem.run_pure,Result.andThen_ok,run_underlying hU,hT.sizeOf,h3,h4,and_self,if_true,Int.toNat_natCast,Option.isSome]
def gt(a b:ByteArray):Bool:= !(lt a b||a.toList==b.toList)
theorem gtrStr{x y:Operand}{t t':TypeId}{s r:ByteArray}(ho:o.op= .binOp .gtr t x y t')(hx:ev E x=some (.string s))(hy:ev E y=some (.string r)):Yld P o n E C (.bool (gt s r)):=by
 intro A w hA _;have hg:(eqGuard .gtr t x y (.string s) (.string r)).run P w= .ok () w:=rfl;simp only[execOp,ho,hA.ev hx,hA.ev hy,Sem.run_bind,hg,Result.andThen_ok,binOp,Op.stringOp,Sem.run_pure,gt,lt]
end
end Y
section
variable{P:Program}{n:Nat}{ops:Array Oper}{C:World→Prop}{Q:Act→World→Prop}{E:Env}{W w:World}{L:List Res}{o:Oper}{i d:Nat}{r:Ord}
theorem Run.makeMap{t:TypeId}(ho:o.op= .makeMap t none):RunV P n o E w fun v w'=>∃g,v= .map (some g)∧g=w.heap.size∧Ext w w'∧Mp w' g []∧MpP w' g []:=by
 intro a ha;refine⟨_,w.alloc (.map #[] 0),?_,w.heap.size,rfl,rfl,(Ext.refl w).alloc _,⟨_,_,heap_alloc_new w _,rfl,by simp,by simp,by simp⟩,⟨_,_,heap_alloc_new w _,rfl⟩⟩;simp[execOp,ho,Instr.makeMap,run_newObj]
theorem mmpX{t:TypeId}(hC:C w)(H:Hp W w L)(h:∀g w',Hp W w' (mpp g []::L)→WX P n ops C Q r ((d,.map (some g))::E) w')
  (hi:ops[i]? =some o:=by exact rfl) (hd:o.dst=some d:=by exact rfl) (hn:d<n:=by exact blt rfl) (hg:o.guard=none:=by exact rfl) (ho:o.op= .makeMap t none:=by exact rfl):WX P n ops C Q (.alt i r .none) E w:=by
 refine WX.run hi hd hn hg hC (Run.makeMap ho) ?_;rintro _ w' ⟨g,rfl,e,x,_,b⟩;exact h g w' (H.new x b fun b' hb=>by rw[show b'=g from hb,e];omega)
theorem msX{α:Type}{e:TypeId}{f:α→List Value}{sz:Nat}{t:TypeId}{x y:Operand}{k k':IntKind}{m:Nat}{z:Value}{by':Nat}(hC:C w)(z0:α)(H:Hp W w L)(hU:P.underlying t=some (.slice e))(hT:TI P e z sz by')(hm:m≤1000000)(h:∀v w',Hp W w' (row e f sz v (List.replicate m z0)::L)→WX P n ops C Q r ((d,v)::E) w')
  (hi:ops[i]? =some o:=by exact rfl) (hd:o.dst=some d:=by exact rfl) (hn:d<n:=by exact blt rfl) (hg:o.guard=none:=by exact rfl) (ho:o.op= .makeSlice t x y:=by exact rfl) (hx:ev E x=some (.int k (m:Int)):=by exact rfl) (hy:ev E y=some (.int k' (m:Int)):=by exact rfl) (hz:z.cells=(f z0).toArray:=by exact rfl)
  (hf:∀x,(f x).length=sz:=by exact fun _=>rfl) (hp:0<sz:=by decide) (hb:Nat.ble by' 100000000=true:=by exact rfl):WX P n ops C Q (.alt i r .none) E w:=by
 refine WX.run hi hd hn hg hC (Run.makeS z0 ho hx hy hU hT hz hf hp ?_ Om) ?_
 ·have:=ble hb
  calc by'*m≤100000000*1000000:=Nat.mul_le_mul this hm
   _≤281474976710656:=by decide
 ·rintro v w' ⟨ow,x⟩;exact h v w' (H.new x (ow.base_le (Nat.zero_le _)) fun b hb=>(ow.lt hb).1)
theorem Ok.swap{n:Nat}{E:Env}{a:Act}{d1 d2:Nat}{v1 v2:Value}(h:Ok n ((d1,v1)::(d2,v2)::E) a)(hne:Nat.beq d1 d2=false):Ok n ((d2,v2)::(d1,v1)::E) a:=by
 refine⟨h.defers,h.size,fun t v hv=>h.at_ t v ?_⟩;simp only[look]at hv ⊢;cases e1:Nat.beq d1 t with
 |false=>grind
 |true=>
  cases e2:Nat.beq d2 t<;>simp_all
theorem Ok.less{n:Nat}{E:Env}{a:Act}{d:Nat}{v:Value}(h:Ok n ((d,v)::E) a)(hE:look d E=none):Ok n E a:=by
 refine⟨h.defers,h.size,fun t u hu=>h.at_ t u ?_⟩;simp only[look];cases e:Nat.beq d t<;>simp_all
theorem bs1L_{oj:Oper}{j dj:Nat}{v:Value}{t e:Nat}{parts:Array (Nat×Operand)}{ps:List (Nat×Value)}{z:Value}{zs c0 cs:List Value}{sz by':Nat}(hC:C w)(H:Hp W w L)(hCx:∀w',Ext w w'→C w')(hy:∀z,Hp W z L→Yld P o n E (·=z) v)(hU:P.underlying t=some (.slice e))(hT:TI P e z sz by')
  (h:∀g w',Hp W w' (box g e cs::L)→WX P n ops C Q r ((dj,.slice (some ⟨g,0,none⟩) 1 1)::(d,v)::E) w')
  (hi:ops[i]? =some o) (hd:o.dst=some d) (hn:d<n) (hg:o.guard=none)
  (hi2:ops[j]? =some oj) (hd2:oj.dst=some dj) (hn2:dj<n) (hg2:oj.guard=none) (ho:oj.op= .buildSlice t 1 parts) (hp:(1*sz !=0)=true) (hs:Nat.ble (1*sz) 16777216=true)
  (hzs:zs=cellsL z) (hz:((Array.range (1*sz)).map (z.cells[·%z.cells.size]!))=zs.toArray) (hps:evp E parts.toList=some ps) (hps2:evp ((d,v)::E) parts.toList=some ps) (hf:fillP (fun i=>some (i*sz,sz)) zs ps=some c0) (hN:Nm c0 cs) (hne:Nat.beq d dj=false) (hE:look dj E=none):
  WX P n ops C Q (.alt i (.alt j r .none) .none) E w∧WX P n ops C Q (.alt j (.alt i r .none) .none) E w:=by
 constructor
 ·refine WX.yldL hi hd hn hg hC (hy w H) ?_;exact bs1X hC H hU hT h hi2 hd2 hn2 hg2 ho hp hs hzs hz hps2 hf hN
 ·refine WX.run hi2 hd2 hn2 hg2 hC (Run.bslice ho hU hT hp (ble hs) hz hps (by rw[hf,hN.eq])) ?_;rintro _ w' ⟨g,rfl,e_,x,b⟩;have H':Hp W w' (box g e cs::L):=H.new x b fun b' hb=>by rw[show b'=g from hb,e_];omega
  refine WX.yldL hi hd hn hg (hCx w' x) (fun a A ha hA=>hy w' H'.tail a A (ha.less hE) hA) ?_;intro a ha;exact h g w' H' a (ha.swap hne)
theorem bs1L{W0:World}{L0:List Res}{oj:Oper}{j dj:Nat}{v:Value}{t e:Nat}{parts:Array (Nat×Operand)}{ps:List (Nat×Value)}{z:Value}{zs c0 cs:List Value}{sz by':Nat}(hC:HpC W0 L0 w)(H:Hp W w L)(hy:∀z,Hp W z L→Yld P o n E (·=z) v)(hU:P.underlying t=some (.slice e))(hT:TI P e z sz by')
  (h:∀g w',Hp W w' (box g e cs::L)→WX P n ops (HpC W0 L0) Q r ((dj,.slice (some ⟨g,0,none⟩) 1 1)::(d,v)::E) w')
  (hi:ops[i]? =some o:=by exact rfl) (hd:o.dst=some d:=by exact rfl) (hn:d<n:=by exact blt rfl) (hg:o.guard=none:=by exact rfl)
  (hi2:ops[j]? =some oj:=by exact rfl) (hd2:oj.dst=some dj:=by exact rfl) (hn2:dj<n:=by exact blt rfl) (hg2:oj.guard=none:=by exact rfl) (ho:oj.op= .buildSlice t 1 parts:=by exact rfl) (hp:(1*sz !=0)=true:=by exact rfl) (hs:Nat.ble (1*sz) 16777216=true:=by exact rfl)
  (hzs:zs=cellsL z:=by exact rfl) (hz:((Array.range (1*sz)).map (z.cells[·%z.cells.size]!))=zs.toArray:=by kernel_rfl) (hps:evp E parts.toList=some ps:=by exact rfl) (hps2:evp ((d,v)::E) parts.toList=some ps:=by exact rfl) (hf:fillP (fun i=>some (i*sz,sz)) zs ps=some c0:=by exact rfl) (hN:Nm c0 cs:=by repeat (first|exact Nm.nil rfl|(apply Nm.cons;exact rfl))) (hne:Nat.beq d dj=false:=by exact rfl) (hE:look dj E=none:=by exact rfl):
  WX P n ops (HpC W0 L0) Q (.alt i (.alt j r .none) (.alt j (.alt i r .none) .none)) E w:=
 have k:=bs1L_ hC H (fun w' x=>Hp.ex hC x) hy hU hT h hi hd hn hg hi2 hd2 hn2 hg2 ho hp hs hzs hz hps hps2 hf hN hne hE
 WX.alt k.1 k.2
end
section
variable{P:Program}{n:Nat}{ops:Array Oper}{Q:Exit→Act→World→Prop}{E:Env}{w:World}{o:Oper}{rest:List Oper}{d:Nat}
theorem WL.skipU{j t:Nat}{want:Bool}(hd:o.dst=some d)(hn:d<n)(hg:o.guard=some (j,want))(hj:(ops[j]?).bind (·.dst)=some t)(ht:look t E=some undef)(h:WL P n ops Q rest ((d,undef)::E) w):WL P n ops Q (o::rest) E w:=by
 intro a ha;refine wpList_step fun K hK=> ?_;rw[if_neg (by grind [wanted_undef]),hd];exact hK _ _ (h _ (ha.put hn _))
theorem WQ.skipU{C:World→Prop}{Qq:Act→Prop}{j t:Nat}{want:Bool}(hd:o.dst=some d)(hn:d<n)(hg:o.guard=some (j,want))(hj:(ops[j]?).bind (·.dst)=some t)(ht:look t E=some undef)(h:WQ P n ops C Qq rest ((d,undef)::E)):WQ P n ops C Qq (o::rest) E:=by
 intro a ha;unfold wpQuiet;rw[if_neg (by grind [wanted_undef]),hd];exact h _ (ha.put hn _)
end
def Kc(P:Program)(y:Code)(Q:Exit→Act→World→Prop):Act→World→Prop:=fun a w=>y.wp P Q a w
section
variable{P:Program}{n:Nat}{Q Q':Exit→Act→World→Prop}{E:Env}{w:World}{x y:Code}{ops:Array Oper}
theorem WC.sq(h:WC P n x (Exit.then (Kc P y Q) Q) E w):WC P n (.seq x y) Q E w:=fun a ha=>wp_seq (h a ha)
theorem WC.sg{id:Nat}{l l':List Oper}(h:WL P n l.toArray (Exit.then (Kc P y Q) Q) l' E w)(hl:l=l':=by exact rfl):WC P n (.seq (.region id l.toArray false) y) Q E w:=WC.sq (WC.region hl h)
theorem kLz(h:WC P n y Q E w):WL P n ops (Exit.then (Kc P y Q) Q') [] E w:=WL.nil h
end
class Un(P:Program)(t:TypeId)(D:outParam TypeDesc):Prop where h:P.underlying t=some D
class Tn(P:Program)(t:TypeId)(z:outParam Value)(sz by':outParam Nat):Prop where h:TI P t z sz by'
class Pn(P:Program)(t:TypeId)(z:outParam (List Value))(pl:outParam (List (Nat×Nat))):Prop where h:PL P t z pl
class Bx(g:Nat)(L:List Res)(t:outParam TypeId)(cs:outParam (List Value)):Prop where m:box g t cs∈L
instance(priority:=low) bxT{g:Nat}{L:List Res}{R:Res}{t:TypeId}{cs:List Value}[b:Bx g L t cs]:Bx g (R::L) t cs:=⟨List.mem_cons_of_mem _ b.m⟩
instance(priority:=high) bxH{g:Nat}{L:List Res}{t:TypeId}{cs:List Value}:Bx g (box g t cs::L) t cs:=⟨List.mem_cons_self⟩
instance bxL{g:Nat}{A B:List Res}{t:TypeId}{cs:List Value}[b:Bx g A t cs]:Bx g (A++B) t cs:=⟨List.mem_append_left _ b.m⟩
instance bxLA{g:Nat}{A B:List Res}{t:TypeId}{cs:List Value}[b:Bx g A t cs]:Bx g (A.append B) t cs:=⟨List.mem_append_left _ b.m⟩
instance bxR{g:Nat}{A B:List Res}{t:TypeId}{cs:List Value}[b:Bx g B t cs]:Bx g (A++B) t cs:=⟨List.mem_append_right _ b.m⟩
instance bxRA{g:Nat}{A B:List Res}{t:TypeId}{cs:List Value}[b:Bx g B t cs]:Bx g (A.append B) t cs:=⟨List.mem_append_right _ b.m⟩
theorem bxb{W w:World}{L:List Res}{g:Nat}{t:TypeId}{cs:List Value}(H:Hp W w L)[b:Bx g L t cs]:Blk w g t cs:=H.holds _ b.m
class Rw(A:Option Addr)(L:List Res)(α:outParam Type)(e:outParam TypeId)(f:outParam (α→List Value))(sz n c:outParam Nat)(l:outParam (List α)):Prop where m:row e f sz (.slice A n c) l∈L
instance(priority:=low) rwT{A:Option Addr}{L:List Res}{R:Res}{α:Type}{e:TypeId}{f:α→List Value}{sz n c:Nat}{l:List α}[b:Rw A L α e f sz n c l]:Rw A (R::L) α e f sz n c l:=⟨List.mem_cons_of_mem _ b.m⟩
instance(priority:=high) rwH{A:Option Addr}{L:List Res}{α:Type}{e:TypeId}{f:α→List Value}{sz n c:Nat}{l:List α}:Rw A (row e f sz (.slice A n c) l::L) α e f sz n c l:=⟨List.mem_cons_self⟩
instance rwL{C D:List Res}{A:Option Addr}{α:Type}{e:TypeId}{f:α→List Value}{sz n c:Nat}{l:List α}[b:Rw A C α e f sz n c l]:Rw A (C++D) α e f sz n c l:=⟨List.mem_append_left _ b.m⟩
instance rwLA{C D:List Res}{A:Option Addr}{α:Type}{e:TypeId}{f:α→List Value}{sz n c:Nat}{l:List α}[b:Rw A C α e f sz n c l]:Rw A (C.append D) α e f sz n c l:=⟨List.mem_append_left _ b.m⟩
instance rwR{C D:List Res}{A:Option Addr}{α:Type}{e:TypeId}{f:α→List Value}{sz n c:Nat}{l:List α}[b:Rw A D α e f sz n c l]:Rw A (C++D) α e f sz n c l:=⟨List.mem_append_right _ b.m⟩
instance rwRA{C D:List Res}{A:Option Addr}{α:Type}{e:TypeId}{f:α→List Value}{sz n c:Nat}{l:List α}[b:Rw A D α e f sz n c l]:Rw A (C.append D) α e f sz n c l:=⟨List.mem_append_right _ b.m⟩
theorem rwl{W w:World}{L:List Res}{A:Option Addr}{α:Type}{e:TypeId}{f:α→List Value}{sz n c:Nat}{l:List α}(H:Hp W w L)[b:Rw A L α e f sz n c l](hf:∀x,(f x).length=sz:=by exact fun _=>rfl)(hp:0<sz:=by decide):Ls w A n c f sz l:=OwnL.ls (H.holds _ b.m) hf hp
def szOk(P:Program)(t:TypeId):Bool:=match P.info? t with
 |some i=>i.zero.isSome&&(i.size !=0)
 |none=>false
theorem szOk.ti{P:Program}{t:TypeId}(h:szOk P t=true):∃z sz by',TI P t z sz by'∧sz≠0:=by
 unfold szOk at h;split at h
 ·rename_i i hi;rw[Bool.and_eq_true,bne_iff_ne]at h;obtain⟨z,hz⟩:=Option.isSome_iff_exists.1 h.1;exact⟨z,i.size,i.bytes,⟨i,hi,hz,rfl,rfl⟩,h.2⟩
 ·cases h
class PB(a:Addr)(g off:outParam Nat):Prop where h:a=⟨g,off,none⟩
instance pbI{g off:Nat}:PB ⟨g,off,none⟩ g off:=⟨rfl⟩
class PE(a:Addr)(A:outParam (Option Addr))(sz k j:outParam Nat):Prop where h:a=elemAt A sz k j
instance peI{A:Option Addr}{sz k j:Nat}:PE (elemAt A sz k j) A sz k j:=⟨rfl⟩
class Vg(v:Value)(b want:Bool)(u:outParam Value):Prop where h:b=want→v=u
instance(priority:=high) vgI{b want:Bool}{u:Value}:Vg (gv b want u) b want u:=⟨fun e=>gv_yes e u⟩
instance(priority:=low) vgJ{b want:Bool}{u:Value}:Vg u b want u:=⟨fun _=>rfl⟩
instance(priority:=high) vgS{b want:Bool}{r:List (Bool×Bool)}{v:Value}:Vg (gvs ((b,want)::r) v) b want (gvs r v):=⟨fun e=>gv_yes e _⟩
instance(priority:=high) vgT{b want:Bool}{r t:List (Bool×Bool)}{v:Value}:Vg (gvs ((b,want)::r++t) v) b want (gvs (r++t) v):=⟨fun e=>gv_yes e _⟩
theorem ovg{E:Env}{x:Operand}{b want:Bool}{v u:Value}(hb:b=want)(h:ev E x=some v)[q:Vg v b want u]:ev E x=some u:=by rw[h,q.h hb]
section
variable{P:Program}{n:Nat}{C:World→Prop}{E:Env}{w W:World}{L:List Res}{o:Oper}{t bt:TypeId}{x:Operand}{D:TypeDesc}{z v:Value}{sz by' g off i:Nat}{cs sub:List Value}{fs:Array Field}{f:Field}{ad:Addr}{α:Type}{A:Option Addr}{m cap j k sz2:Nat}{ce:α→List Value}{l:List α}
theorem bWe(h:Blk w g t cs):∀w',w'=w→Blk w' g t cs:=fun _ e=>e▸h
theorem bWx(h:Blk w g t cs):∀w',Ext w w'→Blk w' g t cs:=fun _ e=>h.ext e
theorem lWe(h:Ls w A m cap ce sz l):∀w',w'=w→Ls w' A m cap ce sz l:=fun _ e=>e▸h
theorem lWx(h:Ls w A m cap ce sz l):∀w',Ext w w'→Ls w' A m cap ce sz l:=fun _ e=>h.ext e
theorem faK{of2:Nat}(ho:o.op= .fieldAddr t x i)(hU:P.underlying t=some (.struct fs))(hf:fs[i]? =some f)(hx:ev E x=some (.pointer (some ad)))[p:PB ad g off](hz:szOk P f.type=true:=by kernel_rfl)(he:off+f.offset=of2:=by first|exact Eq.refl 0|exact Eq.refl 1|exact Eq.refl 2|exact Eq.refl 3|exact Eq.refl 4|exact Eq.refl 5|exact Eq.refl 6|exact Eq.refl 7|exact Eq.refl 8|exact Eq.refl 9|exact Eq.refl 10|exact Eq.refl 11):Yld P o n E C (.pointer (some ⟨g,of2,none⟩)):=by
 subst he;obtain⟨z,sz,by',h1,h2⟩:=szOk.ti hz;exact Y.fieldAddr ho hU hf h1 h2 (p.h▸hx)
theorem feK{sz0 of2:Nat}(ho:o.op= .fieldAddr t x i)(hU:P.underlying t=some (.struct fs))(hf:fs[i]? =some f)(hx:ev E x=some (.pointer (some ad)))[p:PE ad A sz0 k off](hz:szOk P f.type=true:=by kernel_rfl)(he:off+f.offset=of2:=by first|exact Eq.refl 0|exact Eq.refl 1|exact Eq.refl 2|exact Eq.refl 3|exact Eq.refl 4|exact Eq.refl 5|exact Eq.refl 6|exact Eq.refl 7|exact Eq.refl 8|exact Eq.refl 9|exact Eq.refl 10|exact Eq.refl 11):Yld P o n E C (.pointer (some (elemAt A sz0 k of2))):=by
 subst he;obtain⟨z,sz,by',h1,h2⟩:=szOk.ti hz;exact Y.fieldE ho hU hf h1 h2 (p.h▸hx)
theorem ldV(ho:o.op= .load t x)(hx:ev E x=some (.pointer (some ad)))[p:PB ad g off][hU:Un P t D](hb:∀w',C w'→Blk w' g bt cs)(hv:cs[off]? =some v)(hD:aggD D=false:=by exact rfl):Yld P o n E C v:=ld ho hU.h (p.h▸hx) (Blk.at_c hb hv) hD
theorem ldB(ho:o.op= .load t x)(hx:ev E x=some (.pointer (some ad)))[p:PB ad g off](hb:∀w',C w'→Blk w' g bt cs)[hU:Un P t D][hT:Tn P t z sz by'](hD:aggD D=true:=by exact rfl)(hN:Nm ((cs.drop off).take sz) sub:=by repeat (first|exact Nm.nil rfl|(apply Nm.cons;exact rfl)))(hl:sub.length=sz:=by exact rfl):Yld P o n E C (.agg sub.toArray):=
 Y.loadS (cs:=sub) ho hU.h hD (by rw[hl];exact hT.h) (p.h▸hx) (Blk.part_c hb (by rw[hl];exact hN.eq))
theorem ldG(ho:o.op= .load t x)[hU:Un P t D](hx:ev E x=some (.pointer (some ad)))[p:PE ad A sz k j](h:∀w',C w'→Ls w' A m cap ce sz l)(hk:k<m)(I:Inhabited α)(hu:(ce l[k]!)[j]? =some v)(hD:aggD D=false:=by exact rfl):Yld P o n E C v:=ld ho hU.h (p.h▸hx) (Ls.at_c h hk hu) hD
theorem ldF(ho:o.op= .load t x)(hx:ev E x=some (.pointer (some ad)))[p:PE ad A sz k 0](h:∀w',C w'→Ls w' A m cap ce sz l)(hk:k<m)(I:Inhabited α)[hU:Un P t D][hT:Tn P t z sz2 by'](hD:aggD D=true:=by exact rfl)(hN:Nm (ce l[k]!) sub:=by repeat (first|exact Nm.nil rfl|(apply Nm.cons;exact rfl)))(hl:sub.length=sz2:=by exact rfl):Yld P o n E C (.agg sub.toArray):=
 Y.loadS (cs:=sub) ho hU.h hD (by rw[hl];exact hT.h) (p.h▸hx) (Ls.part_c h hk (by rw[List.drop_zero,←hN.eq,List.take_length]))
theorem buK{parts:Array (Nat×Operand)}{c0 cells:List Value}{ps:List (Nat×Value)}{zero:List Value}{pl:List (Nat×Nat)}(ho:o.op= .build t parts)[hP:Pn P t zero pl](hp:evp E parts.toList=some ps:=by exact rfl)(hb:fillL pl zero ps=some c0:=by exact rfl)(hN:Nm c0 cells:=by repeat (first|exact Nm.nil rfl|(apply Nm.cons;exact rfl))):Yld P o n E C (.agg cells.toArray):=by
 rw[←hN.eq];exact Y.build ho hP.h hp hb
end
theorem Lb{w:World}{A:Option Addr}{α:Type}{n c sz:Nat}{f:α→List Value}{l:List α}(h:Ls w A n c f sz l:=by first|assumption|exact Tv.ok.s (by assumption)|exact Tv.ok.g (by assumption)|exact Tv.ok.t (by assumption)|exact Tv.ok.f (by assumption)|exact Tv.ok.m (by assumption)|exact Tv.ok.p (by assumption)|exact Tv.ok.b (by assumption)|exact Tv.ok.l (by assumption)):Ls w A n c f sz l:=h
theorem Og{p:Prop}(h:p:=by first|omega|(have q0:=Go.Eng.Tr.t hb;omega)|(have q0:=Go.Eng.Tr.f hb;omega)):p:=h
theorem Oh{p:Prop}(h:p:=by first|omega|(dsimp only;omega)|(have q0:=Go.Eng.Tr.t hb;omega)|(have q0:=Go.Eng.Tr.f hb;omega)):p:=h
theorem Oi{p:Prop}(h:p:=by first|omega|(dsimp only;omega)):p:=h
theorem Rf{p:Prop}(h:p:=by exact rfl):p:=h
class Tr(b:Bool)(p q:outParam Prop):Prop where
 t:b=true→p
 f:b=false→q
instance trD{p:Prop}[Decidable p]:Tr (decide p) p (¬p):=⟨dec_t,dec_f⟩
instance trE{a b:Int}:Tr (a==b) (a=b) (a≠b):=⟨eq_t,eq_f⟩
instance trS{a b:ByteArray}:Tr (a==b) (a=b) (a≠b):=⟨beqB_eq.1,beqB_ne.1⟩
instance trN{b:Bool}{p q:Prop}[h:Tr b p q]:Tr (!b) q p:=⟨fun e=>h.f (not_t e),fun e=>h.t (not_f e)⟩
instance trA{a b:Bool}{p q p' q':Prop}[h:Tr a p q][k:Tr b p' q']:Tr (a&&b) (p∧p') (q∨q'):=⟨fun e=>⟨h.t (and_t e).1,k.t (and_t e).2⟩,fun e=>(and_f e).imp h.f k.f⟩
instance trO{a b:Bool}{p q p' q':Prop}[h:Tr a p q][k:Tr b p' q']:Tr (a||b) (p∨p') (q∧q'):=⟨fun e=>(or_t e).imp h.t k.t,fun e=>⟨h.f (or_f e).1,k.f (or_f e).2⟩⟩
instance(priority:=low) trX{b:Bool}:Tr b (b=true) (b=false):=⟨id,id⟩
class Ko(o:Oper)(k:Nat):Prop
class Kc_(c:Code)(k:Nat):Prop
class Kg(p:Prop)(k:Nat):Prop
class Kz(l:List Oper):Prop
class Kgd(o:Oper):Prop
class Kx(r:Ord):Prop
class Kw(K:Act→World→Prop)(K2:outParam (Act→World→Prop)):Prop where h:∀a w,K2 a w→K a w
section
variable{P:Program}{n:Nat}{ops:Array Oper}{C:World→Prop}{Qq:Act→Prop}{Qx:Act→World→Prop}{Q:Exit→Act→World→Prop}{K K2:Act→World→Prop}{E:Env}{w:World}{rest l:List Oper}{c:Code}{d:Option Nat}{ty:TypeId}{ps:String}{af:Array Go.Edge}{g:Option (Nat×Bool)}{v:Value}{o:Oper}{r:Ord}
instance:Kz []:=⟨⟩
instance{p:Op}{j:Nat×Bool}:Kgd ⟨d,p,ty,ps,af,some j⟩:=⟨⟩
instance{i:Nat}:Kx (.load i r):=⟨⟩
instance:Kg (WL P n ops Q l E w) 0:=⟨⟩
instance:Kg (WQ P n ops C Qq l E) 1:=⟨⟩
instance:Kg (WX P n ops C Qx r E w) 2:=⟨⟩
instance:Kg (WC P n c Q E w) 3:=⟨⟩
instance:Kg (WK n K E w) 4:=⟨⟩
instance{x:Code}{i:Nat}{l:Array Oper}:Kc_ (.seq (.region i l false) x) 1:=⟨⟩
instance{x y:Code}:Kc_ (.seq x y) 2:=⟨⟩
instance:Kc_ .skip 3:=⟨⟩
instance{x:Code}{i:Nat}:Kc_ (.block i x) 4:=⟨⟩
instance{i:Nat}{l:Array Oper}:Kc_ (.region i l false) 5:=⟨⟩
instance:Kc_ .ret 6:=⟨⟩
instance{i:Nat}:Kc_ (.exit i) 7:=⟨⟩
instance:Kw (Exit.then K Q .ret) (Q .ret):=⟨fun _ _ h=>h⟩
instance{i:Nat}:Kw (Exit.then K Q (.exit i)) (Q (.exit i)):=⟨fun _ _ h=>h⟩
instance{i:Nat}:Kw (Exit.inBlock i Q .normal) (Q .normal):=⟨fun _ _ h=>h⟩
instance{i:Nat}:Kw (Exit.inBlock i Q .ret) (Q .ret):=⟨fun _ _ h=>h⟩
instance{i:Nat}:Kw (Exit.inBlock i Q (.exit i)) (Q .normal):=⟨fun a w h=>by simp[Exit.inBlock,h]⟩
class Kv(K:Act→World→Prop)(P:outParam Program)(y:outParam Code)(Q:outParam (Exit→Act→World→Prop)):Prop where h:∀a w,y.wp P Q a w→K a w
instance{Q2:Exit→Act→World→Prop}:Kv (Exit.then (Kc P c Q) Q2 .normal) P c Q:=⟨fun _ _ h=>h⟩
instance{x:Operand}:Ko ⟨d,.move x,ty,ps,af,g⟩ 0:=⟨⟩
instance{x:Operand}:Ko ⟨d,.assign x,ty,ps,af,g⟩ 1:=⟨⟩
instance{t:TypeId}{x:Operand}:Ko ⟨d,.load t x,ty,ps,af,g⟩ 2:=⟨⟩
instance{t i:Nat}{x:Operand}:Ko ⟨d,.fieldAddr t x i,ty,ps,af,g⟩ 3:=⟨⟩
instance{t:TypeId}{x y:Operand}:Ko ⟨d,.indexAddr t x y,ty,ps,af,g⟩ 4:=⟨⟩
instance{x:Operand}{i:Nat}:Ko ⟨d,.extract x i,ty,ps,af,g⟩ 5:=⟨⟩
instance{c:Call}:Ko ⟨d,.call c,ty,ps,af,g⟩ 6:=⟨⟩
instance{k:BinOp}{t t2:TypeId}{x y:Operand}:Ko ⟨d,.binOp k t x y t2,ty,ps,af,g⟩ 7:=⟨⟩
instance{k:UnOp}{t:TypeId}{x:Operand}:Ko ⟨d,.unOp k t x,ty,ps,af,g⟩ 8:=⟨⟩
instance{x y z:Operand}:Ko ⟨d,.pick x y z,ty,ps,af,g⟩ 9:=⟨⟩
instance{t:TypeId}{s:Array (Nat×Operand)}:Ko ⟨d,.build t s,ty,ps,af,g⟩ 10:=⟨⟩
instance{x:Operand}:Ko ⟨d,.nilCheck x,ty,ps,af,g⟩ 11:=⟨⟩
instance{t t2:TypeId}{x:Operand}:Ko ⟨d,.convert t t2 x,ty,ps,af,g⟩ 12:=⟨⟩
theorem jO(k:Nat)[Ko o k](h:Yld P o n E C v):Yld P o n E C v:=h
theorem gO(k:Nat){p:Prop}[Kg p k](h:p):p:=h
theorem iCz(k:Nat)[Kc_ c k](h:WC P n c Q E w):WC P n c Q E w:=h
theorem iNl[Kz l](h:WL P n ops Q l E w):WL P n ops Q l E w:=h
theorem iGz[Kgd o](h:WL P n ops Q (o::rest) E w):WL P n ops Q (o::rest) E w:=h
theorem iHz[Kgd o](h:WQ P n ops C Qq (o::rest) E):WQ P n ops C Qq (o::rest) E:=h
theorem iQz(h:WQ P n ops C Qq (o::rest) E):WQ P n ops C Qq (o::rest) E:=h
theorem iXz[Kx r](h:WX P n ops C Qx r E w):WX P n ops C Qx r E w:=h
theorem kWz[k:Kw K K2](h:WK n K2 E w):WK n K E w:=fun a ha=>k.h a w (h a ha)
theorem kNz{y:Code}{Q:Exit→Act→World→Prop}[k:Kv K P y Q](h:WC P n y Q E w):WK n K E w:=fun a ha=>k.h a w (h a ha)
theorem jI{x y:Code}(I:Env→World→Prop)(h1:WC P n x (fun e a w'=>e= .normal∧∃Ed,I Ed w'∧Ok n (Ed++E) a) E w)(h2:∀Ed w',I Ed w'→WC P n y Q (Ed++E) w'):WC P n (.seq x y) Q E w:=by
 intro a ha;refine wp_seq (wp_mono (h1 a ha) fun e a w h=> ?_);obtain⟨rfl,Ed,hI,hok⟩:=h;exact h2 Ed w hI a hok
theorem kI{I:Env→World→Prop}{Es:Env}(Ed:Env)(hs:Sub (Ed++Es) E)(hI:I Ed w):WK n (fun a w'=>Exit.normal= .normal∧∃Ed,I Ed w'∧Ok n (Ed++Es) a) E w:=fun _ ha=>⟨rfl,Ed,hI,ha.sub hs⟩
theorem Rs{Es:Env}{I:Nat→Env→World→Prop}{m m':Nat}(Ed':Env)(hs:Sub (Ed'++Es) E)(hI:I m' Ed' w)(hlt:m'<m:=by omega):WK n (Exit.then (fun a' w'=>∃m' Ed',m'<m∧I m' Ed' w'∧Ok n (Ed'++Es) a') Q .normal) E w:=WK.roundS m' Ed' hs hlt hI
theorem Rt{fn:Func}{R:Ending→World→Prop}{rs:List ResultVar}(vs:List Value)(hR:R (.returned (resVal vs)) w)(hr:fn.results=rs.toArray:=by exact rfl)(h:resOk P w E rs vs:=by repeat (first|exact trivial|refine⟨rfl,?_⟩)):WK n (bodyPost P fn R .ret) E w:=WK.ret vs hr h hR
theorem En{fn:Func}{R:Ending→World→Prop}(hR:R (.returned (resVal [])) w)(hr:fn.results= #[]:=by exact rfl):WK n (bodyPost P fn R .normal) E w:=WK.end_ (rs:=[]) [] hr trivial hR
theorem Qr{id:Nat}{l l':List Oper}(h:WQ P n l.toArray (Ext w) (fun a'=>∀w',Ext w w'→Q .normal a' w') l' E)(hl:l=l':=by exact rfl)(hm:P.follows .mixedOrders=true:=by kernel_rfl)(hB:quickB l=true:=by kernel_rfl):WC P n (.region id l.toArray true) Q E w:=WC.regionDq hm hB hl h
theorem Xr{W:World}{L:List Res}{id:Nat}{l:List Oper}(H:Hp W w L)(C:World→Prop)(seq:Ord)(hC:C w)(h:∀z,Hp W z L→WX P n l.toArray C (Q .normal) seq E z)(hm:P.follows .mixedOrders=true:=by kernel_rfl)(hB:mixQ l seq=true:=by kernel_rfl):WC P n (.region id l.toArray true) Q E w:=WC.regionX C seq hC hm hB fun z x=>h z (H.ex x)
theorem Qd{W:World}{L:List Res}(H:Hp W w L)(h:∀z,Hp W z L→WK n (Q .normal) E z):WQ P n ops (Ext w) (fun a'=>∀w',Ext w w'→Q .normal a' w') [] E:=WQ.done fun z x=>h z (H.ex x)
theorem yB{d:Nat}(hd:o.dst=some d)(hn:d<n)(hg:o.guard=none)(hy:Yld P o n E (·=w) v)(h:WL P n ops Q rest ((d,v)::E) w):WL P n ops Q (o::rest) E w:=WL.yld hd hn hg hy h
theorem gAz{d j t:Nat}{want b:Bool}(hd:o.dst=some d)(hn:d<n)(hg:o.guard=some (j,want))(hj:(ops[j]?).bind (·.dst)=some t)(ht:look t E=some (.bool b))(hy:b=want→Yld P o n E (·=w) v)(h:WL P n ops Q rest ((d,gv b want v)::E) w):WL P n ops Q (o::rest) E w:=WL.yldG hd hn hg hj ht hy h
theorem qA{d j t:Nat}{want b:Bool}(hd:o.dst=some d)(hn:d<n)(hg:o.guard=some (j,want))(hj:(ops[j]?).bind (·.dst)=some t)(ht:look t E=some (.bool b))(hy:b=want→Yld P o n E C v)(h:WQ P n ops C Qq rest ((d,gv b want v)::E)):WQ P n ops C Qq (o::rest) E:=WQ.yldG hd hn hg hj ht hy h
theorem qB{d:Nat}(hd:o.dst=some d)(hn:d<n)(hg:o.guard=none)(hy:Yld P o n E C v)(h:WQ P n ops C Qq rest ((d,v)::E)):WQ P n ops C Qq (o::rest) E:=WQ.yld hd hn hg hy h
theorem xA{i d:Nat}{r:Ord}(hi:ops.toList[i]? =some o)(hd:o.dst=some d)(hn:d<n)(hg:o.guard=none)(hy:Yld P o n E C v)(h:WX P n ops C Qx r ((d,v)::E) w):WX P n ops C Qx (.load i r) E w:=WX.yld (by simpa using hi) hd hn hg hy h
theorem Cd{c:Operand}{x y:Code}{b:Bool}{p q:Prop}[h:Tr b p q](ht:p→WC P n x Q E w)(hf:q→WC P n y Q E w)(hc:ev E c=some (.bool b):=by exact rfl):WC P n (.cond c x y) Q E w:=WC.cond hc (fun e=>ht (h.t e)) (fun e=>hf (h.f e))
theorem Wb{f:FuncId}{fn:Func}{c:Code}{n:Nat}{args:List Value}{R:Ending→World→Prop}(hf:P.funcs[f]? =some fn)(h:WC P n c (bodyPost P fn R) (params 0 args) w)(hb:fn.body=some c:=by exact rfl)(hn:fn.ntmps=n:=by exact rfl)(hl:args.length≤n:=by exact ble rfl):Calls P f args.toArray w R:=calls_of_WC hf hb hn hl h
def hasB(P:Program)(f:FuncId):Bool:=match P.funcs[f]? with
 |some fn=> !fn.body.isNone&& !(fn.name== "runtime.NumGoroutine")
 |none=>false
theorem Fh{f:FuncId}(h:hasB P f=true:=by kernel_rfl):Has P f:=by
 unfold hasB at h;split at h
 ·rename_i fn e;rw[Bool.and_eq_true]at h;exact⟨fn,e,not_t h.1,not_t h.2⟩
 ·cases h
class Sm(a b:Bool):Prop where h:a=b
instance smI{a:Bool}:Sm a a:=⟨rfl⟩
class Df(a b:Bool):Prop where h:(a==b)=false
instance dfT:Df true false:=⟨rfl⟩
instance dfF:Df false true:=⟨rfl⟩
theorem gW{d j t:Nat}{want b:Bool}(hd:o.dst=some d)(hn:d<n)(hg:o.guard=some (j,want))(hj:(ops[j]?).bind (·.dst)=some t)(ht:look t E=some (.bool b))[s:Sm b want](hy:Yld P o n E (·=w) v)(h:WL P n ops Q rest ((d,v)::E) w):WL P n ops Q (o::rest) E w:=WL.yldW hd hn hg hj (s.h▸ht) hy h
theorem gS{d j t:Nat}{want b:Bool}(hd:o.dst=some d)(hn:d<n)(hg:o.guard=some (j,want))(hj:(ops[j]?).bind (·.dst)=some t)(ht:look t E=some (.bool b))[s:Df b want](h:WL P n ops Q rest ((d,undef)::E) w):WL P n ops Q (o::rest) E w:=WL.skip hd hn hg hj ht s.h h
theorem qW{d j t:Nat}{want b:Bool}(hd:o.dst=some d)(hn:d<n)(hg:o.guard=some (j,want))(hj:(ops[j]?).bind (·.dst)=some t)(ht:look t E=some (.bool b))[s:Sm b want](hy:Yld P o n E C v)(h:WQ P n ops C Qq rest ((d,v)::E)):WQ P n ops C Qq (o::rest) E:=WQ.yldW hd hn hg hj (s.h▸ht) hy h
theorem qS{d j t:Nat}{want b:Bool}(hd:o.dst=some d)(hn:d<n)(hg:o.guard=some (j,want))(hj:(ops[j]?).bind (·.dst)=some t)(ht:look t E=some (.bool b))[s:Df b want](h:WQ P n ops C Qq rest ((d,undef)::E)):WQ P n ops C Qq (o::rest) E:=WQ.skip hd hn hg hj ht s.h h
end
attribute [irreducible] Kc
structure Wr(p:Prop):Prop where out:p
theorem G1{A B:Prop}(a:A)(h:Wr A→B:=by intro x;(first|(refine gO 0 ?_;first|(refine iNl ?_;first|refine kLz ?_|refine WL.nil ?_)|(refine iGz ?_;first|refine WL.skipU rfl (blt rfl) rfl rfl rfl ?_|refine gS rfl (blt rfl) rfl rfl rfl ?_|refine gW rfl (blt rfl) rfl rfl rfl (by first|exact jO 0 (Y.move rfl rfl)|exact jO 1 (Y.assign rfl rfl)|exact jO 2 (by first|exact ldV rfl rfl (bWe (bxb H)) Rf|exact ldV rfl rfl (bWe (Blk.ext (by assumption) H.ext)) Rf|exact ldB rfl rfl (bWe (bxb H))|exact ldB rfl rfl (bWe (Blk.ext (by assumption) H.ext))|exact ldG rfl rfl (lWe (rwl H)) Om (by infer_instance) Rf|exact ldG rfl rfl (lWe (Ls.ext Lb H.ext)) Om (by infer_instance) Rf|exact ldF rfl rfl (lWe (rwl H)) Om (by infer_instance)|exact ldF rfl rfl (lWe (Ls.ext Lb H.ext)) Om (by infer_instance))|exact jO 3 (by first|exact faK rfl Un.h rfl rfl|exact feK rfl Un.h rfl rfl)|exact jO 4 (by first|exact Y.indexLs _ (rwl H) rfl Un.h Tn.h rfl rfl rfl Om|exact Y.indexLs _ (Ls.ext Lb H.ext) rfl Un.h Tn.h rfl rfl rfl Om)|exact jO 5 (Y.extract rfl rfl rfl)|exact jO 6 (by first|exact Y.lenSl rfl rfl rfl Un.h rfl|exact Y.minI rfl rfl rfl rfl|exact Y.maxI rfl rfl rfl rfl)|exact jO 7 (by first|exact Y.lss rfl rfl rfl|exact Y.add rfl rfl rfl (wrap_i64 Oi)|exact Y.neq rfl rfl rfl|exact Y.eql rfl rfl rfl|exact Y.gtr rfl rfl rfl|exact Y.leq rfl rfl rfl|exact Y.geq rfl rfl rfl|exact Y.sub rfl rfl rfl (wrap_i64 Oi)|exact Y.mul rfl rfl rfl (wrap_i64 Oi)|exact Y.eqlStr rfl rfl rfl|exact Y.neqStr rfl rfl rfl)|exact jO 8 (Y.not rfl rfl)|exact jO 9 (by first|exact Y.or rfl rfl rfl rfl|exact Y.and rfl rfl rfl rfl)|exact jO 10 (buK rfl)|exact jO 11 (Y.nilCheck rfl rfl)|exact jO 12 (by first|exact Y.convInt rfl Un.h Un.h rfl (wrap_i64 Oi)|exact Y.convInt rfl Un.h Un.h rfl (wrap_u64 Oi))) ?_|refine gAz rfl (blt rfl) rfl rfl rfl (fun hb=>by first|exact jO 0 (Y.move rfl (ovg hb rfl))|exact jO 1 (Y.assign rfl (ovg hb rfl))|exact jO 2 (by first|exact ldV rfl (ovg hb rfl) (bWe (bxb H)) Rf|exact ldV rfl (ovg hb rfl) (bWe (Blk.ext (by assumption) H.ext)) Rf|exact ldB rfl (ovg hb rfl) (bWe (bxb H))|exact ldB rfl (ovg hb rfl) (bWe (Blk.ext (by assumption) H.ext))|exact ldG rfl (ovg hb rfl) (lWe (rwl H)) Og (by infer_instance) Rf|exact ldG rfl (ovg hb rfl) (lWe (Ls.ext Lb H.ext)) Og (by infer_instance) Rf|exact ldF rfl (ovg hb rfl) (lWe (rwl H)) Og (by infer_instance)|exact ldF rfl (ovg hb rfl) (lWe (Ls.ext Lb H.ext)) Og (by infer_instance))|exact jO 3 (by first|exact faK rfl Un.h rfl (ovg hb rfl)|exact feK rfl Un.h rfl (ovg hb rfl))|exact jO 4 (by first|exact Y.indexLs _ (rwl H) rfl Un.h Tn.h (ovg hb rfl) (ovg hb rfl) rfl Og|exact Y.indexLs _ (Ls.ext Lb H.ext) rfl Un.h Tn.h (ovg hb rfl) (ovg hb rfl) rfl Og)|exact jO 5 (Y.extract rfl (ovg hb rfl) rfl)|exact jO 6 (by first|exact Y.lenSl rfl rfl rfl Un.h (evs_cons (ovg hb rfl) evs_nil))|exact jO 7 (by first|exact Y.lss rfl (ovg hb rfl) (ovg hb rfl)|exact Y.add rfl (ovg hb rfl) (ovg hb rfl) (wrap_i64 Oh)|exact Y.neq rfl (ovg hb rfl) (ovg hb rfl)|exact Y.eql rfl (ovg hb rfl) (ovg hb rfl)|exact Y.gtr rfl (ovg hb rfl) (ovg hb rfl)|exact Y.leq rfl (ovg hb rfl) (ovg hb rfl)|exact Y.geq rfl (ovg hb rfl) (ovg hb rfl)|exact Y.sub rfl (ovg hb rfl) (ovg hb rfl) (wrap_i64 Oh)|exact Y.mul rfl (ovg hb rfl) (ovg hb rfl) (wrap_i64 Oh)|exact Y.eqlStr rfl (ovg hb rfl) (ovg hb rfl)|exact Y.neqStr rfl (ovg hb rfl) (ovg hb rfl))|exact jO 8 (Y.not rfl (ovg hb rfl))|exact jO 9 (by first|exact Y.or rfl (ovg hb rfl) rfl (ovg hb rfl)|exact Y.and rfl (ovg hb rfl) (ovg hb rfl) rfl)|exact jO 11 (Y.nilCheck rfl (ovg hb rfl))|exact jO 12 (by first|exact Y.convInt rfl Un.h Un.h (ovg hb rfl) (wrap_i64 Oh))) ?_)|refine yB rfl (blt rfl) rfl (by first|exact jO 0 (Y.move rfl rfl)|exact jO 1 (Y.assign rfl rfl)|exact jO 2 (by first|exact ldV rfl rfl (bWe (bxb H)) Rf|exact ldV rfl rfl (bWe (Blk.ext (by assumption) H.ext)) Rf|exact ldB rfl rfl (bWe (bxb H))|exact ldB rfl rfl (bWe (Blk.ext (by assumption) H.ext))|exact ldG rfl rfl (lWe (rwl H)) Om (by infer_instance) Rf|exact ldG rfl rfl (lWe (Ls.ext Lb H.ext)) Om (by infer_instance) Rf|exact ldF rfl rfl (lWe (rwl H)) Om (by infer_instance)|exact ldF rfl rfl (lWe (Ls.ext Lb H.ext)) Om (by infer_instance))|exact jO 3 (by first|exact faK rfl Un.h rfl rfl|exact feK rfl Un.h rfl rfl)|exact jO 4 (by first|exact Y.indexLs _ (rwl H) rfl Un.h Tn.h rfl rfl rfl Om|exact Y.indexLs _ (Ls.ext Lb H.ext) rfl Un.h Tn.h rfl rfl rfl Om)|exact jO 5 (Y.extract rfl rfl rfl)|exact jO 6 (by first|exact Y.lenSl rfl rfl rfl Un.h rfl|exact Y.minI rfl rfl rfl rfl|exact Y.maxI rfl rfl rfl rfl)|exact jO 7 (by first|exact Y.lss rfl rfl rfl|exact Y.add rfl rfl rfl (wrap_i64 Oi)|exact Y.neq rfl rfl rfl|exact Y.eql rfl rfl rfl|exact Y.gtr rfl rfl rfl|exact Y.leq rfl rfl rfl|exact Y.geq rfl rfl rfl|exact Y.sub rfl rfl rfl (wrap_i64 Oi)|exact Y.mul rfl rfl rfl (wrap_i64 Oi)|exact Y.eqlStr rfl rfl rfl|exact Y.neqStr rfl rfl rfl)|exact jO 8 (Y.not rfl rfl)|exact jO 9 (by first|exact Y.or rfl rfl rfl rfl|exact Y.and rfl rfl rfl rfl)|exact jO 10 (buK rfl)|exact jO 11 (Y.nilCheck rfl rfl)|exact jO 12 (by first|exact Y.convInt rfl Un.h Un.h rfl (wrap_i64 Oi)|exact Y.convInt rfl Un.h Un.h rfl (wrap_u64 Oi))) ?_)|(refine gO 1 ?_;first|(refine iHz ?_;first|refine WQ.skipU rfl (blt rfl) rfl rfl rfl ?_|refine qS rfl (blt rfl) rfl rfl rfl ?_|refine qW rfl (blt rfl) rfl rfl rfl (by first|exact jO 0 (Y.move rfl rfl)|exact jO 1 (Y.assign rfl rfl)|exact jO 2 (by first|exact ldV rfl rfl (bWx (bxb H)) Rf|exact ldV rfl rfl (bWx (Blk.ext (by assumption) H.ext)) Rf|exact ldB rfl rfl (bWx (bxb H))|exact ldB rfl rfl (bWx (Blk.ext (by assumption) H.ext))|exact ldG rfl rfl (lWx (rwl H)) Om (by infer_instance) Rf|exact ldG rfl rfl (lWx (Ls.ext Lb H.ext)) Om (by infer_instance) Rf|exact ldF rfl rfl (lWx (rwl H)) Om (by infer_instance)|exact ldF rfl rfl (lWx (Ls.ext Lb H.ext)) Om (by infer_instance))|exact jO 3 (by first|exact faK rfl Un.h rfl rfl|exact feK rfl Un.h rfl rfl)|exact jO 4 (by first|exact Y.indexLs _ (rwl H) rfl Un.h Tn.h rfl rfl rfl Om|exact Y.indexLs _ (Ls.ext Lb H.ext) rfl Un.h Tn.h rfl rfl rfl Om)|exact jO 5 (Y.extract rfl rfl rfl)|exact jO 6 (by first|exact Y.lenSl rfl rfl rfl Un.h rfl|exact Y.minI rfl rfl rfl rfl|exact Y.maxI rfl rfl rfl rfl)|exact jO 7 (by first|exact Y.lss rfl rfl rfl|exact Y.add rfl rfl rfl (wrap_i64 Oi)|exact Y.neq rfl rfl rfl|exact Y.eql rfl rfl rfl|exact Y.gtr rfl rfl rfl|exact Y.leq rfl rfl rfl|exact Y.geq rfl rfl rfl|exact Y.sub rfl rfl rfl (wrap_i64 Oi)|exact Y.mul rfl rfl rfl (wrap_i64 Oi)|exact Y.eqlStr rfl rfl rfl|exact Y.neqStr rfl rfl rfl)|exact jO 8 (Y.not rfl rfl)|exact jO 9 (by first|exact Y.or rfl rfl rfl rfl|exact Y.and rfl rfl rfl rfl)|exact jO 10 (buK rfl)|exact jO 11 (Y.nilCheck rfl rfl)|exact jO 12 (by first|exact Y.convInt rfl Un.h Un.h rfl (wrap_i64 Oi)|exact Y.convInt rfl Un.h Un.h rfl (wrap_u64 Oi))) ?_|refine qA rfl (blt rfl) rfl rfl rfl (fun hb=>by first|exact jO 0 (Y.move rfl (ovg hb rfl))|exact jO 1 (Y.assign rfl (ovg hb rfl))|exact jO 2 (by first|exact ldV rfl (ovg hb rfl) (bWx (bxb H)) Rf|exact ldV rfl (ovg hb rfl) (bWx (Blk.ext (by assumption) H.ext)) Rf|exact ldB rfl (ovg hb rfl) (bWx (bxb H))|exact ldB rfl (ovg hb rfl) (bWx (Blk.ext (by assumption) H.ext))|exact ldG rfl (ovg hb rfl) (lWx (rwl H)) Og (by infer_instance) Rf|exact ldG rfl (ovg hb rfl) (lWx (Ls.ext Lb H.ext)) Og (by infer_instance) Rf|exact ldF rfl (ovg hb rfl) (lWx (rwl H)) Og (by infer_instance)|exact ldF rfl (ovg hb rfl) (lWx (Ls.ext Lb H.ext)) Og (by infer_instance))|exact jO 3 (by first|exact faK rfl Un.h rfl (ovg hb rfl)|exact feK rfl Un.h rfl (ovg hb rfl))|exact jO 4 (by first|exact Y.indexLs _ (rwl H) rfl Un.h Tn.h (ovg hb rfl) (ovg hb rfl) rfl Og|exact Y.indexLs _ (Ls.ext Lb H.ext) rfl Un.h Tn.h (ovg hb rfl) (ovg hb rfl) rfl Og)|exact jO 5 (Y.extract rfl (ovg hb rfl) rfl)|exact jO 6 (by first|exact Y.lenSl rfl rfl rfl Un.h (evs_cons (ovg hb rfl) evs_nil))|exact jO 7 (by first|exact Y.lss rfl (ovg hb rfl) (ovg hb rfl)|exact Y.add rfl (ovg hb rfl) (ovg hb rfl) (wrap_i64 Oh)|exact Y.neq rfl (ovg hb rfl) (ovg hb rfl)|exact Y.eql rfl (ovg hb rfl) (ovg hb rfl)|exact Y.gtr rfl (ovg hb rfl) (ovg hb rfl)|exact Y.leq rfl (ovg hb rfl) (ovg hb rfl)|exact Y.geq rfl (ovg hb rfl) (ovg hb rfl)|exact Y.sub rfl (ovg hb rfl) (ovg hb rfl) (wrap_i64 Oh)|exact Y.mul rfl (ovg hb rfl) (ovg hb rfl) (wrap_i64 Oh)|exact Y.eqlStr rfl (ovg hb rfl) (ovg hb rfl)|exact Y.neqStr rfl (ovg hb rfl) (ovg hb rfl))|exact jO 8 (Y.not rfl (ovg hb rfl))|exact jO 9 (by first|exact Y.or rfl (ovg hb rfl) rfl (ovg hb rfl)|exact Y.and rfl (ovg hb rfl) (ovg hb rfl) rfl)|exact jO 11 (Y.nilCheck rfl (ovg hb rfl))|exact jO 12 (by first|exact Y.convInt rfl Un.h Un.h (ovg hb rfl) (wrap_i64 Oh))) ?_)|(refine iQz ?_;refine qB rfl (blt rfl) rfl (by first|exact jO 0 (Y.move rfl rfl)|exact jO 1 (Y.assign rfl rfl)|exact jO 2 (by first|exact ldV rfl rfl (bWx (bxb H)) Rf|exact ldV rfl rfl (bWx (Blk.ext (by assumption) H.ext)) Rf|exact ldB rfl rfl (bWx (bxb H))|exact ldB rfl rfl (bWx (Blk.ext (by assumption) H.ext))|exact ldG rfl rfl (lWx (rwl H)) Om (by infer_instance) Rf|exact ldG rfl rfl (lWx (Ls.ext Lb H.ext)) Om (by infer_instance) Rf|exact ldF rfl rfl (lWx (rwl H)) Om (by infer_instance)|exact ldF rfl rfl (lWx (Ls.ext Lb H.ext)) Om (by infer_instance))|exact jO 3 (by first|exact faK rfl Un.h rfl rfl|exact feK rfl Un.h rfl rfl)|exact jO 4 (by first|exact Y.indexLs _ (rwl H) rfl Un.h Tn.h rfl rfl rfl Om|exact Y.indexLs _ (Ls.ext Lb H.ext) rfl Un.h Tn.h rfl rfl rfl Om)|exact jO 5 (Y.extract rfl rfl rfl)|exact jO 6 (by first|exact Y.lenSl rfl rfl rfl Un.h rfl|exact Y.minI rfl rfl rfl rfl|exact Y.maxI rfl rfl rfl rfl)|exact jO 7 (by first|exact Y.lss rfl rfl rfl|exact Y.add rfl rfl rfl (wrap_i64 Oi)|exact Y.neq rfl rfl rfl|exact Y.eql rfl rfl rfl|exact Y.gtr rfl rfl rfl|exact Y.leq rfl rfl rfl|exact Y.geq rfl rfl rfl|exact Y.sub rfl rfl rfl (wrap_i64 Oi)|exact Y.mul rfl rfl rfl (wrap_i64 Oi)|exact Y.eqlStr rfl rfl rfl|exact Y.neqStr rfl rfl rfl)|exact jO 8 (Y.not rfl rfl)|exact jO 9 (by first|exact Y.or rfl rfl rfl rfl|exact Y.and rfl rfl rfl rfl)|exact jO 10 (buK rfl)|exact jO 11 (Y.nilCheck rfl rfl)|exact jO 12 (by first|exact Y.convInt rfl Un.h Un.h rfl (wrap_i64 Oi)|exact Y.convInt rfl Un.h Un.h rfl (wrap_u64 Oi))) ?_))|(refine gO 2 ?_;(refine iXz ?_;refine xA rfl rfl (blt rfl) rfl (by first|exact jO 0 (Y.move rfl rfl)|exact jO 1 (Y.assign rfl rfl)|exact jO 2 (by first|exact ldV rfl rfl (fun _ h=>bxb h) Rf|exact ldV rfl rfl (fun _ h=>Blk.ext (by assumption) (Hp.ext h)) Rf|exact ldB rfl rfl (fun _ h=>bxb h)|exact ldB rfl rfl (fun _ h=>Blk.ext (by assumption) (Hp.ext h))|exact ldG rfl rfl (fun _ h=>rwl h) Om (by infer_instance) Rf|exact ldG rfl rfl (fun _ h=>Ls.ext Lb (Hp.ext h)) Om (by infer_instance) Rf|exact ldF rfl rfl (fun _ h=>rwl h) Om (by infer_instance)|exact ldF rfl rfl (fun _ h=>Ls.ext Lb (Hp.ext h)) Om (by infer_instance))|exact jO 3 (by first|exact faK rfl Un.h rfl rfl|exact feK rfl Un.h rfl rfl)|exact jO 4 (by first|exact Y.indexLs _ (rwl H) rfl Un.h Tn.h rfl rfl rfl Om|exact Y.indexLs _ (Ls.ext Lb H.ext) rfl Un.h Tn.h rfl rfl rfl Om)|exact jO 5 (Y.extract rfl rfl rfl)|exact jO 6 (by first|exact Y.lenSl rfl rfl rfl Un.h rfl|exact Y.minI rfl rfl rfl rfl|exact Y.maxI rfl rfl rfl rfl)|exact jO 7 (by first|exact Y.lss rfl rfl rfl|exact Y.add rfl rfl rfl (wrap_i64 Oi)|exact Y.neq rfl rfl rfl|exact Y.eql rfl rfl rfl|exact Y.gtr rfl rfl rfl|exact Y.leq rfl rfl rfl|exact Y.geq rfl rfl rfl|exact Y.sub rfl rfl rfl (wrap_i64 Oi)|exact Y.mul rfl rfl rfl (wrap_i64 Oi)|exact Y.eqlStr rfl rfl rfl|exact Y.neqStr rfl rfl rfl)|exact jO 8 (Y.not rfl rfl)|exact jO 9 (by first|exact Y.or rfl rfl rfl rfl|exact Y.and rfl rfl rfl rfl)|exact jO 10 (buK rfl)|exact jO 11 (Y.nilCheck rfl rfl)|exact jO 12 (by first|exact Y.convInt rfl Un.h Un.h rfl (wrap_i64 Oi)|exact Y.convInt rfl Un.h Un.h rfl (wrap_u64 Oi))) ?_))|(refine gO 3 ?_;first|(refine iCz 1 ?_;refine WC.sg ?_)|(refine iCz 2 ?_;refine WC.sq ?_)|(refine iCz 3 ?_;refine WC.skip ?_)|(refine iCz 4 ?_;refine WC.block ?_)|(refine iCz 5 ?_;refine WC.region rfl ?_)|(refine iCz 6 ?_;refine WC.ret ?_)|(refine iCz 7 ?_;refine WC.exit ?_))|(refine gO 4 ?_;first|refine kNz ?_|refine kWz ?_));exact x.out):B:=h ⟨a⟩
theorem Kd{A B:Prop}(a:A)(h:Wr A→B:=by intro x;(first|refine Go.Eng.yy (Yld.cast (Y.neq rfl rfl rfl) (Go.Eng.vb (by first|rfl|decide))) ?_|refine Go.Eng.yy (Yld.cast (Y.eql rfl rfl rfl) (Go.Eng.vb (by first|rfl|decide))) ?_);exact x.out):B:=h ⟨a⟩
theorem go{A B:Prop}(a:A)(h:Wr A→B:=by intro x;(repeat refine Go.Eng.G1 ?_);exact x.out):B:=h ⟨a⟩
theorem G2{A B:Prop}(a:A)(h:Wr A→B:=by intro x;(iterate 2 refine Go.Eng.G1 ?_);exact x.out):B:=h ⟨a⟩
theorem G3{A B:Prop}(a:A)(h:Wr A→B:=by intro x;(iterate 3 refine Go.Eng.G1 ?_);exact x.out):B:=h ⟨a⟩
theorem G4{A B:Prop}(a:A)(h:Wr A→B:=by intro x;(iterate 4 refine Go.Eng.G1 ?_);exact x.out):B:=h ⟨a⟩
theorem G5{A B:Prop}(a:A)(h:Wr A→B:=by intro x;(iterate 5 refine Go.Eng.G1 ?_);exact x.out):B:=h ⟨a⟩
theorem G6{A B:Prop}(a:A)(h:Wr A→B:=by intro x;(iterate 6 refine Go.Eng.G1 ?_);exact x.out):B:=h ⟨a⟩
theorem G7{A B:Prop}(a:A)(h:Wr A→B:=by intro x;(iterate 7 refine Go.Eng.G1 ?_);exact x.out):B:=h ⟨a⟩
theorem G8{A B:Prop}(a:A)(h:Wr A→B:=by intro x;(iterate 8 refine Go.Eng.G1 ?_);exact x.out):B:=h ⟨a⟩
theorem G9{A B:Prop}(a:A)(h:Wr A→B:=by intro x;(iterate 9 refine Go.Eng.G1 ?_);exact x.out):B:=h ⟨a⟩
theorem G10{A B:Prop}(a:A)(h:Wr A→B:=by intro x;(iterate 10 refine Go.Eng.G1 ?_);exact x.out):B:=h ⟨a⟩
theorem G11{A B:Prop}(a:A)(h:Wr A→B:=by intro x;(iterate 11 refine Go.Eng.G1 ?_);exact x.out):B:=h ⟨a⟩
theorem G12{A B:Prop}(a:A)(h:Wr A→B:=by intro x;(iterate 12 refine Go.Eng.G1 ?_);exact x.out):B:=h ⟨a⟩
theorem G13{A B:Prop}(a:A)(h:Wr A→B:=by intro x;(iterate 13 refine Go.Eng.G1 ?_);exact x.out):B:=h ⟨a⟩
theorem G14{A B:Prop}(a:A)(h:Wr A→B:=by intro x;(iterate 14 refine Go.Eng.G1 ?_);exact x.out):B:=h ⟨a⟩
theorem G15{A B:Prop}(a:A)(h:Wr A→B:=by intro x;(iterate 15 refine Go.Eng.G1 ?_);exact x.out):B:=h ⟨a⟩
theorem G16{A B:Prop}(a:A)(h:Wr A→B:=by intro x;(iterate 16 refine Go.Eng.G1 ?_);exact x.out):B:=h ⟨a⟩
theorem G17{A B:Prop}(a:A)(h:Wr A→B:=by intro x;(iterate 17 refine Go.Eng.G1 ?_);exact x.out):B:=h ⟨a⟩
theorem G18{A B:Prop}(a:A)(h:Wr A→B:=by intro x;(iterate 18 refine Go.Eng.G1 ?_);exact x.out):B:=h ⟨a⟩
theorem G19{A B:Prop}(a:A)(h:Wr A→B:=by intro x;(iterate 19 refine Go.Eng.G1 ?_);exact x.out):B:=h ⟨a⟩
theorem G20{A B:Prop}(a:A)(h:Wr A→B:=by intro x;(iterate 20 refine Go.Eng.G1 ?_);exact x.out):B:=h ⟨a⟩
theorem G21{A B:Prop}(a:A)(h:Wr A→B:=by intro x;(iterate 21 refine Go.Eng.G1 ?_);exact x.out):B:=h ⟨a⟩
theorem G24{A B:Prop}(a:A)(h:Wr A→B:=by intro x;(iterate 24 refine Go.Eng.G1 ?_);exact x.out):B:=h ⟨a⟩
theorem G25{A B:Prop}(a:A)(h:Wr A→B:=by intro x;(iterate 25 refine Go.Eng.G1 ?_);exact x.out):B:=h ⟨a⟩
theorem G27{A B:Prop}(a:A)(h:Wr A→B:=by intro x;(iterate 27 refine Go.Eng.G1 ?_);exact x.out):B:=h ⟨a⟩
theorem G30{A B:Prop}(a:A)(h:Wr A→B:=by intro x;(iterate 30 refine Go.Eng.G1 ?_);exact x.out):B:=h ⟨a⟩
end Go.Eng
namespace Go.Proofs.YtaclfjjipnpboaaGreat
open Go Go.Eng Go.RowKit
abbrev Cr(f:FuncId)(A:Array Value)(w:World)(v:Value):Prop:=Calls Tryz.prog f A w fun e w'=>e= .returned v∧Ext w w'
namespace TW
abbrev u3:= @Tryz.underlying3
abbrev u4:= @Tryz.underlying4
abbrev u9:= @Tryz.underlying9
abbrev u22:= @Tryz.underlying22
abbrev u23:= @Tryz.underlying23
abbrev u24:= @Tryz.underlying24
abbrev u27:= @Tryz.underlying27
abbrev u29:= @Tryz.underlying29
abbrev u33:= @Tryz.underlying33
abbrev u34:= @Tryz.underlying34
abbrev u35:= @Tryz.underlying35
abbrev u36:= @Tryz.underlying36
abbrev u37:= @Tryz.underlying37
abbrev u38:= @Tryz.underlying38
abbrev u39:= @Tryz.underlying39
abbrev u40:= @Tryz.underlying40
abbrev u42:= @Tryz.underlying42
abbrev u46:= @Tryz.underlying46
abbrev u51:= @Tryz.underlying51
abbrev u53:= @Tryz.underlying53
abbrev u59:= @Tryz.underlying59
abbrev u62:= @Tryz.underlying62
abbrev u64:= @Tryz.underlying64
abbrev u65:= @Tryz.underlying65
abbrev u68:= @Tryz.underlying68
abbrev u73:= @Tryz.underlying73
abbrev u74:= @Tryz.underlying74
abbrev u81:= @Tryz.underlying81
abbrev u83:= @Tryz.underlying83
abbrev u85:= @Tryz.underlying85
abbrev u95:= @Tryz.underlying95
abbrev u96:= @Tryz.underlying96
abbrev u100:= @Tryz.underlying100
abbrev u106:= @Tryz.underlying106
abbrev u113:= @Tryz.underlying113
abbrev u115:= @Tryz.underlying115
abbrev u121:= @Tryz.underlying121
abbrev u123:= @Tryz.underlying123
abbrev u135:= @Tryz.underlying135
abbrev u137:= @Tryz.underlying137
abbrev u142:= @Tryz.underlying142
abbrev u143:= @Tryz.underlying143
abbrev u147:= @Tryz.underlying147
abbrev u151:= @Tryz.underlying151
abbrev u158:= @Tryz.underlying158
abbrev u160:= @Tryz.underlying160
abbrev u161:= @Tryz.underlying161
abbrev u167:= @Tryz.underlying167
abbrev u172:= @Tryz.underlying172
abbrev u176:= @Tryz.underlying176
abbrev u181:= @Tryz.underlying181
abbrev u191:= @Tryz.underlying191
abbrev u206:= @Tryz.underlying206
abbrev u213:= @Tryz.underlying213
abbrev u269:= @Tryz.underlying269
abbrev u270:= @Tryz.underlying270
abbrev u304:= @Tryz.underlying304
abbrev u338:= @Tryz.underlying338
abbrev u347:= @Tryz.underlying347
abbrev u352:= @Tryz.underlying352
abbrev u353:= @Tryz.underlying353
abbrev u376:= @Tryz.underlying376
abbrev u390:= @Tryz.underlying390
abbrev u410:= @Tryz.underlying410
abbrev u414:= @Tryz.underlying414
theorem ti3:TI Tryz.prog 3 (.int .i64 0) 1 8:=TI.mk (by kernel_rfl)
theorem ti4:TI Tryz.prog 4 (.bool false) 1 1:=TI.mk (by kernel_rfl)
theorem ti9:TI Tryz.prog 9 (.string ⟨#[]⟩) 1 16:=TI.mk (by kernel_rfl)
theorem ti22:TI Tryz.prog 22 (.slice none 0 0) 1 24:=TI.mk (by kernel_rfl)
theorem ti23:TI Tryz.prog 23 (.slice none 0 0) 1 24:=TI.mk (by kernel_rfl)
theorem ti24:TI Tryz.prog 24 (.slice none 0 0) 1 24:=TI.mk (by kernel_rfl)
theorem ti26:TI Tryz.prog 26 (.agg #[.slice none 0 0,.slice none 0 0,.slice none 0 0]) 3 72:=TI.mk (by kernel_rfl)
theorem ti27:TI Tryz.prog 27 (.slice none 0 0) 1 24:=TI.mk (by kernel_rfl)
theorem ti29:TI Tryz.prog 29 (.agg #[.slice none 0 0,.slice none 0 0,.slice none 0 0,.slice none 0 0]) 4 96:=TI.mk (by kernel_rfl)
theorem ti33:TI Tryz.prog 33 (.agg #[.int .i64 0,.int .i64 0]) 2 16:=TI.mk (by kernel_rfl)
theorem ti34:TI Tryz.prog 34 (.slice none 0 0) 1 24:=TI.mk (by kernel_rfl)
theorem ti35:TI Tryz.prog 35 (.slice none 0 0) 1 24:=TI.mk (by kernel_rfl)
theorem ti36:TI Tryz.prog 36 (.slice none 0 0) 1 24:=TI.mk (by kernel_rfl)
theorem ti37:TI Tryz.prog 37 (.slice none 0 0) 1 24:=TI.mk (by kernel_rfl)
theorem ti38:TI Tryz.prog 38 (.slice none 0 0) 1 24:=TI.mk (by kernel_rfl)
theorem ti39:TI Tryz.prog 39 (.slice none 0 0) 1 24:=TI.mk (by kernel_rfl)
theorem ti40:TI Tryz.prog 40 (.slice none 0 0) 1 24:=TI.mk (by kernel_rfl)
theorem ti42:TI Tryz.prog 42 (.agg #[.int .i64 0,.int .i64 0,.slice none 0 0,.slice none 0 0,.slice none 0 0,.slice none 0 0,.slice none 0 0,.slice none 0 0,.slice none 0 0,.slice none 0 0]) 10 208:=TI.mk (by kernel_rfl)
theorem ti51:TI Tryz.prog 51 (.slice none 0 0) 1 24:=TI.mk (by kernel_rfl)
theorem ti53:TI Tryz.prog 53 (.agg #[.int .i64 0,.int .i64 0,.int .i64 0,.slice none 0 0]) 4 48:=TI.mk (by kernel_rfl)
theorem ti57:TI Tryz.prog 57 (.agg #[.int .i64 0,.string ⟨#[]⟩,.int .i64 0]) 3 32:=TI.mk (by kernel_rfl)
theorem ti64:TI Tryz.prog 64 (.agg #[.int .i64 0,.int .i64 0]) 2 16:=TI.mk (by kernel_rfl)
theorem ti65:TI Tryz.prog 65 (.slice none 0 0) 1 24:=TI.mk (by kernel_rfl)
theorem ti68:TI Tryz.prog 68 (.slice none 0 0) 1 24:=TI.mk (by kernel_rfl)
theorem ti70:TI Tryz.prog 70 (.agg #[.int .i64 0,.int .i64 0,.int .i64 0,.slice none 0 0]) 4 48:=TI.mk (by kernel_rfl)
theorem ti73:TI Tryz.prog 73 (.agg #[.int .i64 0,.string ⟨#[]⟩,.int .i64 0,.int .i64 0,.int .i64 0]) 5 48:=TI.mk (by kernel_rfl)
theorem ti74:TI Tryz.prog 74 (.slice none 0 0) 1 24:=TI.mk (by kernel_rfl)
theorem ti78:TI Tryz.prog 78 (.agg #[.int .i64 0,.int .i64 0]) 2 16:=TI.mk (by kernel_rfl)
theorem ti79:TI Tryz.prog 79 (.int .i64 0) 1 8:=TI.mk (by kernel_rfl)
theorem ti81:TI Tryz.prog 81 (.agg #[.int .i64 0,.int .i64 0,.string ⟨#[]⟩,.int .i64 0,.int .i64 0,.slice none 0 0]) 6 72:=TI.mk (by kernel_rfl)
theorem ti83:TI Tryz.prog 83 (.agg #[.int .i64 0,.int .i64 0]) 2 16:=TI.mk (by kernel_rfl)
theorem ti85:TI Tryz.prog 85 (.agg #[.int .i64 0,.int .i64 0,.int .i64 0,.int .i64 0,.string ⟨#[]⟩,.int .i64 0,.int .i64 0,.slice none 0 0,.int .i64 0,.int .i64 0]) 10 104:=TI.mk (by kernel_rfl)
theorem ti95:TI Tryz.prog 95 (.pointer none) 1 8:=TI.mk (by kernel_rfl)
theorem ti96:TI Tryz.prog 96 (.map none) 1 8:=TI.mk (by kernel_rfl)
theorem ti98:TI Tryz.prog 98 (.agg #[.int .i64 0,.int .i64 0,.map none]) 3 24:=TI.mk (by kernel_rfl)
theorem ti100:TI Tryz.prog 100 (.agg #[.int .i64 0,.int .i64 0,.int .i64 0,.string ⟨#[]⟩,.int .i64 0,.int .i64 0,.int .i64 0,.bool false]) 8 72:=TI.mk (by kernel_rfl)
theorem ti113:TI Tryz.prog 113 (.agg #[.int .i64 0,.int .i64 0,.int .i64 0,.int .i64 0,.int .i64 0,.int .i64 0,.int .i64 0]) 7 56:=TI.mk (by kernel_rfl)
theorem ti121:TI Tryz.prog 121 (.agg #[.int .i64 0,.int .i64 0,.int .i64 0,.int .i64 0]) 4 32:=TI.mk (by kernel_rfl)
theorem ti123:TI Tryz.prog 123 (.map none) 1 8:=TI.mk (by kernel_rfl)
theorem ti134:TI Tryz.prog 134 (.agg #[.int .i64 0,.int .i64 0]) 2 16:=TI.mk (by kernel_rfl)
theorem ti135:TI Tryz.prog 135 (.slice none 0 0) 1 24:=TI.mk (by kernel_rfl)
theorem ti137:TI Tryz.prog 137 (.agg #[.map none,.slice none 0 0,.slice none 0 0]) 3 56:=TI.mk (by kernel_rfl)
theorem ti142:TI Tryz.prog 142 (.map none) 1 8:=TI.mk (by kernel_rfl)
theorem ti143:TI Tryz.prog 143 (.slice none 0 0) 1 24:=TI.mk (by kernel_rfl)
theorem ti145:TI Tryz.prog 145 (.agg #[.slice none 0 0,.map none]) 2 32:=TI.mk (by kernel_rfl)
theorem ti147:TI Tryz.prog 147 (.pointer none) 1 8:=TI.mk (by kernel_rfl)
theorem ti149:TI Tryz.prog 149 (.agg #[.slice none 0 0,.int .i64 0,.int .i64 0]) 3 40:=TI.mk (by kernel_rfl)
theorem ti151:TI Tryz.prog 151 (.pointer none) 1 8:=TI.mk (by kernel_rfl)
theorem ti153:TI Tryz.prog 153 (.agg #[.int .i64 0,.int .i64 0,.int .i64 0,.string ⟨#[]⟩,.int .i64 0,.int .i64 0,.int .i64 0,.bool false,.int .i64 0,.int .i64 0,.bool false]) 11 96:=TI.mk (by kernel_rfl)
theorem ti160:TI Tryz.prog 160 (.pointer none) 1 8:=TI.mk (by kernel_rfl)
theorem ti161:TI Tryz.prog 161 (.slice none 0 0) 1 24:=TI.mk (by kernel_rfl)
theorem ti163:TI Tryz.prog 163 (.agg #[.slice none 0 0,.int .i64 0,.int .i64 0]) 3 40:=TI.mk (by kernel_rfl)
theorem ti170:TI Tryz.prog 170 (.agg #[.int .i64 0,.int .i64 0,.int .i64 0,.int .i64 0,.int .i64 0,.int .i64 0,.int .i64 0]) 7 56:=TI.mk (by kernel_rfl)
theorem ti172:TI Tryz.prog 172 (.agg #[.string ⟨#[]⟩,.int .i64 0,.int .i64 0]) 3 32:=TI.mk (by kernel_rfl)
theorem ti176:TI Tryz.prog 176 (.agg #[.int .i64 0,.int .i64 0,.int .i64 0,.int .i64 0,.int .i64 0,.slice none 0 0,.bool false]) 7 72:=TI.mk (by kernel_rfl)
theorem ti183:TI Tryz.prog 183 (.agg #[.int .i64 0,.int .i64 0]) 2 16:=TI.mk (by kernel_rfl)
theorem ti186:TI Tryz.prog 186 (.agg #[.int .i64 0,.int .i64 0,.int .i64 0,.int .i64 0]) 4 32:=TI.mk (by kernel_rfl)
theorem ti206:TI Tryz.prog 206 (.agg #[.int .i64 0,.int .i64 0,.int .i64 0,.int .i64 0,.int .i64 0]) 5 40:=TI.mk (by kernel_rfl)
theorem ti269:TI Tryz.prog 269 (.slice none 0 0) 1 24:=TI.mk (by kernel_rfl)
theorem ti270:TI Tryz.prog 270 (.map none) 1 8:=TI.mk (by kernel_rfl)
theorem ti272:TI Tryz.prog 272 (.agg #[.slice none 0 0,.slice none 0 0,.slice none 0 0,.slice none 0 0,.slice none 0 0,.map none,.slice none 0 0,.slice none 0 0]) 8 176:=TI.mk (by kernel_rfl)
theorem ti347:TI Tryz.prog 347 (.agg #[.int .i64 0,.int .i64 0,.int .i64 0,.int .i64 0,.int .i64 0]) 5 40:=TI.mk (by kernel_rfl)
theorem ti352:TI Tryz.prog 352 (.map none) 1 8:=TI.mk (by kernel_rfl)
theorem ti353:TI Tryz.prog 353 (.slice none 0 0) 1 24:=TI.mk (by kernel_rfl)
theorem ti355:TI Tryz.prog 355 (.agg #[.map none,.slice none 0 0]) 2 32:=TI.mk (by kernel_rfl)
theorem ti360:TI Tryz.prog 360 (.agg #[.int .i64 0,.int .i64 0,.int .i64 0]) 3 24:=TI.mk (by kernel_rfl)
theorem ti363:TI Tryz.prog 363 (.agg #[.int .i64 0,.int .i64 0]) 2 16:=TI.mk (by kernel_rfl)
theorem ti391:TI Tryz.prog 391 (.pointer none) 1 8:=TI.mk (by kernel_rfl)
theorem ti393:TI Tryz.prog 393 (.agg #[.int .i64 0,.int .i64 0]) 2 16:=TI.mk (by kernel_rfl)
theorem ti410:TI Tryz.prog 410 (.agg #[.string ⟨#[]⟩,.bool false,.bool false,.bool false,.bool false,.int .i64 0,.int .i64 0,.int .i64 0,.int .i64 0]) 9 56:=TI.mk (by kernel_rfl)
theorem pl26:PL Tryz.prog 26 [.slice none 0 0,.slice none 0 0,.slice none 0 0] [(0,1),(1,1),(2,1)]:=PL.mk (zero:=[.slice none 0 0,.slice none 0 0,.slice none 0 0]) ti26 Tryz.underlying26 (by kernel_rfl)
theorem pl29:PL Tryz.prog 29 [.slice none 0 0,.slice none 0 0,.slice none 0 0,.slice none 0 0] [(0,3),(3,1)]:=PL.mk (zero:=[.slice none 0 0,.slice none 0 0,.slice none 0 0,.slice none 0 0]) ti29 Tryz.underlying29 (by kernel_rfl)
theorem pl33:PL Tryz.prog 33 [.int .i64 0,.int .i64 0] [(0,1),(1,1)]:=PL.mk (zero:=[.int .i64 0,.int .i64 0]) ti33 Tryz.underlying33 (by kernel_rfl)
theorem pl42:PL Tryz.prog 42 [.int .i64 0,.int .i64 0,.slice none 0 0,.slice none 0 0,.slice none 0 0,.slice none 0 0,.slice none 0 0,.slice none 0 0,.slice none 0 0,.slice none 0 0] [(0,2),(2,1),(3,1),(4,1),(5,1),(6,1),(7,1),(8,1),(9,1)]:=PL.mk (zero:=[.int .i64 0,.int .i64 0,.slice none 0 0,.slice none 0 0,.slice none 0 0,.slice none 0 0,.slice none 0 0,.slice none 0 0,.slice none 0 0,.slice none 0 0]) ti42 Tryz.underlying42 (by kernel_rfl)
theorem pl53:PL Tryz.prog 53 [.int .i64 0,.int .i64 0,.int .i64 0,.slice none 0 0] [(0,1),(1,1),(2,1),(3,1)]:=PL.mk (zero:=[.int .i64 0,.int .i64 0,.int .i64 0,.slice none 0 0]) ti53 Tryz.underlying53 (by kernel_rfl)
theorem pl57:PL Tryz.prog 57 [.int .i64 0,.string ⟨#[]⟩,.int .i64 0] [(0,1),(1,1),(2,1)]:=PL.mk (zero:=[.int .i64 0,.string ⟨#[]⟩,.int .i64 0]) ti57 Tryz.underlying57 (by kernel_rfl)
theorem pl70:PL Tryz.prog 70 [.int .i64 0,.int .i64 0,.int .i64 0,.slice none 0 0] [(0,1),(1,1),(2,1),(3,1)]:=PL.mk (zero:=[.int .i64 0,.int .i64 0,.int .i64 0,.slice none 0 0]) ti70 Tryz.underlying70 (by kernel_rfl)
theorem pl73:PL Tryz.prog 73 [.int .i64 0,.string ⟨#[]⟩,.int .i64 0,.int .i64 0,.int .i64 0] [(0,1),(1,1),(2,1),(3,1),(4,1)]:=PL.mk (zero:=[.int .i64 0,.string ⟨#[]⟩,.int .i64 0,.int .i64 0,.int .i64 0]) ti73 Tryz.underlying73 (by kernel_rfl)
theorem pl78:PL Tryz.prog 78 [.int .i64 0,.int .i64 0] [(0,1),(1,1)]:=PL.mk (zero:=[.int .i64 0,.int .i64 0]) ti78 Tryz.underlying78 (by kernel_rfl)
theorem pl81:PL Tryz.prog 81 [.int .i64 0,.int .i64 0,.string ⟨#[]⟩,.int .i64 0,.int .i64 0,.slice none 0 0] [(0,1),(1,1),(2,1),(3,1),(4,1),(5,1)]:=PL.mk (zero:=[.int .i64 0,.int .i64 0,.string ⟨#[]⟩,.int .i64 0,.int .i64 0,.slice none 0 0]) ti81 Tryz.underlying81 (by kernel_rfl)
theorem pl83:PL Tryz.prog 83 [.int .i64 0,.int .i64 0] [(0,1),(1,1)]:=PL.mk (zero:=[.int .i64 0,.int .i64 0]) ti83 Tryz.underlying83 (by kernel_rfl)
theorem pl85:PL Tryz.prog 85 [.int .i64 0,.int .i64 0,.int .i64 0,.int .i64 0,.string ⟨#[]⟩,.int .i64 0,.int .i64 0,.slice none 0 0,.int .i64 0,.int .i64 0] [(0,2),(2,6),(8,2)]:=PL.mk (zero:=[.int .i64 0,.int .i64 0,.int .i64 0,.int .i64 0,.string ⟨#[]⟩,.int .i64 0,.int .i64 0,.slice none 0 0,.int .i64 0,.int .i64 0]) ti85 Tryz.underlying85 (by kernel_rfl)
theorem pl98:PL Tryz.prog 98 [.int .i64 0,.int .i64 0,.map none] [(0,1),(1,1),(2,1)]:=PL.mk (zero:=[.int .i64 0,.int .i64 0,.map none]) ti98 Tryz.underlying98 (by kernel_rfl)
theorem pl100:PL Tryz.prog 100 [.int .i64 0,.int .i64 0,.int .i64 0,.string ⟨#[]⟩,.int .i64 0,.int .i64 0,.int .i64 0,.bool false] [(0,1),(1,1),(2,1),(3,1),(4,2),(6,1),(7,1)]:=PL.mk (zero:=[.int .i64 0,.int .i64 0,.int .i64 0,.string ⟨#[]⟩,.int .i64 0,.int .i64 0,.int .i64 0,.bool false]) ti100 Tryz.underlying100 (by kernel_rfl)
theorem pl113:PL Tryz.prog 113 [.int .i64 0,.int .i64 0,.int .i64 0,.int .i64 0,.int .i64 0,.int .i64 0,.int .i64 0] [(0,1),(1,1),(2,2),(4,1),(5,1),(6,1)]:=PL.mk (zero:=[.int .i64 0,.int .i64 0,.int .i64 0,.int .i64 0,.int .i64 0,.int .i64 0,.int .i64 0]) ti113 Tryz.underlying113 (by kernel_rfl)
theorem pl121:PL Tryz.prog 121 [.int .i64 0,.int .i64 0,.int .i64 0,.int .i64 0] [(0,1),(1,1),(2,2)]:=PL.mk (zero:=[.int .i64 0,.int .i64 0,.int .i64 0,.int .i64 0]) ti121 Tryz.underlying121 (by kernel_rfl)
theorem pl134:PL Tryz.prog 134 [.int .i64 0,.int .i64 0] [(0,1),(1,1)]:=PL.mk (zero:=[.int .i64 0,.int .i64 0]) ti134 Tryz.underlying134 (by kernel_rfl)
theorem pl137:PL Tryz.prog 137 [.map none,.slice none 0 0,.slice none 0 0] [(0,1),(1,1),(2,1)]:=PL.mk (zero:=[.map none,.slice none 0 0,.slice none 0 0]) ti137 Tryz.underlying137 (by kernel_rfl)
theorem pl145:PL Tryz.prog 145 [.slice none 0 0,.map none] [(0,1),(1,1)]:=PL.mk (zero:=[.slice none 0 0,.map none]) ti145 Tryz.underlying145 (by kernel_rfl)
theorem pl149:PL Tryz.prog 149 [.slice none 0 0,.int .i64 0,.int .i64 0] [(0,1),(1,1),(2,1)]:=PL.mk (zero:=[.slice none 0 0,.int .i64 0,.int .i64 0]) ti149 Tryz.underlying149 (by kernel_rfl)
theorem pl153:PL Tryz.prog 153 [.int .i64 0,.int .i64 0,.int .i64 0,.string ⟨#[]⟩,.int .i64 0,.int .i64 0,.int .i64 0,.bool false,.int .i64 0,.int .i64 0,.bool false] [(0,8),(8,1),(9,1),(10,1)]:=PL.mk (zero:=[.int .i64 0,.int .i64 0,.int .i64 0,.string ⟨#[]⟩,.int .i64 0,.int .i64 0,.int .i64 0,.bool false,.int .i64 0,.int .i64 0,.bool false]) ti153 Tryz.underlying153 (by kernel_rfl)
theorem pl163:PL Tryz.prog 163 [.slice none 0 0,.int .i64 0,.int .i64 0] [(0,1),(1,1),(2,1)]:=PL.mk (zero:=[.slice none 0 0,.int .i64 0,.int .i64 0]) ti163 Tryz.underlying163 (by kernel_rfl)
theorem pl170:PL Tryz.prog 170 [.int .i64 0,.int .i64 0,.int .i64 0,.int .i64 0,.int .i64 0,.int .i64 0,.int .i64 0] [(0,1),(1,2),(3,2),(5,1),(6,1)]:=PL.mk (zero:=[.int .i64 0,.int .i64 0,.int .i64 0,.int .i64 0,.int .i64 0,.int .i64 0,.int .i64 0]) ti170 Tryz.underlying170 (by kernel_rfl)
theorem pl172:PL Tryz.prog 172 [.string ⟨#[]⟩,.int .i64 0,.int .i64 0] [(0,1),(1,1),(2,1)]:=PL.mk (zero:=[.string ⟨#[]⟩,.int .i64 0,.int .i64 0]) ti172 Tryz.underlying172 (by kernel_rfl)
theorem pl176:PL Tryz.prog 176 [.int .i64 0,.int .i64 0,.int .i64 0,.int .i64 0,.int .i64 0,.slice none 0 0,.bool false] [(0,1),(1,1),(2,1),(3,2),(5,1),(6,1)]:=PL.mk (zero:=[.int .i64 0,.int .i64 0,.int .i64 0,.int .i64 0,.int .i64 0,.slice none 0 0,.bool false]) ti176 Tryz.underlying176 (by kernel_rfl)
theorem pl183:PL Tryz.prog 183 [.int .i64 0,.int .i64 0] [(0,1),(1,1)]:=PL.mk (zero:=[.int .i64 0,.int .i64 0]) ti183 Tryz.underlying183 (by kernel_rfl)
theorem pl186:PL Tryz.prog 186 [.int .i64 0,.int .i64 0,.int .i64 0,.int .i64 0] [(0,1),(1,2),(3,1)]:=PL.mk (zero:=[.int .i64 0,.int .i64 0,.int .i64 0,.int .i64 0]) ti186 Tryz.underlying186 (by kernel_rfl)
theorem pl206:PL Tryz.prog 206 [.int .i64 0,.int .i64 0,.int .i64 0,.int .i64 0,.int .i64 0] [(0,1),(1,1),(2,1),(3,1),(4,1)]:=PL.mk (zero:=[.int .i64 0,.int .i64 0,.int .i64 0,.int .i64 0,.int .i64 0]) ti206 Tryz.underlying206 (by kernel_rfl)
theorem pl272:PL Tryz.prog 272 [.slice none 0 0,.slice none 0 0,.slice none 0 0,.slice none 0 0,.slice none 0 0,.map none,.slice none 0 0,.slice none 0 0] [(0,4),(4,1),(5,1),(6,1),(7,1)]:=PL.mk (zero:=[.slice none 0 0,.slice none 0 0,.slice none 0 0,.slice none 0 0,.slice none 0 0,.map none,.slice none 0 0,.slice none 0 0]) ti272 Tryz.underlying272 (by kernel_rfl)
theorem pl355:PL Tryz.prog 355 [.map none,.slice none 0 0] [(0,1),(1,1)]:=PL.mk (zero:=[.map none,.slice none 0 0]) ti355 Tryz.underlying355 (by kernel_rfl)
theorem pl360:PL Tryz.prog 360 [.int .i64 0,.int .i64 0,.int .i64 0] [(0,1),(1,1),(2,1)]:=PL.mk (zero:=[.int .i64 0,.int .i64 0,.int .i64 0]) ti360 Tryz.underlying360 (by kernel_rfl)
theorem pl363:PL Tryz.prog 363 [.int .i64 0,.int .i64 0] [(0,1),(1,1)]:=PL.mk (zero:=[.int .i64 0,.int .i64 0]) ti363 Tryz.underlying363 (by kernel_rfl)
theorem pl393:PL Tryz.prog 393 [.int .i64 0,.int .i64 0] [(0,1),(1,1)]:=PL.mk (zero:=[.int .i64 0,.int .i64 0]) ti393 Tryz.underlying393 (by kernel_rfl)
theorem pl410:PL Tryz.prog 410 [.string ⟨#[]⟩,.bool false,.bool false,.bool false,.bool false,.int .i64 0,.int .i64 0,.int .i64 0,.int .i64 0] [(0,1),(1,1),(2,1),(3,1),(4,1),(5,1),(6,1),(7,1),(8,1)]:=PL.mk (zero:=[.string ⟨#[]⟩,.bool false,.bool false,.bool false,.bool false,.int .i64 0,.int .i64 0,.int .i64 0,.int .i64 0]) ti410 Tryz.underlying410 (by kernel_rfl)
abbrev iu3:=Un.mk (t:=3) Tryz.underlying3
abbrev iu4:=Un.mk (t:=4) Tryz.underlying4
abbrev iu9:=Un.mk (t:=9) Tryz.underlying9
abbrev iu22:=Un.mk (t:=22) Tryz.underlying22
abbrev iu23:=Un.mk (t:=23) Tryz.underlying23
abbrev iu24:=Un.mk (t:=24) Tryz.underlying24
abbrev iu26:=Un.mk (t:=26) Tryz.underlying26
abbrev iu27:=Un.mk (t:=27) Tryz.underlying27
abbrev iu29:=Un.mk (t:=29) Tryz.underlying29
abbrev iu33:=Un.mk (t:=33) Tryz.underlying33
abbrev iu34:=Un.mk (t:=34) Tryz.underlying34
abbrev iu35:=Un.mk (t:=35) Tryz.underlying35
abbrev iu36:=Un.mk (t:=36) Tryz.underlying36
abbrev iu37:=Un.mk (t:=37) Tryz.underlying37
abbrev iu38:=Un.mk (t:=38) Tryz.underlying38
abbrev iu39:=Un.mk (t:=39) Tryz.underlying39
abbrev iu40:=Un.mk (t:=40) Tryz.underlying40
abbrev iu42:=Un.mk (t:=42) Tryz.underlying42
abbrev iu46:=Un.mk (t:=46) Tryz.underlying46
abbrev iu51:=Un.mk (t:=51) Tryz.underlying51
abbrev iu53:=Un.mk (t:=53) Tryz.underlying53
abbrev iu57:=Un.mk (t:=57) Tryz.underlying57
abbrev iu59:=Un.mk (t:=59) Tryz.underlying59
abbrev iu62:=Un.mk (t:=62) Tryz.underlying62
abbrev iu64:=Un.mk (t:=64) Tryz.underlying64
abbrev iu65:=Un.mk (t:=65) Tryz.underlying65
abbrev iu68:=Un.mk (t:=68) Tryz.underlying68
abbrev iu70:=Un.mk (t:=70) Tryz.underlying70
abbrev iu73:=Un.mk (t:=73) Tryz.underlying73
abbrev iu74:=Un.mk (t:=74) Tryz.underlying74
abbrev iu78:=Un.mk (t:=78) Tryz.underlying78
abbrev iu79:=Un.mk (t:=79) Tryz.underlying79
abbrev iu81:=Un.mk (t:=81) Tryz.underlying81
abbrev iu83:=Un.mk (t:=83) Tryz.underlying83
abbrev iu85:=Un.mk (t:=85) Tryz.underlying85
abbrev iu95:=Un.mk (t:=95) Tryz.underlying95
abbrev iu96:=Un.mk (t:=96) Tryz.underlying96
abbrev iu98:=Un.mk (t:=98) Tryz.underlying98
abbrev iu100:=Un.mk (t:=100) Tryz.underlying100
abbrev iu106:=Un.mk (t:=106) Tryz.underlying106
abbrev iu113:=Un.mk (t:=113) Tryz.underlying113
abbrev iu115:=Un.mk (t:=115) Tryz.underlying115
abbrev iu121:=Un.mk (t:=121) Tryz.underlying121
abbrev iu123:=Un.mk (t:=123) Tryz.underlying123
abbrev iu134:=Un.mk (t:=134) Tryz.underlying134
abbrev iu135:=Un.mk (t:=135) Tryz.underlying135
abbrev iu137:=Un.mk (t:=137) Tryz.underlying137
abbrev iu142:=Un.mk (t:=142) Tryz.underlying142
abbrev iu143:=Un.mk (t:=143) Tryz.underlying143
abbrev iu145:=Un.mk (t:=145) Tryz.underlying145
abbrev iu147:=Un.mk (t:=147) Tryz.underlying147
abbrev iu149:=Un.mk (t:=149) Tryz.underlying149
abbrev iu151:=Un.mk (t:=151) Tryz.underlying151
abbrev iu153:=Un.mk (t:=153) Tryz.underlying153
abbrev iu158:=Un.mk (t:=158) Tryz.underlying158
abbrev iu160:=Un.mk (t:=160) Tryz.underlying160
abbrev iu161:=Un.mk (t:=161) Tryz.underlying161
abbrev iu163:=Un.mk (t:=163) Tryz.underlying163
abbrev iu167:=Un.mk (t:=167) Tryz.underlying167
abbrev iu170:=Un.mk (t:=170) Tryz.underlying170
abbrev iu172:=Un.mk (t:=172) Tryz.underlying172
abbrev iu176:=Un.mk (t:=176) Tryz.underlying176
abbrev iu181:=Un.mk (t:=181) Tryz.underlying181
abbrev iu183:=Un.mk (t:=183) Tryz.underlying183
abbrev iu186:=Un.mk (t:=186) Tryz.underlying186
abbrev iu191:=Un.mk (t:=191) Tryz.underlying191
abbrev iu199:=Un.mk (t:=199) Tryz.underlying199
abbrev iu206:=Un.mk (t:=206) Tryz.underlying206
abbrev iu213:=Un.mk (t:=213) Tryz.underlying213
abbrev iu266:=Un.mk (t:=266) Tryz.underlying266
abbrev iu269:=Un.mk (t:=269) Tryz.underlying269
abbrev iu270:=Un.mk (t:=270) Tryz.underlying270
abbrev iu272:=Un.mk (t:=272) Tryz.underlying272
abbrev iu304:=Un.mk (t:=304) Tryz.underlying304
abbrev iu338:=Un.mk (t:=338) Tryz.underlying338
abbrev iu347:=Un.mk (t:=347) Tryz.underlying347
abbrev iu352:=Un.mk (t:=352) Tryz.underlying352
abbrev iu353:=Un.mk (t:=353) Tryz.underlying353
abbrev iu355:=Un.mk (t:=355) Tryz.underlying355
abbrev iu360:=Un.mk (t:=360) Tryz.underlying360
abbrev iu363:=Un.mk (t:=363) Tryz.underlying363
abbrev iu376:=Un.mk (t:=376) Tryz.underlying376
abbrev iu390:=Un.mk (t:=390) Tryz.underlying390
abbrev iu393:=Un.mk (t:=393) Tryz.underlying393
abbrev iu410:=Un.mk (t:=410) Tryz.underlying410
abbrev iu414:=Un.mk (t:=414) Tryz.underlying414
abbrev it3:=Tn.mk ti3
abbrev it4:=Tn.mk ti4
abbrev it9:=Tn.mk ti9
abbrev it22:=Tn.mk ti22
abbrev it23:=Tn.mk ti23
abbrev it24:=Tn.mk ti24
abbrev it26:=Tn.mk ti26
abbrev it27:=Tn.mk ti27
abbrev it29:=Tn.mk ti29
abbrev it33:=Tn.mk ti33
abbrev it34:=Tn.mk ti34
abbrev it35:=Tn.mk ti35
abbrev it36:=Tn.mk ti36
abbrev it37:=Tn.mk ti37
abbrev it38:=Tn.mk ti38
abbrev it39:=Tn.mk ti39
abbrev it40:=Tn.mk ti40
abbrev it42:=Tn.mk ti42
abbrev it51:=Tn.mk ti51
abbrev it53:=Tn.mk ti53
abbrev it57:=Tn.mk ti57
abbrev it64:=Tn.mk ti64
abbrev it65:=Tn.mk ti65
abbrev it68:=Tn.mk ti68
abbrev it70:=Tn.mk ti70
abbrev it73:=Tn.mk ti73
abbrev it74:=Tn.mk ti74
abbrev it78:=Tn.mk ti78
abbrev it79:=Tn.mk ti79
abbrev it81:=Tn.mk ti81
abbrev it83:=Tn.mk ti83
abbrev it85:=Tn.mk ti85
abbrev it95:=Tn.mk ti95
abbrev it96:=Tn.mk ti96
abbrev it98:=Tn.mk ti98
abbrev it100:=Tn.mk ti100
abbrev it113:=Tn.mk ti113
abbrev it121:=Tn.mk ti121
abbrev it123:=Tn.mk ti123
abbrev it134:=Tn.mk ti134
abbrev it135:=Tn.mk ti135
abbrev it137:=Tn.mk ti137
abbrev it142:=Tn.mk ti142
abbrev it143:=Tn.mk ti143
abbrev it145:=Tn.mk ti145
abbrev it147:=Tn.mk ti147
abbrev it149:=Tn.mk ti149
abbrev it151:=Tn.mk ti151
abbrev it153:=Tn.mk ti153
abbrev it160:=Tn.mk ti160
abbrev it161:=Tn.mk ti161
abbrev it163:=Tn.mk ti163
abbrev it170:=Tn.mk ti170
abbrev it172:=Tn.mk ti172
abbrev it176:=Tn.mk ti176
abbrev it183:=Tn.mk ti183
abbrev it186:=Tn.mk ti186
abbrev it206:=Tn.mk ti206
abbrev it269:=Tn.mk ti269
abbrev it270:=Tn.mk ti270
abbrev it272:=Tn.mk ti272
abbrev it347:=Tn.mk ti347
abbrev it352:=Tn.mk ti352
abbrev it353:=Tn.mk ti353
abbrev it355:=Tn.mk ti355
abbrev it360:=Tn.mk ti360
abbrev it363:=Tn.mk ti363
abbrev it391:=Tn.mk ti391
abbrev it393:=Tn.mk ti393
abbrev it410:=Tn.mk ti410
abbrev ip26:=Pn.mk pl26
abbrev ip29:=Pn.mk pl29
abbrev ip33:=Pn.mk pl33
abbrev ip42:=Pn.mk pl42
abbrev ip53:=Pn.mk pl53
abbrev ip57:=Pn.mk pl57
abbrev ip70:=Pn.mk pl70
abbrev ip73:=Pn.mk pl73
abbrev ip78:=Pn.mk pl78
abbrev ip81:=Pn.mk pl81
abbrev ip83:=Pn.mk pl83
abbrev ip85:=Pn.mk pl85
abbrev ip98:=Pn.mk pl98
abbrev ip100:=Pn.mk pl100
abbrev ip113:=Pn.mk pl113
abbrev ip121:=Pn.mk pl121
abbrev ip134:=Pn.mk pl134
abbrev ip137:=Pn.mk pl137
abbrev ip145:=Pn.mk pl145
abbrev ip149:=Pn.mk pl149
abbrev ip153:=Pn.mk pl153
abbrev ip163:=Pn.mk pl163
abbrev ip170:=Pn.mk pl170
abbrev ip172:=Pn.mk pl172
abbrev ip176:=Pn.mk pl176
abbrev ip183:=Pn.mk pl183
abbrev ip186:=Pn.mk pl186
abbrev ip206:=Pn.mk pl206
abbrev ip272:=Pn.mk pl272
abbrev ip355:=Pn.mk pl355
abbrev ip360:=Pn.mk pl360
abbrev ip363:=Pn.mk pl363
abbrev ip393:=Pn.mk pl393
abbrev ip410:=Pn.mk pl410
attribute [instance] iu3 iu4 iu9 iu22 iu23 iu24 iu26 iu27 iu29 iu33 iu34 iu35 iu36 iu37 iu38 iu39 iu40 iu42 iu46 iu51 iu53 iu57 iu59 iu62 iu64 iu65 iu68 iu70 iu73 iu74 iu78 iu79 iu81 iu83 iu85 iu95 iu96 iu98 iu100 iu106 iu113 iu115 iu121 iu123 iu134 iu135 iu137 iu142 iu143 iu145 iu147 iu149 iu151 iu153 iu158 iu160 iu161 iu163 iu167 iu170 iu172 iu176 iu181 iu183 iu186 iu191 iu199 iu206 iu213 iu266 iu269 iu270 iu272 iu304 iu338 iu347 iu352 iu353 iu355 iu360 iu363 iu376 iu390 iu393 iu410 iu414 it3 it4 it9 it22 it23 it24 it26 it27 it29 it33 it34 it35 it36 it37 it38 it39 it40 it42 it51 it53 it57 it64 it65 it68 it70 it73 it74 it78 it79 it81 it83 it85 it95 it96 it98 it100 it113 it121 it123 it134 it135 it137 it142 it143 it145 it147 it149 it151 it153 it160 it161 it163 it170 it172 it176 it183 it186 it206 it269 it270 it272 it347 it352 it353 it355 it360 it363 it391 it393 it410 ip26 ip29 ip33 ip42 ip53 ip57 ip70 ip73 ip78 ip81 ip83 ip85 ip98 ip100 ip113 ip121 ip134 ip137 ip145 ip149 ip153 ip163 ip170 ip172 ip176 ip183 ip186 ip206 ip272 ip355 ip360 ip363 ip393 ip410
end TW
end Go.Proofs.YtaclfjjipnpboaaGreat
namespace Go.Proofs.YtaclfjjipnpboaaGreat
open Go Go.Eng Go.RowKit
namespace TW

structure Tm where(th sr at_ kd:Int)(nm:ByteArray)(n m:Int)(A:Option Addr)(k c_:Nat)(st:List ByteArray)(lo hi:Int)
instance:Inhabited Tm:=⟨⟨0,0,0,0,⟨#[]⟩,0,0,none,0,0,[],0,0⟩⟩
def Tm.c(x:Tm):List Value:=[.int .i64 x.th,.int .i64 x.sr,.int .i64 x.at_,.int .i64 x.kd,.string x.nm,.int .i64 x.n,.int .i64 x.m,.slice x.A x.k x.c_,.int .i64 x.lo,.int .i64 x.hi]
theorem Tm.one(x:Tm):∀u∈x.c,u.oneCell'=true:=by simp[Tm.c,Value.oneCell']
def clk(x:Int):Int:=max 0 (min x 1000000000000)
structure Ch where(t s cpu on by_:Int)
instance:Inhabited Ch:=⟨⟨0,0,0,0,0⟩⟩
def Ch.c(x:Ch):List Value:=[.int .i64 x.t,.int .i64 x.s,.int .i64 x.cpu,.int .i64 x.on,.int .i64 x.by_]
theorem Ch.one(x:Ch):∀u∈x.c,u.oneCell'=true:=by simp[Ch.c,Value.oneCell']
def popK(l:Int)(cs:List Ch):Nat→Nat
 |0=>0
 |1=>1
 |k+2=>if cs[k+1]!.t>l then popK l cs (k+1)else k+2
theorem popK_le(l:Int)(cs:List Ch):∀k,popK l cs k≤k
 |0=>Nat.le_refl _
 |1=>Nat.le_refl _
 |k+2=>by unfold popK;split;exact Nat.le_succ_of_le (popK_le l cs (k+1));omega
theorem popK_step{l:Int}{cs:List Ch}{j:Nat}(h:1<j)(ht:cs[j-1]!.t>l):popK l cs j=popK l cs (j-1):=by
 obtain⟨k,rfl⟩:∃k,j=k+2:=⟨j-2,Om⟩;show(if cs[k+1]!.t>l then popK l cs (k+1)else k+2)=popK l cs (k+1);grind
theorem popK_stop{l:Int}{cs:List Ch}{j:Nat}(h:j≤1∨¬cs[j-1]!.t>l):popK l cs j=j:=by
 match j,h with
 |0,_=>rfl
 |1,_=>rfl
 |k+2,h=>
  have h':¬cs[k+1]!.t>l:=by
   grind
  show(if cs[k+1]!.t>l then popK l cs (k+1)else k+2)=k+2;grind
def gapF(l:Int)(cs:List Ch):List Ch:=cs.take (popK l cs cs.length)++[⟨l,5,-1,-1,-1⟩]
theorem take_bangC{cs:List Ch}{i j:Nat}(h:i<j)(hj:j≤cs.length):(cs.take j)[i]! =cs[i]! :=by
 rw[List.getElem!_eq_getElem?_getD,List.getElem!_eq_getElem?_getD,List.getElem?_take_of_lt h]
def wakeF(a b:Int)(cs:List Ch):List Ch:=if cs[cs.length-1]!.s=1∨cs[cs.length-1]!.s=2 then cs++[⟨a,0,-1,-1,b⟩]else cs
def evK(e:Tm)(c:List Ch):List Ch:=
 if e.kd=8 then c++[⟨clk e.lo,4,e.n,-1,-1⟩]else if e.kd=9 then c++[⟨clk e.lo,e.n,-1,if e.n=2 then e.m else-1,-1⟩]else c
def evF(e:Tm)(n l:Int)(cs:List Ch):List Ch:=evK e (if e.sr=n then cs else gapF l cs)
theorem gapF_len(l:Int)(cs:List Ch):(gapF l cs).length≤cs.length+1:=by
 grind [gapF,List.length_append,List.length_take,Nat.min_le_right]
structure Sg where(th s f t cpu on by_:Int)
instance:Inhabited Sg:=⟨⟨0,0,0,0,0,0,0⟩⟩
def Sg.c(x:Sg):List Value:=[.int .i64 x.th,.int .i64 x.s,.int .i64 x.f,.int .i64 x.t,.int .i64 x.cpu,.int .i64 x.on,.int .i64 x.by_]
theorem Sg.one(x:Sg):∀u∈x.c,u.oneCell'=true:=by simp[Sg.c,Value.oneCell']
def sameF(a b:Sg):Bool:=(a.s==b.s&&a.cpu==b.cpu)&&a.on==b.on
def sgAt(th en:Int)(cs:List Ch)(i:Nat):Sg:=
 ⟨th,cs[i]!.s,cs[i]!.t,if i+1<cs.length then cs[i+1]!.t else en,cs[i]!.cpu,cs[i]!.on,if i+1<cs.length then cs[i+1]!.by_ else-1⟩
def sgPut(out:List Sg)(x:Sg):List Sg:=
 if x.t≤x.f then out
 else if(decide (0<out.length)&&sameF out[out.length-1]! x)=true then out.set (out.length-1) {out[out.length-1]! with t:=x.t,by_:=x.by_}
 else out++[x]
def stN(th en:Int)(cs:List Ch):Nat→List Sg
 |0=>[]
 |i+1=>sgPut (stN th en cs i) (sgAt th en cs i)
theorem sgPut_len(out:List Sg)(x:Sg):(sgPut out x).length≤out.length+1:=by
 unfold sgPut;grind
theorem stN_len(th en:Int)(cs:List Ch):∀i,(stN th en cs i).length≤i
 |0=>Nat.le_refl _
 |i+1=>Nat.le_trans (sgPut_len _ _) (Nat.succ_le_succ (stN_len th en cs i))
theorem stN_skip{th en:Int}{cs:List Ch}{i:Nat}{x:Sg}(hx:sgAt th en cs i=x)(h:x.t≤x.f):stN th en cs (i+1)=stN th en cs i:=by
 show sgPut _ _=_;rw[hx];exact if_pos h
theorem stN_join{th en:Int}{cs:List Ch}{i n:Nat}{x:Sg}(hx:sgAt th en cs i=x)(h:¬x.t≤x.f)(hn:(stN th en cs i).length=n)(hl:0<n)(hs:sameF (stN th en cs i)[n-1]! x=true):
  stN th en cs (i+1)=(stN th en cs i).set (n-1) {(stN th en cs i)[n-1]! with t:=x.t,by_:=x.by_}:=by
 subst hn;show sgPut _ _=_;rw[hx];exact(if_neg h).trans (if_pos (by grind))
theorem stN_new{th en:Int}{cs:List Ch}{i n:Nat}{x:Sg}(hx:sgAt th en cs i=x)(h:¬x.t≤x.f)(hn:(stN th en cs i).length=n)(hs:¬0<n∨sameF (stN th en cs i)[n-1]! x=false):
  stN th en cs (i+1)=stN th en cs i++[x]:=by
 subst hn;show sgPut _ _=_;rw[hx];refine(if_neg h).trans (if_neg ?_);grind
theorem set_bang{l:List Sg}{k:Nat}{x:Sg}(h:k<l.length):(l.set k x)[k]! =x:=by
 grind
def statesF(th en:Int)(cs:List Ch):List Sg:=stN th en cs cs.length
end TW
end Go.Proofs.YtaclfjjipnpboaaGreat
