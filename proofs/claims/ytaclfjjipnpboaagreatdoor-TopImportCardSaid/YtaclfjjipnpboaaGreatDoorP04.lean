/- Part 4 of the proof. Conditions: what each theorem states. -/
import Derived.Test.YtaclfjjipnpboaaGreatDoorP01
import Derived.Test.YtaclfjjipnpboaaGreatDoorP03
import Derived.Test.YtaclfjjipnpboaaGreatDoorP02
import Derived.Laws.CopyRow
import Derived.Test.YtaclfjjipnpboaaGreatDoorProg
set_option linter.all false
set_option maxHeartbeats 4000000
set_option maxRecDepth 4000
namespace Go.Eng
open Go Go.RowKit
theorem flat1{α:Type}{f:α→List Value}(hf:∀x,(f x).length=1):∀(l:List α),(l.flatMap f).length=l.length
 |[]=>rfl
 |x::r=>by rw[List.flatMap_cons,List.length_append,hf,flat1 hf r,List.length_cons];omega
theorem flat1_take{α:Type}{f:α→List Value}(hf:∀x,(f x).length=1):∀(l:List α) (k:Nat),(l.take k).flatMap f=(l.flatMap f).take k
 |[],k=>by simp
 |x::r,0=>by simp
 |x::r,k+1=>by
  rw[List.take_succ_cons,List.flatMap_cons,List.flatMap_cons,flat1_take hf r k];grind [List.length_eq_one_iff]
theorem flat1_drop{α:Type}{f:α→List Value}(hf:∀x,(f x).length=1):∀(l:List α) (k:Nat),(l.drop k).flatMap f=(l.flatMap f).drop k
 |[],k=>by simp
 |x::r,0=>by simp
 |x::r,k+1=>by
  rw[List.drop_succ_cons,List.flatMap_cons,flat1_drop hf r k];grind [List.length_eq_one_iff]
section
variable{P:Program}{n:Nat}{ops:Array Oper}{Q:Exit→Act→World→Prop}{E:Env}{w:World}{o:Oper}{rest:List Oper}{d:Nat}{α:Type}{f:α→List Value}{base e:Nat}{l s:List α}
theorem run_copyE{t ty:TypeId}{A B:Option Addr}{len cap k m c':Nat}{A':Option Addr}{cap2:Nat}(hU:P.underlying t=some (.slice e))(hs:(P.info? e).map (·.size)=some 1)(own:OwnL w base e f 1 (.slice A len cap) l)(src:Ls w B m c' f 1 s)
  (hf:∀x,(f x).length=1) (h1:∀x,∀u∈f x,u.oneCell'=true) (hk:k<len) (hm:0<m) (hA:A'=(A.map (·.add k))):
  ∃w',(Builtin.copy_ #[t,t] ty #[.slice A' (len-k) cap2,.slice B m c']).run P w= .ok (.int .i64 ((min m (len-k):Nat):Int)) w'∧OwnL w' base e f 1 (.slice A len cap) (l.take k++s.take (min m (len-k))++l.drop (k+min m (len-k)))∧Gr w w' (Value.slice A len cap).ownBlock:=by
 rcases own.2 with⟨hs',h0⟩|⟨g,cap',cur,hs',g1,g2,g3,g4,g5,g6⟩
 ·grind
 ·injection hs' with e1 e2 e3
  subst e1;subst e2;subst e3;obtain⟨ad,rfl⟩:=Option.isSome_iff_exists.1 (src.isSome hm);have hA':A'=some ⟨g,k,none⟩:=by rw[hA,Option.map_some,add_blk,Nat.zero_add]
  subst hA';have hc5:cur.toList.length=cap:=by grind
  have hsl:=src.len;have hcs:((s.take (min m (l.length-k))).flatMap f).length=min m (l.length-k):=by grind [flat1,List.length_take]
  have hmn:Nat.min m (l.length-k)=min m (l.length-k):=rfl;have hcs':cur.size=cap:=Om;have hr:=run_copy_row P w t t ty e g k (l.length-k) cap2 ad m c' cur e ((s.take (min m (l.length-k))).flatMap f) hU hs g2 (by rw[hcs,hmn])
   (fun j v hv=>by
    rw[flat1_take hf]at hv;have hj:j<min m (l.length-k):=by
     grind
    rw[List.getElem?_take_of_lt hj]at hv;have hjs:j<s.length:=Om;obtain⟨ad',he,_,_,hc⟩:=src.rd j s[j] (List.getElem?_eq_getElem hjs);injection he with he;subst he
    have hx:(f s[j])[0]? =some v:=by
     have hlen0:0<(f s[j]).length:=by grind
     have:=getElem?_flatMap hf (l:=s) (i:=j) (j:=0) (List.getElem?_eq_getElem hjs) (List.getElem?_eq_getElem hlen0);grind
    grind)
   Om
   (fun v hv=>by grind)
  rw[hcs]at hr;refine⟨_,hr,⟨?_,.inr ⟨g,cap,_,?_,g1,setRow_heap w g cur _ e _ g2,?_,g4,?_,?_⟩⟩,?_⟩
  ·grind [flat1]
  ·grind
  ·grind
  ·grind
  ·have hll:(l.take k++s.take (min m (l.length-k))++l.drop (k+min m (l.length-k))).length=l.length:=by
    grind
   rw[hll];rw[Nat.mul_one]at g6 ⊢;simp only[List.flatMap_append];rw[flat1_take hf l,flat1_drop hf l,←g6];have e1:(cur.toList.take k).length=k:=by grind
   have e2:(cur.toList.take l.length).take k=cur.toList.take k:=by grind
   rw[e2];have e3:(cur.toList.take k++(s.take (min m (l.length-k))).flatMap f).length=k+min m (l.length-k):=by grind
   rw[List.take_append,e3,List.take_of_length_le Om,List.drop_take]
  ·refine⟨⟨rfl,rfl,rfl,by simp_all,fun j _ hne=> ?_⟩,Dle.of Nl⟩;have hj:j≠g:=fun hh=>hne (by rw[hh];rfl);simp[World.setRow,Array.getElem?_modify,Ne.symm hj]
theorem run_copyB{a:Act}{c:Call}{args:List Value}(hA:Ok n E a)(ho:o.op= .call c)(hc:c.callee= .builtin .copy)(ha:evs E c.args.toList=some args){v:Value}{w':World}
  (hr:(Builtin.copy_ c.argTypes o.type args.toArray).run P w= .ok v w'):(execOp a.eval o).run P w= .ok (.value v) w':=by
 obtain⟨cb,hcb⟩:=run_builtin (P:=P) (w:=w) hA ho hc ha;grind [builtin,Sem.run_bind,Result.andThen_ok,Sem.run_pure]
theorem WL.copy0{t:TypeId}{A B:Option Addr}{len cap m c':Nat}{c:Call}(hd:o.dst=some d)(hn:d<n)(hg:o.guard=none)(ho:o.op= .call c)(hc:c.callee= .builtin .copy)(ht:c.argTypes= #[t,t])(hU:P.underlying t=some (.slice e))(hs:(P.info? e).map (·.size)=some 1)
  (ha:evs E c.args.toList=some [.slice A len cap,.slice B m c']) (own:OwnL w base e f 1 (.slice A len cap) l) (src:Ls w B m c' f 1 s) (hf:∀x,(f x).length=1) (h1:∀x,∀u∈f x,u.oneCell'=true) (hk:0<len) (hm:0<m)
  (h:∀w',OwnL w' base e f 1 (.slice A len cap) (s.take (min m len)++l.drop (min m len))→Gr w w' (Value.slice A len cap).ownBlock→WL P n ops Q rest ((d,.int .i64 ((min m len:Nat):Int))::E) w'):WL P n ops Q (o::rest) E w:=by
 intro a hA;obtain⟨w',hr,h2,h3⟩:=run_copyE (P:=P) (ty:=o.type) (cap2:=cap) hU hs own src hf h1 hk hm (show A=A.map (·.add 0) by simp_all [none,some,Addr.add]);simp only[Nat.sub_zero,Nat.zero_add,List.take_zero,List.nil_append]at hr h2;refine wpList_plain hg fun K hK=>wp_of_run (run_copyB hA ho hc ha (by rw[ht];exact hr)) (hK _ _ ?_);rw[hd];exact h w' h2 h3 _ (hA.put hn _)
theorem Run.copyE{k:Nat}{t:TypeId}{A B:Option Addr}{len cap m c':Nat}{c:Call}(ho:o.op= .call c)(hc:c.callee= .builtin .copy)(ht:c.argTypes= #[t,t])(hU:P.underlying t=some (.slice e))(hs:(P.info? e).map (·.size)=some 1)
  (ha:evs E c.args.toList=some [.slice (if cap=k then A else A.map (·.add (k*1))) (len-k) (cap-k),.slice B m c']) (own:OwnL w base e f 1 (.slice A len cap) l) (src:Ls w B m c' f 1 s) (hf:∀x,(f x).length=1) (h1:∀x,∀u∈f x,u.oneCell'=true) (hk:k<len) (hm:0<m):
  RunV P n o E w fun v' w'=>v'= .int .i64 ((min m (len-k):Nat):Int)∧OwnL w' base e f 1 (.slice A len cap) (l.take k++s.take (min m (len-k))++l.drop (k+min m (len-k)))∧Gr w w' (Value.slice A len cap).ownBlock:=by
 intro a hA;have hle:=own.form;obtain⟨A2,cap2,hv,hle1,hle2⟩:=hle;injection hv with _ hv2 hv3
 have hne:cap≠k:=Om;rw[if_neg hne,Nat.mul_one]at ha;obtain⟨w',hr,h2,h3⟩:=run_copyE (P:=P) (ty:=o.type) (cap2:=cap-k) hU hs own src hf h1 hk hm rfl;exact⟨_,w',run_copyB hA ho hc ha (by grind),rfl,h2,h3⟩
end
section
variable{g b:Nat}{u v:Value}{w w':World}{m:PM}
end
section
variable{P:Program}{n:Nat}{ops:Array Oper}{C:World→Prop}{Q:Act→World→Prop}{r:Ord}{E:Env}{w:World}{o:Oper}{i d:Nat}
theorem wanted_undef{a:Act}(ha:Ok n E a){j t:Nat}{want:Bool}(hg:o.guard=some (j,want))(hj:(ops[j]?).bind (·.dst)=some t)(ht:look t E=some undef):Region.wanted o (yielded ops a.tmps)=false:=by
 have:yielded ops a.tmps j=none:=by simp[Go.yielded,hj,ha.at_ t _ ht,undef]
 grind [Region.wanted]
end
namespace Y
section
variable{P:Program}{o:Oper}{n:Nat}{E:Env}{C:World→Prop}
theorem sliceB{x y q:Operand}{t e:TypeId}{A:Option Addr}{len cap:Nat}{k k':IntKind}{a b:Int}{z:Value}{sz by':Nat}(i j:Nat)(ho:o.op= .slice t x (some y) (some q) none)(hU:P.underlying t=some (.slice e))(hT:TI P e z sz by')(hx:ev E x=some (.slice A len cap))(hy:ev E y=some (.int k a))(ha:a=(i:Int))(hq:ev E q=some (.int k' b))(hb:b=(j:Int))(h1:i≤j)(h2:j≤cap):
  Yld P o n E C (.slice (if cap=i then A else A.map (·.add (i*sz))) (j-i) (cap-i)):=by
 intro B w hB _;subst ha hb;have h3:(0:Int)≤(i:Int)∧(i:Int)≤(j:Int):=Om;have h4:(0:Int)≤(j:Int)∧(j:Int)≤(cap:Int):=Om;simp only[execOp,ho,hB.ev hx,Option.map,hB.ev hy,hB.ev hq,Instr.sliceAt,Instr.slice,Instr.sliceBounds,Instr.sliceBound,asIntOf,Sem.run_bind,Sem.run_pure,Result.andThen_ok,run_underlying hU,hT.sizeOf,h3,h4,and_self,if_true,Int.toNat_natCast,Option.isSome]
def gt(a b:ByteArray):Bool:= !(lt a b||a.toList==b.toList)
theorem gtrStr{x y:Operand}{t t':TypeId}{s r:ByteArray}(ho:o.op= .binOp .gtr t x y t')(hx:ev E x=some (.string s))(hy:ev E y=some (.string r)):Yld P o n E C (.bool (gt s r)):=by
 intro A w hA _;have hg:(eqGuard .gtr t x y (.string s) (.string r)).run P w= .ok () w:=rfl;simp only[execOp,ho,hA.ev hx,hA.ev hy,Sem.run_bind,hg,Result.andThen_ok,binOp,Op.stringOp,Sem.run_pure,gt,lt]
end
end Y
section
variable{P:Program}{n:Nat}{ops:Array Oper}{C:World→Prop}{Q:Act→World→Prop}{E:Env}{W w:World}{L:List Res}{o:Oper}{i d:Nat}{r:Ord}
theorem Run.makeMap{t:TypeId}(ho:o.op= .makeMap t none):RunV P n o E w fun v w'=>∃g,v= .map (some g)∧g=w.heap.size∧Ext w w'∧Mp w' g []∧MpP w' g []:=by
 intro a ha;refine⟨_,w.alloc (.map #[] 0),?_,w.heap.size,rfl,rfl,(Ext.refl w).alloc _,⟨_,_,heap_alloc_new w _,rfl,by simp,by simp,by simp⟩,⟨_,_,heap_alloc_new w _,rfl⟩⟩;simp[execOp,ho,Instr.makeMap,run_newObj]
theorem mmpX{t:TypeId}(hC:C w)(H:Hp W w L)(h:∀g w',Hp W w' (mpp g []::L)→WX P n ops C Q r ((d,.map (some g))::E) w')
  (hi:ops[i]? =some o:=by exact rfl) (hd:o.dst=some d:=by exact rfl) (hn:d<n:=by exact blt rfl) (hg:o.guard=none:=by exact rfl) (ho:o.op= .makeMap t none:=by exact rfl):WX P n ops C Q (.alt i r .none) E w:=by
 refine WX.run hi hd hn hg hC (Run.makeMap ho) ?_;rintro _ w' ⟨g,rfl,e,x,_,b⟩;exact h g w' (H.new x b fun b' hb=>by rw[show b'=g from hb,e];omega)
theorem Ok.swap{n:Nat}{E:Env}{a:Act}{d1 d2:Nat}{v1 v2:Value}(h:Ok n ((d1,v1)::(d2,v2)::E) a)(hne:Nat.beq d1 d2=false):Ok n ((d2,v2)::(d1,v1)::E) a:=by
 refine⟨h.defers,h.size,fun t v hv=>h.at_ t v ?_⟩;simp only[look]at hv ⊢;cases e1:Nat.beq d1 t with
 |false=>grind
 |true=>
  cases e2:Nat.beq d2 t<;>simp_all
theorem Ok.less{n:Nat}{E:Env}{a:Act}{d:Nat}{v:Value}(h:Ok n ((d,v)::E) a)(hE:look d E=none):Ok n E a:=by
 refine⟨h.defers,h.size,fun t u hu=>h.at_ t u ?_⟩;simp only[look];cases e:Nat.beq d t<;>simp_all
theorem bs1L_{oj:Oper}{j dj:Nat}{v:Value}{t e:Nat}{parts:Array (Nat×Operand)}{ps:List (Nat×Value)}{z:Value}{zs c0 cs:List Value}{sz by':Nat}(hC:C w)(H:Hp W w L)(hCx:∀w',Ext w w'→C w')(hy:∀z,Hp W z L→Yld P o n E (·=z) v)(hU:P.underlying t=some (.slice e))(hT:TI P e z sz by')
  (h:∀g w',Hp W w' (box g e cs::L)→WX P n ops C Q r ((dj,.slice (some ⟨g,0,none⟩) 1 1)::(d,v)::E) w')
  (hi:ops[i]? =some o) (hd:o.dst=some d) (hn:d<n) (hg:o.guard=none)
  (hi2:ops[j]? =some oj) (hd2:oj.dst=some dj) (hn2:dj<n) (hg2:oj.guard=none) (ho:oj.op= .buildSlice t 1 parts) (hp:(1*sz !=0)=true) (hs:Nat.ble (1*sz) 16777216=true)
  (hzs:zs=cellsL z) (hz:((Array.range (1*sz)).map (z.cells[·%z.cells.size]!))=zs.toArray) (hps:evp E parts.toList=some ps) (hps2:evp ((d,v)::E) parts.toList=some ps) (hf:fillP (fun i=>some (i*sz,sz)) zs ps=some c0) (hN:Nm c0 cs) (hne:Nat.beq d dj=false) (hE:look dj E=none):
  WX P n ops C Q (.alt i (.alt j r .none) .none) E w∧WX P n ops C Q (.alt j (.alt i r .none) .none) E w:=by
 constructor
 ·refine WX.yldL hi hd hn hg hC (hy w H) ?_;exact bs1X hC H hU hT h hi2 hd2 hn2 hg2 ho hp hs hzs hz hps2 hf hN
 ·refine WX.run hi2 hd2 hn2 hg2 hC (Run.bslice ho hU hT hp (ble hs) hz hps (by rw[hf,hN.eq])) ?_;rintro _ w' ⟨g,rfl,e_,x,b⟩;have H':Hp W w' (box g e cs::L):=H.new x b fun b' hb=>by rw[show b'=g from hb,e_];omega
  refine WX.yldL hi hd hn hg (hCx w' x) (fun a A ha hA=>hy w' H'.tail a A (ha.less hE) hA) ?_;intro a ha;exact h g w' H' a (ha.swap hne)
theorem bs1L{W0:World}{L0:List Res}{oj:Oper}{j dj:Nat}{v:Value}{t e:Nat}{parts:Array (Nat×Operand)}{ps:List (Nat×Value)}{z:Value}{zs c0 cs:List Value}{sz by':Nat}(hC:HpC W0 L0 w)(H:Hp W w L)(hy:∀z,Hp W z L→Yld P o n E (·=z) v)(hU:P.underlying t=some (.slice e))(hT:TI P e z sz by')
  (h:∀g w',Hp W w' (box g e cs::L)→WX P n ops (HpC W0 L0) Q r ((dj,.slice (some ⟨g,0,none⟩) 1 1)::(d,v)::E) w')
  (hi:ops[i]? =some o:=by exact rfl) (hd:o.dst=some d:=by exact rfl) (hn:d<n:=by exact blt rfl) (hg:o.guard=none:=by exact rfl)
  (hi2:ops[j]? =some oj:=by exact rfl) (hd2:oj.dst=some dj:=by exact rfl) (hn2:dj<n:=by exact blt rfl) (hg2:oj.guard=none:=by exact rfl) (ho:oj.op= .buildSlice t 1 parts:=by exact rfl) (hp:(1*sz !=0)=true:=by exact rfl) (hs:Nat.ble (1*sz) 16777216=true:=by exact rfl)
  (hzs:zs=cellsL z:=by exact rfl) (hz:((Array.range (1*sz)).map (z.cells[·%z.cells.size]!))=zs.toArray:=by kernel_rfl) (hps:evp E parts.toList=some ps:=by exact rfl) (hps2:evp ((d,v)::E) parts.toList=some ps:=by exact rfl) (hf:fillP (fun i=>some (i*sz,sz)) zs ps=some c0:=by exact rfl) (hN:Nm c0 cs:=by repeat (first|exact Nm.nil rfl|(apply Nm.cons;exact rfl))) (hne:Nat.beq d dj=false:=by exact rfl) (hE:look dj E=none:=by exact rfl):
  WX P n ops (HpC W0 L0) Q (.alt i (.alt j r .none) (.alt j (.alt i r .none) .none)) E w:=
 have k:=bs1L_ hC H (fun w' x=>Hp.ex hC x) hy hU hT h hi hd hn hg hi2 hd2 hn2 hg2 ho hp hs hzs hz hps hps2 hf hN hne hE
 WX.alt k.1 k.2
end
section
variable{P:Program}{n:Nat}{ops:Array Oper}{Q:Exit→Act→World→Prop}{E:Env}{w:World}{o:Oper}{rest:List Oper}{d:Nat}
theorem WL.skipU{j t:Nat}{want:Bool}(hd:o.dst=some d)(hn:d<n)(hg:o.guard=some (j,want))(hj:(ops[j]?).bind (·.dst)=some t)(ht:look t E=some undef)(h:WL P n ops Q rest ((d,undef)::E) w):WL P n ops Q (o::rest) E w:=by
 intro a ha;refine wpList_step fun K hK=> ?_;rw[if_neg (by grind [wanted_undef]),hd];exact hK _ _ (h _ (ha.put hn _))
theorem WQ.skipU{C:World→Prop}{Qq:Act→Prop}{j t:Nat}{want:Bool}(hd:o.dst=some d)(hn:d<n)(hg:o.guard=some (j,want))(hj:(ops[j]?).bind (·.dst)=some t)(ht:look t E=some undef)(h:WQ P n ops C Qq rest ((d,undef)::E)):WQ P n ops C Qq (o::rest) E:=by
 intro a ha;unfold wpQuiet;rw[if_neg (by grind [wanted_undef]),hd];exact h _ (ha.put hn _)
end
def Kc(P:Program)(y:Code)(Q:Exit→Act→World→Prop):Act→World→Prop:=fun a w=>y.wp P Q a w
section
variable{P:Program}{n:Nat}{Q Q':Exit→Act→World→Prop}{E:Env}{w:World}{x y:Code}{ops:Array Oper}
theorem WC.sq(h:WC P n x (Exit.then (Kc P y Q) Q) E w):WC P n (.seq x y) Q E w:=fun a ha=>wp_seq (h a ha)
theorem WC.sg{id:Nat}{l l':List Oper}(h:WL P n l.toArray (Exit.then (Kc P y Q) Q) l' E w)(hl:l=l':=by exact rfl):WC P n (.seq (.region id l.toArray false) y) Q E w:=WC.sq (WC.region hl h)
theorem kLz(h:WC P n y Q E w):WL P n ops (Exit.then (Kc P y Q) Q') [] E w:=WL.nil h
end
class Un(P:Program)(t:TypeId)(D:outParam TypeDesc):Prop where h:P.underlying t=some D
class Tn(P:Program)(t:TypeId)(z:outParam Value)(sz by':outParam Nat):Prop where h:TI P t z sz by'
class Pn(P:Program)(t:TypeId)(z:outParam (List Value))(pl:outParam (List (Nat×Nat))):Prop where h:PL P t z pl
class Bx(g:Nat)(L:List Res)(t:outParam TypeId)(cs:outParam (List Value)):Prop where m:box g t cs∈L
instance(priority:=low) bxT{g:Nat}{L:List Res}{R:Res}{t:TypeId}{cs:List Value}[b:Bx g L t cs]:Bx g (R::L) t cs:=⟨List.mem_cons_of_mem _ b.m⟩
instance(priority:=high) bxH{g:Nat}{L:List Res}{t:TypeId}{cs:List Value}:Bx g (box g t cs::L) t cs:=⟨List.mem_cons_self⟩
instance bxL{g:Nat}{A B:List Res}{t:TypeId}{cs:List Value}[b:Bx g A t cs]:Bx g (A++B) t cs:=⟨List.mem_append_left _ b.m⟩
instance bxLA{g:Nat}{A B:List Res}{t:TypeId}{cs:List Value}[b:Bx g A t cs]:Bx g (A.append B) t cs:=⟨List.mem_append_left _ b.m⟩
instance bxR{g:Nat}{A B:List Res}{t:TypeId}{cs:List Value}[b:Bx g B t cs]:Bx g (A++B) t cs:=⟨List.mem_append_right _ b.m⟩
instance bxRA{g:Nat}{A B:List Res}{t:TypeId}{cs:List Value}[b:Bx g B t cs]:Bx g (A.append B) t cs:=⟨List.mem_append_right _ b.m⟩
theorem bxb{W w:World}{L:List Res}{g:Nat}{t:TypeId}{cs:List Value}(H:Hp W w L)[b:Bx g L t cs]:Blk w g t cs:=H.holds _ b.m
class Rw(A:Option Addr)(L:List Res)(α:outParam Type)(e:outParam TypeId)(f:outParam (α→List Value))(sz n c:outParam Nat)(l:outParam (List α)):Prop where m:row e f sz (.slice A n c) l∈L
instance(priority:=low) rwT{A:Option Addr}{L:List Res}{R:Res}{α:Type}{e:TypeId}{f:α→List Value}{sz n c:Nat}{l:List α}[b:Rw A L α e f sz n c l]:Rw A (R::L) α e f sz n c l:=⟨List.mem_cons_of_mem _ b.m⟩
instance(priority:=high) rwH{A:Option Addr}{L:List Res}{α:Type}{e:TypeId}{f:α→List Value}{sz n c:Nat}{l:List α}:Rw A (row e f sz (.slice A n c) l::L) α e f sz n c l:=⟨List.mem_cons_self⟩
instance rwL{C D:List Res}{A:Option Addr}{α:Type}{e:TypeId}{f:α→List Value}{sz n c:Nat}{l:List α}[b:Rw A C α e f sz n c l]:Rw A (C++D) α e f sz n c l:=⟨List.mem_append_left _ b.m⟩
instance rwLA{C D:List Res}{A:Option Addr}{α:Type}{e:TypeId}{f:α→List Value}{sz n c:Nat}{l:List α}[b:Rw A C α e f sz n c l]:Rw A (C.append D) α e f sz n c l:=⟨List.mem_append_left _ b.m⟩
instance rwR{C D:List Res}{A:Option Addr}{α:Type}{e:TypeId}{f:α→List Value}{sz n c:Nat}{l:List α}[b:Rw A D α e f sz n c l]:Rw A (C++D) α e f sz n c l:=⟨List.mem_append_right _ b.m⟩
instance rwRA{C D:List Res}{A:Option Addr}{α:Type}{e:TypeId}{f:α→List Value}{sz n c:Nat}{l:List α}[b:Rw A D α e f sz n c l]:Rw A (C.append D) α e f sz n c l:=⟨List.mem_append_right _ b.m⟩
theorem rwl{W w:World}{L:List Res}{A:Option Addr}{α:Type}{e:TypeId}{f:α→List Value}{sz n c:Nat}{l:List α}(H:Hp W w L)[b:Rw A L α e f sz n c l](hf:∀x,(f x).length=sz:=by exact fun _=>rfl)(hp:0<sz:=by decide):Ls w A n c f sz l:=OwnL.ls (H.holds _ b.m) hf hp
def szOk(P:Program)(t:TypeId):Bool:=match P.info? t with
 |some i=>i.zero.isSome&&(i.size !=0)
 |none=>false
theorem szOk.ti{P:Program}{t:TypeId}(h:szOk P t=true):∃z sz by',TI P t z sz by'∧sz≠0:=by
 unfold szOk at h;split at h
 ·rename_i i hi;rw[Bool.and_eq_true,bne_iff_ne]at h;obtain⟨z,hz⟩:=Option.isSome_iff_exists.1 h.1;exact⟨z,i.size,i.bytes,⟨i,hi,hz,rfl,rfl⟩,h.2⟩
 ·cases h
class PB(a:Addr)(g off:outParam Nat):Prop where h:a=⟨g,off,none⟩
instance pbI{g off:Nat}:PB ⟨g,off,none⟩ g off:=⟨rfl⟩
class PE(a:Addr)(A:outParam (Option Addr))(sz k j:outParam Nat):Prop where h:a=elemAt A sz k j
instance peI{A:Option Addr}{sz k j:Nat}:PE (elemAt A sz k j) A sz k j:=⟨rfl⟩
class Vg(v:Value)(b want:Bool)(u:outParam Value):Prop where h:b=want→v=u
instance(priority:=high) vgI{b want:Bool}{u:Value}:Vg (gv b want u) b want u:=⟨fun e=>gv_yes e u⟩
instance(priority:=low) vgJ{b want:Bool}{u:Value}:Vg u b want u:=⟨fun _=>rfl⟩
instance(priority:=high) vgS{b want:Bool}{r:List (Bool×Bool)}{v:Value}:Vg (gvs ((b,want)::r) v) b want (gvs r v):=⟨fun e=>gv_yes e _⟩
instance(priority:=high) vgT{b want:Bool}{r t:List (Bool×Bool)}{v:Value}:Vg (gvs ((b,want)::r++t) v) b want (gvs (r++t) v):=⟨fun e=>gv_yes e _⟩
theorem ovg{E:Env}{x:Operand}{b want:Bool}{v u:Value}(hb:b=want)(h:ev E x=some v)[q:Vg v b want u]:ev E x=some u:=by rw[h,q.h hb]
section
variable{P:Program}{n:Nat}{C:World→Prop}{E:Env}{w W:World}{L:List Res}{o:Oper}{t bt:TypeId}{x:Operand}{D:TypeDesc}{z v:Value}{sz by' g off i:Nat}{cs sub:List Value}{fs:Array Field}{f:Field}{ad:Addr}{α:Type}{A:Option Addr}{m cap j k sz2:Nat}{ce:α→List Value}{l:List α}
theorem bWe(h:Blk w g t cs):∀w',w'=w→Blk w' g t cs:=fun _ e=>e▸h
theorem bWx(h:Blk w g t cs):∀w',Ext w w'→Blk w' g t cs:=fun _ e=>h.ext e
theorem lWe(h:Ls w A m cap ce sz l):∀w',w'=w→Ls w' A m cap ce sz l:=fun _ e=>e▸h
theorem lWx(h:Ls w A m cap ce sz l):∀w',Ext w w'→Ls w' A m cap ce sz l:=fun _ e=>h.ext e
theorem faK{of2:Nat}(ho:o.op= .fieldAddr t x i)(hU:P.underlying t=some (.struct fs))(hf:fs[i]? =some f)(hx:ev E x=some (.pointer (some ad)))[p:PB ad g off](hz:szOk P f.type=true:=by kernel_rfl)(he:off+f.offset=of2:=by first|exact Eq.refl 0|exact Eq.refl 1|exact Eq.refl 2|exact Eq.refl 3|exact Eq.refl 4|exact Eq.refl 5|exact Eq.refl 6|exact Eq.refl 7|exact Eq.refl 8|exact Eq.refl 9|exact Eq.refl 10|exact Eq.refl 11):Yld P o n E C (.pointer (some ⟨g,of2,none⟩)):=by
 subst he;obtain⟨z,sz,by',h1,h2⟩:=szOk.ti hz;exact Y.fieldAddr ho hU hf h1 h2 (p.h▸hx)
theorem feK{sz0 of2:Nat}(ho:o.op= .fieldAddr t x i)(hU:P.underlying t=some (.struct fs))(hf:fs[i]? =some f)(hx:ev E x=some (.pointer (some ad)))[p:PE ad A sz0 k off](hz:szOk P f.type=true:=by kernel_rfl)(he:off+f.offset=of2:=by first|exact Eq.refl 0|exact Eq.refl 1|exact Eq.refl 2|exact Eq.refl 3|exact Eq.refl 4|exact Eq.refl 5|exact Eq.refl 6|exact Eq.refl 7|exact Eq.refl 8|exact Eq.refl 9|exact Eq.refl 10|exact Eq.refl 11):Yld P o n E C (.pointer (some (elemAt A sz0 k of2))):=by
 subst he;obtain⟨z,sz,by',h1,h2⟩:=szOk.ti hz;exact Y.fieldE ho hU hf h1 h2 (p.h▸hx)
theorem ldV(ho:o.op= .load t x)(hx:ev E x=some (.pointer (some ad)))[p:PB ad g off][hU:Un P t D](hb:∀w',C w'→Blk w' g bt cs)(hv:cs[off]? =some v)(hD:aggD D=false:=by exact rfl):Yld P o n E C v:=ld ho hU.h (p.h▸hx) (Blk.at_c hb hv) hD
theorem ldB(ho:o.op= .load t x)(hx:ev E x=some (.pointer (some ad)))[p:PB ad g off](hb:∀w',C w'→Blk w' g bt cs)[hU:Un P t D][hT:Tn P t z sz by'](hD:aggD D=true:=by exact rfl)(hN:Nm ((cs.drop off).take sz) sub:=by repeat (first|exact Nm.nil rfl|(apply Nm.cons;exact rfl)))(hl:sub.length=sz:=by exact rfl):Yld P o n E C (.agg sub.toArray):=
 Y.loadS (cs:=sub) ho hU.h hD (by rw[hl];exact hT.h) (p.h▸hx) (Blk.part_c hb (by rw[hl];exact hN.eq))
theorem ldG(ho:o.op= .load t x)[hU:Un P t D](hx:ev E x=some (.pointer (some ad)))[p:PE ad A sz k j](h:∀w',C w'→Ls w' A m cap ce sz l)(hk:k<m)(I:Inhabited α)(hu:(ce l[k]!)[j]? =some v)(hD:aggD D=false:=by exact rfl):Yld P o n E C v:=ld ho hU.h (p.h▸hx) (Ls.at_c h hk hu) hD
theorem ldF(ho:o.op= .load t x)(hx:ev E x=some (.pointer (some ad)))[p:PE ad A sz k 0](h:∀w',C w'→Ls w' A m cap ce sz l)(hk:k<m)(I:Inhabited α)[hU:Un P t D][hT:Tn P t z sz2 by'](hD:aggD D=true:=by exact rfl)(hN:Nm (ce l[k]!) sub:=by repeat (first|exact Nm.nil rfl|(apply Nm.cons;exact rfl)))(hl:sub.length=sz2:=by exact rfl):Yld P o n E C (.agg sub.toArray):=
 Y.loadS (cs:=sub) ho hU.h hD (by rw[hl];exact hT.h) (p.h▸hx) (Ls.part_c h hk (by rw[List.drop_zero,←hN.eq,List.take_length]))
theorem buK{parts:Array (Nat×Operand)}{c0 cells:List Value}{ps:List (Nat×Value)}{zero:List Value}{pl:List (Nat×Nat)}(ho:o.op= .build t parts)[hP:Pn P t zero pl](hp:evp E parts.toList=some ps:=by exact rfl)(hb:fillL pl zero ps=some c0:=by exact rfl)(hN:Nm c0 cells:=by repeat (first|exact Nm.nil rfl|(apply Nm.cons;exact rfl))):Yld P o n E C (.agg cells.toArray):=by
 rw[←hN.eq];exact Y.build ho hP.h hp hb
end
theorem Lb{w:World}{A:Option Addr}{α:Type}{n c sz:Nat}{f:α→List Value}{l:List α}(h:Ls w A n c f sz l:=by first|assumption|exact Tv.ok.s (by assumption)|exact Tv.ok.g (by assumption)|exact Tv.ok.t (by assumption)|exact Tv.ok.f (by assumption)|exact Tv.ok.m (by assumption)|exact Tv.ok.p (by assumption)|exact Tv.ok.b (by assumption)|exact Tv.ok.l (by assumption)):Ls w A n c f sz l:=h
theorem Og{p:Prop}(h:p:=by first|omega|(have q0:=Go.Eng.Tr.t hb;omega)|(have q0:=Go.Eng.Tr.f hb;omega)):p:=h
theorem Oh{p:Prop}(h:p:=by first|omega|(dsimp only;omega)|(have q0:=Go.Eng.Tr.t hb;omega)|(have q0:=Go.Eng.Tr.f hb;omega)):p:=h
theorem Oi{p:Prop}(h:p:=by first|omega|(dsimp only;omega)):p:=h
theorem Rf{p:Prop}(h:p:=by exact rfl):p:=h
class Tr(b:Bool)(p q:outParam Prop):Prop where
 t:b=true→p
 f:b=false→q
instance trD{p:Prop}[Decidable p]:Tr (decide p) p (¬p):=⟨dec_t,dec_f⟩
instance trE{a b:Int}:Tr (a==b) (a=b) (a≠b):=⟨eq_t,eq_f⟩
instance trS{a b:ByteArray}:Tr (a==b) (a=b) (a≠b):=⟨beqB_eq.1,beqB_ne.1⟩
instance trN{b:Bool}{p q:Prop}[h:Tr b p q]:Tr (!b) q p:=⟨fun e=>h.f (not_t e),fun e=>h.t (not_f e)⟩
instance trA{a b:Bool}{p q p' q':Prop}[h:Tr a p q][k:Tr b p' q']:Tr (a&&b) (p∧p') (q∨q'):=⟨fun e=>⟨h.t (and_t e).1,k.t (and_t e).2⟩,fun e=>(and_f e).imp h.f k.f⟩
instance trO{a b:Bool}{p q p' q':Prop}[h:Tr a p q][k:Tr b p' q']:Tr (a||b) (p∨p') (q∧q'):=⟨fun e=>(or_t e).imp h.t k.t,fun e=>⟨h.f (or_f e).1,k.f (or_f e).2⟩⟩
instance(priority:=low) trX{b:Bool}:Tr b (b=true) (b=false):=⟨id,id⟩
class Ko(o:Oper)(k:Nat):Prop
class Kc_(c:Code)(k:Nat):Prop
class Kg(p:Prop)(k:Nat):Prop
class Kz(l:List Oper):Prop
class Kgd(o:Oper):Prop
class Kx(r:Ord):Prop
class Kw(K:Act→World→Prop)(K2:outParam (Act→World→Prop)):Prop where h:∀a w,K2 a w→K a w
section
variable{P:Program}{n:Nat}{ops:Array Oper}{C:World→Prop}{Qq:Act→Prop}{Qx:Act→World→Prop}{Q:Exit→Act→World→Prop}{K K2:Act→World→Prop}{E:Env}{w:World}{rest l:List Oper}{c:Code}{d:Option Nat}{ty:TypeId}{ps:String}{af:Array Go.Edge}{g:Option (Nat×Bool)}{v:Value}{o:Oper}{r:Ord}
instance:Kz []:=⟨⟩
instance{p:Op}{j:Nat×Bool}:Kgd ⟨d,p,ty,ps,af,some j⟩:=⟨⟩
instance{i:Nat}:Kx (.load i r):=⟨⟩
instance:Kg (WL P n ops Q l E w) 0:=⟨⟩
instance:Kg (WQ P n ops C Qq l E) 1:=⟨⟩
instance:Kg (WX P n ops C Qx r E w) 2:=⟨⟩
instance:Kg (WC P n c Q E w) 3:=⟨⟩
instance:Kg (WK n K E w) 4:=⟨⟩
instance{x:Code}{i:Nat}{l:Array Oper}:Kc_ (.seq (.region i l false) x) 1:=⟨⟩
instance{x y:Code}:Kc_ (.seq x y) 2:=⟨⟩
instance:Kc_ .skip 3:=⟨⟩
instance{x:Code}{i:Nat}:Kc_ (.block i x) 4:=⟨⟩
instance{i:Nat}{l:Array Oper}:Kc_ (.region i l false) 5:=⟨⟩
instance:Kc_ .ret 6:=⟨⟩
instance{i:Nat}:Kc_ (.exit i) 7:=⟨⟩
instance:Kw (Exit.then K Q .ret) (Q .ret):=⟨fun _ _ h=>h⟩
instance{i:Nat}:Kw (Exit.then K Q (.exit i)) (Q (.exit i)):=⟨fun _ _ h=>h⟩
instance{i:Nat}:Kw (Exit.inBlock i Q .normal) (Q .normal):=⟨fun _ _ h=>h⟩
instance{i:Nat}:Kw (Exit.inBlock i Q .ret) (Q .ret):=⟨fun _ _ h=>h⟩
instance{i:Nat}:Kw (Exit.inBlock i Q (.exit i)) (Q .normal):=⟨fun a w h=>by simp[Exit.inBlock,h]⟩
class Kv(K:Act→World→Prop)(P:outParam Program)(y:outParam Code)(Q:outParam (Exit→Act→World→Prop)):Prop where h:∀a w,y.wp P Q a w→K a w
instance{Q2:Exit→Act→World→Prop}:Kv (Exit.then (Kc P c Q) Q2 .normal) P c Q:=⟨fun _ _ h=>h⟩
instance{x:Operand}:Ko ⟨d,.move x,ty,ps,af,g⟩ 0:=⟨⟩
instance{x:Operand}:Ko ⟨d,.assign x,ty,ps,af,g⟩ 1:=⟨⟩
instance{t:TypeId}{x:Operand}:Ko ⟨d,.load t x,ty,ps,af,g⟩ 2:=⟨⟩
instance{t i:Nat}{x:Operand}:Ko ⟨d,.fieldAddr t x i,ty,ps,af,g⟩ 3:=⟨⟩
instance{t:TypeId}{x y:Operand}:Ko ⟨d,.indexAddr t x y,ty,ps,af,g⟩ 4:=⟨⟩
instance{x:Operand}{i:Nat}:Ko ⟨d,.extract x i,ty,ps,af,g⟩ 5:=⟨⟩
instance{c:Call}:Ko ⟨d,.call c,ty,ps,af,g⟩ 6:=⟨⟩
instance{k:BinOp}{t t2:TypeId}{x y:Operand}:Ko ⟨d,.binOp k t x y t2,ty,ps,af,g⟩ 7:=⟨⟩
instance{k:UnOp}{t:TypeId}{x:Operand}:Ko ⟨d,.unOp k t x,ty,ps,af,g⟩ 8:=⟨⟩
instance{x y z:Operand}:Ko ⟨d,.pick x y z,ty,ps,af,g⟩ 9:=⟨⟩
instance{t:TypeId}{s:Array (Nat×Operand)}:Ko ⟨d,.build t s,ty,ps,af,g⟩ 10:=⟨⟩
instance{x:Operand}:Ko ⟨d,.nilCheck x,ty,ps,af,g⟩ 11:=⟨⟩
instance{t t2:TypeId}{x:Operand}:Ko ⟨d,.convert t t2 x,ty,ps,af,g⟩ 12:=⟨⟩
theorem jO(k:Nat)[Ko o k](h:Yld P o n E C v):Yld P o n E C v:=h
theorem gO(k:Nat){p:Prop}[Kg p k](h:p):p:=h
theorem iCz(k:Nat)[Kc_ c k](h:WC P n c Q E w):WC P n c Q E w:=h
theorem iNl[Kz l](h:WL P n ops Q l E w):WL P n ops Q l E w:=h
theorem iGz[Kgd o](h:WL P n ops Q (o::rest) E w):WL P n ops Q (o::rest) E w:=h
theorem iHz[Kgd o](h:WQ P n ops C Qq (o::rest) E):WQ P n ops C Qq (o::rest) E:=h
theorem iQz(h:WQ P n ops C Qq (o::rest) E):WQ P n ops C Qq (o::rest) E:=h
theorem iXz[Kx r](h:WX P n ops C Qx r E w):WX P n ops C Qx r E w:=h
theorem kWz[k:Kw K K2](h:WK n K2 E w):WK n K E w:=fun a ha=>k.h a w (h a ha)
theorem kNz{y:Code}{Q:Exit→Act→World→Prop}[k:Kv K P y Q](h:WC P n y Q E w):WK n K E w:=fun a ha=>k.h a w (h a ha)
theorem jI{x y:Code}(I:Env→World→Prop)(h1:WC P n x (fun e a w'=>e= .normal∧∃Ed,I Ed w'∧Ok n (Ed++E) a) E w)(h2:∀Ed w',I Ed w'→WC P n y Q (Ed++E) w'):WC P n (.seq x y) Q E w:=by
 intro a ha;refine wp_seq (wp_mono (h1 a ha) fun e a w h=> ?_);obtain⟨rfl,Ed,hI,hok⟩:=h;exact h2 Ed w hI a hok
theorem kI{I:Env→World→Prop}{Es:Env}(Ed:Env)(hs:Sub (Ed++Es) E)(hI:I Ed w):WK n (fun a w'=>Exit.normal= .normal∧∃Ed,I Ed w'∧Ok n (Ed++Es) a) E w:=fun _ ha=>⟨rfl,Ed,hI,ha.sub hs⟩
theorem Rs{Es:Env}{I:Nat→Env→World→Prop}{m m':Nat}(Ed':Env)(hs:Sub (Ed'++Es) E)(hI:I m' Ed' w)(hlt:m'<m:=by omega):WK n (Exit.then (fun a' w'=>∃m' Ed',m'<m∧I m' Ed' w'∧Ok n (Ed'++Es) a') Q .normal) E w:=WK.roundS m' Ed' hs hlt hI
theorem Rt{fn:Func}{R:Ending→World→Prop}{rs:List ResultVar}(vs:List Value)(hR:R (.returned (resVal vs)) w)(hr:fn.results=rs.toArray:=by exact rfl)(h:resOk P w E rs vs:=by repeat (first|exact trivial|refine⟨rfl,?_⟩)):WK n (bodyPost P fn R .ret) E w:=WK.ret vs hr h hR
theorem En{fn:Func}{R:Ending→World→Prop}(hR:R (.returned (resVal [])) w)(hr:fn.results= #[]:=by exact rfl):WK n (bodyPost P fn R .normal) E w:=WK.end_ (rs:=[]) [] hr trivial hR
theorem Qr{id:Nat}{l l':List Oper}(h:WQ P n l.toArray (Ext w) (fun a'=>∀w',Ext w w'→Q .normal a' w') l' E)(hl:l=l':=by exact rfl)(hm:P.follows .mixedOrders=true:=by kernel_rfl)(hB:quickB l=true:=by kernel_rfl):WC P n (.region id l.toArray true) Q E w:=WC.regionDq hm hB hl h
theorem Xr{W:World}{L:List Res}{id:Nat}{l:List Oper}(H:Hp W w L)(C:World→Prop)(seq:Ord)(hC:C w)(h:∀z,Hp W z L→WX P n l.toArray C (Q .normal) seq E z)(hm:P.follows .mixedOrders=true:=by kernel_rfl)(hB:mixQ l seq=true:=by kernel_rfl):WC P n (.region id l.toArray true) Q E w:=WC.regionX C seq hC hm hB fun z x=>h z (H.ex x)
theorem Qd{W:World}{L:List Res}(H:Hp W w L)(h:∀z,Hp W z L→WK n (Q .normal) E z):WQ P n ops (Ext w) (fun a'=>∀w',Ext w w'→Q .normal a' w') [] E:=WQ.done fun z x=>h z (H.ex x)
theorem yB{d:Nat}(hd:o.dst=some d)(hn:d<n)(hg:o.guard=none)(hy:Yld P o n E (·=w) v)(h:WL P n ops Q rest ((d,v)::E) w):WL P n ops Q (o::rest) E w:=WL.yld hd hn hg hy h
theorem gAz{d j t:Nat}{want b:Bool}(hd:o.dst=some d)(hn:d<n)(hg:o.guard=some (j,want))(hj:(ops[j]?).bind (·.dst)=some t)(ht:look t E=some (.bool b))(hy:b=want→Yld P o n E (·=w) v)(h:WL P n ops Q rest ((d,gv b want v)::E) w):WL P n ops Q (o::rest) E w:=WL.yldG hd hn hg hj ht hy h
theorem qA{d j t:Nat}{want b:Bool}(hd:o.dst=some d)(hn:d<n)(hg:o.guard=some (j,want))(hj:(ops[j]?).bind (·.dst)=some t)(ht:look t E=some (.bool b))(hy:b=want→Yld P o n E C v)(h:WQ P n ops C Qq rest ((d,gv b want v)::E)):WQ P n ops C Qq (o::rest) E:=WQ.yldG hd hn hg hj ht hy h
theorem qB{d:Nat}(hd:o.dst=some d)(hn:d<n)(hg:o.guard=none)(hy:Yld P o n E C v)(h:WQ P n ops C Qq rest ((d,v)::E)):WQ P n ops C Qq (o::rest) E:=WQ.yld hd hn hg hy h
theorem xA{i d:Nat}{r:Ord}(hi:ops.toList[i]? =some o)(hd:o.dst=some d)(hn:d<n)(hg:o.guard=none)(hy:Yld P o n E C v)(h:WX P n ops C Qx r ((d,v)::E) w):WX P n ops C Qx (.load i r) E w:=WX.yld (by simpa using hi) hd hn hg hy h
theorem Cd{c:Operand}{x y:Code}{b:Bool}{p q:Prop}[h:Tr b p q](ht:p→WC P n x Q E w)(hf:q→WC P n y Q E w)(hc:ev E c=some (.bool b):=by exact rfl):WC P n (.cond c x y) Q E w:=WC.cond hc (fun e=>ht (h.t e)) (fun e=>hf (h.f e))
theorem Wb{f:FuncId}{fn:Func}{c:Code}{n:Nat}{args:List Value}{R:Ending→World→Prop}(hf:P.funcs[f]? =some fn)(h:WC P n c (bodyPost P fn R) (params 0 args) w)(hb:fn.body=some c:=by exact rfl)(hn:fn.ntmps=n:=by exact rfl)(hl:args.length≤n:=by exact ble rfl):Calls P f args.toArray w R:=calls_of_WC hf hb hn hl h
def hasB(P:Program)(f:FuncId):Bool:=match P.funcs[f]? with
 |some fn=> !fn.body.isNone&& !(fn.name== "runtime.NumGoroutine")
 |none=>false
theorem Fh{f:FuncId}(h:hasB P f=true:=by kernel_rfl):Has P f:=by
 unfold hasB at h;split at h
 ·rename_i fn e;rw[Bool.and_eq_true]at h;exact⟨fn,e,not_t h.1,not_t h.2⟩
 ·cases h
class Sm(a b:Bool):Prop where h:a=b
instance smI{a:Bool}:Sm a a:=⟨rfl⟩
class Df(a b:Bool):Prop where h:(a==b)=false
instance dfT:Df true false:=⟨rfl⟩
instance dfF:Df false true:=⟨rfl⟩
theorem gW{d j t:Nat}{want b:Bool}(hd:o.dst=some d)(hn:d<n)(hg:o.guard=some (j,want))(hj:(ops[j]?).bind (·.dst)=some t)(ht:look t E=some (.bool b))[s:Sm b want](hy:Yld P o n E (·=w) v)(h:WL P n ops Q rest ((d,v)::E) w):WL P n ops Q (o::rest) E w:=WL.yldW hd hn hg hj (s.h▸ht) hy h
theorem gS{d j t:Nat}{want b:Bool}(hd:o.dst=some d)(hn:d<n)(hg:o.guard=some (j,want))(hj:(ops[j]?).bind (·.dst)=some t)(ht:look t E=some (.bool b))[s:Df b want](h:WL P n ops Q rest ((d,undef)::E) w):WL P n ops Q (o::rest) E w:=WL.skip hd hn hg hj ht s.h h
theorem qW{d j t:Nat}{want b:Bool}(hd:o.dst=some d)(hn:d<n)(hg:o.guard=some (j,want))(hj:(ops[j]?).bind (·.dst)=some t)(ht:look t E=some (.bool b))[s:Sm b want](hy:Yld P o n E C v)(h:WQ P n ops C Qq rest ((d,v)::E)):WQ P n ops C Qq (o::rest) E:=WQ.yldW hd hn hg hj (s.h▸ht) hy h
theorem qS{d j t:Nat}{want b:Bool}(hd:o.dst=some d)(hn:d<n)(hg:o.guard=some (j,want))(hj:(ops[j]?).bind (·.dst)=some t)(ht:look t E=some (.bool b))[s:Df b want](h:WQ P n ops C Qq rest ((d,undef)::E)):WQ P n ops C Qq (o::rest) E:=WQ.skip hd hn hg hj ht s.h h
end
attribute [irreducible] Kc
structure Wr(p:Prop):Prop where out:p
theorem G1{A B:Prop}(a:A)(h:Wr A→B:=by intro x;(first|(refine gO 0 ?_;first|(refine iNl ?_;first|refine kLz ?_|refine WL.nil ?_)|(refine iGz ?_;first|refine WL.skipU rfl (blt rfl) rfl rfl rfl ?_|refine gS rfl (blt rfl) rfl rfl rfl ?_|refine gW rfl (blt rfl) rfl rfl rfl (by first|exact jO 0 (Y.move rfl rfl)|exact jO 1 (Y.assign rfl rfl)|exact jO 2 (by first|exact ldV rfl rfl (bWe (bxb H)) Rf|exact ldV rfl rfl (bWe (Blk.ext (by assumption) H.ext)) Rf|exact ldB rfl rfl (bWe (bxb H))|exact ldB rfl rfl (bWe (Blk.ext (by assumption) H.ext))|exact ldG rfl rfl (lWe (rwl H)) Om (by infer_instance) Rf|exact ldG rfl rfl (lWe (Ls.ext Lb H.ext)) Om (by infer_instance) Rf|exact ldF rfl rfl (lWe (rwl H)) Om (by infer_instance)|exact ldF rfl rfl (lWe (Ls.ext Lb H.ext)) Om (by infer_instance))|exact jO 3 (by first|exact faK rfl Un.h rfl rfl|exact feK rfl Un.h rfl rfl)|exact jO 4 (by first|exact Y.indexLs _ (rwl H) rfl Un.h Tn.h rfl rfl rfl Om|exact Y.indexLs _ (Ls.ext Lb H.ext) rfl Un.h Tn.h rfl rfl rfl Om)|exact jO 5 (Y.extract rfl rfl rfl)|exact jO 6 (by first|exact Y.lenSl rfl rfl rfl Un.h rfl|exact Y.minI rfl rfl rfl rfl|exact Y.maxI rfl rfl rfl rfl)|exact jO 7 (by first|exact Y.lss rfl rfl rfl|exact Y.add rfl rfl rfl (wrap_i64 Oi)|exact Y.neq rfl rfl rfl|exact Y.eql rfl rfl rfl|exact Y.gtr rfl rfl rfl|exact Y.leq rfl rfl rfl|exact Y.geq rfl rfl rfl|exact Y.sub rfl rfl rfl (wrap_i64 Oi)|exact Y.mul rfl rfl rfl (wrap_i64 Oi)|exact Y.eqlStr rfl rfl rfl|exact Y.neqStr rfl rfl rfl)|exact jO 8 (Y.not rfl rfl)|exact jO 9 (by first|exact Y.or rfl rfl rfl rfl|exact Y.and rfl rfl rfl rfl)|exact jO 10 (buK rfl)|exact jO 11 (Y.nilCheck rfl rfl)|exact jO 12 (by first|exact Y.convInt rfl Un.h Un.h rfl (wrap_i64 Oi)|exact Y.convInt rfl Un.h Un.h rfl (wrap_u64 Oi))) ?_|refine gAz rfl (blt rfl) rfl rfl rfl (fun hb=>by first|exact jO 0 (Y.move rfl (ovg hb rfl))|exact jO 1 (Y.assign rfl (ovg hb rfl))|exact jO 2 (by first|exact ldV rfl (ovg hb rfl) (bWe (bxb H)) Rf|exact ldV rfl (ovg hb rfl) (bWe (Blk.ext (by assumption) H.ext)) Rf|exact ldB rfl (ovg hb rfl) (bWe (bxb H))|exact ldB rfl (ovg hb rfl) (bWe (Blk.ext (by assumption) H.ext))|exact ldG rfl (ovg hb rfl) (lWe (rwl H)) Og (by infer_instance) Rf|exact ldG rfl (ovg hb rfl) (lWe (Ls.ext Lb H.ext)) Og (by infer_instance) Rf|exact ldF rfl (ovg hb rfl) (lWe (rwl H)) Og (by infer_instance)|exact ldF rfl (ovg hb rfl) (lWe (Ls.ext Lb H.ext)) Og (by infer_instance))|exact jO 3 (by first|exact faK rfl Un.h rfl (ovg hb rfl)|exact feK rfl Un.h rfl (ovg hb rfl))|exact jO 4 (by first|exact Y.indexLs _ (rwl H) rfl Un.h Tn.h (ovg hb rfl) (ovg hb rfl) rfl Og|exact Y.indexLs _ (Ls.ext Lb H.ext) rfl Un.h Tn.h (ovg hb rfl) (ovg hb rfl) rfl Og)|exact jO 5 (Y.extract rfl (ovg hb rfl) rfl)|exact jO 6 (by first|exact Y.lenSl rfl rfl rfl Un.h (evs_cons (ovg hb rfl) evs_nil))|exact jO 7 (by first|exact Y.lss rfl (ovg hb rfl) (ovg hb rfl)|exact Y.add rfl (ovg hb rfl) (ovg hb rfl) (wrap_i64 Oh)|exact Y.neq rfl (ovg hb rfl) (ovg hb rfl)|exact Y.eql rfl (ovg hb rfl) (ovg hb rfl)|exact Y.gtr rfl (ovg hb rfl) (ovg hb rfl)|exact Y.leq rfl (ovg hb rfl) (ovg hb rfl)|exact Y.geq rfl (ovg hb rfl) (ovg hb rfl)|exact Y.sub rfl (ovg hb rfl) (ovg hb rfl) (wrap_i64 Oh)|exact Y.mul rfl (ovg hb rfl) (ovg hb rfl) (wrap_i64 Oh)|exact Y.eqlStr rfl (ovg hb rfl) (ovg hb rfl)|exact Y.neqStr rfl (ovg hb rfl) (ovg hb rfl))|exact jO 8 (Y.not rfl (ovg hb rfl))|exact jO 9 (by first|exact Y.or rfl (ovg hb rfl) rfl (ovg hb rfl)|exact Y.and rfl (ovg hb rfl) (ovg hb rfl) rfl)|exact jO 11 (Y.nilCheck rfl (ovg hb rfl))|exact jO 12 (by first|exact Y.convInt rfl Un.h Un.h (ovg hb rfl) (wrap_i64 Oh))) ?_)|refine yB rfl (blt rfl) rfl (by first|exact jO 0 (Y.move rfl rfl)|exact jO 1 (Y.assign rfl rfl)|exact jO 2 (by first|exact ldV rfl rfl (bWe (bxb H)) Rf|exact ldV rfl rfl (bWe (Blk.ext (by assumption) H.ext)) Rf|exact ldB rfl rfl (bWe (bxb H))|exact ldB rfl rfl (bWe (Blk.ext (by assumption) H.ext))|exact ldG rfl rfl (lWe (rwl H)) Om (by infer_instance) Rf|exact ldG rfl rfl (lWe (Ls.ext Lb H.ext)) Om (by infer_instance) Rf|exact ldF rfl rfl (lWe (rwl H)) Om (by infer_instance)|exact ldF rfl rfl (lWe (Ls.ext Lb H.ext)) Om (by infer_instance))|exact jO 3 (by first|exact faK rfl Un.h rfl rfl|exact feK rfl Un.h rfl rfl)|exact jO 4 (by first|exact Y.indexLs _ (rwl H) rfl Un.h Tn.h rfl rfl rfl Om|exact Y.indexLs _ (Ls.ext Lb H.ext) rfl Un.h Tn.h rfl rfl rfl Om)|exact jO 5 (Y.extract rfl rfl rfl)|exact jO 6 (by first|exact Y.lenSl rfl rfl rfl Un.h rfl|exact Y.minI rfl rfl rfl rfl|exact Y.maxI rfl rfl rfl rfl)|exact jO 7 (by first|exact Y.lss rfl rfl rfl|exact Y.add rfl rfl rfl (wrap_i64 Oi)|exact Y.neq rfl rfl rfl|exact Y.eql rfl rfl rfl|exact Y.gtr rfl rfl rfl|exact Y.leq rfl rfl rfl|exact Y.geq rfl rfl rfl|exact Y.sub rfl rfl rfl (wrap_i64 Oi)|exact Y.mul rfl rfl rfl (wrap_i64 Oi)|exact Y.eqlStr rfl rfl rfl|exact Y.neqStr rfl rfl rfl)|exact jO 8 (Y.not rfl rfl)|exact jO 9 (by first|exact Y.or rfl rfl rfl rfl|exact Y.and rfl rfl rfl rfl)|exact jO 10 (buK rfl)|exact jO 11 (Y.nilCheck rfl rfl)|exact jO 12 (by first|exact Y.convInt rfl Un.h Un.h rfl (wrap_i64 Oi)|exact Y.convInt rfl Un.h Un.h rfl (wrap_u64 Oi))) ?_)|(refine gO 1 ?_;first|(refine iHz ?_;first|refine WQ.skipU rfl (blt rfl) rfl rfl rfl ?_|refine qS rfl (blt rfl) rfl rfl rfl ?_|refine qW rfl (blt rfl) rfl rfl rfl (by first|exact jO 0 (Y.move rfl rfl)|exact jO 1 (Y.assign rfl rfl)|exact jO 2 (by first|exact ldV rfl rfl (bWx (bxb H)) Rf|exact ldV rfl rfl (bWx (Blk.ext (by assumption) H.ext)) Rf|exact ldB rfl rfl (bWx (bxb H))|exact ldB rfl rfl (bWx (Blk.ext (by assumption) H.ext))|exact ldG rfl rfl (lWx (rwl H)) Om (by infer_instance) Rf|exact ldG rfl rfl (lWx (Ls.ext Lb H.ext)) Om (by infer_instance) Rf|exact ldF rfl rfl (lWx (rwl H)) Om (by infer_instance)|exact ldF rfl rfl (lWx (Ls.ext Lb H.ext)) Om (by infer_instance))|exact jO 3 (by first|exact faK rfl Un.h rfl rfl|exact feK rfl Un.h rfl rfl)|exact jO 4 (by first|exact Y.indexLs _ (rwl H) rfl Un.h Tn.h rfl rfl rfl Om|exact Y.indexLs _ (Ls.ext Lb H.ext) rfl Un.h Tn.h rfl rfl rfl Om)|exact jO 5 (Y.extract rfl rfl rfl)|exact jO 6 (by first|exact Y.lenSl rfl rfl rfl Un.h rfl|exact Y.minI rfl rfl rfl rfl|exact Y.maxI rfl rfl rfl rfl)|exact jO 7 (by first|exact Y.lss rfl rfl rfl|exact Y.add rfl rfl rfl (wrap_i64 Oi)|exact Y.neq rfl rfl rfl|exact Y.eql rfl rfl rfl|exact Y.gtr rfl rfl rfl|exact Y.leq rfl rfl rfl|exact Y.geq rfl rfl rfl|exact Y.sub rfl rfl rfl (wrap_i64 Oi)|exact Y.mul rfl rfl rfl (wrap_i64 Oi)|exact Y.eqlStr rfl rfl rfl|exact Y.neqStr rfl rfl rfl)|exact jO 8 (Y.not rfl rfl)|exact jO 9 (by first|exact Y.or rfl rfl rfl rfl|exact Y.and rfl rfl rfl rfl)|exact jO 10 (buK rfl)|exact jO 11 (Y.nilCheck rfl rfl)|exact jO 12 (by first|exact Y.convInt rfl Un.h Un.h rfl (wrap_i64 Oi)|exact Y.convInt rfl Un.h Un.h rfl (wrap_u64 Oi))) ?_|refine qA rfl (blt rfl) rfl rfl rfl (fun hb=>by first|exact jO 0 (Y.move rfl (ovg hb rfl))|exact jO 1 (Y.assign rfl (ovg hb rfl))|exact jO 2 (by first|exact ldV rfl (ovg hb rfl) (bWx (bxb H)) Rf|exact ldV rfl (ovg hb rfl) (bWx (Blk.ext (by assumption) H.ext)) Rf|exact ldB rfl (ovg hb rfl) (bWx (bxb H))|exact ldB rfl (ovg hb rfl) (bWx (Blk.ext (by assumption) H.ext))|exact ldG rfl (ovg hb rfl) (lWx (rwl H)) Og (by infer_instance) Rf|exact ldG rfl (ovg hb rfl) (lWx (Ls.ext Lb H.ext)) Og (by infer_instance) Rf|exact ldF rfl (ovg hb rfl) (lWx (rwl H)) Og (by infer_instance)|exact ldF rfl (ovg hb rfl) (lWx (Ls.ext Lb H.ext)) Og (by infer_instance))|exact jO 3 (by first|exact faK rfl Un.h rfl (ovg hb rfl)|exact feK rfl Un.h rfl (ovg hb rfl))|exact jO 4 (by first|exact Y.indexLs _ (rwl H) rfl Un.h Tn.h (ovg hb rfl) (ovg hb rfl) rfl Og|exact Y.indexLs _ (Ls.ext Lb H.ext) rfl Un.h Tn.h (ovg hb rfl) (ovg hb rfl) rfl Og)|exact jO 5 (Y.extract rfl (ovg hb rfl) rfl)|exact jO 6 (by first|exact Y.lenSl rfl rfl rfl Un.h (evs_cons (ovg hb rfl) evs_nil))|exact jO 7 (by first|exact Y.lss rfl (ovg hb rfl) (ovg hb rfl)|exact Y.add rfl (ovg hb rfl) (ovg hb rfl) (wrap_i64 Oh)|exact Y.neq rfl (ovg hb rfl) (ovg hb rfl)|exact Y.eql rfl (ovg hb rfl) (ovg hb rfl)|exact Y.gtr rfl (ovg hb rfl) (ovg hb rfl)|exact Y.leq rfl (ovg hb rfl) (ovg hb rfl)|exact Y.geq rfl (ovg hb rfl) (ovg hb rfl)|exact Y.sub rfl (ovg hb rfl) (ovg hb rfl) (wrap_i64 Oh)|exact Y.mul rfl (ovg hb rfl) (ovg hb rfl) (wrap_i64 Oh)|exact Y.eqlStr rfl (ovg hb rfl) (ovg hb rfl)|exact Y.neqStr rfl (ovg hb rfl) (ovg hb rfl))|exact jO 8 (Y.not rfl (ovg hb rfl))|exact jO 9 (by first|exact Y.or rfl (ovg hb rfl) rfl (ovg hb rfl)|exact Y.and rfl (ovg hb rfl) (ovg hb rfl) rfl)|exact jO 11 (Y.nilCheck rfl (ovg hb rfl))|exact jO 12 (by first|exact Y.convInt rfl Un.h Un.h (ovg hb rfl) (wrap_i64 Oh))) ?_)|(refine iQz ?_;refine qB rfl (blt rfl) rfl (by first|exact jO 0 (Y.move rfl rfl)|exact jO 1 (Y.assign rfl rfl)|exact jO 2 (by first|exact ldV rfl rfl (bWx (bxb H)) Rf|exact ldV rfl rfl (bWx (Blk.ext (by assumption) H.ext)) Rf|exact ldB rfl rfl (bWx (bxb H))|exact ldB rfl rfl (bWx (Blk.ext (by assumption) H.ext))|exact ldG rfl rfl (lWx (rwl H)) Om (by infer_instance) Rf|exact ldG rfl rfl (lWx (Ls.ext Lb H.ext)) Om (by infer_instance) Rf|exact ldF rfl rfl (lWx (rwl H)) Om (by infer_instance)|exact ldF rfl rfl (lWx (Ls.ext Lb H.ext)) Om (by infer_instance))|exact jO 3 (by first|exact faK rfl Un.h rfl rfl|exact feK rfl Un.h rfl rfl)|exact jO 4 (by first|exact Y.indexLs _ (rwl H) rfl Un.h Tn.h rfl rfl rfl Om|exact Y.indexLs _ (Ls.ext Lb H.ext) rfl Un.h Tn.h rfl rfl rfl Om)|exact jO 5 (Y.extract rfl rfl rfl)|exact jO 6 (by first|exact Y.lenSl rfl rfl rfl Un.h rfl|exact Y.minI rfl rfl rfl rfl|exact Y.maxI rfl rfl rfl rfl)|exact jO 7 (by first|exact Y.lss rfl rfl rfl|exact Y.add rfl rfl rfl (wrap_i64 Oi)|exact Y.neq rfl rfl rfl|exact Y.eql rfl rfl rfl|exact Y.gtr rfl rfl rfl|exact Y.leq rfl rfl rfl|exact Y.geq rfl rfl rfl|exact Y.sub rfl rfl rfl (wrap_i64 Oi)|exact Y.mul rfl rfl rfl (wrap_i64 Oi)|exact Y.eqlStr rfl rfl rfl|exact Y.neqStr rfl rfl rfl)|exact jO 8 (Y.not rfl rfl)|exact jO 9 (by first|exact Y.or rfl rfl rfl rfl|exact Y.and rfl rfl rfl rfl)|exact jO 10 (buK rfl)|exact jO 11 (Y.nilCheck rfl rfl)|exact jO 12 (by first|exact Y.convInt rfl Un.h Un.h rfl (wrap_i64 Oi)|exact Y.convInt rfl Un.h Un.h rfl (wrap_u64 Oi))) ?_))|(refine gO 2 ?_;(refine iXz ?_;refine xA rfl rfl (blt rfl) rfl (by first|exact jO 0 (Y.move rfl rfl)|exact jO 1 (Y.assign rfl rfl)|exact jO 2 (by first|exact ldV rfl rfl (fun _ h=>bxb h) Rf|exact ldV rfl rfl (fun _ h=>Blk.ext (by assumption) (Hp.ext h)) Rf|exact ldB rfl rfl (fun _ h=>bxb h)|exact ldB rfl rfl (fun _ h=>Blk.ext (by assumption) (Hp.ext h))|exact ldG rfl rfl (fun _ h=>rwl h) Om (by infer_instance) Rf|exact ldG rfl rfl (fun _ h=>Ls.ext Lb (Hp.ext h)) Om (by infer_instance) Rf|exact ldF rfl rfl (fun _ h=>rwl h) Om (by infer_instance)|exact ldF rfl rfl (fun _ h=>Ls.ext Lb (Hp.ext h)) Om (by infer_instance))|exact jO 3 (by first|exact faK rfl Un.h rfl rfl|exact feK rfl Un.h rfl rfl)|exact jO 4 (by first|exact Y.indexLs _ (rwl H) rfl Un.h Tn.h rfl rfl rfl Om|exact Y.indexLs _ (Ls.ext Lb H.ext) rfl Un.h Tn.h rfl rfl rfl Om)|exact jO 5 (Y.extract rfl rfl rfl)|exact jO 6 (by first|exact Y.lenSl rfl rfl rfl Un.h rfl|exact Y.minI rfl rfl rfl rfl|exact Y.maxI rfl rfl rfl rfl)|exact jO 7 (by first|exact Y.lss rfl rfl rfl|exact Y.add rfl rfl rfl (wrap_i64 Oi)|exact Y.neq rfl rfl rfl|exact Y.eql rfl rfl rfl|exact Y.gtr rfl rfl rfl|exact Y.leq rfl rfl rfl|exact Y.geq rfl rfl rfl|exact Y.sub rfl rfl rfl (wrap_i64 Oi)|exact Y.mul rfl rfl rfl (wrap_i64 Oi)|exact Y.eqlStr rfl rfl rfl|exact Y.neqStr rfl rfl rfl)|exact jO 8 (Y.not rfl rfl)|exact jO 9 (by first|exact Y.or rfl rfl rfl rfl|exact Y.and rfl rfl rfl rfl)|exact jO 10 (buK rfl)|exact jO 11 (Y.nilCheck rfl rfl)|exact jO 12 (by first|exact Y.convInt rfl Un.h Un.h rfl (wrap_i64 Oi)|exact Y.convInt rfl Un.h Un.h rfl (wrap_u64 Oi))) ?_))|(refine gO 3 ?_;first|(refine iCz 1 ?_;refine WC.sg ?_)|(refine iCz 2 ?_;refine WC.sq ?_)|(refine iCz 3 ?_;refine WC.skip ?_)|(refine iCz 4 ?_;refine WC.block ?_)|(refine iCz 5 ?_;refine WC.region rfl ?_)|(refine iCz 6 ?_;refine WC.ret ?_)|(refine iCz 7 ?_;refine WC.exit ?_))|(refine gO 4 ?_;first|refine kNz ?_|refine kWz ?_));exact x.out):B:=h ⟨a⟩
theorem Kd{A B:Prop}(a:A)(h:Wr A→B:=by intro x;(first|refine Go.Eng.yy (Yld.cast (Y.neq rfl rfl rfl) (Go.Eng.vb (by first|rfl|decide))) ?_|refine Go.Eng.yy (Yld.cast (Y.eql rfl rfl rfl) (Go.Eng.vb (by first|rfl|decide))) ?_);exact x.out):B:=h ⟨a⟩
theorem go{A B:Prop}(a:A)(h:Wr A→B:=by intro x;(repeat refine Go.Eng.G1 ?_);exact x.out):B:=h ⟨a⟩
theorem G2{A B:Prop}(a:A)(h:Wr A→B:=by intro x;(iterate 2 refine Go.Eng.G1 ?_);exact x.out):B:=h ⟨a⟩
theorem G3{A B:Prop}(a:A)(h:Wr A→B:=by intro x;(iterate 3 refine Go.Eng.G1 ?_);exact x.out):B:=h ⟨a⟩
theorem G4{A B:Prop}(a:A)(h:Wr A→B:=by intro x;(iterate 4 refine Go.Eng.G1 ?_);exact x.out):B:=h ⟨a⟩
theorem G5{A B:Prop}(a:A)(h:Wr A→B:=by intro x;(iterate 5 refine Go.Eng.G1 ?_);exact x.out):B:=h ⟨a⟩
theorem G6{A B:Prop}(a:A)(h:Wr A→B:=by intro x;(iterate 6 refine Go.Eng.G1 ?_);exact x.out):B:=h ⟨a⟩
theorem G7{A B:Prop}(a:A)(h:Wr A→B:=by intro x;(iterate 7 refine Go.Eng.G1 ?_);exact x.out):B:=h ⟨a⟩
theorem G8{A B:Prop}(a:A)(h:Wr A→B:=by intro x;(iterate 8 refine Go.Eng.G1 ?_);exact x.out):B:=h ⟨a⟩
theorem G9{A B:Prop}(a:A)(h:Wr A→B:=by intro x;(iterate 9 refine Go.Eng.G1 ?_);exact x.out):B:=h ⟨a⟩
theorem G10{A B:Prop}(a:A)(h:Wr A→B:=by intro x;(iterate 10 refine Go.Eng.G1 ?_);exact x.out):B:=h ⟨a⟩
theorem G11{A B:Prop}(a:A)(h:Wr A→B:=by intro x;(iterate 11 refine Go.Eng.G1 ?_);exact x.out):B:=h ⟨a⟩
theorem G12{A B:Prop}(a:A)(h:Wr A→B:=by intro x;(iterate 12 refine Go.Eng.G1 ?_);exact x.out):B:=h ⟨a⟩
theorem G13{A B:Prop}(a:A)(h:Wr A→B:=by intro x;(iterate 13 refine Go.Eng.G1 ?_);exact x.out):B:=h ⟨a⟩
theorem G14{A B:Prop}(a:A)(h:Wr A→B:=by intro x;(iterate 14 refine Go.Eng.G1 ?_);exact x.out):B:=h ⟨a⟩
theorem G15{A B:Prop}(a:A)(h:Wr A→B:=by intro x;(iterate 15 refine Go.Eng.G1 ?_);exact x.out):B:=h ⟨a⟩
theorem G16{A B:Prop}(a:A)(h:Wr A→B:=by intro x;(iterate 16 refine Go.Eng.G1 ?_);exact x.out):B:=h ⟨a⟩
theorem G17{A B:Prop}(a:A)(h:Wr A→B:=by intro x;(iterate 17 refine Go.Eng.G1 ?_);exact x.out):B:=h ⟨a⟩
theorem G18{A B:Prop}(a:A)(h:Wr A→B:=by intro x;(iterate 18 refine Go.Eng.G1 ?_);exact x.out):B:=h ⟨a⟩
theorem G19{A B:Prop}(a:A)(h:Wr A→B:=by intro x;(iterate 19 refine Go.Eng.G1 ?_);exact x.out):B:=h ⟨a⟩
theorem G24{A B:Prop}(a:A)(h:Wr A→B:=by intro x;(iterate 24 refine Go.Eng.G1 ?_);exact x.out):B:=h ⟨a⟩
theorem G25{A B:Prop}(a:A)(h:Wr A→B:=by intro x;(iterate 25 refine Go.Eng.G1 ?_);exact x.out):B:=h ⟨a⟩
theorem G27{A B:Prop}(a:A)(h:Wr A→B:=by intro x;(iterate 27 refine Go.Eng.G1 ?_);exact x.out):B:=h ⟨a⟩
theorem G30{A B:Prop}(a:A)(h:Wr A→B:=by intro x;(iterate 30 refine Go.Eng.G1 ?_);exact x.out):B:=h ⟨a⟩
end Go.Eng
namespace Go.Proofs.YtaclfjjipnpboaaGreatDoor
open Go Go.Eng Go.RowKit
abbrev Cr(f:FuncId)(A:Array Value)(w:World)(v:Value):Prop:=Calls Tryz.prog f A w fun e w'=>e= .returned v∧Ext w w'
namespace TW
abbrev u3:= @Tryz.underlying3
abbrev u4:= @Tryz.underlying4
abbrev u9:= @Tryz.underlying9
abbrev u22:= @Tryz.underlying22
abbrev u23:= @Tryz.underlying23
abbrev u24:= @Tryz.underlying24
abbrev u27:= @Tryz.underlying27
abbrev u29:= @Tryz.underlying29
abbrev u32:= @Tryz.underlying32
abbrev u39:= @Tryz.underlying39
abbrev u40:= @Tryz.underlying40
abbrev u41:= @Tryz.underlying41
abbrev u42:= @Tryz.underlying42
abbrev u43:= @Tryz.underlying43
abbrev u44:= @Tryz.underlying44
abbrev u45:= @Tryz.underlying45
abbrev u46:= @Tryz.underlying46
abbrev u48:= @Tryz.underlying48
abbrev u53:= @Tryz.underlying53
abbrev u58:= @Tryz.underlying58
abbrev u60:= @Tryz.underlying60
abbrev u63:= @Tryz.underlying63
abbrev u64:= @Tryz.underlying64
abbrev u66:= @Tryz.underlying66
abbrev u73:= @Tryz.underlying73
abbrev u79:= @Tryz.underlying79
abbrev u80:= @Tryz.underlying80
abbrev u81:= @Tryz.underlying81
abbrev u96:= @Tryz.underlying96
abbrev u98:= @Tryz.underlying98
abbrev u101:= @Tryz.underlying101
abbrev u107:= @Tryz.underlying107
abbrev u140:= @Tryz.underlying140
abbrev u142:= @Tryz.underlying142
abbrev u146:= @Tryz.underlying146
abbrev u147:= @Tryz.underlying147
abbrev u174:= @Tryz.underlying174
abbrev u178:= @Tryz.underlying178
abbrev u179:= @Tryz.underlying179
abbrev u181:= @Tryz.underlying181
abbrev u186:= @Tryz.underlying186
abbrev u187:= @Tryz.underlying187
abbrev u191:= @Tryz.underlying191
abbrev u195:= @Tryz.underlying195
abbrev u202:= @Tryz.underlying202
abbrev u204:= @Tryz.underlying204
abbrev u205:= @Tryz.underlying205
abbrev u211:= @Tryz.underlying211
abbrev u221:= @Tryz.underlying221
abbrev u228:= @Tryz.underlying228
abbrev u233:= @Tryz.underlying233
abbrev u246:= @Tryz.underlying246
abbrev u251:= @Tryz.underlying251
abbrev u266:= @Tryz.underlying266
abbrev u275:= @Tryz.underlying275
abbrev u278:= @Tryz.underlying278
abbrev u297:= @Tryz.underlying297
abbrev u298:= @Tryz.underlying298
abbrev u301:= @Tryz.underlying301
abbrev u309:= @Tryz.underlying309
abbrev u313:= @Tryz.underlying313
abbrev u323:= @Tryz.underlying323
abbrev u324:= @Tryz.underlying324
abbrev u347:= @Tryz.underlying347
abbrev u357:= @Tryz.underlying357
abbrev u358:= @Tryz.underlying358
theorem ti3:TI Tryz.prog 3 (.int .i64 0) 1 8:=TI.mk (by kernel_rfl)
theorem ti4:TI Tryz.prog 4 (.bool false) 1 1:=TI.mk (by kernel_rfl)
theorem ti5:TI Tryz.prog 5 (.int .u8 0) 1 1:=TI.mk (by kernel_rfl)
theorem ti9:TI Tryz.prog 9 (.string ⟨#[]⟩) 1 16:=TI.mk (by kernel_rfl)
theorem ti22:TI Tryz.prog 22 (.slice none 0 0) 1 24:=TI.mk (by kernel_rfl)
theorem ti23:TI Tryz.prog 23 (.slice none 0 0) 1 24:=TI.mk (by kernel_rfl)
theorem ti24:TI Tryz.prog 24 (.slice none 0 0) 1 24:=TI.mk (by kernel_rfl)
theorem ti26:TI Tryz.prog 26 (.agg #[.slice none 0 0,.slice none 0 0,.slice none 0 0]) 3 72:=TI.mk (by kernel_rfl)
theorem ti27:TI Tryz.prog 27 (.slice none 0 0) 1 24:=TI.mk (by kernel_rfl)
theorem ti29:TI Tryz.prog 29 (.agg #[.slice none 0 0,.slice none 0 0,.slice none 0 0,.slice none 0 0]) 4 96:=TI.mk (by kernel_rfl)
theorem ti32:TI Tryz.prog 32 (.int .i64 0) 1 8:=TI.mk (by kernel_rfl)
theorem ti39:TI Tryz.prog 39 (.agg #[.int .i64 0,.int .i64 0]) 2 16:=TI.mk (by kernel_rfl)
theorem ti40:TI Tryz.prog 40 (.slice none 0 0) 1 24:=TI.mk (by kernel_rfl)
theorem ti41:TI Tryz.prog 41 (.slice none 0 0) 1 24:=TI.mk (by kernel_rfl)
theorem ti42:TI Tryz.prog 42 (.slice none 0 0) 1 24:=TI.mk (by kernel_rfl)
theorem ti43:TI Tryz.prog 43 (.slice none 0 0) 1 24:=TI.mk (by kernel_rfl)
theorem ti44:TI Tryz.prog 44 (.slice none 0 0) 1 24:=TI.mk (by kernel_rfl)
theorem ti45:TI Tryz.prog 45 (.slice none 0 0) 1 24:=TI.mk (by kernel_rfl)
theorem ti46:TI Tryz.prog 46 (.slice none 0 0) 1 24:=TI.mk (by kernel_rfl)
theorem ti48:TI Tryz.prog 48 (.agg #[.int .i64 0,.int .i64 0,.slice none 0 0,.slice none 0 0,.slice none 0 0,.slice none 0 0,.slice none 0 0,.slice none 0 0,.slice none 0 0,.slice none 0 0]) 10 208:=TI.mk (by kernel_rfl)
theorem ti53:TI Tryz.prog 53 (.slice none 0 0) 1 24:=TI.mk (by kernel_rfl)
theorem ti55:TI Tryz.prog 55 (.agg #[.int .i64 0,.int .i64 0,.int .i64 0,.slice none 0 0]) 4 48:=TI.mk (by kernel_rfl)
theorem ti58:TI Tryz.prog 58 (.agg #[.int .i64 0,.int .i64 0,.int .i64 0,.string ⟨#[]⟩,.int .i64 0,.int .i64 0,.int .i64 0,.bool false]) 8 72:=TI.mk (by kernel_rfl)
theorem ti62:TI Tryz.prog 62 (.int .i64 0) 1 8:=TI.mk (by kernel_rfl)
theorem ti63:TI Tryz.prog 63 (.slice none 0 0) 1 24:=TI.mk (by kernel_rfl)
theorem ti64:TI Tryz.prog 64 (.slice none 0 0) 1 24:=TI.mk (by kernel_rfl)
theorem ti66:TI Tryz.prog 66 (.agg #[.int .i64 0,.int .i64 0,.string ⟨#[]⟩,.slice none 0 0,.slice none 0 0]) 5 80:=TI.mk (by kernel_rfl)
theorem ti68:TI Tryz.prog 68 (.agg #[.int .i64 0,.string ⟨#[]⟩,.int .i64 0]) 3 32:=TI.mk (by kernel_rfl)
theorem ti71:TI Tryz.prog 71 (.int .i64 0) 1 8:=TI.mk (by kernel_rfl)
theorem ti73:TI Tryz.prog 73 (.agg #[.int .i64 0,.int .i64 0,.string ⟨#[]⟩,.int .i64 0,.int .i64 0,.slice none 0 0]) 6 72:=TI.mk (by kernel_rfl)
theorem ti79:TI Tryz.prog 79 (.map none) 1 8:=TI.mk (by kernel_rfl)
theorem ti80:TI Tryz.prog 80 (.map none) 1 8:=TI.mk (by kernel_rfl)
theorem ti81:TI Tryz.prog 81 (.slice none 0 0) 1 24:=TI.mk (by kernel_rfl)
theorem ti83:TI Tryz.prog 83 (.agg #[.slice none 0 0,.map none,.map none]) 3 40:=TI.mk (by kernel_rfl)
theorem ti86:TI Tryz.prog 86 (.agg #[.int .i64 0,.int .i64 0]) 2 16:=TI.mk (by kernel_rfl)
theorem ti96:TI Tryz.prog 96 (.agg #[.int .i64 0,.int .i64 0]) 2 16:=TI.mk (by kernel_rfl)
theorem ti98:TI Tryz.prog 98 (.agg #[.int .i64 0,.int .i64 0,.int .i64 0,.int .i64 0,.int .i64 0]) 5 40:=TI.mk (by kernel_rfl)
theorem ti101:TI Tryz.prog 101 (.slice none 0 0) 1 24:=TI.mk (by kernel_rfl)
theorem ti105:TI Tryz.prog 105 (.agg #[.int .i64 0,.int .i64 0]) 2 16:=TI.mk (by kernel_rfl)
theorem ti107:TI Tryz.prog 107 (.agg #[.int .i64 0,.int .i64 0,.int .i64 0,.int .i64 0,.string ⟨#[]⟩,.int .i64 0,.int .i64 0,.slice none 0 0,.int .i64 0,.int .i64 0]) 10 104:=TI.mk (by kernel_rfl)
theorem ti119:TI Tryz.prog 119 (.agg #[.int .i64 0,.int .i64 0,.int .i64 0,.int .i64 0,.int .i64 0,.int .i64 0,.int .i64 0]) 7 56:=TI.mk (by kernel_rfl)
theorem ti122:TI Tryz.prog 122 (.agg #[.int .i64 0,.int .i64 0,.int .i64 0,.int .i64 0,.int .i64 0,.int .i64 0,.int .i64 0]) 7 56:=TI.mk (by kernel_rfl)
theorem ti125:TI Tryz.prog 125 (.agg #[.string ⟨#[]⟩,.int .i64 0,.int .i64 0]) 3 32:=TI.mk (by kernel_rfl)
theorem ti128:TI Tryz.prog 128 (.agg #[.int .i64 0,.int .i64 0,.int .i64 0,.int .i64 0]) 4 32:=TI.mk (by kernel_rfl)
theorem ti131:TI Tryz.prog 131 (.agg #[.int .i64 0,.int .i64 0,.int .i64 0,.slice none 0 0]) 4 48:=TI.mk (by kernel_rfl)
theorem ti135:TI Tryz.prog 135 (.agg #[.int .i64 0,.int .i64 0,.int .i64 0,.int .i64 0,.int .i64 0,.slice none 0 0,.bool false]) 7 72:=TI.mk (by kernel_rfl)
theorem ti138:TI Tryz.prog 138 (.agg #[.int .i64 0,.int .i64 0,.int .i64 0]) 3 24:=TI.mk (by kernel_rfl)
theorem ti142:TI Tryz.prog 142 (.agg #[.string ⟨#[]⟩,.int .i64 0,.bool false,.string ⟨#[]⟩,.string ⟨#[]⟩,.bool false]) 6 72:=TI.mk (by kernel_rfl)
theorem ti146:TI Tryz.prog 146 (.pointer none) 1 8:=TI.mk (by kernel_rfl)
theorem ti147:TI Tryz.prog 147 (.slice none 0 0) 1 24:=TI.mk (by kernel_rfl)
theorem ti149:TI Tryz.prog 149 (.agg #[.pointer none,.slice none 0 0]) 2 32:=TI.mk (by kernel_rfl)
theorem ti157:TI Tryz.prog 157 (.agg #[.string ⟨#[]⟩,.int .i64 0]) 2 24:=TI.mk (by kernel_rfl)
theorem ti162:TI Tryz.prog 162 (.agg #[.int .i64 0,.int .i64 0,.string ⟨#[]⟩,.slice none 0 0,.slice none 0 0,.bool false]) 6 88:=TI.mk (by kernel_rfl)
theorem ti178:TI Tryz.prog 178 (.map none) 1 8:=TI.mk (by kernel_rfl)
theorem ti179:TI Tryz.prog 179 (.slice none 0 0) 1 24:=TI.mk (by kernel_rfl)
theorem ti181:TI Tryz.prog 181 (.agg #[.map none,.slice none 0 0,.slice none 0 0]) 3 56:=TI.mk (by kernel_rfl)
theorem ti186:TI Tryz.prog 186 (.map none) 1 8:=TI.mk (by kernel_rfl)
theorem ti187:TI Tryz.prog 187 (.slice none 0 0) 1 24:=TI.mk (by kernel_rfl)
theorem ti189:TI Tryz.prog 189 (.agg #[.slice none 0 0,.map none]) 2 32:=TI.mk (by kernel_rfl)
theorem ti191:TI Tryz.prog 191 (.pointer none) 1 8:=TI.mk (by kernel_rfl)
theorem ti193:TI Tryz.prog 193 (.agg #[.slice none 0 0,.int .i64 0,.int .i64 0]) 3 40:=TI.mk (by kernel_rfl)
theorem ti195:TI Tryz.prog 195 (.pointer none) 1 8:=TI.mk (by kernel_rfl)
theorem ti197:TI Tryz.prog 197 (.agg #[.int .i64 0,.int .i64 0,.int .i64 0,.string ⟨#[]⟩,.int .i64 0,.int .i64 0,.int .i64 0,.bool false,.int .i64 0,.int .i64 0,.bool false]) 11 96:=TI.mk (by kernel_rfl)
theorem ti204:TI Tryz.prog 204 (.pointer none) 1 8:=TI.mk (by kernel_rfl)
theorem ti205:TI Tryz.prog 205 (.slice none 0 0) 1 24:=TI.mk (by kernel_rfl)
theorem ti207:TI Tryz.prog 207 (.agg #[.slice none 0 0,.int .i64 0,.int .i64 0]) 3 40:=TI.mk (by kernel_rfl)
theorem ti223:TI Tryz.prog 223 (.agg #[.int .i64 0,.int .i64 0]) 2 16:=TI.mk (by kernel_rfl)
theorem ti252:TI Tryz.prog 252 (.pointer none) 1 8:=TI.mk (by kernel_rfl)
theorem ti254:TI Tryz.prog 254 (.agg #[.int .i64 0,.int .i64 0]) 2 16:=TI.mk (by kernel_rfl)
theorem ti266:TI Tryz.prog 266 (.agg #[.int .i64 0,.int .i64 0,.int .i64 0,.int .i64 0,.int .i64 0]) 5 40:=TI.mk (by kernel_rfl)
theorem ti278:TI Tryz.prog 278 (.agg #[.string ⟨#[]⟩,.bool false,.bool false,.bool false,.bool false,.int .i64 0,.int .i64 0,.int .i64 0,.int .i64 0]) 9 56:=TI.mk (by kernel_rfl)
theorem ti297:TI Tryz.prog 297 (.slice none 0 0) 1 24:=TI.mk (by kernel_rfl)
theorem ti298:TI Tryz.prog 298 (.map none) 1 8:=TI.mk (by kernel_rfl)
theorem ti300:TI Tryz.prog 300 (.agg #[.slice none 0 0,.slice none 0 0,.slice none 0 0,.slice none 0 0,.slice none 0 0,.map none,.slice none 0 0,.slice none 0 0]) 8 176:=TI.mk (by kernel_rfl)
theorem ti324:TI Tryz.prog 324 (.agg #[.int .i64 0,.int .i64 0]) 2 16:=TI.mk (by kernel_rfl)
theorem ti357:TI Tryz.prog 357 (.map none) 1 8:=TI.mk (by kernel_rfl)
theorem ti358:TI Tryz.prog 358 (.slice none 0 0) 1 24:=TI.mk (by kernel_rfl)
theorem ti360:TI Tryz.prog 360 (.agg #[.map none,.slice none 0 0]) 2 32:=TI.mk (by kernel_rfl)
theorem ti365:TI Tryz.prog 365 (.agg #[.int .i64 0,.int .i64 0,.int .i64 0]) 3 24:=TI.mk (by kernel_rfl)
theorem ti368:TI Tryz.prog 368 (.agg #[.int .i64 0,.int .i64 0]) 2 16:=TI.mk (by kernel_rfl)
theorem pl26:PL Tryz.prog 26 [.slice none 0 0,.slice none 0 0,.slice none 0 0] [(0,1),(1,1),(2,1)]:=PL.mk (zero:=[.slice none 0 0,.slice none 0 0,.slice none 0 0]) ti26 Tryz.underlying26 (by kernel_rfl)
theorem pl29:PL Tryz.prog 29 [.slice none 0 0,.slice none 0 0,.slice none 0 0,.slice none 0 0] [(0,3),(3,1)]:=PL.mk (zero:=[.slice none 0 0,.slice none 0 0,.slice none 0 0,.slice none 0 0]) ti29 Tryz.underlying29 (by kernel_rfl)
theorem pl39:PL Tryz.prog 39 [.int .i64 0,.int .i64 0] [(0,1),(1,1)]:=PL.mk (zero:=[.int .i64 0,.int .i64 0]) ti39 Tryz.underlying39 (by kernel_rfl)
theorem pl48:PL Tryz.prog 48 [.int .i64 0,.int .i64 0,.slice none 0 0,.slice none 0 0,.slice none 0 0,.slice none 0 0,.slice none 0 0,.slice none 0 0,.slice none 0 0,.slice none 0 0] [(0,2),(2,1),(3,1),(4,1),(5,1),(6,1),(7,1),(8,1),(9,1)]:=PL.mk (zero:=[.int .i64 0,.int .i64 0,.slice none 0 0,.slice none 0 0,.slice none 0 0,.slice none 0 0,.slice none 0 0,.slice none 0 0,.slice none 0 0,.slice none 0 0]) ti48 Tryz.underlying48 (by kernel_rfl)
theorem pl55:PL Tryz.prog 55 [.int .i64 0,.int .i64 0,.int .i64 0,.slice none 0 0] [(0,1),(1,1),(2,1),(3,1)]:=PL.mk (zero:=[.int .i64 0,.int .i64 0,.int .i64 0,.slice none 0 0]) ti55 Tryz.underlying55 (by kernel_rfl)
theorem pl58:PL Tryz.prog 58 [.int .i64 0,.int .i64 0,.int .i64 0,.string ⟨#[]⟩,.int .i64 0,.int .i64 0,.int .i64 0,.bool false] [(0,1),(1,1),(2,1),(3,1),(4,2),(6,1),(7,1)]:=PL.mk (zero:=[.int .i64 0,.int .i64 0,.int .i64 0,.string ⟨#[]⟩,.int .i64 0,.int .i64 0,.int .i64 0,.bool false]) ti58 Tryz.underlying58 (by kernel_rfl)
theorem pl66:PL Tryz.prog 66 [.int .i64 0,.int .i64 0,.string ⟨#[]⟩,.slice none 0 0,.slice none 0 0] [(0,1),(1,1),(2,1),(3,1),(4,1)]:=PL.mk (zero:=[.int .i64 0,.int .i64 0,.string ⟨#[]⟩,.slice none 0 0,.slice none 0 0]) ti66 Tryz.underlying66 (by kernel_rfl)
theorem pl68:PL Tryz.prog 68 [.int .i64 0,.string ⟨#[]⟩,.int .i64 0] [(0,1),(1,1),(2,1)]:=PL.mk (zero:=[.int .i64 0,.string ⟨#[]⟩,.int .i64 0]) ti68 Tryz.underlying68 (by kernel_rfl)
theorem pl73:PL Tryz.prog 73 [.int .i64 0,.int .i64 0,.string ⟨#[]⟩,.int .i64 0,.int .i64 0,.slice none 0 0] [(0,1),(1,1),(2,1),(3,1),(4,1),(5,1)]:=PL.mk (zero:=[.int .i64 0,.int .i64 0,.string ⟨#[]⟩,.int .i64 0,.int .i64 0,.slice none 0 0]) ti73 Tryz.underlying73 (by kernel_rfl)
theorem pl83:PL Tryz.prog 83 [.slice none 0 0,.map none,.map none] [(0,1),(1,1),(2,1)]:=PL.mk (zero:=[.slice none 0 0,.map none,.map none]) ti83 Tryz.underlying83 (by kernel_rfl)
theorem pl86:PL Tryz.prog 86 [.int .i64 0,.int .i64 0] [(0,1),(1,1)]:=PL.mk (zero:=[.int .i64 0,.int .i64 0]) ti86 Tryz.underlying86 (by kernel_rfl)
theorem pl96:PL Tryz.prog 96 [.int .i64 0,.int .i64 0] [(0,1),(1,1)]:=PL.mk (zero:=[.int .i64 0,.int .i64 0]) ti96 Tryz.underlying96 (by kernel_rfl)
theorem pl105:PL Tryz.prog 105 [.int .i64 0,.int .i64 0] [(0,1),(1,1)]:=PL.mk (zero:=[.int .i64 0,.int .i64 0]) ti105 Tryz.underlying105 (by kernel_rfl)
theorem pl107:PL Tryz.prog 107 [.int .i64 0,.int .i64 0,.int .i64 0,.int .i64 0,.string ⟨#[]⟩,.int .i64 0,.int .i64 0,.slice none 0 0,.int .i64 0,.int .i64 0] [(0,2),(2,6),(8,2)]:=PL.mk (zero:=[.int .i64 0,.int .i64 0,.int .i64 0,.int .i64 0,.string ⟨#[]⟩,.int .i64 0,.int .i64 0,.slice none 0 0,.int .i64 0,.int .i64 0]) ti107 Tryz.underlying107 (by kernel_rfl)
theorem pl119:PL Tryz.prog 119 [.int .i64 0,.int .i64 0,.int .i64 0,.int .i64 0,.int .i64 0,.int .i64 0,.int .i64 0] [(0,1),(1,1),(2,2),(4,1),(5,1),(6,1)]:=PL.mk (zero:=[.int .i64 0,.int .i64 0,.int .i64 0,.int .i64 0,.int .i64 0,.int .i64 0,.int .i64 0]) ti119 Tryz.underlying119 (by kernel_rfl)
theorem pl122:PL Tryz.prog 122 [.int .i64 0,.int .i64 0,.int .i64 0,.int .i64 0,.int .i64 0,.int .i64 0,.int .i64 0] [(0,1),(1,2),(3,2),(5,1),(6,1)]:=PL.mk (zero:=[.int .i64 0,.int .i64 0,.int .i64 0,.int .i64 0,.int .i64 0,.int .i64 0,.int .i64 0]) ti122 Tryz.underlying122 (by kernel_rfl)
theorem pl125:PL Tryz.prog 125 [.string ⟨#[]⟩,.int .i64 0,.int .i64 0] [(0,1),(1,1),(2,1)]:=PL.mk (zero:=[.string ⟨#[]⟩,.int .i64 0,.int .i64 0]) ti125 Tryz.underlying125 (by kernel_rfl)
theorem pl128:PL Tryz.prog 128 [.int .i64 0,.int .i64 0,.int .i64 0,.int .i64 0] [(0,1),(1,2),(3,1)]:=PL.mk (zero:=[.int .i64 0,.int .i64 0,.int .i64 0,.int .i64 0]) ti128 Tryz.underlying128 (by kernel_rfl)
theorem pl131:PL Tryz.prog 131 [.int .i64 0,.int .i64 0,.int .i64 0,.slice none 0 0] [(0,1),(1,1),(2,1),(3,1)]:=PL.mk (zero:=[.int .i64 0,.int .i64 0,.int .i64 0,.slice none 0 0]) ti131 Tryz.underlying131 (by kernel_rfl)
theorem pl135:PL Tryz.prog 135 [.int .i64 0,.int .i64 0,.int .i64 0,.int .i64 0,.int .i64 0,.slice none 0 0,.bool false] [(0,1),(1,1),(2,1),(3,2),(5,1),(6,1)]:=PL.mk (zero:=[.int .i64 0,.int .i64 0,.int .i64 0,.int .i64 0,.int .i64 0,.slice none 0 0,.bool false]) ti135 Tryz.underlying135 (by kernel_rfl)
theorem pl138:PL Tryz.prog 138 [.int .i64 0,.int .i64 0,.int .i64 0] [(0,1),(1,1),(2,1)]:=PL.mk (zero:=[.int .i64 0,.int .i64 0,.int .i64 0]) ti138 Tryz.underlying138 (by kernel_rfl)
theorem pl142:PL Tryz.prog 142 [.string ⟨#[]⟩,.int .i64 0,.bool false,.string ⟨#[]⟩,.string ⟨#[]⟩,.bool false] [(0,1),(1,1),(2,1),(3,1),(4,1),(5,1)]:=PL.mk (zero:=[.string ⟨#[]⟩,.int .i64 0,.bool false,.string ⟨#[]⟩,.string ⟨#[]⟩,.bool false]) ti142 Tryz.underlying142 (by kernel_rfl)
theorem pl157:PL Tryz.prog 157 [.string ⟨#[]⟩,.int .i64 0] [(0,1),(1,1)]:=PL.mk (zero:=[.string ⟨#[]⟩,.int .i64 0]) ti157 Tryz.underlying157 (by kernel_rfl)
theorem pl162:PL Tryz.prog 162 [.int .i64 0,.int .i64 0,.string ⟨#[]⟩,.slice none 0 0,.slice none 0 0,.bool false] [(0,5),(5,1)]:=PL.mk (zero:=[.int .i64 0,.int .i64 0,.string ⟨#[]⟩,.slice none 0 0,.slice none 0 0,.bool false]) ti162 Tryz.underlying162 (by kernel_rfl)
theorem pl181:PL Tryz.prog 181 [.map none,.slice none 0 0,.slice none 0 0] [(0,1),(1,1),(2,1)]:=PL.mk (zero:=[.map none,.slice none 0 0,.slice none 0 0]) ti181 Tryz.underlying181 (by kernel_rfl)
theorem pl189:PL Tryz.prog 189 [.slice none 0 0,.map none] [(0,1),(1,1)]:=PL.mk (zero:=[.slice none 0 0,.map none]) ti189 Tryz.underlying189 (by kernel_rfl)
theorem pl193:PL Tryz.prog 193 [.slice none 0 0,.int .i64 0,.int .i64 0] [(0,1),(1,1),(2,1)]:=PL.mk (zero:=[.slice none 0 0,.int .i64 0,.int .i64 0]) ti193 Tryz.underlying193 (by kernel_rfl)
theorem pl197:PL Tryz.prog 197 [.int .i64 0,.int .i64 0,.int .i64 0,.string ⟨#[]⟩,.int .i64 0,.int .i64 0,.int .i64 0,.bool false,.int .i64 0,.int .i64 0,.bool false] [(0,8),(8,1),(9,1),(10,1)]:=PL.mk (zero:=[.int .i64 0,.int .i64 0,.int .i64 0,.string ⟨#[]⟩,.int .i64 0,.int .i64 0,.int .i64 0,.bool false,.int .i64 0,.int .i64 0,.bool false]) ti197 Tryz.underlying197 (by kernel_rfl)
theorem pl207:PL Tryz.prog 207 [.slice none 0 0,.int .i64 0,.int .i64 0] [(0,1),(1,1),(2,1)]:=PL.mk (zero:=[.slice none 0 0,.int .i64 0,.int .i64 0]) ti207 Tryz.underlying207 (by kernel_rfl)
theorem pl223:PL Tryz.prog 223 [.int .i64 0,.int .i64 0] [(0,1),(1,1)]:=PL.mk (zero:=[.int .i64 0,.int .i64 0]) ti223 Tryz.underlying223 (by kernel_rfl)
theorem pl254:PL Tryz.prog 254 [.int .i64 0,.int .i64 0] [(0,1),(1,1)]:=PL.mk (zero:=[.int .i64 0,.int .i64 0]) ti254 Tryz.underlying254 (by kernel_rfl)
theorem pl266:PL Tryz.prog 266 [.int .i64 0,.int .i64 0,.int .i64 0,.int .i64 0,.int .i64 0] [(0,1),(1,1),(2,1),(3,1),(4,1)]:=PL.mk (zero:=[.int .i64 0,.int .i64 0,.int .i64 0,.int .i64 0,.int .i64 0]) ti266 Tryz.underlying266 (by kernel_rfl)
theorem pl278:PL Tryz.prog 278 [.string ⟨#[]⟩,.bool false,.bool false,.bool false,.bool false,.int .i64 0,.int .i64 0,.int .i64 0,.int .i64 0] [(0,1),(1,1),(2,1),(3,1),(4,1),(5,1),(6,1),(7,1),(8,1)]:=PL.mk (zero:=[.string ⟨#[]⟩,.bool false,.bool false,.bool false,.bool false,.int .i64 0,.int .i64 0,.int .i64 0,.int .i64 0]) ti278 Tryz.underlying278 (by kernel_rfl)
theorem pl300:PL Tryz.prog 300 [.slice none 0 0,.slice none 0 0,.slice none 0 0,.slice none 0 0,.slice none 0 0,.map none,.slice none 0 0,.slice none 0 0] [(0,4),(4,1),(5,1),(6,1),(7,1)]:=PL.mk (zero:=[.slice none 0 0,.slice none 0 0,.slice none 0 0,.slice none 0 0,.slice none 0 0,.map none,.slice none 0 0,.slice none 0 0]) ti300 Tryz.underlying300 (by kernel_rfl)
theorem pl360:PL Tryz.prog 360 [.map none,.slice none 0 0] [(0,1),(1,1)]:=PL.mk (zero:=[.map none,.slice none 0 0]) ti360 Tryz.underlying360 (by kernel_rfl)
theorem pl365:PL Tryz.prog 365 [.int .i64 0,.int .i64 0,.int .i64 0] [(0,1),(1,1),(2,1)]:=PL.mk (zero:=[.int .i64 0,.int .i64 0,.int .i64 0]) ti365 Tryz.underlying365 (by kernel_rfl)
theorem pl368:PL Tryz.prog 368 [.int .i64 0,.int .i64 0] [(0,1),(1,1)]:=PL.mk (zero:=[.int .i64 0,.int .i64 0]) ti368 Tryz.underlying368 (by kernel_rfl)
abbrev iu3:=Un.mk (t:=3) Tryz.underlying3
abbrev iu4:=Un.mk (t:=4) Tryz.underlying4
abbrev iu9:=Un.mk (t:=9) Tryz.underlying9
abbrev iu22:=Un.mk (t:=22) Tryz.underlying22
abbrev iu23:=Un.mk (t:=23) Tryz.underlying23
abbrev iu24:=Un.mk (t:=24) Tryz.underlying24
abbrev iu26:=Un.mk (t:=26) Tryz.underlying26
abbrev iu27:=Un.mk (t:=27) Tryz.underlying27
abbrev iu29:=Un.mk (t:=29) Tryz.underlying29
abbrev iu32:=Un.mk (t:=32) Tryz.underlying32
abbrev iu39:=Un.mk (t:=39) Tryz.underlying39
abbrev iu40:=Un.mk (t:=40) Tryz.underlying40
abbrev iu41:=Un.mk (t:=41) Tryz.underlying41
abbrev iu42:=Un.mk (t:=42) Tryz.underlying42
abbrev iu43:=Un.mk (t:=43) Tryz.underlying43
abbrev iu44:=Un.mk (t:=44) Tryz.underlying44
abbrev iu45:=Un.mk (t:=45) Tryz.underlying45
abbrev iu46:=Un.mk (t:=46) Tryz.underlying46
abbrev iu48:=Un.mk (t:=48) Tryz.underlying48
abbrev iu53:=Un.mk (t:=53) Tryz.underlying53
abbrev iu55:=Un.mk (t:=55) Tryz.underlying55
abbrev iu58:=Un.mk (t:=58) Tryz.underlying58
abbrev iu60:=Un.mk (t:=60) Tryz.underlying60
abbrev iu62:=Un.mk (t:=62) Tryz.underlying62
abbrev iu63:=Un.mk (t:=63) Tryz.underlying63
abbrev iu64:=Un.mk (t:=64) Tryz.underlying64
abbrev iu66:=Un.mk (t:=66) Tryz.underlying66
abbrev iu68:=Un.mk (t:=68) Tryz.underlying68
abbrev iu71:=Un.mk (t:=71) Tryz.underlying71
abbrev iu73:=Un.mk (t:=73) Tryz.underlying73
abbrev iu79:=Un.mk (t:=79) Tryz.underlying79
abbrev iu80:=Un.mk (t:=80) Tryz.underlying80
abbrev iu81:=Un.mk (t:=81) Tryz.underlying81
abbrev iu83:=Un.mk (t:=83) Tryz.underlying83
abbrev iu86:=Un.mk (t:=86) Tryz.underlying86
abbrev iu96:=Un.mk (t:=96) Tryz.underlying96
abbrev iu98:=Un.mk (t:=98) Tryz.underlying98
abbrev iu101:=Un.mk (t:=101) Tryz.underlying101
abbrev iu105:=Un.mk (t:=105) Tryz.underlying105
abbrev iu107:=Un.mk (t:=107) Tryz.underlying107
abbrev iu119:=Un.mk (t:=119) Tryz.underlying119
abbrev iu122:=Un.mk (t:=122) Tryz.underlying122
abbrev iu125:=Un.mk (t:=125) Tryz.underlying125
abbrev iu128:=Un.mk (t:=128) Tryz.underlying128
abbrev iu131:=Un.mk (t:=131) Tryz.underlying131
abbrev iu135:=Un.mk (t:=135) Tryz.underlying135
abbrev iu138:=Un.mk (t:=138) Tryz.underlying138
abbrev iu140:=Un.mk (t:=140) Tryz.underlying140
abbrev iu142:=Un.mk (t:=142) Tryz.underlying142
abbrev iu146:=Un.mk (t:=146) Tryz.underlying146
abbrev iu147:=Un.mk (t:=147) Tryz.underlying147
abbrev iu149:=Un.mk (t:=149) Tryz.underlying149
abbrev iu157:=Un.mk (t:=157) Tryz.underlying157
abbrev iu160:=Un.mk (t:=160) Tryz.underlying160
abbrev iu162:=Un.mk (t:=162) Tryz.underlying162
abbrev iu174:=Un.mk (t:=174) Tryz.underlying174
abbrev iu178:=Un.mk (t:=178) Tryz.underlying178
abbrev iu179:=Un.mk (t:=179) Tryz.underlying179
abbrev iu181:=Un.mk (t:=181) Tryz.underlying181
abbrev iu186:=Un.mk (t:=186) Tryz.underlying186
abbrev iu187:=Un.mk (t:=187) Tryz.underlying187
abbrev iu189:=Un.mk (t:=189) Tryz.underlying189
abbrev iu191:=Un.mk (t:=191) Tryz.underlying191
abbrev iu193:=Un.mk (t:=193) Tryz.underlying193
abbrev iu195:=Un.mk (t:=195) Tryz.underlying195
abbrev iu197:=Un.mk (t:=197) Tryz.underlying197
abbrev iu202:=Un.mk (t:=202) Tryz.underlying202
abbrev iu204:=Un.mk (t:=204) Tryz.underlying204
abbrev iu205:=Un.mk (t:=205) Tryz.underlying205
abbrev iu207:=Un.mk (t:=207) Tryz.underlying207
abbrev iu211:=Un.mk (t:=211) Tryz.underlying211
abbrev iu221:=Un.mk (t:=221) Tryz.underlying221
abbrev iu223:=Un.mk (t:=223) Tryz.underlying223
abbrev iu228:=Un.mk (t:=228) Tryz.underlying228
abbrev iu233:=Un.mk (t:=233) Tryz.underlying233
abbrev iu246:=Un.mk (t:=246) Tryz.underlying246
abbrev iu251:=Un.mk (t:=251) Tryz.underlying251
abbrev iu254:=Un.mk (t:=254) Tryz.underlying254
abbrev iu266:=Un.mk (t:=266) Tryz.underlying266
abbrev iu275:=Un.mk (t:=275) Tryz.underlying275
abbrev iu278:=Un.mk (t:=278) Tryz.underlying278
abbrev iu294:=Un.mk (t:=294) Tryz.underlying294
abbrev iu297:=Un.mk (t:=297) Tryz.underlying297
abbrev iu298:=Un.mk (t:=298) Tryz.underlying298
abbrev iu300:=Un.mk (t:=300) Tryz.underlying300
abbrev iu301:=Un.mk (t:=301) Tryz.underlying301
abbrev iu309:=Un.mk (t:=309) Tryz.underlying309
abbrev iu313:=Un.mk (t:=313) Tryz.underlying313
abbrev iu323:=Un.mk (t:=323) Tryz.underlying323
abbrev iu324:=Un.mk (t:=324) Tryz.underlying324
abbrev iu333:=Un.mk (t:=333) Tryz.underlying333
abbrev iu347:=Un.mk (t:=347) Tryz.underlying347
abbrev iu357:=Un.mk (t:=357) Tryz.underlying357
abbrev iu358:=Un.mk (t:=358) Tryz.underlying358
abbrev iu360:=Un.mk (t:=360) Tryz.underlying360
abbrev iu365:=Un.mk (t:=365) Tryz.underlying365
abbrev iu368:=Un.mk (t:=368) Tryz.underlying368
abbrev it3:=Tn.mk ti3
abbrev it4:=Tn.mk ti4
abbrev it5:=Tn.mk ti5
abbrev it9:=Tn.mk ti9
abbrev it22:=Tn.mk ti22
abbrev it23:=Tn.mk ti23
abbrev it24:=Tn.mk ti24
abbrev it26:=Tn.mk ti26
abbrev it27:=Tn.mk ti27
abbrev it29:=Tn.mk ti29
abbrev it32:=Tn.mk ti32
abbrev it39:=Tn.mk ti39
abbrev it40:=Tn.mk ti40
abbrev it41:=Tn.mk ti41
abbrev it42:=Tn.mk ti42
abbrev it43:=Tn.mk ti43
abbrev it44:=Tn.mk ti44
abbrev it45:=Tn.mk ti45
abbrev it46:=Tn.mk ti46
abbrev it48:=Tn.mk ti48
abbrev it53:=Tn.mk ti53
abbrev it55:=Tn.mk ti55
abbrev it58:=Tn.mk ti58
abbrev it62:=Tn.mk ti62
abbrev it63:=Tn.mk ti63
abbrev it64:=Tn.mk ti64
abbrev it66:=Tn.mk ti66
abbrev it68:=Tn.mk ti68
abbrev it71:=Tn.mk ti71
abbrev it73:=Tn.mk ti73
abbrev it79:=Tn.mk ti79
abbrev it80:=Tn.mk ti80
abbrev it81:=Tn.mk ti81
abbrev it83:=Tn.mk ti83
abbrev it86:=Tn.mk ti86
abbrev it96:=Tn.mk ti96
abbrev it98:=Tn.mk ti98
abbrev it101:=Tn.mk ti101
abbrev it105:=Tn.mk ti105
abbrev it107:=Tn.mk ti107
abbrev it119:=Tn.mk ti119
abbrev it122:=Tn.mk ti122
abbrev it125:=Tn.mk ti125
abbrev it128:=Tn.mk ti128
abbrev it131:=Tn.mk ti131
abbrev it135:=Tn.mk ti135
abbrev it138:=Tn.mk ti138
abbrev it142:=Tn.mk ti142
abbrev it146:=Tn.mk ti146
abbrev it147:=Tn.mk ti147
abbrev it149:=Tn.mk ti149
abbrev it157:=Tn.mk ti157
abbrev it162:=Tn.mk ti162
abbrev it178:=Tn.mk ti178
abbrev it179:=Tn.mk ti179
abbrev it181:=Tn.mk ti181
abbrev it186:=Tn.mk ti186
abbrev it187:=Tn.mk ti187
abbrev it189:=Tn.mk ti189
abbrev it191:=Tn.mk ti191
abbrev it193:=Tn.mk ti193
abbrev it195:=Tn.mk ti195
abbrev it197:=Tn.mk ti197
abbrev it204:=Tn.mk ti204
abbrev it205:=Tn.mk ti205
abbrev it207:=Tn.mk ti207
abbrev it223:=Tn.mk ti223
abbrev it252:=Tn.mk ti252
abbrev it254:=Tn.mk ti254
abbrev it266:=Tn.mk ti266
abbrev it278:=Tn.mk ti278
abbrev it297:=Tn.mk ti297
abbrev it298:=Tn.mk ti298
abbrev it300:=Tn.mk ti300
abbrev it324:=Tn.mk ti324
abbrev it357:=Tn.mk ti357
abbrev it358:=Tn.mk ti358
abbrev it360:=Tn.mk ti360
abbrev it365:=Tn.mk ti365
abbrev it368:=Tn.mk ti368
abbrev ip26:=Pn.mk pl26
abbrev ip29:=Pn.mk pl29
abbrev ip39:=Pn.mk pl39
abbrev ip48:=Pn.mk pl48
abbrev ip55:=Pn.mk pl55
abbrev ip58:=Pn.mk pl58
abbrev ip66:=Pn.mk pl66
abbrev ip68:=Pn.mk pl68
abbrev ip73:=Pn.mk pl73
abbrev ip83:=Pn.mk pl83
abbrev ip86:=Pn.mk pl86
abbrev ip96:=Pn.mk pl96
abbrev ip105:=Pn.mk pl105
abbrev ip107:=Pn.mk pl107
abbrev ip119:=Pn.mk pl119
abbrev ip122:=Pn.mk pl122
abbrev ip125:=Pn.mk pl125
abbrev ip128:=Pn.mk pl128
abbrev ip131:=Pn.mk pl131
abbrev ip135:=Pn.mk pl135
abbrev ip138:=Pn.mk pl138
abbrev ip142:=Pn.mk pl142
abbrev ip157:=Pn.mk pl157
abbrev ip162:=Pn.mk pl162
abbrev ip181:=Pn.mk pl181
abbrev ip189:=Pn.mk pl189
abbrev ip193:=Pn.mk pl193
abbrev ip197:=Pn.mk pl197
abbrev ip207:=Pn.mk pl207
abbrev ip223:=Pn.mk pl223
abbrev ip254:=Pn.mk pl254
abbrev ip266:=Pn.mk pl266
abbrev ip278:=Pn.mk pl278
abbrev ip300:=Pn.mk pl300
abbrev ip360:=Pn.mk pl360
abbrev ip365:=Pn.mk pl365
abbrev ip368:=Pn.mk pl368
attribute [instance] iu3 iu4 iu9 iu22 iu23 iu24 iu26 iu27 iu29 iu32 iu39 iu40 iu41 iu42 iu43 iu44 iu45 iu46 iu48 iu53 iu55 iu58 iu60 iu62 iu63 iu64 iu66 iu68 iu71 iu73 iu79 iu80 iu81 iu83 iu86 iu96 iu98 iu101 iu105 iu107 iu119 iu122 iu125 iu128 iu131 iu135 iu138 iu140 iu142 iu146 iu147 iu149 iu157 iu160 iu162 iu174 iu178 iu179 iu181 iu186 iu187 iu189 iu191 iu193 iu195 iu197 iu202 iu204 iu205 iu207 iu211 iu221 iu223 iu228 iu233 iu246 iu251 iu254 iu266 iu275 iu278 iu294 iu297 iu298 iu300 iu301 iu309 iu313 iu323 iu324 iu333 iu347 iu357 iu358 iu360 iu365 iu368 it3 it4 it5 it9 it22 it23 it24 it26 it27 it29 it32 it39 it40 it41 it42 it43 it44 it45 it46 it48 it53 it55 it58 it62 it63 it64 it66 it68 it71 it73 it79 it80 it81 it83 it86 it96 it98 it101 it105 it107 it119 it122 it125 it128 it131 it135 it138 it142 it146 it147 it149 it157 it162 it178 it179 it181 it186 it187 it189 it191 it193 it195 it197 it204 it205 it207 it223 it252 it254 it266 it278 it297 it298 it300 it324 it357 it358 it360 it365 it368 ip26 ip29 ip39 ip48 ip55 ip58 ip66 ip68 ip73 ip83 ip86 ip96 ip105 ip107 ip119 ip122 ip125 ip128 ip131 ip135 ip138 ip142 ip157 ip162 ip181 ip189 ip193 ip197 ip207 ip223 ip254 ip266 ip278 ip300 ip360 ip365 ip368
end TW
end Go.Proofs.YtaclfjjipnpboaaGreatDoor
