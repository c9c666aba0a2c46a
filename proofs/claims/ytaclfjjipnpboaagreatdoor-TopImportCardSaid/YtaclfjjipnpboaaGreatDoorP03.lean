/- Part 3 of the proof. Conditions: what each theorem states. -/
import Derived.Test.YtaclfjjipnpboaaGreatDoorP01
import Derived.Test.YtaclfjjipnpboaaGreatDoorP02
import Derived.Sort.Grow
import Derived.Deep.Upon
set_option linter.all false
set_option maxHeartbeats 4000000
set_option maxRecDepth 4000
namespace Go.Eng
open Go Go.RowKit
section
variable{P:Program}{n:Nat}{ops:Array Oper}{E:Env}{w:World}{o:Oper}{rest:List Oper}{d:Nat}{v:Value}{Q:Exit→Act→World→Prop}
theorem yy(hy:Yld P o n E (·=w) v)(h:WL P n ops Q rest ((d,v)::E) w)(hd:o.dst=some d:=by exact rfl)(hn:d<n:=by exact blt rfl)(hg:o.guard=none:=by exact rfl):WL P n ops Q (o::rest) E w:=WL.yld hd hn hg hy h
inductive Sb(E:Env):List Nat→Env→Prop
 |nil:Sb E [] []
 |cons {k v ks E'}:look k E=some v→Sb E ks E'→Sb E (k::ks) ((k,v)::E')
theorem Sb.sub{E:Env}:∀{ks:List Nat} {E':Env},Sb E ks E'→Sub E' E
 |_,_,.nil=>trivial
 |_,_,.cons h r=>⟨h,r.sub⟩
theorem sb{c:Code}{E':Env}(ks:List Nat)(h:WC P n c Q E' w)(hs:Sb E ks E':=by repeat (first|exact Sb.nil|(apply Sb.cons;exact rfl))):WC P n c Q E w:=WC.sub E' hs.sub h
theorem nk{y:Code}{K:Act→World→Prop}{E':Env}(k:∀E w,WC P n y Q E w→WK n K E w)(ks:List Nat)(h:WC P n y Q E' w)(hs:Sb E ks E':=by repeat (first|exact Sb.nil|(apply Sb.cons;exact rfl))):WL P n ops (Exit.then K Q) [] E w:=
 WL.nil (WK.then_normal (k _ _ (WC.sub E' hs.sub h)))
theorem sr{id:Nat}{l l':List Oper}{y:Code}(h:∀K:Act→World→Prop,(∀E w,WC P n y Q E w→WK n K E w)→WL P n l.toArray (Exit.then K Q) l' E w)(hl:l=l':=by exact rfl):WC P n (.seq (.region id l.toArray false) y) Q E w:=
 WC.seq fun K k=>WC.region hl (h K k)
end
theorem go1{A B:Prop}(a:A)(h:A→B:=by intro x;(iterate 1 (first|refine yy (Y.move rfl rfl) ?_|refine yy (Y.assign rfl rfl) ?_|refine yy (Y.lss rfl rfl rfl) ?_|refine yy (Y.or rfl rfl rfl rfl) ?_|refine yy (Y.and rfl rfl rfl rfl) ?_|refine yy (Y.eql rfl rfl rfl) ?_|refine yy (Y.extract rfl rfl rfl) ?_|refine yy (Y.neq rfl rfl rfl) ?_|refine yy (Y.not rfl rfl) ?_|refine yy (Y.gtr rfl rfl rfl) ?_|refine yy (Y.leq rfl rfl rfl) ?_|refine yy (Y.geq rfl rfl rfl) ?_|refine yy (Y.eqlStr rfl rfl rfl) ?_|refine yy (Y.neqStr rfl rfl rfl) ?_));exact x):B:=h a
theorem go2{A B:Prop}(a:A)(h:A→B:=by intro x;(iterate 2 (first|refine yy (Y.move rfl rfl) ?_|refine yy (Y.assign rfl rfl) ?_|refine yy (Y.lss rfl rfl rfl) ?_|refine yy (Y.or rfl rfl rfl rfl) ?_|refine yy (Y.and rfl rfl rfl rfl) ?_|refine yy (Y.eql rfl rfl rfl) ?_|refine yy (Y.extract rfl rfl rfl) ?_|refine yy (Y.neq rfl rfl rfl) ?_|refine yy (Y.not rfl rfl) ?_|refine yy (Y.gtr rfl rfl rfl) ?_|refine yy (Y.leq rfl rfl rfl) ?_|refine yy (Y.geq rfl rfl rfl) ?_|refine yy (Y.eqlStr rfl rfl rfl) ?_|refine yy (Y.neqStr rfl rfl rfl) ?_));exact x):B:=h a
theorem go3{A B:Prop}(a:A)(h:A→B:=by intro x;(iterate 3 (first|refine yy (Y.move rfl rfl) ?_|refine yy (Y.assign rfl rfl) ?_|refine yy (Y.lss rfl rfl rfl) ?_|refine yy (Y.or rfl rfl rfl rfl) ?_|refine yy (Y.and rfl rfl rfl rfl) ?_|refine yy (Y.eql rfl rfl rfl) ?_|refine yy (Y.extract rfl rfl rfl) ?_|refine yy (Y.neq rfl rfl rfl) ?_|refine yy (Y.not rfl rfl) ?_|refine yy (Y.gtr rfl rfl rfl) ?_|refine yy (Y.leq rfl rfl rfl) ?_|refine yy (Y.geq rfl rfl rfl) ?_|refine yy (Y.eqlStr rfl rfl rfl) ?_|refine yy (Y.neqStr rfl rfl rfl) ?_));exact x):B:=h a
theorem go4{A B:Prop}(a:A)(h:A→B:=by intro x;(iterate 4 (first|refine yy (Y.move rfl rfl) ?_|refine yy (Y.assign rfl rfl) ?_|refine yy (Y.lss rfl rfl rfl) ?_|refine yy (Y.or rfl rfl rfl rfl) ?_|refine yy (Y.and rfl rfl rfl rfl) ?_|refine yy (Y.eql rfl rfl rfl) ?_|refine yy (Y.extract rfl rfl rfl) ?_|refine yy (Y.neq rfl rfl rfl) ?_|refine yy (Y.not rfl rfl) ?_|refine yy (Y.gtr rfl rfl rfl) ?_|refine yy (Y.leq rfl rfl rfl) ?_|refine yy (Y.geq rfl rfl rfl) ?_|refine yy (Y.eqlStr rfl rfl rfl) ?_|refine yy (Y.neqStr rfl rfl rfl) ?_));exact x):B:=h a
theorem go5{A B:Prop}(a:A)(h:A→B:=by intro x;(iterate 5 (first|refine yy (Y.move rfl rfl) ?_|refine yy (Y.assign rfl rfl) ?_|refine yy (Y.lss rfl rfl rfl) ?_|refine yy (Y.or rfl rfl rfl rfl) ?_|refine yy (Y.and rfl rfl rfl rfl) ?_|refine yy (Y.eql rfl rfl rfl) ?_|refine yy (Y.extract rfl rfl rfl) ?_|refine yy (Y.neq rfl rfl rfl) ?_|refine yy (Y.not rfl rfl) ?_|refine yy (Y.gtr rfl rfl rfl) ?_|refine yy (Y.leq rfl rfl rfl) ?_|refine yy (Y.geq rfl rfl rfl) ?_|refine yy (Y.eqlStr rfl rfl rfl) ?_|refine yy (Y.neqStr rfl rfl rfl) ?_));exact x):B:=h a
theorem go9{A B:Prop}(a:A)(h:A→B:=by intro x;(iterate 9 (first|refine yy (Y.move rfl rfl) ?_|refine yy (Y.assign rfl rfl) ?_|refine yy (Y.lss rfl rfl rfl) ?_|refine yy (Y.or rfl rfl rfl rfl) ?_|refine yy (Y.and rfl rfl rfl rfl) ?_|refine yy (Y.eql rfl rfl rfl) ?_|refine yy (Y.extract rfl rfl rfl) ?_|refine yy (Y.neq rfl rfl rfl) ?_|refine yy (Y.not rfl rfl) ?_|refine yy (Y.gtr rfl rfl rfl) ?_|refine yy (Y.leq rfl rfl rfl) ?_|refine yy (Y.geq rfl rfl rfl) ?_|refine yy (Y.eqlStr rfl rfl rfl) ?_|refine yy (Y.neqStr rfl rfl rfl) ?_));exact x):B:=h a
section
variable{P:Program}{o:Oper}{n:Nat}{E:Env}{C:World→Prop}{v:Value}{x y:Operand}{t i g off:Nat}{fs:Array Field}{f:Field}{z:Value}{sz by':Nat}{D:TypeDesc}
theorem ld{ad:Addr}(ho:o.op= .load t x)(hU:P.underlying t=some D)(hx:ev E x=some (.pointer (some ad)))(hc:∀w,C w→w.cell? ad=some v)(hD:aggD D=false:=by exact rfl):Yld P o n E C v:=Y.load1 ho hU hD hx hc
end
section
variable{P:Program}{n:Nat}{ops:Array Oper}{E:Env}{w:World}{o:Oper}{rest:List Oper}{d:Nat}{v:Value}
theorem yq{C:World→Prop}{Q:Act→Prop}(hy:Yld P o n E C v)(h:WQ P n ops C Q rest ((d,v)::E))(hd:o.dst=some d:=by exact rfl)(hn:d<n:=by exact blt rfl)(hg:o.guard=none:=by exact rfl):WQ P n ops C Q (o::rest) E:=WQ.yld hd hn hg hy h
theorem yg{Q:Exit→Act→World→Prop}{j t:Nat}{want b:Bool}(hy:b=want→Yld P o n E (·=w) v)(h:WL P n ops Q rest ((d,gv b want v)::E) w)(hd:o.dst=some d:=by exact rfl)(hn:d<n:=by exact blt rfl)(hg:o.guard=some (j,want):=by exact rfl)(hj:(ops[j]?).bind (·.dst)=some t:=by exact rfl)(ht:look t E=some (.bool b):=by exact rfl):WL P n ops Q (o::rest) E w:=WL.yldG hd hn hg hj ht hy h
theorem qg{C:World→Prop}{Q:Act→Prop}{j t:Nat}{want b:Bool}(hy:b=want→Yld P o n E C v)(h:WQ P n ops C Q rest ((d,gv b want v)::E))(hd:o.dst=some d:=by exact rfl)(hn:d<n:=by exact blt rfl)(hg:o.guard=some (j,want):=by exact rfl)(hj:(ops[j]?).bind (·.dst)=some t:=by exact rfl)(ht:look t E=some (.bool b):=by exact rfl):WQ P n ops C Q (o::rest) E:=WQ.yldG hd hn hg hj ht hy h
theorem yx{C:World→Prop}{Q:Act→World→Prop}{r:Ord}{i:Nat}(hi:ops[i]? =some o)(hy:Yld P o n E C v)(h:WX P n ops C Q r ((d,v)::E) w)(hd:o.dst=some d:=by exact rfl)(hn:d<n:=by exact blt rfl)(hg:o.guard=none:=by exact rfl):WX P n ops C Q (.load i r) E w:=WX.yld hi hd hn hg hy h
end
structure Res where
 foot:Nat→Prop
 holds:World→Prop
 dom:∀w b,holds w→foot b→b<w.heap.size
 loc:∀w w',(∀b,foot b→w'.heap[b]? =w.heap[b]?)→holds w→holds w'
def box(g:Nat)(t:TypeId)(cs:List Value):Res:=⟨fun b=>b=g,fun w=>Blk w g t cs,fun _ _ h e=>e▸h.lt,fun _ _ hb h=>(hb g rfl).trans h⟩
def row{α:Type}(e:TypeId)(f:α→List Value)(sz:Nat)(v:Value)(l:List α):Res:=
 ⟨fun b=>v.ownBlock=some b,fun w=>OwnL w 0 e f sz v l,fun _ _ h e=>(h.lt e).2,fun _ _ hb h=>h.move hb⟩
def mpi(g:Nat)(m:List (Int×Value)):Res:=⟨fun b=>b=g,fun w=>Mp w g m,fun _ _ h e=>e▸h.lt,fun _ _ hb h=>h.of_block (hb g rfl)⟩
def mpp(g:Nat)(m:PM):Res:=⟨fun b=>b=g,fun w=>MpP w g m,fun _ _ h e=>e▸h.lt,fun _ _ hb h=>h.of_block (hb g rfl)⟩
def Far(R S:Res):Prop:=∀b,R.foot b→S.foot b→False
theorem Far.symm{R S:Res}(h:Far R S):Far S R:=fun b h1 h2=>h b h2 h1
def star(L:List Res):Res:=
 ⟨fun b=>∃R∈L,R.foot b,fun w=>(∀R∈L,R.holds w)∧L.Pairwise Far,fun w b h e=>by
  obtain⟨R,hR,hb⟩:=e;exact R.dom w b (h.1 R hR) hb,fun w w' hb h=>⟨fun R hR=>R.loc w w' (fun b h'=>hb b ⟨R,hR,h'⟩) (h.1 R hR),h.2⟩⟩
structure Hp(W w:World)(L:List Res):Prop where
 ext:Ext W w
 holds:∀R∈L,R.holds w
 own:∀R∈L,∀b,R.foot b→W.heap.size≤b
 far:L.Pairwise Far
abbrev HpC(W:World)(L:List Res):World→Prop:=fun w=>Hp W w L
section
variable{W w w':World}{L L':List Res}{R S:Res}
theorem Hp.nil(w:World):Hp w w []:=⟨Ext.refl w,by simp,by simp,List.Pairwise.nil⟩
theorem Hp.ex(H:Hp W w L)(x:Ext w w'):Hp W w' L:=
 ⟨H.ext.trans x,fun R hR=>R.loc w w' (fun b hb=>x.block b (R.dom w b (H.holds R hR) hb)) (H.holds R hR),H.own,H.far⟩
theorem Hp.sublist(H:Hp W w L)(h:L'.Sublist L):Hp W w L':=
 ⟨H.ext,fun R hR=>H.holds R (h.subset hR),fun R hR=>H.own R (h.subset hR),H.far.sublist h⟩
theorem Hp.perm(H:Hp W w L)(h:L.Perm L'):Hp W w L':=
 ⟨H.ext,fun R hR=>H.holds R (h.mem_iff.2 hR),fun R hR=>H.own R (h.mem_iff.2 hR),(h.pairwise_iff fun h=>Far.symm h).1 H.far⟩
theorem Hp.tail(H:Hp W w (R::L)):Hp W w L:=H.sublist (List.sublist_cons_self _ _)
theorem Hp.head(H:Hp W w (R::L)):R.holds w:=H.holds R List.mem_cons_self
theorem Hp.new(H:Hp W w L)(x:Ext w w')(h:R.holds w')(hf:∀b,R.foot b→w.heap.size≤b):Hp W w' (R::L):=by
 have H':=H.ex x;refine⟨H'.ext,?_,?_,List.pairwise_cons.2 ⟨?_,H.far⟩⟩
 ·intro S hS;rcases List.mem_cons.1 hS with rfl|hS
  ·exact h
  ·exact H'.holds S hS
 ·intro S hS b hb;rcases List.mem_cons.1 hS with rfl|hS
  ·exact Nat.le_trans H.ext.size (hf b hb)
  ·exact H.own S hS b hb
 ·intro S hS b h1 h2;have:=S.dom w b (H.holds S hS) h2;grind
theorem Hp.turn(H:Hp W w (R::L))(hs:w.heap.size≤w'.heap.size)(hk:∀b,b<w.heap.size→¬R.foot b→w'.heap[b]? =w.heap[b]?)(he:Ext W w'){R':Res}(h:R'.holds w')(hf:∀b,R'.foot b→R.foot b∨w.heap.size≤b):Hp W w' (R'::L):=by
 have hfar:∀S∈L,Far R S:=(List.pairwise_cons.1 H.far).1;refine⟨he,?_,?_,List.pairwise_cons.2 ⟨?_,(List.pairwise_cons.1 H.far).2⟩⟩
 ·intro S hS;rcases List.mem_cons.1 hS with rfl|hS
  ·exact h
  ·refine S.loc w w' (fun b hb=>hk b (S.dom w b (H.holds S (List.mem_cons_of_mem _ hS)) hb) fun h1=>hfar S hS b h1 hb) (H.holds S (List.mem_cons_of_mem _ hS))
 ·intro S hS b hb;rcases List.mem_cons.1 hS with rfl|hS
  ·rcases hf b hb with h1|h1
   ·exact H.own R List.mem_cons_self b h1
   ·exact Nat.le_trans H.ext.size h1
  ·exact H.own S (List.mem_cons_of_mem _ hS) b hb
 ·intro S hS b h1 h2;rcases hf b h1 with h3|h3
  ·exact hfar S hS b h3 h2
  ·have:=S.dom w b (H.holds S (List.mem_cons_of_mem _ hS)) h2;omega
theorem Hp.join(H:Hp W w L)(K:Hp w w' L'):Hp W w' (L'++L):=by
 have H':=H.ex K.ext;refine⟨H'.ext,?_,?_,List.pairwise_append.2 ⟨K.far,H.far,?_⟩⟩
 ·intro S hS;rcases List.mem_append.1 hS with hS|hS
  ·exact K.holds S hS
  ·exact H'.holds S hS
 ·intro S hS b hb;rcases List.mem_append.1 hS with hS|hS
  ·exact Nat.le_trans H.ext.size (K.own S hS b hb)
  ·exact H.own S hS b hb
 ·intro R hR S hS b h1 h2;have:=K.own R hR b h1;have:=S.dom w b (H.holds S hS) h2;omega
end
inductive Tk:Nat→List Res→Res→List Res→Prop
 |here {R L}:Tk 0 (R::L) R L
 |there {k R S L L'}:Tk k L R L'→Tk (k+1) (S::L) R (S::L')
theorem Tk.perm:∀{k:Nat} {L L':List Res} {R:Res},Tk k L R L'→L.Perm (R::L')
 |_,_,_,_,.here=>List.Perm.refl _
 |_,_,_,_,.there (S:=S) h=>(h.perm.cons S).trans (List.Perm.swap _ _ _)
inductive Pick:List Nat→List Res→List Res→Prop
 |nil {L}:Pick [] L []
 |cons {k ks L R L1 L'}:Tk k L R L1→Pick ks L1 L'→Pick (k::ks) L (R::L')
inductive Front:List Nat→List Res→List Res→Prop
 |nil {L}:Front [] L L
 |cons {k ks L R L1 L'}:Tk k L R L1→Front ks L1 L'→Front (k::ks) L (R::L')
inductive Drop:List Nat→List Res→List Res→Prop
 |nil {L}:Drop [] L L
 |cons {k ks L R L1 L'}:Tk k L R L1→Drop ks L1 L'→Drop (k::ks) L L'
theorem Pick.sub:∀{ks:List Nat} {L L':List Res},Pick ks L L'→∃M,L.Perm M∧L'.Sublist M
 |_,L,_,.nil=>⟨L,List.Perm.refl _,List.nil_sublist _⟩
 |_,_,_,.cons h p=>by
  obtain⟨M,hM,hs⟩:=p.sub;exact⟨_::M,h.perm.trans (hM.cons _),hs.cons_cons _⟩
theorem Front.perm:∀{ks:List Nat} {L L':List Res},Front ks L L'→L.Perm L'
 |_,_,_,.nil=>List.Perm.refl _
 |_,_,_,.cons h p=>h.perm.trans (p.perm.cons _)
theorem Drop.sub:∀{ks:List Nat} {L L':List Res},Drop ks L L'→∃M,L.Perm M∧L'.Sublist M
 |_,L,_,.nil=>⟨L,List.Perm.refl _,List.Sublist.refl _⟩
 |_,_,_,.cons (R:=R) h p=>by
  obtain⟨M,hM,hs⟩:=p.sub;exact⟨R::M,h.perm.trans (hM.cons R),hs.cons R⟩
theorem Hp.pick{W w:World}{L L':List Res}(H:Hp W w L)(ks:List Nat)(p:Pick ks L L':=by repeat (first|exact Pick.nil|exact Tk.here|apply Tk.there|apply Pick.cons)):Hp W w L':=by
 obtain⟨M,hM,hs⟩:=p.sub;exact(H.perm hM).sublist hs
theorem Hp.front{W w:World}{L L':List Res}(H:Hp W w L)(ks:List Nat)(p:Front ks L L':=by repeat (first|exact Front.nil|exact Tk.here|apply Tk.there|apply Front.cons)):Hp W w L':=H.perm p.perm
theorem Hp.drop{W w:World}{L L':List Res}(H:Hp W w L)(ks:List Nat)(p:Drop ks L L':=by repeat (first|exact Drop.nil|exact Tk.here|apply Tk.there|apply Drop.cons)):Hp W w L':=by
 obtain⟨M,hM,hs⟩:=p.sub;exact(H.perm hM).sublist hs
section
variable{P:Program}{n:Nat}{ops:Array Oper}{E:Env}{o:Oper}{rest:List Oper}{d:Nat}{c:Call}{x:Operand}{f:FuncId}{args fst cap:List Value}{w:World}
end
section
variable{α:Type}
end
section
variable{α:Type}[Inhabited α]
end
namespace Y
section
variable{P:Program}{o:Oper}{n:Nat}{E:Env}{C:World→Prop}{c:Call}
theorem nilCheck{x:Operand}{ad:Addr}(ho:o.op= .nilCheck x)(hx:ev E x=some (.pointer (some ad))):Yld P o n E C (.pointer (some ad)):=by
 intro A w hA _;simp[execOp,ho,hA.ev hx]
end
end Y
section
variable{α:Type}{f:α→List Value}{sz e:Nat}
theorem made_flat(hf:∀x,(f x).length=sz)(hp:0<sz)(z0:α)(m:Nat):(madeCells (f z0).toArray (m*sz)).toList=(List.replicate m z0).flatMap f:=by
 have hlen:∀q:List α,(q.flatMap f).length=q.length*sz:=by
  intro q
  induction q<;>grind
 apply List.ext_getElem?;intro t;by_cases ht:t<m*sz
 ·have hi:t/sz<m:=(Nat.div_lt_iff_lt_mul hp).2 ht;have hj:t%sz<sz:=Nat.mod_lt _ hp;have hu:(f z0)[t%sz]? =some ((f z0)[t%sz]!):=get_bang (by grind);have h1:=getElem?_flatMap hf (l:=List.replicate m z0) (i:=t/sz) (by rw[List.getElem?_replicate,if_pos hi]) hu;rw[Nat.mul_comm,Nat.div_add_mod]at h1;rw[h1,Array.getElem?_toList];unfold madeCells;grind
 grind [List.getElem?_eq_none,madeCells,List.length_replicate]
variable{P:Program}{n:Nat}{E:Env}{w:World}{o:Oper}{d:Nat}
theorem run_makeS{t:TypeId}{x y:Operand}{k k':IntKind}{m:Nat}{z:Value}{by':Nat}{a:Act}(z0:α)(hA:Ok n E a)(ho:o.op= .makeSlice t x y)(hx:ev E x=some (.int k (m:Int)))(hy:ev E y=some (.int k' (m:Int)))(hU:P.underlying t=some (.slice e))(hT:TI P e z sz by')(hz:z.cells=(f z0).toArray)
  (hf:∀x,(f x).length=sz) (hp:0<sz) (hb:by'*m≤281474976710656) (hm:m≤9223372036854775807):
  ∃v w',(execOp a.eval o).run P w= .ok (.value v) w'∧OwnL w' w.heap.size e f sz v (List.replicate m z0)∧Ext w w':=by
 obtain⟨i,hi,hi1,hi2,hi3⟩:=hT;have hbi:(i.bytes:Int)*(m:Int)≤281474976710656:=by
  grind
 have hr:=run_make (P:=P) w t e i z hU hi hi1 k k' (m:Int) (m:Int) Om Il hbi Om;simp only[Int.toNat_natCast]at hr;rw[hi2,hz]at hr;refine⟨.slice (some ⟨w.heap.size,0,none⟩) m m,w.alloc (.cells (madeCells (f z0).toArray (m*sz)) e),by simp[execOp,ho,hA.ev hx,hA.ev hy,hr],?_,(Ext.refl w).alloc _⟩;have hfl:=made_flat hf hp z0 m;have hl:(List.replicate m z0).length=m:=List.length_replicate;refine⟨by simp_all,.inr ⟨w.heap.size,m,_,by rw[hl],Nat.le_refl _,heap_alloc_new w _,Om,by grind [maxLen],size_madeCells _ _,?_⟩⟩;grind [List.take_of_length_le,madeCells]
theorem WL.makeS{ops:Array Oper}{rest:List Oper}{Q:Exit→Act→World→Prop}{t:TypeId}{x y:Operand}{k k':IntKind}{m:Nat}{z:Value}{by':Nat}(z0:α)(hd:o.dst=some d)(hn:d<n)(hg:o.guard=none)(ho:o.op= .makeSlice t x y)(hx:ev E x=some (.int k (m:Int)))(hy:ev E y=some (.int k' (m:Int)))(hU:P.underlying t=some (.slice e))(hT:TI P e z sz by')(hz:z.cells=(f z0).toArray)
  (hf:∀x,(f x).length=sz) (hp:0<sz) (hb:by'*m≤281474976710656) (hm:m≤9223372036854775807)
  (h:∀v w',OwnL w' w.heap.size e f sz v (List.replicate m z0)→Ext w w'→WL P n ops Q rest ((d,v)::E) w'):WL P n ops Q (o::rest) E w:=by
 intro a hA;obtain⟨v,w',hr,h1,h2⟩:=run_makeS (P:=P) (w:=w) z0 hA ho hx hy hU hT hz hf hp hb hm;refine wpList_plain hg fun K hK=>wp_of_run hr (hK _ _ ?_);rw[hd];exact h v w' h1 h2 _ (hA.put hn v)
end
section
variable{α:Type}[Inhabited α]{f:α→List Value}{sz e:Nat}{P:Program}{n:Nat}{ops:Array Oper}{E:Env}{w:World}{o:Oper}
theorem WX.storeE{C:World→Prop}{Q:Act→World→Prop}{r:Ord}{i base:Nat}{l:List α}{t:TypeId}{x y:Operand}{A:Option Addr}{len cap k off:Nat}{v z:Value}{vs:List Value}{by':Nat}(x':α)(hi:ops[i]? =some o)(hC:C w)(hd:o.dst=none)(hg:o.guard=none)(ho:o.op= .store t x y)(hx:ev E x=some (.pointer (some (elemAt A sz k off))))(hy:ev E y=some v)(hv:v.cells=vs.toArray)
  (hT:TI P t z vs.length by') (own:OwnL w base e f sz (.slice A len cap) l) (hf:∀x,(f x).length=sz) (hk:k<len) (hl:off+vs.length≤sz) (h1:(vs.all Value.oneCell')=true) (hx':f x'=setAll (f l[k]!) off vs)
  (h:∀w',OwnL w' base e f sz (.slice A len cap) (l.set k x')→Gr w w' (Value.slice A len cap).ownBlock→WX P n ops C Q r E w'):WX P n ops C Q (.alt i r .none) E w:=by
 intro a hA;refine⟨⟨hC,?_⟩,trivial⟩;obtain⟨w',hr,h2,h3⟩:=run_storeE (P:=P) x' hA ho hx hy hv hT own hf hk hl h1 hx';unfold lOp;simp only[hi];rw[if_pos (wanted_plain hg _),hr];simp only[loudUpon];rw[hd];exact h w' h2 h3 _ hA
end
section
variable{P:Program}{n:Nat}{ops:Array Oper}{E:Env}{w:World}{o:Oper}
theorem Run.alloc{t:TypeId}{z:Value}{cs:List Value}{sz by':Nat}(ho:o.op= .alloc t)(hT:TI P t z sz by')(hv:z.cells=cs.toArray):
  RunV P n o E w fun v w'=>∃g,v= .pointer (some ⟨g,0,none⟩)∧g=w.heap.size∧Ext w w'∧Blk w' g t cs:=by
 intro a _;refine⟨.pointer (some ⟨w.heap.size,0,none⟩),w.alloc (.cells cs.toArray t),?_,w.heap.size,rfl,rfl,(Ext.refl w).alloc _,Blk.new w t cs⟩;simp[execOp,ho,Instr.alloc,hT.zeroValue,newVar,newRow,hv]
theorem WX.storeB{C:World→Prop}{Q:Act→World→Prop}{r:Ord}{i:Nat}{t bt:TypeId}{x y:Operand}{g off:Nat}{v z:Value}{vs cs cs':List Value}{by':Nat}(hi:ops[i]? =some o)(hC:C w)(hd:o.dst=none)(hg:o.guard=none)(ho:o.op= .store t x y)(hx:ev E x=some (.pointer (some ⟨g,off,none⟩)))(hy:ev E y=some v)(hv:v.cells=vs.toArray)
  (hT:TI P t z vs.length by') (hb:Blk w g bt cs) (hl:off+vs.length≤cs.length) (h1:(vs.all Value.oneCell')=true) (hcs:setAll cs off vs=cs')
  (h:∀w',Only g w w'→Blk w' g bt cs'→WX P n ops C Q r E w'):WX P n ops C Q (.alt i r .none) E w:=by
 intro a ha;refine⟨⟨hC,?_⟩,trivial⟩;obtain⟨w',hr,hon,hb'⟩:=run_storeCells (P:=P) vs w cs off 0 hb Om (fun u hu=>List.all_eq_true.1 h1 u hu);have hs:(execOp a.eval o).run P w= .ok .skip w':=by
  simp[execOp,ho,ha.ev hx,ha.ev hy,Instr.storeAt,Instr.sureAddr,storeVar,hv,hT.sizeOf,hr]
 subst hcs;unfold lOp;simp only[hi];rw[if_pos (wanted_plain hg _),hs];simp only[loudUpon];rw[hd];exact h w' hon hb' _ ha
end
namespace Y
section
variable{P:Program}{o:Oper}{n:Nat}{E:Env}{C:World→Prop}{v:Value}
theorem field1{x:Operand}{t i:Nat}{fs:Array Field}{f:Field}{D:TypeDesc}{cs:List Value}(ho:o.op= .field t x i)(hU:P.underlying t=some (.struct fs))(hf:fs[i]? =some f)(hD:P.underlying f.type=some D)(ha:aggD D=false)(hx:ev E x=some (.agg cs.toArray))(hv:cs[f.offset]? =some v):Yld P o n E C v:=by
 intro A w hA _;simp[execOp,ho,hA.ev hx,Instr.field,run_underlying hU,hf,part,asAgg,run_isAgg hD,ha,hv]
end
end Y
inductive Put(R':Res):Nat→Res→List Res→List Res→Prop
 |here {R L}:Put R' 0 R (R::L) (R'::L)
 |there {k R S L L'}:Put R' k R L L'→Put R' (k+1) R (S::L) (S::L')
theorem Put.mid{R' R:Res}:∀{k:Nat} {L L':List Res},Put R' k R L L'→∃A B,L=A++R::B∧L'=A++R'::B
 |_,_,_,.here (L:=L)=>⟨[],L,rfl,rfl⟩
 |_,_,_,.there (S:=S) p=>by
  obtain⟨A,B,rfl,rfl⟩:=p.mid;grind
section
variable{W w w':World}{L L':List Res}{R R':Res}
theorem Hp.putD{k:Nat}(H:Hp W w L)(p:Put R' k R L L')(f:∀M,Hp W w (R::M)→Hp W w' (R'::M)):Hp W w' L':=by
 obtain⟨A,B,rfl,rfl⟩:=p.mid;exact(f (A++B) (H.perm List.perm_middle)).perm List.perm_middle.symm
theorem Hp.get{k:Nat}(H:Hp W w L)(h:L[k]? =some R):R.holds w:=H.holds R (List.mem_of_getElem? h)
theorem Hp.only{k g:Nat}{t t':TypeId}{cs cs':List Value}(H:Hp W w L)(p:Put (box g t' cs') k (box g t cs) L L')(x:Only g w w')(h:Blk w' g t' cs'):Hp W w' L':=
 H.putD p fun M K=>K.turn (Nat.le_of_eq x.size.symm) (fun b _ hb=>x.block b hb) (K.ext.only x (K.own _ List.mem_cons_self g rfl)) h fun b hb=>.inl hb
theorem Hp.onlyM{k g:Nat}{m m':List (Int×Value)}(H:Hp W w L)(p:Put (mpi g m') k (mpi g m) L L')(x:Only g w w')(h:Mp w' g m'):Hp W w' L':=
 H.putD p fun M K=>K.turn (Nat.le_of_eq x.size.symm) (fun b _ hb=>x.block b hb) (K.ext.only x (K.own _ List.mem_cons_self g rfl)) h fun b hb=>.inl hb
theorem Hp.onlyP{k g:Nat}{m m':PM}(H:Hp W w L)(p:Put (mpp g m') k (mpp g m) L L')(x:Only g w w')(h:MpP w' g m'):Hp W w' L':=
 H.putD p fun M K=>K.turn (Nat.le_of_eq x.size.symm) (fun b _ hb=>x.block b hb) (K.ext.only x (K.own _ List.mem_cons_self g rfl)) h fun b hb=>.inl hb
theorem Hp.grown{α:Type}{e:TypeId}{f:α→List Value}{sz:Nat}{v v':Value}{l l':List α}{k:Nat}(H:Hp W w L)(p:Put (row e f sz v' l') k (row e f sz v l) L L')(x:Gr w w' v.ownBlock)(h:OwnL w' 0 e f sz v' l')(hb:v'.ownBlock=v.ownBlock∨v'.ownBlock=some w.heap.size):Hp W w' L':=
 H.putD p fun M K=>K.turn x.size (fun b hb hf=>x.block b hb (fun e=>hf e.symm)) (K.ext.grown x fun b hb=>K.own _ List.mem_cons_self b hb) h fun b hf=>by
  rcases hb with hb|hb
  ·exact .inl (hb.symm.trans hf)
  ·rw[show(row e f sz v' l').foot b=(v'.ownBlock=some b)from rfl,hb]at hf;grind
end
inductive Nm:List Value→List Value→Prop
 |nil {l}:l=[]→Nm l []
 |cons {l v r r'}:l=v::r→Nm r r'→Nm l (v::r')
theorem Nm.eq:∀{l l':List Value},Nm l l'→l=l'
 |_,_,.nil h=>h
 |_,_,.cons h r=>by rw[h,r.eq]
section
variable{P:Program}{n:Nat}{ops:Array Oper}{Q:Exit→Act→World→Prop}{E:Env}{W w:World}{L L':List Res}{o:Oper}{rest:List Oper}{d:Nat}
theorem bx{t:TypeId}{x:Operand}{v:Value}{cs:List Value}(H:Hp W w L)(h:∀g w',Hp W w' (box g t cs::L)→WL P n ops Q rest ((d,.pointer (some ⟨g,0,none⟩))::E) w')
  (hd:o.dst=some d:=by exact rfl) (hn:d<n:=by exact blt rfl) (hg:o.guard=none:=by exact rfl) (ho:o.op= .box t x:=by exact rfl) (hx:ev E x=some v:=by exact rfl) (hv:v.cells=cs.toArray:=by exact rfl):WL P n ops Q (o::rest) E w:=
 WL.box hd hn hg ho hx hv fun g w' e x b=>h g w' (H.new x b fun b' hb=>by rw[show b'=g from hb,e];omega)
theorem al{t:TypeId}{z:Value}{cs:List Value}{sz by':Nat}(H:Hp W w L)(hT:TI P t z sz by')(h:∀g w',Hp W w' (box g t cs::L)→WL P n ops Q rest ((d,.pointer (some ⟨g,0,none⟩))::E) w')
  (hd:o.dst=some d:=by exact rfl) (hn:d<n:=by exact blt rfl) (hg:o.guard=none:=by exact rfl) (ho:o.op= .alloc t:=by exact rfl) (hv:z.cells=cs.toArray:=by exact rfl):WL P n ops Q (o::rest) E w:=
 WL.alloc hd hn hg ho hT hv fun g w' e x b=>h g w' (H.new x b fun b' hb=>by rw[show b'=g from hb,e];omega)
theorem mm{t:TypeId}(H:Hp W w L)(h:∀g w',Hp W w' (mpi g []::L)→WL P n ops Q rest ((d,.map (some g))::E) w')
  (hd:o.dst=some d:=by exact rfl) (hn:d<n:=by exact blt rfl) (hg:o.guard=none:=by exact rfl) (ho:o.op= .makeMap t none:=by exact rfl):WL P n ops Q (o::rest) E w:=
 WL.makeMap hd hn hg ho fun g w' e x b=>h g w' (H.new x b fun b' hb=>by rw[show b'=g from hb,e];omega)
theorem mmp{t:TypeId}(H:Hp W w L)(h:∀g w',Hp W w' (mpp g []::L)→WL P n ops Q rest ((d,.map (some g))::E) w')
  (hd:o.dst=some d:=by exact rfl) (hn:d<n:=by exact blt rfl) (hg:o.guard=none:=by exact rfl) (ho:o.op= .makeMap t none:=by exact rfl):WL P n ops Q (o::rest) E w:=
 WL.makeMapP hd hn hg ho fun g w' e x b=>h g w' (H.new x b fun b' hb=>by rw[show b'=g from hb,e];omega)
theorem st{t bt:TypeId}{x y:Operand}{g off:Nat}{v z:Value}{vs cs cs':List Value}{by':Nat}(H:Hp W w L)(k:Nat)(hT:TI P t z vs.length by')(h:∀w',Hp W w' L'→WL P n ops Q rest E w')
  (hd:o.dst=none:=by exact rfl) (hg:o.guard=none:=by exact rfl) (ho:o.op= .store t x y:=by exact rfl) (hx:ev E x=some (.pointer (some ⟨g,off,none⟩)):=by exact rfl) (hy:ev E y=some v:=by exact rfl) (hv:v.cells=vs.toArray:=by exact rfl)
  (hk:L[k]? =some (box g bt cs):=by exact rfl) (hcs:Nm (setAll cs off vs) cs':=by repeat (first|exact Nm.nil rfl|(apply Nm.cons;exact rfl))) (p:Put (box g bt cs') k (box g bt cs) L L':=by repeat (first|exact Put.here|apply Put.there)) (hl:Nat.ble (off+vs.length) cs.length=true:=by exact rfl) (h1:(vs.all Value.oneCell')=true:=by exact rfl):WL P n ops Q (o::rest) E w:=
 WL.store hd hg ho hx hy hv hT (H.get hk) (ble hl) h1 hcs.eq fun w' x b=>h w' (H.only p x b)
theorem ste{α:Type}[Inhabited α]{e:TypeId}{f:α→List Value}{sz:Nat}{l:List α}{t:TypeId}{x y:Operand}{A:Option Addr}{len cap i off:Nat}{v z:Value}{vs:List Value}{by':Nat}(H:Hp W w L)(k:Nat)(hk:L[k]? =some (row e f sz (.slice A len cap) l))(x':α)(hi:i<len)(hT:TI P t z vs.length by'){y0:α}(hy0:l[i]! =y0)
  (h:∀w',Hp W w' L'→WL P n ops Q rest E w') (hf:∀x,(f x).length=sz:=by exact fun _=>rfl)
  (hd:o.dst=none:=by exact rfl) (hg:o.guard=none:=by exact rfl) (ho:o.op= .store t x y:=by exact rfl) (hx:ev E x=some (.pointer (some (elemAt A sz i off))):=by exact rfl) (hy:ev E y=some v:=by exact rfl) (hv:v.cells=vs.toArray:=by exact rfl)
  (p:Put (row e f sz (.slice A len cap) (l.set i x')) k (row e f sz (.slice A len cap) l) L L':=by repeat (first|exact Put.here|apply Put.there)) (hl:Nat.ble (off+vs.length) sz=true:=by exact rfl) (h1:(vs.all Value.oneCell')=true:=by exact rfl) (hx':f x'=setAll (f y0) off vs:=by exact rfl):WL P n ops Q (o::rest) E w:=
 WL.storeE x' hd hg ho hx hy hv hT (H.get hk) hf hi (ble hl) h1 (by grind) fun w' ow gr=>h w' (H.grown p gr ow (.inl rfl))
theorem ap{α:Type}{e t:TypeId}{f:α→List Value}{sz:Nat}{v:Value}{l:List α}{c:Call}{g cap m:Nat}{cs:List Value}{z:Value}{by':Nat}{L':Value→List Res}(H:Hp W w L)(k j:Nat)(hk:L[k]? =some (row e f sz v l))(news:List α)(hU:P.underlying t=some (.slice e))(hT:TI P e z sz by')(hcs:news.flatMap f=cs)(h1:∀x,∀u∈f x,u.oneCell'=true)(hm:l.length+news.length≤1000000)
  (h:∀v' w',Hp W w' (L' v')→WL P n ops Q rest ((d,v')::E) w')
  (hd:o.dst=some d:=by exact rfl) (hn:d<n:=by exact blt rfl) (hg:o.guard=none:=by exact rfl) (ho:o.op= .call c:=by exact rfl) (hc:c.callee= .builtin .append:=by exact rfl) (ht:c.argTypes= #[t,t]:=by exact rfl) (ha:evs E c.args.toList=some [v,.slice (some ⟨g,0,none⟩) m cap]:=by exact rfl) (hmm:news.length=m:=by exact rfl)
  (hj:L[j]? =some (box g e cs):=by exact rfl) (p:∀v',Put (row e f sz v' (l++news)) k (row e f sz v l) L (L' v'):=by intro v';repeat (first|exact Put.here|apply Put.there))
  (hz:z.cells.size=sz:=by exact rfl) (hp:0<sz:=by decide) (hby:Nat.ble by' 100000000=true:=by exact rfl) (hf:∀x,(f x).length=sz:=by exact fun _=>rfl):WL P n ops Q (o::rest) E w:=by
 subst hmm;refine WL.appendB hd hn hg ho hc ht hU hT hz hp ha (H.get hk) hf h1 (H.get hj) hcs (Nat.zero_le _) ?_ ?_ fun v' w' ow gr nb=>h v' w' (H.grown (p v') gr ow nb)
 ·have:=ble hby
  calc (l.length+news.length)*by'≤1000000*100000000:=Nat.mul_le_mul hm this
   _≤140737488355328:=by decide
 grind [maxLen]
theorem mu{t kt e g:Nat}{x y z:Operand}{i:Int}{u:Value}{m:List (Int×Value)}(H:Hp W w L)(k:Nat)(hU:P.underlying t=some (.map kt e))(hK:P.underlying kt=some (.int .i64))(h:∀w',Hp W w' L'→WL P n ops Q rest E w')
  (hd:o.dst=none:=by exact rfl) (hg:o.guard=none:=by exact rfl) (ho:o.op= .mapUpdate t x y z∨o.op= .insert t x y z:=by first|exact .inl rfl|exact .inr rfl) (hx:ev E x=some (.map (some g)):=by exact rfl) (hy:ev E y=some (.int .i64 i):=by exact rfl) (hz:ev E z=some u:=by exact rfl)
  (hk:L[k]? =some (mpi g m):=by exact rfl) (p:Put (mpi g (mset m i u)) k (mpi g m) L L':=by repeat (first|exact Put.here|apply Put.there)):WL P n ops Q (o::rest) E w:=
 WL.mapUpdate hd hg ho hU hK hx hy hz (H.get hk) fun w' x b=>h w' (H.onlyM p x b)
theorem mup{t kt e g:Nat}{x y z:Operand}{a b:Int}{u:Value}{m:PM}(H:Hp W w L)(k:Nat)(hU:P.underlying t=some (.map kt e))(hK:PK P kt)(h:∀w',Hp W w' L'→WL P n ops Q rest E w')
  (hd:o.dst=none:=by exact rfl) (hg:o.guard=none:=by exact rfl) (ho:o.op= .mapUpdate t x y z∨o.op= .insert t x y z:=by first|exact .inl rfl|exact .inr rfl) (hx:ev E x=some (.map (some g)):=by exact rfl) (hy:ev E y=some (.agg #[.int .i64 a,.int .i64 b]):=by exact rfl) (hz:ev E z=some u:=by exact rfl)
  (hk:L[k]? =some (mpp g m):=by exact rfl) (p:Put (mpp g (pset m (a,b) u)) k (mpp g m) L L':=by repeat (first|exact Put.here|apply Put.there)):WL P n ops Q (o::rest) E w:=
 WL.mapUpdateP hd hg ho hU hK hx hy hz (H.get hk) fun w' x b=>h w' (H.onlyP p x b)
theorem dl{t kt e g:Nat}{c:Call}{i:Int}{m:List (Int×Value)}(H:Hp W w L)(k:Nat)(hU:P.underlying t=some (.map kt e))(hK:P.underlying kt=some (.int .i64))(h:∀w',Hp W w' L'→WL P n ops Q rest E w')
  (hd:o.dst=none:=by exact rfl) (hg:o.guard=none:=by exact rfl) (ho:o.op= .call c:=by exact rfl) (hc:c.callee= .builtin .delete:=by exact rfl) (ht:c.argTypes[0]? =some t:=by exact rfl) (ha:evs E c.args.toList=some [.map (some g),.int .i64 i]:=by exact rfl)
  (hk:L[k]? =some (mpi g m):=by exact rfl) (p:Put (mpi g (mdel m i)) k (mpi g m) L L':=by repeat (first|exact Put.here|apply Put.there)):WL P n ops Q (o::rest) E w:=
 WL.delete hd hg ho hc ht hU hK ha (H.get hk) fun w' x b=>h w' (H.onlyM p x b)
theorem bs1{t e:Nat}{parts:Array (Nat×Operand)}{ps:List (Nat×Value)}{z:Value}{zs c0 cs:List Value}{sz by':Nat}(H:Hp W w L)(hU:P.underlying t=some (.slice e))(hT:TI P e z sz by')(h:∀g w',Hp W w' (box g e cs::L)→WL P n ops Q rest ((d,.slice (some ⟨g,0,none⟩) 1 1)::E) w')
  (hd:o.dst=some d:=by exact rfl) (hn:d<n:=by exact blt rfl) (hg:o.guard=none:=by exact rfl) (ho:o.op= .buildSlice t 1 parts:=by exact rfl) (hp:(1*sz !=0)=true:=by exact rfl) (hs:Nat.ble (1*sz) 16777216=true:=by exact rfl)
  (hzs:zs=cellsL z:=by exact rfl) (hz:((Array.range (1*sz)).map (z.cells[·%z.cells.size]!))=zs.toArray:=by kernel_rfl) (hps:evp E parts.toList=some ps:=by exact rfl) (hf:fillP (fun i=>some (i*sz,sz)) zs ps=some c0:=by exact rfl) (hN:Nm c0 cs:=by repeat (first|exact Nm.nil rfl|(apply Nm.cons;exact rfl))):WL P n ops Q (o::rest) E w:=
 WL.bslice hd hn hg ho hU hT hp (ble hs) hz hps (by rw[hf,hN.eq]) fun g w' e x b=>h g w' (H.new x b fun b' hb=>by rw[show b'=g from hb,e];omega)
theorem bs{t e len:Nat}{parts:Array (Nat×Operand)}{ps:List (Nat×Value)}{z:Value}{zs cs:List Value}{sz by':Nat}(H:Hp W w L)(hU:P.underlying t=some (.slice e))(hT:TI P e z sz by')(h:∀g w',Hp W w' (box g e cs::L)→WL P n ops Q rest ((d,.slice (some ⟨g,0,none⟩) len len)::E) w')
  (hd:o.dst=some d:=by exact rfl) (hn:d<n:=by exact blt rfl) (hg:o.guard=none:=by exact rfl) (ho:o.op= .buildSlice t len parts:=by exact rfl) (hp:(len*sz !=0)=true:=by exact rfl) (hs:Nat.ble (len*sz) 16777216=true:=by exact rfl)
  (hz:((Array.range (len*sz)).map (z.cells[·%z.cells.size]!))=zs.toArray:=by kernel_rfl) (hps:evp E parts.toList=some ps:=by exact rfl) (hf:fillP (fun i=>some (i*sz,sz)) zs ps=some cs:=by exact rfl):WL P n ops Q (o::rest) E w:=
 WL.bslice hd hn hg ho hU hT hp (ble hs) hz hps hf fun g w' e x b=>h g w' (H.new x b fun b' hb=>by rw[show b'=g from hb,e];omega)
theorem ms{α:Type}{e:TypeId}{f:α→List Value}{sz:Nat}{t:TypeId}{x y:Operand}{k k':IntKind}{m:Nat}{z:Value}{by':Nat}(z0:α)(H:Hp W w L)(hU:P.underlying t=some (.slice e))(hT:TI P e z sz by')(hm:m≤1000000)(h:∀v w',Hp W w' (row e f sz v (List.replicate m z0)::L)→WL P n ops Q rest ((d,v)::E) w')
  (hd:o.dst=some d:=by exact rfl) (hn:d<n:=by exact blt rfl) (hg:o.guard=none:=by exact rfl) (ho:o.op= .makeSlice t x y:=by exact rfl) (hx:ev E x=some (.int k (m:Int)):=by exact rfl) (hy:ev E y=some (.int k' (m:Int)):=by exact rfl) (hz:z.cells=(f z0).toArray:=by exact rfl)
  (hf:∀x,(f x).length=sz:=by exact fun _=>rfl) (hp:0<sz:=by decide) (hb:Nat.ble by' 100000000=true:=by exact rfl):WL P n ops Q (o::rest) E w:=by
 refine WL.makeS z0 hd hn hg ho hx hy hU hT hz hf hp ?_ Om fun v w' ow x=>h v w' (H.new x (ow.base_le (Nat.zero_le _)) fun b hb=>(ow.lt hb).1);have:=ble hb
 calc by'*m≤100000000*1000000:=Nat.mul_le_mul this hm
  _≤281474976710656:=by decide
theorem apl{α:Type}{e t:TypeId}{f:α→List Value}{sz:Nat}{v:Value}{l news:List α}{c:Call}{A:Option Addr}{cap m:Nat}{z:Value}{by':Nat}{L':Value→List Res}(H:Hp W w L)(k:Nat)(hk:L[k]? =some (row e f sz v l))(hL:Ls w A m cap f sz news)(hU:P.underlying t=some (.slice e))(hT:TI P e z sz by')(h1:∀x,∀u∈f x,u.oneCell'=true)(hm:l.length+news.length≤1000000)
  (h:∀v' w',Hp W w' (L' v')→WL P n ops Q rest ((d,v')::E) w')
  (hd:o.dst=some d:=by exact rfl) (hn:d<n:=by exact blt rfl) (hg:o.guard=none:=by exact rfl) (ho:o.op= .call c:=by exact rfl) (hc:c.callee= .builtin .append:=by exact rfl) (ht:c.argTypes= #[t,t]:=by exact rfl) (ha:evs E c.args.toList=some [v,.slice A m cap]:=by exact rfl)
  (p:∀v',Put (row e f sz v' (l++news)) k (row e f sz v l) L (L' v'):=by intro v';repeat (first|exact Put.here|apply Put.there))
  (hz:z.cells.size=sz:=by exact rfl) (hp:0<sz:=by decide) (hby:Nat.ble by' 100000000=true:=by exact rfl) (hf:∀x,(f x).length=sz:=by exact fun _=>rfl):WL P n ops Q (o::rest) E w:=by
 refine WL.appendL hd hn hg ho hc ht hU hT hz hp ha (H.get hk) hf h1 hL (Nat.zero_le _) ?_ ?_ fun v' w' ow gr nb=>h v' w' (H.grown (p v') gr ow nb)
 ·have:=ble hby
  calc (l.length+news.length)*by'≤1000000*100000000:=Nat.mul_le_mul hm this
   _≤140737488355328:=by decide
 grind [maxLen]
end
theorem flatMap_takeK{α:Type}{f:α→List Value}{sz:Nat}(hf:∀x,(f x).length=sz):∀(l:List α) (k:Nat),(l.take k).flatMap f=(l.flatMap f).take (k*sz)
 |[],k=>by simp
 |x::r,0=>by simp
 |x::r,k+1=>by
  rw[List.take_succ_cons,List.flatMap_cons,List.flatMap_cons,flatMap_takeK hf r k,Nat.succ_mul,Nat.add_comm,←hf x,List.take_length_add_append]
theorem OwnL.cut{α:Type}{w:World}{b:Nat}{e:TypeId}{f:α→List Value}{sz n c k:Nat}{A:Option Addr}{l:List α}(h:OwnL w b e f sz (.slice A n c) l)(hf:∀x,(f x).length=sz)(hk:k≤n):OwnL w b e f sz (.slice A k c) (l.take k):=by
 have hn:l.length=n:=by
  obtain⟨A',c',he,_⟩:=h.form;grind
 have hl:(l.take k).length=k:=by grind
 refine⟨?_,?_⟩
 ·rw[flatMap_takeK hf,List.length_take,h.1,hl,hn];simp_all
 ·rcases h.2 with⟨h1,h2⟩|⟨g,cap,cur,h1,h2,h3,h4,h5,h6,h7⟩
  ·grind
  ·injection h1 with e1 e2 e3
   subst e1 e3;refine .inr ⟨g,_,cur,by rw[hl],h2,h3,Om,h5,h6,?_⟩;rw[hl,flatMap_takeK hf,←h7,hn,List.take_take,Nat.min_eq_left (Nat.mul_le_mul_right _ hk)]
theorem Hp.cut{α:Type}{W w:World}{L L':List Res}{e:TypeId}{f:α→List Value}{sz n c:Nat}{A:Option Addr}{l:List α}(H:Hp W w L)(i:Nat)(k:Nat)(hi:L[i]? =some (row e f sz (.slice A n c) l))(hk:k≤n)(hf:∀x,(f x).length=sz:=by exact fun _=>rfl)
  (p:Put (row e f sz (.slice A k c) (l.take k)) i (row e f sz (.slice A n c) l) L L':=by repeat (first|exact Put.here|apply Put.there)):Hp W w L':=by
 refine H.putD p fun M K=>K.turn Nl (fun _ _ _=>rfl) K.ext (OwnL.cut K.head hf hk) fun b hb=>.inl ?_;exact(show(Value.slice A n c).ownBlock=some b from by cases A<;>exact hb)
section
variable{W w w':World}{L:List Res}
theorem Hp.b{g:Nat}{t:TypeId}{cs:List Value}(H:Hp W w L)(k:Nat)(hk:L[k]? =some (box g t cs):=by exact rfl):Blk w g t cs:=H.get hk
theorem Hp.mi{g:Nat}{m:List (Int×Value)}(H:Hp W w L)(k:Nat)(hk:L[k]? =some (mpi g m):=by exact rfl):Mp w g m:=H.get hk
theorem Hp.mp{g:Nat}{m:PM}(H:Hp W w L)(k:Nat)(hk:L[k]? =some (mpp g m):=by exact rfl):MpP w g m:=H.get hk
theorem Hp.l{α:Type}{e:TypeId}{f:α→List Value}{sz n c:Nat}{A:Option Addr}{l:List α}(H:Hp W w L)(k:Nat)(hk:L[k]? =some (row e f sz (.slice A n c) l):=by exact rfl)(hf:∀x,(f x).length=sz:=by exact fun _=>rfl)(hp:0<sz:=by decide):Ls w A n c f sz l:=OwnL.ls (H.get hk) hf hp
theorem Hp.op{α:Type}{e:TypeId}{f:α→List Value}{sz N:Nat}{v:Value}{l:List α}(H:Hp W w L)(k:Nat)(hk:L[k]? =some (row e f sz v l):=by exact rfl)(hN:l.length=N:=by(try simp only[List.length_append,List.length_cons,List.length_nil,List.length_reverse,List.length_drop,List.length_take,List.length_map,List.length_replicate,List.length_set]);exact rfl):∃A n c,v= .slice A n c∧N=n∧n≤c∧c≤9223372036854775807:=by
 obtain⟨A,cap,h,h1,h2⟩:=OwnL.form (H.get hk);exact⟨A,_,cap,h,hN.symm,h1,by unfold maxLen at h2;omega⟩
theorem Hp.out{α:Type}{e:TypeId}{f:α→List Value}{sz:Nat}{v:Value}{l:List α}(H:Hp W w L)(k:Nat)(hk:L[k]? =some (row e f sz v l):=by exact rfl):OwnL w W.heap.size e f sz v l:=by
 have h:=H.get hk;refine⟨h.1,?_⟩;rcases h.2 with h1|⟨g,cap,cur,rfl,h1,h2⟩
 ·grind
 ·exact .inr ⟨g,cap,cur,rfl,H.own _ (List.mem_of_getElem? hk) g rfl,h2⟩
theorem Hp.newRow{α:Type}{e:TypeId}{f:α→List Value}{sz:Nat}{v:Value}{l:List α}(H:Hp W w L)(ow:OwnL w' w.heap.size e f sz v l)(x:Ext w w'):Hp W w' (row e f sz v l::L):=H.new x (ow.base_le (Nat.zero_le _)) fun b hb=>(ow.lt hb).1
theorem Hp.nilRow{α:Type}(H:Hp W w L)(e:TypeId)(f:α→List Value)(sz:Nat):Hp W w (row e f sz (.slice none 0 0) ([]:List α)::L):=H.new (Ext.refl w) OwnL.nil_ fun b hb=>absurd hb ne_nil
end
section
variable{P:Program}{n:Nat}{ops:Array Oper}{Q:Exit→Act→World→Prop}{E:Env}{W w:World}{L:List Res}{o:Oper}{rest:List Oper}{d:Nat}{c:Call}{f:FuncId}{args:List Value}
theorem c1{v:Value}(H:Hp W w L)(hf:Has P f)(hk:Calls P f args.toArray w fun e w'=>e= .returned v∧Ext w w')(h:∀w',Hp W w' L→WL P n ops Q rest ((d,v)::E) w')
  (hd:o.dst=some d:=by exact rfl) (hn:d<n:=by exact blt rfl) (hg:o.guard=none:=by exact rfl) (ho:o.op= .call c:=by exact rfl) (hc:c.callee= .value (.func f):=by exact rfl) (ha:evs E c.args.toList=some args:=by exact rfl):WL P n ops Q (o::rest) E w:=
 WL.call hd hn hg ho hc hf ha hk fun _ w' ⟨he,x⟩=>⟨v,he,h w' (H.ex x)⟩
theorem c2{α:Type}{e:TypeId}{g:α→List Value}{sz:Nat}{l:List α}(H:Hp W w L)(hf:Has P f)(hk:Calls P f args.toArray w fun r w'=>∃v,r= .returned v∧OwnL w' w.heap.size e g sz v l∧Ext w w')(h:∀v w',Hp W w' (row e g sz v l::L)→WL P n ops Q rest ((d,v)::E) w')
  (hd:o.dst=some d:=by exact rfl) (hn:d<n:=by exact blt rfl) (hg:o.guard=none:=by exact rfl) (ho:o.op= .call c:=by exact rfl) (hc:c.callee= .value (.func f):=by exact rfl) (ha:evs E c.args.toList=some args:=by exact rfl):WL P n ops Q (o::rest) E w:=
 WL.call hd hn hg ho hc hf ha hk fun _ w' ⟨v,he,ow,x⟩=>⟨v,he,h v w' (H.newRow ow x)⟩
theorem c3{R:Ending→World→Prop}(hf:Has P f)(hk:Calls P f args.toArray w R)(h:∀e w',R e w'→∃v,e= .returned v∧WL P n ops Q rest ((d,v)::E) w')
  (hd:o.dst=some d:=by exact rfl) (hn:d<n:=by exact blt rfl) (hg:o.guard=none:=by exact rfl) (ho:o.op= .call c:=by exact rfl) (hc:c.callee= .value (.func f):=by exact rfl) (ha:evs E c.args.toList=some args:=by exact rfl):WL P n ops Q (o::rest) E w:=
 WL.call hd hn hg ho hc hf ha hk h
theorem c1V{v:Value}{x:Operand}{fst cap:List Value}{A:Array Value}(hx:ev E x=some (.func (.func f) fst.toArray cap.toArray))(H:Hp W w L)(hf:Has P f)(hk:Calls P f A w fun e w'=>e= .returned v∧Ext w w')(h:∀w',Hp W w' L→WL P n ops Q rest ((d,v)::E) w')
  (hd:o.dst=some d:=by exact rfl) (hn:d<n:=by exact blt rfl) (hg:o.guard=none:=by exact rfl) (ho:o.op= .call c:=by exact rfl) (hc:c.callee= .value x:=by exact rfl) (ha:evs E c.args.toList=some args:=by exact rfl) (hA:(fst++args++cap).toArray=A:=by exact rfl):WL P n ops Q (o::rest) E w:=by
 subst hA;exact WL.callV (R:=fun e w'=>e= .returned v∧Ext w w') hd hn hg ho hc hx hf ha (by simpa using hk) fun e w' hR=>⟨v,hR.1,h w' (H.ex hR.2)⟩
end
theorem beqB(a b:ByteArray):(a==b)=decide (a=b):=by
 rw[beq_toListBytes,ByteArray.toList_eq,ByteArray.toList_eq];obtain⟨⟨x⟩⟩:=a;obtain⟨⟨y⟩⟩:=b;grind
theorem beqB_self(a:ByteArray):(a==a)=true:=by rw[beqB];grind
theorem beqB_eq{a b:ByteArray}:(a==b)=true↔a=b:=by rw[beqB];grind
theorem beqB_ne{a b:ByteArray}:(a==b)=false↔a≠b:=by rw[beqB];grind
def bat(s:ByteArray)(i:Nat):Int:=((s.data.toList[i]!.toNat:Nat):Int)
theorem bat_rng(s:ByteArray)(i:Nat):0≤bat s i∧bat s i≤255:=by
 unfold bat;have:=(s.data.toList[i]!).toNat_lt;omega
theorem bat_at{s:ByteArray}{i:Nat}(h:i<s.size):s[i]?.map (fun b=>(b.toNat:Int))=some (bat s i):=by
 have h2:s[i]? =some s[i]:=getElem?_pos s i h;have h3:i<s.data.toList.length:=by simpa using h
 rw[h2,Option.map_some];unfold bat;rw[List.getElem!_eq_getElem?_getD,List.getElem?_eq_getElem h3,Option.getD_some];rfl
namespace Y
section
variable{P:Program}{o:Oper}{n:Nat}{E:Env}{C:World→Prop}{t:TypeId}{x y:Operand}{s:ByteArray}{k k':IntKind}{b c:Int}
theorem indexStr(i:Nat)(ho:o.op= .index t x y)(hU:P.underlying t=some .string)(hx:ev E x=some (.string s))(hy:ev E y=some (.int k b))(hb:b=(i:Int))(h:i<s.size):Yld P o n E C (.int .u8 (bat s i)):=by
 intro A w hA _;subst hb;have h1:=bat_at h;cases h2:s[i]? with
 |none=>grind
 |some z=>
  rw[h2]at h1;simp only[Option.map_some,Option.some.injEq]at h1;have h0:(0:Int)≤(i:Int):=Int.natCast_nonneg _;simp only[execOp,ho,hA.ev hx,hA.ev hy,Instr.index,asIntOf,run_underlying hU,Sem.run_bind,Sem.run_pure,Result.andThen_ok,h0,if_true,Int.toNat_natCast,h2,h1]
theorem sliceStr{lo hi:Operand}(l h:Nat)(ho:o.op= .slice t x (some lo) (some hi) none)(hU:P.underlying t=some .string)(hx:ev E x=some (.string s))(hl:ev E lo=some (.int k b))(hb:b=(l:Int))(hh:ev E hi=some (.int k' c))(hc:c=(h:Int))(h1:l≤h)(h2:h≤s.size):Yld P o n E C (.string (s.extract l h)):=by
 intro A w hA _;subst hb;subst hc;have e1:(0:Int)≤(l:Int)∧(l:Int)≤(h:Int):=Om;simp[execOp,ho,hA.ev hx,hA.ev hl,hA.ev hh,Instr.sliceAt,Instr.slice,Instr.sliceBounds,Instr.sliceBound,asIntOf,run_underlying hU,h1,h2]
def lt(a b:ByteArray):Bool:=Op.bytesLess a.toList b.toList
theorem lssStr{t':TypeId}{r:ByteArray}(ho:o.op= .binOp .lss t x y t')(hx:ev E x=some (.string s))(hy:ev E y=some (.string r)):Yld P o n E C (.bool (lt s r)):=by
 intro A w hA _;have hg:(eqGuard .lss t x y (.string s) (.string r)).run P w= .ok () w:=rfl;simp only[execOp,ho,hA.ev hx,hA.ev hy,Sem.run_bind,hg,Result.andThen_ok,binOp,Op.stringOp,Sem.run_pure,lt]
theorem run_eqNil{ms:Array (String×TypeId)}(hU:P.underlying t=some (.interface ms))(w:World):(Op.equal t .nilIface .nilIface).run P w= .ok true w:=by
 unfold Op.equal Op.maxDepth;rw[show(10000:Nat)=9999+1 from rfl];unfold Op.equalIn;simp[run_underlying hU]
theorem eqlNil{t':TypeId}{ms:Array (String×TypeId)}(ho:o.op= .binOp .eql t x (.const .nilIface) t')(hU:P.underlying t=some (.interface ms))(hx:ev E x=some .nilIface):Yld P o n E C (.bool true):=by
 intro A w hA _;have hg:(eqGuard .eql t x (.const .nilIface) .nilIface .nilIface).run P w= .ok () w:=by
  simp[eqGuard]
 have hb:binOp .eql t .nilIface .nilIface=(do pure (.bool ((←Op.equal t .nilIface .nilIface)))):=rfl;have hc:A.eval (.const .nilIface)= .nilIface:=rfl;simp only[execOp,ho,hA.ev hx,hc,Sem.run_bind,hg,hb,run_eqNil hU,Result.andThen_ok,Sem.run_pure,Bool.not_true,Bool.not_false]
end
end Y
section
variable{P:Program}{n:Nat}{ops:Array Oper}{C:World→Prop}{Q:Act→World→Prop}{E:Env}{W w:World}{L L':List Res}{o:Oper}{i d:Nat}{v:Value}{r:Ord}{c:Call}{f:FuncId}{args:List Value}
theorem Run.box{t:TypeId}{x:Operand}{v:Value}{cs:List Value}(ho:o.op= .box t x)(hx:ev E x=some v)(hv:v.cells=cs.toArray):RunV P n o E w fun v w'=>∃g,v= .pointer (some ⟨g,0,none⟩)∧g=w.heap.size∧Ext w w'∧Blk w' g t cs:=by
 intro a ha;refine⟨_,w.alloc (.cells cs.toArray t),?_,w.heap.size,rfl,rfl,(Ext.refl w).alloc _,Blk.new w t cs⟩;simp[execOp,ho,ha.ev hx,Instr.box,newVar,newRow,hv]
theorem bxX{t:TypeId}{x:Operand}{v:Value}{cs:List Value}(hC:C w)(H:Hp W w L)(h:∀g w',Hp W w' (box g t cs::L)→WX P n ops C Q r ((d,.pointer (some ⟨g,0,none⟩))::E) w')
  (hi:ops[i]? =some o:=by exact rfl) (hd:o.dst=some d:=by exact rfl) (hn:d<n:=by exact blt rfl) (hg:o.guard=none:=by exact rfl) (ho:o.op= .box t x:=by exact rfl) (hx:ev E x=some v:=by exact rfl) (hv:v.cells=cs.toArray:=by exact rfl):WX P n ops C Q (.alt i r .none) E w:=by
 refine WX.run hi hd hn hg hC (Run.box ho hx hv) ?_;rintro _ w' ⟨g,rfl,e,x,b⟩;exact h g w' (H.new x b fun b' hb=>by rw[show b'=g from hb,e];omega)
theorem alX{t:TypeId}{z:Value}{cs:List Value}{sz by':Nat}(hC:C w)(H:Hp W w L)(hT:TI P t z sz by')(h:∀g w',Hp W w' (box g t cs::L)→WX P n ops C Q r ((d,.pointer (some ⟨g,0,none⟩))::E) w')
  (hi:ops[i]? =some o:=by exact rfl) (hd:o.dst=some d:=by exact rfl) (hn:d<n:=by exact blt rfl) (hg:o.guard=none:=by exact rfl) (ho:o.op= .alloc t:=by exact rfl) (hv:z.cells=cs.toArray:=by exact rfl):WX P n ops C Q (.alt i r .none) E w:=by
 refine WX.run hi hd hn hg hC (Run.alloc ho hT hv) ?_;rintro _ w' ⟨g,rfl,e,x,b⟩;exact h g w' (H.new x b fun b' hb=>by rw[show b'=g from hb,e];omega)
theorem bs1X{t e:Nat}{parts:Array (Nat×Operand)}{ps:List (Nat×Value)}{z:Value}{zs c0 cs:List Value}{sz by':Nat}(hC:C w)(H:Hp W w L)(hU:P.underlying t=some (.slice e))(hT:TI P e z sz by')(h:∀g w',Hp W w' (box g e cs::L)→WX P n ops C Q r ((d,.slice (some ⟨g,0,none⟩) 1 1)::E) w')
  (hi:ops[i]? =some o:=by exact rfl) (hd:o.dst=some d:=by exact rfl) (hn:d<n:=by exact blt rfl) (hg:o.guard=none:=by exact rfl) (ho:o.op= .buildSlice t 1 parts:=by exact rfl) (hp:(1*sz !=0)=true:=by exact rfl) (hs:Nat.ble (1*sz) 16777216=true:=by exact rfl)
  (hzs:zs=cellsL z:=by exact rfl) (hz:((Array.range (1*sz)).map (z.cells[·%z.cells.size]!))=zs.toArray:=by kernel_rfl) (hps:evp E parts.toList=some ps:=by exact rfl) (hf:fillP (fun i=>some (i*sz,sz)) zs ps=some c0:=by exact rfl) (hN:Nm c0 cs:=by repeat (first|exact Nm.nil rfl|(apply Nm.cons;exact rfl))):WX P n ops C Q (.alt i r .none) E w:=by
 refine WX.run hi hd hn hg hC (Run.bslice ho hU hT hp (ble hs) hz hps (by rw[hf,hN.eq])) ?_;rintro _ w' ⟨g,rfl,e,x,b⟩;exact h g w' (H.new x b fun b' hb=>by rw[show b'=g from hb,e];omega)
theorem stX{t bt:TypeId}{x y:Operand}{g off:Nat}{v z:Value}{vs cs cs':List Value}{by':Nat}(hC:C w)(H:Hp W w L)(k:Nat)(hT:TI P t z vs.length by')(h:∀w',Hp W w' L'→WX P n ops C Q r E w')
  (hi:ops[i]? =some o:=by exact rfl) (hd:o.dst=none:=by exact rfl) (hg:o.guard=none:=by exact rfl) (ho:o.op= .store t x y:=by exact rfl) (hx:ev E x=some (.pointer (some ⟨g,off,none⟩)):=by exact rfl) (hy:ev E y=some v:=by exact rfl) (hv:v.cells=vs.toArray:=by exact rfl)
  (hk:L[k]? =some (box g bt cs):=by exact rfl) (hcs:Nm (setAll cs off vs) cs':=by repeat (first|exact Nm.nil rfl|(apply Nm.cons;exact rfl))) (p:Put (box g bt cs') k (box g bt cs) L L':=by repeat (first|exact Put.here|apply Put.there)) (hl:Nat.ble (off+vs.length) cs.length=true:=by exact rfl) (h1:(vs.all Value.oneCell')=true:=by exact rfl):WX P n ops C Q (.alt i r .none) E w:=WX.storeB hi hC hd hg ho hx hy hv hT (H.get hk) (ble hl) h1 hcs.eq fun w' x b=>h w' (H.only p x b)
theorem steX{α:Type}(hC:C w)[Inhabited α]{e:TypeId}{f:α→List Value}{sz:Nat}{l:List α}{t:TypeId}{x y:Operand}{A:Option Addr}{len cap i2 off:Nat}{v z:Value}{vs:List Value}{by':Nat}(H:Hp W w L)(k:Nat)(hk:L[k]? =some (row e f sz (.slice A len cap) l))(x':α)(hi2:i2<len)(hT:TI P t z vs.length by'){y0:α}(hy0:l[i2]! =y0)
  (h:∀w',Hp W w' L'→WX P n ops C Q r E w') (hf:∀x,(f x).length=sz:=by exact fun _=>rfl)
  (hi:ops[i]? =some o:=by exact rfl) (hd:o.dst=none:=by exact rfl) (hg:o.guard=none:=by exact rfl) (ho:o.op= .store t x y:=by exact rfl) (hx:ev E x=some (.pointer (some (elemAt A sz i2 off))):=by exact rfl) (hy:ev E y=some v:=by exact rfl) (hv:v.cells=vs.toArray:=by exact rfl)
  (p:Put (row e f sz (.slice A len cap) (l.set i2 x')) k (row e f sz (.slice A len cap) l) L L':=by repeat (first|exact Put.here|apply Put.there)) (hl:Nat.ble (off+vs.length) sz=true:=by exact rfl) (h1:(vs.all Value.oneCell')=true:=by exact rfl) (hx':f x'=setAll (f y0) off vs:=by exact rfl):WX P n ops C Q (.alt i r .none) E w:=WX.storeE x' hi hC hd hg ho hx hy hv hT (H.get hk) hf hi2 (ble hl) h1 (by grind) fun w' ow gr=>h w' (H.grown p gr ow (.inl rfl))
theorem apX{α:Type}{e t:TypeId}{f:α→List Value}{sz:Nat}{v:Value}{l:List α}{c:Call}{g cap m:Nat}{cs:List Value}{z:Value}{by':Nat}{L':Value→List Res}(hC:C w)(H:Hp W w L)(k j:Nat)(hk:L[k]? =some (row e f sz v l))(news:List α)(hU:P.underlying t=some (.slice e))(hT:TI P e z sz by')(hcs:news.flatMap f=cs)(h1:∀x,∀u∈f x,u.oneCell'=true)(hm:l.length+news.length≤1000000)
  (h:∀v' w',Hp W w' (L' v')→WX P n ops C Q r ((d,v')::E) w')
  (hi:ops[i]? =some o:=by exact rfl) (hd:o.dst=some d:=by exact rfl) (hn:d<n:=by exact blt rfl) (hg:o.guard=none:=by exact rfl) (ho:o.op= .call c:=by exact rfl) (hc:c.callee= .builtin .append:=by exact rfl) (ht:c.argTypes= #[t,t]:=by exact rfl) (ha:evs E c.args.toList=some [v,.slice (some ⟨g,0,none⟩) m cap]:=by exact rfl) (hmm:news.length=m:=by exact rfl)
  (hj:L[j]? =some (box g e cs):=by exact rfl) (p:∀v',Put (row e f sz v' (l++news)) k (row e f sz v l) L (L' v'):=by intro v';repeat (first|exact Put.here|apply Put.there))
  (hz:z.cells.size=sz:=by exact rfl) (hp:0<sz:=by decide) (hby:Nat.ble by' 100000000=true:=by exact rfl) (hf:∀x,(f x).length=sz:=by exact fun _=>rfl):WX P n ops C Q (.alt i r .none) E w:=by
 subst hmm;refine WX.run hi hd hn hg hC (Run.appendB ho hc ht hU hT hz hp ha (H.get hk) hf h1 (H.get hj) hcs (Nat.zero_le _) ?_ ?_) fun v' w' ⟨ow,gr,nb⟩=>h v' w' (H.grown (p v') gr ow nb)
 ·have:=ble hby
  calc (l.length+news.length)*by'≤1000000*100000000:=Nat.mul_le_mul hm this
   _≤140737488355328:=by decide
 grind [maxLen]
theorem aplX{α:Type}{e t:TypeId}{f:α→List Value}{sz:Nat}{v:Value}{l news:List α}{c:Call}{A:Option Addr}{cap m:Nat}{z:Value}{by':Nat}{L':Value→List Res}(hC:C w)(H:Hp W w L)(k:Nat)(hk:L[k]? =some (row e f sz v l))(hL:Ls w A m cap f sz news)(hU:P.underlying t=some (.slice e))(hT:TI P e z sz by')(h1:∀x,∀u∈f x,u.oneCell'=true)(hm:l.length+news.length≤1000000)
  (h:∀v' w',Hp W w' (L' v')→WX P n ops C Q r ((d,v')::E) w')
  (hi:ops[i]? =some o:=by exact rfl) (hd:o.dst=some d:=by exact rfl) (hn:d<n:=by exact blt rfl) (hg:o.guard=none:=by exact rfl) (ho:o.op= .call c:=by exact rfl) (hc:c.callee= .builtin .append:=by exact rfl) (ht:c.argTypes= #[t,t]:=by exact rfl) (ha:evs E c.args.toList=some [v,.slice A m cap]:=by exact rfl)
  (p:∀v',Put (row e f sz v' (l++news)) k (row e f sz v l) L (L' v'):=by intro v';repeat (first|exact Put.here|apply Put.there))
  (hz:z.cells.size=sz:=by exact rfl) (hp:0<sz:=by decide) (hby:Nat.ble by' 100000000=true:=by exact rfl) (hf:∀x,(f x).length=sz:=by exact fun _=>rfl):WX P n ops C Q (.alt i r .none) E w:=by
 refine WX.run hi hd hn hg hC (Run.appendL ho hc ht hU hT hz hp ha (H.get hk) hf h1 hL (Nat.zero_le _) ?_ ?_) fun v' w' ⟨ow,gr,nb⟩=>h v' w' (H.grown (p v') gr ow nb)
 ·have:=ble hby
  calc (l.length+news.length)*by'≤1000000*100000000:=Nat.mul_le_mul hm this
   _≤140737488355328:=by decide
 grind [maxLen]
theorem muX{t kt e g:Nat}{x y z:Operand}{iK:Int}{u:Value}{m:List (Int×Value)}(hC:C w)(H:Hp W w L)(k:Nat)(hU:P.underlying t=some (.map kt e))(hK:P.underlying kt=some (.int .i64))(h:∀w',Hp W w' L'→WX P n ops C Q r E w')
  (hi:ops[i]? =some o:=by exact rfl) (hd:o.dst=none:=by exact rfl) (hg:o.guard=none:=by exact rfl) (ho:o.op= .mapUpdate t x y z∨o.op= .insert t x y z:=by first|exact .inl rfl|exact .inr rfl) (hx:ev E x=some (.map (some g)):=by exact rfl) (hy:ev E y=some (.int .i64 iK):=by exact rfl) (hz:ev E z=some u:=by exact rfl)
  (hk:L[k]? =some (mpi g m):=by exact rfl) (p:Put (mpi g (mset m iK u)) k (mpi g m) L L':=by repeat (first|exact Put.here|apply Put.there)):WX P n ops C Q (.alt i r .none) E w:=WX.mapUpdate hi hd hg ho hU hK hx hy hz (H.get hk) hC fun w' x b=>h w' (H.onlyM p x b)
theorem c1X{v:Value}(hC:C w)(H:Hp W w L)(hf:Has P f)(hk:Calls P f args.toArray w fun e w'=>e= .returned v∧Ext w w')(h:∀w',Hp W w' L→WX P n ops C Q r ((d,v)::E) w')
  (hi:ops[i]? =some o:=by exact rfl) (hd:o.dst=some d:=by exact rfl) (hn:d<n:=by exact blt rfl) (hg:o.guard=none:=by exact rfl) (ho:o.op= .call c:=by exact rfl) (hc:c.callee= .value (.func f):=by exact rfl) (ha:evs E c.args.toList=some args:=by exact rfl):WX P n ops C Q (.alt i r .none) E w:=WX.call hi hd hn hg ho hc hf ha hC hk fun _ w' ⟨he,x⟩=>⟨v,he,h w' (H.ex x)⟩
theorem c2X{α:Type}{e:TypeId}{g:α→List Value}{sz:Nat}{l:List α}(hC:C w)(H:Hp W w L)(hf:Has P f)(hk:Calls P f args.toArray w fun r w'=>∃v,r= .returned v∧OwnL w' w.heap.size e g sz v l∧Ext w w')(h:∀v w',Hp W w' (row e g sz v l::L)→WX P n ops C Q r ((d,v)::E) w')
  (hi:ops[i]? =some o:=by exact rfl) (hd:o.dst=some d:=by exact rfl) (hn:d<n:=by exact blt rfl) (hg:o.guard=none:=by exact rfl) (ho:o.op= .call c:=by exact rfl) (hc:c.callee= .value (.func f):=by exact rfl) (ha:evs E c.args.toList=some args:=by exact rfl):WX P n ops C Q (.alt i r .none) E w:=WX.call hi hd hn hg ho hc hf ha hC hk fun _ w' ⟨v,he,ow,x⟩=>⟨v,he,h v w' (H.newRow ow x)⟩
theorem c3X{R:Ending→World→Prop}(hC:C w)(hf:Has P f)(hk:Calls P f args.toArray w R)(h:∀e w',R e w'→∃v,e= .returned v∧WX P n ops C Q r ((d,v)::E) w')
  (hi:ops[i]? =some o:=by exact rfl) (hd:o.dst=some d:=by exact rfl) (hn:d<n:=by exact blt rfl) (hg:o.guard=none:=by exact rfl) (ho:o.op= .call c:=by exact rfl) (hc:c.callee= .value (.func f):=by exact rfl) (ha:evs E c.args.toList=some args:=by exact rfl):WX P n ops C Q (.alt i r .none) E w:=WX.call hi hd hn hg ho hc hf ha hC hk h
end
section
variable{W w:World}{L M:List Res}{α:Type}
theorem Hp.unstar(H:Hp W w (star L::M)):Hp W w (L++M):=by
 have hs:=H.holds (star L) List.mem_cons_self;have hf:=List.pairwise_cons.1 H.far;refine⟨H.ext,?_,?_,List.pairwise_append.2 ⟨hs.2,hf.2,?_⟩⟩
 ·intro R hR;rcases List.mem_append.1 hR with h|h
  ·exact hs.1 R h
  ·exact H.holds R (List.mem_cons_of_mem _ h)
 ·intro R hR b hb;rcases List.mem_append.1 hR with h|h
  ·exact H.own (star L) List.mem_cons_self b ⟨R,h,hb⟩
  ·exact H.own R (List.mem_cons_of_mem _ h) b hb
 ·intro R hR S hS b h1 h2;exact hf.1 S hS b ⟨R,hR,h1⟩ h2
theorem Hp.restar(H:Hp W w (L++M)):Hp W w (star L::M):=by
 have hf:=List.pairwise_append.1 H.far;refine⟨H.ext,?_,?_,List.pairwise_cons.2 ⟨?_,hf.2.1⟩⟩
 ·intro R hR;rcases List.mem_cons.1 hR with rfl|h
  ·exact⟨fun R hR=>H.holds R (List.mem_append_left _ hR),hf.1⟩
  ·exact H.holds R (List.mem_append_right _ h)
 ·intro R hR b hb;rcases List.mem_cons.1 hR with rfl|h
  ·obtain⟨S,hS,hb⟩:=hb;exact H.own S (List.mem_append_left _ hS) b hb
  ·exact H.own R (List.mem_append_right _ h) b hb
 ·rintro S hS b ⟨R,hR,h1⟩ h2;exact hf.2.2 R hR S hS b h1 h2
def big(f:α→List Res)(l:List α):Res:=star (l.flatMap f)
def hole(f:α→List Res)(l:List α)(i:Nat):Res:=star ((l.eraseIdx i).flatMap f)
theorem bang_eq[Inhabited α]{l:List α}{i:Nat}(h:i<l.length):l[i]! =l[i]:=getElem!_pos l i h
theorem erase_perm:∀(l:List α) (i:Nat) (h:i<l.length),l.Perm (l[i]::l.eraseIdx i)
 |x::r,0,_=>List.Perm.refl _
 |x::r,i+1,h=>((erase_perm r i (Nat.lt_of_succ_lt_succ h)).cons x).trans (List.Perm.swap _ _ _)
theorem big_perm[Inhabited α](f:α→List Res){l:List α}{i:Nat}(h:i<l.length):(l.flatMap f).Perm (f l[i]! ++(l.eraseIdx i).flatMap f):=by
 rw[bang_eq h];exact(erase_perm l i h).flatMap_right f
theorem Hp.bigOut[Inhabited α]{f:α→List Res}{l:List α}(H:Hp W w (big f l::M))(i:Nat)(h:i<l.length):Hp W w (f l[i]! ++hole f l i::M):=by
 have H1:=H.unstar.perm ((big_perm f h).append_right M);rw[List.append_assoc]at H1;have H2:=H1.perm (List.perm_append_comm_assoc _ _ _);exact H2.restar.perm List.perm_middle.symm
theorem Hp.bigOutX[Inhabited α](f:α→List Res){l:List α}{i:Nat}(x:α)(hx:l[i]! =x)(H:Hp W w (big f l::M))(h:i<l.length):Hp W w (f x++hole f l i::M):=hx▸H.bigOut i h
theorem eraseIdx_set_:∀(l:List α) (i:Nat) (x:α),(l.set i x).eraseIdx i=l.eraseIdx i
 |[],_,_=>rfl
 |_::_,0,_=>rfl
 |y::r,i+1,x=>by grind
theorem Hp.bigIn[Inhabited α](f:α→List Res){l:List α}{i:Nat}(x:α)(H:Hp W w (f x++hole f l i::M))(h:i<l.length):Hp W w (big f (l.set i x)::M):=by
 have H1:=(H.perm List.perm_middle).unstar;have hp:=big_perm f (l:=l.set i x) (i:=i) (by grind);rw[eraseIdx_set_,bang_eq (by grind),List.getElem_set_self]at hp;have H2:=H1.perm (List.perm_append_comm_assoc _ _ _);rw[←List.append_assoc]at H2;exact(H2.perm (hp.symm.append_right M)).restar
theorem Hp.bigBack[Inhabited α](f:α→List Res){l:List α}{i:Nat}(x:α)(hx:l[i]! =x)(H:Hp W w (f x++hole f l i::M))(h:i<l.length):Hp W w (big f l::M):=by
 subst hx;have:=Hp.bigIn f (l[i]!) H h;simp_all
theorem Hp.bigPush(f:α→List Res){l:List α}(x:α)(H:Hp W w (f x++big f l::M)):Hp W w (big f (l++[x])::M):=by
 have H1:=(H.perm List.perm_middle).unstar;have H2:=H1.perm (List.perm_append_comm_assoc _ _ _);rw[←List.append_assoc]at H2;refine(H2.perm (List.Perm.append_right M ?_)).restar;rw[List.flatMap_append,List.flatMap_singleton];exact List.perm_append_comm
theorem Hp.bigNil(H:Hp W w M)(f:α→List Res):Hp W w (big f []::M):=Hp.restar (L:=[]) H
end
section
variable{P:Program}{n:Nat}{ops:Array Oper}{C:World→Prop}{Qq:Act→Prop}{E:Env}{o:Oper}{rest:List Oper}{d:Nat}{c:Call}{f:FuncId}{args:List Value}
theorem WQ.guarded{j t:Nat}{want:Bool}(hg:o.guard=some (j,want))(hj:(ops[j]?).bind (·.dst)=some t)(ht:look t E=some (.bool want))(h:WQ P n ops C Qq ({o with guard:=none}::rest) E):WQ P n ops C Qq (o::rest) E:=by
 intro a ha;have h1:wpQuiet P ops C Qq ({o with guard:=none}::rest) a:=h a ha;unfold wpQuiet at h1 ⊢;rw[if_pos (by rfl)]at h1;rw[if_pos (by grind [wanted_guard])];exact h1
theorem WQ.split{t:Nat}{b:Bool}(ht:look t E=some (.bool b))(h1:b=true→WQ P n ops C Qq rest ((t,.bool true)::E))(h2:b=false→WQ P n ops C Qq rest ((t,.bool false)::E)):WQ P n ops C Qq rest E:=by
 intro a ha;cases b with
 |true=>exact h1 rfl a (ha.again ht)
 |false=>exact h2 rfl a (ha.again ht)
theorem qcV{v:Value}{x:Operand}{fst cap:List Value}{A:Array Value}(hx:ev E x=some (.func (.func f) fst.toArray cap.toArray))(hf:Has P f)(hk:∀w,C w→Calls P f A w fun e w'=>e= .returned v∧C w')(h:WQ P n ops C Qq rest ((d,v)::E))
  (hd:o.dst=some d:=by exact rfl) (hn:d<n:=by exact blt rfl) (hg:o.guard=none:=by exact rfl) (ho:o.op= .call c:=by exact rfl) (hc:c.callee= .value x:=by exact rfl) (ha:evs E c.args.toList=some args:=by exact rfl) (hA:(fst++args++cap).toArray=A:=by exact rfl):WQ P n ops C Qq (o::rest) E:=by
 subst hA;intro a hA;unfold wpQuiet;rw[if_pos (wanted_plain hg _)];exact⟨v,fun w hw=>quietAt_of_enter (by have:=run_call (P:=P) (w:=w) hA ho hc hx hf ha;grind) (hk w hw),by rw[hd];exact h _ (hA.put hn v)⟩
end
theorem bs0{α:Type}{P:Program}{n:Nat}{ops:Array Oper}{Q:Exit→Act→World→Prop}{E:Env}{W w:World}{L:List Res}{o:Oper}{rest:List Oper}{d t e:Nat}{z:Value}{sz by':Nat}(f:α→List Value)(H:Hp W w L)(hU:P.underlying t=some (.slice e))(hT:TI P e z sz by')(h:∀v w',Hp W w' (row e f sz v ([]:List α)::L)→WL P n ops Q rest ((d,v)::E) w')
  (hd:o.dst=some d:=by exact rfl) (hn:d<n:=by exact blt rfl) (hg:o.guard=none:=by exact rfl) (ho:o.op= .buildSlice t 0 #[]:=by exact rfl):WL P n ops Q (o::rest) E w:=
 WL.bslice0 hd hn hg ho hU hT fun g w' e_ x b=>h _ w' (H.new x ⟨by simp,.inr ⟨g,0,#[],rfl,Nat.zero_le _,b,Nat.le_refl _,Nat.zero_le _,by simp,by simp⟩⟩ fun b' hb=>by
  have:b'=g:=by injection hb with hb;grind
  omega)
theorem run_eqPtr{P:Program}{t e:TypeId}(p:Option Addr)(hU:P.underlying t=some (.pointer e))(w:World):(Op.equal t (.pointer p) (.pointer none)).run P w= .ok p.isNone w:=by
 unfold Op.equal Op.maxDepth;rw[show(10000:Nat)=9999+1 from rfl];unfold Op.equalIn;cases p<;>simp[run_underlying hU]
namespace Y
section
variable{P:Program}{o:Oper}{n:Nat}{E:Env}{C:World→Prop}{x:Operand}{t t' e:TypeId}
theorem eqlP{p:Option Addr}(ho:o.op= .binOp .eql t x (.const (.pointer none)) t')(hU:P.underlying t=some (.pointer e))(hx:ev E x=some (.pointer p)):Yld P o n E C (.bool p.isNone):=by
 intro a w hA _;have hg:(eqGuard .eql t x (.const (.pointer none)) (.pointer p) (.pointer none)).run P w= .ok () w:=by
  rfl
 have hb:binOp .eql t (.pointer p) (.pointer none)=(do pure (.bool ((←Op.equal t (.pointer p) (.pointer none))))):=rfl;have hc:a.eval (.const (.pointer none))= .pointer none:=rfl;simp only[execOp,ho,hA.ev hx,hc,Sem.run_bind,hg,hb,run_eqPtr p hU,Result.andThen_ok,Sem.run_pure]
theorem neqP{p:Option Addr}(ho:o.op= .binOp .neq t x (.const (.pointer none)) t')(hU:P.underlying t=some (.pointer e))(hx:ev E x=some (.pointer p)):Yld P o n E C (.bool !p.isNone):=by
 intro a w hA _;have hg:(eqGuard .neq t x (.const (.pointer none)) (.pointer p) (.pointer none)).run P w= .ok () w:=by
  rfl
 have hb:binOp .neq t (.pointer p) (.pointer none)=(do pure (.bool (!(←Op.equal t (.pointer p) (.pointer none))))):=rfl;have hc:a.eval (.const (.pointer none))= .pointer none:=rfl;simp only[execOp,ho,hA.ev hx,hc,Sem.run_bind,hg,hb,run_eqPtr p hU,Result.andThen_ok,Sem.run_pure]
theorem eqlPS{a:Addr}(ho:o.op= .binOp .eql t x (.const (.pointer none)) t')(hU:P.underlying t=some (.pointer e))(hx:ev E x=some (.pointer (some a))):Yld P o n E C (.bool false):=eqlP ho hU hx
theorem eqlPN(ho:o.op= .binOp .eql t x (.const (.pointer none)) t')(hU:P.underlying t=some (.pointer e))(hx:ev E x=some (.pointer none)):Yld P o n E C (.bool true):=eqlP ho hU hx
theorem neqPS{a:Addr}(ho:o.op= .binOp .neq t x (.const (.pointer none)) t')(hU:P.underlying t=some (.pointer e))(hx:ev E x=some (.pointer (some a))):Yld P o n E C (.bool true):=neqP ho hU hx
theorem neqPN(ho:o.op= .binOp .neq t x (.const (.pointer none)) t')(hU:P.underlying t=some (.pointer e))(hx:ev E x=some (.pointer none)):Yld P o n E C (.bool false):=neqP ho hU hx
end
end Y
def pkv(ks:List (Int×Nat)):List (Int×Value):=ks.map fun k=>(k.1,.pointer (some ⟨k.2,0,none⟩))
theorem mget_pkv:∀(ks:List (Int×Nat)) (x:Int),(mget (pkv ks) x=none∧(ks.map (·.1)).idxOf x=ks.length)∨((ks.map (·.1)).idxOf x<ks.length∧mget (pkv ks) x=some (.pointer (some ⟨(ks[(ks.map (·.1)).idxOf x]!).2,0,none⟩)))
 |[],x=>.inl ⟨rfl,rfl⟩
 |(k,g)::r,x=>by
  by_cases h:x=k
  ·simp_all [And.intro,List.idxOf_cons_self,pkv,mget]
  ·have hk:(k==x)=false:=by grind
   have e1:(((k,g)::r).map (·.1)).idxOf x=(r.map (·.1)).idxOf x+1:=by
    grind
   have e2:mget (pkv ((k,g)::r)) x=mget (pkv r) x:=by
    show(if x=k then _ else _)=_;rw[if_neg h];rfl
   rw[e1,e2];rcases mget_pkv r x with⟨h1,h2⟩|⟨h1,h2⟩<;>grind
theorem mset_pkv_new{ks:List (Int×Nat)}{x:Int}(h:x∉ks.map (·.1))(g:Nat):mset (pkv ks) x (.pointer (some ⟨g,0,none⟩))=pkv (ks++[(x,g)]):=by
 induction ks with
 |nil=>rfl
 |cons k r ih=>
  rw[List.map_cons,List.mem_cons,not_or]at h;simp_all [mset,List.cons,Prod.mk,pkv,List.nil,ite,if_neg]
theorem setCells_same(b:Nat):∀(vs:List Value) (o:Nat) (w:World),(w.setCells b o vs).os=w.os∧(w.setCells b o vs).tape=w.tape∧(w.setCells b o vs).output=w.output∧(w.setCells b o vs).heap.size=w.heap.size∧(w.setCells b o vs).drawn=w.drawn
 |[],_,_=>⟨rfl,rfl,rfl,rfl,rfl⟩
 |v::vs,o,w=>by
  have h:=setCells_same b vs (o+1) (w.setCell ⟨b,o,none⟩ v);exact⟨h.1,h.2.1,h.2.2.1,h.2.2.2.1.trans (by simp_all),h.2.2.2.2⟩
def OwnQ{α:Type}(w:World)(f:α→List Value)(sz:Nat)(v:Value)(l:List α):Prop:=
 (v= .slice none 0 0∧l=[])∨∃g off cap,v= .slice (some ⟨g,off,none⟩) l.length cap∧g<w.heap.size∧l.length≤cap∧cap≤maxLen∧(∀j u,(l.flatMap f)[j]? =some u→w.cell? ⟨g,off+j,none⟩=some u)∧∀j,j<cap*sz→(w.cell? ⟨g,off+j,none⟩).isSome=true∧w.frozen? ⟨g,off+j,none⟩=false
section
variable{α:Type}{w w':World}{f:α→List Value}{sz:Nat}{v:Value}{l:List α}
theorem OwnQ.lt(h:OwnQ w f sz v l){g:Nat}(hg:v.ownBlock=some g):g<w.heap.size:=by
 rcases h with⟨rfl,_⟩|⟨g',off,cap,rfl,h1,_⟩
 ·exact absurd hg ne_nil
 ·have:g'=g:=by injection hg
  omega
theorem OwnQ.move(h:OwnQ w f sz v l)(hk:∀g,v.ownBlock=some g→w'.heap[g]? =w.heap[g]?):OwnQ w' f sz v l:=by
 rcases h with h|⟨g,off,cap,rfl,h1,h2,h3,h4,h5⟩
 ·exact .inl h
 ·have hb:=hk g rfl;refine .inr ⟨g,off,cap,rfl,?_,h2,h3,fun j u hu=> ?_,fun j hj=> ?_⟩
  ·grind
  ·rw[World.cell?_of_block (a:=⟨g,off+j,none⟩) hb];grind
  ·rw[World.cell?_of_block (a:=⟨g,off+j,none⟩) hb,World.frozen?_of_block (a:=⟨g,off+j,none⟩) hb];grind
theorem flatq_len(hf:∀x,(f x).length=sz)(q:List α):(q.flatMap f).length=q.length*sz:=by
 induction q<;>grind
theorem OwnQ.of_own{base e:Nat}(h:OwnL w base e f sz v l):OwnQ w f sz v l:=by
 rcases h.2 with⟨rfl,h0⟩|⟨g,cap,cur,rfl,_,h2,h3,h4,h5,h6⟩
 ·exact .inl ⟨rfl,List.length_eq_zero_iff.1 h0⟩
 ·have hb:Blk w g e cur.toList:=by simp_all [Blk]
  refine .inr ⟨g,0,cap,rfl,hb.lt,h3,h4,fun j u hu=> ?_,fun j hj=>⟨?_,hb.frozen _⟩⟩
  ·rw[Nat.zero_add];refine hb.cell ?_;grind
  ·rw[Nat.zero_add,cell_of_row w g j cur e (0,0) h2,Array.getElem?_eq_getElem Om];rfl
theorem OwnQ.form(h:OwnQ w f sz v l):∃A cap,v= .slice A l.length cap∧l.length≤cap∧cap≤maxLen:=by
 rcases h with⟨rfl,rfl⟩|⟨g,off,cap,rfl,_,h2,h3,_⟩
 ·exact⟨none,0,rfl,Nat.le_refl _,Nat.zero_le _⟩
 grind
theorem OwnQ.ls{A:Option Addr}{n cap:Nat}(h:OwnQ w f sz (.slice A n cap) l)(hf:∀x,(f x).length=sz):Ls w A n cap f sz l:=by
 rcases h with⟨hv,rfl⟩|⟨g,off,cap',hv,h1,h2,h3,h4,_⟩
 ·simp_all [Ls.nil,Nat.zero_le]
 ·injection hv with e1 e2 e3;subst e1 e2 e3
  refine⟨rfl,h2,h3,fun i x hx=>⟨_,rfl,Nat.zero_le _,h1,fun j u hu=> ?_⟩⟩;simp_all [add_blk,getElem?_flatMap]
theorem OwnQ.drop1{A:Option Addr}{n cap:Nat}(h:OwnQ w f sz (.slice A n cap) l)(hf:∀x,(f x).length=sz)(hn:1≤n):OwnQ w f sz (.slice (if cap=1 then A else A.map (·.add (1*sz))) (n-1) (cap-1)) (l.drop 1):=by
 rcases h with⟨hv,rfl⟩|⟨g,off,cap',hv,h1,h2,h3,h4,h5⟩
 ·grind
 ·injection hv with e1 e2 e3;subst e1 e2 e3
  have hl:(l.drop 1).length=l.length-1:=List.length_drop;by_cases hc:cap=1
  ·have h0:l.drop 1=[]:=List.length_eq_zero_iff.1 Om;rw[if_pos hc,h0];refine .inr ⟨g,off,cap-1,by grind,h1,Nat.zero_le _,Om,fun j u hu=>by simp at hu,fun j hj=> ?_⟩;grind
  ·rw[if_neg hc];refine .inr ⟨g,off+1*sz,cap-1,by rw[hl,Option.map_some,add_blk],h1,Om,Om,fun j u hu=> ?_,fun j hj=> ?_⟩
   ·rw[Nat.add_assoc];refine h4 _ u ?_;cases l<;>grind
   ·rw[Nat.add_assoc];refine h5 _ ?_;have:cap*sz=(cap-1)*sz+sz:=by rw[←Nat.succ_mul];grind
    omega
theorem run_append_q{P:Program}{t ty e:TypeId}{z:Value}{by' m cap2:Nat}{g2:Nat}{news:List α}(hU:P.underlying t=some (.slice e))(hT:TI P e z sz by')(hz:z.cells.size=sz)(h:OwnQ w f sz v l)(hf:∀x,(f x).length=sz)(h1:∀x,∀u∈f x,u.oneCell'=true)
  (hcells:∀j u,(news.flatMap f)[j]? =some u→w.cell? ((⟨g2,0,none⟩:Addr).add j)=some u) (hm:news.length=m) (hb:(l.length+m)*by'≤140737488355328) (hx:l.length+m≤maxLen):
  ∃v' w',(Builtin.append_ #[t,t] ty #[v,.slice (some ⟨g2,0,none⟩) m cap2]).run P w= .ok v' w'∧OwnQ w' f sz v' (l++news)∧Gr w w' v.ownBlock∧(v'.ownBlock=v.ownBlock∨v'.ownBlock=some w.heap.size):=by
 obtain⟨i,hi,hi1,hi2,hi3⟩:=hT;subst hm;have hk0:i.size=sz:=hi2;have hnl:=flatq_len hf news;have hol:=flatq_len hf l;have hS:Src P i.size t (.slice (some ⟨g2,0,none⟩) news.length cap2) news.length (news.flatMap f) w:=by
  refine Src.ofSlice w hU ⟨g2,0,none⟩ news.length cap2 (news.flatMap f) (by rw[hnl,hi2]) hcells ?_;grind
 have hmax:maxLen=9223372036854775807:=rfl;have grow:∀(bs:Option Addr) (sc:Nat),v= .slice bs l.length sc→sc<l.length+news.length→(Builtin.firstCells i.size l.length (.slice bs l.length sc)).run P w.drew= .ok (l.flatMap f).toArray w.drew→
   ∃v' w',(Builtin.append_ #[t,t] ty #[v,.slice (some ⟨g2,0,none⟩) news.length cap2]).run P w= .ok v' w'∧OwnQ w' f sz v' (l++news)∧Gr w w' v.ownBlock∧(v'.ownBlock=v.ownBlock∨v'.ownBlock=some w.heap.size):=by
  rintro bs sc rfl hg hold;have hrun:=run_append_grow_src (P:=P) w t t ty e i z hU hi hi1 bs l.length sc (l.flatMap f) hold _ news.length (news.flatMap f) hS hg Om (by simp_all [growslice_fits]);have hge:=grownCap_ge w (l.length+news.length) sc e;have hcm:=grownCap_le_maxLen w (l.length+news.length) sc e hx;have hL:((l.flatMap f)++news.flatMap f).length=(l.length+news.length)*sz:=by grind
  refine⟨_,_,hrun,.inr ⟨w.heap.size,0,_,by rw[List.length_append],?_,by grind,hcm,fun j u hu=> ?_,fun j hj=>⟨?_,?_⟩⟩,⟨⟨rfl,rfl,rfl,?_,fun k hk _=>Below.heap_alloc w.drew _ k hk⟩,Dle.of (Nat.le_succ _)⟩,.inr rfl⟩
  ·simp
  ·have e1:=World.cell?_alloc_new w.drew (((l.flatMap f)++news.flatMap f).toArray++Builtin.zeroCells z.cells (grownCap w (l.length+news.length) sc e-(l.length+news.length))) e (0+j);refine Eq.trans e1 ?_;grind
  ·have e1:=World.cell?_alloc_new w.drew (((l.flatMap f)++news.flatMap f).toArray++Builtin.zeroCells z.cells (grownCap w (l.length+news.length) sc e-(l.length+news.length))) e (0+j);rw[show(World.cell? (w.drew.alloc _) ⟨w.heap.size,0+j,none⟩)=_ from e1];have hsz:(((l.flatMap f)++news.flatMap f).toArray++Builtin.zeroCells z.cells (grownCap w (l.length+news.length) sc e-(l.length+news.length))).size=grownCap w (l.length+news.length) sc e*sz:=by
    rw[Array.size_append,List.size_toArray,hL,size_zeroCells,hz,←Nat.add_mul];grind
   grind
  ·exact World.frozen?_alloc_new w.drew _ _ (0+j)
  ·simp
 rcases h with⟨rfl,rfl⟩|⟨g,off,cap,rfl,q1,q2,q3,q4,q5⟩
 ·by_cases h0:news.length=0
  ·have:news=[]:=List.length_eq_zero_iff.1 h0;subst this;have hrun:=run_append_nothing (P:=P) w t t ty e i hU hi none 0 0 Nl _ hS;exact⟨_,_,hrun,.inl ⟨rfl,rfl⟩,Gr.refl _ _,.inl rfl⟩
  ·exact grow none 0 rfl Om (by rfl)
 ·by_cases hfit:l.length+news.length≤cap
  ·have hmul:(l.length+news.length)*sz≤cap*sz:=Nat.mul_le_mul_right _ hfit;rw[Nat.add_mul]at hmul;have c0:∀j,j<(news.flatMap f).length→(w.cell? ⟨g,off+l.length*i.size+j,none⟩).isSome=true:=fun j hj=>by rw[hi2,Nat.add_assoc];exact(q5 _ Om).1
   have hrun:=run_append_room_src (P:=P) w t t ty e i hU hi g off l.length cap _ news.length (news.flatMap f) hS hfit c0 (fun j hj=>by rw[hi2,Nat.add_assoc];exact(q5 _ Om).2);rw[hi2]at hrun c0;obtain⟨s1,s2,s3,s4,s5⟩:=setCells_same g (news.flatMap f) (off+l.length*sz) w;refine⟨_,_,hrun,.inr ⟨g,off,cap,by rw[List.length_append],Om,by grind,q3,fun j u hu=> ?_,fun j hj=>⟨?_,?_⟩⟩,⟨⟨s1,s2,s3,Nat.le_of_eq s4.symm,fun k hk hne=>World.heap_setCells_other w g _ _ hk fun e=>hne (by rw[e];rfl)⟩,Dle.of (Nat.le_of_eq s5.symm)⟩,.inl rfl⟩
   ·rw[List.flatMap_append]at hu;by_cases hj:j<(l.flatMap f).length
    ·simp_all [List.getElem?_append_left,World.cell?_setCells_out,Go.Addr.mk,none]
    ·rw[List.getElem?_append_right Om]at hu;have hlt:=(List.getElem?_eq_some_iff.1 hu).1;have:=World.cell?_setCells_in g (news.flatMap f) (off+l.length*sz) w c0 (j-(l.flatMap f).length) hlt;grind
   ·by_cases hj2:l.length*sz≤j∧j<l.length*sz+news.length*sz
    ·have:=World.cell?_setCells_in g (news.flatMap f) (off+l.length*sz) w c0 (j-l.length*sz) Om;grind
    ·rw[World.cell?_setCells_out g _ _ w ⟨g,off+j,none⟩ (fun _ _=>by grind)];grind
   grind [World.frozen?_setCells]
  ·refine grow _ cap rfl Om ?_;refine run_firstCells_some w.drew i.size l.length ⟨g,off,none⟩ l.length cap (l.flatMap f) (by rw[hol,hi2]) fun j u hu=> ?_;simp_all [add_blk]
end
def rowq{α:Type}(f:α→List Value)(sz:Nat)(v:Value)(l:List α):Res:=
 ⟨fun b=>v.ownBlock=some b,fun w=>OwnQ w f sz v l,fun _ _ h e=>h.lt e,fun _ _ hb h=>h.move hb⟩
section
variable{α:Type}{W w:World}{L L':List Res}{f:α→List Value}{sz:Nat}
theorem Hp.toq{e:TypeId}{v:Value}{l:List α}(H:Hp W w L)(k:Nat)(p:Put (rowq f sz v l) k (row e f sz v l) L L':=by repeat (first|exact Put.here|apply Put.there)):Hp W w L':=
 H.putD p fun M K=>K.turn Nl (fun _ _ _=>rfl) K.ext (OwnQ.of_own K.head) fun b hb=>.inl hb
theorem Hp.q{A:Option Addr}{n c:Nat}{l:List α}(H:Hp W w L)(k:Nat)(hk:L[k]? =some (rowq f sz (.slice A n c) l):=by exact rfl)(hf:∀x,(f x).length=sz:=by exact fun _=>rfl):Ls w A n c f sz l:=OwnQ.ls (H.get hk) hf
theorem Hp.opq{v:Value}{l:List α}(H:Hp W w L)(k:Nat)(hk:L[k]? =some (rowq f sz v l):=by exact rfl):∃A c,v= .slice A l.length c∧l.length≤c∧c≤9223372036854775807:=by
 obtain⟨A,cap,h,h1,h2⟩:=OwnQ.form (H.get hk);exact⟨A,cap,h,h1,h2⟩
theorem Hp.cutq{A:Option Addr}{n c:Nat}{l:List α}(H:Hp W w L)(k:Nat)(hn:1≤n)(hk:L[k]? =some (rowq f sz (.slice A n c) l):=by exact rfl)(hf:∀x,(f x).length=sz:=by exact fun _=>rfl)
  (p:Put (rowq f sz (.slice (if c=1 then A else A.map (·.add (1*sz))) (n-1) (c-1)) (l.drop 1)) k (rowq f sz (.slice A n c) l) L L':=by repeat (first|exact Put.here|apply Put.there)):Hp W w L':=by
 refine H.putD p fun M K=>K.turn Nl (fun _ _ _=>rfl) K.ext (OwnQ.drop1 K.head hf hn) fun b hb=>.inl ?_;show(Value.slice A n c).ownBlock=some b;have hb:(Value.slice (if c=1 then A else A.map (·.add (1*sz))) (n-1) (c-1)).ownBlock=some b:=hb;cases A with
 |none=>
  by_cases q:c=1
  ·rw[if_pos q]at hb;exact hb
  ·rw[if_neg q]at hb;exact hb
 |some a=>
  by_cases q:c=1
  ·rw[if_pos q]at hb;exact hb
  ·rw[if_neg q,Option.map_some]at hb;have e:(a.add (1*sz)).block=a.block:=by grind [Addr.add]
   rw[show(Value.slice (some (a.add (1*sz))) (n-1) (c-1)).ownBlock=some (a.add (1*sz)).block from rfl,e]at hb;exact hb
end
section
variable{P:Program}{n:Nat}{ops:Array Oper}{Q:Exit→Act→World→Prop}{E:Env}{W w:World}{L:List Res}{o:Oper}{rest:List Oper}{d:Nat}
theorem apq{α:Type}{e t:TypeId}{f:α→List Value}{sz:Nat}{v:Value}{l:List α}{c:Call}{g cap m:Nat}{cs:List Value}{z:Value}{by':Nat}{L':Option Addr→Nat→List Res}(H:Hp W w L)(k j:Nat)(hk:L[k]? =some (rowq f sz v l))(news:List α)(hU:P.underlying t=some (.slice e))(hT:TI P e z sz by')(hcs:news.flatMap f=cs)(h1:∀x,∀u∈f x,u.oneCell'=true)(hm:l.length+news.length≤1000000)
  (h:∀A' c' w',Hp W w' (L' A' c')→WL P n ops Q rest ((d,.slice A' (l++news).length c')::E) w')
  (hd:o.dst=some d:=by exact rfl) (hn:d<n:=by exact blt rfl) (hg:o.guard=none:=by exact rfl) (ho:o.op= .call c:=by exact rfl) (hc:c.callee= .builtin .append:=by exact rfl) (ht:c.argTypes= #[t,t]:=by exact rfl) (ha:evs E c.args.toList=some [v,.slice (some ⟨g,0,none⟩) m cap]:=by exact rfl) (hmm:news.length=m:=by exact rfl)
  (hj:L[j]? =some (box g e cs):=by exact rfl) (p:∀A' c',Put (rowq f sz (.slice A' (l++news).length c') (l++news)) k (rowq f sz v l) L (L' A' c'):=by intro _ _;repeat (first|exact Put.here|apply Put.there))
  (hz:z.cells.size=sz:=by exact rfl) (hby:Nat.ble by' 100000000=true:=by exact rfl) (hf:∀x,(f x).length=sz:=by exact fun _=>rfl):WL P n ops Q (o::rest) E w:=by
 subst hmm;subst hcs;intro a hA;obtain⟨cb,hcb⟩:=run_builtin (P:=P) (w:=w) hA ho hc ha;have hB:Blk w g e (news.flatMap f):=H.get hj;obtain⟨v',w',hr,h2,h3,h4⟩:=run_append_q (P:=P) (ty:=o.type) (cap2:=cap) hU hT hz (H.get hk) hf h1 (fun j u hu=>by rw[add_blk,Nat.zero_add];exact hB.cell hu) rfl (by
  have:=ble hby
  calc (l.length+news.length)*by'≤1000000*100000000:=Nat.mul_le_mul hm this
   _≤140737488355328:=by decide) (by grind [maxLen])
 obtain⟨A',c',rfl,_,_⟩:=h2.form;have hr2:(builtin .append c.argTypes o.type cb #[v,.slice (some ⟨g,0,none⟩) news.length cap]).run P w= .ok (.value (.slice A' (l++news).length c')) w':=by
  grind [builtin,Sem.run_bind,Result.andThen_ok,Sem.run_pure]
 refine wpList_plain hg fun K hK=>wp_of_run (hcb.trans hr2) (hK _ _ ?_);rw[hd];refine h A' c' w' ?_ _ (hA.put hn _);refine H.putD (p A' c') fun M K=>K.turn h3.size (fun b hb hf=>h3.block b hb (fun e=>hf e.symm)) (K.ext.grown h3 fun b hb=>K.own _ List.mem_cons_self b hb) h2 fun b hf=> ?_;rcases h4 with h5|h5
 ·exact .inl (h5.symm.trans hf)
 ·rw[show(rowq f sz (.slice A' (l++news).length c') (l++news)).foot b=((Value.slice A' (l++news).length c').ownBlock=some b)from rfl,h5]at hf;grind
end
section
variable{g b:Nat}{u v v':Value}{a w w' W:World}{α:Type}{f:α→List Value}{sz base e:Nat}{l:List α}{t:TypeId}{cs:List Value}
end
end Go.Eng
