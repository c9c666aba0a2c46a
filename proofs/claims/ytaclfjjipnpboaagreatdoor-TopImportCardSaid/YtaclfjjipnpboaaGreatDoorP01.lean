/- Part 1 of the proof. Conditions: what each theorem states. -/
import GoSem.Step
import Derived.WalkKit
import Derived.ProofKit
import Derived.Deep.Quiet
import Derived.Laws.StructEq
import Derived.StillTail
set_option linter.all false
set_option maxHeartbeats 4000000
set_option maxRecDepth 4000
namespace Go.Eng
open Go
theorem view_drawn{p:Program}{w:World}{a:Addr}{u:TypeId}{k:Addr}{v:Value}{b:Bool}{r:World×List Addr}(h:w.viewStore p a u k v b= .ok r):r.1.drawn=w.drawn:=by
 unfold World.viewStore at h;simp only[bind,Except.bind,pure,Except.pure,throw,throwThe,MonadExceptOf.throw]at h
 repeat' split at h
 all_goals first
  |(cases h;done)
  |(injection h with h;subst h;rfl)
theorem far_drawn{p:Program}{w:World}{a:Addr}{v:Value}{b:Bool}{r:World×List Addr}(h:w.farStore p a v b= .ok r):r.1.drawn=w.drawn:=by
 unfold World.farStore at h;grind [view_drawn]
theorem ask_drawn{α:Type}:∀(x:Ask α) (w:World),w.drawn≤(w.ask x).2.drawn:=by
 intro x
 induction x with
 |done a=>simp_all [World.ask,Nat.le_refl]
 |ask what range k ih=>
  grind [World.ask,Question.cut]
theorem sys_drawn(w:World)(c:Sys):w.drawn≤(w.sys c).2.drawn:=by
 have h:=ask_drawn (Kernel.perform c w.os) w;unfold World.sys;grind
theorem run_drawn{α:Type}(p:Program):∀(s:Sem α) (w w':World) (v:α),s.run p w= .ok v w'→w.drawn≤w'.drawn:=by
 intro s
 induction s with
 |pure a=>simp_all [Sem.run,Nat.le_refl]
 |load m a k ih=>
  grind [Sem.run]
 |store m a u k ih=>
  intro w w' v h;cases u<;>simp only[Sem.run]at h
  case agg=>cases h
  case tuple=>cases h
  all_goals
   split at h
   ·split at h
    ·cases h
    ·have:=ih _ _ _ h;exact this
   ·split at h
    ·rename_i hf;have:=ih _ _ _ h;have e:=far_drawn hf;simp only at e;omega
    ·cases h
 |new o k ih=>grind [Sem.run]
 |shape r k ih=>grind [Sem.run]
 |freeze a n k ih=>
  grind [Sem.run,World.freeze]
 |frozen a k ih=>grind [Sem.run]
 |getObj r k ih=>
  grind [Sem.run]
 |setObj r o k ih=>
  grind [Sem.run]
 |choose q k ih=>
  grind [Sem.run]
 |sys c k ih=>
  grind [Sem.run,sys_drawn]
 |program k ih=>grind [Sem.run]
 |mark m k ih=>grind [Sem.run]
 |halt h'=>grind [Sem.run]
end Go.Eng
namespace Go.Eng
open Go Go.RowKit
abbrev Env:=List (Nat×Value)
theorem blt{a b:Nat}(h:Nat.blt a b=true):a<b:=by simp_all
theorem ble{a b:Nat}(h:Nat.ble a b=true):a≤b:=Nat.le_of_ble_eq_true h
def look:Nat→Env→Option Value
 |_,[]=>none
 |t,(k,v)::r=>bif Nat.beq k t then some v else look t r
structure Ok(n:Nat)(E:Env)(a:Act):Prop where
 defers:a.defers=[]
 size:a.tmps.size=n
 at_:∀t v,look t E=some v→a.tmps[t]? =some v
def ev(E:Env):Operand→Option Value
 | .tmp t=>look t E
 | .const v=>some v
 | .global g=>some (.pointer (some ⟨g,0,none⟩))
 | .func f=>some (.func (.func f) #[] #[])
theorem Ok.ev{n:Nat}{E:Env}{a:Act}(h:Ok n E a){x:Operand}{v:Value}(hx:Eng.ev E x=some v):a.eval x=v:=by
 cases x with
 |tmp t=>
  have:=h.at_ t v hx;simp[Act.eval,Array.getD_eq_getD_getElem?,this]
 |const u=>injection hx
 |global g=>injection hx
 |func f=>injection hx
theorem Ok.put{n:Nat}{E:Env}{a:Act}(h:Ok n E a){d:Nat}(hd:d<n)(v:Value):Ok n ((d,v)::E) (a.put (some d) v):=by
 refine⟨h.defers,by simpa[Act.put]using h.size,fun t u hu=> ?_⟩;simp only[look]at hu;by_cases hk:d=t
 ·subst hk;simp at hu;subst hu;simp[Act.put,h.size,hd]
 ·have hb:Nat.beq d t=false:=by
   grind [Nat.beq,absurd,Nat.eq_of_beq_eq_true]
  rw[hb]at hu;have:=h.at_ t u (by grind);grind [Act.put,Array.getElem?_setIfInBounds_ne]
def Sub:Env→Env→Prop
 |[],_=>True
 |(t,v)::r,E=>look t E=some v∧Sub r E
theorem Sub.look{E' E:Env}(h:Sub E' E):∀t v,Eng.look t E'=some v→Eng.look t E=some v:=by
 induction E' with
 |nil=>intro t v hv;cases hv
 |cons p r ih=>
  intro t v hv;obtain⟨k,u⟩:=p;simp only[Eng.look]at hv;cases hb:Nat.beq k t with
  |true=>
   rw[hb]at hv;simp at hv;have:=Nat.eq_of_beq_eq_true hb;subst this;subst hv;exact h.1
  |false=>
   rw[hb]at hv;exact ih h.2 t v (by grind)
theorem Ok.sub{n:Nat}{E E':Env}{a:Act}(h:Ok n E a)(hs:Sub E' E):Ok n E' a:=
 ⟨h.defers,h.size,fun t v hv=>h.at_ t v (hs.look t v hv)⟩
def WC(P:Program)(n:Nat)(c:Code)(Q:Exit→Act→World→Prop)(E:Env)(w:World):Prop:=∀a,Ok n E a→c.wp P Q a w
def WL(P:Program)(n:Nat)(ops:Array Oper)(Q:Exit→Act→World→Prop)(l:List Oper)(E:Env)(w:World):Prop:=∀a,Ok n E a→wpList P ops Q l a w
def WK(n:Nat)(K:Act→World→Prop)(E:Env)(w:World):Prop:=∀a,Ok n E a→K a w
section code
variable{P:Program}{n:Nat}{Q:Exit→Act→World→Prop}{E:Env}{w:World}
theorem WC.seq{x y:Code}(h:∀K:Act→World→Prop,(∀E w,WC P n y Q E w→WK n K E w)→WC P n x (Exit.then K Q) E w):WC P n (.seq x y) Q E w:=by
 intro a ha;refine wp_seq ?_;exact h (fun a w=>y.wp P Q a w) (fun E w hc a ha=>hc a ha) a ha
theorem WC.skip(h:WK n (Q .normal) E w):WC P n .skip Q E w:=fun a ha=>wp_skip (h a ha)
theorem WC.ret(h:WK n (Q .ret) E w):WC P n .ret Q E w:=fun a ha=>wp_ret (h a ha)
theorem WC.exit{id:Nat}(h:WK n (Q (.exit id)) E w):WC P n (.exit id) Q E w:=fun a ha=>wp_exit (h a ha)
theorem WC.block{id:Nat}{c:Code}(h:WC P n c (Exit.inBlock id Q) E w):WC P n (.block id c) Q E w:=fun a ha=>wp_block (h a ha)
theorem WC.cond{c:Operand}{x y:Code}{b:Bool}(hc:ev E c=some (.bool b))(ht:b=true→WC P n x Q E w)(hf:b=false→WC P n y Q E w):WC P n (.cond c x y) Q E w:=by
 intro a ha;cases b with
 |true=>exact wp_cond_true (ha.ev hc) (ht rfl a ha)
 |false=>exact wp_cond_false (ha.ev hc) (hf rfl a ha)
theorem WC.condT{c:Operand}{x y:Code}(hc:ev E c=some (.bool true))(h:WC P n x Q E w):WC P n (.cond c x y) Q E w:=fun a ha=>wp_cond_true (ha.ev hc) (h a ha)
theorem WC.condF{c:Operand}{x y:Code}(hc:ev E c=some (.bool false))(h:WC P n y Q E w):WC P n (.cond c x y) Q E w:=fun a ha=>wp_cond_false (ha.ev hc) (h a ha)
theorem WC.region{id:Nat}{l l':List Oper}(hl:l=l')(h:WL P n l.toArray Q l' E w):WC P n (.region id l.toArray false) Q E w:=by
 subst hl;exact fun a ha=>wp_region_lit (h a ha)
theorem WC.sub{c:Code}(E':Env)(hs:Sub E' E)(h:WC P n c Q E' w):WC P n c Q E w:=fun a ha=>h a (ha.sub hs)
theorem WK.sub{K:Act→World→Prop}(E':Env)(hs:Sub E' E)(h:WK n K E' w):WK n K E w:=fun a ha=>h a (ha.sub hs)
theorem WC.loop{c:Code}(I:Nat→Env→World→Prop)(m:Nat)(h₀:I m E w)
  (round:∀m E w,I m E w→WC P n c (Exit.then (fun a' w'=>∃m' E',m'<m∧I m' E' w'∧Ok n E' a') Q) E w):WC P n (.loop c) Q E w:=by
 intro a ha b k cs;have key:∀m,∀a w E,I m E w→Ok n E a→∃e a' w',Q e a' w'∧Arrives P (lone (b.at a (.code c:: .inLoop c::k)) cs w) b k cs e a' w':=by
  intro m
  induction m using Nat.strongRecOn with
  |_ m ih=>
   intro a w E hI hok;obtain⟨e,a₁,w₁,hq,harr⟩:=round m E w hI a hok b (.inLoop c::k) cs;cases e with
   |normal=>
    obtain⟨m',E',hlt,hI',hok'⟩:=hq;obtain⟨e₂,a₂,w₂,hq₂,harr₂⟩:=ih m' hlt a₁ w₁ E' hI' hok';exact⟨e₂,a₂,w₂,hq₂,.of_steps (Steps.trans harr (.one step_inLoop)) harr₂⟩
   |exit id=>exact⟨_,a₁,w₁,hq,.pass (x:=.inLoop c) rfl (fun _ _=>.inl (by simp)) harr⟩
   |goto l=>exact⟨_,a₁,w₁,hq,.pass (x:=.inLoop c) rfl (fun _ _=>.inl (by simp)) harr⟩
   |ret=>exact⟨_,a₁,w₁,hq,.pass (x:=.inLoop c) rfl (fun _ _=>.inl (by simp)) harr⟩
   |panic ch=>exact⟨_,a₁,w₁,hq,.pass (x:=.inLoop c) rfl (fun _ _=>.inl (by simp)) harr⟩
   |outgrown=>exact⟨_,a₁,w₁,hq,.pass (x:=.inLoop c) rfl (fun _ _=>.inl (by simp)) harr⟩
 obtain⟨e,a',w',hq,harr⟩:=key m a w E h₀ ha;exact⟨e,a',w',hq,.of_steps (.one step_loop) harr⟩
end code
abbrev Dle(_a _b:Nat):Prop:=True
theorem Dle.of{a b:Nat}(_h:a≤b):Dle a b:=trivial
theorem Dle.trans{a b c:Nat}(_h:Dle a b)(_k:Dle b c):Dle a c:=trivial
structure Ext(w w':World):Prop extends Below w.heap.size w w' where
 dr:Dle w.drawn w'.drawn
theorem Ext.of{w w':World}(h:Below w.heap.size w w'):Ext w w':=⟨h,trivial⟩
theorem Ext.refl(w:World):Ext w w:=⟨Below.refl _ _,Dle.of (Nat.le_refl _)⟩
theorem Ext.trans{a b c:World}(h:Ext a b)(k:Ext b c):Ext a c:=⟨Below.trans h.toBelow (Below.mono k.toBelow h.size),Dle.trans h.dr k.dr⟩
theorem Ext.alloc{a w:World}(h:Ext a w)(o:Obj):Ext a (w.alloc o):=⟨Below.alloc h.toBelow h.size o,h.dr⟩
theorem Ext.drawn{a w:World}(h:Ext a w){k:Nat}(hk:w.drawn≤k):Ext a {w with drawn:=k}:=⟨⟨h.os,h.tape,h.output,h.size,h.block⟩,Dle.trans h.dr (Dle.of hk)⟩
theorem Ext.cell{w w':World}(h:Ext w w'){p:Addr}(hp:p.block<w.heap.size):w'.cell? p=w.cell? p:=Below.cell h.toBelow hp
theorem cell_lt{w:World}{p:Addr}{v:Value}(h:w.cell? p=some v):p.block<w.heap.size:=by
 unfold World.cell? at h;grind
theorem Ext.cell_some{w w':World}(h:Ext w w'){p:Addr}{v:Value}(hc:w.cell? p=some v):w'.cell? p=some v:=(h.cell (cell_lt hc)).trans hc
def Blk(w:World)(g:Nat)(t:TypeId)(cs:List Value):Prop:=w.heap[g]? =some (.cells cs.toArray t (0,0))
section blk
variable{w w':World}{g:Nat}{t:TypeId}{cs:List Value}
theorem Blk.lt(h:Blk w g t cs):g<w.heap.size:=by
 grind [Nat.lt_or_ge,Blk,Array.getElem?_eq_none]
theorem Blk.cell(h:Blk w g t cs){i:Nat}{v:Value}(hv:cs[i]? =some v):w.cell? ⟨g,i,none⟩=some v:=by
 rw[cell_of_row w g i cs.toArray t (0,0) h];grind
theorem Blk.frozen(h:Blk w g t cs)(i:Nat):w.frozen? ⟨g,i,none⟩=false:=by
 unfold Blk at h;simp[World.frozen?,h]
theorem Blk.ext(h:Blk w g t cs)(x:Ext w w'):Blk w' g t cs:=(x.block g h.lt).trans h
theorem Blk.new(w:World)(t:TypeId)(cs:List Value):Blk (w.alloc (.cells cs.toArray t)) w.heap.size t cs:=heap_alloc_new w _
theorem Blk.set_(h:Blk w g t cs)(i:Nat)(u:Value):Blk (w.setCell ⟨g,i,none⟩ u) g t (cs.set i u):=by
 simp_all [Blk,World.setCell,Array.getElem?_modify]
end blk
structure Only(b:Nat)(w w':World):Prop where
 os:w'.os=w.os
 tape:w'.tape=w.tape
 output:w'.output=w.output
 size:w'.heap.size=w.heap.size
 block:∀k,k≠b→w'.heap[k]? =w.heap[k]?
 dr:Dle w.drawn w'.drawn
theorem Only.setCell(w:World)(p:Addr)(u:Value):Only p.block w (w.setCell p u):=
 ⟨rfl,rfl,rfl,by simp_all,fun k hk=>Below.heap_setCell w p u k hk,Dle.of (Nat.le_refl _)⟩
theorem Only.trans{b:Nat}{w w' w'':World}(h:Only b w w')(k:Only b w' w''):Only b w w'':=
 ⟨k.os.trans h.os,k.tape.trans h.tape,k.output.trans h.output,k.size.trans h.size,fun i hi=>(k.block i hi).trans (h.block i hi),Dle.trans h.dr k.dr⟩
theorem Only.refl(b:Nat)(w:World):Only b w w:=⟨rfl,rfl,rfl,rfl,fun _ _=>rfl,Dle.of (Nat.le_refl _)⟩
theorem Blk.only{w w':World}{g b:Nat}{t:TypeId}{cs:List Value}(h:Blk w g t cs)(hne:g≠b)(x:Only b w w'):Blk w' g t cs:=(x.block g hne).trans h
theorem Ext.only{a w w':World}{b:Nat}(h:Ext a w)(x:Only b w w')(hb:a.heap.size≤b):Ext a w':=
 ⟨⟨x.os.trans h.os,x.tape.trans h.tape,x.output.trans h.output,by rw[x.size];exact h.size,fun k hk=>(x.block k (by omega)).trans (h.block k hk)⟩,Dle.trans h.dr x.dr⟩
def Yld(P:Program)(o:Oper)(n:Nat)(E:Env)(C:World→Prop)(v:Value):Prop:=∀a w,Ok n E a→C w→(execOp a.eval o).run P w= .ok (.value v) w
def gv(b want:Bool)(v:Value):Value:=bif (b==want)then v else undef
theorem gv_yes{b want:Bool}(h:b=want)(v:Value):gv b want v=v:=by grind [gv]
theorem evg{E:Env}{x:Operand}{b want:Bool}{u:Value}(h:ev E x=some (gv b want u))(hb:b=want):ev E x=some u:=by rw[h,gv_yes hb]
theorem wanted_plain{o:Oper}(h:o.guard=none)(y:Nat→Option Bool):Region.wanted o y=true:=by simp[Region.wanted,h]
theorem Ok.yielded{n:Nat}{E:Env}{a:Act}(h:Ok n E a){ops:Array Oper}{j t:Nat}{b:Bool}(hj:(ops[j]?).bind (·.dst)=some t)(ht:look t E=some (.bool b)):yielded ops a.tmps j=some b:=by
 simp[Go.yielded,hj,h.at_ t _ ht]
theorem wanted_guard{n:Nat}{E:Env}{a:Act}(h:Ok n E a){o:Oper}{ops:Array Oper}{j t:Nat}{b want:Bool}(hg:o.guard=some (j,want))(hj:(ops[j]?).bind (·.dst)=some t)(ht:look t E=some (.bool b)):
  Region.wanted o (yielded ops a.tmps)=(b==want):=by
 simp[Region.wanted,hg,h.yielded hj ht]
section plain
variable{P:Program}{n:Nat}{ops:Array Oper}{Q:Exit→Act→World→Prop}{E:Env}{w:World}{o:Oper}{rest:List Oper}{d:Nat}{v:Value}
theorem WL.nil(h:WK n (Q .normal) E w):WL P n ops Q [] E w:=fun a ha=>wpList_nil (h a ha)
theorem wp_of_run{a:Act}{K:Act→World→Prop}{Q:Exit→Act→World→Prop}{w':World}(hr:(execOp a.eval o).run P w= .ok (.value v) w')(h:K (a.put o.dst v) w'):o.wp P a w K Q:=by
 unfold Oper.wp;rw[hr];exact h
theorem WL.yld(hd:o.dst=some d)(hn:d<n)(hg:o.guard=none)(hy:Yld P o n E (·=w) v)(h:WL P n ops Q rest ((d,v)::E) w):WL P n ops Q (o::rest) E w:=by
 intro a ha;refine wpList_plain hg fun K hK=>wp_of_run (hy a w ha rfl) (hK _ _ ?_);rw[hd];exact h _ (ha.put hn v)
theorem WL.yldW{j t:Nat}{want:Bool}(hd:o.dst=some d)(hn:d<n)(hg:o.guard=some (j,want))(hj:(ops[j]?).bind (·.dst)=some t)(ht:look t E=some (.bool want))(hy:Yld P o n E (·=w) v)(h:WL P n ops Q rest ((d,v)::E) w):WL P n ops Q (o::rest) E w:=by
 intro a ha;refine wpList_step fun K hK=> ?_;rw[if_pos (by grind [wanted_guard])];refine wp_of_run (hy a w ha rfl) (hK _ _ ?_);rw[hd];exact h _ (ha.put hn v)
theorem WL.skip{j t:Nat}{want b:Bool}(hd:o.dst=some d)(hn:d<n)(hg:o.guard=some (j,want))(hj:(ops[j]?).bind (·.dst)=some t)(ht:look t E=some (.bool b))(hb:(b==want)=false)(h:WL P n ops Q rest ((d,undef)::E) w):WL P n ops Q (o::rest) E w:=by
 intro a ha;refine wpList_step fun K hK=> ?_;rw[if_neg (by grind [wanted_guard])];refine hK _ _ ?_;rw[hd];exact h _ (ha.put hn _)
theorem WL.yldG{j t:Nat}{want b:Bool}(hd:o.dst=some d)(hn:d<n)(hg:o.guard=some (j,want))(hj:(ops[j]?).bind (·.dst)=some t)(ht:look t E=some (.bool b))(hy:b=want→Yld P o n E (·=w) v)(h:WL P n ops Q rest ((d,gv b want v)::E) w):WL P n ops Q (o::rest) E w:=by
 intro a ha;refine wpList_step fun K hK=> ?_;rw[wanted_guard ha hg hj ht];by_cases hb:b=want
 ·rw[if_pos (by simp[hb])];refine wp_of_run (hy hb a w ha rfl) (hK _ _ ?_);rw[hd];have:=h _ (ha.put hn (gv b want v));grind [gv_yes]
 ·have hb':(b==want)=false:=by simp[hb]
  rw[if_neg (by grind)];refine hK _ _ ?_;rw[hd];have:=h _ (ha.put hn (gv b want v));grind [gv,undef]
end plain
section quiet
variable{P:Program}{n:Nat}{ops:Array Oper}{C:World→Prop}{Q:Act→Prop}{E:Env}{o:Oper}{rest:List Oper}{d:Nat}{v:Value}
def WQ(P:Program)(n:Nat)(ops:Array Oper)(C:World→Prop)(Q:Act→Prop)(l:List Oper)(E:Env):Prop:=∀a,Ok n E a→wpQuiet P ops C Q l a
theorem quietAt_of_run{a:Act}{w:World}(hr:(execOp a.eval o).run P w= .ok (.value v) w):o.quietAt P a C w v:=by
 unfold Oper.quietAt;rw[hr];exact⟨rfl,rfl⟩
theorem WQ.yld(hd:o.dst=some d)(hn:d<n)(hg:o.guard=none)(hy:Yld P o n E C v)(h:WQ P n ops C Q rest ((d,v)::E)):WQ P n ops C Q (o::rest) E:=by
 intro a ha;unfold wpQuiet;rw[if_pos (wanted_plain hg _)];exact⟨v,fun w hw=>quietAt_of_run (hy a w ha hw),by rw[hd];exact h _ (ha.put hn v)⟩
theorem WQ.yldW{j t:Nat}{want:Bool}(hd:o.dst=some d)(hn:d<n)(hg:o.guard=some (j,want))(hj:(ops[j]?).bind (·.dst)=some t)(ht:look t E=some (.bool want))(hy:Yld P o n E C v)(h:WQ P n ops C Q rest ((d,v)::E)):WQ P n ops C Q (o::rest) E:=by
 intro a ha;unfold wpQuiet;rw[if_pos (by grind [wanted_guard])];exact⟨v,fun w hw=>quietAt_of_run (hy a w ha hw),by rw[hd];exact h _ (ha.put hn v)⟩
theorem WQ.skip{j t:Nat}{want b:Bool}(hd:o.dst=some d)(hn:d<n)(hg:o.guard=some (j,want))(hj:(ops[j]?).bind (·.dst)=some t)(ht:look t E=some (.bool b))(hb:(b==want)=false)(h:WQ P n ops C Q rest ((d,undef)::E)):WQ P n ops C Q (o::rest) E:=by
 intro a ha;unfold wpQuiet;rw[if_neg (by grind [wanted_guard]),hd];exact h _ (ha.put hn _)
theorem WQ.yldG{j t:Nat}{want b:Bool}(hd:o.dst=some d)(hn:d<n)(hg:o.guard=some (j,want))(hj:(ops[j]?).bind (·.dst)=some t)(ht:look t E=some (.bool b))(hy:b=want→Yld P o n E C v)(h:WQ P n ops C Q rest ((d,gv b want v)::E)):WQ P n ops C Q (o::rest) E:=by
 intro a ha;unfold wpQuiet;rw[wanted_guard ha hg hj ht];have hh:=h _ (ha.put hn (gv b want v));by_cases hb:b=want
 ·rw[if_pos (by simp[hb])];rw[gv_yes hb]at hh;exact⟨v,fun w hw=>quietAt_of_run (hy hb a w ha hw),by grind⟩
 ·have hb':(b==want)=false:=by simp[hb]
  simp_all [if_neg,gv,undef]
theorem WQ.nil(h:∀a,Ok n E a→Q a):WQ P n ops C Q [] E:=fun a ha=>wpQuiet_nil (h a ha)
end quiet
def evs(E:Env):List Operand→Option (List Value)
 |[]=>some []
 |x::r=>match ev E x,evs E r with
  |some v,some vs=>some (v::vs)
  |_,_=>none
theorem Ok.evs{n:Nat}{E:Env}{a:Act}(h:Ok n E a):∀{l:List Operand} {vs:List Value},Eng.evs E l=some vs→l.map a.eval=vs
 |[],vs,hv=>by simp[Eng.evs]at hv;subst hv;rfl
 |x::r,vs,hv=>by
  simp only[Eng.evs]at hv;split at hv
  ·rename_i v us h1 h2;injection hv with hv;subst hv
   simp[h.ev h1,h.evs h2]
  ·cases hv
def Has(P:Program)(f:FuncId):Prop:=∃fn,P.funcs[f]? =some fn∧fn.body.isNone=false∧(fn.name== "runtime.NumGoroutine")=false
theorem run_callFunc{P:Program}{f:FuncId}(h:Has P f)(args:Array Value)(w:World):(callFunc f args).run P w= .ok (.enter f args) w:=by
 obtain⟨fn,h1,h2,h3⟩:=h;simp only[callFunc,Sem.run_bind,run_program,Result.andThen_ok,h1,h2,h3,Bool.false_eq_true,if_false,Sem.run_pure]
theorem run_call{P:Program}{n:Nat}{E:Env}{a:Act}{w:World}{o:Oper}{c:Call}{x:Operand}{f:FuncId}{fst cap:Array Value}{args:List Value}(h:Ok n E a)(ho:o.op= .call c)(hc:c.callee= .value x)
  (hx:ev E x=some (.func (.func f) fst cap)) (hf:Has P f) (ha:evs E c.args.toList=some args):(execOp a.eval o).run P w= .ok (.enter f (fst++args.toArray++cap)) w:=by
 have h1:c.args.map a.eval=args.toArray:=by
  have:=h.evs ha;grind
 simp[execOp,ho,resolve,hc,h.ev hx,Deferred.ofValue,invoke,h1,run_callFunc hf]
section calls
variable{P:Program}{n:Nat}{ops:Array Oper}{E:Env}{o:Oper}{rest:List Oper}{d:Nat}{v:Value}{c:Call}{x:Operand}{f:FuncId}{args:List Value}{as:Array Value}{w:World}
theorem wp_of_enter{a:Act}{K:Act→World→Prop}{Q:Exit→Act→World→Prop}{R:Ending→World→Prop}(hr:(execOp a.eval o).run P w= .ok (.enter f as) w)(hk:Calls P f as w R)(h:∀e w',R e w'→∃v,e= .returned v∧K (a.put o.dst v) w'):o.wp P a w K Q:=by
 unfold Oper.wp;rw[hr];refine hk.mono fun e w' hR=> ?_;grind
theorem WL.call{Q:Exit→Act→World→Prop}{R:Ending→World→Prop}(hd:o.dst=some d)(hn:d<n)(hg:o.guard=none)(ho:o.op= .call c)(hc:c.callee= .value (.func f))(hf:Has P f)(ha:evs E c.args.toList=some args)
  (hk:Calls P f args.toArray w R) (h:∀e w',R e w'→∃v,e= .returned v∧WL P n ops Q rest ((d,v)::E) w'):WL P n ops Q (o::rest) E w:=by
 intro a hA;refine wpList_plain hg fun K hK=> ?_;refine wp_of_enter (R:=R) (by have:=run_call (P:=P) (w:=w) (fst:= #[]) (cap:= #[]) hA ho hc rfl hf ha;grind) hk fun e w' hR=> ?_;obtain⟨v,he,hv⟩:=h e w' hR;exact⟨v,he,hK _ _ (by rw[hd];exact hv _ (hA.put hn v))⟩
theorem WL.callV{Q:Exit→Act→World→Prop}{R:Ending→World→Prop}{fst cap:Array Value}(hd:o.dst=some d)(hn:d<n)(hg:o.guard=none)(ho:o.op= .call c)(hc:c.callee= .value x)(hx:ev E x=some (.func (.func f) fst cap))(hf:Has P f)(ha:evs E c.args.toList=some args)
  (hk:Calls P f (fst++args.toArray++cap) w R) (h:∀e w',R e w'→∃v,e= .returned v∧WL P n ops Q rest ((d,v)::E) w'):WL P n ops Q (o::rest) E w:=by
 intro a hA;refine wpList_plain hg fun K hK=> ?_;refine wp_of_enter (R:=R) (run_call hA ho hc hx hf ha) hk fun e w' hR=> ?_;obtain⟨v,he,hv⟩:=h e w' hR;exact⟨v,he,hK _ _ (by rw[hd];exact hv _ (hA.put hn v))⟩
theorem WL.callW{Q:Exit→Act→World→Prop}{R:Ending→World→Prop}{j t:Nat}{want:Bool}(hd:o.dst=some d)(hn:d<n)(hg:o.guard=some (j,want))(hj:(ops[j]?).bind (·.dst)=some t)(ht:look t E=some (.bool want))(ho:o.op= .call c)(hc:c.callee= .value (.func f))(hf:Has P f)(ha:evs E c.args.toList=some args)
  (hk:Calls P f args.toArray w R) (h:∀e w',R e w'→∃v,e= .returned v∧WL P n ops Q rest ((d,v)::E) w'):WL P n ops Q (o::rest) E w:=by
 intro a hA;refine wpList_step fun K hK=> ?_;rw[if_pos (by grind [wanted_guard])];refine wp_of_enter (R:=R) (by have:=run_call (P:=P) (w:=w) (fst:= #[]) (cap:= #[]) hA ho hc rfl hf ha;grind) hk fun e w' hR=> ?_;obtain⟨v,he,hv⟩:=h e w' hR;exact⟨v,he,hK _ _ (by rw[hd];exact hv _ (hA.put hn v))⟩
theorem WL.callG{Q:Exit→Act→World→Prop}{j t:Nat}{b want:Bool}(hd:o.dst=some d)(hn:d<n)(hg:o.guard=some (j,want))(hj:(ops[j]?).bind (·.dst)=some t)(ht:look t E=some (.bool b))(ho:o.op= .call c)(hc:c.callee= .value (.func f))(hf:Has P f)
  (ha:b=want→evs E c.args.toList=some args) (hk:b=want→Calls P f args.toArray w fun e w'=>e= .returned v∧Ext w w') (h:∀w',Ext w w'→WL P n ops Q rest ((d,gv b want v)::E) w'):WL P n ops Q (o::rest) E w:=by
 intro a hA;refine wpList_step fun K hK=> ?_;rw[wanted_guard hA hg hj ht];by_cases hb:b=want
 ·rw[if_pos (by simp[hb])];refine wp_of_enter (by have:=run_call (P:=P) (w:=w) (fst:= #[]) (cap:= #[]) hA ho hc rfl hf (ha hb);grind) (hk hb) fun e w' hR=> ?_;obtain⟨he,hx⟩:=hR;refine⟨v,he,hK _ _ ?_⟩;have:=h w' hx _ (hA.put hn (gv b want v));grind [gv_yes]
 ·have hb':(b==want)=false:=by simp[hb]
  rw[if_neg (by grind)];refine hK _ _ ?_;have:=h w (Ext.refl w) _ (hA.put hn (gv b want v));grind [gv,undef]
variable{C:World→Prop}{Qq:Act→Prop}
theorem quietAt_of_enter{a:Act}(hr:(execOp a.eval o).run P w= .ok (.enter f as) w)(hk:Calls P f as w fun e w'=>e= .returned v∧C w'):o.quietAt P a C w v:=by
 unfold Oper.quietAt;rw[hr];exact⟨rfl,hk⟩
theorem WQ.call(hd:o.dst=some d)(hn:d<n)(hg:o.guard=none)(ho:o.op= .call c)(hc:c.callee= .value (.func f))(hf:Has P f)(ha:evs E c.args.toList=some args)
  (hk:∀w,C w→Calls P f args.toArray w fun e w'=>e= .returned v∧C w') (h:WQ P n ops C Qq rest ((d,v)::E)):WQ P n ops C Qq (o::rest) E:=by
 intro a hA;unfold wpQuiet;rw[if_pos (wanted_plain hg _)];exact⟨v,fun w hw=>quietAt_of_enter (by have:=run_call (P:=P) (w:=w) (fst:= #[]) (cap:= #[]) hA ho hc rfl hf ha;grind) (hk w hw),by rw[hd];exact h _ (hA.put hn v)⟩
theorem WQ.callG{j t:Nat}{b want:Bool}(hd:o.dst=some d)(hn:d<n)(hg:o.guard=some (j,want))(hj:(ops[j]?).bind (·.dst)=some t)(ht:look t E=some (.bool b))(ho:o.op= .call c)(hc:c.callee= .value (.func f))(hf:Has P f)
  (ha:b=want→evs E c.args.toList=some args) (hk:b=want→∀w,C w→Calls P f args.toArray w fun e w'=>e= .returned v∧C w') (h:WQ P n ops C Qq rest ((d,gv b want v)::E)):WQ P n ops C Qq (o::rest) E:=by
 intro a hA;unfold wpQuiet;rw[wanted_guard hA hg hj ht];have hh:=h _ (hA.put hn (gv b want v));by_cases hb:b=want
 ·rw[if_pos (by simp[hb])];rw[gv_yes hb]at hh;exact⟨v,fun w hw=>quietAt_of_enter (by have:=run_call (P:=P) (w:=w) (fst:= #[]) (cap:= #[]) hA ho hc rfl hf (ha hb);grind) (hk hb w hw),by grind⟩
 ·have hb':(b==want)=false:=by simp[hb]
  simp_all [if_neg,gv,undef]
theorem calls_ext{w0 w:World}(hx:Ext w0 w)(h:Calls P f as w fun e w'=>e= .returned v∧Ext w w'):Calls P f as w fun e w'=>e= .returned v∧Ext w0 w':=h.mono fun _ _ ⟨he,hx'⟩=>⟨he,hx.trans hx'⟩
end calls
def gvs:List (Bool×Bool)→Value→Value
 |[],v=>v
 |(b,w)::r,v=>gv b w (gvs r v)
def AllEq:List (Bool×Bool)→Prop
 |[]=>True
 |(b,w)::r=>b=w∧AllEq r
def allB:List (Bool×Bool)→Bool
 |[]=>true
 |(b,w)::r=>(b==w)&&allB r
theorem allB_yes:∀{cs:List (Bool×Bool)},allB cs=true→AllEq cs
 |[],_=>trivial
 |(b,w)::r,h=>by
  simp only[allB,Bool.and_eq_true,beq_iff_eq]at h;exact⟨h.1,allB_yes h.2⟩
theorem gvs_yes:∀{cs:List (Bool×Bool)},allB cs=true→∀v,gvs cs v=v
 |[],_,_=>rfl
 |(b,w)::r,h,v=>by
  simp only[allB,Bool.and_eq_true,beq_iff_eq]at h;simp only[gvs,gv_yes h.1,gvs_yes h.2]
theorem gvs_no:∀{cs:List (Bool×Bool)},allB cs=false→∀v,gvs cs v=undef
 |(b,w)::r,h,v=>by
  simp only[allB,Bool.and_eq_false_iff]at h;rcases h with h|h
  ·simp[gvs,gv,h]
  ·simp only[gvs,gvs_no h,gv];grind
theorem allB_snoc(cs:List (Bool×Bool))(b w:Bool):allB (cs++[(b,w)])=(allB cs&&(b==w)):=by
 induction cs with
 |nil=>simp[allB]
 |cons p r ih=>simp[allB,ih,Bool.and_assoc]
theorem wanted_guards{n:Nat}{E:Env}{a:Act}(h:Ok n E a){o:Oper}{ops:Array Oper}{j t:Nat}{cs:List (Bool×Bool)}{y w1:Bool}(hg:o.guard=some (j,w1))(hj:(ops[j]?).bind (·.dst)=some t)(ht:look t E=some (gvs cs (.bool y))):
  Region.wanted o (yielded ops a.tmps)=allB (cs++[(y,w1)]):=by
 rw[allB_snoc];cases hb:allB cs with
 |true=>
  grind [gvs_yes,wanted_guard]
 |false=>
  rw[gvs_no hb]at ht;have:yielded ops a.tmps j=none:=by
   simp[Go.yielded,hj,h.at_ t _ ht,undef]
  grind [Region.wanted]
section nested
variable{P:Program}{n:Nat}{ops:Array Oper}{E:Env}{w:World}{o:Oper}{rest:List Oper}{d:Nat}{v:Value}{j t:Nat}{y w1:Bool}
theorem WL.yldGs{Q:Exit→Act→World→Prop}(cs:List (Bool×Bool))(hd:o.dst=some d)(hn:d<n)(hg:o.guard=some (j,w1))(hj:(ops[j]?).bind (·.dst)=some t)(ht:look t E=some (gvs cs (.bool y)))(hy:AllEq (cs++[(y,w1)])→Yld P o n E (·=w) v)(h:WL P n ops Q rest ((d,gvs (cs++[(y,w1)]) v)::E) w):WL P n ops Q (o::rest) E w:=by
 intro a ha;refine wpList_step fun K hK=> ?_;rw[wanted_guards ha hg hj ht];have hh:=h _ (ha.put hn (gvs (cs++[(y,w1)]) v));cases hc:allB (cs++[(y,w1)])with
 |true=>
  rw[if_pos rfl];rw[gvs_yes hc]at hh;exact wp_of_run (hy (allB_yes hc) a w ha rfl) (hK _ _ (by grind))
 |false=>
  simp_all [if_neg,gvs_no]
theorem WQ.yldGs{C:World→Prop}{Q:Act→Prop}(cs:List (Bool×Bool))(hd:o.dst=some d)(hn:d<n)(hg:o.guard=some (j,w1))(hj:(ops[j]?).bind (·.dst)=some t)(ht:look t E=some (gvs cs (.bool y)))(hy:AllEq (cs++[(y,w1)])→Yld P o n E C v)(h:WQ P n ops C Q rest ((d,gvs (cs++[(y,w1)]) v)::E)):WQ P n ops C Q (o::rest) E:=by
 intro a ha;unfold wpQuiet;rw[wanted_guards ha hg hj ht];have hh:=h _ (ha.put hn (gvs (cs++[(y,w1)]) v));cases hc:allB (cs++[(y,w1)])with
 |true=>
  rw[if_pos rfl];rw[gvs_yes hc]at hh;exact⟨v,fun w hw=>quietAt_of_run (hy (allB_yes hc) a w ha hw),by grind⟩
 |false=>
  simp_all [if_neg,gvs_no]
end nested
theorem WC.regionD{P:Program}{n:Nat}{Q:Exit→Act→World→Prop}{E:Env}{w:World}{id:Nat}{l l':List Oper}(hm:P.follows .mixedOrders=true)(hB:Region.lexB .any l.toArray=true)(hl:l=l')
  (h:WQ P n l.toArray (Ext w) (fun a'=>∀w',Ext w w'→Q .normal a' w') l' E):WC P n (.region id l.toArray true) Q E w:=by
 subst hl;intro a ha;exact wp_region_quiet hm hB ((Ext.refl w).drawn (Nat.le_succ _)) (by simpa using h a ha)
theorem WQ.done{P:Program}{n:Nat}{ops:Array Oper}{Q:Exit→Act→World→Prop}{E:Env}{w:World}(h:∀w',Ext w w'→WK n (Q .normal) E w'):WQ P n ops (Ext w) (fun a'=>∀w',Ext w w'→Q .normal a' w') [] E:=
 WQ.nil fun a ha w' hw=>h w' hw a ha
def TI(P:Program)(t:TypeId)(z:Value)(size bytes:Nat):Prop:=∃i,P.info? t=some i∧i.zero=some z∧i.size=size∧i.bytes=bytes
theorem TI.mk{P:Program}{t:TypeId}{z:Value}{size bytes:Nat}(h:(P.info? t).map (fun i=>(i.zero,i.size,i.bytes))=some (some z,size,bytes)):TI P t z size bytes:=by
 cases hi:P.info? t with
 |none=>grind
 |some i=>
  rw[hi]at h;simp only[Option.map_some,Option.some.injEq,Prod.mk.injEq]at h;exact⟨i,hi,h.1,h.2.1,h.2.2⟩
theorem TI.sizeOf{P:Program}{t:TypeId}{z:Value}{size bytes:Nat}(h:TI P t z size bytes)(w:World):(sizeOf t).run P w= .ok size w:=by
 obtain⟨i,h1,_,h3,_⟩:=h;simp[Go.sizeOf,typeInfo,h1,h3]
theorem TI.zeroValue{P:Program}{t:TypeId}{z:Value}{size bytes:Nat}(h:TI P t z size bytes)(w:World):(zeroValue t).run P w= .ok z w:=by
 obtain⟨i,h1,h2,_,_⟩:=h;simp[Go.zeroValue,typeInfo,h1,h2]
def aggD:TypeDesc→Bool
 | .struct _| .array _ _=>true
 |_=>false
theorem run_isAgg{P:Program}{t:TypeId}{D:TypeDesc}(h:P.underlying t=some D)(w:World):(isAgg t).run P w= .ok (aggD D) w:=by
 unfold isAgg;simp only[Sem.run_bind,run_underlying h,Result.andThen_ok];cases D<;>rfl
theorem wrap_i64{x:Int}(h: -9223372036854775808≤x∧x≤9223372036854775807):IntKind.i64.wrap x=x:=IntWalk.i64_in x h
theorem wrap_u64{x:Int}(h:0≤x∧x≤18446744073709551615):IntKind.u64.wrap x=x:=by rw[IntKind.wrap_u64];omega
theorem wrap_quo_u64{a b:Int}(ha:0≤a)(ha':a≤18446744073709551615)(hb:0<b):IntKind.u64.wrap (a.tdiv b)=a/b:=by
 rw[Int.tdiv_eq_ediv_of_nonneg ha];have h1:0≤a/b:=Int.ediv_nonneg ha (by omega);have h2:a/b≤a:=Int.ediv_le_self _ ha;grind [wrap_u64]
theorem shr32{a:Int}(h:0≤a):a.fdiv (2 ^ min (32:Int).toNat IntKind.u64.bits)=a/4294967296:=by
 rw[show min (32:Int).toNat IntKind.u64.bits=32 from rfl,Int.fdiv_eq_ediv_of_nonneg _ (by decide)];rfl
theorem wm{a b p:Int}(h:a*b=p)(hp:0≤p∧p≤18446744073709551615):IntKind.u64.wrap (a*b)=p:=by grind [wrap_u64]
theorem mul_bound{a b m k:Int}(ha:0≤a∧a≤m)(hb:0≤b∧b≤k):0≤a*b∧a*b≤m*k:=
 ⟨Int.mul_nonneg ha.1 hb.1,Int.mul_le_mul ha.2 hb.2 hb.1 (by omega)⟩
theorem rem_pos{a b:Int}(ha:0≤a):a.tmod b=a%b:=Int.tmod_eq_emod_of_nonneg ha
theorem bt{p:Prop}[Decidable p](h:p):Value.bool (decide p)= .bool true:=by rw[decide_eq_true h]
theorem bf{p:Prop}[Decidable p](h:¬p):Value.bool (decide p)= .bool false:=by rw[decide_eq_false h]
theorem Yld.cast{P:Program}{o:Oper}{n:Nat}{E:Env}{C:World→Prop}{v v':Value}(h:Yld P o n E C v)(e:v=v'):Yld P o n E C v':=e▸h
theorem evs_nil{E:Env}:evs E []=some []:=rfl
theorem evs_cons{E:Env}{x:Operand}{r:List Operand}{v:Value}{vs:List Value}(h:ev E x=some v)(hr:evs E r=some vs):evs E (x::r)=some (v::vs):=by grind [evs]
def evp(E:Env):List (Nat×Operand)→Option (List (Nat×Value))
 |[]=>some []
 |(i,x)::r=>match ev E x,evp E r with
  |some v,some vs=>some ((i,v)::vs)
  |_,_=>none
theorem Ok.evp{n:Nat}{E:Env}{a:Act}(h:Ok n E a):∀{l:List (Nat×Operand)} {vs:List (Nat×Value)},Eng.evp E l=some vs→l.map (fun p=>(p.1,a.eval p.2))=vs
 |[],vs,hv=>by simp[Eng.evp]at hv;subst hv;rfl
 |(i,x)::r,vs,hv=>by
  simp only[Eng.evp]at hv;split at hv
  ·rename_i v us h1 h2;injection hv with hv;subst hv
   simp[h.ev h1,h.evp h2]
  ·cases hv
section
variable{P:Program}{n:Nat}{ops:Array Oper}{E:Env}{w:World}{o:Oper}{rest:List Oper}{d:Nat}
end
def lget:List Value→Nat→Option Value
 |[],_=>none
 |v::_,0=>some v
 |_::r,i+1=>lget r i
theorem lget_eq:∀{vs:List Value} {i:Nat} {v:Value},lget vs i=some v→vs[i]? =some v
 |[],_,_,h=>by cases h
 |u::_,0,_,h=>by grind [lget]
 |_::r,i+1,_,h=>by simpa using lget_eq (vs:=r) (by grind [lget])
theorem ne_new{w:World}{g g':Nat}{t:TypeId}{cs:List Value}(h:Blk w g t cs)(e:g'=w.heap.size):g≠g':=by have:=h.lt;omega
theorem own_new{W w:World}{g:Nat}(x:Ext W w)(e:g=w.heap.size):W.heap.size≤g:=by have:=x.size;omega
section
variable{w:World}{g:Nat}{t:TypeId}{cs:List Value}
theorem add_blk(g off j:Nat):(⟨g,off,none⟩:Addr).add j=⟨g,off+j,none⟩:=by simp_all [Addr.add,dite]
theorem Blk.at_eq(h:Blk w g t cs){i:Nat}{v:Value}(hv:cs[i]? =some v):∀w',w'=w→w'.cell? ⟨g,i,none⟩=some v:=by rintro _ rfl;exact h.cell hv
theorem Blk.at_ext(h:Blk w g t cs){i:Nat}{v:Value}(hv:cs[i]? =some v):∀w',Ext w w'→w'.cell? ⟨g,i,none⟩=some v:=fun _ x=>(h.ext x).cell hv
theorem Blk.row_eq(h:Blk w g t cs):∀w',w'=w→∀j u,cs[j]? =some u→w'.cell? ((⟨g,0,none⟩:Addr).add j)=some u:=by
 rintro _ rfl j u hu;rw[add_blk,Nat.zero_add];exact h.cell hu
theorem Blk.part_eq(h:Blk w g t cs){off:Nat}{sub:List Value}(hs:(cs.drop off).take sub.length=sub):∀w',w'=w→∀j u,sub[j]? =some u→w'.cell? ((⟨g,off,none⟩:Addr).add j)=some u:=by
 rintro _ rfl j u hu;have hj:j<sub.length:=(List.getElem?_eq_some_iff.1 hu).1;rw[add_blk];refine h.cell ?_;grind
theorem Blk.part_ext(h:Blk w g t cs){off:Nat}{sub:List Value}(hs:(cs.drop off).take sub.length=sub):∀w',Ext w w'→∀j u,sub[j]? =some u→w'.cell? ((⟨g,off,none⟩:Addr).add j)=some u:=fun _ x=>(h.ext x).part_eq hs _ rfl
end
def setAll:List Value→Nat→List Value→List Value
 |cs,_,[]=>cs
 |cs,i,v::r=>setAll (cs.set i v) (i+1) r
def cellsL:Value→List Value
 | .agg cs=>cs.toList
 |v=>[v]
theorem cellsL_eq(v:Value):v.cells=(cellsL v).toArray:=by cases v<;>simp[Value.cells,cellsL]
theorem foldl_setAll(off:Nat):∀(vs:List Value) (k:Nat) (cs:List Value),(vs.zipIdx k).foldl (fun(a:Array Value) p=>a.setIfInBounds (off+p.2) p.1) cs.toArray=(setAll cs (off+k) vs).toArray
 |[],_,_=>rfl
 |v::r,k,cs=>by
  simp only[List.zipIdx_cons,List.foldl_cons,setAll];rw[show(cs.toArray.setIfInBounds (off+k) v)=(cs.set (off+k) v).toArray from by simp];rw[foldl_setAll off r (k+1) (cs.set (off+k) v)];rfl
theorem length_setAll:∀(vs:List Value) (i:Nat) (cs:List Value),(setAll cs i vs).length=cs.length
 |[],_,_=>rfl
 |v::r,i,cs=>by simp only[setAll];rw[length_setAll r];simp
def fillP(place:Nat→Option (Nat×Nat)):List Value→List (Nat×Value)→Option (List Value)
 |cs,[]=>some cs
 |cs,(i,v)::r=>match place i with
  |none=>none
  |some (off,sz)=>bif Nat.beq (cellsL v).length sz&&Nat.ble (off+sz) cs.length then fillP place (setAll cs off (cellsL v)) r else none
theorem fill_eq(place:Nat→Option (Nat×Nat)):∀(ps:List (Nat×Value)) (cs cs':List Value),fillP place cs ps=some cs'→Instr.fill place cs.toArray ps=some cs'.toArray
 |[],cs,cs',h=>by simp[fillP]at h;subst h;rfl
 |(i,v)::r,cs,cs',h=>by
  simp only[fillP]at h;cases hp:place i with
  |none=>grind
  |some q=>
   obtain⟨off,sz⟩:=q;rw[hp]at h;dsimp only at h;cases hc:(Nat.beq (cellsL v).length sz&&Nat.ble (off+sz) cs.length)with
   |false=>grind
   |true=>
    rw[hc]at h;simp only[cond_true]at h;simp only[Bool.and_eq_true]at hc;have h1:=Nat.eq_of_beq_eq_true hc.1;have h2:=Nat.le_of_ble_eq_true hc.2;have hs:v.cells.size=sz:=by grind [cellsL_eq]
    unfold Instr.fill;simp only[hp];rw[if_neg (by grind)];have hf:(v.cells.zipIdx.foldl (fun cs x=>cs.setIfInBounds (off+x.snd) x.fst) cs.toArray)=(setAll cs off (cellsL v)).toArray:=by
     rw[cellsL_eq,show off=off+0 from rfl,←foldl_setAll off (cellsL v) 0 cs];simp
    rw[hf];exact fill_eq place r _ cs' h
def fillL(pl:List (Nat×Nat)):List Value→List (Nat×Value)→Option (List Value):=fillP (fun i=>pl[i]?)
def PL(P:Program)(t:TypeId)(zero:List Value)(pl:List (Nat×Nat)):Prop:=(∃it,P.info? t=some it∧it.zero=some (.agg zero.toArray))∧∃fs,P.underlying t=some (.struct fs)∧fs.toList.mapM (fun f=>(P.info? f.type).map fun i=>(f.offset,i.size))=some pl
theorem PL.mk{P:Program}{t:TypeId}{zero:List Value}{sz by':Nat}{fs:Array Field}{pl:List (Nat×Nat)}(h:TI P t (.agg zero.toArray) sz by')(hU:P.underlying t=some (.struct fs))(hp:fs.toList.mapM (fun f=>(P.info? f.type).map fun i=>(f.offset,i.size))=some pl):PL P t zero pl:=by
 obtain⟨i,h1,h2,_,_⟩:=h;exact⟨⟨i,h1,h2⟩,fs,hU,hp⟩
theorem PL.built{P:Program}{t:TypeId}{zero:List Value}{pl:List (Nat×Nat)}(h:PL P t zero pl){ps:List (Nat×Value)}{cs:List Value}(hf:fillL pl zero ps=some cs):P.built t ps=some cs.toArray:=by
 obtain⟨⟨i,h1,h2⟩,fs,h3,h4⟩:=h;unfold Program.built;simp only[h1,h2,h3,h4];have:=fill_eq (fun i=>pl[i]?) ps zero cs hf;grind [Value.cells]
namespace Y
section
variable{P:Program}{o:Oper}{n:Nat}{E:Env}{C:World→Prop}{v:Value}
theorem move{x:Operand}(ho:o.op= .move x)(hx:ev E x=some v):Yld P o n E C v:=by
 intro a w ha _;simp[execOp,ho,ha.ev hx]
theorem assign{x:Operand}(ho:o.op= .assign x)(hx:ev E x=some v):Yld P o n E C v:=by
 intro a w ha _;simp[execOp,ho,ha.ev hx]
theorem pickT{c a b:Operand}(ho:o.op= .pick c a b)(hc:ev E c=some (.bool true))(ha:ev E a=some v):Yld P o n E C v:=by
 intro A w hA _;simp[execOp,ho,hA.ev hc,hA.ev ha,asBool]
theorem pickF{c a b:Operand}(ho:o.op= .pick c a b)(hc:ev E c=some (.bool false))(hb:ev E b=some v):Yld P o n E C v:=by
 intro A w hA _;simp[execOp,ho,hA.ev hc,hA.ev hb,asBool]
theorem and{c a b:Operand}{x y:Bool}(ho:o.op= .pick c a b)(hc:ev E c=some (.bool x))(ha:ev E a=some (gv x true (.bool y)))(hb:ev E b=some (.bool false)):Yld P o n E C (.bool (x&&y)):=by
 intro A w hA _;have ha':=hA.ev ha;cases x with
 |true=>rw[gv_yes rfl]at ha';simp[execOp,ho,hA.ev hc,ha',asBool]
 |false=>simp[execOp,ho,hA.ev hc,hA.ev hb,asBool]
theorem or{c a b:Operand}{x y:Bool}(ho:o.op= .pick c a b)(hc:ev E c=some (.bool x))(ha:ev E a=some (.bool true))(hb:ev E b=some (gv x false (.bool y))):Yld P o n E C (.bool (x||y)):=by
 intro A w hA _;have hb':=hA.ev hb;cases x with
 |true=>simp[execOp,ho,hA.ev hc,hA.ev ha,asBool]
 |false=>rw[gv_yes rfl]at hb';simp[execOp,ho,hA.ev hc,hb',asBool]
theorem not{x:Operand}{t:TypeId}{b:Bool}(ho:o.op= .unOp .not t x)(hx:ev E x=some (.bool b)):Yld P o n E C (.bool (!b)):=by
 intro a w ha _;simp[execOp,ho,ha.ev hx,Op.unary]
theorem neg{x:Operand}{t:TypeId}{k:IntKind}{a r:Int}(ho:o.op= .unOp .neg t x)(hx:ev E x=some (.int k a))(hw:k.wrap (-a)=r):Yld P o n E C (.int k r):=by
 intro A w hA _;simp[execOp,ho,hA.ev hx,Op.unary,Op.intArith,hw]
theorem eqGuard_int(op:BinOp)(t:TypeId)(x y:Operand)(k k':IntKind)(a b:Int)(w:World):(eqGuard op t x y (.int k a) (.int k' b)).run P w= .ok () w:=by
 simp_all [eqGuard]
theorem int2{op:BinOp}{x y:Operand}{t t':TypeId}{k:IntKind}{a b:Int}(ho:o.op= .binOp op t x y t')(hx:ev E x=some (.int k a))(hy:ev E y=some (.int k b))
  (hr:∀w,(binOp op t (.int k a) (.int k b)).run P w= .ok v w):Yld P o n E C v:=by
 intro A w hA _;simp only[execOp,ho,hA.ev hx,hA.ev hy,Sem.run_bind,eqGuard_int,Result.andThen_ok,hr,Sem.run_pure]
theorem add{x y:Operand}{t t':TypeId}{k:IntKind}{a b r:Int}(ho:o.op= .binOp .add t x y t')(hx:ev E x=some (.int k a))(hy:ev E y=some (.int k b))(hw:k.wrap (a+b)=r):Yld P o n E C (.int k r):=
 int2 ho hx hy fun w=>by simp[binOp,Op.intArith,hw]
theorem sub{x y:Operand}{t t':TypeId}{k:IntKind}{a b r:Int}(ho:o.op= .binOp .sub t x y t')(hx:ev E x=some (.int k a))(hy:ev E y=some (.int k b))(hw:k.wrap (a-b)=r):Yld P o n E C (.int k r):=
 int2 ho hx hy fun w=>by simp[binOp,Op.intArith,hw]
theorem mul{x y:Operand}{t t':TypeId}{k:IntKind}{a b r:Int}(ho:o.op= .binOp .mul t x y t')(hx:ev E x=some (.int k a))(hy:ev E y=some (.int k b))(hw:k.wrap (a*b)=r):Yld P o n E C (.int k r):=
 int2 ho hx hy fun w=>by simp[binOp,Op.intArith,hw]
theorem quo{x y:Operand}{t t':TypeId}{k:IntKind}{a b r:Int}(ho:o.op= .binOp .quo t x y t')(hx:ev E x=some (.int k a))(hy:ev E y=some (.int k b))(h0:b≠0)(hw:k.wrap (a.tdiv b)=r):Yld P o n E C (.int k r):=
 int2 ho hx hy fun w=>by simp[binOp,Op.intDiv,h0,hw]
theorem rem{x y:Operand}{t t':TypeId}{k:IntKind}{a b r:Int}(ho:o.op= .binOp .rem t x y t')(hx:ev E x=some (.int k a))(hy:ev E y=some (.int k b))(h0:b≠0)(hw:a.tmod b=r):Yld P o n E C (.int k r):=
 int2 ho hx hy fun w=>by simp[binOp,Op.intDiv,h0,hw]
theorem lss{x y:Operand}{t t':TypeId}{k:IntKind}{a b:Int}(ho:o.op= .binOp .lss t x y t')(hx:ev E x=some (.int k a))(hy:ev E y=some (.int k b)):Yld P o n E C (.bool (decide (a<b))):=
 int2 ho hx hy fun w=>by simp[binOp,Op.intCmp]
theorem leq{x y:Operand}{t t':TypeId}{k:IntKind}{a b:Int}(ho:o.op= .binOp .leq t x y t')(hx:ev E x=some (.int k a))(hy:ev E y=some (.int k b)):Yld P o n E C (.bool (decide (a≤b))):=
 int2 ho hx hy fun w=>by simp[binOp,Op.intCmp]
theorem gtr{x y:Operand}{t t':TypeId}{k:IntKind}{a b:Int}(ho:o.op= .binOp .gtr t x y t')(hx:ev E x=some (.int k a))(hy:ev E y=some (.int k b)):Yld P o n E C (.bool (decide (b<a))):=
 int2 ho hx hy fun w=>by simp[binOp,Op.intCmp]
theorem geq{x y:Operand}{t t':TypeId}{k:IntKind}{a b:Int}(ho:o.op= .binOp .geq t x y t')(hx:ev E x=some (.int k a))(hy:ev E y=some (.int k b)):Yld P o n E C (.bool (decide (b≤a))):=
 int2 ho hx hy fun w=>by simp[binOp,Op.intCmp]
theorem eql{x y:Operand}{t t':TypeId}{k:IntKind}{a b:Int}(ho:o.op= .binOp .eql t x y t')(hx:ev E x=some (.int k a))(hy:ev E y=some (.int k b)):Yld P o n E C (.bool (a==b)):=
 int2 ho hx hy fun w=>by simp[binOp,Op.intCmp]
theorem neq{x y:Operand}{t t':TypeId}{k:IntKind}{a b:Int}(ho:o.op= .binOp .neq t x y t')(hx:ev E x=some (.int k a))(hy:ev E y=some (.int k b)):Yld P o n E C (.bool (!(a==b))):=
 int2 ho hx hy fun w=>by simp[binOp,Op.intCmp,bne]
theorem eqlB{x y:Operand}{t t':TypeId}{a b:Bool}(ho:o.op= .binOp .eql t x y t')(hU:P.underlying t=some .bool)(hx:ev E x=some (.bool a))(hy:ev E y=some (.bool b)):Yld P o n E C (.bool (a==b)):=by
 intro A w hA _;have hg:(eqGuard .eql t x y (.bool a) (.bool b)).run P w= .ok () w:=rfl;have hr:(Op.equalIn (9999+1) t (.bool a) (.bool b)).run P w= .ok (a==b) w:=run_equalIn_bool' w 9999 t a b hU;simp[execOp,ho,hA.ev hx,hA.ev hy,hg,binOp,Op.equal,Op.maxDepth,hr]
theorem neqB{x y:Operand}{t t':TypeId}{a b:Bool}(ho:o.op= .binOp .neq t x y t')(hU:P.underlying t=some .bool)(hx:ev E x=some (.bool a))(hy:ev E y=some (.bool b)):Yld P o n E C (.bool (!(a==b))):=by
 intro A w hA _;have hg:(eqGuard .neq t x y (.bool a) (.bool b)).run P w= .ok () w:=rfl;have hr:(Op.equalIn (9999+1) t (.bool a) (.bool b)).run P w= .ok (a==b) w:=run_equalIn_bool' w 9999 t a b hU;simp[execOp,ho,hA.ev hx,hA.ev hy,hg,binOp,Op.equal,Op.maxDepth,hr]
theorem eqlS{x y:Operand}{t t':TypeId}{xs ys:Array Value}{r:Bool}(ho:o.op= .binOp .eql t x y t')(hm:P.eqGuardType P.depth t=false)(hq:∀w,(Op.equalIn 10000 t (.agg xs) (.agg ys)).run P w= .ok r w)(hx:ev E x=some (.agg xs))(hy:ev E y=some (.agg ys)):Yld P o n E C (.bool r):=by
 intro A w hA _;simp[execOp,ho,hA.ev hx,hA.ev hy,run_eqGuard_agg (hm:=hm),run_eql_struct,hq]
theorem neqS{x y:Operand}{t t':TypeId}{xs ys:Array Value}{r:Bool}(ho:o.op= .binOp .neq t x y t')(hm:P.eqGuardType P.depth t=false)(hq:∀w,(Op.equalIn 10000 t (.agg xs) (.agg ys)).run P w= .ok r w)(hx:ev E x=some (.agg xs))(hy:ev E y=some (.agg ys)):Yld P o n E C (.bool (!r)):=by
 intro A w hA _;simp[execOp,ho,hA.ev hx,hA.ev hy,run_eqGuard_agg (hm:=hm),run_neq_struct,hq]
theorem andM{x y:Operand}{t t':TypeId}{a:Int}(ho:o.op= .binOp .and t x y t')(hx:ev E x=some (.int .u64 a))(hy:ev E y=some (.int .u64 4294967295))(h:0≤a∧a≤18446744073709551615):Yld P o n E C (.int .u64 (a%4294967296)):=
 int2 ho hx hy fun w=>by
  obtain⟨m,rfl⟩:=Int.eq_ofNat_of_zero_le h.1;have e:=u64_and_nat m 4294967295 (by omega) (by omega);rw[nat_mask32]at e;simp only[binOp,ne_eq,not_true_eq_false,if_false,Op.intBits];show Result.ok (Value.int .u64 (bits .and .u64 (m:Int) 4294967295)) w=_;grind
theorem shr{x y:Operand}{t t':TypeId}{k yk:IntKind}{a c r:Int}(ho:o.op= .binOp .shr t x y t')(hx:ev E x=some (.int k a))(hy:ev E y=some (.int yk c))(h0:0≤c)(hw:a.fdiv (2 ^ min c.toNat k.bits)=r):Yld P o n E C (.int k r):=by
 intro A w hA _;have hn:¬c<0:=(by omega);simp only[execOp,ho,hA.ev hx,hA.ev hy,Sem.run_bind,eqGuard_int,Result.andThen_ok,binOp,Op.shift,hn,if_false,hw,Sem.run_pure]
theorem eqlStr{x y:Operand}{t t':TypeId}{a b:ByteArray}(ho:o.op= .binOp .eql t x y t')(hx:ev E x=some (.string a))(hy:ev E y=some (.string b)):Yld P o n E C (.bool (a==b)):=by
 intro A w hA _;have hg:(eqGuard .eql t x y (.string a) (.string b)).run P w= .ok () w:=rfl;simp[execOp,ho,hA.ev hx,hA.ev hy,hg,binOp,Op.stringOp,beq_toListBytes]
theorem neqStr{x y:Operand}{t t':TypeId}{a b:ByteArray}(ho:o.op= .binOp .neq t x y t')(hx:ev E x=some (.string a))(hy:ev E y=some (.string b)):Yld P o n E C (.bool (!(a==b))):=by
 intro A w hA _;have hg:(eqGuard .neq t x y (.string a) (.string b)).run P w= .ok () w:=rfl;simp[execOp,ho,hA.ev hx,hA.ev hy,hg,binOp,Op.stringOp,beq_toListBytes]
theorem extract{x:Operand}{i:Nat}{vs:List Value}(ho:o.op= .extract x i)(hx:ev E x=some (.tuple vs.toArray))(hv:lget vs i=some v):Yld P o n E C v:=by
 intro A w hA _;have h:vs.toArray[i]? =some v:=by grind [lget_eq]
 simp only[execOp,ho,hA.ev hx,Instr.extract,h,Sem.run_bind,Sem.run_pure,Result.andThen_ok]
theorem convInt{x:Operand}{s t:TypeId}{k k':IntKind}{a r:Int}{D:TypeDesc}(ho:o.op= .convert s t x)(hs:P.underlying s=some D)(ht:P.underlying t=some (.int k'))(hx:ev E x=some (.int k a))(hw:k'.wrap a=r):Yld P o n E C (.int k' r):=by
 intro A w hA _;simp[execOp,ho,hA.ev hx,convert,run_underlying hs,run_underlying ht,Conv.intToInt,hw]
theorem func{fn:Fn}{first captured:Array Operand}{fs cs:List Value}(ho:o.op= .makeFunc fn first captured)(hf:evs E first.toList=some fs)(hc:evs E captured.toList=some cs):Yld P o n E C (.func fn fs.toArray cs.toArray):=by
 intro A w hA _;have h1:first.map A.eval=fs.toArray:=by rw[←hA.evs hf,←List.map_toArray]
 have h2:captured.map A.eval=cs.toArray:=by rw[←hA.evs hc,←List.map_toArray]
 simp_all [execOp,Instr.makeFunc]
theorem fieldAddr{x:Operand}{t i g off:Nat}{fs:Array Field}{f:Field}{z:Value}{sz by':Nat}(ho:o.op= .fieldAddr t x i)(hU:P.underlying t=some (.struct fs))(hf:fs[i]? =some f)(hT:TI P f.type z sz by')(hz:sz≠0)
  (hx:ev E x=some (.pointer (some ⟨g,off,none⟩))):Yld P o n E C (.pointer (some ⟨g,off+f.offset,none⟩)):=by
 intro A w hA _;have h1:(fieldPlace ⟨g,off,none⟩ f).run P w= .ok ⟨g,off+f.offset,none⟩ w:=by
  simp only[fieldPlace,Sem.run_bind,hT.sizeOf,Result.andThen_ok,hz,if_false,Sem.run_pure,Addr.add];grind
 simp[execOp,ho,hA.ev hx,Instr.fieldAt,Instr.sureAddr,run_underlying hU,hf,h1]
theorem fieldAddrA{x:Operand}{t i:Nat}{ad:Addr}{fs:Array Field}{f:Field}{z:Value}{sz by':Nat}(ho:o.op= .fieldAddr t x i)(hU:P.underlying t=some (.struct fs))(hf:fs[i]? =some f)(hT:TI P f.type z sz by')(hz:sz≠0)
  (hx:ev E x=some (.pointer (some ad))):Yld P o n E C (.pointer (some (ad.add f.offset))):=by
 intro A w hA _;have h1:(fieldPlace ad f).run P w= .ok (ad.add f.offset) w:=by
  simp only[fieldPlace,Sem.run_bind,hT.sizeOf,Result.andThen_ok,hz,if_false,Sem.run_pure]
 simp[execOp,ho,hA.ev hx,Instr.fieldAt,Instr.sureAddr,run_underlying hU,hf,h1]
theorem indexArr{x y:Operand}{t e m g off:Nat}{k:IntKind}{i:Nat}{z:Value}{sz by':Nat}(ho:o.op= .indexAddr t x y)(hU:P.underlying t=some (.array m e))(hT:TI P e z sz by')(hx:ev E x=some (.pointer (some ⟨g,off,none⟩)))(hy:ev E y=some (.int k (i:Int)))(hi:i<m):
  Yld P o n E C (.pointer (some ⟨g,off+i*sz,none⟩)):=by
 intro A w hA _;have h1:(⟨g,off,none⟩:Addr).add (i*sz)=⟨g,off+i*sz,none⟩:=add_blk g off (i*sz);have h2:(0:Int)≤(i:Int)∧(i:Int)<(m:Int):=(by omega);simp[execOp,ho,hA.ev hx,hA.ev hy,Instr.indexAt,Instr.sureAddr,asIntOf,run_underlying hU,hT.sizeOf,h2,h1];omega
theorem load1{x:Operand}{t:TypeId}{D:TypeDesc}{ad:Addr}(ho:o.op= .load t x)(hU:P.underlying t=some D)(hD:aggD D=false)(hx:ev E x=some (.pointer (some ad)))(hc:∀w,C w→w.cell? ad=some v):Yld P o n E C v:=by
 intro A w hA hw;simp[execOp,ho,hA.ev hx,Instr.loadAt,Instr.sureAddr,loadVar,run_isAgg hU,hD,hc w hw]
theorem loadS{x:Operand}{t:TypeId}{D:TypeDesc}{ad:Addr}{cs:List Value}{z:Value}{by':Nat}(ho:o.op= .load t x)(hU:P.underlying t=some D)(hD:aggD D=true)(hT:TI P t z cs.length by')(hx:ev E x=some (.pointer (some ad)))
  (hc:∀w,C w→∀j u,cs[j]? =some u→w.cell? (ad.add j)=some u):Yld P o n E C (.agg cs.toArray):=by
 intro A w hA hw;have h1:=run_loadCells_list (P:=P) (w:=w) ad cs (hc w hw);simp[execOp,ho,hA.ev hx,Instr.loadAt,Instr.sureAddr,loadVar,run_isAgg hU,hD,hT.sizeOf,h1]
theorem build{t:TypeId}{parts:Array (Nat×Operand)}{cells:List Value}{ps:List (Nat×Value)}{zero:List Value}{pl:List (Nat×Nat)}(ho:o.op= .build t parts)(hPL:PL P t zero pl)(hp:evp E parts.toList=some ps)(hb:fillL pl zero ps=some cells):Yld P o n E C (.agg cells.toArray):=by
 intro A w hA _;have h2:=run_build (P:=P) w t ps.toArray cells.toArray (by simpa using hPL.built hb);have h3:(parts.map fun x=>(x.fst,A.eval x.snd))=ps.toArray:=by
  rw[←hA.evp hp,←List.map_toArray]
 simp_all [execOp]
end
end Y
theorem run_builtin{P:Program}{n:Nat}{E:Env}{a:Act}{w:World}{o:Oper}{c:Call}{b:Builtin}{args:List Value}(h:Ok n E a)(ho:o.op= .call c)(hc:c.callee= .builtin b)(ha:evs E c.args.toList=some args):
  ∃cs:Array Bool,(execOp a.eval o).run P w=(builtin b c.argTypes o.type cs args.toArray).run P w:=by
 have h1:c.args.map a.eval=args.toArray:=by rw[←h.evs ha,←List.map_toArray]
 refine⟨c.args.map fun| .const _=>true|_=>false,?_⟩;grind [execOp,resolve,Sem.run_bind,Sem.run_pure,Result.andThen_ok,invoke]
namespace Y
section
variable{P:Program}{o:Oper}{n:Nat}{E:Env}{C:World→Prop}{c:Call}
theorem maxI{k k':IntKind}{a b r:Int}(ho:o.op= .call c)(hc:c.callee= .builtin .max)(ha:evs E c.args.toList=some [.int k a,.int k' b])(hr:max a b=r):Yld P o n E C (.int k r):=by
 intro A w hA _;have:(if b>a then b else a)=r:=(by omega);obtain⟨cb,hcb⟩:=run_builtin (P:=P) (w:=w) hA ho hc ha;simp_all [builtin,Builtin.max_,Builtin.max2]
theorem minI{k k':IntKind}{a b r:Int}(ho:o.op= .call c)(hc:c.callee= .builtin .min)(ha:evs E c.args.toList=some [.int k a,.int k' b])(hr:min a b=r):Yld P o n E C (.int k r):=by
 intro A w hA _;have:(if b<a then b else a)=r:=(by omega);obtain⟨cb,hcb⟩:=run_builtin (P:=P) (w:=w) hA ho hc ha;simp_all [builtin,Builtin.min_,Builtin.min2]
theorem lenSl{A:Option Addr}{m cap t e:Nat}(ho:o.op= .call c)(hc:c.callee= .builtin .len)(ht:c.argTypes= #[t])(hU:P.underlying t=some (.slice e))(ha:evs E c.args.toList=some [.slice A m cap]):Yld P o n E C (.int .i64 (m:Int)):=by
 intro B w hB _;obtain⟨cb,hcb⟩:=run_builtin (P:=P) (w:=w) hB ho hc ha;simp_all [builtin,Builtin.len_,goInt,run_underlying]
theorem lenStr{s:ByteArray}{t:Nat}(ho:o.op= .call c)(hc:c.callee= .builtin .len)(ht:c.argTypes= #[t])(hU:P.underlying t=some .string)(ha:evs E c.args.toList=some [.string s]):Yld P o n E C (.int .i64 (s.size:Int)):=by
 intro B w hB _;obtain⟨cb,hcb⟩:=run_builtin (P:=P) (w:=w) hB ho hc ha;simp_all [builtin,Builtin.len_,goInt,run_underlying]
end
end Y
section memory
variable{P:Program}{n:Nat}{ops:Array Oper}{Q:Exit→Act→World→Prop}{E:Env}{w:World}{o:Oper}{rest:List Oper}{d:Nat}
theorem WL.box{t:TypeId}{x:Operand}{v:Value}{cs:List Value}(hd:o.dst=some d)(hn:d<n)(hg:o.guard=none)(ho:o.op= .box t x)(hx:ev E x=some v)(hv:v.cells=cs.toArray)
  (h:∀g w',g=w.heap.size→Ext w w'→Blk w' g t cs→WL P n ops Q rest ((d,.pointer (some ⟨g,0,none⟩))::E) w'):WL P n ops Q (o::rest) E w:=by
 intro a ha;have hr:(execOp a.eval o).run P w= .ok (.value (.pointer (some ⟨w.heap.size,0,none⟩))) (w.alloc (.cells cs.toArray t)):=by
  simp[execOp,ho,ha.ev hx,Instr.box,newVar,newRow,hv]
 refine wpList_plain hg fun K hK=>wp_of_run hr (hK _ _ ?_);rw[hd];exact h _ _ rfl ((Ext.refl w).alloc _) (Blk.new w t cs) _ (ha.put hn _)
theorem WL.alloc{t:TypeId}{z:Value}{cs:List Value}{sz by':Nat}(hd:o.dst=some d)(hn:d<n)(hg:o.guard=none)(ho:o.op= .alloc t)(hT:TI P t z sz by')(hv:z.cells=cs.toArray)
  (h:∀g w',g=w.heap.size→Ext w w'→Blk w' g t cs→WL P n ops Q rest ((d,.pointer (some ⟨g,0,none⟩))::E) w'):WL P n ops Q (o::rest) E w:=by
 intro a ha;have hr:(execOp a.eval o).run P w= .ok (.value (.pointer (some ⟨w.heap.size,0,none⟩))) (w.alloc (.cells cs.toArray t)):=by
  simp[execOp,ho,Instr.alloc,hT.zeroValue,newVar,newRow,hv]
 refine wpList_plain hg fun K hK=>wp_of_run hr (hK _ _ ?_);rw[hd];exact h _ _ rfl ((Ext.refl w).alloc _) (Blk.new w t cs) _ (ha.put hn _)
theorem run_storeCells{P:Program}{g:Nat}{t:TypeId}:∀(vs:List Value) (w:World) (cs:List Value) (off i:Nat),Blk w g t cs→off+i+vs.length≤cs.length→(∀v∈vs,v.oneCell'=true)→
  ∃w',(storeCells ⟨g,off,none⟩ vs i).run P w= .ok () w'∧Only g w w'∧Blk w' g t (setAll cs (off+i) vs)
 |[],w,cs,off,i,hb,_,_=>⟨w,rfl,Only.refl g w,hb⟩
 |v::r,w,cs,off,i,hb,hl,h1=>by
  simp only[List.length_cons]at hl;have hlt:off+i<cs.length:=(by omega);have had:(⟨g,off,none⟩:Addr).add i=⟨g,off+i,none⟩:=by simp_all [Addr.add,dite]
  have hs:(store (⟨g,off+i,none⟩:Addr) v).run P w= .ok () (w.setCell ⟨g,off+i,none⟩ v):=by
   have hcell:=hb.cell (List.getElem?_eq_getElem hlt);have hfr:=hb.frozen (off+i);grind [run_store,stored]
  obtain⟨w',hr,hon,hb'⟩:=run_storeCells r (w.setCell ⟨g,off+i,none⟩ v) (cs.set (off+i) v) off (i+1) (hb.set_ _ _) (by grind) (fun u hu=>h1 u (by simp[hu]));refine⟨w',?_,(Only.setCell w ⟨g,off+i,none⟩ v).trans hon,?_⟩
  ·unfold storeCells;rw[Sem.run_bind,had,hs];exact hr
  ·rw[show off+(i+1)=off+i+1 from(by omega)]at hb';exact hb'
theorem WL.store{t bt:TypeId}{x y:Operand}{g off:Nat}{v z:Value}{vs cs cs':List Value}{by':Nat}(hd:o.dst=none)(hg:o.guard=none)(ho:o.op= .store t x y)(hx:ev E x=some (.pointer (some ⟨g,off,none⟩)))(hy:ev E y=some v)(hv:v.cells=vs.toArray)
  (hT:TI P t z vs.length by') (hb:Blk w g bt cs) (hl:off+vs.length≤cs.length) (h1:(vs.all Value.oneCell')=true) (hcs:setAll cs off vs=cs')
  (h:∀w',Only g w w'→Blk w' g bt cs'→WL P n ops Q rest E w'):WL P n ops Q (o::rest) E w:=by
 intro a ha;obtain⟨w',hr,hon,hb'⟩:=run_storeCells (P:=P) vs w cs off 0 hb (by omega) (fun u hu=>List.all_eq_true.1 h1 u hu);have hs:(execOp a.eval o).run P w= .ok .skip w':=by
  simp[execOp,ho,ha.ev hx,ha.ev hy,Instr.storeAt,Instr.sureAddr,storeVar,hv,hT.sizeOf,hr]
 subst hcs;refine wpList_plain hg fun K hK=> ?_;unfold Oper.wp;rw[hs];show K (a.put o.dst undef) w';rw[hd];exact hK _ _ (h w' hon hb' _ ha)
end memory
def params:Nat→List Value→Env
 |_,[]=>[]
 |k,v::r=>(k,v)::params (k+1) r
theorem ok_params{n:Nat}(args:List Value)(hl:args.length≤n):Ok n (params 0 args) {tmps:=args.toArray++Array.replicate (n-args.toArray.size) undef,defers:=[]}:=by
 refine⟨rfl,by grind,fun t v hv=> ?_⟩;have key:∀(l:List Value) (k:Nat),look t (params k l)=some v→k≤t∧l[t-k]? =some v:=by
  intro l
  induction l with
  |nil=>intro k h;cases h
  |cons u r ih=>
   intro k h;simp only[params,look]at h;cases hb:Nat.beq k t with
   |true=>
    simp_all
   |false=>
    grind
 grind
theorem calls_of_WC{P:Program}{f:FuncId}{fn:Func}{c:Code}{n:Nat}{args:List Value}{w:World}{R:Ending→World→Prop}(hf:P.funcs[f]? =some fn)(hb:fn.body=some c)(hn:fn.ntmps=n)(hl:args.length≤n)
  (h:WC P n c (bodyPost P fn R) (params 0 args) w):Calls P f args.toArray w R:=by
 refine calls_of_wp hf hb ?_;rw[hn];exact h _ (ok_params args hl)
def resOk(P:Program)(w:World)(E:Env):List ResultVar→List Value→Prop
 |[],[]=>True
 | .tmp t::r,v::vs=>look t E=some v∧resOk P w E r vs
 | .cell t ty::r,v::vs=>(∃ad,look t E=some (.pointer (some ad))∧(loadVar ty ad).run P w= .ok v w)∧resOk P w E r vs
 |_,_=>False
def resVal:List Value→Value
 |[v]=>v
 |vs=>.tuple vs.toArray
def resOf(tmps:Array Value):ResultVar→Sem Value
 | .tmp t=>pure (tmps.getD t undef)
 | .cell p t=>do loadVar t (←asAddr (tmps.getD p undef))
theorem results_eq(fn:Func)(tmps:Array Value):results fn tmps=(do
  let vs ←fn.results.mapM (resOf tmps)
  pure (if h:vs.size=1 then vs[0]else .tuple vs)):=by
 rfl
theorem run_results{P:Program}{n:Nat}{w:World}{E:Env}{a:Act}(ha:Ok n E a){fn:Func}{rs:List ResultVar}{vs:List Value}(hr:fn.results=rs.toArray)(h:resOk P w E rs vs):(results fn a.tmps).run P w= .ok (resVal vs) w:=by
 have key:∀(rs:List ResultVar) (vs:List Value),resOk P w E rs vs→(rs.mapM (resOf a.tmps)).run P w= .ok vs w:=by
  intro rs
  induction rs with
  |nil=>intro vs h;cases vs with
   |nil=>rfl
   |cons _ _=>cases h
  |cons r rs ih=>
   intro vs h;cases vs with
   |nil=>cases r<;>cases h
   |cons v vs=>
    cases r with
    |tmp t=>
     obtain⟨h1,h2⟩:=h;have e:a.tmps.getD t undef=v:=ha.ev (x:=.tmp t) h1;have e':(resOf a.tmps (.tmp t)).run P w= .ok v w:=by grind [resOf,Sem.run_pure]
     simp only[List.mapM_cons,Sem.run_bind,e',Result.andThen_ok,ih vs h2,Sem.run_pure]
    |cell p t=>
     obtain⟨⟨ad,h1,h3⟩,h2⟩:=h;have e:a.tmps.getD p undef= .pointer (some ad):=ha.ev (x:=.tmp p) h1;have e':(resOf a.tmps (.cell p t)).run P w= .ok v w:=by grind [resOf,asAddr,Sem.run_bind,Sem.run_pure,Result.andThen_ok]
     simp only[List.mapM_cons,Sem.run_bind,e',Result.andThen_ok,ih vs h2,Sem.run_pure]
 rw[results_eq,hr];simp only[List.mapM_toArray,Sem.run_bind,Sem.run_map];rw[key rs vs h];simp only[Result.andThen_ok,Sem.run_pure]
 congr 1
 match vs with
 |[]=>rfl
 |[v]=>rfl
 |v::u::r=>rfl
theorem WK.ret{P:Program}{n:Nat}{w:World}{E:Env}{fn:Func}{R:Ending→World→Prop}{rs:List ResultVar}(vs:List Value)(hr:fn.results=rs.toArray)(h:resOk P w E rs vs)(hR:R (.returned (resVal vs)) w):WK n (bodyPost P fn R .ret) E w:=
 fun a ha=>bodyPost_ret (run_results ha hr h) ha.defers hR
theorem WK.end_{P:Program}{n:Nat}{w:World}{E:Env}{fn:Func}{R:Ending→World→Prop}{rs:List ResultVar}(vs:List Value)(hr:fn.results=rs.toArray)(h:resOk P w E rs vs)(hR:R (.returned (resVal vs)) w):WK n (bodyPost P fn R .normal) E w:=
 fun a ha=>bodyPost_end (run_results ha hr h) ha.defers hR
theorem run_loadVar_blk{P:Program}{w:World}{g:Nat}{t bt:TypeId}{D:TypeDesc}{cs:List Value}{z:Value}{by':Nat}(hU:P.underlying t=some D)(hD:aggD D=true)(hT:TI P t z cs.length by')(hb:Blk w g bt cs):(loadVar t ⟨g,0,none⟩).run P w= .ok (.agg cs.toArray) w:=by
 have h1:=run_loadCells_list (P:=P) (w:=w) ⟨g,0,none⟩ cs (fun j u hu=>by
  have:(⟨g,0,none⟩:Addr).add j=⟨g,j,none⟩:=by simp_all [Addr.add,dite]
  rw[this];exact hb.cell hu)
 simp[loadVar,run_isAgg hU,hD,hT.sizeOf,h1]
theorem run_loadVar_one{P:Program}{w:World}{t:TypeId}{D:TypeDesc}{ad:Addr}{v:Value}(hU:P.underlying t=some D)(hD:aggD D=false)(hc:w.cell? ad=some v):(loadVar t ad).run P w= .ok v w:=by
 simp_all [loadVar,run_isAgg]
theorem vi{k:IntKind}{a b:Int}(h:a=b):Value.int k a= .int k b:=by rw[h]
theorem vb{a b:Bool}(h:a=b):Value.bool a= .bool b:=by rw[h]
theorem ret1{a a':Value}(h:a=a'):Ending.returned (resVal [a])= .returned a':=by rw[h];rfl
theorem ret2{a a' b b':Value}(h:a=a')(h2:b=b'):Ending.returned (resVal [a,b])= .returned (.tuple #[a',b']):=by rw[h,h2];rfl
theorem ret4{a a' b b' c c' d d':Value}(h:a=a')(h2:b=b')(h3:c=c')(h4:d=d'):Ending.returned (resVal [a,b,c,d])= .returned (.tuple #[a',b',c',d']):=by rw[h,h2,h3,h4];rfl
section ways
variable{n:Nat}{K:Act→World→Prop}{Q:Exit→Act→World→Prop}{E:Env}{w:World}
theorem WK.then_normal(h:WK n K E w):WK n (Exit.then K Q .normal) E w:=h
theorem WK.then_ret(h:WK n (Q .ret) E w):WK n (Exit.then K Q .ret) E w:=h
theorem WK.then_exit{id:Nat}(h:WK n (Q (.exit id)) E w):WK n (Exit.then K Q (.exit id)) E w:=h
theorem WK.in_normal{id:Nat}(h:WK n (Q .normal) E w):WK n (Exit.inBlock id Q .normal) E w:=h
theorem WK.in_ret{id:Nat}(h:WK n (Q .ret) E w):WK n (Exit.inBlock id Q .ret) E w:=h
theorem WK.in_exit{id:Nat}(h:WK n (Q .normal) E w):WK n (Exit.inBlock id Q (.exit id)) E w:=fun a ha=>by
 simp only[Exit.inBlock,if_true];exact h a ha
theorem WK.in_other{id id':Nat}(hne:(id'==id)=false)(h:WK n (Q (.exit id')) E w):WK n (Exit.inBlock id Q (.exit id')) E w:=fun a ha=>by
 simp only[Exit.inBlock];rw[if_neg (by grind)];exact h a ha
end ways
end Go.Eng
namespace Go.Eng
theorem Om{p:Prop}(h:p:=by omega):p:=h
theorem Dc{p:Prop}(h:p:=by decide):p:=h
theorem Wo{x:Int}(h: -9223372036854775808≤x∧x≤9223372036854775807:=by first|omega|(dsimp only;omega)):IntKind.i64.wrap x=x:=wrap_i64 h
theorem Wu{x:Int}(h:0≤x∧x≤18446744073709551615:=by first|omega|(dsimp only;omega)):IntKind.u64.wrap x=x:=wrap_u64 h
theorem Nl{n:Nat}:n≤n:=Nat.le_refl n
theorem Il{n:Int}:n≤n:=Int.le_refl n
theorem Sx{p:Prop}(h:p:=by repeat (first|exact trivial|refine⟨rfl,?_⟩)):p:=h
end Go.Eng
namespace Go.Eng
open Go Go.RowKit
def maskOf:List Nat→Nat
 |[]=>0
 |t::r=>(1 <<< t) ||| maskOf r
theorem mask_mem:∀{l:List Nat} {t:Nat},t∈l→(maskOf l).testBit t=true
 |u::r,t,h=>by
  simp only[maskOf,Nat.testBit_or,Bool.or_eq_true];rcases List.mem_cons.1 h with h|h
  ·grind
  ·exact .inr (mask_mem h)
structure Row where
 dst:Option Nat
 seen:Nat
 after:Nat
def rowOf(ops:Array Oper)(o:Oper):Row:=⟨o.dst,maskOf (o.looksAt ops),maskOf (o.after.toList.filterMap fun e=>if Region.binds .any e then some e.on else none)⟩
def dstFree(x y:Row):Bool:=match x.dst with
 |none=>true
 |some d=> !y.seen.testBit d&&(match y.dst with|none=>true|some d'=> !Nat.beq d d')
def seenFree(x y:Row):Bool:=match y.dst with
 |none=>true
 |some d=> !x.seen.testBit d
def pairB(x:Row)(k:Nat)(y:Row):Bool:=y.after.testBit k||(dstFree x y&&seenFree x y)
def pairsB(x:Row)(k:Nat):List Row→Bool
 |[]=>true
 |y::r=>pairB x k y&&pairsB x k r
def chkB:Nat→List Row→Bool
 |_,[]=>true
 |k,x::r=>Nat.blt x.after (1 <<< k)&&pairsB x k r&&chkB (k+1) r
def selB:List Oper→Bool
 |[]=>true
 |o::r=>(match o.op with| .select .. =>false|_=>true)&&selB r
def quickB(l:List Oper):Bool:=selB l&&chkB 0 (l.map (rowOf l.toArray))
theorem pairsB_get{x:Row}{k:Nat}:∀{l:List Row} {i:Nat} {y:Row},pairsB x k l=true→l[i]? =some y→pairB x k y=true
 |z::r,0,y,h,hy=>by
  simp_all [pairsB,Bool.and_eq_true]
 |z::r,i+1,y,h,hy=>by
  simp only[pairsB,Bool.and_eq_true]at h;exact pairsB_get h.2 (by simpa using hy)
theorem chkB_get:∀{l:List Row} {b k:Nat} {x:Row},chkB b l=true→l[k]? =some x→Nat.blt x.after (1 <<< (b+k))=true∧∀j y,k<j→l[j]? =some y→pairB x (b+k) y=true
 |z::r,b,0,x,h,hx=>by
  simp only[chkB,Bool.and_eq_true]at h;simp at hx;subst hx;refine⟨h.1.1,fun j y hj hy=> ?_⟩;obtain⟨i,rfl⟩:∃i,j=i+1:=⟨j-1,Om⟩;grind [pairsB_get]
 |z::r,b,k+1,x,h,hx=>by
  simp only[chkB,Bool.and_eq_true]at h;obtain⟨h1,h2⟩:=chkB_get (b:=b+1) (k:=k) h.2 (by simpa using hx);grind
theorem mask_lt{l:List Nat}{k t:Nat}(h:Nat.blt (maskOf l) (1 <<< k)=true)(ht:t∈l):t<k:=by
 have h1:=mask_mem ht;have h2:maskOf l<2 ^ k:=by simp_all [blt,Nat.one_shiftLeft]
 grind [Nat.lt_or_ge,maskOf,Nat.lt_of_lt_of_le,Nat.pow_le_pow_right,Nat.testBit_lt_two_pow]
theorem apart_of_pair{ops:Array Oper}{oi oj:Oper}(h:(dstFree (rowOf ops oi) (rowOf ops oj)&&seenFree (rowOf ops oi) (rowOf ops oj))=true):oi.apart ops oj=true:=by
 simp only[Bool.and_eq_true]at h;obtain⟨h1,h2⟩:=h;unfold Oper.apart;simp only[Bool.and_eq_true];refine⟨?_,?_⟩
 ·unfold dstFree rowOf at h1;dsimp only at h1;cases hd:oi.dst with
  |none=>rfl
  |some d=>
   rw[hd]at h1;simp only[Bool.and_eq_true,Bool.not_eq_true']at h1;simp only[Bool.and_eq_true,Bool.not_eq_true'];refine⟨?_,?_⟩
   ·grind [mask_mem,List.contains_iff_mem]
   ·cases hd':oj.dst with
    |none=>rfl
    |some d'=>
     rw[hd']at h1;simp only[Bool.not_eq_true']at h1;have:d≠d':=by
      grind [Nat.beq_refl]
     grind
 ·unfold seenFree rowOf at h2;dsimp only at h2;cases hd:oj.dst with
  |none=>rfl
  |some d=>
   grind [Bool.not_eq_true',mask_mem,List.contains_iff_mem]
def First(n k:Nat)(listed:Array Bool):Prop:=listed.size=n∧∀j,j<n→listed[j]? =some (decide (j<k))
theorem First.set{n k:Nat}{listed:Array Bool}(h:First n k listed):First n (k+1) (listed.setIfInBounds k true):=by
 refine⟨by simpa using h.1,fun j hj=> ?_⟩;by_cases hjk:k=j
 ·subst hjk;simp[h.1,hj]
 ·rw[Array.getElem?_setIfInBounds_ne hjk,h.2 j hj]
  congr 1
  grind
theorem First.zero(n:Nat):First n 0 (Array.replicate n false):=⟨by simp,fun j hj=>by simp[hj]⟩
theorem First.getD{n k:Nat}{listed:Array Bool}(h:First n k listed)(b:Bool){j:Nat}(hj:j<n):listed.getD j b=decide (j<k):=by
 rw[Array.getD_eq_getD_getElem?,h.2 j hj];rfl
theorem selB_ok:∀{l:List Oper},selB l=true→Region.noSelect l.toArray=true
 |[],_=>by simp[Region.noSelect]
 |o::r,h=>by
  simp only[selB,Bool.and_eq_true]at h;have:=selB_ok h.2;unfold Region.noSelect at this ⊢;grind
theorem lexFrom_of{l:List Oper}(hc:chkB 0 (l.map (rowOf l.toArray))=true):∀(f k:Nat) (listed:Array Bool),f+k=l.length→First l.length k listed→Region.lexFrom .any l.toArray f k listed=true
 |0,k,listed,hf,hF=>by
  simp only[Region.lexFrom,List.isEmpty_iff];apply List.eq_nil_iff_forall_not_mem.2;intro j hj;obtain⟨h1,o,ho,_⟩:=mem_ready.1 hj;have hlt:j<l.length:=by grind
  rw[hF.getD true hlt]at h1;grind
 |f+1,k,listed,hf,hF=>by
  have hk:k<l.length:=Om;have hok:l.toArray[k]? =some l[k]:=by simp[hk]
  have hrow:(l.map (rowOf l.toArray))[k]? =some (rowOf l.toArray l[k]):=by simp[hk]
  obtain⟨h1,h2⟩:=chkB_get hc hrow;simp only[Nat.zero_add]at h1 h2;simp only[Region.lexFrom,Bool.and_eq_true];refine⟨⟨?_,?_⟩,lexFrom_of hc f (k+1) _ Om hF.set⟩
  ·rw[List.contains_iff_mem,mem_ready];refine⟨by rw[hF.getD true hk];simp,l[k],hok,fun e he hb=> ?_⟩;have hlt:e.on<k:=mask_lt h1 (List.mem_filterMap.2 ⟨e,by grind,by simp[hb]⟩);rw[hF.getD false Om];simp[hlt]
  ·unfold Region.free;rw[hok];simp only[List.all_eq_true,List.mem_range];intro j hj;have hj':j<l.length:=Om;have hoj:l.toArray[j]? =some l[j]:=by simp[hj']
   rw[hoj,hF.getD true hj'];simp only[Bool.or_eq_true,beq_iff_eq,decide_eq_true_eq];by_cases hjk:j=k
   ·omega
   by_cases hjl:j<k
   ·omega
   ·right
    have hp:=h2 j (rowOf l.toArray l[j]) Om (by simp[hj']);unfold pairB at hp;simp only[Bool.or_eq_true]at hp;rcases hp with hp|hp
    ·left
     have hp':(maskOf (l[j].after.toList.filterMap fun e=>if Region.binds .any e then some e.on else none)).testBit k=true:=hp;have mem_of:∀(q:List Nat),(maskOf q).testBit k=true→k∈q:=by
      intro q
      induction q with
      |nil=>grind [maskOf]
      |cons u r ih=>
       intro h;simp only[maskOf,Nat.testBit_or,Bool.or_eq_true,Nat.one_shiftLeft]at h;grind
     obtain⟨e,he,h3⟩:=List.mem_filterMap.1 (mem_of _ hp');rw[Array.any_eq_true'];grind
    grind [apart_of_pair]
theorem lexB_of_quick{l:List Oper}(h:quickB l=true):Region.lexB .any l.toArray=true:=by
 simp_all [quickB,Bool.and_eq_true,Region.lexB,And.intro,selB_ok,lexFrom_of,First.zero]
theorem ready_prefix{l:List Oper}{n:Nat}{listed listed1:Array Bool}(hn:n≤l.length)(hs:listed1.size=n)(hl:∀i,i<n→listed1[i]? =listed[i]?)(hedge:∀i o,i<n→l[i]? =some o→∀e∈o.after,Region.binds .any e=true→e.on<n){i:Nat}(hi:i<n):
  i∈Region.ready .any l.toArray listed↔i∈Region.ready .any (l.take n).toArray listed1:=by
 have hg:∀j,j<n→∀b,listed.getD j b=listed1.getD j b:=fun j hj b=>by rw[Array.getD_eq_getD_getElem?,Array.getD_eq_getD_getElem?,hl j hj]
 have ho:l.toArray[i]? =(l.take n).toArray[i]? :=by grind
 rw[mem_ready,mem_ready,hg i hi,ho];constructor
 ·rintro⟨h1,o,h2,h3⟩;refine⟨h1,o,h2,fun e he hb=> ?_⟩;have hlo:l[i]? =some o:=by grind
  rw[←hg _ (hedge i o hi hlo e he hb)];grind
 ·rintro⟨h1,o,h2,h3⟩;refine⟨h1,o,h2,fun e he hb=> ?_⟩;have hlo:l[i]? =some o:=by grind
  rw[hg _ (hedge i o hi hlo e he hb)];grind
theorem wpAny_more{P:Program}{ops:Array Oper}{Q:Exit→Act→World→Prop}:∀(f:Nat) (listed:Array Bool) (a:Act) (w:World),wpAny P .any ops Q f listed a w→wpAny P .any ops Q (f+1) listed a w
 |0,listed,a,w,h=>⟨fun _=>h.2,fun i hi=>by rw[h.1]at hi;cases hi⟩
 |f+1,listed,a,w,h=>⟨h.1,fun i hi=>wpOp_mono (fun a' w' h'=>wpAny_more f _ a' w' h') (h.2 i hi)⟩
theorem wpAny_add{P:Program}{ops:Array Oper}{Q:Exit→Act→World→Prop}(g:Nat):∀(k:Nat) (listed:Array Bool) (a:Act) (w:World),wpAny P .any ops Q g listed a w→wpAny P .any ops Q (k+g) listed a w
 |0,_,_,_,h=>by grind
 |k+1,_,_,_,h=>by rw[show k+1+g=k+g+1 from Om];exact wpAny_more _ _ _ _ (wpAny_add g k _ _ _ h)
theorem all_listed{l:List Oper}{n:Nat}{listed1:Array Bool}(hs:listed1.size=n)(hn:n≤l.length)(hedge:∀i o,i<n→l[i]? =some o→∀e∈o.after,Region.binds .any e=true→e.on<i)(h:Region.ready .any (l.take n).toArray listed1=[]):∀i,i<n→listed1[i]? =some true:=by
 intro i
 induction i using Nat.strongRecOn with
 |_ i ih=>
  intro hi;have hlt:i<listed1.size:=Om;have hsome:listed1[i]? =some (listed1[i]):=Array.getElem?_eq_getElem hlt;cases hb:listed1[i]with
  |true=>rw[hsome,hb]
  |false=>
   exfalso;have hil:i<l.length:=Om;have:i∈Region.ready .any (l.take n).toArray listed1:=by
    rw[mem_ready];refine⟨by simp_all,l[i],by grind,fun e he hbd=> ?_⟩;have h1:=hedge i l[i] hi (List.getElem?_eq_getElem hil) e he hbd;rw[Array.getD_eq_getD_getElem?,ih e.on h1 Om];rfl
   grind
theorem headQ{P:Program}{l:List Oper}{n g:Nat}{C:World→Prop}{Q1:Act→Prop}{Q:Exit→Act→World→Prop}(hn:n<l.length)(hsink:Region.sinkB .any l.toArray n=true)(hchain:Region.chainB .any l.toArray n=true)
  (hedge:∀i o,i<n→l[i]? =some o→(∀e∈o.after,Region.binds .any e=true→e.on<i)∧∀j want,o.guard=some (j,want)→j<n)
  (htail:∀(listed':Array Bool) (a':Act) (w':World),HeadInv .any l.toArray n listed'→(∀i,i<n→listed'[i]? =some true)→C w'→Q1 a'→wpAny P .any l.toArray Q g listed' a' w'):
  ∀(f:Nat) (listed listed1:Array Bool) (a:Act) (w:World),HeadInv .any l.toArray n listed→listed1.size=n→(∀i,i<n→listed1[i]? =listed[i]?)→C w→wpAnyQ P .any (l.take n).toArray C Q1 f listed1 a→wpAny P .any l.toArray Q (f+g) listed a w
 |0,listed,listed1,a,w,inv,hs,hl,hC,h=>by
  rw[Nat.zero_add];have hall:=all_listed hs Om (fun i o hi ho=>(hedge i o hi ho).1) h.1;exact htail listed a w inv (fun i hi=>by grind) hC h.2
 |f+1,listed,listed1,a,w,inv,hs,hl,hC,h=>by
  have hedge':∀i o,i<n→l[i]? =some o→∀e∈o.after,Region.binds .any e=true→e.on<n:=fun i o hi ho e he hb=>Nat.lt_trans ((hedge i o hi ho).1 e he hb) hi;by_cases hr:Region.ready .any (l.take n).toArray listed1=[]
  ·have hall:=all_listed hs Om (fun i o hi ho=>(hedge i o hi ho).1) hr;have:=htail listed a w inv (fun i hi=>by grind) hC (h.1 hr);grind [wpAny_add]
  ·obtain⟨i0,hi0⟩:=List.exists_mem_of_ne_nil _ hr;have hi0n:i0<n:=by
    grind [mem_ready,Array.getElem?_eq_some_iff]
   have hi0r:=(ready_prefix Om hs hl hedge' hi0n).2 hi0;rw[show f+1+g=f+g+1 from Om];refine⟨fun h0=>(by grind),fun i hi=> ?_⟩;have hin:i<n:=by
    rcases Nat.lt_or_ge i n with h1|h1
    ·exact h1
    ·exact absurd hi (tail_waits hsink hchain Om inv _ i0 rfl hi0n (mem_ready.1 hi0r).1 i h1)
   have hi1:=(ready_prefix Om hs hl hedge' hin).1 hi;have hq:=h.2 i hi1;have hset:HeadInv .any l.toArray n (listed.setIfInBounds i true):=inv.set hi hin;have hnext:∀a' w',C w'→wpAnyQ P .any (l.take n).toArray C Q1 f (listed1.setIfInBounds i true) a'→wpAny P .any l.toArray Q (f+g) (listed.setIfInBounds i true) a' w':=fun a' w' hC' h'=>
    headQ hn hsink hchain hedge htail f _ _ a' w' hset (by grind) (fun j hj=>by
     grind) hC' h'
   have hil:i<l.length:=Om;have ho:l.toArray[i]? =some l[i]:=by simp[hil]
   have ho1:(l.take n).toArray[i]? =some l[i]:=by grind
   have hy:yielded l.toArray a.tmps=yielded l.toArray a.tmps:=rfl;have hw:Region.wanted l[i] (yielded (l.take n).toArray a.tmps)=Region.wanted l[i] (yielded l.toArray a.tmps):=by
    unfold Region.wanted;cases hg:l[i].guard with
    |none=>rfl
    |some p=>
     obtain⟨j,want⟩:=p;have hj:=(hedge i l[i] hin (List.getElem?_eq_getElem hil)).2 j want hg;have:(l.take n).toArray[j]? =l.toArray[j]? :=by grind
     grind [yielded]
   unfold qOp at hq;rw[ho1]at hq;dsimp only at hq;rw[hw]at hq;unfold wpOp;rw[ho];dsimp only;split
   ·rename_i hwt;rw[if_pos hwt]at hq;grind [Oper.wp_of_quiet]
   grind
def headB(l:List Oper)(n:Nat):Bool:=(l.take n).all fun o=>match o.guard with
 |none=>true
 |some (j,_)=>Nat.blt j n
def tailListed(n g:Nat):Array Bool:=Array.replicate n true++Array.replicate g false
def tailB(l:List Oper)(n:Nat):Bool:=
 Nat.blt n l.length&&quickB (l.take n)&&headB l n&&Region.sinkB .any l.toArray n&&Region.chainB .any l.toArray n&&Region.seqB .any l.toArray (l.length-n) n (tailListed n (l.length-n))
theorem edges_of_quick{l:List Oper}{n:Nat}(hq:chkB 0 ((l.take n).map (rowOf (l.take n).toArray))=true){i:Nat}{o:Oper}(hi:i<n)(ho:l[i]? =some o):∀e∈o.after,Region.binds .any e=true→e.on<i:=by
 intro e he hb;have hrow:((l.take n).map (rowOf (l.take n).toArray))[i]? =some (rowOf (l.take n).toArray o):=by grind
 have h1:=(chkB_get hq hrow).1;rw[Nat.zero_add]at h1;exact mask_lt h1 (List.mem_filterMap.2 ⟨e,by grind,by simp[hb]⟩)
theorem any_region_tail{P:Program}{n:Nat}{l:List Oper}{Q:Exit→Act→World→Prop}{a:Act}{w:World}{C:World→Prop}(hB:tailB l n=true)(hC:C {w with drawn:=w.drawn+1})
  (h:wpQuiet P (l.take n).toArray C (fun a'=>∀w',C w'→wpList P l.toArray Q (l.drop n) a' w') (l.take n) a):wpAny P .any l.toArray Q l.toArray.size (Array.replicate l.toArray.size false) a {w with drawn:=w.drawn+1}:=by
 simp only[tailB,Bool.and_eq_true]at hB;obtain⟨⟨⟨⟨⟨hn,hq⟩,hh⟩,hs⟩,hc⟩,hseq⟩:=hB;have hn:=blt hn;have hq':=hq;simp only[quickB,Bool.and_eq_true]at hq';have hlb:=lexB_of_quick hq;simp only[Region.lexB,Bool.and_eq_true]at hlb;have hlen:(l.take n).length=n:=by grind
 have hQ:=wpAnyQ_lex (C:=C) (md:=.any) hlb.1 (l.take n) 0 (Array.replicate (l.take n).toArray.size false) a (by simp) (by grind) h;have inv0:HeadInv .any l.toArray n (Array.replicate l.toArray.size false):=
  ⟨by simp,fun j oj _ hl=>(by grind [getD_replicate_false]),fun t _ ht=>getD_in (by grind) (getD_replicate_false _ _)⟩
 have:=headQ (P:=P) (l:=l) (n:=n) (g:=l.length-n) (C:=C) (Q1:=fun a'=>∀w',C w'→wpList P l.toArray Q (l.drop n) a' w') (Q:=Q) hn hs hc
  (fun i o hi ho=>⟨edges_of_quick hq'.2 hi ho,fun j want hg=>by
   have hm:o∈l.take n:=List.mem_iff_getElem?.2 ⟨i,by grind⟩;have:=List.all_eq_true.1 hh o hm;simp_all⟩)
  (fun listed' a' w' inv hall hC' h1=>by
   have he:listed'=tailListed n (l.length-n):=by
    apply Array.ext_getElem?;intro j;unfold tailListed;by_cases hj:j<n
    ·rw[hall j hj,Array.getElem?_append_left (by grind),Array.getElem?_replicate,if_pos hj]
    ·by_cases hj2:j<l.length
     ·have h3:=inv.tail j Om Om;have h4:j<listed'.size:=by grind
      rw[Array.getD_eq_getD_getElem?,Array.getElem?_eq_getElem h4]at h3;grind
     ·rw[Array.getElem?_eq_none (by rw[inv.size];grind),Array.getElem?_eq_none (by grind)]
   subst he;have:=wpAny_of_seq (P:=P) (md:=.any) (ops:=l.toArray) (Q':=Q) (l.drop n) n (tailListed n (l.length-n)) a' w' (fun j=>by grind) (by grind) (h1 w' hC');grind)
  (l.take n).length (Array.replicate l.toArray.size false) (Array.replicate (l.take n).toArray.size false) a {w with drawn:=w.drawn+1} inv0 (by grind)
  (fun i hi=>by
   grind) hC Om
 grind
theorem wp_region_tail{P:Program}{id n:Nat}{l:List Oper}{Q:Exit→Act→World→Prop}{a:Act}{w:World}{C:World→Prop}(hm:P.follows .mixedOrders=true)(hB:tailB l n=true)(hC:C {w with drawn:=w.drawn+1})
  (h:wpQuiet P (l.take n).toArray C (fun a'=>∀w',C w'→wpList P l.toArray Q (l.drop n) a' w') (l.take n) a):(Code.region id l.toArray true).wp P Q a w:=
 wp_region_any hm (any_region_tail hB hC h)
theorem WC.regionDq{P:Program}{n:Nat}{Q:Exit→Act→World→Prop}{E:Env}{w:World}{id:Nat}{l l':List Oper}(hm:P.follows .mixedOrders=true)(hB:quickB l=true)(hl:l=l')
  (h:WQ P n l.toArray (Ext w) (fun a'=>∀w',Ext w w'→Q .normal a' w') l' E):WC P n (.region id l.toArray true) Q E w:=
 WC.regionD hm (lexB_of_quick hB) hl h
theorem WC.regionT{P:Program}{n:Nat}{Q:Exit→Act→World→Prop}{E:Env}{w:World}{id:Nat}{l:List Oper}(m:Nat)(hm:P.follows .mixedOrders=true)(hB:tailB l m=true)
  (h:WQ P n (l.take m).toArray (Ext w) (fun a'=>∀w',Ext w w'→wpList P l.toArray Q (l.drop m) a' w') (l.take m) E):WC P n (.region id l.toArray true) Q E w:=
 fun a ha=>wp_region_tail hm hB ((Ext.refl w).drawn (Nat.le_succ _)) (h a ha)
theorem WQ.tail{P:Program}{n:Nat}{ops ops1:Array Oper}{Q:Exit→Act→World→Prop}{E:Env}{w:World}{r:List Oper}(h:∀w',Ext w w'→WL P n ops Q r E w'):WQ P n ops1 (Ext w) (fun a'=>∀w',Ext w w'→wpList P ops Q r a' w') [] E:=
 WQ.nil fun a ha w' hw=>h w' hw a ha
end Go.Eng
