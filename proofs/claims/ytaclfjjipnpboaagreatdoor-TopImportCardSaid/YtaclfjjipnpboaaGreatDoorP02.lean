/- Part 2 of the proof. Conditions: what each theorem states. -/
import Derived.Test.YtaclfjjipnpboaaGreatDoorP01
import Derived.Maps.AppendAt
import Derived.Laws.MakeOwn
import Derived.Laws.Slices
import Derived.WideKeyRuns
set_option linter.all false
set_option maxHeartbeats 4000000
set_option maxRecDepth 4000
namespace Go.Eng
open Go Go.RowKit
structure Gr(w w':World)(row:Option Nat):Prop extends World.grownBy w w' row where
 dr:Dle w.drawn w'.drawn
theorem Gr.refl(w:World)(row:Option Nat):Gr w w row:=⟨World.grownBy.refl w row,Dle.of Nl⟩
section
variable{S:List Nat}{a w w':World}{b:Nat}
theorem Ext.grown{row:Option Nat}(h:Ext a w)(x:Gr w w' row)(hb:∀b,row=some b→a.heap.size≤b):Ext a w':=
 ⟨⟨x.os.trans h.os,x.tape.trans h.tape,x.output.trans h.output,Nat.le_trans h.size x.size,fun k hk=>by
  have hne:some k≠row:=by
   grind
  exact(x.block k (Nat.lt_of_lt_of_le hk h.size) hne).trans (h.block k hk)⟩,Dle.trans h.dr x.dr⟩
end
def addrOf(A:Option Addr):Addr:=A.getD ⟨0,0,none⟩
def elemAt(A:Option Addr)(sz k off:Nat):Addr:=(addrOf A).add (k*sz+off)
theorem add_assoc_addr(a:Addr)(i j:Nat):(a.add i).add j=a.add (i+j):=by
 unfold Addr.add;grind
theorem block_add(a:Addr)(n:Nat):(a.add n).block=a.block:=by grind [Addr.add]
def RdL{α:Type}(w:World)(lo hi:Nat)(A:Option Addr)(f:α→List Value)(sz:Nat)(l:List α):Prop:=
 ∀i x,l[i]? =some x→∃ad,A=some ad∧lo≤ad.block∧ad.block<hi∧∀j u,(f x)[j]? =some u→w.cell? (ad.add (i*sz+j))=some u
section
variable{α:Type}{w w':World}{lo hi:Nat}{A:Option Addr}{f:α→List Value}{sz:Nat}{l:List α}
theorem RdL.none_:RdL w lo hi A f sz []:=fun i x h=>by simp at h
theorem RdL.cell(h:RdL w lo hi A f sz l){k:Nat}{x:α}(hx:l[k]? =some x){j:Nat}{u:Value}(hu:(f x)[j]? =some u):w.cell? (elemAt A sz k j)=some u:=by
 obtain⟨ad,rfl,_,_,hc⟩:=h k x hx;exact hc j u hu
theorem RdL.ext(h:RdL w lo hi A f sz l)(x:Ext w w'):RdL w' lo hi A f sz l:=fun i y hy=>by
 obtain⟨ad,e,h1,h2,hc⟩:=h i y hy;exact⟨ad,e,h1,h2,fun j u hu=>x.cell_some (hc j u hu)⟩
theorem RdL.more{lo' hi':Nat}(h:RdL w lo hi A f sz l)(h1:lo'≤lo)(h2:hi≤hi'):RdL w lo' hi' A f sz l:=fun i y hy=>by
 obtain⟨ad,e,h3,h4,hc⟩:=h i y hy;grind
theorem RdL.take(h:RdL w lo hi A f sz l)(n:Nat):RdL w lo hi A f sz (l.take n):=fun i y hy=>by
 refine h i y ?_;grind
theorem RdL.drop(h:RdL w lo hi A f sz l)(n cap:Nat)(hc:l.length≤cap)(hn:n≤l.length):RdL w lo hi (if cap=n then A else A.map (·.add (n*sz))) f sz (l.drop n):=fun i y hy=>by
 rw[List.getElem?_drop]at hy;have hlt:n+i<l.length:=(List.getElem?_eq_some_iff.1 hy).1;rw[if_neg Om];obtain⟨ad,rfl,h1,h2,hcell⟩:=h _ y hy;refine⟨ad.add (n*sz),rfl,by grind [block_add],by grind [block_add],fun j u hu=> ?_⟩;grind [add_assoc_addr,Nat.add_mul]
theorem RdL.at_eq(h:RdL w lo hi A f sz l){k:Nat}{x:α}(hx:l[k]? =some x){j:Nat}{u:Value}(hu:(f x)[j]? =some u):∀w',w'=w→w'.cell? (elemAt A sz k j)=some u:=by rintro _ rfl;exact h.cell hx hu
theorem RdL.at_ext(h:RdL w lo hi A f sz l){k:Nat}{x:α}(hx:l[k]? =some x){j:Nat}{u:Value}(hu:(f x)[j]? =some u):∀w',Ext w w'→w'.cell? (elemAt A sz k j)=some u:=fun _ e=>(h.ext e).cell hx hu
theorem RdL.part_eq(h:RdL w lo hi A f sz l){k:Nat}{x:α}(hx:l[k]? =some x){off:Nat}{sub:List Value}(hs:((f x).drop off).take sub.length=sub):∀w',w'=w→∀j u,sub[j]? =some u→w'.cell? ((elemAt A sz k off).add j)=some u:=by
 rintro _ rfl j u hu;have hj:j<sub.length:=(List.getElem?_eq_some_iff.1 hu).1;unfold elemAt;rw[add_assoc_addr,Nat.add_assoc];refine h.cell hx ?_;grind
theorem RdL.part_ext(h:RdL w lo hi A f sz l){k:Nat}{x:α}(hx:l[k]? =some x){off:Nat}{sub:List Value}(hs:((f x).drop off).take sub.length=sub):∀w',Ext w w'→∀j u,sub[j]? =some u→w'.cell? ((elemAt A sz k off).add j)=some u:=fun _ e=>(h.ext e).part_eq hx hs _ rfl
end
def OwnL{α:Type}(w:World)(base:Nat)(e:TypeId)(f:α→List Value)(sz:Nat)(v:Value)(l:List α):Prop:=
 w.ownsRow base e sz v l.length (l.flatMap f)
section
variable{α:Type}{w w':World}{base:Nat}{e:TypeId}{f:α→List Value}{sz:Nat}{v:Value}{l:List α}
theorem OwnL.nil_:OwnL w base e f sz (.slice none 0 0) ([]:List α):=⟨by simp,.inl ⟨rfl,rfl⟩⟩
theorem OwnL.lt(h:OwnL w base e f sz v l){g:Nat}(hg:v.ownBlock=some g):base≤g∧g<w.heap.size:=by
 rcases h.2 with⟨rfl,_⟩|⟨g',cap,cur,rfl,h1,h2,_⟩
 ·simp[Value.ownBlock]at hg
 ·simp[Value.ownBlock]at hg;grind
theorem OwnL.move(h:OwnL w base e f sz v l)(hk:∀g,v.ownBlock=some g→w'.heap[g]? =w.heap[g]?):OwnL w' base e f sz v l:=by
 refine⟨h.1,?_⟩;rcases h.2 with h1|⟨g,cap,cur,rfl,h1,h2,h3⟩
 ·grind
 ·exact .inr ⟨g,cap,cur,rfl,h1,(hk g rfl).trans h2,h3⟩
theorem OwnL.base_le{base':Nat}(h:OwnL w base e f sz v l)(hb:base'≤base):OwnL w base' e f sz v l:=by
 refine⟨h.1,?_⟩;rcases h.2 with h1|⟨g,cap,cur,rfl,h1,h2⟩
 ·grind
 ·exact .inr ⟨g,cap,cur,rfl,Om,h2⟩
theorem OwnL.form(h:OwnL w base e f sz v l):∃A cap,v= .slice A l.length cap∧l.length≤cap∧cap≤maxLen:=by
 rcases h.2 with⟨rfl,h0⟩|⟨g,cap,cur,rfl,_,_,h3,h4,_⟩<;>grind
theorem getElem?_flatMap{α:Type}{f:α→List Value}{sz:Nat}(hf:∀x,(f x).length=sz):∀{l:List α} {i j:Nat} {x:α} {u:Value},l[i]? =some x→(f x)[j]? =some u→(l.flatMap f)[i*sz+j]? =some u
 |y::r,0,j,x,u,hx,hu=>by
  grind
 |y::r,i+1,j,x,u,hx,hu=>by
  have:=getElem?_flatMap hf (l:=r) (i:=i) (by grind) hu;grind
theorem OwnL.rd{A:Option Addr}{n cap:Nat}(h:OwnL w base e f sz (.slice A n cap) l)(hf:∀x,(f x).length=sz){hi:Nat}(hh:w.heap.size≤hi):RdL w base hi A f sz l:=fun i x hx=>by
 have hlen:i<l.length:=(List.getElem?_eq_some_iff.1 hx).1;rcases h.2 with⟨hv,h0⟩|⟨g,cap',cur,hv,h1,h2,h3,h4,h5,h6⟩
 ·omega
 ·injection hv with hA
  subst hA;have hg:=(h.lt (g:=g) rfl).2;refine⟨⟨g,0,none⟩,rfl,h1,by grind,fun j u hu=> ?_⟩;have hflat:=getElem?_flatMap hf hx hu;rw[←h6]at hflat;have hlt:i*sz+j<(cur.toList.take (l.length*sz)).length:=(List.getElem?_eq_some_iff.1 hflat).1;rw[List.getElem?_take_of_lt (by grind)]at hflat;rw[add_blk,Nat.zero_add,cell_of_row w g _ cur e (0,0) h2];grind
end
namespace Y
section
variable{P:Program}{o:Oper}{n:Nat}{E:Env}{C:World→Prop}{v:Value}
theorem indexSl{x y:Operand}{t e:TypeId}{A:Option Addr}{len cap:Nat}{k:IntKind}{i:Int}{z:Value}{sz by':Nat}(j:Nat)(ho:o.op= .indexAddr t x y)(hU:P.underlying t=some (.slice e))(hT:TI P e z sz by')(hx:ev E x=some (.slice A len cap))(hy:ev E y=some (.int k i))(hj:i=(j:Int))(hl:j<len)(hA:A.isSome=true):
  Yld P o n E C (.pointer (some (elemAt A sz j 0))):=by
 intro B w hB _;obtain⟨ad,rfl⟩:=Option.isSome_iff_exists.1 hA;subst hj;have h2:(0:Int)≤(j:Int)∧(j:Int)<(len:Int):=Om;simp only[execOp,ho,hB.ev hx,hB.ev hy,Instr.indexAt,asIntOf,Sem.run_bind,Sem.run_pure,Result.andThen_ok,run_underlying hU,hT.sizeOf,h2,and_self,if_true,elemAt,addrOf,Option.getD_some,Int.toNat_natCast,Nat.add_zero]
theorem fieldE{x:Operand}{t i:Nat}{A:Option Addr}{sz k off:Nat}{fs:Array Field}{f:Field}{z:Value}{sz' by':Nat}(ho:o.op= .fieldAddr t x i)(hU:P.underlying t=some (.struct fs))(hf:fs[i]? =some f)(hT:TI P f.type z sz' by')(hz:sz'≠0)
  (hx:ev E x=some (.pointer (some (elemAt A sz k off)))):Yld P o n E C (.pointer (some (elemAt A sz k (off+f.offset)))):=by
 have:=fieldAddrA (C:=C) (n:=n) ho hU hf hT hz hx;grind [elemAt,add_assoc_addr,Nat.add_assoc]
end
end Y
theorem RdL.some_{α:Type}{w:World}{lo hi:Nat}{A:Option Addr}{f:α→List Value}{sz:Nat}{l:List α}(h:RdL w lo hi A f sz l){k:Nat}(hk:k<l.length):A.isSome=true:=by
 obtain⟨ad,rfl,_⟩:=h k _ (List.getElem?_eq_getElem hk);rfl
section memory
variable{P:Program}{n:Nat}{ops:Array Oper}{Q:Exit→Act→World→Prop}{E:Env}{w:World}{o:Oper}{rest:List Oper}{d:Nat}
theorem WL.bslice{t e len:Nat}{parts:Array (Nat×Operand)}{ps:List (Nat×Value)}{z:Value}{zs cs:List Value}{sz by':Nat}(hd:o.dst=some d)(hn:d<n)(hg:o.guard=none)(ho:o.op= .buildSlice t len parts)(hU:P.underlying t=some (.slice e))(hT:TI P e z sz by')(hp:(len*sz !=0)=true)(hs:len*sz≤16777216)
  (hz:((Array.range (len*sz)).map (z.cells[·%z.cells.size]!))=zs.toArray) (hps:evp E parts.toList=some ps) (hf:fillP (fun i=>some (i*sz,sz)) zs ps=some cs)
  (h:∀g w',g=w.heap.size→Ext w w'→Blk w' g e cs→WL P n ops Q rest ((d,.slice (some ⟨g,0,none⟩) len len)::E) w'):WL P n ops Q (o::rest) E w:=by
 intro a ha;have h0:¬len*sz=0:=by grind
 have h1:¬len*sz>2 ^ 24:=Om;have h3:(parts.map fun x=>(x.fst,a.eval x.snd))=ps.toArray:=by rw[←ha.evp hps,←List.map_toArray]
 have hfill:=fill_eq _ ps zs cs hf;have hr:(execOp a.eval o).run P w= .ok (.value (.slice (some ⟨w.heap.size,0,none⟩) len len)) (w.alloc (.cells cs.toArray e)):=by
  simp only[execOp,ho,Instr.buildSlice,Sem.run_bind,run_underlying hU,Result.andThen_ok,hT.sizeOf,h1,h0,if_false,hT.zeroValue,Sem.run_pure,hz,h3,newRow,run_newObj];simp_all
 refine wpList_plain hg fun K hK=>wp_of_run hr (hK _ _ ?_);rw[hd];exact h _ _ rfl ((Ext.refl w).alloc _) (Blk.new w e cs) _ (ha.put hn _)
theorem WL.bslice0{t e:Nat}{z:Value}{sz by':Nat}(hd:o.dst=some d)(hn:d<n)(hg:o.guard=none)(ho:o.op= .buildSlice t 0 #[])(hU:P.underlying t=some (.slice e))(hT:TI P e z sz by')
  (h:∀g w',g=w.heap.size→Ext w w'→Blk w' g e []→WL P n ops Q rest ((d,.slice (some ⟨g,0,none⟩) 0 0)::E) w'):WL P n ops Q (o::rest) E w:=by
 intro a ha;have hr:(execOp a.eval o).run P w= .ok (.value (.slice (some ⟨w.heap.size,0,none⟩) 0 0)) (w.alloc (.cells #[] e)):=by
  have h0:(Array.map (fun _:Nat=>(default:Value)) (Array.range 0))= #[]:=by
   grind
  simp[execOp,ho,Instr.buildSlice,run_underlying hU,hT.sizeOf,newRow,Instr.fill,h0]
 refine wpList_plain hg fun K hK=>wp_of_run hr (hK _ _ ?_);rw[hd];exact h _ _ rfl ((Ext.refl w).alloc _) (Blk.new w e []) _ (ha.put hn _)
section app
variable{α:Type}{f:α→List Value}{sz base e t:Nat}{v:Value}{l:List α}{c:Call}
theorem wp_append{news:List α}{ad:Addr}{cap:Nat}{z:Value}{by':Nat}(hc:c.callee= .builtin .append)(ht:c.argTypes= #[t,t])(hU:P.underlying t=some (.slice e))(hT:TI P e z sz by')(hz:z.cells.size=sz)(hp:0<sz)(own:OwnL w base e f sz v l)(hf:∀x,(f x).length=sz)(h1:∀x,∀u∈f x,u.oneCell'=true)
  (hcells:∀j u,(news.flatMap f)[j]? =some u→w.cell? (ad.add j)=some u) (hbase:base≤w.heap.size) (hb:(l.length+news.length)*by'≤140737488355328) (hm:l.length+news.length≤maxLen) (ty:TypeId) (cb:Array Bool):
  ∃v' w',(builtin .append c.argTypes ty cb #[v,.slice (some ad) news.length cap]).run P w= .ok (.value v') w'∧OwnL w' base e f sz v' (l++news)∧Gr w w' v.ownBlock∧(v'.ownBlock=v.ownBlock∨v'.ownBlock=some w.heap.size):=by
 obtain⟨i,hi,hi1,hi2,hi3⟩:=hT;have hlen:∀q:List α,(q.flatMap f).length=q.length*sz:=by
  intro q
  induction q<;>grind
 obtain⟨v',w',hr,h2,h3,_,h4⟩:=run_append_own_at (P:=P) w base t ty e i z sz by' hU hi hi1 hi2 hi3 hz hp v l.length (l.flatMap f) own ad news.length cap (news.flatMap f) (hlen news) hcells
  (fun u hu=>by grind) hm hb hbase
 refine⟨v',w',?_,?_,⟨h3,Dle.of (run_drawn P _ _ _ _ hr)⟩,h4⟩
 ·grind [builtin,Sem.run_bind,Result.andThen_ok,Sem.run_pure]
 simp_all [OwnL,List.length_append,List.flatMap_append]
theorem WL.appendB{news:List α}{g cap:Nat}{cs:List Value}{z:Value}{by':Nat}(hd:o.dst=some d)(hn:d<n)(hg:o.guard=none)(ho:o.op= .call c)(hc:c.callee= .builtin .append)(ht:c.argTypes= #[t,t])(hU:P.underlying t=some (.slice e))(hT:TI P e z sz by')(hz:z.cells.size=sz)(hp:0<sz)
  (ha:evs E c.args.toList=some [v,.slice (some ⟨g,0,none⟩) news.length cap]) (own:OwnL w base e f sz v l) (hf:∀x,(f x).length=sz) (h1:∀x,∀u∈f x,u.oneCell'=true) (hb:Blk w g e cs) (hcs:news.flatMap f=cs) (hbase:base≤w.heap.size) (hby:(l.length+news.length)*by'≤140737488355328) (hm:l.length+news.length≤maxLen)
  (h:∀v' w',OwnL w' base e f sz v' (l++news)→Gr w w' v.ownBlock→(v'.ownBlock=v.ownBlock∨v'.ownBlock=some w.heap.size)→WL P n ops Q rest ((d,v')::E) w'):WL P n ops Q (o::rest) E w:=by
 intro a hA;obtain⟨cb,hcb⟩:=run_builtin (P:=P) (w:=w) hA ho hc ha;subst hcs;obtain⟨v',w',hr,h2,h3,h4⟩:=wp_append (P:=P) (news:=news) (ad:=⟨g,0,none⟩) (cap:=cap) hc ht hU hT hz hp own hf h1 (fun j u hu=>by rw[add_blk,Nat.zero_add];exact hb.cell hu) hbase hby hm o.type cb;refine wpList_plain hg fun K hK=>wp_of_run (hcb.trans hr) (hK _ _ ?_);rw[hd];exact h v' w' h2 h3 h4 _ (hA.put hn _)
theorem WL.appendR{news:List α}{A:Option Addr}{cap lo hi:Nat}{z:Value}{by':Nat}(hd:o.dst=some d)(hn:d<n)(hg:o.guard=none)(ho:o.op= .call c)(hc:c.callee= .builtin .append)(ht:c.argTypes= #[t,t])(hU:P.underlying t=some (.slice e))(hT:TI P e z sz by')(hz:z.cells.size=sz)(hp:0<sz)
  (ha:evs E c.args.toList=some [v,.slice A news.length cap]) (own:OwnL w base e f sz v l) (hf:∀x,(f x).length=sz) (h1:∀x,∀u∈f x,u.oneCell'=true) (hb:RdL w lo hi A f sz news) (hbase:base≤w.heap.size) (hby:(l.length+news.length)*by'≤140737488355328) (hm:l.length+news.length≤maxLen)
  (h:∀v' w',OwnL w' base e f sz v' (l++news)→Gr w w' v.ownBlock→(v'.ownBlock=v.ownBlock∨v'.ownBlock=some w.heap.size)→WL P n ops Q rest ((d,v')::E) w'):WL P n ops Q (o::rest) E w:=by
 intro a hA;obtain⟨cb,hcb⟩:=run_builtin (P:=P) (w:=w) hA ho hc ha;have hcases:(∃ad,A=some ad∧∀j u,(news.flatMap f)[j]? =some u→w.cell? (ad.add j)=some u)∨(A=none∧news=[]):=by
  cases A with
  |none=>
   right
   refine⟨rfl,?_⟩;cases news with
   |nil=>rfl
   |cons x r=>obtain⟨ad,he,_⟩:=hb 0 x rfl;cases he
  |some ad=>
   left
   refine⟨ad,rfl,fun j u hu=> ?_⟩;have key:∀(q:List α) (i0:Nat),(∀i x,q[i]? =some x→∀j u,(f x)[j]? =some u→w.cell? (ad.add ((i0+i)*sz+j))=some u)→∀j u,(q.flatMap f)[j]? =some u→w.cell? (ad.add (i0*sz+j))=some u:=by
    intro q
    induction q with
    |nil=>grind
    |cons x r ih=>
     intro i0 hq j u hu;rw[List.flatMap_cons]at hu;by_cases hj:j<sz
     ·rw[List.getElem?_append_left (by grind)]at hu;have:=hq 0 x rfl j u hu;omega
     ·rw[List.getElem?_append_right (by grind),hf]at hu;have:=ih (i0+1) (fun i y hy j u hu=>by
       have:=hq (i+1) y (by grind) j u hu;grind) (j-sz) u hu
      grind
   have:=key news 0 (fun i x hx j u hu=>by
    obtain⟨ad',he,_,_,hc'⟩:=hb i x hx;grind) j u hu
   grind
 rcases hcases with⟨ad,rfl,hcells⟩|⟨rfl,rfl⟩
 ·obtain⟨v',w',hr,h2,h3,h4⟩:=wp_append (P:=P) (news:=news) (ad:=ad) (cap:=cap) hc ht hU hT hz hp own hf h1 hcells hbase hby hm o.type cb;refine wpList_plain hg fun K hK=>wp_of_run (hcb.trans hr) (hK _ _ ?_);rw[hd];exact h v' w' h2 h3 h4 _ (hA.put hn _)
 ·have hr:(builtin .append c.argTypes o.type cb #[v,.slice none 0 cap]).run P w= .ok (.value v) w:=by
   obtain⟨i,hi,hi1,hi2,hi3⟩:=hT;have:(Builtin.append_ #[t,t] o.type #[v,.slice none 0 cap]).run P w= .ok v w:=by
    rcases own.2 with⟨rfl,_⟩|⟨g,cap',cur,rfl,_,_,hnc,_⟩
    ·simp[Builtin.append_,run_underlying hU,sizeOf,typeInfo,hi,Builtin.lenOf,Builtin.firstCells]
    ·simp[Builtin.append_,run_underlying hU,sizeOf,typeInfo,hi,Builtin.lenOf,Builtin.firstCells,hnc,storeCells]
   grind [builtin,Sem.run_bind,Result.andThen_ok,Sem.run_pure]
  refine wpList_plain hg fun K hK=>wp_of_run (hcb.trans hr) (hK _ _ ?_);rw[hd];exact h v w (by grind) (Gr.refl w _) (.inl rfl) _ (hA.put hn _)
end app
end memory
theorem Blk.rd{α:Type}{w:World}{g e sz:Nat}{f:α→List Value}{cs:List Value}{l:List α}(h:Blk w g e cs)(hf:∀x,(f x).length=sz)(hcs:l.flatMap f=cs):RdL w g (g+1) (some ⟨g,0,none⟩) f sz l:=fun i x hx=>by
 subst hcs;refine⟨_,rfl,Nat.le_refl _,Nat.lt_succ_self _,fun j u hu=> ?_⟩;rw[add_blk,Nat.zero_add];exact h.cell (getElem?_flatMap hf hx hu)
theorem WC.loopS{P:Program}{n:Nat}{Q:Exit→Act→World→Prop}{E:Env}{w:World}{c:Code}(k:Nat)(I:Nat→Env→World→Prop)(m:Nat)(h₀:I m (E.take k) w)
  (round:∀m Ed w,I m Ed w→WC P n c (Exit.then (fun a' w'=>∃m' Ed',m'<m∧I m' Ed' w'∧Ok n (Ed'++E.drop k) a') Q) (Ed++E.drop k) w):WC P n (.loop c) Q E w:=by
 refine WC.loop (fun m E' w=>∃Ed,E'=Ed++E.drop k∧I m Ed w) m ⟨E.take k,(List.take_append_drop k E).symm,h₀⟩ ?_;rintro m _ w ⟨Ed,rfl,hI⟩;intro a ha;refine wp_mono (round m Ed w hI a ha) fun e a w h=> ?_;grind
theorem WK.roundS{n:Nat}{Q:Exit→Act→World→Prop}{E Es:Env}{w:World}{I:Nat→Env→World→Prop}{m:Nat}(m':Nat)(Ed':Env)(hs:Sub (Ed'++Es) E)(hlt:m'<m)(hI:I m' Ed' w):WK n (Exit.then (fun a' w'=>∃m' Ed',m'<m∧I m' Ed' w'∧Ok n (Ed'++Es) a') Q .normal) E w:=
 fun _ ha=>⟨m',Ed',hlt,hI,ha.sub hs⟩
theorem not_t{a:Bool}(h:(!a)=true):a=false:=by cases a<;>simp_all
theorem not_f{a:Bool}(h:(!a)=false):a=true:=by cases a<;>simp_all
theorem and_t{a b:Bool}(h:(a&&b)=true):a=true∧b=true:=by cases a<;>cases b<;>simp_all
theorem and_f{a b:Bool}(h:(a&&b)=false):a=false∨b=false:=by cases a<;>cases b<;>simp_all
theorem or_t{a b:Bool}(h:(a||b)=true):a=true∨b=true:=by cases a<;>cases b<;>simp_all
theorem or_f{a b:Bool}(h:(a||b)=false):a=false∧b=false:=by cases a<;>cases b<;>simp_all
theorem eq_t{a b:Int}(h:(a==b)=true):a=b:=eq_of_beq h
theorem eq_f{a b:Int}(h:(a==b)=false):a≠b:=by grind
theorem dec_t{p:Prop}[Decidable p](h:decide p=true):p:=of_decide_eq_true h
theorem dec_f{p:Prop}[Decidable p](h:decide p=false):¬p:=of_decide_eq_false h
theorem kn{b c:Bool}(h:b=c):some (Value.bool b)=some (Value.bool c):=by rw[h]
theorem get_bang{α:Type}[Inhabited α]{l:List α}{k:Nat}(h:k<l.length):l[k]? =some (l[k]!):=by
 rw[List.getElem?_eq_getElem h,getElem!_pos l k h]
theorem drop_bang{α:Type}[Inhabited α]{l:List α}{k:Nat}(h:k<l.length):l.drop k=l[k]! ::l.drop (k+1):=by
 rw[List.drop_eq_getElem_cons h,getElem!_pos l k h]
theorem take_bang{α:Type}[Inhabited α]{l:List α}{k:Nat}(h:k<l.length):l.take (k+1)=l.take k++[l[k]!]:=by
 simp_all
theorem bang_mem{α:Type}[Inhabited α]{l:List α}{k:Nat}(h:k<l.length):l[k]!∈l:=by
 grind
structure Ls{α:Type}(w:World)(A:Option Addr)(n cap:Nat)(f:α→List Value)(sz:Nat)(l:List α):Prop where
 len:l.length=n
 le:n≤cap
 max:cap≤maxLen
 rd:RdL w 0 w.heap.size A f sz l
section
variable{α:Type}{w w':World}{A:Option Addr}{n cap:Nat}{f:α→List Value}{sz:Nat}{l:List α}
theorem Ls.ext(h:Ls w A n cap f sz l)(x:Ext w w'):Ls w' A n cap f sz l:=⟨h.len,h.le,h.max,(h.rd.ext x).more Nl x.size⟩
theorem Ls.nil{z:Nat}(hz:z≤maxLen):Ls w A 0 z f sz []:=⟨rfl,Nat.zero_le _,hz,RdL.none_⟩
theorem Ls.nle(h:Ls w A n cap f sz l):n≤9223372036854775807:=by have h1:=h.le;have h2:=h.max;unfold maxLen at h2;omega
theorem Ls.take(h:Ls w A n cap f sz l){k:Nat}(hk:k≤n):Ls w A k cap f sz (l.take k):=
 ⟨by rw[List.length_take,h.len];omega,Nat.le_trans hk h.le,h.max,h.rd.take k⟩
theorem Ls.drop(h:Ls w A n cap f sz l){k:Nat}(hk:k≤n):Ls w (if cap=k then A else A.map (·.add (k*sz))) (n-k) (cap-k) f sz (l.drop k):=
 ⟨by rw[List.length_drop,h.len],by have:=h.le;omega,by have:=h.max;omega,h.rd.drop k cap (by rw[h.len];exact h.le) (by rw[h.len];exact hk)⟩
theorem Ls.isSome(h:Ls w A n cap f sz l){k:Nat}(hk:k<n):A.isSome=true:=h.rd.some_ (by rw[h.len];exact hk)
section
variable[Inhabited α]
theorem Ls.at_eq(h:Ls w A n cap f sz l){k:Nat}(hk:k<n){j:Nat}{u:Value}(hu:(f l[k]!)[j]? = .some u):∀w',w'=w→w'.cell? (elemAt A sz k j)= .some u:=h.rd.at_eq (get_bang (by rw[h.len];exact hk)) hu
theorem Ls.at_ext(h:Ls w A n cap f sz l){k:Nat}(hk:k<n){j:Nat}{u:Value}(hu:(f l[k]!)[j]? = .some u):∀w',Ext w w'→w'.cell? (elemAt A sz k j)= .some u:=h.rd.at_ext (get_bang (by rw[h.len];exact hk)) hu
theorem Ls.part_eq(h:Ls w A n cap f sz l){k:Nat}(hk:k<n){off:Nat}{sub:List Value}(hs:((f l[k]!).drop off).take sub.length=sub):∀w',w'=w→∀j u,sub[j]? = .some u→w'.cell? ((elemAt A sz k off).add j)= .some u:=h.rd.part_eq (get_bang (by rw[h.len];exact hk)) hs
theorem Ls.part_ext(h:Ls w A n cap f sz l){k:Nat}(hk:k<n){off:Nat}{sub:List Value}(hs:((f l[k]!).drop off).take sub.length=sub):∀w',Ext w w'→∀j u,sub[j]? = .some u→w'.cell? ((elemAt A sz k off).add j)= .some u:=h.rd.part_ext (get_bang (by rw[h.len];exact hk)) hs
end
end
theorem Ls.lit{α:Type}{w:World}{g e k sz:Nat}{f:α→List Value}{cs:List Value}{l:List α}(h:Blk w g e cs)(hf:∀x,(f x).length=sz)(hcs:l.flatMap f=cs)(hm:k≤maxLen)(hk:l.length=k):Ls w (some ⟨g,0,none⟩) k k f sz l:=
 ⟨hk,Nat.le_refl _,hm,(h.rd hf hcs).more (Nat.zero_le _) h.lt⟩
theorem OwnL.opened{α:Type}{w:World}{base:Nat}{e:TypeId}{f:α→List Value}{sz:Nat}{v:Value}{l:List α}(h:OwnL w base e f sz v l)(hf:∀x,(f x).length=sz)(hp:0<sz):
  ∃A n cap,v= .slice A n cap∧Ls w A n cap f sz l:=by
 rcases h.2 with⟨hv,h0⟩|⟨g,cap',cur,hv,h1,h2,h3,h4,h5,h6⟩
 ·have hl:l=[]:=by
   grind
  subst hl;exact⟨none,0,0,hv,Ls.nil (Nat.zero_le _)⟩
 ·refine⟨_,_,_,hv,rfl,h3,h4,?_⟩;subst hv;exact(h.rd hf Nl).more (Nat.zero_le _) Nl
theorem OwnL.ls{α:Type}{w:World}{base:Nat}{e:TypeId}{f:α→List Value}{sz:Nat}{A:Option Addr}{n cap:Nat}{l:List α}(h:OwnL w base e f sz (.slice A n cap) l)(hf:∀x,(f x).length=sz)(hp:0<sz):Ls w A n cap f sz l:=by
 obtain⟨A',n',c',e',hl⟩:=h.opened hf hp;grind
namespace Y
section
variable{P:Program}{o:Oper}{n:Nat}{E:Env}{C:World→Prop}
theorem indexLs{α:Type}{x y:Operand}{t e:TypeId}{A:Option Addr}{len cap:Nat}{k:IntKind}{i:Int}{z:Value}{sz by':Nat}{f:α→List Value}{l:List α}{w:World}(j:Nat)(h:Ls w A len cap f sz l)(ho:o.op= .indexAddr t x y)(hU:P.underlying t=some (.slice e))(hT:TI P e z sz by')(hx:ev E x=some (.slice A len cap))(hy:ev E y=some (.int k i))(hj:i=(j:Int))(hl:j<len):
  Yld P o n E C (.pointer (some (elemAt A sz j 0))):=indexSl j ho hU hT hx hy hj hl (h.isSome hl)
theorem sliceH{x y:Operand}{t e:TypeId}{A:Option Addr}{len cap:Nat}{k:IntKind}{i:Int}{z:Value}{sz by':Nat}(j:Nat)(ho:o.op= .slice t x none (some y) none)(hU:P.underlying t=some (.slice e))(hT:TI P e z sz by')(hx:ev E x=some (.slice A len cap))(hy:ev E y=some (.int k i))(hj:i=(j:Int))(hl:j≤cap):
  Yld P o n E C (.slice A j cap):=by
 intro B w hB _;subst hj;have h2:(0:Int)≤(j:Int)∧(j:Int)≤(cap:Int):=Om;simp only[execOp,ho,hB.ev hx,Option.map,hB.ev hy,Instr.sliceAt,Instr.slice,Instr.sliceBounds,Instr.sliceBound,asIntOf,Sem.run_bind,Sem.run_pure,Result.andThen_ok,run_underlying hU,hT.sizeOf,h2,and_self,if_true,Int.toNat_natCast,Nat.zero_mul,Nat.sub_zero];by_cases hc:cap=0
 ·simp[hc]
 ·simp only[hc,if_false];cases A<;>simp_all [none,some,Addr.add]
theorem sliceL{x y:Operand}{t e:TypeId}{A:Option Addr}{len cap:Nat}{k:IntKind}{i:Int}{z:Value}{sz by':Nat}(j:Nat)(ho:o.op= .slice t x (some y) none none)(hU:P.underlying t=some (.slice e))(hT:TI P e z sz by')(hx:ev E x=some (.slice A len cap))(hy:ev E y=some (.int k i))(hj:i=(j:Int))(hl:j≤len):
  Yld P o n E C (.slice (if cap=j then A else A.map (·.add (j*sz))) (len-j) (cap-j)):=by
 intro B w hB _;subst hj;have h2:(0:Int)≤(j:Int)∧(j:Int)≤(len:Int):=Om;simp only[execOp,ho,hB.ev hx,Option.map,hB.ev hy,Instr.sliceAt,Instr.slice,Instr.sliceBounds,Instr.sliceBound,asIntOf,Sem.run_bind,Sem.run_pure,Result.andThen_ok,run_underlying hU,hT.sizeOf,h2,and_self,if_true,Int.toNat_natCast,Option.isSome]
end
end Y
def Mp(w:World)(g:Nat)(m:List (Int×Value)):Prop:=∃es clock,w.heap[g]? =some (.map es clock)∧es.toList.map (fun e=>(e.key,e.val))=m.map (fun p=>(.int .i64 p.1,p.2))∧(∀x∈es.toList,x.born<clock)∧(es.toList.map (·.born)).Nodup∧(m.map (·.1)).Nodup
def mget:List (Int×Value)→Int→Option Value
 |[],_=>none
 |(k,v)::r,i=>if i=k then some v else mget r i
def mset:List (Int×Value)→Int→Value→List (Int×Value)
 |[],i,u=>[(i,u)]
 |(k,v)::r,i,u=>if i=k then(k,u)::r else(k,v)::mset r i u
def mdel:List (Int×Value)→Int→List (Int×Value)
 |[],_=>[]
 |(k,v)::r,i=>if i=k then r else(k,v)::mdel r i
theorem map_modify{α β:Type}{f:α→α}{g:α→β}(h:∀x,g (f x)=g x):∀(l:List α) (j:Nat),(l.modify j f).map g=l.map g
 |[],j=>by simp
 |x::l,0=>by simp[h]
 |x::l,j+1=>by simp[List.modify_succ_cons,map_modify h l j]
theorem mget_none:∀(m:List (Int×Value)) (i:Int),mget m i=none→i∉m.map (·.1)
 |[],_,_=>by simp
 |(k,v)::r,i,h=>by
  simp only[mget]at h;by_cases hi:i=k
  ·grind
  ·simp only[hi,if_false]at h;have:=mget_none r i h;grind
theorem mset_keys_none:∀(m:List (Int×Value)) (i:Int) (u:Value),mget m i=none→(mset m i u).map (·.1)=m.map (·.1)++[i]
 |[],i,u,_=>rfl
 |(k,v)::r,i,u,h=>by
  simp only[mget]at h;by_cases hi:i=k
  ·grind
  ·simp only[hi,if_false]at h;simp only[mset,hi,if_false,List.map_cons,List.cons_append,mset_keys_none r i u h]
theorem mset_keys_some:∀(m:List (Int×Value)) (i:Int) (u v:Value),mget m i=some v→(mset m i u).map (·.1)=m.map (·.1)
 |[],i,u,v,h=>by cases h
 |(k,x)::r,i,u,v,h=>by
  simp only[mget]at h;by_cases hi:i=k
  ·simp[mset,hi]
  ·simp only[hi,if_false]at h;simp only[mset,hi,if_false,List.map_cons,mset_keys_some r i u v h]
theorem mdel_none:∀(m:List (Int×Value)) (i:Int),mget m i=none→mdel m i=m
 |[],_,_=>rfl
 |(k,v)::r,i,h=>by
  simp only[mget]at h;by_cases hi:i=k
  ·grind
  ·simp only[hi,if_false]at h;simp only[mdel,hi,if_false,mdel_none r i h]
theorem mdel_sub:∀(m:List (Int×Value)) (i:Int),List.Sublist (mdel m i) m
 |[],_=>.slnil
 |(k,v)::r,i=>by
  simp only[mdel];split
  ·grind
  ·exact(mdel_sub r i).cons_cons _
theorem mget_mset:∀(m:List (Int×Value)) (i j:Int) (u:Value),mget (mset m i u) j=if j=i then some u else mget m j
 |[],i,j,u=>by rfl
 |(k,v)::r,i,j,u=>by
  simp only[mset];by_cases h:i=k
  ·simp_all [if_true,mget,dite]
  ·simp only[h,if_false,mget,mget_mset r i j u];grind
theorem run_getObj_map'{P:Program}{w:World}{r:Nat}{es:Array MapEntry}{clock:Nat}(hb:w.heap[r]? =some (.map es clock)):(getObj r).run P w= .ok (.map es clock) w:=by simp[getObj,Sem.run,hb]
section maps
variable{w w':World}{g:Nat}{m:List (Int×Value)}
theorem Mp.lt(h:Mp w g m):g<w.heap.size:=by
 obtain⟨es,c,h1,_⟩:=h;grind
theorem Mp.of_block(h:Mp w g m)(hb:w'.heap[g]? =w.heap[g]?):Mp w' g m:=by
 obtain⟨es,c,h1,h2⟩:=h;exact⟨es,c,hb.trans h1,h2⟩
theorem Mp.ext(h:Mp w g m)(x:Ext w w'):Mp w' g m:=h.of_block (x.block g h.lt)
theorem findNow_m:∀(l:List MapEntry) (m:List (Int×Value)) (i:Int) (k:Nat),l.map (fun e=>(e.key,e.val))=m.map (fun p=>((.int .i64 p.1:Value),p.2))→
  ∃r,Instr.findNow (.int .i64) (.int .i64 i) l k=some r∧(r.map (·.2))=mget m i∧∀j u,r=some (j,u)→∃j',j=k+j'∧j'<l.length∧(l[j']?).map (·.key)=some (.int .i64 i)∧(∀v,((l.modify j' fun e=>{e with key:=.int .i64 i,val:=v}).map fun e=>(e.key,e.val))=(mset m i v).map fun p=>(.int .i64 p.1,p.2))∧((l.eraseIdx j').map fun e=>(e.key,e.val))=(mdel m i).map fun p=>(.int .i64 p.1,p.2)
 |[],[],i,k,_=>⟨none,rfl,rfl,by simp⟩
 |[],_::_,_,_,h=>by simp at h
 |_::_,[],_,_,h=>by simp at h
 |e::l,(a,u)::m,i,k,h=>by
  simp only[List.map_cons,List.cons.injEq,Prod.mk.injEq]at h;obtain⟨⟨h1,h2⟩,h3⟩:=h;by_cases hi:i=a
  ·subst hi;refine⟨some (k,u),by grind [Instr.findNow,Instr.sameNow],by simp[mget],?_⟩;simp_all [Exists.intro,And.intro,mset,mdel]
  ·obtain⟨r,hr,hm,hj⟩:=findNow_m l m i (k+1) h3;refine⟨r,by simp[Instr.findNow,Instr.sameNow,h1,(show(i==a)=false from by grind),hr],by grind [mget],?_⟩;rintro j u' hju;obtain⟨j',e1,e2,e3,e4,e5⟩:=hj j u' hju;refine⟨j'+1,Om,by grind,by grind,fun v=> ?_,?_⟩
   ·simp_all [List.modify_succ_cons,List.map_cons,mset,if_false]
   simp_all [List.eraseIdx_cons_succ,List.map_cons,mdel,if_false]
theorem checkKey_int{P:Program}{t:TypeId}(hk:P.underlying t=some (.int .i64))(b:Bool)(n:Nat)(i:Int)(w:World):(Instr.checkKey b (n+1) t (.int .i64 i)).run P w= .ok () w:=by
 simp[Instr.checkKey,run_underlying hk]
theorem findKey_m{P:Program}{t:TypeId}(hk:P.underlying t=some (.int .i64)){es:Array MapEntry}(h:es.toList.map (fun e=>(e.key,e.val))=m.map fun p=>((.int .i64 p.1:Value),p.2))(i:Int)(w:World):
  ∃r,(Instr.findKey t (.int .i64 i) es.toList).run P w= .ok r w∧(r.map (·.2))=mget m i∧∀j u,r=some (j,u)→j<es.size∧(es[j]?).map (·.key)=some (.int .i64 i)∧(∀v,((es.modify j fun e=>{e with key:=.int .i64 i,val:=v}).toList.map fun e=>(e.key,e.val))=(mset m i v).map fun p=>(.int .i64 p.1,p.2))∧((es.toList.eraseIdx j).map fun e=>(e.key,e.val))=(mdel m i).map fun p=>(.int .i64 p.1,p.2):=by
 obtain⟨r,h1,h2,h3⟩:=findNow_m es.toList m i 0 h;refine⟨r,by simp[Instr.findKey,run_underlying hk,h1],h2,fun j u hr=> ?_⟩;grind
theorem mset_none:∀(m:List (Int×Value)) (i:Int) (u:Value),mget m i=none→mset m i u=m++[(i,u)]
 |[],i,u,_=>rfl
 |(k,v)::r,i,u,h=>by
  simp only[mget]at h;by_cases hi:i=k
  ·grind
  ·simp only[hi,if_false]at h;simp[mset,hi,mset_none r i u h]
end maps
def mval(m:List (Int×Value))(i:Int)(z:Value):Value:=(mget m i).getD z
theorem Y.lookup{P:Program}{o:Oper}{n:Nat}{E:Env}{C:World→Prop}{x y:Operand}{t kt e g:Nat}{i:Int}{m:List (Int×Value)}{z:Value}{sz by':Nat}(ho:o.op= .lookup t x y false)(hU:P.underlying t=some (.map kt e))(hk:P.underlying kt=some (.int .i64))(hT:TI P e z sz by')(hx:ev E x=some (.map (some g)))(hy:ev E y=some (.int .i64 i))(hm:∀w,C w→Mp w g m):
  Yld P o n E C (mval m i z):=by
 intro a w ha hC;obtain⟨es,c,h1,h2,_⟩:=hm w hC;obtain⟨r,hr,hg,_⟩:=findKey_m hk h2 i w;have h1':(getObj g).run P w= .ok (.map es c) w:=run_getObj_map' h1;have hc:=checkKey_int hk es.isEmpty 9999 i w;cases r with
 |none=>
  simp only[execOp,ho,ha.ev hx,ha.ev hy,Instr.lookup,run_underlying hU,Sem.run_bind,Result.andThen_ok,h1',Sem.run_pure,hc,hr,hT.zeroValue,mval,←hg];rfl
 |some p=>
  simp only[execOp,ho,ha.ev hx,ha.ev hy,Instr.lookup,run_underlying hU,Sem.run_bind,Result.andThen_ok,h1',Sem.run_pure,hc,hr,mval,←hg];rfl
theorem Y.lookupOk{P:Program}{o:Oper}{n:Nat}{E:Env}{C:World→Prop}{x y:Operand}{t kt e g:Nat}{i:Int}{m:List (Int×Value)}{z:Value}{sz by':Nat}(ho:o.op= .lookup t x y true)(hU:P.underlying t=some (.map kt e))(hk:P.underlying kt=some (.int .i64))(hT:TI P e z sz by')(hx:ev E x=some (.map (some g)))(hy:ev E y=some (.int .i64 i))(hm:∀w,C w→Mp w g m):
  Yld P o n E C (.tuple #[mval m i z,.bool (mget m i).isSome]):=by
 intro a w ha hC;obtain⟨es,c,h1,h2,_⟩:=hm w hC;obtain⟨r,hr,hg,_⟩:=findKey_m hk h2 i w;have h1':(getObj g).run P w= .ok (.map es c) w:=run_getObj_map' h1;have hc:=checkKey_int hk es.isEmpty 9999 i w;cases r with
 |none=>
  simp only[execOp,ho,ha.ev hx,ha.ev hy,Instr.lookup,run_underlying hU,Sem.run_bind,Result.andThen_ok,h1',Sem.run_pure,hc,hr,hT.zeroValue,mval,←hg];rfl
 |some p=>
  simp only[execOp,ho,ha.ev hx,ha.ev hy,Instr.lookup,run_underlying hU,Sem.run_bind,Result.andThen_ok,h1',Sem.run_pure,hc,hr,mval,←hg];rfl
theorem Only.setObj(w:World)(g:Nat)(ob:Obj):Only g w {w with heap:=w.heap.setIfInBounds g ob}:=
 ⟨rfl,rfl,rfl,by simp,fun k hk=>by grind,Dle.of Nl⟩
theorem run_mapUpdate_m{P:Program}{t kt e g:Nat}{i:Int}{u:Value}{m:List (Int×Value)}{w:World}(hU:P.underlying t=some (.map kt e))(hk:P.underlying kt=some (.int .i64))(hm:Mp w g m):∃w',(Instr.mapUpdate t (.map (some g)) (.int .i64 i) u).run P w= .ok () w'∧Only g w w'∧Mp w' g (mset m i u):=by
 have hlt:=hm.lt;obtain⟨es,c,h1,h2,h6,h7,h8⟩:=hm;obtain⟨r,hr,hg,hs⟩:=findKey_m hk h2 i w;have h1':(getObj g).run P w= .ok (.map es c) w:=run_getObj_map' h1;have hc:=checkKey_int hk false 9999 i w;cases r with
 |none=>
  refine⟨{w with heap:=w.heap.setIfInBounds g (.map (es.push {key:=.int .i64 i,val:=u,born:=c}) (c+1))},?_,Only.setObj _ _ _,?_⟩
  ·simp_all [Instr.mapUpdate,Sem.run_bind,Result.andThen_ok,run_underlying,setObj,Sem.run]
  ·refine⟨_,_,Array.getElem?_setIfInBounds_self_of_lt hlt,?_,?_,?_,?_⟩
   ·grind [mset_none]
   ·grind
   ·grind
   ·rw[mset_keys_none m i u (by grind)];refine List.nodup_append.2 ⟨h8,by simp,fun a ha b hb=> ?_⟩;grind [mget_none]
 |some p=>
  obtain⟨j,v0⟩:=p;obtain⟨h3,h4,h5,h9⟩:=hs j v0 rfl;refine⟨{w with heap:=w.heap.setIfInBounds g (.map (es.modify j fun e=>{e with key:=.int .i64 i,val:=u}) c)},?_,Only.setObj _ _ _,?_⟩
  ·have hst:(Instr.keyThatStays (((es[j]?).map (·.key)).getD (.int .i64 i)) (.int .i64 i)).run P w= .ok (.int .i64 i) w:=by
    simp_all [Instr.keyThatStays,Instr.sameBits]
   simp_all [Instr.mapUpdate,Sem.run_bind,Result.andThen_ok,run_underlying,setObj,Sem.run]
  ·refine⟨_,_,Array.getElem?_setIfInBounds_self_of_lt hlt,h5 u,?_,?_,?_⟩
   ·intro x hx;have hb:x.born∈(es.modify j fun e=>{e with key:=.int .i64 i,val:=u}).toList.map (·.born):=List.mem_map_of_mem hx;rw[Array.toList_modify,map_modify (f:=fun e:MapEntry=>{e with key:=.int .i64 i,val:=u}) (g:=fun e:MapEntry=>e.born) (fun e=>rfl)]at hb;grind
   ·rw[Array.toList_modify,map_modify (f:=fun e:MapEntry=>{e with key:=.int .i64 i,val:=u}) (g:=fun e:MapEntry=>e.born) (fun e=>rfl)];exact h7
   grind [mset_keys_some]
theorem run_delete_m{P:Program}{t kt e g:Nat}{i:Int}{m:List (Int×Value)}{w:World}{ts:Array TypeId}{ty:TypeId}(ht:ts[0]? =some t)(hU:P.underlying t=some (.map kt e))(hk:P.underlying kt=some (.int .i64))(hm:Mp w g m):∃w',(Builtin.delete_ ts ty #[.map (some g),.int .i64 i]).run P w= .ok (.tuple #[]) w'∧Only g w w'∧Mp w' g (mdel m i):=by
 have hlt:=hm.lt;obtain⟨es,c,h1,h2,h6,h7,h8⟩:=hm;obtain⟨r,hr,hg,hs⟩:=findKey_m hk h2 i w;have h1':(getObj g).run P w= .ok (.map es c) w:=run_getObj_map' h1;have hc:=checkKey_int hk es.isEmpty 9999 i w;cases r with
 |none=>
  refine⟨{w with heap:=w.heap.setIfInBounds g (.map es c)},?_,Only.setObj _ _ _,?_⟩
  ·simp_all [Builtin.delete_,setObj,Sem.run,run_underlying]
  ·rw[mdel_none m i (by grind)];exact⟨_,_,Array.getElem?_setIfInBounds_self_of_lt hlt,h2,h6,h7,h8⟩
 |some p=>
  obtain⟨j,v0⟩:=p;obtain⟨h3,h4,h5,h9⟩:=hs j v0 rfl;have hel:(es.eraseIdxIfInBounds j).toList=es.toList.eraseIdx j:=by
   simp_all
  refine⟨{w with heap:=w.heap.setIfInBounds g (.map (es.eraseIdxIfInBounds j) c)},?_,Only.setObj _ _ _,?_⟩
  ·simp_all [Builtin.delete_,setObj,Sem.run,run_underlying]
  ·refine⟨_,_,Array.getElem?_setIfInBounds_self_of_lt hlt,by grind,fun x hx=>h6 x (List.mem_of_mem_eraseIdx (by rw[hel]at hx;exact hx)),?_,((mdel_sub m i).map _).nodup h8⟩;grind
section memory
variable{P:Program}{n:Nat}{ops:Array Oper}{Q:Exit→Act→World→Prop}{E:Env}{w:World}{o:Oper}{rest:List Oper}{d:Nat}
theorem WL.delete{t kt e g:Nat}{c:Call}{i:Int}{m:List (Int×Value)}(hd:o.dst=none)(hg:o.guard=none)(ho:o.op= .call c)(hc:c.callee= .builtin .delete)(ht:c.argTypes[0]? =some t)(hU:P.underlying t=some (.map kt e))(hk:P.underlying kt=some (.int .i64))(ha:evs E c.args.toList=some [.map (some g),.int .i64 i])(hm:Mp w g m)
  (h:∀w',Only g w w'→Mp w' g (mdel m i)→WL P n ops Q rest E w'):WL P n ops Q (o::rest) E w:=by
 intro a hA;obtain⟨cb,hcb⟩:=run_builtin (P:=P) (w:=w) hA ho hc ha;obtain⟨w',hr,h1,h2⟩:=run_delete_m (ty:=o.type) (i:=i) ht hU hk hm;refine wpList_plain hg fun K hK=> ?_;unfold Oper.wp;rw[hcb];simp only[builtin,Sem.run_bind,hr,Result.andThen_ok,Sem.run_pure];exact hK _ _ (by rw[hd];exact h w' h1 h2 _ hA)
theorem WL.makeMap{t:TypeId}(hd:o.dst=some d)(hn:d<n)(hg:o.guard=none)(ho:o.op= .makeMap t none)
  (h:∀g w',g=w.heap.size→Ext w w'→Mp w' g []→WL P n ops Q rest ((d,.map (some g))::E) w'):WL P n ops Q (o::rest) E w:=by
 intro a ha;have hr:(execOp a.eval o).run P w= .ok (.value (.map (some w.heap.size))) (w.alloc (.map #[] 0)):=by
  simp[execOp,ho,Instr.makeMap,run_newObj]
 refine wpList_plain hg fun K hK=>wp_of_run hr (hK _ _ ?_);rw[hd];exact h _ _ rfl ((Ext.refl w).alloc _) ⟨_,_,heap_alloc_new w _,rfl,by simp,by simp,by simp⟩ _ (ha.put hn _)
theorem WL.mapUpdate{t kt e g:Nat}{x y z:Operand}{i:Int}{u:Value}{m:List (Int×Value)}(hd:o.dst=none)(hg:o.guard=none)(ho:o.op= .mapUpdate t x y z∨o.op= .insert t x y z)(hU:P.underlying t=some (.map kt e))(hk:P.underlying kt=some (.int .i64))(hx:ev E x=some (.map (some g)))(hy:ev E y=some (.int .i64 i))(hz:ev E z=some u)(hm:Mp w g m)
  (h:∀w',Only g w w'→Mp w' g (mset m i u)→WL P n ops Q rest E w'):WL P n ops Q (o::rest) E w:=by
 intro a ha;obtain⟨w',hr,h1,h2⟩:=run_mapUpdate_m (i:=i) (u:=u) hU hk hm;have hr:(execOp a.eval o).run P w= .ok .skip w':=by
  rcases ho with ho|ho<;>simp[execOp,ho,ha.ev hx,ha.ev hy,ha.ev hz,hr]
 refine wpList_plain hg fun K hK=> ?_;unfold Oper.wp;rw[hr];exact hK _ _ (by rw[hd];exact h w' h1 h2 _ ha)
theorem Ok.again{a:Act}{t:Nat}{v:Value}(h:Ok n E a)(ht:look t E=some v):Ok n ((t,v)::E) a:=
 ⟨h.defers,h.size,fun s u hu=>by
  simp only[look]at hu;cases hb:Nat.beq t s with
  |true=>
   rw[hb]at hu;simp at hu;have:=Nat.eq_of_beq_eq_true hb;subst this;subst hu;exact h.at_ t _ ht
  |false=>
   rw[hb]at hu;exact h.at_ s u (by grind)⟩
theorem WL.guarded{j t:Nat}{want:Bool}(hg:o.guard=some (j,want))(hj:(ops[j]?).bind (·.dst)=some t)(ht:look t E=some (.bool want))(h:WL P n ops Q ({o with guard:=none}::rest) E w):WL P n ops Q (o::rest) E w:=by
 intro a ha;have h1:wpList P ops Q ({o with guard:=none}::rest) a w:=h a ha;unfold wpList at h1 ⊢;rw[if_pos (by rfl)]at h1;rw[if_pos (by grind [wanted_guard])];exact h1
theorem WL.split{t:Nat}{b:Bool}(ht:look t E=some (.bool b))(h1:b=true→WL P n ops Q rest ((t,.bool true)::E) w)(h2:b=false→WL P n ops Q rest ((t,.bool false)::E) w):WL P n ops Q rest E w:=by
 intro a ha;cases b with
 |true=>exact h1 rfl a (ha.again ht)
 |false=>exact h2 rfl a (ha.again ht)
end memory
theorem ne_nil{g k c:Nat}:(Value.slice none k c).ownBlock≠some g:=fun h=>by simp[Value.ownBlock]at h
section
variable{α:Type}{w w':World}{base base':Nat}{e:TypeId}{f:α→List Value}{sz:Nat}{v v' u:Value}{l:List α}
end
section
variable{P:Program}{n:Nat}{ops:Array Oper}{Q:Exit→Act→World→Prop}{E:Env}{w:World}{o:Oper}{rest:List Oper}{d:Nat}{α:Type}{f:α→List Value}{sz base e t:Nat}{v:Value}{l:List α}{c:Call}
theorem WL.appendL{news:List α}{A:Option Addr}{cap k:Nat}{z:Value}{by':Nat}(hd:o.dst=some d)(hn:d<n)(hg:o.guard=none)(ho:o.op= .call c)(hc:c.callee= .builtin .append)(ht:c.argTypes= #[t,t])(hU:P.underlying t=some (.slice e))(hT:TI P e z sz by')(hz:z.cells.size=sz)(hp:0<sz)
  (ha:evs E c.args.toList=some [v,.slice A k cap]) (own:OwnL w base e f sz v l) (hf:∀x,(f x).length=sz) (h1:∀x,∀u∈f x,u.oneCell'=true) (hL:Ls w A k cap f sz news) (hbase:base≤w.heap.size) (hby:(l.length+news.length)*by'≤140737488355328) (hm:l.length+news.length≤maxLen)
  (h:∀v' w',OwnL w' base e f sz v' (l++news)→Gr w w' v.ownBlock→(v'.ownBlock=v.ownBlock∨v'.ownBlock=some w.heap.size)→WL P n ops Q rest ((d,v')::E) w'):WL P n ops Q (o::rest) E w:=by
 have hk:=hL.len;subst hk;exact WL.appendR hd hn hg ho hc ht hU hT hz hp ha own hf h1 hL.rd hbase hby hm h
end
theorem setAll_append_left:∀(vs p q:List Value) (i:Nat),i+vs.length≤p.length→setAll (p++q) i vs=setAll p i vs++q
 |[],_,_,_,_=>rfl
 |v::r,p,q,i,h=>by
  simp only[List.length_cons]at h;rw[setAll,setAll,List.set_append_left _ _ Om,setAll_append_left r (p.set i v) q (i+1) (by grind)]
theorem setAll_append_right:∀(vs p q:List Value) (i:Nat),setAll (p++q) (p.length+i) vs=p++setAll q i vs
 |[],_,_,_=>rfl
 |v::r,p,q,i=>by
  rw[setAll,setAll,List.set_append_right _ _ Om,show p.length+i-p.length=i by omega,Nat.add_assoc,setAll_append_right r p (q.set i v) (i+1)]
theorem setAll_flat{α:Type}[Inhabited α]{f:α→List Value}{sz:Nat}(hf:∀x,(f x).length=sz):∀{l:List α} {k off:Nat} {vs:List Value} {x':α},k<l.length→off+vs.length≤sz→f x'=setAll (f l[k]!) off vs→setAll (l.flatMap f) (k*sz+off) vs=(l.set k x').flatMap f
 |[],k,_,_,_,h,_,_=>by simp at h
 |y::r,0,off,vs,x',_,ho,he=>by
  simp_all [List.flatMap_cons,List.set_cons_zero,Nat.zero_mul,Nat.zero_add,setAll_append_left]
 |y::r,k+1,off,vs,x',h,ho,he=>by
  have h':k<r.length:=by grind
  have he':f x'=setAll (f r[k]!) off vs:=by
   grind
  rw[List.flatMap_cons,List.set_cons_succ,List.flatMap_cons,←setAll_flat hf h' ho he',←setAll_append_right,hf,Nat.succ_mul];grind
theorem setAll_take(vs cs:List Value)(i n:Nat)(h:i+vs.length≤n)(hn:n≤cs.length):(setAll cs i vs).take n=setAll (cs.take n) i vs:=by
 have e:setAll cs i vs=setAll (cs.take n++cs.drop n) i vs:=by simp_all
 rw[e,setAll_append_left _ _ _ _ (by grind)];simp_all [setAll,length_setAll,List.length_take,List.take_append_of_le_length,List.take_of_length_le]
section
variable{P:Program}{n:Nat}{ops:Array Oper}{Q:Exit→Act→World→Prop}{E:Env}{w:World}{o:Oper}{rest:List Oper}{α:Type}[Inhabited α]{f:α→List Value}{sz base e:Nat}{l:List α}
theorem run_storeE{t:TypeId}{x y:Operand}{A:Option Addr}{len cap k off:Nat}{v z:Value}{vs:List Value}{by':Nat}{a:Act}(x':α)(ha:Ok n E a)(ho:o.op= .store t x y)(hx:ev E x=some (.pointer (some (elemAt A sz k off))))(hy:ev E y=some v)(hv:v.cells=vs.toArray)
  (hT:TI P t z vs.length by') (own:OwnL w base e f sz (.slice A len cap) l) (hf:∀x,(f x).length=sz) (hk:k<len) (hl:off+vs.length≤sz) (h1:(vs.all Value.oneCell')=true) (hx':f x'=setAll (f l[k]!) off vs):
  ∃w',(execOp a.eval o).run P w= .ok .skip w'∧OwnL w' base e f sz (.slice A len cap) (l.set k x')∧Gr w w' (Value.slice A len cap).ownBlock:=by
 have hlen:∀q:List α,(q.flatMap f).length=q.length*sz:=by
  intro q
  induction q<;>grind
 rcases own.2 with⟨hs,h0⟩|⟨g,cap',cur,hs,g1,g2,g3,g4,g5,g6⟩
 ·grind
 ·injection hs with e1 e2 e3
  subst e1;subst e2;subst e3;have hkl:k*sz+sz≤l.length*sz:=by rw[←Nat.succ_mul];exact Nat.mul_le_mul_right sz Om
  have hc5:cur.toList.length=cap*sz:=Om;have hcl:l.length*sz≤cur.toList.length:=by grind
  have hb:Blk w g e cur.toList:=by simp_all [Blk]
  obtain⟨w',hr,hon,hb'⟩:=run_storeCells (P:=P) vs w cur.toList (k*sz+off) 0 hb Om (fun u hu=>List.all_eq_true.1 h1 u hu);have had:elemAt (some ⟨g,0,none⟩) sz k off=⟨g,k*sz+off,none⟩:=by
   unfold elemAt addrOf;rw[Option.getD_some,add_blk,Nat.zero_add]
  rw[had]at hx;have hs:(execOp a.eval o).run P w= .ok .skip w':=by
   simp[execOp,ho,ha.ev hx,ha.ev hy,Instr.storeAt,Instr.sureAddr,storeVar,hv,hT.sizeOf,hr]
  refine⟨w',hs,⟨by rw[hlen,List.length_set],.inr ⟨g,cap,(setAll cur.toList (k*sz+off) vs).toArray,by rw[List.length_set],g1,by unfold Blk at hb';omega,by grind,g4,?_,?_⟩⟩,?_⟩
  ·rw[List.size_toArray,length_setAll,hc5]
  ·grind [List.length_set,setAll,setAll_take,setAll_flat]
  ·exact⟨⟨hon.os,hon.tape,hon.output,Nat.le_of_eq hon.size.symm,fun j _ hne=>hon.block j (fun hh=>hne (by rw[hh];rfl))⟩,hon.dr⟩
theorem WL.storeE{t:TypeId}{x y:Operand}{A:Option Addr}{len cap k off:Nat}{v z:Value}{vs:List Value}{by':Nat}(x':α)(hd:o.dst=none)(hg:o.guard=none)(ho:o.op= .store t x y)(hx:ev E x=some (.pointer (some (elemAt A sz k off))))(hy:ev E y=some v)(hv:v.cells=vs.toArray)
  (hT:TI P t z vs.length by') (own:OwnL w base e f sz (.slice A len cap) l) (hf:∀x,(f x).length=sz) (hk:k<len) (hl:off+vs.length≤sz) (h1:(vs.all Value.oneCell')=true) (hx':f x'=setAll (f l[k]!) off vs)
  (h:∀w',OwnL w' base e f sz (.slice A len cap) (l.set k x')→Gr w w' (Value.slice A len cap).ownBlock→WL P n ops Q rest E w'):WL P n ops Q (o::rest) E w:=by
 intro a ha;obtain⟨w',hr,h2,h3⟩:=run_storeE (P:=P) x' ha ho hx hy hv hT own hf hk hl h1 hx';refine wpList_plain hg fun K hK=> ?_;unfold Oper.wp;rw[hr];show K (a.put o.dst undef) w';rw[hd];exact hK _ _ (h w' h2 h3 _ ha)
end
def loudUpon(P:Program)(K:Value→World→Prop):Result Next→Prop
 | .ok (.value v) w'=>K v w'
 | .ok .skip w'=>K undef w'
 | .ok (.enter f args) w'=>Calls P f args w' fun e w''=>∃v,e= .returned v∧K v w''
 |_=>False
theorem loudUpon_mono{P:Program}{K K':Value→World→Prop}(h:∀v w,K v w→K' v w){r:Result Next}(hr:loudUpon P K r):loudUpon P K' r:=by
 cases r with
 |ok x w'=>
  cases x<;>simp only[loudUpon]at hr ⊢<;>try exact hr
  ·grind
  ·grind
  ·exact hr.mono fun e w ⟨v,he,hv⟩=>⟨v,he,h _ _ hv⟩
 |halt x w'=>exact hr
section
variable{P:Program}{ops:Array Oper}{C:World→Prop}
def lOp(P:Program)(ops:Array Oper)(i:Nat)(K:Act→World→Prop)(a:Act)(w:World):Prop:=
 match ops[i]? with
 |none=>K a w
 |some o=>if Region.wanted o (yielded ops a.tmps)then loudUpon P (fun v w'=>K (a.put o.dst v) w') ((execOp a.eval o).run P w)else K (a.put o.dst undef) w
theorem lOp_mono{i:Nat}{K K':Act→World→Prop}{a:Act}{w:World}(h:∀a w,K a w→K' a w)(hh:lOp P ops i K a w):lOp P ops i K' a w:=by
 unfold lOp at*;split
 ·grind
 ·rename_i o ho;simp only[ho]at hh;split
  ·rename_i hw;simp only[hw,if_true]at hh;grind [loudUpon_mono]
  grind
theorem wp_of_loud{o:Oper}{a:Act}{w:World}{K:Act→World→Prop}{Q:Exit→Act→World→Prop}(h:loudUpon P (fun v w'=>K (a.put o.dst v) w') ((execOp a.eval o).run P w)):o.wp P a w K Q:=by
 unfold Oper.wp;generalize (execOp a.eval o).run P w=r at*;cases r with
 |ok x w'=>
  cases x<;>simp only[loudUpon]at h<;>simp only[Oper.upon]
  ·exact h
  ·exact h
  ·exact h.mono fun e w'' ⟨v,he,hv⟩=>by grind
 |halt x w'=>grind [loudUpon]
theorem wpOp_of_lOp{i:Nat}{K:Act→World→Prop}{Q:Exit→Act→World→Prop}{a:Act}{w:World}(hh:lOp P ops i K a w):wpOp P ops Q i K a w:=by
 unfold lOp at hh;unfold wpOp;split
 ·rename_i ho;grind
 ·rename_i o ho;simp only[ho]at hh;split<;>simp_all [if_true,wp_of_loud]
def wpAnyX(P:Program)(ops:Array Oper)(C:World→Prop)(Q:Act→World→Prop):Nat→Array Bool→Act→World→Prop
 |0,listed,a,w=>C w∧Region.ready .any ops listed=[]∧Q a w
 |f+1,listed,a,w=>C w∧(Region.ready .any ops listed=[]→Q a w)∧∀i∈Region.ready .any ops listed,lOp P ops i (wpAnyX P ops C Q f (listed.setIfInBounds i true)) a w
theorem wpAny_of_X{Q:Act→World→Prop}{Q':Exit→Act→World→Prop}(hQ:∀a w,C w→Q a w→Q' .normal a w):∀(f:Nat) (listed:Array Bool) (a:Act) (w:World),wpAnyX P ops C Q f listed a w→wpAny P .any ops Q' f listed a w
 |0,_,_,_,h=>⟨h.2.1,hQ _ _ h.1 h.2.2⟩
 |f+1,_,_,_,h=>⟨fun h0=>hQ _ _ h.1 (h.2.1 h0),fun i hi=>wpOp_of_lOp (lOp_mono (fun a' w'=>wpAny_of_X hQ f _ a' w') (h.2.2 i hi))⟩
def PureIn(P:Program)(ops:Array Oper)(C:World→Prop)(o:Oper)(v:Value)(a:Act):Prop:=
 (Region.wanted o (yielded ops a.tmps)=true∧∀w,C w→(execOp a.eval o).run P w= .ok (.value v) w)∨(Region.wanted o (yielded ops a.tmps)=false∧v=undef)
theorem PureIn.lOp{i:Nat}{o:Oper}{v:Value}{a:Act}{w:World}(hi:ops[i]? =some o)(hC:C w)(hy:PureIn P ops C o v a){K:Act→World→Prop}(h:K (a.put o.dst v) w):lOp P ops i K a w:=by
 unfold Eng.lOp;simp only[hi];rcases hy with⟨hw,hv⟩|⟨hw,rfl⟩<;>simp_all [if_true,loudUpon,Bool.false_eq_true,if_false]
theorem PureIn.of_same{o:Oper}{v:Value}{a a':Act}(hy:PureIn P ops C o v a)(he:execOp a'.eval o=execOp a.eval o)(hw:Region.wanted o (yielded ops a'.tmps)=Region.wanted o (yielded ops a.tmps)):PureIn P ops C o v a':=by
 grind [PureIn]
theorem lOp_put{j:Nat}{oi oj:Oper}{v:Value}(hj:ops[j]? =some oj)(hap:oi.apart ops oj=true)(hsi:∀cs b,oi.op≠ .select cs b)(hsj:∀cs b,oj.op≠ .select cs b){K:Act→World→Prop}{a:Act}{w:World}
  (hy:PureIn P ops C oi v a) (h:lOp P ops j K (a.put oi.dst v) w):lOp P ops j (fun a' w'=>PureIn P ops C oi v a'∧K (a'.put oi.dst v) w') a w:=by
 obtain⟨h1,h2,h3⟩:=Oper.apart_spec hap;have keep:∀u,PureIn P ops C oi v (a.put oj.dst u):=fun u=>hy.of_same (execOp_put oi hsi a oj.dst u h3) (wanted_put oi a oj.dst u h3);unfold lOp at*;simp only[hj]at*;rw[wanted_put oj a oi.dst v h1,execOp_put oj hsj a oi.dst v h1]at h;split
 ·rename_i hw;simp only[hw,if_true]at h;exact loudUpon_mono (fun u w' hu=>⟨keep u,by grind [Act.put_comm]⟩) h
 ·rename_i hw;simp only[hw]at h;exact⟨keep _,by grind [Act.put_comm,undef]⟩
theorem wpAnyX_first{Q:Act→World→Prop}{i:Nat}{oi:Oper}{v:Value}(hi:ops[i]? =some oi)(hsel:∀(j:Nat) (o:Oper) cs b,ops[j]? =some o→o.op≠ .select cs b):
  ∀(f:Nat) (listed:Array Bool) (a:Act) (w:World),
   (∀j oj,ops[j]? =some oj→j≠i→listed.getD j true=false→(∀e∈oj.after,Region.binds .any e=true→e.on≠i)→oi.apart ops oj=true)→
   i∈Region.ready .any ops listed→PureIn P ops C oi v a→wpAnyX P ops C Q f (listed.setIfInBounds i true) (a.put oi.dst v) w→wpAnyX P ops C Q (f+1) listed a w:=by
 intro f
 induction f with
 |zero=>
  intro listed a w _ hr hy H;refine⟨H.1,fun h=>(by grind),fun j hj=> ?_⟩;by_cases hji:j=i
  ·subst hji;exact hy.lOp hi H.1 H
  ·have:=ready_mono hj hji;rw[H.2.1]at this;cases this
 |succ f ih=>
  intro listed a w hfree hr hy H;refine⟨H.1,fun h=>(by grind),fun j hj=> ?_⟩;by_cases hji:j=i
  ·subst hji;exact hy.lOp hi H.1 H
  ·have h1:=H.2.2 j (ready_mono hj hji);obtain⟨hjun,oj,hoj,hall⟩:=mem_ready.1 hj;have hnot:∀e∈oj.after,Region.binds .any e=true→e.on≠i:=fun e he hb heq=>by
    grind [mem_ready,Nat.lt_or_ge,Array.getElem?_eq_none]
   have h2:=lOp_put hoj (hfree j oj hoj hji hjun hnot) (fun cs b=>hsel i oi cs b hi) (fun cs b=>hsel j oj cs b hoj) hy h1;have hfree':∀k ok,ops[k]? =some ok→k≠i→(listed.setIfInBounds j true).getD k true=false→
     (∀e∈ok.after,Region.binds .any e=true→e.on≠i)→oi.apart ops ok=true:=fun k ok hk hki hun hno=>by
    refine hfree k ok hk hki ?_ hno;by_cases hjk:j=k<;>simp_all
   refine lOp_mono (fun a' w' h3=> ?_) h2;refine ih (listed.setIfInBounds j true) a' w' hfree' (ready_mono hr (Ne.symm hji)) h3.1 ?_;grind [Array.setIfInBounds_comm]
inductive Ord where
 |fin
 |load (i:Nat) (r:Ord)
 |alt (i:Nat) (r s:Ord)
 |none
 |drop (r:Ord)
def Ord.heads:Ord→List Nat
 | .alt i _ s=>i::s.heads
 |_=>[]
def orderB(ops:Array Oper):Ord→Bool→Nat→Array Bool→Bool
 | .fin,_,0,listed=>(Region.ready .any ops listed).isEmpty
 | .load i r,_,f+1,listed=>(Region.ready .any ops listed).contains i&&Region.free .any ops listed i&&orderB ops r false f (listed.setIfInBounds i true)
 | .alt i r s,b,f+1,listed=>(b||(Region.ready .any ops listed).all ((i::s.heads).contains ·))&&(Region.ready .any ops listed).contains i&&orderB ops r false f (listed.setIfInBounds i true)&&orderB ops s true (f+1) listed
 | .none,b,_,_=>b
 |_,_,_,_=>false
def wpMixC(P:Program)(ops:Array Oper)(Q:Act→World→Prop):Ord→(World→Prop)→Act→World→Prop
 | .fin,C,a,w=>C w∧Q a w
 | .load i r,C,a,w=>∃o v,ops[i]? =some o∧PureIn P ops C o v a∧wpMixC P ops Q r C (a.put o.dst v) w
 | .alt i r s,C,a,w=>(C w∧lOp P ops i (wpMixC P ops Q r C) a w)∧wpMixC P ops Q s C a w
 | .none,_,_,_=>True
 | .drop r,_,a,w=>wpMixC P ops Q r (fun _=>True) a w
abbrev wpMix(P:Program)(ops:Array Oper)(C:World→Prop)(Q:Act→World→Prop)(r:Ord):Act→World→Prop:=wpMixC P ops Q r C
theorem mix_both{Q:Act→World→Prop}(hs:Region.noSelect ops=true):∀(q:Ord) (b:Bool) (f:Nat) (listed:Array Bool) (a:Act) (w:World),orderB ops q b f listed=true→wpMix P ops C Q q a w→
  (b=false→wpAnyX P ops C Q f listed a w)∧(b=true→∀j∈q.heads,∃f',f=f'+1∧lOp P ops j (wpAnyX P ops C Q f' (listed.setIfInBounds j true)) a w)
 | .fin,b,0,listed,a,w,hB,h=>⟨fun _=>⟨h.1,by grind [orderB],h.2⟩,fun _ j hj=>by simp[Ord.heads]at hj⟩
 | .load i r,b,f+1,listed,a,w,hB,h=>by
  simp only[orderB,Bool.and_eq_true]at hB;obtain⟨o,v,ho,hy,hr⟩:=h;exact⟨fun _=>wpAnyX_first ho (Region.noSelect_spec hs) f listed a w (Region.free_spec ho hB.1.2) (by grind) hy ((mix_both hs r false f _ _ _ hB.2 hr).1 rfl),fun _ j hj=>by simp[Ord.heads]at hj⟩
 | .alt i r s,b,f+1,listed,a,w,hB,h=>by
  simp only[orderB,Bool.and_eq_true,Bool.or_eq_true,List.all_eq_true,List.contains_iff_mem]at hB;have hi:lOp P ops i (wpAnyX P ops C Q f (listed.setIfInBounds i true)) a w:=lOp_mono (fun a' w' h'=>(mix_both hs r false f _ a' w' hB.1.2 h').1 rfl) h.1.2;have hS:=(mix_both hs s true (f+1) listed a w hB.2 h.2).2 rfl;have hall:∀j∈i::s.heads,lOp P ops j (wpAnyX P ops C Q f (listed.setIfInBounds j true)) a w:=fun j hj=>by
   grind
  refine⟨fun hb=>⟨h.1.1,fun h0=> ?_,fun j hj=> ?_⟩,fun _ j hj=>⟨f,rfl,hall j hj⟩⟩<;>grind
 | .none,b,_,_,_,_,hB,_=>⟨fun hb=>(by grind [orderB]),fun _ j hj=>(by simp[Ord.heads]at hj)⟩
 | .fin,_,_+1,_,_,_,hB,_=>by simp[orderB]at hB
 | .load ..,_,0,_,_,_,hB,_=>by simp[orderB]at hB
 | .alt ..,_,0,_,_,_,hB,_=>by simp[orderB]at hB
 | .drop _,_,0,_,_,_,hB,_=>by simp[orderB]at hB
 | .drop _,_,_+1,_,_,_,hB,_=>by simp[orderB]at hB
def mixB(ops:Array Oper)(q:Ord):Bool:=Region.noSelect ops&&orderB ops q false ops.size (Array.replicate ops.size false)
theorem any_region_mix{Q:Exit→Act→World→Prop}{a:Act}{w:World}(q:Ord)(hB:mixB ops q=true)
  (h:wpMix P ops C (Q .normal) q a {w with drawn:=w.drawn+1}):wpAny P .any ops Q ops.size (Array.replicate ops.size false) a {w with drawn:=w.drawn+1}:=by
 simp only[mixB,Bool.and_eq_true]at hB;exact wpAny_of_X (fun a w _ h=>h) _ _ _ _ ((mix_both hB.1 q false _ _ a _ hB.2 h).1 rfl)
theorem wp_region_mix{id:Nat}{Q:Exit→Act→World→Prop}{a:Act}{w:World}(q:Ord)(hm:P.follows .mixedOrders=true)(hB:mixB ops q=true)
  (h:wpMix P ops C (Q .normal) q a {w with drawn:=w.drawn+1}):(Code.region id ops true).wp P Q a w:=
 wp_region_any hm (any_region_mix q hB h)
end
theorem mask_of:∀{q:List Nat} {k:Nat},(maskOf q).testBit k=true→k∈q
 |[],k,h=>by simp[maskOf]at h
 |u::r,k,h=>by
  simp only[maskOf,Nat.testBit_or,Bool.or_eq_true,Nat.one_shiftLeft]at h;rcases h with h|h
  ·grind
  ·exact List.mem_cons_of_mem _ (mask_of h)
def blkOf(i:Nat)(x:Row):Nat→List Row→Nat
 |_,[]=>0
 |j,y::r=>(bif Nat.beq j i||y.after.testBit i||(dstFree x y&&seenFree x y)then 0 else 1 <<< j) ||| blkOf i x (j+1) r
def qtab(rows:List Row):Nat→List Row→List (Nat×Nat)
 |_,[]=>[]
 |i,x::r=>(x.after,blkOf i x 0 rows)::qtab rows (i+1) r
def subM(a m:Nat):Bool:=Nat.beq (Nat.land a m) a
def onlyM(m h:Nat):Nat→List (Nat×Nat)→Bool
 |_,[]=>true
 |j,x::r=>(m.testBit j||h.testBit j|| !subM x.1 m)&&onlyM m h (j+1) r
def getM:List (Nat×Nat)→Nat→Option (Nat×Nat)
 |[],_=>Option.none
 |x::_,0=>some x
 |_::r,i+1=>getM r i
def stepM(tab:List (Nat×Nat))(i m:Nat):Bool:=match getM tab i with
 |Option.none=>false
 |some x=> !m.testBit i&&subM x.1 m&&subM x.2 m
def rdyM(tab:List (Nat×Nat))(i m:Nat):Bool:=match getM tab i with
 |Option.none=>false
 |some x=> !m.testBit i&&subM x.1 m
def orderQ(tab:List (Nat×Nat)):Ord→Bool→Nat→Nat→Bool
 | .fin,_,0,m=>onlyM m 0 0 tab
 | .load i r,_,f+1,m=>stepM tab i m&&orderQ tab r false f (m ||| (1 <<< i))
 | .alt i r s,b,f+1,m=>(b||onlyM m (maskOf (i::s.heads)) 0 tab)&&rdyM tab i m&&orderQ tab r false f (m ||| (1 <<< i))&&orderQ tab s true (f+1) m
 | .none,b,_,_=>b
 |_,_,_,_=>false
def mixQ(l:List Oper)(q:Ord):Bool:=selB l&&orderQ (qtab (l.map (rowOf l.toArray)) 0 (l.map (rowOf l.toArray))) q false l.length 0
theorem getM_eq:∀(l:List (Nat×Nat)) (i:Nat),getM l i=l[i]?
 |[],i=>by rfl
 |x::_,0=>by rfl
 |_::r,i+1=>by simp[getM,getM_eq r i]
theorem qtab_get{rows:List Row}:∀{q:List Row} {b i:Nat},(qtab rows b q)[i]? =(q[i]?).map fun x=>(x.after,blkOf (b+i) x 0 rows)
 |[],b,i=>by rfl
 |x::r,b,0=>by rfl
 |x::r,b,i+1=>by
  simp only[qtab,List.getElem?_cons_succ];rw[qtab_get (q:=r) (b:=b+1) (i:=i),show b+1+i=b+(i+1)from Om]
theorem blkOf_get{i:Nat}{x:Row}:∀{q:List Row} {b j:Nat} {y:Row},q[j]? =some y→(blkOf i x b q).testBit (b+j)=false→(b+j=i∨y.after.testBit i=true)∨(dstFree x y&&seenFree x y)=true
 |[],b,j,y,h,_=>by simp at h
 |z::r,b,0,y,h,hb=>by
  simp at h;subst h;simp only[blkOf,Nat.testBit_or,Bool.or_eq_false_iff,Nat.add_zero]at hb;cases hc:(Nat.beq b i||z.after.testBit i||(dstFree x z&&seenFree x z))<;>simp_all
 |z::r,b,j+1,y,h,hb=>by
  simp only[blkOf,Nat.testBit_or,Bool.or_eq_false_iff]at hb;have:=blkOf_get (i:=i) (x:=x) (q:=r) (b:=b+1) (j:=j) (y:=y) (by grind) (by grind);grind
theorem subM_spec{a m:Nat}:subM a m=true↔∀t,a.testBit t=true→m.testBit t=true:=by
 unfold subM;constructor
 ·intro h t ht;have:=Nat.eq_of_beq_eq_true h;have h2:(a &&& m).testBit t=true:=by simp_all
  grind
 ·intro h;have:Nat.land a m=a:=by
   apply Nat.eq_of_testBit_eq;simp_all
  simp_all
def Rep(n m:Nat)(listed:Array Bool):Prop:=listed.size=n∧(∀j,j<n→listed[j]? =some (m.testBit j))∧∀j,m.testBit j=true→j<n
theorem Rep.zero(n:Nat):Rep n 0 (Array.replicate n false):=⟨by simp,fun j hj=>by simp[hj],fun j hj=>by simp at hj⟩
theorem Rep.getD{n m:Nat}{listed:Array Bool}(h:Rep n m listed)(b:Bool){j:Nat}(hj:j<n):listed.getD j b=m.testBit j:=by
 rw[Array.getD_eq_getD_getElem?,h.2.1 j hj];rfl
theorem Rep.set{n m i:Nat}{listed:Array Bool}(h:Rep n m listed)(hi:i<n):Rep n (m ||| (1 <<< i)) (listed.setIfInBounds i true):=by
 refine⟨by simpa using h.1,fun j hj=> ?_,fun j hj=> ?_⟩
 ·by_cases hij:i=j
  ·subst hij;simp[h.1,hi,Nat.one_shiftLeft]
  ·rw[Array.getElem?_setIfInBounds_ne hij,h.2.1 j hj,Nat.testBit_or,Nat.one_shiftLeft,Nat.testBit_two_pow];simp[hij]
 ·rw[Nat.testBit_or,Bool.or_eq_true,Nat.one_shiftLeft,Nat.testBit_two_pow]at hj;rcases hj with hj|hj
  ·exact h.2.2 j hj
  grind
section
variable{l:List Oper}{m i:Nat}{listed:Array Bool}
def edges(o:Oper):List Nat:=o.after.toList.filterMap fun e=>if Region.binds .any e then some e.on else Option.none
theorem edges_mem{o:Oper}{t:Nat}:t∈edges o↔∃e,e∈o.after∧Region.binds .any e=true∧e.on=t:=by
 simp_all [edges,List.mem_filterMap,Exists.intro,And.intro]
theorem tab_get{x:Nat×Nat}(h:getM (qtab (l.map (rowOf l.toArray)) 0 (l.map (rowOf l.toArray))) i=some x):∃o,l[i]? =some o∧x=(maskOf (edges o),blkOf i (rowOf l.toArray o) 0 (l.map (rowOf l.toArray))):=by
 rw[getM_eq,qtab_get,List.getElem?_map]at h;cases ho:l[i]? with
 |none=>grind
 |some o=>
  rw[ho]at h;simp only[Option.map_some,Option.some.injEq,Nat.zero_add]at h;exact⟨o,rfl,h.symm⟩
theorem rdyM_ok(hR:Rep l.length m listed)(h:rdyM (qtab (l.map (rowOf l.toArray)) 0 (l.map (rowOf l.toArray))) i m=true):
  i<l.length∧(Region.ready .any l.toArray listed).contains i=true:=by
 unfold rdyM at h;split at h
 ·cases h
 rename_i x hx;obtain⟨o,ho,rfl⟩:=tab_get hx;simp only[Bool.and_eq_true,Bool.not_eq_true']at h;obtain⟨h1,h2⟩:=h;have hi:i<l.length:=(List.getElem?_eq_some_iff.1 ho).1;refine⟨hi,?_⟩;rw[List.contains_iff_mem,mem_ready];refine⟨by rw[hR.getD true hi];exact h1,o,by grind,fun e he hb=> ?_⟩;have:=subM_spec.1 h2 e.on (mask_mem (edges_mem.2 ⟨e,he,hb,rfl⟩));rw[hR.getD false (hR.2.2 _ this)];exact this
theorem stepM_ok(hR:Rep l.length m listed)(h:stepM (qtab (l.map (rowOf l.toArray)) 0 (l.map (rowOf l.toArray))) i m=true):
  i<l.length∧(Region.ready .any l.toArray listed).contains i=true∧Region.free .any l.toArray listed i=true:=by
 unfold stepM at h;split at h
 ·cases h
 rename_i x hx;obtain⟨o,ho,rfl⟩:=tab_get hx;simp only[Bool.and_eq_true,Bool.not_eq_true']at h;obtain⟨⟨h1,h2⟩,h3⟩:=h;have hi:i<l.length:=(List.getElem?_eq_some_iff.1 ho).1;refine⟨hi,(rdyM_ok hR (by grind [rdyM])).2,?_⟩
 ·unfold Region.free;have:l.toArray[i]? =some o:=by grind
  rw[this];simp only[List.all_eq_true,List.mem_range];intro j hj;have hj':j<l.length:=Om;have hoj:l.toArray[j]? =some l[j]:=by simp[hj']
  rw[hoj,hR.getD true hj'];simp only[Bool.or_eq_true,beq_iff_eq];cases hm:m.testBit j with
  |true=>grind
  |false=>
   have hb:(blkOf i (rowOf l.toArray o) 0 (l.map (rowOf l.toArray))).testBit (0+j)=false:=by
    rw[Nat.zero_add];cases hq:(blkOf i (rowOf l.toArray o) 0 (l.map (rowOf l.toArray))).testBit j<;>simp_all [blkOf,rowOf,false,true,subM_spec]
   rcases blkOf_get (y:=rowOf l.toArray l[j]) (by simp[hj']) hb with(h|h)|h
   ·omega
   ·refine .inr (.inl ?_);obtain⟨e,he,hb,h⟩:=edges_mem.1 (mask_of (q:=edges l[j]) h);rw[Array.any_eq_true'];grind
   grind [apart_of_pair]
theorem onlyM_get{h:Nat}:∀{q:List (Nat×Nat)} {b j:Nat} {x:Nat×Nat},onlyM m h b q=true→q[j]? =some x→m.testBit (b+j)=true∨h.testBit (b+j)=true∨subM x.1 m=false
 |[],b,j,x,_,hx=>by simp at hx
 |y::r,b,0,x,hq,hx=>by
  simp at hx;subst hx;simp only[onlyM,Bool.and_eq_true,Bool.or_eq_true,Bool.not_eq_true']at hq;grind
 |y::r,b,j+1,x,hq,hx=>by
  simp only[onlyM,Bool.and_eq_true]at hq;have:=onlyM_get hq.2 (j:=j) (x:=x) (by grind);grind
theorem onlyM_ok{h:List Nat}(hR:Rep l.length m listed)(hq:onlyM m (maskOf h) 0 (qtab (l.map (rowOf l.toArray)) 0 (l.map (rowOf l.toArray)))=true):∀j∈Region.ready .any l.toArray listed,j∈h:=by
 intro j hj;obtain⟨h1,o,ho,h2⟩:=mem_ready.1 hj;have ho':l[j]? =some o:=by grind
 have hlt:j<l.length:=(List.getElem?_eq_some_iff.1 ho').1;rw[hR.getD true hlt]at h1;have hx:(qtab (l.map (rowOf l.toArray)) 0 (l.map (rowOf l.toArray)))[j]? =some (maskOf (edges o),blkOf (0+j) (rowOf l.toArray o) 0 (l.map (rowOf l.toArray))):=by
  rw[qtab_get,List.getElem?_map,ho'];rfl
 rcases onlyM_get hq hx with h|h|h
 ·grind
 ·simp_all [Nat.zero_add,mask_of]
 ·have:subM (maskOf (edges o)) m=true:=subM_spec.2 fun t ht=>by
   obtain⟨e,he,hb,rfl⟩:=edges_mem.1 (mask_of ht);have:=h2 e he hb;rcases Nat.lt_or_ge e.on l.length with h'|h'
   ·rwa[hR.getD false h']at this
   ·rw[Array.getD_eq_getD_getElem?,Array.getElem?_eq_none (by rw[hR.1];exact h')]at this;cases this
  simp only at h;grind
theorem orderQ_ok:∀(q:Ord) (b:Bool) (f m:Nat) (listed:Array Bool),Rep l.length m listed→orderQ (qtab (l.map (rowOf l.toArray)) 0 (l.map (rowOf l.toArray))) q b f m=true→orderB l.toArray q b f listed=true
 | .fin,b,0,m,listed,hR,h=>by
  simp only[orderQ]at h;simp only[orderB,List.isEmpty_iff];exact List.eq_nil_iff_forall_not_mem.2 fun j hj=>by
   have:=onlyM_ok (h:=[]) hR (by grind [maskOf]) j hj;cases this
 | .load i r,b,f+1,m,listed,hR,h=>by
  simp only[orderQ,Bool.and_eq_true]at h;obtain⟨h1,h2,h3⟩:=stepM_ok hR h.1;simp only[orderB,Bool.and_eq_true];exact⟨⟨h2,h3⟩,orderQ_ok r false f _ _ (hR.set h1) h.2⟩
 | .alt i r s,b,f+1,m,listed,hR,h=>by
  simp only[orderQ,Bool.and_eq_true,Bool.or_eq_true]at h;simp only[orderB,Bool.and_eq_true,Bool.or_eq_true];obtain⟨hi,h1⟩:=rdyM_ok hR h.1.1.2;refine⟨⟨⟨?_,h1⟩,orderQ_ok r false f _ _ (hR.set hi) h.1.2⟩,orderQ_ok s true (f+1) m listed hR h.2⟩;grind [List.all_eq_true,List.contains_iff_mem,onlyM_ok]
 | .none,b,f,m,listed,hR,h=>by
  grind [orderQ,orderB]
 | .fin,_,_+1,_,_,_,h=>by simp[orderQ]at h
 | .load ..,_,0,_,_,_,h=>by simp[orderQ]at h
 | .alt ..,_,0,_,_,_,h=>by simp[orderQ]at h
 | .drop _,_,0,_,_,_,h=>by simp[orderQ]at h
 | .drop _,_,_+1,_,_,_,h=>by simp[orderQ]at h
end
theorem mixB_of{l:List Oper}{q:Ord}(h:mixQ l q=true):mixB l.toArray q=true:=by
 simp only[mixQ,Bool.and_eq_true]at h;simp only[mixB,Bool.and_eq_true];exact⟨selB_ok h.1,orderQ_ok q false _ 0 _ (by grind [Rep.zero]) (by grind)⟩
section
variable{C:World→Prop}{g:Nat}{t:TypeId}{cs:List Value}
theorem Blk.at_c(h:∀w',C w'→Blk w' g t cs){i:Nat}{v:Value}(hv:cs[i]? =some v):∀w',C w'→w'.cell? ⟨g,i,none⟩=some v:=fun w' hw=>(h w' hw).cell hv
theorem Blk.part_c(h:∀w',C w'→Blk w' g t cs){off:Nat}{sub:List Value}(hs:(cs.drop off).take sub.length=sub):∀w',C w'→∀j u,sub[j]? =some u→w'.cell? ((⟨g,off,none⟩:Addr).add j)=some u:=fun w' hw=>(h w' hw).part_eq hs _ rfl
variable{α:Type}[Inhabited α]{A:Option Addr}{n cap:Nat}{f:α→List Value}{sz:Nat}{l:List α}
theorem Ls.at_c(h:∀w',C w'→Ls w' A n cap f sz l){k:Nat}(hk:k<n){j:Nat}{u:Value}(hu:(f l[k]!)[j]? = .some u):∀w',C w'→w'.cell? (elemAt A sz k j)= .some u:=fun w' hw=>(h w' hw).at_eq hk hu _ rfl
theorem Ls.part_c(h:∀w',C w'→Ls w' A n cap f sz l){k:Nat}(hk:k<n){off:Nat}{sub:List Value}(hs:((f l[k]!).drop off).take sub.length=sub):∀w',C w'→∀j u,sub[j]? = .some u→w'.cell? ((elemAt A sz k off).add j)= .some u:=fun w' hw=>(h w' hw).part_eq hk hs _ rfl
end
section
variable{P:Program}{n:Nat}{ops:Array Oper}{C:World→Prop}{Q:Act→World→Prop}{E:Env}{w:World}{o:Oper}{i d:Nat}{v:Value}{r s:Ord}
def WX(P:Program)(n:Nat)(ops:Array Oper)(C:World→Prop)(Q:Act→World→Prop)(r:Ord)(E:Env)(w:World):Prop:=∀a,Ok n E a→wpMix P ops C Q r a w
theorem WX.nil(hC:C w)(h:WK n Q E w):WX P n ops C Q .fin E w:=fun a ha=>⟨hC,h a ha⟩
theorem WX.yld(hi:ops[i]? =some o)(hd:o.dst=some d)(hn:d<n)(hg:o.guard=none)(hy:Yld P o n E C v)(h:WX P n ops C Q r ((d,v)::E) w):WX P n ops C Q (.load i r) E w:=
 fun a ha=>⟨o,v,hi,.inl ⟨wanted_plain hg _,fun w' hw'=>hy a w' ha hw'⟩,by rw[hd];exact h _ (ha.put hn v)⟩
theorem WX.alt(h:WX P n ops C Q (.alt i r .none) E w)(hs:WX P n ops C Q s E w):WX P n ops C Q (.alt i r s) E w:=fun a ha=>⟨(h a ha).1,hs a ha⟩
theorem WX.call{c:Call}{f:FuncId}{args:List Value}{R:Ending→World→Prop}(hi:ops[i]? =some o)(hd:o.dst=some d)(hn:d<n)(hg:o.guard=none)(ho:o.op= .call c)(hc:c.callee= .value (.func f))(hf:Has P f)(ha:evs E c.args.toList=some args)(hC:C w)
  (hk:Calls P f args.toArray w R) (h:∀e w',R e w'→∃v,e= .returned v∧WX P n ops C Q r ((d,v)::E) w'):WX P n ops C Q (.alt i r .none) E w:=by
 intro a hA;refine⟨⟨hC,?_⟩,trivial⟩;unfold lOp;simp only[hi];rw[if_pos (wanted_plain hg _)];have hr:=run_call (P:=P) (w:=w) (fst:= #[]) (cap:= #[]) hA ho hc rfl hf ha;rw[hr];simp only[loudUpon];refine(show Calls P f (#[]++args.toArray++ #[]) w R from by simpa using hk).mono fun e w' hR=> ?_;obtain⟨v,he,hv⟩:=h e w' hR;exact⟨v,he,by rw[hd];exact hv _ (hA.put hn v)⟩
theorem WX.yldL(hi:ops[i]? =some o)(hd:o.dst=some d)(hn:d<n)(hg:o.guard=none)(hC:C w)(hy:Yld P o n E (·=w) v)(h:WX P n ops C Q r ((d,v)::E) w):WX P n ops C Q (.alt i r .none) E w:=by
 intro a ha;refine⟨⟨hC,?_⟩,trivial⟩;unfold lOp;simp only[hi];rw[if_pos (wanted_plain hg _),hy a w ha rfl];simp only[loudUpon];rw[hd];exact h _ (ha.put hn v)
theorem WX.mapUpdate{t kt e g:Nat}{x y z:Operand}{k:Int}{u:Value}{m:List (Int×Value)}(hi:ops[i]? =some o)(hd:o.dst=none)(hg:o.guard=none)(ho:o.op= .mapUpdate t x y z∨o.op= .insert t x y z)(hU:P.underlying t=some (.map kt e))(hk:P.underlying kt=some (.int .i64))(hx:ev E x=some (.map (some g)))(hy:ev E y=some (.int .i64 k))(hz:ev E z=some u)(hm:Mp w g m)(hC:C w)
  (h:∀w',Only g w w'→Mp w' g (mset m k u)→WX P n ops C Q r E w'):WX P n ops C Q (.alt i r .none) E w:=by
 intro a ha;refine⟨⟨hC,?_⟩,trivial⟩;obtain⟨w',hr,h1,h2⟩:=run_mapUpdate_m (i:=k) (u:=u) hU hk hm;have hr:(execOp a.eval o).run P w= .ok .skip w':=by
  rcases ho with ho|ho<;>simp[execOp,ho,ha.ev hx,ha.ev hy,ha.ev hz,hr]
 unfold lOp;simp only[hi];rw[if_pos (wanted_plain hg _),hr];simp only[loudUpon];rw[hd];exact h w' h1 h2 _ ha
def RunV(P:Program)(n:Nat)(o:Oper)(E:Env)(w:World)(R:Value→World→Prop):Prop:=∀a,Ok n E a→∃v w',(execOp a.eval o).run P w= .ok (.value v) w'∧R v w'
theorem WX.run{R:Value→World→Prop}(hi:ops[i]? =some o)(hd:o.dst=some d)(hn:d<n)(hg:o.guard=none)(hC:C w)(hr:RunV P n o E w R)(h:∀v w',R v w'→WX P n ops C Q r ((d,v)::E) w'):WX P n ops C Q (.alt i r .none) E w:=by
 intro a ha;refine⟨⟨hC,?_⟩,trivial⟩;obtain⟨v,w',hr,hR⟩:=hr a ha;unfold lOp;simp only[hi];rw[if_pos (wanted_plain hg _),hr];simp only[loudUpon];rw[hd];exact h v w' hR _ (ha.put hn v)
theorem Run.bslice{t e len:Nat}{parts:Array (Nat×Operand)}{ps:List (Nat×Value)}{z:Value}{zs cs:List Value}{sz by':Nat}(ho:o.op= .buildSlice t len parts)(hU:P.underlying t=some (.slice e))(hT:TI P e z sz by')(hp:(len*sz !=0)=true)(hs:len*sz≤16777216)
  (hz:((Array.range (len*sz)).map (z.cells[·%z.cells.size]!))=zs.toArray) (hps:evp E parts.toList=some ps) (hf:fillP (fun i=>some (i*sz,sz)) zs ps=some cs):
  RunV P n o E w fun v w'=>∃g,v= .slice (some ⟨g,0,none⟩) len len∧g=w.heap.size∧Ext w w'∧Blk w' g e cs:=by
 intro a ha;have h0:¬len*sz=0:=by grind
 have h1:¬len*sz>2 ^ 24:=Om;have h3:(parts.map fun x=>(x.fst,a.eval x.snd))=ps.toArray:=by rw[←ha.evp hps,←List.map_toArray]
 have hfill:=fill_eq _ ps zs cs hf;refine⟨_,w.alloc (.cells cs.toArray e),?_,w.heap.size,rfl,rfl,(Ext.refl w).alloc _,Blk.new w e cs⟩;simp only[execOp,ho,Instr.buildSlice,Sem.run_bind,run_underlying hU,Result.andThen_ok,hT.sizeOf,h1,h0,if_false,hT.zeroValue,Sem.run_pure,hz,h3,newRow,run_newObj];simp_all
section app
variable{α:Type}{f:α→List Value}{sz base e t:Nat}{l:List α}{c:Call}
theorem Run.appendB{news:List α}{g cap:Nat}{cs:List Value}{z:Value}{by':Nat}(ho:o.op= .call c)(hc:c.callee= .builtin .append)(ht:c.argTypes= #[t,t])(hU:P.underlying t=some (.slice e))(hT:TI P e z sz by')(hz:z.cells.size=sz)(hp:0<sz)
  (ha:evs E c.args.toList=some [v,.slice (some ⟨g,0,none⟩) news.length cap]) (own:OwnL w base e f sz v l) (hf:∀x,(f x).length=sz) (h1:∀x,∀u∈f x,u.oneCell'=true) (hb:Blk w g e cs) (hcs:news.flatMap f=cs) (hbase:base≤w.heap.size) (hby:(l.length+news.length)*by'≤140737488355328) (hm:l.length+news.length≤maxLen):
  RunV P n o E w fun v' w'=>OwnL w' base e f sz v' (l++news)∧Gr w w' v.ownBlock∧(v'.ownBlock=v.ownBlock∨v'.ownBlock=some w.heap.size):=by
 intro a hA;obtain⟨cb,hcb⟩:=run_builtin (P:=P) (w:=w) hA ho hc ha;subst hcs;obtain⟨v',w',hr,h2,h3,h4⟩:=wp_append (P:=P) (news:=news) (ad:=⟨g,0,none⟩) (cap:=cap) hc ht hU hT hz hp own hf h1 (fun j u hu=>by rw[add_blk,Nat.zero_add];exact hb.cell hu) hbase hby hm o.type cb;grind
theorem Run.appendL{news:List α}{A:Option Addr}{cap k:Nat}{z:Value}{by':Nat}(ho:o.op= .call c)(hc:c.callee= .builtin .append)(ht:c.argTypes= #[t,t])(hU:P.underlying t=some (.slice e))(hT:TI P e z sz by')(hz:z.cells.size=sz)(hp:0<sz)
  (ha:evs E c.args.toList=some [v,.slice A k cap]) (own:OwnL w base e f sz v l) (hf:∀x,(f x).length=sz) (h1:∀x,∀u∈f x,u.oneCell'=true) (hL:Ls w A k cap f sz news) (hbase:base≤w.heap.size) (hby:(l.length+news.length)*by'≤140737488355328) (hm:l.length+news.length≤maxLen):
  RunV P n o E w fun v' w'=>OwnL w' base e f sz v' (l++news)∧Gr w w' v.ownBlock∧(v'.ownBlock=v.ownBlock∨v'.ownBlock=some w.heap.size):=by
 intro a hA;have hk:=hL.len;subst hk;have hb:=hL.rd;obtain⟨cb,hcb⟩:=run_builtin (P:=P) (w:=w) hA ho hc ha;have hcases:(∃ad,A=some ad∧∀j u,(news.flatMap f)[j]? =some u→w.cell? (ad.add j)=some u)∨(A=none∧news=[]):=by
  cases A with
  |none=>
   right
   refine⟨rfl,?_⟩;cases news with
   |nil=>rfl
   |cons x r=>obtain⟨ad,he,_⟩:=hb 0 x rfl;cases he
  |some ad=>
   left
   refine⟨ad,rfl,fun j u hu=> ?_⟩;have key:∀(q:List α) (i0:Nat),(∀i x,q[i]? =some x→∀j u,(f x)[j]? =some u→w.cell? (ad.add ((i0+i)*sz+j))=some u)→∀j u,(q.flatMap f)[j]? =some u→w.cell? (ad.add (i0*sz+j))=some u:=by
    intro q
    induction q with
    |nil=>grind
    |cons x r ih=>
     intro i0 hq j u hu;rw[List.flatMap_cons]at hu;by_cases hj:j<sz
     ·rw[List.getElem?_append_left (by grind)]at hu;have:=hq 0 x rfl j u hu;omega
     ·rw[List.getElem?_append_right (by grind),hf]at hu;have:=ih (i0+1) (fun i y hy j u hu=>by
       have:=hq (i+1) y (by grind) j u hu;grind) (j-sz) u hu
      grind
   have:=key news 0 (fun i x hx j u hu=>by
    obtain⟨ad',he,_,_,hc'⟩:=hb i x hx;grind) j u hu
   grind
 rcases hcases with⟨ad,rfl,hcells⟩|⟨rfl,rfl⟩
 ·obtain⟨v',w',hr,h2,h3,h4⟩:=wp_append (P:=P) (news:=news) (ad:=ad) (cap:=cap) hc ht hU hT hz hp own hf h1 hcells hbase hby hm o.type cb;grind
 ·refine⟨v,w,hcb.trans ?_,by grind,Gr.refl w _,.inl rfl⟩;obtain⟨i,hi,hi1,hi2,hi3⟩:=hT;have:(Builtin.append_ #[t,t] o.type #[v,.slice none 0 cap]).run P w= .ok v w:=by
   rcases own.2 with⟨rfl,_⟩|⟨g,cap',cur,rfl,_,_,hnc,_⟩
   ·simp[Builtin.append_,run_underlying hU,sizeOf,typeInfo,hi,Builtin.lenOf,Builtin.firstCells]
   ·simp[Builtin.append_,run_underlying hU,sizeOf,typeInfo,hi,Builtin.lenOf,Builtin.firstCells,hnc,storeCells]
  simp_all [builtin,List.toArray,List.cons,none,List.nil,Sem.run_bind,Result.andThen_ok,Sem.run_pure]
end app
theorem WC.regionX{Q:Exit→Act→World→Prop}{id:Nat}{l:List Oper}(C:World→Prop)(seq:Ord)(_hC:C w)(hm:P.follows .mixedOrders=true)(hB:mixQ l seq=true)
  (h:∀w1,Ext w w1→WX P n l.toArray C (Q .normal) seq E w1):WC P n (.region id l.toArray true) Q E w:=
 fun a ha=>wp_region_mix seq hm (mixB_of hB) (h _ ((Ext.refl w).drawn (Nat.le_succ _)) a ha)
end
def pk(k:Int×Int):Value:=.agg #[.int .i64 k.1,.int .i64 k.2]
structure PK(P:Program)(kt:TypeId):Prop where
 wide:(match P.underlying kt with|some (.array _ _)|some (.struct _)=>true|_=>false)=true
 eq:∀(a b c d:Int) (w:World),(Op.equalIn 10000 kt (.agg #[.int .i64 a,.int .i64 b]) (.agg #[.int .i64 c,.int .i64 d])).run P w= .ok ((a==c)&&(b==d)) w
 chk:∀(em:Bool) (a b:Int) (w:World),(Instr.checkKey em 10000 kt (.agg #[.int .i64 a,.int .i64 b])).run P w= .ok () w
abbrev PM:=List ((Int×Int)×Value)
def MpP(w:World)(g:Nat)(m:PM):Prop:=∃es clock,w.heap[g]? =some (.map es clock)∧es.toList.map (fun e=>(e.key,e.val))=m.map fun p=>(pk p.1,p.2)
def pget:PM→Int×Int→Option Value
 |[],_=>none
 |(k,v)::r,i=>if i=k then some v else pget r i
def pset:PM→Int×Int→Value→PM
 |[],i,u=>[(i,u)]
 |(k,v)::r,i,u=>if i=k then(k,u)::r else(k,v)::pset r i u
def pval(m:PM)(i:Int×Int)(z:Value):Value:=(pget m i).getD z
theorem pset_none:∀(m:PM) (i:Int×Int) (u:Value),pget m i=none→pset m i u=m++[(i,u)]
 |[],i,u,_=>rfl
 |(k,v)::r,i,u,h=>by
  simp only[pget]at h;by_cases hi:i=k
  ·grind
  ·simp only[hi,if_false]at h;simp[pset,hi,pset_none r i u h]
section
variable{P:Program}{w w':World}{g:Nat}{m:PM}
theorem MpP.lt(h:MpP w g m):g<w.heap.size:=by
 obtain⟨es,c,h1,_⟩:=h;grind
theorem MpP.of_block(h:MpP w g m)(hb:w'.heap[g]? =w.heap[g]?):MpP w' g m:=by
 obtain⟨es,c,h1,h2⟩:=h;exact⟨es,c,hb.trans h1,h2⟩
theorem MpP.ext(h:MpP w g m)(x:Ext w w'):MpP w' g m:=h.of_block (x.block g h.lt)
theorem findAsking_m{kt:TypeId}(hk:PK P kt)(i:Int×Int)(w:World):∀(l:List MapEntry) (m:PM) (k:Nat),l.map (fun e=>(e.key,e.val))=m.map (fun p=>(pk p.1,p.2))→
  ∃r,(Instr.findAsking kt (pk i) l k).run P w= .ok r w∧(r.map (·.2))=pget m i∧∀j u,r=some (j,u)→∃j',j=k+j'∧j'<l.length∧(l[j']?).map (·.key)=some (pk i)∧∀v,((l.modify j' fun e=>{e with key:=pk i,val:=v}).map fun e=>(e.key,e.val))=(pset m i v).map fun p=>(pk p.1,p.2)
 |[],[],k,_=>⟨none,by rfl,rfl,by simp⟩
 |[],_::_,_,h=>by simp at h
 |_::_,[],_,h=>by simp at h
 |e::l,(a,u)::m,k,h=>by
  simp only[List.map_cons,List.cons.injEq,Prod.mk.injEq]at h;obtain⟨⟨h1,h2⟩,h3⟩:=h;have hq:(Op.equal kt (pk i) e.key).run P w= .ok ((i.1==a.1)&&(i.2==a.2)) w:=by
   rw[h1];exact hk.eq i.1 i.2 a.1 a.2 w
  by_cases hi:i=a
  ·subst hi;refine⟨some (k,u),?_,by simp[pget],?_⟩
   ·simp_all [Instr.findAsking,Sem.run_bind,Result.andThen_ok,beq_self_eq_true,Bool.and_self,if_true,Sem.run_pure]
   simp_all [Exists.intro,And.intro,pset]
  ·obtain⟨r,hr,hm,hj⟩:=findAsking_m hk i w l m (k+1) h3;have hb:((i.1==a.1)&&(i.2==a.2))=false:=by
    grind
   refine⟨r,?_,by grind [pget],?_⟩
   ·simp_all [Instr.findAsking,Sem.run_bind,Result.andThen_ok,Bool.false_eq_true,if_false]
   ·rintro j u' hju;obtain⟨j',e1,e2,e3,e4⟩:=hj j u' hju;refine⟨j'+1,Om,by grind,by grind,fun v=> ?_⟩;simp_all [List.modify_succ_cons,List.map_cons,pset,if_false]
theorem findKey_p{kt:TypeId}(hk:PK P kt){es:Array MapEntry}(h:es.toList.map (fun e=>(e.key,e.val))=m.map fun p=>(pk p.1,p.2))(i:Int×Int)(w:World):
  ∃r,(Instr.findKey kt (pk i) es.toList).run P w= .ok r w∧(r.map (·.2))=pget m i∧∀j u,r=some (j,u)→j<es.size∧(es[j]?).map (·.key)=some (pk i)∧∀v,((es.modify j fun e=>{e with key:=pk i,val:=v}).toList.map fun e=>(e.key,e.val))=(pset m i v).map fun p=>(pk p.1,p.2):=by
 obtain⟨r,h1,h2,h3⟩:=findAsking_m hk i w es.toList m 0 h;refine⟨r,by rw[run_findKey_eq w hk.wide];exact h1,h2,fun j u hr=> ?_⟩;grind
theorem run_mapUpdate_p{t kt e:Nat}{i:Int×Int}{u:Value}(hU:P.underlying t=some (.map kt e))(hk:PK P kt)(hm:MpP w g m):∃w',(Instr.mapUpdate t (.map (some g)) (pk i) u).run P w= .ok () w'∧Only g w w'∧MpP w' g (pset m i u):=by
 have hlt:=hm.lt;obtain⟨es,c,h1,h2⟩:=hm;obtain⟨r,hr,hg,hs⟩:=findKey_p hk h2 i w;have h1':(getObj g).run P w= .ok (.map es c) w:=run_getObj_map' h1;have hc:(Instr.checkKey false 10000 kt (pk i)).run P w= .ok () w:=hk.chk false i.1 i.2 w;cases r with
 |none=>
  refine⟨{w with heap:=w.heap.setIfInBounds g (.map (es.push {key:=pk i,val:=u,born:=c}) (c+1))},?_,Only.setObj _ _ _,?_⟩
  ·simp_all [Instr.mapUpdate,Sem.run_bind,Result.andThen_ok,run_underlying,setObj,Sem.run]
  ·refine⟨_,_,Array.getElem?_setIfInBounds_self_of_lt hlt,?_⟩;grind [pset_none]
 |some p=>
  obtain⟨j,v0⟩:=p;obtain⟨h3,h4,h5⟩:=hs j v0 rfl;refine⟨{w with heap:=w.heap.setIfInBounds g (.map (es.modify j fun e=>{e with key:=pk i,val:=u}) c)},?_,Only.setObj _ _ _,?_⟩
  ·have hst:(Instr.keyThatStays (((es[j]?).map (·.key)).getD (pk i)) (pk i)).run P w= .ok (pk i) w:=by
    simp_all [Instr.keyThatStays,Instr.sameBits,pk]
   simp_all [Instr.mapUpdate,Sem.run_bind,Result.andThen_ok,run_underlying,setObj,Sem.run]
  ·exact⟨_,_,Array.getElem?_setIfInBounds_self_of_lt hlt,h5 u⟩
end
namespace Y
theorem lookupOkP{P:Program}{o:Oper}{n:Nat}{E:Env}{C:World→Prop}{x y:Operand}{t kt e g:Nat}{a b:Int}{m:PM}{z:Value}{sz by':Nat}(ho:o.op= .lookup t x y true)(hU:P.underlying t=some (.map kt e))(hk:PK P kt)(hT:TI P e z sz by')(hx:ev E x=some (.map (some g)))(hy:ev E y=some (.agg #[.int .i64 a,.int .i64 b]))(hm:∀w,C w→MpP w g m):
  Yld P o n E C (.tuple #[pval m (a,b) z,.bool (pget m (a,b)).isSome]):=by
 intro A w ha hC;obtain⟨es,c,h1,h2⟩:=hm w hC;obtain⟨r,hr,hg,_⟩:=findKey_p hk h2 (a,b) w;have h1':(getObj g).run P w= .ok (.map es c) w:=run_getObj_map' h1;have hc:(Instr.checkKey es.isEmpty 10000 kt (.agg #[.int .i64 a,.int .i64 b])).run P w= .ok () w:=hk.chk _ a b w;have hr':(Instr.findKey kt (.agg #[.int .i64 a,.int .i64 b]) es.toList).run P w= .ok r w:=hr;cases r with
 |none=>
  simp only[execOp,ho,ha.ev hx,ha.ev hy,Instr.lookup,run_underlying hU,Sem.run_bind,Result.andThen_ok,h1',Sem.run_pure,hc,hr',hT.zeroValue,pval,←hg];rfl
 |some p=>
  simp only[execOp,ho,ha.ev hx,ha.ev hy,Instr.lookup,run_underlying hU,Sem.run_bind,Result.andThen_ok,h1',Sem.run_pure,hc,hr',pval,←hg];rfl
theorem lenMapP{P:Program}{o:Oper}{n:Nat}{E:Env}{C:World→Prop}{t kt e g:Nat}{m:PM}{c:Call}(ho:o.op= .call c)(hc:c.callee= .builtin .len)(ht:c.argTypes= #[t])(hU:P.underlying t=some (.map kt e))(ha:evs E c.args.toList=some [.map (some g)])(hm:∀w,C w→MpP w g m):
  Yld P o n E C (.int .i64 ((m.length:Nat):Int)):=by
 intro A w hA hC;obtain⟨es,cl,h1,h2⟩:=hm w hC;obtain⟨cb,hcb⟩:=run_builtin (P:=P) (w:=w) hA ho hc ha;have hl:es.size=m.length:=by
  have:=congrArg List.length h2;grind
 rw[hcb];simp[builtin,ht,Builtin.len_,run_underlying hU,run_getObj_map' h1,hl,goInt]
end Y
section memory
variable{P:Program}{n:Nat}{ops:Array Oper}{Q:Exit→Act→World→Prop}{E:Env}{w:World}{o:Oper}{rest:List Oper}{d:Nat}
theorem WL.makeMapP{t:TypeId}(hd:o.dst=some d)(hn:d<n)(hg:o.guard=none)(ho:o.op= .makeMap t none)
  (h:∀g w',g=w.heap.size→Ext w w'→MpP w' g []→WL P n ops Q rest ((d,.map (some g))::E) w'):WL P n ops Q (o::rest) E w:=by
 intro a ha;have hr:(execOp a.eval o).run P w= .ok (.value (.map (some w.heap.size))) (w.alloc (.map #[] 0)):=by
  simp[execOp,ho,Instr.makeMap,run_newObj]
 refine wpList_plain hg fun K hK=>wp_of_run hr (hK _ _ ?_);rw[hd];exact h _ _ rfl ((Ext.refl w).alloc _) ⟨_,_,heap_alloc_new w _,rfl⟩ _ (ha.put hn _)
theorem WL.mapUpdateP{t kt e g:Nat}{x y z:Operand}{a b:Int}{u:Value}{m:PM}(hd:o.dst=none)(hg:o.guard=none)(ho:o.op= .mapUpdate t x y z∨o.op= .insert t x y z)(hU:P.underlying t=some (.map kt e))(hk:PK P kt)(hx:ev E x=some (.map (some g)))(hy:ev E y=some (.agg #[.int .i64 a,.int .i64 b]))(hz:ev E z=some u)(hm:MpP w g m)
  (h:∀w',Only g w w'→MpP w' g (pset m (a,b) u)→WL P n ops Q rest E w'):WL P n ops Q (o::rest) E w:=by
 intro A ha;obtain⟨w',hr,h1,h2⟩:=run_mapUpdate_p (i:=(a,b)) (u:=u) hU hk hm;have hr:(execOp A.eval o).run P w= .ok .skip w':=by
  rcases ho with ho|ho<;>simp[execOp,ho,ha.ev hx,ha.ev hy,ha.ev hz]<;>(rw[show(Instr.mapUpdate t (.map (some g)) (.agg #[.int .i64 a,.int .i64 b]) u).run P w= .ok () w' from hr];rfl)
 refine wpList_plain hg fun K hK=> ?_;unfold Oper.wp;rw[hr];exact hK _ _ (by rw[hd];exact h w' h1 h2 _ ha)
end memory
end Go.Eng
