/- Part 20 of the proof. Conditions: what each theorem states. -/
import Derived.Test.YtaclfjjipnpboaaGreatP04
import Derived.Test.YtaclfjjipnpboaaGreatP01
import Derived.Test.YtaclfjjipnpboaaGreatP18
import Derived.Test.YtaclfjjipnpboaaGreatP17
import Derived.Test.YtaclfjjipnpboaaGreatP19
import Derived.Test.YtaclfjjipnpboaaGreatP07
import Derived.Sort.OwnSorted
import Derived.Maps.Own
import Derived.Maps.OwnSet
import Derived.Lib.SlKeysI
import Derived.Test.YtaclfjjipnpboaaGreatP03
set_option linter.all false
set_option maxHeartbeats 4000000
set_option maxRecDepth 4000
namespace Go.Proofs.YtaclfjjipnpboaaGreat
open Go Go.Shelf Go.RowKit Go.Lib Go.Sort Go.Proofs Go.Eng Go.Maps
namespace TW
namespace Sq
def ltF(x y:Sp.S):Bool:=ltOf (fun x y:Sp.S=>Lib.compareInt x.f y.f) x y
theorem ltF_eq(x y:Sp.S):ltF x y=decide (x.f<y.f):=by
 unfold ltF ltOf Lib.compareInt;grind
theorem swo:SWO ltF where
 irrefl x:=by rw[ltF_eq];simp
 trans x y z h1 h2:=by grind [ltF_eq]
 ntrans x y z h1 h2:=by grind [ltF_eq]
end Sq
def srtS(l:List Sp.S):List Sp.S:=srtBy Sq.ltF l
theorem srtS_len(l:List Sp.S):(srtS l).length=l.length:=srtBy_len Sq.ltF Sq.swo l
theorem srtS_perm(l:List Sp.S):(srtS l).Perm l:=(srtBy_sorts Sq.ltF Sq.swo l).1
theorem srtS_up(l:List Sp.S):(srtS l).Pairwise fun a b=>a.f≤b.f:=by
 rw[List.pairwise_iff_getElem];intro i j hi hj hij;have:=(srtBy_sorts Sq.ltF Sq.swo l).2 i j hij (by grind [srtS_len]);rw[Sq.ltF_eq]at this;have:=of_decide_eq_false this;have e1:(srtBy Sq.ltF l)[i]! =(srtS l)[i]:=getElem!_pos (srtS l) i hi;have e2:(srtBy Sq.ltF l)[j]! =(srtS l)[j]:=getElem!_pos (srtS l) j hj;grind
theorem join_norm(l:List Sp.S):(srtS (l.filter Sp.ok)).foldl Sp.step []=Sp.norm l:=Sp.norm_of_perm (srtS_perm _) (srtS_up _)
set_option maxHeartbeats 1000000 in
theorem closureF(x y:Sp.S)(W:World):Calls Tryz.prog 135 #[.agg #[.int .i64 x.f,.int .i64 x.t],.agg #[.int .i64 y.f,.int .i64 y.t]] W fun e w'=>e= .returned (.int .i64 (Lib.compareInt x.f y.f))∧∃q os',w'=grow (W.drewN q) os':=by
 have hcon:=fun W'=>AnyG.cmp_Compare_int Tryz.cmpInt x.f y.f W';change ∀W',Calls Tryz.prog 44 _ _ _ at hcon;generalize Lib.compareInt x.f y.f=r at hcon ⊢
 go_enter Tryz.func135,Tryz.ntmps135
 go_wp2_with (go_at_call 44;refine(hcon _).mono ?_;rintro e w' ⟨rfl,rfl⟩)
 go_ret
 exact⟨rfl,0,_,by rw[alloc_eq_grow,alloc_eq_grow,grow_grow];rfl⟩
theorem closureN(x y:Int)(W:World):Calls Tryz.prog 44 #[.int .i64 x,.int .i64 y] W fun e w'=>e= .returned (.int .i64 (Lib.compareInt x y))∧∃q os',w'=grow (W.drewN q) os':=
 (AnyG.cmp_Compare_int Tryz.cmpInt x y W).mono fun e w' h=>⟨h.1,0,#[],by rw[h.2,grow_empty];rfl⟩
theorem sortS_row(v:Value)(base:Nat)(l:List Sp.S)(w:World)(ow:OwnL w base 33 Sp.S.c 2 v l)(hl:l.length≤200000):Calls Tryz.prog 134 #[v,.func (.func 135) #[] #[]] w fun e w'=>e= .returned (.tuple #[])∧OwnL w' base 33 Sp.S.c 2 v (srtS l)∧Gr w w' v.ownBlock:=by
 have hlen:=srtS_len l;rcases ow.2 with⟨rfl,h0⟩|⟨g,cap,cur,rfl,h1,h2,h3,h4,h5,h6⟩
 ·refine(AnyF.slices_SortFunc_none (P:=Tryz.prog) (ρ:=Tryz.sortS_ren) {Tryz.sortS with} none 0 (.func (.func 135) #[] #[]) w).mono fun e w' ⟨he,hw⟩=> ?_;simp_all [List.nil,List.eq_nil_of_length_eq_zero,srtS,And.intro,Gr.refl]
 ·have hg:g<w.heap.size:=(Array.getElem?_eq_some_iff.1 h2).1;have hcon:=AnyQ.slices_SortFunc_eq (P:=Tryz.prog) (ρ:=Tryz.sortS_ren) {Tryz.sortS with} 2 Tryz.isAgg33 Tryz.sizeOf33 Sp.S.c (fun _=>rfl) Sp.S.one (fun x y=>Lib.compareInt x.f y.f) Sq.swo 135 #[] g 0 cap l.toArray w (enters_of Tryz.func135 (by rfl) rfl) (fun _ _ _ _ x y=>closureF x y _) (holdsK_own (f:=Sp.S.c) (sz:=2) (l:=l) (fun _=>rfl) Dc h2 h6) hg (by grind);refine Calls.mono (show Calls Tryz.prog 134 #[.slice (some ⟨g,0,none⟩) l.length cap,.func (.func 135) #[] #[]] w _ from hcon) fun e w' hw=> ?_;obtain⟨he,n,os,rfl⟩:=hw;exact⟨he,own_sortK (f:=Sp.S.c) (fun _=>rfl) Dc (ss:=l) (ts:=srtS l) hlen h1 h2 h3 h4 h5,grown_sortK _⟩
theorem sortS_any(v:Value)(l:List Sp.S)(W:World)(R:List Res)(w:World)(H:Hp W w (row 33 Sp.S.c 2 v l::R))(hl:l.length≤100000):Calls Tryz.prog 134 #[v,.func (.func 135) #[] #[]] w fun e w'=>e= .returned (.tuple #[])∧Hp W w' (row 33 Sp.S.c 2 v (srtS l)::R):=
 (sortS_row v 0 l w H.head Om).mono fun e w' h=>⟨h.1,H.grown Put.here h.2.2 h.2.1 (.inl rfl)⟩
def ltN(x y:Int):Bool:=ltOf Lib.compareInt x y
theorem ltN_eq(x y:Int):ltN x y=decide (x<y):=by
 unfold ltN ltOf Lib.compareInt;grind
theorem swoN:SWO ltN where
 irrefl x:=by rw[ltN_eq];simp
 trans x y z h1 h2:=by grind [ltN_eq]
 ntrans x y z h1 h2:=by grind [ltN_eq]
def srtN(l:List Int):List Int:=srtBy ltN l
theorem srtN_len(l:List Int):(srtN l).length=l.length:=srtBy_len ltN swoN l
theorem srtN_perm(l:List Int):(srtN l).Perm l:=(srtBy_sorts ltN swoN l).1
theorem sortN_any(v:Value)(l:List Int)(W:World)(R:List Res)(w:World)(H:Hp W w (row 3 ic 1 v l::R))(hl:l.length≤1000000):Calls Tryz.prog 84 #[v,.func (.func 44) #[] #[]] w fun e w'=>e= .returned (.tuple #[])∧Hp W w' (row 3 ic 1 v (srtN l)::R):=by
 have ow:OwnL w 0 3 ic 1 v l:=H.head;refine(show Calls Tryz.prog 84 #[v,.func (.func 44) #[] #[]] w fun e w'=>e= .returned (.tuple #[])∧OwnL w' 0 3 ic 1 v (srtN l)∧Gr w w' v.ownBlock from ?_).mono fun e w' h=>⟨h.1,H.grown Put.here h.2.2 h.2.1 (.inl rfl)⟩;have hlen:=srtN_len l;rcases ow.2 with⟨rfl,h0⟩|⟨g,cap,cur,rfl,h1,h2,h3,h4,h5,h6⟩
 ·refine(AnyF.slices_SortFunc_none (P:=Tryz.prog) (ρ:=Tryz.sortN_ren) {Tryz.sortN with} none 0 (.func (.func 44) #[] #[]) w).mono fun e w' ⟨he,hw⟩=> ?_;simp_all [List.nil,List.eq_nil_of_length_eq_zero,srtN,And.intro,Gr.refl]
 ·have hg:g<w.heap.size:=(Array.getElem?_eq_some_iff.1 h2).1;have h6':cur.toList.take l.length=l.map (Value.int .i64):=by simp_all [flat_ic,Nat.mul_one]
  have hcon:=Any.slices_SortFunc_eq (P:=Tryz.prog) (ρ:=Tryz.sortN_ren) {Tryz.sortN with a24:=Tryz.isAgg3,z24:=Tryz.sizeOf3} (Value.int .i64) (fun _=>rfl) Lib.compareInt swoN 44 #[] g 0 cap l.toArray w (enters_of Tryz.func44 (by rfl) rfl) (fun _ _ _ _ x y=>closureN x y _) (holds_of_blockI h2 h6') hg (by grind);refine Calls.mono (show Calls Tryz.prog 84 #[.slice (some ⟨g,0,none⟩) l.length cap,.func (.func 44) #[] #[]] w _ from hcon) fun e w' hw=> ?_;obtain⟨he,n,os,rfl⟩:=hw;refine⟨he,?_,⟨grownBy_sortedI _,Dle.of (Nat.le_add_right _ _)⟩⟩;have:=ownsRow_sortedI (w:=w) (n:=n) (os:=os) (base:=0) (ss:=l) (ts:=srtN l) hlen h1 h2 h3 h4 (by rw[h5]);unfold OwnL;rw[flat_ic,hlen];exact this
def bl(x:ByteArray):List UInt8:=x.data.toList
theorem enc_bl(x:ByteArray):encStr (bl x)= .string x:=by rfl
def srtB(l:List ByteArray):List ByteArray:=((l.map bl).mergeSort fun x y=>decide (x≤y)).map fun x=>⟨x.toArray⟩
theorem flat_sc(l:List ByteArray):l.flatMap sc=(l.map bl).map encStr:=by
 induction l with
 |nil=>rfl
 |cons x r ih=>rw[List.flatMap_cons,ih,List.map_cons,List.map_cons,enc_bl];rfl
theorem bl_mk(l:List (List UInt8)):(l.map fun x=>(⟨x.toArray⟩:ByteArray)).map bl=l:=by
 rw[List.map_map];have:(bl∘fun x:List UInt8=>(⟨x.toArray⟩:ByteArray))=id:=by rfl
 simp_all
theorem srtB_len(l:List ByteArray):(srtB l).length=l.length:=by grind [srtB,List.length_map,List.length_mergeSort]
theorem srtB_bl(l:List ByteArray):(srtB l).map bl=(l.map bl).mergeSort fun x y=>decide (x≤y):=bl_mk _
theorem mk_bl(l:List ByteArray):((l.map bl).map fun x=>(⟨x.toArray⟩:ByteArray))=l:=by
 rw[List.map_map];have:((fun x:List UInt8=>(⟨x.toArray⟩:ByteArray))∘bl)=id:=by rfl
 simp_all
theorem srtB_perm(l:List ByteArray):(srtB l).Perm l:=by
 have h:=(List.mergeSort_perm (l.map bl) fun x y=>decide (x≤y)).map fun x=>(⟨x.toArray⟩:ByteArray);rw[mk_bl]at h;exact h
theorem sortB_any(v:Value)(l:List ByteArray)(W:World)(R:List Res)(w:World)(H:Hp W w (row 9 sc 1 v l::R))(hl:l.length≤100000):Calls Tryz.prog 132 #[v] w fun e w'=>e= .returned (.tuple #[])∧Hp W w' (row 9 sc 1 v (srtB l)::R):=by
 have ow:OwnL w 0 9 sc 1 v l:=H.head;refine(show Calls Tryz.prog 132 #[v] w fun e w'=>e= .returned (.tuple #[])∧OwnL w' 0 9 sc 1 v (srtB l)∧Gr w w' v.ownBlock from ?_).mono fun e w' h=>⟨h.1,H.grown Put.here h.2.2 h.2.1 (.inl rfl)⟩;have hlen:=srtB_len l;rcases ow.2 with⟨rfl,h0⟩|⟨g,cap,cur,rfl,h1,h2,h3,h4,h5,h6⟩
 ·refine(Any.slices_Sort_string_none Tryz.lays132 none 0 w).mono fun e w' ⟨he,hw⟩=> ?_;simp_all [List.nil,List.eq_nil_of_length_eq_zero,srtB,And.intro,Gr.refl]
 ·have h6':cur.toList.take (l.map bl).length=(l.map bl).map encStr:=by simp_all [flat_sc,Nat.mul_one,List.length_map]
  have hg:g<w.heap.size:=(Array.getElem?_eq_some_iff.1 h2).1;have hcon:=Any.slices_Sort_string Tryz.lays132 g 0 cap (l.map bl) w (holds_of_block h2 h6') hg (by grind);rw[List.length_map]at hcon;refine Calls.mono (show Calls Tryz.prog 132 #[.slice (some ⟨g,0,none⟩) l.length cap] w _ from hcon) fun e w' hw=> ?_;obtain⟨he,n,os,rfl⟩:=hw;refine⟨he,?_,⟨grownBy_sorted _,Dle.of (Nat.le_add_right _ _)⟩⟩;grind [ownsRow_sorted,bl,decide,List.length_mergeSort,List.length_map,OwnL,flat_sc,srtB_bl]
end TW
end Go.Proofs.YtaclfjjipnpboaaGreat
namespace Go.Eng
open Go Go.RowKit Go.MapKept
open Go.WideElems (Fit)
def R0(_:Value):Option (DataW Unit×List MemPlace):=some (.lit (.bool false),[])
theorem mp_owns{P:Program}{k:TypeId}(hk:P.underlying k=some (.int .i64)){w:World}{b:Nat}{m:List (Int×Value)}(h:Mp w b m)
  (hf:∀p∈m,(Lit.int .i64 p.1).wf=true) (hm:m.length≤maxLen):
  ∃D0:DataW Unit,w.ownsMap P k R0 b m.length D0∧(intKeys D0).Perm (m.map (·.1))∧Maps.size D0=m.length:=by
 obtain⟨es,clock,h1,h2,h3,h4,h5⟩:=h;have hlen:es.toList.length=m.length:=by have:=congrArg List.length h2;grind
 have hkeys:es.toList.map (·.key)=(m.map (·.1)).map (Value.int .i64):=by
  have:=congrArg (List.map (·.1)) h2;rw[List.map_map,List.map_map]at this;rw[List.map_map];exact this
 have hat:∀x∈es.toList,∃p∈m,x.key= .int .i64 p.1:=fun x hx=>by
  have:(x.key,x.val)∈m.map (fun p=>((.int .i64 p.1:Value),p.2)):=by grind
  grind
 have hrd:∀x∈es.toList,∃p∈m,x.key= .int .i64 p.1∧∃d:DataW Unit,WideElems.rd P k R0 x=some (.int .i64 p.1,d):=fun x hx=>by
  obtain⟨p,hp,e1⟩:=hat x hx;refine⟨p,hp,e1,.lit (.bool false),?_⟩;unfold WideElems.rd;rw[e1,Maps.keyOf_int_mk hk (hf p hp)];rfl
 have hrg:∀x∈es.toList,intOf (WideElems.rg (H:=Unit) P k R0 x).1=match x.key with| .int _ a=>a|_=>0:=fun x hx=>by
  obtain⟨p,hp,e1,d,hd⟩:=hrd x hx;unfold WideElems.rg;rw[hd,e1];rfl
 have hfit:Fit (H:=Unit) P k R0 es clock:=⟨by grind,⟨h3,h4,by grind⟩,fun x hx=>by
  grind⟩
 have hperm:((es.toList.map (WideElems.rg (H:=Unit) P k R0)).foldr DataW.insert []).Perm (es.toList.map (WideElems.rg P k R0)):=WideShapes.sorted_perm _;refine⟨_,⟨es,clock,h1,hfit,by grind,rfl⟩,?_,?_⟩
 ·show(((es.toList.map (WideElems.rg (H:=Unit) P k R0)).foldr DataW.insert []).map fun p=>intOf p.1).Perm _;refine(hperm.map _).trans (List.Perm.of_eq ?_);have e1:(es.toList.map (WideElems.rg (H:=Unit) P k R0)).map (fun p=>intOf p.1)=(es.toList.map (·.key)).map (fun v=>match v with| .int _ a=>a|_=>(0:Int)):=by
   grind [List.map_map,List.map_congr_left]
  simp_all
 ·show((es.toList.map (WideElems.rg (H:=Unit) P k R0)).foldr DataW.insert []).length=_;rw[hperm.length_eq,List.length_map,hlen]
end Go.Eng
namespace Go.Proofs.YtaclfjjipnpboaaGreat
open Go Go.Shelf Go.RowKit Go.Maps Go.Sort Go.Proofs Go.Eng
namespace TW
theorem col_any(g b:Nat)(m:List (Int×Value))(w:World)(hg:Blk w g 123 [.map (some b)])(hm:Mp w b m)(hf:∀p∈m,-1000000000000000≤p.1∧p.1≤1000000000000000)(hl:m.length≤1000000):
  Calls Tryz.prog 83 #[.func (.func 85) #[] #[.pointer (some ⟨g,0,none⟩)]] w fun e w'=>∃v L,e= .returned v∧L.Perm (m.map (·.1))∧OwnL w' w.heap.size 3 ic 1 v L∧Ext w w':=by
 obtain⟨D0,hown,hperm,hsize⟩:=mp_owns (P:=Tryz.prog) Tryz.underlying3 hm (fun p hp=>by have:=hf p hp;have h1:IntKind.i64.min= -9223372036854775808:=Dc;have h2:IntKind.i64.max=9223372036854775807:=Dc;show(decide (IntKind.i64.min≤p.1)&&decide (p.1≤IntKind.i64.max))=true;grind) (Nat.le_trans hl Dc);have hseq:SeqGives Fence.wide 3 Tryz.prog 85 #[.pointer (some ⟨g,0,none⟩)] encZ (fun ss=>ss.Perm (intKeys D0)) (Maps.size D0) w:=
  AnyZI.keys_gives (ρ:=Tryz.keysA_ren) {Tryz.keysA with} Fence.wide _ trivial rfl Om g b m.length D0 w hg.lt (hg.cell rfl) hown
 have cS:=AnyZI.collect_in Tryz.colA Fence.wide 5 trivial trivial rfl Om 85 #[.pointer (some ⟨g,0,none⟩)] trivial (enters_of Tryz.func85 (by rfl) rfl) _ _ (Nat.le_trans (hsize▸hl) Dc) Om w hseq;change CallsIn _ _ Tryz.prog 83 _ _ _ at cS;refine((callsIn_wide (n:=5)).1 cS).mono fun e w' ⟨v,ss,he,hS,hrow,_,hb⟩=>⟨v,ss,he,hS.trans hperm,?_,Ext.of hb⟩;unfold OwnL;rw[flat_ic];exact hrow
def isum(m:List (Int×Int)):Int:=(m.map (·.2)).sum
theorem isum_put:∀(m:List (Int×Int)) (i d:Int),isum (iset m i ((iget m i).getD 0+d))=isum m+d
 |[],i,d=>by simp[isum,iset,iget]
 |(k,v)::r,i,d=>by
  have ih:=isum_put r i d;unfold isum at ih ⊢;by_cases h:i=k
  ·simp only[iset,iget,if_pos h,Option.getD_some,List.map_cons,List.sum_cons];omega
  ·simp only[iset,iget,if_neg h,List.map_cons,List.sum_cons];omega
theorem iset_mem:∀(m:List (Int×Int)) (i u:Int) (p:Int×Int),p∈iset m i u→p.1=i∨p∈m
 |[],i,u,p,h=>.inl (by rw[List.mem_singleton.1 h])
 |(k,v)::r,i,u,p,h=>by
  unfold iset at h;split at h
  ·rename_i e;grind
  ·rcases List.mem_cons.1 h with h|h
   ·grind
   ·exact(iset_mem r i u p h).imp id (List.mem_cons_of_mem _)
theorem iset_len:∀(m:List (Int×Int)) (i u:Int),(iset m i u).length≤m.length+1
 |[],_,_=>Nat.le_refl _
 |(k,v)::r,i,u=>by
  have:=iset_len r i u;grind [iset,List.length_cons]
theorem keys_vals:∀(m:List (Int×Int)),(m.map (·.1)).Nodup→(m.map (·.1)).map (fun k=>(iget m k).getD 0)=m.map (·.2)
 |[],_=>rfl
 |(k,v)::r,h=>by
  have h:=List.nodup_cons.1 h;rw[List.map_cons,List.map_cons,List.map_cons]
  congr 1
  ·simp[iget]
  ·rw[←keys_vals r h.2];grind [List.map_congr_left,iget]
theorem perm_sum{l l':List Int}(h:l.Perm l'):l.sum=l'.sum:=by
 induction h<;>grind
end TW
end Go.Proofs.YtaclfjjipnpboaaGreat
section
attribute [local irreducible] Go.Eng.WC Go.Eng.WL Go.Eng.WK Go.Eng.WQ Go.Eng.WX Go.Eng.Yld
namespace Go.Proofs.YtaclfjjipnpboaaGreat
open Go Go.Eng Go.RowKit
namespace TW
theorem sf_any(g b:Nat)(m:List (Int×Value))(w:World)(hg:Blk w g 123 [.map (some b)])(hm:Mp w b m)(hf:∀p∈m,-1000000000000000≤p.1∧p.1≤1000000000000000)(hl:m.length≤1000000):
  Calls Tryz.prog 42 #[.func (.func 85) #[] #[.pointer (some ⟨g,0,none⟩)],.func (.func 44) #[] #[]] w fun e w'=>∃v L,e= .returned v∧L.Perm (m.map (·.1))∧OwnL w' w.heap.size 3 ic 1 v L∧Ext w w':=by
 have H:=(Hp.nil w);refine Wb Tryz.func42 ?_;refine go ?_;refine c3 Fh (col_any g b m _ (hg.ext H.ext) (hm.ext H.ext) hf hl) ?_;rintro _ z ⟨v1,L1,rfl,hP,ow,x⟩;have H:=H.newRow ow x;have l_:=hP.length_eq;rw[List.length_map]at l_;refine⟨_,rfl,?_⟩;refine go ?_;refine c3 Fh (sortN_any _ _ _ _ _ (H.front [0]) Om) ?_;rintro _ z ⟨rfl,H⟩;refine⟨_,rfl,?_⟩;refine go ?_;refine Rt [_] ?_;exact⟨_,_,rfl,(srtN_perm L1).trans hP,H.out 0,H.ext⟩
def shc(x:Int×Int):List Value:=[.int .i64 x.1,.int .i64 x.2]
theorem shc_one(x:Int×Int):∀u∈shc x,u.oneCell'=true:=by simp[shc,Value.oneCell']
def shM(l:List Ho):Nat→List (Int×Int)
 |0=>[]
 |j+1=>iset (shM l j) l[j]!.th ((iget (shM l j) l[j]!.th).getD 0+(l[j]!.t-l[j]!.f))
section
variable{l:List Ho}(hv:∀h∈l,(0≤h.f∧h.f<h.t∧h.t≤1000000000000)∧0≤h.th∧h.th≤1000000000000000)
include hv
theorem shM_rng:∀j,j≤l.length→∀i,0≤(iget (shM l j) i).getD 0∧(iget (shM l j) i).getD 0≤1000000000000*(j:Int)
 |0,_,i=>⟨Int.le_refl _,Int.le_refl _⟩
 |j+1,hj,i=>by
  have h1:=shM_rng j Om i;have h2:=shM_rng j Om l[j]!.th;have h3:=hv _ (mem_b (show j<l.length from hj));unfold shM;rw[iget_iset];split
  ·rw[Option.getD_some];omega
  ·omega
theorem shM_keys:∀j,j≤l.length→∀p∈shM l j,0≤p.1∧p.1≤1000000000000000
 |0,_,p,h=>by cases h
 |j+1,hj,p,h=>by
  rcases iset_mem _ _ _ _ h with e|e
  ·rw[e];exact(hv _ (mem_b (show j<l.length from hj))).2
  ·exact shM_keys j Om p e
end
theorem shM_len(l:List Ho):∀j,(shM l j).length≤j
 |0=>Nat.le_refl _
 |j+1=>Nat.le_trans (iset_len _ _ _) (Nat.succ_le_succ (shM_len l j))
theorem shM_sum(l:List Ho):∀j,j≤l.length→isum (shM l j)=hoS (l.take j)
 |0,_=>rfl
 |j+1,hj=>by
  rw[take_1 Om,hoS_app,hoS_one,←shM_sum l j Om];exact isum_put _ _ _
theorem im_keys(m:List (Int×Int)):(im m).map (·.1)=m.map (·.1):=by unfold im;rw[List.map_map];rfl
def shP(l:List Ho)(K:List Int):List (Int×Int):=K.map fun k=>(k,(iget (shM l l.length) k).getD 0)
theorem shP_sum{l:List Ho}{K:List Int}(hK:K.Perm ((im (shM l l.length)).map (·.1)))(hn:((im (shM l l.length)).map (·.1)).Nodup):((shP l K).map (·.2)).sum=hoS l:=by
 rw[im_keys]at hK hn;unfold shP;rw[List.map_map];have:=perm_sum (hK.map fun k=>(iget (shM l l.length) k).getD 0);rw[keys_vals _ hn]at this;rw[show((fun x:Int×Int=>x.2)∘fun k=>(k,(iget (shM l l.length) k).getD 0))=fun k=>(iget (shM l l.length) k).getD 0 from rfl,this];have e:=shM_sum l l.length Nl;rw[List.take_of_length_le Nl]at e;exact e
theorem crlen_any(x:Ho)(w:World)(hr:0≤x.f∧x.f<x.t∧x.t≤1000000000000):
  Cr 41 #[.agg #[.int .i64 x.th,.int .i64 x.s,.int .i64 x.f,.int .i64 x.t]] w (.int .i64 (x.t-x.f)):=by
 have H:=(Hp.nil w);refine Wb Tryz.func41 ?_;refine go ?_;refine bx H fun g2 z H=> ?_;refine go ?_;refine c1 H Fh (spv_yes (x.f) (x.t) _ Om) fun z H=> ?_;refine go ?_;refine WC.condF rfl ?_;refine go ?_;refine Rt [_] ?_;exact⟨rfl,H.ext⟩
theorem mkeys_any(b:Nat)(w:World):
  Calls Tryz.prog 43 #[.map (some b)] w fun e w'=>∃g,e= .returned (.func (.func 85) #[] #[.pointer (some ⟨g,0,none⟩)])∧Hp w w' [box g 123 [.map (some b)]]:=by
 have H:=(Hp.nil w);refine Wb Tryz.func43 ?_;refine go ?_;refine bx H fun g2 z H=> ?_;refine G3 ?_;refine yy (Y.func rfl rfl rfl) ?_;refine go ?_;refine Rt [_] ?_;exact⟨_,rfl,(H.pick [0])⟩
theorem crsh_any(A_l:Option Addr)(n_l c_l:Nat)(l:List Ho)(w:World)(h_l:Ls w A_l n_l c_l Ho.c 4 l)(hv:∀h∈l,(0≤h.f∧h.f<h.t∧h.t≤1000000000000)∧0≤h.th∧h.th≤1000000000000000)(hn:n_l≤100001):
  Calls Tryz.prog 14 #[.slice A_l n_l c_l] w fun e w'=>∃v P,e= .returned v∧OwnL w' w.heap.size 64 shc 2 v P∧(P.map (·.2)).sum=hoS l∧(∀p∈P,0≤p.2∧p.2≤200000000000000000)∧P.length≤100001∧Ext w w':=by
 have H:=(Hp.nil w);have e_l:=h_l.len;have z_l:=h_l.nle;have hfm:∀p∈im (shM l l.length),-1000000000000000≤p.1∧p.1≤1000000000000000:=fun p hp=>by
  obtain⟨q,hq,rfl⟩:=List.mem_map.1 hp;have:=shM_keys hv l.length Nl q hq;exact⟨by show _≤q.1;omega,this.2⟩
 have hlm:(im (shM l l.length)).length≤1000000:=by unfold im;rw[List.length_map];have:=shM_len l l.length;omega
 refine Wb Tryz.func14 ?_;refine go ?_;refine mm H fun g3 z H=> ?_;refine G8 ?_;refine sb [3,11,12,13] ?_;refine go ?_;refine sb [13,3,11,12] ?_;refine WC.loopS 1 (fun mz Ed W'=>∃j:Nat,mz=n_l-j∧Ed=[(13,.int .i64 ((j:Nat):Int))]∧Hp w W' (mpi g3 (im (shM l j))::[])∧(j≤n_l)) _ ⟨0,rfl,rfl,(H.pick [0]),(Nat.zero_le _)⟩ ?_;rintro _ _ z ⟨j,rfl,rfl,H,jl⟩;have rj:=fun i=>shM_rng hv j Om i;refine go ?_;refine Cd (fun p9=> ?_) fun p9=> ?_
 ·have vj:=hv _ (mem_b (show j<l.length by omega));have rk:=rj l[j]!.th;have b12:j<n_l:=Om;refine go ?_;refine al H ti121 fun g13 z H=> ?_;refine st H 0 ti121 fun z H=> ?_;refine go ?_;refine c1 H Fh (crlen_any l[j]! _ vj.1) fun z H=> ?_;refine go ?_;refine Cd (fun p17=> ?_) fun p17=> ?_
  ·refine G4 ?_;refine yy (Yld.cast (Y.lookup rfl u123 u3 ti3 rfl rfl (fun _ h=>h▸(H.mi 1))) (mval_im _ _)) ?_;refine go ?_;refine mu H 1 u123 u3 fun z H=> ?_;refine go ?_;exact Rs [(13,_)] Sx ⟨(j+1),rfl,rfl,(by rw[show shM l (j+1)=iset _ _ _ from rfl,←mset_im];exact(H.pick [1])),Om⟩
  ·have p:=p17;omega
 ·obtain rfl:j=l.length:=Om;refine G5 ?_;refine sb [3] ?_;refine go ?_;refine c3 Fh (mkeys_any _ _) ?_;rintro _ z ⟨g21,rfl,K⟩;have H:=H.join K;refine⟨_,rfl,?_⟩;refine c3 Fh (sf_any g21 g3 (im (shM l l.length)) _ (H.b 0) (H.mi 1) hfm hlm) ?_;rintro _ z ⟨v2,L2,rfl,hP,ow,x⟩;have H:=H.newRow ow x;refine⟨_,rfl,?_⟩;obtain⟨A24,n25,c26,rfl,_,_,_⟩:=H.op 0;have e_s:=(H.l 0).len;have l2_:=hP.length_eq;rw[im_keys,List.length_map]at l2_;have l3_:=shM_len l l.length;have H:=H.nilRow 64 shc 2;refine go ?_;refine sb [32,7,3,30,31] ?_;refine WC.loopS 2 (fun mz Ed W'=>∃k:Nat,∃v:Value,mz=n25-k∧Ed=[(32,.int .i64 ((k:Nat):Int)),(7,v)]∧Hp w W' (row 64 shc 2 v (shP l (L2.take k))::_::_::_::[])∧(k≤n25)) _ ⟨0,_,rfl,rfl,(H.pick [0,0,0,0]),(Nat.zero_le _)⟩ ?_;rintro _ _ z ⟨k,v,rfl,rfl,H,kl⟩;have pl_:(shP l (L2.take k)).length≤k:=by unfold shP;rw[List.length_map];exact List.length_take_le _ _
  refine go ?_;refine Cd (fun p31=> ?_) fun p31=> ?_
  ·have b34:k<n25:=Om;refine G14 ?_;refine yy (Yld.cast (Y.lookup rfl u123 u3 ti3 rfl rfl (fun _ h=>h▸(H.mi 3))) (mval_im _ _)) ?_;refine buA pla64 ?_;refine bs1 H u62 ti64 fun g35 z H=> ?_;refine ap H 1 0 rfl [(L2[k]!,(iget (shM l l.length) L2[k]!).getD 0)] u62 ti64 rfl shc_one (room_le pl_ (Nat.le_refl 1) Om) fun v37 z H=> ?_;refine go ?_;exact Rs [(32,_),(7,_)] Sx ⟨(k+1),v37,rfl,rfl,(by rw[show shP l (L2.take (k+1))=shP l (L2.take k)++[(L2[k]!,(iget (shM l l.length) L2[k]!).getD 0)]from by unfold shP;rw[take_1 Om,List.map_append];rfl];exact(H.pick [1,1,1,1])),Om⟩
  ·refine go ?_;refine Rt [_] ?_;obtain⟨_,_,_,_,_,_,nd_⟩:=H.mi 3;exact⟨_,shP l L2,rfl,(by rw[←show L2.take k=L2 from List.take_of_length_le Om];exact H.out 0),shP_sum hP nd_,(fun p hp=>by
    obtain⟨k,_,rfl⟩:=List.mem_map.1 hp;have:=shM_rng hv l.length Nl k;exact⟨this.1,Om⟩),(by unfold shP;rw[List.length_map];omega),H.ext⟩
end TW
end Go.Proofs.YtaclfjjipnpboaaGreat
end
namespace Go.Eng
open Go Go.RowKit
def MpS(w:World)(g:Nat)(m:List (ByteArray×Value)):Prop:=∃es clock,w.heap[g]? =some (.map es clock)∧es.toList.map (fun e=>(e.key,e.val))=m.map (fun p=>(.string p.1,p.2))∧(∀x∈es.toList,x.born<clock)∧(es.toList.map (·.born)).Nodup∧(m.map (·.1)).Nodup
def sget:List (ByteArray×Value)→ByteArray→Option Value
 |[],_=>none
 |(k,v)::r,i=>if i=k then some v else sget r i
def sset:List (ByteArray×Value)→ByteArray→Value→List (ByteArray×Value)
 |[],i,u=>[(i,u)]
 |(k,v)::r,i,u=>if i=k then(k,u)::r else(k,v)::sset r i u
def sdel:List (ByteArray×Value)→ByteArray→List (ByteArray×Value)
 |[],_=>[]
 |(k,v)::r,i=>if i=k then r else(k,v)::sdel r i
theorem sget_none:∀(m:List (ByteArray×Value)) (i:ByteArray),sget m i=none→i∉m.map (·.1)
 |[],_,_=>by simp
 |(k,v)::r,i,h=>by
  simp only[sget]at h;by_cases hi:i=k
  ·grind
  ·simp only[hi,if_false]at h;have:=sget_none r i h;grind
theorem sset_keys_none:∀(m:List (ByteArray×Value)) (i:ByteArray) (u:Value),sget m i=none→(sset m i u).map (·.1)=m.map (·.1)++[i]
 |[],i,u,_=>rfl
 |(k,v)::r,i,u,h=>by
  simp only[sget]at h;by_cases hi:i=k
  ·grind
  ·simp only[hi,if_false]at h;simp only[sset,hi,if_false,List.map_cons,List.cons_append,sset_keys_none r i u h]
theorem sset_keys_some:∀(m:List (ByteArray×Value)) (i:ByteArray) (u v:Value),sget m i=some v→(sset m i u).map (·.1)=m.map (·.1)
 |[],i,u,v,h=>by cases h
 |(k,x)::r,i,u,v,h=>by
  simp only[sget]at h;by_cases hi:i=k
  ·simp[sset,hi]
  ·simp only[hi,if_false]at h;simp only[sset,hi,if_false,List.map_cons,sset_keys_some r i u v h]
theorem sget_mset:∀(m:List (ByteArray×Value)) (i j:ByteArray) (u:Value),sget (sset m i u) j=if j=i then some u else sget m j
 |[],i,j,u=>by rfl
 |(k,v)::r,i,j,u=>by
  simp only[sset];by_cases h:i=k
  ·simp_all [if_true,sget,dite]
  ·simp only[h,if_false,sget,sget_mset r i j u];grind
section maps
variable{w w':World}{g:Nat}{m:List (ByteArray×Value)}
theorem MpS.lt(h:MpS w g m):g<w.heap.size:=by
 obtain⟨es,c,h1,_⟩:=h;grind
theorem MpS.of_block(h:MpS w g m)(hb:w'.heap[g]? =w.heap[g]?):MpS w' g m:=by
 obtain⟨es,c,h1,h2⟩:=h;exact⟨es,c,hb.trans h1,h2⟩
theorem findNow_s:∀(l:List MapEntry) (m:List (ByteArray×Value)) (i:ByteArray) (k:Nat),l.map (fun e=>(e.key,e.val))=m.map (fun p=>((.string p.1:Value),p.2))→
  ∃r,Instr.findNow .string (.string i) l k=some r∧(r.map (·.2))=sget m i∧∀j u,r=some (j,u)→∃j',j=k+j'∧j'<l.length∧(l[j']?).map (·.key)=some (.string i)∧(∀v,((l.modify j' fun e=>{e with key:=.string i,val:=v}).map fun e=>(e.key,e.val))=(sset m i v).map fun p=>(.string p.1,p.2))∧((l.eraseIdx j').map fun e=>(e.key,e.val))=(sdel m i).map fun p=>(.string p.1,p.2)
 |[],[],i,k,_=>⟨none,rfl,rfl,by simp⟩
 |[],_::_,_,_,h=>by simp at h
 |_::_,[],_,_,h=>by simp at h
 |e::l,(a,u)::m,i,k,h=>by
  simp only[List.map_cons,List.cons.injEq,Prod.mk.injEq]at h;obtain⟨⟨h1,h2⟩,h3⟩:=h;by_cases hi:i=a
  ·subst hi;refine⟨some (k,u),by grind [Instr.findNow,Instr.sameNow,beqB_self],by simp[sget],?_⟩;simp_all [Exists.intro,And.intro,sset,sdel]
  ·obtain⟨r,hr,hm,hj⟩:=findNow_s l m i (k+1) h3;refine⟨r,by simp[Instr.findNow,Instr.sameNow,h1,(show(i==a)=false from beqB_ne.2 hi),hr],by grind [sget],?_⟩;rintro j u' hju;obtain⟨j',e1,e2,e3,e4,e5⟩:=hj j u' hju;refine⟨j'+1,Om,by grind,by grind,fun v=> ?_,?_⟩
   ·simp_all [List.modify_succ_cons,List.map_cons,sset,if_false]
   simp_all [List.eraseIdx_cons_succ,List.map_cons,sdel,if_false]
theorem checkKey_str{P:Program}{t:TypeId}(hk:P.underlying t=some .string)(b:Bool)(n:Nat)(i:ByteArray)(w:World):(Instr.checkKey b (n+1) t (.string i)).run P w= .ok () w:=by
 simp[Instr.checkKey,run_underlying hk]
theorem findKey_s{P:Program}{t:TypeId}(hk:P.underlying t=some .string){es:Array MapEntry}(h:es.toList.map (fun e=>(e.key,e.val))=m.map fun p=>((.string p.1:Value),p.2))(i:ByteArray)(w:World):
  ∃r,(Instr.findKey t (.string i) es.toList).run P w= .ok r w∧(r.map (·.2))=sget m i∧∀j u,r=some (j,u)→j<es.size∧(es[j]?).map (·.key)=some (.string i)∧(∀v,((es.modify j fun e=>{e with key:=.string i,val:=v}).toList.map fun e=>(e.key,e.val))=(sset m i v).map fun p=>(.string p.1,p.2))∧((es.toList.eraseIdx j).map fun e=>(e.key,e.val))=(sdel m i).map fun p=>(.string p.1,p.2):=by
 obtain⟨r,h1,h2,h3⟩:=findNow_s es.toList m i 0 h;refine⟨r,by simp[Instr.findKey,run_underlying hk,h1],h2,fun j u hr=> ?_⟩;grind
theorem sset_none:∀(m:List (ByteArray×Value)) (i:ByteArray) (u:Value),sget m i=none→sset m i u=m++[(i,u)]
 |[],i,u,_=>rfl
 |(k,v)::r,i,u,h=>by
  simp only[sget]at h;by_cases hi:i=k
  ·grind
  ·simp only[hi,if_false]at h;simp[sset,hi,sset_none r i u h]
end maps
def sval(m:List (ByteArray×Value))(i:ByteArray)(z:Value):Value:=(sget m i).getD z
theorem Y.lookupS{P:Program}{o:Oper}{n:Nat}{E:Env}{C:World→Prop}{x y:Operand}{t kt e g:Nat}{i:ByteArray}{m:List (ByteArray×Value)}{z:Value}{sz by':Nat}(ho:o.op= .lookup t x y false)(hU:P.underlying t=some (.map kt e))(hk:P.underlying kt=some .string)(hT:TI P e z sz by')(hx:ev E x=some (.map (some g)))(hy:ev E y=some (.string i))(hm:∀w,C w→MpS w g m):
  Yld P o n E C (sval m i z):=by
 intro a w ha hC;obtain⟨es,c,h1,h2,_⟩:=hm w hC;obtain⟨r,hr,hg,_⟩:=findKey_s hk h2 i w;have h1':(getObj g).run P w= .ok (.map es c) w:=run_getObj_map' h1;have hc:=checkKey_str hk es.isEmpty 9999 i w;cases r with
 |none=>
  simp only[execOp,ho,ha.ev hx,ha.ev hy,Instr.lookup,run_underlying hU,Sem.run_bind,Result.andThen_ok,h1',Sem.run_pure,hc,hr,hT.zeroValue,sval,←hg];rfl
 |some p=>
  simp only[execOp,ho,ha.ev hx,ha.ev hy,Instr.lookup,run_underlying hU,Sem.run_bind,Result.andThen_ok,h1',Sem.run_pure,hc,hr,sval,←hg];rfl
theorem run_mapUpdate_s{P:Program}{t kt e g:Nat}{i:ByteArray}{u:Value}{m:List (ByteArray×Value)}{w:World}(hU:P.underlying t=some (.map kt e))(hk:P.underlying kt=some .string)(hm:MpS w g m):∃w',(Instr.mapUpdate t (.map (some g)) (.string i) u).run P w= .ok () w'∧Only g w w'∧MpS w' g (sset m i u):=by
 have hlt:=hm.lt;obtain⟨es,c,h1,h2,h6,h7,h8⟩:=hm;obtain⟨r,hr,hg,hs⟩:=findKey_s hk h2 i w;have h1':(getObj g).run P w= .ok (.map es c) w:=run_getObj_map' h1;have hc:=checkKey_str hk false 9999 i w;cases r with
 |none=>
  refine⟨{w with heap:=w.heap.setIfInBounds g (.map (es.push {key:=.string i,val:=u,born:=c}) (c+1))},?_,Only.setObj _ _ _,?_⟩
  ·simp_all [Instr.mapUpdate,Sem.run_bind,Result.andThen_ok,run_underlying,setObj,Sem.run]
  ·refine⟨_,_,Array.getElem?_setIfInBounds_self_of_lt hlt,?_,?_,?_,?_⟩
   ·grind [sset_none]
   ·grind
   ·grind
   ·rw[sset_keys_none m i u (by grind)];refine List.nodup_append.2 ⟨h8,by simp,fun a ha b hb=> ?_⟩;grind [sget_none]
 |some p=>
  obtain⟨j,v0⟩:=p;obtain⟨h3,h4,h5,h9⟩:=hs j v0 rfl;refine⟨{w with heap:=w.heap.setIfInBounds g (.map (es.modify j fun e=>{e with key:=.string i,val:=u}) c)},?_,Only.setObj _ _ _,?_⟩
  ·have hst:(Instr.keyThatStays (((es[j]?).map (·.key)).getD (.string i)) (.string i)).run P w= .ok (.string i) w:=by
    simp_all [Instr.keyThatStays,Instr.sameBits,beqB_self]
   simp_all [Instr.mapUpdate,Sem.run_bind,Result.andThen_ok,run_underlying,setObj,Sem.run]
  ·refine⟨_,_,Array.getElem?_setIfInBounds_self_of_lt hlt,h5 u,?_,?_,?_⟩
   ·intro x hx;have hb:x.born∈(es.modify j fun e=>{e with key:=.string i,val:=u}).toList.map (·.born):=List.mem_map_of_mem hx;rw[Array.toList_modify,map_modify (f:=fun e:MapEntry=>{e with key:=.string i,val:=u}) (g:=fun e:MapEntry=>e.born) (fun e=>rfl)]at hb;grind
   ·rw[Array.toList_modify,map_modify (f:=fun e:MapEntry=>{e with key:=.string i,val:=u}) (g:=fun e:MapEntry=>e.born) (fun e=>rfl)];exact h7
   grind [sset_keys_some]
section memory
variable{P:Program}{n:Nat}{ops:Array Oper}{Q:Exit→Act→World→Prop}{E:Env}{w:World}{o:Oper}{rest:List Oper}{d:Nat}
theorem WL.makeMapS{t:TypeId}(hd:o.dst=some d)(hn:d<n)(hg:o.guard=none)(ho:o.op= .makeMap t none)
  (h:∀g w',g=w.heap.size→Ext w w'→MpS w' g []→WL P n ops Q rest ((d,.map (some g))::E) w'):WL P n ops Q (o::rest) E w:=by
 intro a ha;have hr:(execOp a.eval o).run P w= .ok (.value (.map (some w.heap.size))) (w.alloc (.map #[] 0)):=by
  simp[execOp,ho,Instr.makeMap,run_newObj]
 refine wpList_plain hg fun K hK=>wp_of_run hr (hK _ _ ?_);rw[hd];exact h _ _ rfl ((Ext.refl w).alloc _) ⟨_,_,heap_alloc_new w _,rfl,by simp,by simp,by simp⟩ _ (ha.put hn _)
theorem WL.mapUpdateS{t kt e g:Nat}{x y z:Operand}{i:ByteArray}{u:Value}{m:List (ByteArray×Value)}(hd:o.dst=none)(hg:o.guard=none)(ho:o.op= .mapUpdate t x y z∨o.op= .insert t x y z)(hU:P.underlying t=some (.map kt e))(hk:P.underlying kt=some .string)(hx:ev E x=some (.map (some g)))(hy:ev E y=some (.string i))(hz:ev E z=some u)(hm:MpS w g m)
  (h:∀w',Only g w w'→MpS w' g (sset m i u)→WL P n ops Q rest E w'):WL P n ops Q (o::rest) E w:=by
 intro a ha;obtain⟨w',hr,h1,h2⟩:=run_mapUpdate_s (i:=i) (u:=u) hU hk hm;have hr:(execOp a.eval o).run P w= .ok .skip w':=by
  rcases ho with ho|ho<;>simp[execOp,ho,ha.ev hx,ha.ev hy,ha.ev hz,hr]
 refine wpList_plain hg fun K hK=> ?_;unfold Oper.wp;rw[hr];exact hK _ _ (by rw[hd];exact h w' h1 h2 _ ha)
end memory
def mps(g:Nat)(m:List (ByteArray×Value)):Res:=⟨fun b=>b=g,fun w=>MpS w g m,fun _ _ h e=>e▸h.lt,fun _ _ hb h=>h.of_block (hb g rfl)⟩
section
variable{P:Program}{n:Nat}{ops:Array Oper}{Q:Exit→Act→World→Prop}{E:Env}{W w w':World}{L L':List Res}{o:Oper}{rest:List Oper}{d:Nat}
theorem Hp.onlyS{k g:Nat}{m m':List (ByteArray×Value)}(H:Hp W w L)(p:Put (mps g m') k (mps g m) L L')(x:Only g w w')(h:MpS w' g m'):Hp W w' L':=
 H.putD p fun M K=>K.turn (Nat.le_of_eq x.size.symm) (fun b _ hb=>x.block b hb) (K.ext.only x (K.own _ List.mem_cons_self g rfl)) h fun b hb=>.inl hb
theorem mmS{t:TypeId}(H:Hp W w L)(h:∀g w',Hp W w' (mps g []::L)→WL P n ops Q rest ((d,.map (some g))::E) w')
  (hd:o.dst=some d:=by exact rfl) (hn:d<n:=by exact blt rfl) (hg:o.guard=none:=by exact rfl) (ho:o.op= .makeMap t none:=by exact rfl):WL P n ops Q (o::rest) E w:=
 WL.makeMapS hd hn hg ho fun g w' e x b=>h g w' (H.new x b fun b' hb=>by rw[show b'=g from hb,e];omega)
theorem muS{t kt e g:Nat}{x y z:Operand}{i:ByteArray}{u:Value}{m:List (ByteArray×Value)}(H:Hp W w L)(k:Nat)(hU:P.underlying t=some (.map kt e))(hK:P.underlying kt=some .string)(h:∀w',Hp W w' L'→WL P n ops Q rest E w')
  (hd:o.dst=none:=by exact rfl) (hg:o.guard=none:=by exact rfl) (ho:o.op= .mapUpdate t x y z∨o.op= .insert t x y z:=by first|exact .inl rfl|exact .inr rfl) (hx:ev E x=some (.map (some g)):=by exact rfl) (hy:ev E y=some (.string i):=by exact rfl) (hz:ev E z=some u:=by exact rfl)
  (hk:L[k]? =some (mps g m):=by exact rfl) (p:Put (mps g (sset m i u)) k (mps g m) L L':=by repeat (first|exact Put.here|apply Put.there)):WL P n ops Q (o::rest) E w:=
 WL.mapUpdateS hd hg ho hU hK hx hy hz (H.get hk) fun w' x b=>h w' (H.onlyS p x b)
theorem Hp.ms{g:Nat}{m:List (ByteArray×Value)}(H:Hp W w L)(k:Nat)(hk:L[k]? =some (mps g m):=by exact rfl):MpS w g m:=H.get hk
end
def mrs(it g:Nat)(m:List (ByteArray×Value))(S:List Nat):Res where
 foot b:=b=it∨b=g
 holds w:=it≠g∧∃es clock since c0 seen,w.heap[g]? =some (.map es clock)∧es.toList.map (fun e=>(e.key,e.val))=m.map (fun p=>(.string p.1,p.2))∧(∀x∈es.toList,x.born<clock)∧(es.toList.map (·.born)).Nodup∧(m.map (·.1)).Nodup∧
  w.heap[it]? =some (.mapIter (some g) since seen c0)∧since≤c0∧(∀x∈es.toList,x.born<since)∧c0≤clock∧seen=(S.reverse.map fun i=>(es.toList[i]?.map (·.born)).getD 0).toArray∧(∀i∈S,i<m.length)∧S.Nodup∧(S≠[]→c0=clock)
 dom w b h hf:=by
  grind
 loc w w' hb h:=by
  simp_all
section
variable{P:Program}{n:Nat}{ops:Array Oper}{Q:Exit→Act→World→Prop}{E:Env}{W w:World}{L L':List Res}{o:Oper}{rest:List Oper}{d:Nat}
theorem rgS{t kt e g:Nat}{x:Operand}{m:List (ByteArray×Value)}{L':Nat→List Res}(H:Hp W w L)(k:Nat)(hU:P.underlying t=some (.map kt e))(h:∀it w',Hp W w' (L' it)→WL P n ops Q rest ((d,.pointer (some ⟨it,0,none⟩))::E) w')
  (hd:o.dst=some d:=by exact rfl) (hn:d<n:=by exact blt rfl) (hg:o.guard=none:=by exact rfl) (ho:o.op= .range t x:=by exact rfl) (hx:ev E x=some (.map (some g)):=by exact rfl)
  (hk:L[k]? =some (mps g m):=by exact rfl) (p:∀it,Put (mrs it g m []) k (mps g m) L (L' it):=by intro it;repeat (first|exact Put.here|apply Put.there)):WL P n ops Q (o::rest) E w:=by
 intro a ha;obtain⟨es,clock,h1,h2,h3,h4,h5⟩:=H.ms k hk;have hg':g<w.heap.size:=(Array.getElem?_eq_some_iff.1 h1).1;have hr:(execOp a.eval o).run P w= .ok (.value (.pointer (some ⟨w.heap.size,0,none⟩))) (w.alloc (.mapIter (some g) clock #[] clock)):=by
  simp[execOp,ho,ha.ev hx,run_range_map w t kt e g es clock hU h1]
 refine wpList_plain hg fun K hK=>wp_of_run hr (hK _ _ ?_);rw[hd];refine h _ _ (H.putD (p w.heap.size) fun M K=>K.turn (by simp_all) (fun b hb _=>heap_alloc_old w _ hb) (K.ext.alloc _) ?_ ?_) _ (ha.put hn _)
 ·refine⟨Om,es,clock,clock,clock,#[],?_,h2,h3,h4,h5,heap_alloc_new w _,Nat.le_refl _,h3,Nat.le_refl _,rfl,by simp,List.nodup_nil,fun h=>absurd rfl h⟩;grind [heap_alloc_old]
 ·rintro b (rfl|rfl)
  ·omega
  ·exact .inl rfl
theorem nxS{it g:Nat}{x:Operand}{ty:TypeId}{m:List (ByteArray×Value)}{S:List Nat}{L':Nat→List Res}(H:Hp W w L)(k:Nat)
  (h0:(∀i,i<m.length→i∈S)→∀w',Hp W w' L→WL P n ops Q rest ((d,.tuple #[.bool false])::E) w')
  (h:∀i w',i<m.length→i∉S→Hp W w' (L' i)→WL P n ops Q rest ((d,.tuple #[.bool true,.string (m[i]!).1,(m[i]!).2])::E) w')
  (hd:o.dst=some d:=by exact rfl) (hn:d<n:=by exact blt rfl) (hg:o.guard=none:=by exact rfl) (ho:o.op= .next x false:=by exact rfl) (hx:ev E x=some (.pointer (some ⟨it,0,none⟩)):=by exact rfl)
  (hk:L[k]? =some (mrs it g m S):=by exact rfl) (p:∀i,Put (mrs it g m (i::S)) k (mrs it g m S) L (L' i):=by intro i;repeat (first|exact Put.here|apply Put.there)):WL P n ops Q (o::rest) E w:=by
 intro a ha;obtain⟨hne,es,clock,since,c0,seen,h1,h2,h3,h4,h5,h6,h7,h8,h8',h9,hS,hSn,hcc⟩:=H.get hk;have hlen:es.toList.length=m.length:=by have:=congrArg List.length h2;grind
 have hborn:∀i,i<m.length→(es.toList[i]?.map (·.born)).getD 0=(es.toList.map (·.born))[i]! :=fun i hi=>by
  grind
 have hmem:∀i,i<m.length→(seen.contains (es.toList.map (·.born))[i]! =true↔i∈S):=by
  intro i hi;rw[h9,Array.contains_iff_mem,List.mem_toArray,List.mem_map];constructor
  ·rintro⟨j,hj,e⟩;have hj':=hS j (List.mem_reverse.1 hj);rw[hborn j hj']at e;rw[bang_eq (by grind),bang_eq (by grind)]at e;have:=(List.getElem_inj h4).1 e;grind
  grind
 rcases run_next_gen (P:=P) w o.type it g since c0 seen es clock h6 h1 h8 h7 with⟨hz,hr⟩|⟨e,he,w1,hw1,hr⟩
 ·have hr:(execOp a.eval o).run P w= .ok (.value (.tuple #[.bool false])) w:=by simp[execOp,ho,ha.ev hx,hr]
  refine wpList_plain hg fun K hK=>wp_of_run hr (hK _ _ ?_);rw[hd];refine h0 (fun i hi=> ?_) w H _ (ha.put hn _);refine(hmem i hi).1 ?_;have hi':i<es.toList.length:=Om;cases hc:seen.contains (es.toList.map (·.born))[i]! with
  |true=>rfl
  |false=>
   exfalso;have:es.toList[i]∈(leftOf es seen).toList:=by
    unfold leftOf;grind
   grind
 ·have hr:(execOp a.eval o).run P w= .ok (.value (.tuple #[.bool true,e.key,e.val])) {w1 with heap:=w1.heap.setIfInBounds it (.mapIter (some g) since (seen.push e.born) clock)}:=by simp[execOp,ho,ha.ev hx,hr]
  obtain⟨he1,he2⟩:=mem_left he;obtain⟨i,hi,hei⟩:=List.mem_iff_getElem.1 he1;have hi':i<m.length:=Om;have hbi:(es.toList.map (·.born))[i]! =e.born:=by grind
  have hiS:i∉S:=fun q=>by
   grind
  have hkv:(e.key,e.val)=(Value.string (m[i]!).1,(m[i]!).2):=by
   have:=congrArg (fun l=>l[i]?) h2;grind
  have ho':=drew_only w it w1 hw1 (.mapIter (some g) since (seen.push e.born) clock);refine wpList_plain hg fun K hK=>wp_of_run hr (hK _ _ ?_);rw[hd];have hv:=h i _ hi' hiS (H.putD (p i) fun M K=>K.turn (Nat.le_of_eq ho'.size.symm) (fun b _ hb=>ho'.block b fun e=>hb (.inl e)) (K.ext.only ho' (K.own _ List.mem_cons_self it (.inl rfl))) (R':=mrs it g m (i::S)) ?_ fun b hb=>.inl hb)
  ·rw[show e.key=(e.key,e.val).1 from rfl,show e.val=(e.key,e.val).2 from rfl,hkv];exact hv _ (ha.put hn _)
  ·have hit:it<w1.heap.size:=by
    have:=(Array.getElem?_eq_some_iff.1 h6).1;rcases hw1 with rfl|rfl<;>simp_all
   refine⟨hne,es,clock,since,clock,seen.push e.born,(ho'.block g fun q=>hne q.symm).trans h1,h2,h3,h4,h5,?_,Nat.le_trans h7 h8',h8,Nat.le_refl _,?_,?_,?_⟩<;>grind
theorem enS{it g i:Nat}{x:Operand}{m:List (ByteArray×Value)}{S:List Nat}(H:Hp W w L)(k:Nat)
  (h:WL P n ops Q rest ((d,.tuple #[.string (m[i]!).1,(m[i]!).2])::E) w)
  (hd:o.dst=some d:=by exact rfl) (hn:d<n:=by exact blt rfl) (hg:o.guard=none:=by exact rfl) (ho:o.op= .entry x:=by exact rfl) (hx:ev E x=some (.pointer (some ⟨it,0,none⟩)):=by exact rfl)
  (hk:L[k]? =some (mrs it g m (i::S)):=by exact rfl):WL P n ops Q (o::rest) E w:=by
 intro a ha;obtain⟨hne,es,clock,since,c0,seen,h1,h2,h3,h4,h5,h6,h7,h8,h8',h9,hS,hSn,hcc⟩:=H.get hk;have hlen:es.toList.length=m.length:=by have:=congrArg List.length h2;grind
 have hi':=hS i List.mem_cons_self;have hi:i<es.toList.length:=Om;have hsn:seen=((S.reverse.map fun i=>(es.toList[i]?.map (·.born)).getD 0).toArray).push es.toList[i].born:=by
  grind
 rw[hsn,hcc (List.cons_ne_nil _ _)]at h6;have hr:=run_entry_gen (P:=P) w it g since _ es clock es.toList[i] h6 h1 (List.getElem_mem hi) h4;have hkv:(es.toList[i].key,es.toList[i].val)=(Value.string (m[i]!).1,(m[i]!).2):=by
  have:=congrArg (fun l=>l[i]?) h2;grind
 have hr:(execOp a.eval o).run P w= .ok (.value (.tuple #[es.toList[i].key,es.toList[i].val])) w:=by simp[execOp,ho,ha.ev hx,hr]
 refine wpList_plain hg fun K hK=>wp_of_run hr (hK _ _ ?_);rw[hd,show es.toList[i].key=(es.toList[i].key,es.toList[i].val).1 from rfl,show es.toList[i].val=(es.toList[i].key,es.toList[i].val).2 from rfl,hkv];exact h _ (ha.put hn _)
theorem Hp.unrangeS{it g:Nat}{m:List (ByteArray×Value)}{S:List Nat}(H:Hp W w (mrs it g m S::L)):Hp W w (mps g m::L):=by
 refine H.turn Nl (fun _ _ _=>rfl) H.ext ?_ fun b hb=>.inl (.inr hb);obtain⟨hne,es,clock,since,c0,seen,h1,h2,h3,h4,h5,_⟩:=H.head;exact⟨es,clock,h1,h2,h3,h4,h5⟩
end
def Y.le(a b:ByteArray):Bool:=Op.bytesLess a.toList b.toList||a.toList==b.toList
theorem Y.leqStr{P:Program}{o:Oper}{n:Nat}{E:Env}{C:World→Prop}{x y:Operand}{t t':TypeId}{s r:ByteArray}(ho:o.op= .binOp .leq t x y t')(hx:ev E x=some (.string s))(hy:ev E y=some (.string r)):Yld P o n E C (.bool (Y.le s r)):=by
 intro A w hA _;have hg:(eqGuard .leq t x y (.string s) (.string r)).run P w= .ok () w:=rfl;simp only[execOp,ho,hA.ev hx,hA.ev hy,Sem.run_bind,hg,Result.andThen_ok,binOp,Op.stringOp,Sem.run_pure,Y.le]
end Go.Eng
section
attribute [local irreducible] Go.Eng.WC Go.Eng.WL Go.Eng.WK Go.Eng.WQ Go.Eng.WX Go.Eng.Yld
namespace Go.Proofs.YtaclfjjipnpboaaGreat
open Go Go.Eng Go.RowKit
namespace TW
structure No where(pa:Int)(nm:ByteArray)(se to ct:Int)
instance:Inhabited No:=⟨⟨0,⟨#[]⟩,0,0,0⟩⟩
def No.c(x:No):List Value:=[.int .i64 x.pa,.string x.nm,.int .i64 x.se,.int .i64 x.to,.int .i64 x.ct]
theorem No.one(x:No):∀u∈x.c,u.oneCell'=true:=by simp[No.c,Value.oneCell']
def seN(l:List No):Nat→Int
 |0=>0
 |j+1=>seN l j+l[j]!.se
def ctN(l:List No):Nat→Int
 |0=>0
 |j+1=>ctN l j+l[j]!.ct
theorem seN_rng{l:List No}(h:∀j,j<l.length→0≤l[j]!.se∧l[j]!.se≤100000000000000):∀j,j≤l.length→0≤seN l j∧seN l j≤100000000000000*(j:Int)
 |0,_=>⟨Int.le_refl _,Int.le_refl _⟩
 |j+1,hj=>by
  have:=seN_rng h j Om;have:=h j hj;unfold seN;omega
theorem ctN_rng{l:List No}(h:∀j,j<l.length→0≤l[j]!.ct∧l[j]!.ct≤20000):∀j,j≤l.length→0≤ctN l j∧ctN l j≤20000*(j:Int)
 |0,_=>⟨Int.le_refl _,Int.le_refl _⟩
 |j+1,hj=>by
  have:=ctN_rng h j Om;have:=h j hj;unfold ctN;omega
def abF(l:List No)(p:Int):Nat→Int→Int
 |0,a=>a
 |n+1,a=>if 0≤a∧a≠p then abF l p n l[a.toNat]!.pa else a
theorem abF_end{l:List No}{p a:Int}{n:Nat}(h:¬(0≤a∧a≠p)):abF l p n a=a:=by
 cases n with
 |zero=>rfl
 |succ n=>unfold abF;rw[if_neg h]
def kdR(l:List No)(k:Nat):Nat→Int
 |0=>0
 |m+1=>if l[l.length-1-m]!.pa=(k:Int)then kdR l k m+l[l.length-1-m]!.to else kdR l k m
def lfB(l:List No)(k:Nat):Bool:=((k:Int)+1==(l.length:Int))|| !(l[k+1]!.pa==(k:Int))
structure FlOk(l:List No):Prop where
 n:l.length≤2000
 v:∀i,i<l.length→nmF l[i]!.nm=0∧(0≤l[i]!.se∧l[i]!.se≤100000000000000)∧(0≤l[i]!.ct∧l[i]!.ct≤20000)∧(l[i]!.ct=0→l[i]!.se=0)
 s:seN l l.length≤100000000000000
 c:ctN l l.length≤20000
 p:∀i,i<l.length→-1≤l[i]!.pa∧l[i]!.pa<i
 o:∀i,i<l.length→abF l l[i]!.pa i ((i:Int)-1)=l[i]!.pa
 so:∀i j,i<j→j<l.length→l[i]!.pa=l[j]!.pa→Y.lt l[i]!.nm l[j]!.nm=true
 tr:∀i,i<l.length→0≤l[i]!.to∧l[i]!.to≤100000000000000
 t:∀i,i<l.length→l[i]!.to=l[i]!.se+kdR l i l.length
 f:∀i,i<l.length→lfB l i=true→l[i]!.ct≠0
theorem flrng_any(A_l:Option Addr)(n_l c_l:Nat)(l:List No)(w:World)(h_l:Ls w A_l n_l c_l No.c 5 l)(hv:FlOk l):
  Cr 77 #[.slice A_l n_l c_l] w (.int .i64 0):=by
 have H:=(Hp.nil w);have e_l:=h_l.len;have z_l:=h_l.nle;have hn:=hv.n;refine Wb Tryz.func77 ?_;refine go ?_;refine sb [10,3,4,8,9] ?_;refine WC.loopS 3 (fun mz Ed W'=>∃j:Nat,mz=n_l-j∧Ed=[(10,.int .i64 ((j:Nat):Int)),(3,.int .i64 (seN l j)),(4,.int .i64 (ctN l j))]∧Hp w W' ([])∧(j≤n_l)) _ ⟨0,rfl,rfl,(H.pick []),(Nat.zero_le _)⟩ ?_;rintro _ _ z ⟨j,rfl,rfl,H,jl⟩;have tj:=seN_rng (fun i hi=>(hv.v i hi).2.1) j Om;have uj:=ctN_rng (fun i hi=>(hv.v i hi).2.2.1) j Om;refine go ?_;refine Cd (fun p7=> ?_) fun p7=> ?_
 ·have vj:=hv.v j Om;have fj:=vj.1;have b10:j<n_l:=Om;refine go ?_;refine al H ti73 fun g11 z H=> ?_;refine st H 0 ti73 fun z H=> ?_;refine go ?_;refine c1 H Fh (name_any _ _) fun z H=> ?_;refine G4 ?_;refine yy (Yld.cast (Y.neq rfl rfl rfl) (vb (by rw[fj];first|done|rfl))) ?_;refine go ?_;refine WC.condF rfl ?_;refine G2 ?_;refine sb [3,4,6,8,9,10] ?_;refine G25 ?_;refine WL.yldGs [(_,_)] rfl (blt rfl) rfl rfl rfl (fun hb=>Y.fieldAddr rfl u73 rfl ti3 Dc rfl) ?_;refine WL.yldGs [(_,_)] rfl (blt rfl) rfl rfl rfl (fun hb=>Y.load1 rfl u3 rfl (evg (evg rfl hb.1) hb.2.1) (Blk.at_eq (H.b 0) rfl)) ?_;refine WL.yldGs [(_,_)] rfl (blt rfl) rfl rfl rfl (fun hb=>Y.neq rfl (evg (evg rfl hb.1) hb.2.1) rfl) ?_;refine go ?_;refine Cd (fun p18=> ?_) fun p18=> ?_
  ·have p:=p18;grind
  ·refine go ?_;refine Qr ?_;refine go ?_;refine Qd H fun z H=> ?_;refine G2 ?_;refine sb [3,4,8,9,10] ?_;refine G4 ?_;rw[show seN l j+l[j]!.se=seN l (j+1)from rfl,show ctN l j+l[j]!.ct=ctN l (j+1)from rfl];exact Rs [(10,_),(3,_),(4,_)] Sx ⟨(j+1),rfl,rfl,(H.pick []),Om⟩
 ·refine go ?_;refine Cd (fun p21=> ?_) fun p21=> ?_
  ·have p:=p21;have h1:=hv.s;have h2:=hv.c;have e:j=l.length:=Om;subst e;omega
  ·refine go ?_;refine Rt [_] ?_;exact⟨rfl,H.ext⟩
theorem abF_step{l:List No}{p a:Int}{m:Nat}(h:0≤a∧a≠p)(hm:0<m)(hb:abF l p m a=p):abF l p (m-1) l[a.toNat]!.pa=p:=by
 obtain⟨m,rfl⟩:∃k,m=k+1:=⟨m-1,Om⟩;unfold abF at hb;rw[if_pos h]at hb;exact hb
def laM(l:List No):Nat→List (Int×Value)
 |0=>[]
 |j+1=>mset (laM l j) l[j]!.pa (.string l[j]!.nm)
theorem laM_get{l:List No}{p:Int}{v:Value}:∀j,mget (laM l j) p=some v→∃k,k<j∧l[k]!.pa=p∧v= .string l[k]!.nm
 |0,h=>by cases h
 |j+1,h=>by
  unfold laM at h;rw[mget_mset]at h;split at h
  ·rename_i e;exact⟨j,Nat.lt_succ_self j,e.symm,(Option.some.inj h).symm⟩
  ·obtain⟨k,hk,e⟩:=laM_get j h;exact⟨k,Om,e⟩
theorem le_no{a b:ByteArray}(h:Y.lt b a=true):Y.le a b=false:=by
 have h1:=ylt_as h;unfold Y.lt at h1 h;unfold Y.le;rw[h1,Bool.false_or];cases e:a.toList==b.toList with
 |false=>rfl
 |true=>
  rw[eq_of_beq e]at h;exact absurd h (by rw[show Op.bytesLess b.toList b.toList=false from ylt_irr b];decide)
theorem florder_any(A_l:Option Addr)(n_l c_l:Nat)(l:List No)(w:World)(h_l:Ls w A_l n_l c_l No.c 5 l)(hv:FlOk l):
  Cr 78 #[.slice A_l n_l c_l] w (.int .i64 0):=by
 have H:=(Hp.nil w);have e_l:=h_l.len;have z_l:=h_l.nle;have hn:=hv.n;refine Wb Tryz.func78 ?_;refine go ?_;refine mm H fun g3 z H=> ?_;refine go ?_;refine sb [12,0,3,10,11] ?_;refine WC.loopS 1 (fun mz Ed W'=>∃j:Nat,mz=n_l-j∧Ed=[(12,.int .i64 ((j:Nat):Int))]∧Hp w W' (mpi g3 (laM l j)::[])∧(j≤n_l)) _ ⟨0,rfl,rfl,(H.pick [0]),(Nat.zero_le _)⟩ ?_;rintro _ _ z ⟨j,rfl,rfl,H,jl⟩;refine go ?_;refine Cd (fun p9=> ?_) fun p9=> ?_
 ·have pj:=hv.p j Om;have b12:j<n_l:=Om;refine go ?_;refine al H ti73 fun g13 z H=> ?_;refine go ?_;refine st H 0 ti73 fun z H=> ?_;refine go ?_;refine sb [6,0,3,5,10,11,12] ?_;refine WC.loopS 1 (fun mz Ed W'=>∃a:Int,∃n:Nat,mz=2*n∧Ed=[(6,.int .i64 a)]∧Hp w W' (_::_::[])∧(-1≤a∧a<(n:Int)∧n≤j)∧(abF l l[j]!.pa n a=l[j]!.pa)) _ ⟨((j:Int)-1),j,rfl,rfl,(H.pick [0,0]),Om,(hv.o j Om)⟩ ?_;rintro _ _ z ⟨a,n,rfl,rfl,H,ha,hb⟩;refine go ?_;refine Cd (fun p19=> ?_) fun p19=> ?_
  ·have pa_:=hv.p a.toNat Om;have b20:a.toNat<n_l:=Om;refine G6 ?_;refine yy (Y.indexLs a.toNat (h_l.ext H.ext) rfl u46 ti73 rfl rfl Om b20) ?_;refine go ?_;refine WK.roundS _ [(6,_)] ⟨rfl,rfl,rfl,rfl,rfl,rfl,rfl,trivial⟩ ?_ ⟨_,(n-1),rfl,rfl,(H.pick [0,0]),Om,(abF_step Om Om hb)⟩;omega
  ·have ea:l[j]!.pa=a:=hb.symm.trans (abF_end Om);refine go ?_;refine Cd (fun p23=> ?_) fun p23=> ?_
   ·omega
   ·refine G2 ?_;refine sb [0,3,5,10,11,12] ?_;refine G5 ?_;rcases hg:mget (laM l j) l[j]!.pa with _|v3
    ·refine yy (Y.lookupOk rfl u213 u3 ti9 rfl rfl (fun _ h=>h▸(H.mi 1))) ?_;refine G1 ?_;refine yy (Yld.cast (Y.extract rfl rfl rfl) (show mval (laM l j) l[j]!.pa _=_ from by unfold mval;rw[hg];try rfl)) ?_;refine yy (Yld.cast (Y.extract rfl rfl rfl) (vb (show(mget (laM l j) l[j]!.pa).isSome=false from by rw[hg];rfl))) ?_;refine G10 ?_;refine yy (Y.pickF rfl rfl rfl) ?_;refine go ?_;refine WC.condF rfl ?_;refine go ?_;refine mu H 1 u213 u3 fun z H=> ?_;refine go ?_;exact Rs [(12,_)] Sx ⟨(j+1),rfl,rfl,(by rw[show laM l (j+1)=mset _ _ _ from rfl];exact(H.pick [1])),Om⟩
    ·obtain⟨k0,hk0,e0,rfl⟩:=laM_get _ hg;refine yy (Y.lookupOk rfl u213 u3 ti9 rfl rfl (fun _ h=>h▸(H.mi 1))) ?_;refine G1 ?_;refine yy (Yld.cast (Y.extract rfl rfl rfl) (show mval (laM l j) l[j]!.pa _=Value.string l[k0]!.nm from by unfold mval;rw[hg];rfl)) ?_;refine yy (Yld.cast (Y.extract rfl rfl rfl) (vb (show(mget (laM l j) l[j]!.pa).isSome=true from by rw[hg];rfl))) ?_;refine G3 ?_;refine sb [0,3,5,7,8,10,11,12] ?_;refine G6 ?_;refine WL.yldW rfl (blt rfl) rfl rfl rfl (Y.leqStr rfl rfl rfl) ?_;refine yy (Y.pickT rfl rfl rfl) ?_;refine go ?_;refine WC.cond rfl (fun h28=> ?_) (fun h28=> ?_)
     ·have so_:=hv.so k0 j Om Om Om;rw[le_no so_]at h28;cases h28
     ·refine go ?_;refine mu H 1 u213 u3 fun z H=> ?_;refine go ?_;exact Rs [(12,_)] Sx ⟨(j+1),rfl,rfl,(by rw[show laM l (j+1)=mset _ _ _ from rfl];exact(H.pick [1])),Om⟩
 ·refine go ?_;refine Rt [_] ?_;exact⟨rfl,H.ext⟩
section
variable{l:List No}
theorem kd_step{k q:Nat}(h1:1≤q)(h2:q≤l.length):kdR l k (l.length-(q-1))=if l[q-1]!.pa=(k:Int)then kdR l k (l.length-q)+l[q-1]!.to else kdR l k (l.length-q):=by
 rw[show l.length-(q-1)=(l.length-q)+1 from Om];show(if l[l.length-1-(l.length-q)]!.pa=(k:Int)then _ else _)=_;rw[show l.length-1-(l.length-q)=q-1 from Om]
theorem kd_low(hv:FlOk l){k:Nat}(hk:k<l.length):∀m,l.length-1-k≤m→m≤l.length→kdR l k m=kdR l k (l.length-1-k)
 |0,h,_=>by rw[show l.length-1-k=0 from Om]
 |m+1,h,h2=>by
  by_cases e:m+1=l.length-1-k
  ·rw[e]
  ·have ih:=kd_low hv hk m Om Om;have:=hv.p (l.length-1-m) Om;show(if l[l.length-1-m]!.pa=(k:Int)then _ else _)=_;rw[if_neg Om,ih]
theorem kd_rng(hv:FlOk l)(k:Nat):∀m n,m≤n→n≤l.length→0≤kdR l k m∧kdR l k m≤kdR l k n
 |m,0,h,_=>by rw[show m=0 from Om];exact⟨Int.le_refl _,Int.le_refl _⟩
 |m,n+1,h,h2=>by
  have:=hv.tr (l.length-1-n) Om;by_cases e:m=n+1
  ·subst e;have ih:=kd_rng hv k n n Nl Om;refine⟨?_,Int.le_refl _⟩;show 0≤(if l[l.length-1-n]!.pa=(k:Int)then _ else _);split<;>omega
  ·have ih:=kd_rng hv k m n Om Om;refine⟨ih.1,?_⟩;show _≤(if l[l.length-1-n]!.pa=(k:Int)then _ else _);split<;>omega
theorem kd_to(hv:FlOk l){k m:Nat}(hk:k<l.length)(hm:m≤l.length):0≤kdR l k m∧kdR l k m≤l[k]!.to:=by
 have h1:=kd_rng hv k m l.length hm Nl;have h2:=hv.t k hk;have h3:=(hv.v k hk).2.1;omega
def TtI(l:List No)(q:Nat)(T:List Int):Prop:=T.length=l.length∧∀k,k<l.length→T[k]! =if q≤k then l[k]!.to else kdR l k (l.length-q)
theorem TtI.start{n:Nat}(hn:l.length=n):TtI l n (List.replicate n (0:Int)):=by
 refine⟨by rw[List.length_replicate];exact hn.symm,fun k hk=> ?_⟩;rw[if_neg Om,hn,Nat.sub_self,bang_eq (by rw[List.length_replicate];omega),List.getElem_replicate];rfl
theorem TtI.own(hv:FlOk l){q:Nat}{T:List Int}(h:TtI l q T)(h1:1≤q)(h2:q≤l.length):T[q-1]! +l[q-1]!.se=l[q-1]!.to:=by
 rw[h.2 (q-1) Om,if_neg Om,hv.t (q-1) Om,kd_low hv (show q-1<l.length from Om) (l.length-q) Om Om,kd_low hv (show q-1<l.length from Om) l.length Om Nl];omega
def TtM(l:List No)(q:Nat)(T:List Int):Prop:=T.length=l.length∧∀k,k<l.length→T[k]! =if q-1≤k then l[k]!.to else kdR l k (l.length-q)
theorem TtI.mid(hv:FlOk l){q:Nat}{T:List Int}(h:TtI l q T)(h1:1≤q)(h2:q≤l.length):TtM l q (T.set (q-1) (T[q-1]! +l[q-1]!.se)):=by
 have hl:=h.1;refine⟨by rw[List.length_set];exact hl,fun k hk=> ?_⟩;rw[set_at _ _ _ _ Om];by_cases e:q-1=k
 ·rw[if_pos e,if_pos Om,h.own hv h1 h2,e]
 ·rw[if_neg e,h.2 k hk];by_cases c:q≤k
  ·rw[if_pos c,if_pos Om]
  ·rw[if_neg c,if_neg Om]
theorem TtM.no{q:Nat}{T:List Int}(h:TtM l q T)(h1:1≤q)(h2:q≤l.length)(hp:l[q-1]!.pa<0):TtI l (q-1) T:=by
 refine⟨h.1,fun k hk=> ?_⟩;rw[h.2 k hk,kd_step h1 h2,if_neg (show¬l[q-1]!.pa=(k:Int)from Om)]
theorem TtM.yes(hv:FlOk l){q:Nat}{T:List Int}(h:TtM l q T)(h1:1≤q)(h2:q≤l.length)(hp:0≤l[q-1]!.pa):TtI l (q-1) (T.set l[q-1]!.pa.toNat (T[l[q-1]!.pa.toNat]! +T[q-1]!)):=by
 have hl:=h.1;have hpa:=hv.p (q-1) Om;refine⟨by rw[List.length_set];exact hl,fun k hk=> ?_⟩;rw[set_at _ _ _ _ Om,kd_step h1 h2];by_cases e:l[q-1]!.pa.toNat=k
 ·rw[if_pos e,h.2 _ Om,h.2 (q-1) Om,if_neg Om,if_pos Nl,if_neg Om,if_pos Om,e]
 ·rw[if_neg e,h.2 k hk,if_neg (show¬l[q-1]!.pa=(k:Int)from Om)]
theorem TtM.sum(hv:FlOk l){q:Nat}{T:List Int}(h:TtM l q T)(h1:1≤q)(h2:q≤l.length)(hp:0≤l[q-1]!.pa):0≤T[l[q-1]!.pa.toNat]! +T[q-1]!∧T[l[q-1]!.pa.toNat]! +T[q-1]!≤100000000000000:=by
 have hl:=h.1;have hpa:=hv.p (q-1) Om;have e:=(h.yes hv h1 h2 hp).2 l[q-1]!.pa.toNat Om;rw[set_at _ _ _ _ Om,if_pos rfl,if_neg Om]at e;rw[e];have:=kd_to hv (k:=l[q-1]!.pa.toNat) (m:=l.length-(q-1)) Om Om;have:=hv.tr l[q-1]!.pa.toNat Om;omega
def LfI(l:List No)(q:Nat)(L:List Bool):Prop:=L.length=l.length∧∀k,q≤k→k<l.length→L[k]! =lfB l k
theorem LfI.start{n:Nat}(hn:l.length=n):LfI l n (List.replicate n false):=⟨by rw[List.length_replicate];exact hn.symm,fun k h1 h2=>by omega⟩
theorem LfI.put{q n:Nat}{L:List Bool}(h:LfI l q L)(h1:1≤q)(h2:q≤l.length)(hn:l.length=n):LfI l (q-1) (L.set (q-1) ((((q:Int)-1+1)==(n:Int))|| !(l[q]!.pa==((q:Int)-1)))):=by
 have hl:=h.1;refine⟨by rw[List.length_set];exact hl,fun k k1 k2=> ?_⟩;rw[set_at _ _ _ _ Om];by_cases e:q-1=k
 ·rw[if_pos e];unfold lfB;rw[show k+1=q from Om,show(q:Int)-1=(k:Int)from Om,hn]
 ·rw[if_neg e];exact h.2 k Om k2
end
theorem flchk_any(A_l:Option Addr)(n_l c_l:Nat)(l:List No)(w:World)(h_l:Ls w A_l n_l c_l No.c 5 l)(hv:FlOk l):
  Cr 30 #[.slice A_l n_l c_l] w (.int .i64 0):=by
 have H:=(Hp.nil w);have e_l:=h_l.len;have z_l:=h_l.nle;have hn:=hv.n;refine Wb Tryz.func30 ?_;refine go ?_;refine Cd (fun p4=> ?_) fun p4=> ?_
 ·omega
 ·refine go ?_;refine c1 H Fh (flrng_any _ _ _ _ _ (h_l.ext H.ext) @hv) fun z H=> ?_;refine G4 ?_;refine Kd ?_;refine go ?_;refine WC.condF rfl ?_;refine go ?_;refine c1 H Fh (florder_any _ _ _ _ _ (h_l.ext H.ext) @hv) fun z H=> ?_;refine G4 ?_;refine Kd ?_;refine go ?_;refine WC.condF rfl ?_;refine go ?_;refine Xr H (HpC w _) (.load 0 (.load 1 (.load 3 (.load 4 (.alt 2 (.load 6 (.alt 5 (.load 7 (.fin)) (.none))) (.alt 5 (.alt 2 (.load 6 (.load 7 (.fin))) (.none)) (.none))))))) (H.pick []) fun z H=> ?_;refine G4 ?_;refine WX.alt ?_ ?_
  ·refine msX (H.pick []) (f:=ic) (m:=n_l) (0:Int) H u65 ti3 Om fun v12 z H=> ?_;refine go ?_;refine msX (H.pick []) (f:=bc) (m:=n_l) false H u191 ti4 Om fun v14 z H=> ?_;refine go ?_;refine WX.nil (H.pick []) ?_;obtain⟨A18,n19,c20,rfl,_,_,_⟩:=H.op 1;obtain⟨A21,n22,c23,rfl,_,_,_⟩:=H.op 0;refine G8 ?_;refine sb [0,5,6,7] ?_;refine go ?_;refine sb [7,0,5,6] ?_;refine WC.loopS 1 (fun mz Ed W'=>∃q:Nat,∃TA:List Int,∃LA:List Bool,mz=2*q∧Ed=[(7,.int .i64 (((q:Nat):Int)-1))]∧Hp w W' (row 4 bc 1 (.slice A21 n22 c23) LA::row 3 ic 1 (.slice A18 n19 c20) TA::[])∧(q≤n_l)∧(TtI l q TA)∧(LfI l q LA)) _ ⟨n_l,_,_,rfl,rfl,(H.pick [0,0]),Nl,(TtI.start e_l),(LfI.start e_l)⟩ ?_;rintro _ _ z ⟨q,TA,LA,rfl,rfl,H,hq,hT,hL⟩;refine go ?_;refine Cd (fun p26=> ?_) fun p26=> ?_
   ·have q1:1≤q:=Om;have ow_:=hT.own hv q1 Om;have rq:=hv.tr (q-1) Om;have pq:=hv.p (q-1) Om;have tl:=hT.1;have ll:=hL.1;refine go ?_;refine Xr H (HpC w _) (.load 0 (.load 1 (.load 2 (.load 4 (.load 5 (.load 6 (.load 7 (.load 8 (.alt 3 (.load 9 (.load 10 (.alt 11 (.fin) (.none)))) (.none)))))))))) (H.pick [0]) fun z H=> ?_;have b29:(q-1)<n19:=Om;refine G2 ?_;refine yx rfl (Y.indexLs (q-1) (H.l 1) rfl u65 ti3 rfl rfl Om b29) ?_;have b30:(q-1)<n_l:=Om;refine G2 ?_;refine yx rfl (Y.indexLs (q-1) (h_l.ext H.ext) rfl u46 ti73 rfl rfl Om b30) ?_;refine G2 ?_;refine WX.yldL rfl rfl (blt rfl) rfl (H.pick [0]) (ld rfl u3 rfl (Ls.at_eq (H.l 1) b29 rfl)) ?_;have b31:(q-1)<n19:=Om;refine G1 ?_;refine yx rfl (Y.indexLs (q-1) (H.l 1) rfl u65 ti3 rfl rfl Om b31) ?_;refine steX (H.pick [0]) H 1 rfl (TA[q-1]! +l[q-1]!.se) b31 ti3 rfl fun z H=> ?_;refine WX.nil (H.pick [0]) ?_;have tm:=hT.mid hv (q:=q) Om Om;obtain⟨TB,hTB⟩:∃t,t=(TA.set (q-1) (TA[q-1]! +l[q-1]!.se)):=⟨_,rfl⟩;rw[←hTB]at H tm;refine G13 ?_;refine yg (fun hb=>Y.indexLs q (h_l.ext H.ext) rfl u46 ti73 (evg rfl hb) (evg rfl hb) (by have q0:=(eq_f hb);omega) (by have q0:=(eq_f hb);omega)) ?_;have b33:(q-1)<n22:=Om;refine G5 ?_;refine yy (Y.indexLs (q-1) (H.l 0) rfl u191 ti4 rfl rfl Om b33) ?_;refine ste H 0 rfl ((((q:Int)-1+1)==(n_l:Int))|| !(l[q]!.pa==((q:Int)-1))) b33 ti4 rfl fun z H=> ?_;have b35:(q-1)<n_l:=Om;refine G4 ?_;refine yy (Y.indexLs (q-1) (h_l.ext H.ext) rfl u46 ti73 rfl rfl Om b35) ?_;refine G4 ?_;refine sb [0,5,6,7,70] ?_;refine Cd (fun p36=> ?_) fun p36=> ?_
    ·have ts_:=tm.sum hv Om Om Om;have tb_:=tm.1;refine Xr H (HpC w _) (.load 0 (.load 1 (.load 2 (.load 3 (.load 4 (.load 5 (.load 6 (.load 8 (.load 9 (.load 10 (.alt 7 (.alt 11 (.load 12 (.load 13 (.alt 14 (.fin) (.none)))) (.none)) (.alt 11 (.alt 7 (.load 12 (.load 13 (.alt 14 (.fin) (.none)))) (.none)) (.none))))))))))))) (H.pick [0]) fun z H=> ?_;have b37:(q-1)<n_l:=Om;refine G3 ?_;refine yx rfl (Y.indexLs (q-1) (h_l.ext H.ext) rfl u46 ti73 rfl rfl Om b37) ?_;have b38:l[q-1]!.pa.toNat<n19:=Om;refine G2 ?_;refine yx rfl (Y.indexLs l[q-1]!.pa.toNat (H.l 1) rfl u65 ti3 rfl rfl Om b38) ?_;have b39:(q-1)<n19:=Om;refine G2 ?_;refine yx rfl (Y.indexLs (q-1) (H.l 1) rfl u65 ti3 rfl rfl Om b39) ?_;refine WX.alt ?_ ?_
     ·refine WX.yldL rfl rfl (blt rfl) rfl (H.pick [0]) (ld rfl u3 rfl (Ls.at_eq (H.l 1) b38 rfl)) ?_;refine WX.yldL rfl rfl (blt rfl) rfl (H.pick [0]) (ld rfl u3 rfl (Ls.at_eq (H.l 1) b39 rfl)) ?_;have b40:l[q-1]!.pa.toNat<n19:=Om;refine G1 ?_;refine yx rfl (Y.indexLs l[q-1]!.pa.toNat (H.l 1) rfl u65 ti3 rfl rfl Om b40) ?_;refine steX (H.pick [0]) H 1 rfl (TB[l[q-1]!.pa.toNat]! +TB[q-1]!) b40 ti3 rfl fun z H=> ?_;refine WX.nil (H.pick [0]) ?_;refine G4 ?_;refine yy (Yld.cast (Y.sub rfl rfl rfl Wo) (vi (show(q:Int)-1-1=((q-1:Nat):Int)-1 from Om))) ?_;refine go ?_;exact Rs [(7,_)] Sx ⟨(q-1),(TB.set l[q-1]!.pa.toNat (TB[l[q-1]!.pa.toNat]! +TB[q-1]!)),(LA.set (q-1) ((((q:Int)-1+1)==(n_l:Int))|| !(l[q]!.pa==((q:Int)-1)))),rfl,rfl,(H.pick [0,0]),Om,(tm.yes hv Om Om Om),(hL.put Om Om e_l)⟩
     refine WX.yldL rfl rfl (blt rfl) rfl (H.pick [0]) (ld rfl u3 rfl (Ls.at_eq (H.l 1) b39 rfl)) ?_;refine WX.yldL rfl rfl (blt rfl) rfl (H.pick [0]) (ld rfl u3 rfl (Ls.at_eq (H.l 1) b38 rfl)) ?_;have b41:l[q-1]!.pa.toNat<n19:=Om;refine G1 ?_;refine yx rfl (Y.indexLs l[q-1]!.pa.toNat (H.l 1) rfl u65 ti3 rfl rfl Om b41) ?_;refine steX (H.pick [0]) H 1 rfl (TB[l[q-1]!.pa.toNat]! +TB[q-1]!) b41 ti3 rfl fun z H=> ?_;refine WX.nil (H.pick [0]) ?_;refine G4 ?_;refine yy (Yld.cast (Y.sub rfl rfl rfl Wo) (vi (show(q:Int)-1-1=((q-1:Nat):Int)-1 from Om))) ?_;refine go ?_;exact Rs [(7,_)] Sx ⟨(q-1),(TB.set l[q-1]!.pa.toNat (TB[l[q-1]!.pa.toNat]! +TB[q-1]!)),(LA.set (q-1) ((((q:Int)-1+1)==(n_l:Int))|| !(l[q]!.pa==((q:Int)-1)))),rfl,rfl,(H.pick [0,0]),Om,(tm.yes hv Om Om Om),(hL.put Om Om e_l)⟩
    ·refine G5 ?_;refine yy (Yld.cast (Y.sub rfl rfl rfl Wo) (vi (show(q:Int)-1-1=((q-1:Nat):Int)-1 from Om))) ?_;refine go ?_;exact Rs [(7,_)] Sx ⟨(q-1),TB,(LA.set (q-1) ((((q:Int)-1+1)==(n_l:Int))|| !(l[q]!.pa==((q:Int)-1)))),rfl,rfl,(H.pick [0,0]),Om,(tm.no Om Om Om),(hL.put Om Om e_l)⟩
   ·obtain rfl:q=0:=Om;have tl:=hT.1;have ll:=hL.1;refine go ?_;refine sb [87,5,6,85,86] ?_;refine WC.loopS 1 (fun mz Ed W'=>∃j:Nat,mz=n_l-j∧Ed=[(87,.int .i64 ((j:Nat):Int))]∧Hp w W' (_::_::[])∧(j≤n_l)) _ ⟨0,rfl,rfl,(H.pick [0,0]),(Nat.zero_le _)⟩ ?_;rintro _ _ z ⟨j,rfl,rfl,H,jl⟩;refine go ?_;refine Cd (fun p46=> ?_) fun p46=> ?_
    ·have ta_:TA[j]! =l[j]!.to:=by rw[hT.2 j Om,if_pos (Nat.zero_le _)]
     have la_:=hL.2 j (Nat.zero_le _) Om;have fj:=hv.f j Om;have b49:j<n_l:=Om;refine go ?_;refine al H ti73 fun g50 z H=> ?_;refine go ?_;refine st H 0 ti73 fun z H=> ?_;refine go ?_;refine Qr ?_;have b53:j<n22:=Om;refine go ?_;refine Qd H fun z H=> ?_;refine go ?_;refine WC.cond rfl (fun h54=> ?_) (fun h54=> ?_)
     ·rw[ta_,la_]at h54;grind
     ·have p54:=(And.intro ((and_f (or_f h54).1).imp (fun h=>h) (fun h=>(eq_f h))) (eq_t (not_f (or_f h54).2)));refine G3 ?_;refine sb [5,6,85,86,87] ?_;refine go ?_;exact Rs [(87,_)] Sx ⟨(j+1),rfl,rfl,(H.pick [1,1]),Om⟩
    ·refine go ?_;refine Rt [_] ?_;exact⟨rfl,H.ext⟩
  refine msX (H.pick []) (f:=bc) (m:=n_l) false H u191 ti4 Om fun v56 z H=> ?_;refine msX (H.pick []) (f:=ic) (m:=n_l) (0:Int) H u65 ti3 Om fun v58 z H=> ?_;refine go ?_;refine WX.nil (H.pick []) ?_;obtain⟨A62,n63,c64,rfl,_,_,_⟩:=H.op 0;obtain⟨A65,n66,c67,rfl,_,_,_⟩:=H.op 1;refine go ?_;refine sb [7,0,5,6] ?_;refine WC.loopS 1 (fun mz Ed W'=>∃q:Nat,∃TA:List Int,∃LA:List Bool,mz=2*q∧Ed=[(7,.int .i64 (((q:Nat):Int)-1))]∧Hp w W' (row 3 ic 1 (.slice A62 n63 c64) TA::row 4 bc 1 (.slice A65 n66 c67) LA::[])∧(q≤n_l)∧(TtI l q TA)∧(LfI l q LA)) _ ⟨n_l,_,_,rfl,rfl,(H.pick [0,0]),Nl,(TtI.start e_l),(LfI.start e_l)⟩ ?_;rintro _ _ z ⟨q,TA,LA,rfl,rfl,H,hq,hT,hL⟩;refine go ?_;refine Cd (fun p70=> ?_) fun p70=> ?_
  ·have q1:1≤q:=Om;have ow_:=hT.own hv q1 Om;have rq:=hv.tr (q-1) Om;have pq:=hv.p (q-1) Om;have tl:=hT.1;have ll:=hL.1;refine go ?_;refine Xr H (HpC w _) (.load 0 (.load 1 (.load 2 (.load 4 (.load 5 (.load 6 (.load 7 (.load 8 (.alt 3 (.load 9 (.load 10 (.alt 11 (.fin) (.none)))) (.none)))))))))) (H.pick [1]) fun z H=> ?_;have b73:(q-1)<n63:=Om;refine G2 ?_;refine yx rfl (Y.indexLs (q-1) (H.l 0) rfl u65 ti3 rfl rfl Om b73) ?_;have b74:(q-1)<n_l:=Om;refine G2 ?_;refine yx rfl (Y.indexLs (q-1) (h_l.ext H.ext) rfl u46 ti73 rfl rfl Om b74) ?_;refine G2 ?_;refine WX.yldL rfl rfl (blt rfl) rfl (H.pick [1]) (ld rfl u3 rfl (Ls.at_eq (H.l 0) b73 rfl)) ?_;have b75:(q-1)<n63:=Om;refine G1 ?_;refine yx rfl (Y.indexLs (q-1) (H.l 0) rfl u65 ti3 rfl rfl Om b75) ?_;refine steX (H.pick [1]) H 0 rfl (TA[q-1]! +l[q-1]!.se) b75 ti3 rfl fun z H=> ?_;refine WX.nil (H.pick [1]) ?_;have tm:=hT.mid hv (q:=q) Om Om;obtain⟨TB,hTB⟩:∃t,t=(TA.set (q-1) (TA[q-1]! +l[q-1]!.se)):=⟨_,rfl⟩;rw[←hTB]at H tm;refine G13 ?_;refine yg (fun hb=>Y.indexLs q (h_l.ext H.ext) rfl u46 ti73 (evg rfl hb) (evg rfl hb) (by have q0:=(eq_f hb);omega) (by have q0:=(eq_f hb);omega)) ?_;have b77:(q-1)<n66:=Om;refine G5 ?_;refine yy (Y.indexLs (q-1) (H.l 1) rfl u191 ti4 rfl rfl Om b77) ?_;refine ste H 1 rfl ((((q:Int)-1+1)==(n_l:Int))|| !(l[q]!.pa==((q:Int)-1))) b77 ti4 rfl fun z H=> ?_;have b79:(q-1)<n_l:=Om;refine G4 ?_;refine yy (Y.indexLs (q-1) (h_l.ext H.ext) rfl u46 ti73 rfl rfl Om b79) ?_;refine G4 ?_;refine sb [0,5,6,7,70] ?_;refine Cd (fun p80=> ?_) fun p80=> ?_
   ·have ts_:=tm.sum hv Om Om Om;have tb_:=tm.1;refine Xr H (HpC w _) (.load 0 (.load 1 (.load 2 (.load 3 (.load 4 (.load 5 (.load 6 (.load 8 (.load 9 (.load 10 (.alt 7 (.alt 11 (.load 12 (.load 13 (.alt 14 (.fin) (.none)))) (.none)) (.alt 11 (.alt 7 (.load 12 (.load 13 (.alt 14 (.fin) (.none)))) (.none)) (.none))))))))))))) (H.pick [1]) fun z H=> ?_;have b81:(q-1)<n_l:=Om;refine G3 ?_;refine yx rfl (Y.indexLs (q-1) (h_l.ext H.ext) rfl u46 ti73 rfl rfl Om b81) ?_;have b82:l[q-1]!.pa.toNat<n63:=Om;refine G2 ?_;refine yx rfl (Y.indexLs l[q-1]!.pa.toNat (H.l 0) rfl u65 ti3 rfl rfl Om b82) ?_;have b83:(q-1)<n63:=Om;refine G2 ?_;refine yx rfl (Y.indexLs (q-1) (H.l 0) rfl u65 ti3 rfl rfl Om b83) ?_;refine WX.alt ?_ ?_
    ·refine WX.yldL rfl rfl (blt rfl) rfl (H.pick [1]) (ld rfl u3 rfl (Ls.at_eq (H.l 0) b82 rfl)) ?_;refine WX.yldL rfl rfl (blt rfl) rfl (H.pick [1]) (ld rfl u3 rfl (Ls.at_eq (H.l 0) b83 rfl)) ?_;have b84:l[q-1]!.pa.toNat<n63:=Om;refine G1 ?_;refine yx rfl (Y.indexLs l[q-1]!.pa.toNat (H.l 0) rfl u65 ti3 rfl rfl Om b84) ?_;refine steX (H.pick [1]) H 0 rfl (TB[l[q-1]!.pa.toNat]! +TB[q-1]!) b84 ti3 rfl fun z H=> ?_;refine WX.nil (H.pick [1]) ?_;refine G4 ?_;refine yy (Yld.cast (Y.sub rfl rfl rfl Wo) (vi (show(q:Int)-1-1=((q-1:Nat):Int)-1 from Om))) ?_;refine go ?_;exact Rs [(7,_)] Sx ⟨(q-1),(TB.set l[q-1]!.pa.toNat (TB[l[q-1]!.pa.toNat]! +TB[q-1]!)),(LA.set (q-1) ((((q:Int)-1+1)==(n_l:Int))|| !(l[q]!.pa==((q:Int)-1)))),rfl,rfl,(H.pick [0,0]),Om,(tm.yes hv Om Om Om),(hL.put Om Om e_l)⟩
    refine WX.yldL rfl rfl (blt rfl) rfl (H.pick [1]) (ld rfl u3 rfl (Ls.at_eq (H.l 0) b83 rfl)) ?_;refine WX.yldL rfl rfl (blt rfl) rfl (H.pick [1]) (ld rfl u3 rfl (Ls.at_eq (H.l 0) b82 rfl)) ?_;have b85:l[q-1]!.pa.toNat<n63:=Om;refine G1 ?_;refine yx rfl (Y.indexLs l[q-1]!.pa.toNat (H.l 0) rfl u65 ti3 rfl rfl Om b85) ?_;refine steX (H.pick [1]) H 0 rfl (TB[l[q-1]!.pa.toNat]! +TB[q-1]!) b85 ti3 rfl fun z H=> ?_;refine WX.nil (H.pick [1]) ?_;refine G4 ?_;refine yy (Yld.cast (Y.sub rfl rfl rfl Wo) (vi (show(q:Int)-1-1=((q-1:Nat):Int)-1 from Om))) ?_;refine go ?_;exact Rs [(7,_)] Sx ⟨(q-1),(TB.set l[q-1]!.pa.toNat (TB[l[q-1]!.pa.toNat]! +TB[q-1]!)),(LA.set (q-1) ((((q:Int)-1+1)==(n_l:Int))|| !(l[q]!.pa==((q:Int)-1)))),rfl,rfl,(H.pick [0,0]),Om,(tm.yes hv Om Om Om),(hL.put Om Om e_l)⟩
   ·refine G5 ?_;refine yy (Yld.cast (Y.sub rfl rfl rfl Wo) (vi (show(q:Int)-1-1=((q-1:Nat):Int)-1 from Om))) ?_;refine go ?_;exact Rs [(7,_)] Sx ⟨(q-1),TB,(LA.set (q-1) ((((q:Int)-1+1)==(n_l:Int))|| !(l[q]!.pa==((q:Int)-1)))),rfl,rfl,(H.pick [0,0]),Om,(tm.no Om Om Om),(hL.put Om Om e_l)⟩
  ·obtain rfl:q=0:=Om;have tl:=hT.1;have ll:=hL.1;refine go ?_;refine sb [87,5,6,85,86] ?_;refine WC.loopS 1 (fun mz Ed W'=>∃j:Nat,mz=n_l-j∧Ed=[(87,.int .i64 ((j:Nat):Int))]∧Hp w W' (_::_::[])∧(j≤n_l)) _ ⟨0,rfl,rfl,(H.pick [0,0]),(Nat.zero_le _)⟩ ?_;rintro _ _ z ⟨j,rfl,rfl,H,jl⟩;refine go ?_;refine Cd (fun p90=> ?_) fun p90=> ?_
   ·have ta_:TA[j]! =l[j]!.to:=by rw[hT.2 j Om,if_pos (Nat.zero_le _)]
    have la_:=hL.2 j (Nat.zero_le _) Om;have fj:=hv.f j Om;have b93:j<n_l:=Om;refine go ?_;refine al H ti73 fun g94 z H=> ?_;refine go ?_;refine st H 0 ti73 fun z H=> ?_;refine go ?_;refine Qr ?_;have b97:j<n66:=Om;refine go ?_;refine Qd H fun z H=> ?_;refine go ?_;refine WC.cond rfl (fun h98=> ?_) (fun h98=> ?_)
    ·rw[ta_,la_]at h98;grind
    ·have p98:=(And.intro ((and_f (or_f h98).1).imp (fun h=>h) (fun h=>(eq_f h))) (eq_t (not_f (or_f h98).2)));refine G3 ?_;refine sb [5,6,85,86,87] ?_;refine go ?_;exact Rs [(87,_)] Sx ⟨(j+1),rfl,rfl,(H.pick [1,1]),Om⟩
   ·refine go ?_;refine Rt [_] ?_;exact⟨rfl,H.ext⟩
theorem flsum_any(A_l:Option Addr)(n_l c_l:Nat)(l:List No)(w:World)(h_l:Ls w A_l n_l c_l No.c 5 l)(hv:FlOk l):
  Cr 8 #[.slice A_l n_l c_l] w (.int .i64 (seN l l.length)):=by
 have H:=(Hp.nil w);have e_l:=h_l.len;have z_l:=h_l.nle;have hn:=hv.n;refine Wb Tryz.func8 ?_;refine go ?_;refine c1 H Fh (flchk_any _ _ _ _ _ (h_l.ext H.ext) @hv) fun z H=> ?_;refine Kd ?_;refine go ?_;refine WC.condF rfl ?_;refine go ?_;refine sb [11,3,9,10] ?_;refine WC.loopS 2 (fun mz Ed W'=>∃j:Nat,mz=n_l-j∧Ed=[(11,.int .i64 ((j:Nat):Int)),(3,.int .i64 (seN l j))]∧Hp w W' ([])∧(j≤n_l)) _ ⟨0,rfl,rfl,(H.pick []),(Nat.zero_le _)⟩ ?_;rintro _ _ z ⟨j,rfl,rfl,H,jl⟩;have tj:=seN_rng (fun i hi=>(hv.v i hi).2.1) j Om;refine go ?_;refine Cd (fun p9=> ?_) fun p9=> ?_
 ·have vj:=(hv.v j Om).2.1;have b12:j<n_l:=Om;refine go ?_;refine al H ti73 fun g13 z H=> ?_;refine st H 0 ti73 fun z H=> ?_;refine G14 ?_;rw[show seN l j+l[j]!.se=seN l (j+1)from rfl];exact Rs [(11,_),(3,_)] Sx ⟨(j+1),rfl,rfl,(H.pick []),Om⟩
 ·refine go ?_;refine Rt [_] ?_;exact⟨by rw[show l.length=j from Om];rfl,H.ext⟩
end TW
end Go.Proofs.YtaclfjjipnpboaaGreat
end
namespace Go.Eng
open Go Go.RowKit
theorem run_eqMap{P:Program}{t k e:TypeId}(p:Option Nat)(hU:P.underlying t=some (.map k e))(w:World):(Op.equal t (.map p) (.map none)).run P w= .ok p.isNone w:=by
 unfold Op.equal Op.maxDepth;rw[show(10000:Nat)=9999+1 from rfl];unfold Op.equalIn;cases p<;>simp[run_underlying hU]
namespace Y
section
variable{P:Program}{o:Oper}{n:Nat}{E:Env}{C:World→Prop}{x:Operand}{t t' k e:TypeId}
theorem eqlM{p:Option Nat}(ho:o.op= .binOp .eql t x (.const (.map none)) t')(hU:P.underlying t=some (.map k e))(hx:ev E x=some (.map p)):Yld P o n E C (.bool p.isNone):=by
 intro a w hA _;have hg:(eqGuard .eql t x (.const (.map none)) (.map p) (.map none)).run P w= .ok () w:=by
  rfl
 have hb:binOp .eql t (.map p) (.map none)=(do pure (.bool ((←Op.equal t (.map p) (.map none))))):=rfl;have hc:a.eval (.const (.map none))= .map none:=rfl;simp only[execOp,ho,hA.ev hx,hc,Sem.run_bind,hg,hb,run_eqMap p hU,Result.andThen_ok,Sem.run_pure]
theorem eqlMS{b:Nat}(ho:o.op= .binOp .eql t x (.const (.map none)) t')(hU:P.underlying t=some (.map k e))(hx:ev E x=some (.map (some b))):Yld P o n E C (.bool false):=eqlM ho hU hx
theorem eqlMN(ho:o.op= .binOp .eql t x (.const (.map none)) t')(hU:P.underlying t=some (.map k e))(hx:ev E x=some (.map none)):Yld P o n E C (.bool true):=eqlM ho hU hx
end
end Y
def mrn(it:Nat):Res:=⟨fun b=>b=it,fun w=>w.heap[it]? =some (.mapIter none 0 #[] 0),fun _ _ h e=>e▸(Array.getElem?_eq_some_iff.1 h).1,fun _ _ hb h=>(hb it rfl).trans h⟩
section
variable{P:Program}{n:Nat}{ops:Array Oper}{Q:Exit→Act→World→Prop}{E:Env}{W w:World}{L L':List Res}{o:Oper}{rest:List Oper}{d:Nat}
theorem rgN{t kt e:Nat}{x:Operand}(H:Hp W w L)(hU:P.underlying t=some (.map kt e))(h:∀it w',Hp W w' (mrn it::L)→WL P n ops Q rest ((d,.pointer (some ⟨it,0,none⟩))::E) w')
  (hd:o.dst=some d:=by exact rfl) (hn:d<n:=by exact blt rfl) (hg:o.guard=none:=by exact rfl) (ho:o.op= .range t x:=by exact rfl) (hx:ev E x=some (.map none):=by exact rfl):WL P n ops Q (o::rest) E w:=by
 intro a ha;have hr:(execOp a.eval o).run P w= .ok (.value (.pointer (some ⟨w.heap.size,0,none⟩))) (w.alloc (.mapIter none 0 #[] 0)):=by
  simp[execOp,ho,ha.ev hx,run_range_nilMap w t kt e hU]
 refine wpList_plain hg fun K hK=>wp_of_run hr (hK _ _ ?_);rw[hd];exact h _ _ (H.new ((Ext.refl w).alloc _) (R:=mrn w.heap.size) (heap_alloc_new w _) fun b hb=>by rw[show b=w.heap.size from hb];omega) _ (ha.put hn _)
theorem nxN{it:Nat}{x:Operand}{ty:TypeId}(H:Hp W w L)(k:Nat)(h0:∀w',Hp W w' L→WL P n ops Q rest ((d,.tuple #[.bool false])::E) w')
  (hd:o.dst=some d:=by exact rfl) (hn:d<n:=by exact blt rfl) (hg:o.guard=none:=by exact rfl) (ho:o.op= .next x false:=by exact rfl) (hx:ev E x=some (.pointer (some ⟨it,0,none⟩)):=by exact rfl)
  (hk:L[k]? =some (mrn it):=by exact rfl):WL P n ops Q (o::rest) E w:=by
 intro a ha;have hi:w.heap[it]? =some (.mapIter none 0 #[] 0):=H.get hk;have hr:(execOp a.eval o).run P w= .ok (.value (.tuple #[.bool false])) w:=by
  simp[execOp,ho,ha.ev hx,Instr.next,getObj,Sem.run,hi]
 refine wpList_plain hg fun K hK=>wp_of_run hr (hK _ _ ?_);rw[hd];exact h0 w H _ (ha.put hn _)
end
end Go.Eng
