/- Part 19 of the proof. Conditions: what each theorem states. -/
import Derived.Test.YtaclfjjipnpboaaGreatP01
import Derived.Test.YtaclfjjipnpboaaGreatP03
import Derived.Shelf.SlSortCmp.NoneTotal
set_option linter.all false
set_option maxHeartbeats 4000000
set_option maxRecDepth 4000
namespace Go.Eng
open Go Go.RowKit Go.Lib Go.Sort Go.Proofs
section
variable{α:Type}{f:α→List Value}{sz:Nat}
theorem flat_length(hf:∀x,(f x).length=sz)(q:List α):(q.flatMap f).length=q.length*sz:=by
 induction q<;>grind
end
section
variable{α:Type}[Inhabited α]{f:α→List Value}{sz:Nat}
theorem flatK_eq(hf:∀x,(f x).length=sz)(hp:0<sz)(l:List α):(flatK f sz l.toArray).toList=l.flatMap f:=by
 apply List.ext_getElem?;intro t;by_cases ht:t<l.length*sz
 ·have hi:t/sz<l.length:=(Nat.div_lt_iff_lt_mul hp).2 ht;have hj:t%sz<sz:=Nat.mod_lt _ hp;have hu:(f l[t/sz]!)[t%sz]? =some ((f l[t/sz]!)[t%sz]!):=get_bang (by grind);have h1:=getElem?_flatMap hf (get_bang hi) hu;rw[Nat.mul_comm,Nat.div_add_mod]at h1;rw[h1,Array.getElem?_toList];unfold flatK;grind
 grind [flatK,List.getElem?_eq_none,flat_length]
theorem holdsK_own(hf:∀x,(f x).length=sz)(hp:0<sz){w:World}{g e:Nat}{cur:Array Value}{l:List α}(hb:w.heap[g]? =some (.cells cur e (0,0)))(ht:cur.toList.take (l.length*sz)=l.flatMap f):HoldsK f sz w g 0 l.toArray:=by
 intro j hj;have hj':j<l.length*sz:=by simp_all
 refine⟨?_,by simp[World.frozen?,hb]⟩;have h1:(cur.toList.take (l.length*sz))[j]? =(flatK f sz l.toArray).toList[j]? :=by grind [flatK_eq]
 rw[List.getElem?_take_of_lt hj',Array.getElem?_toList,Array.getElem?_toList]at h1;simp_all [World.cell?,Nat.zero_add,Option.isSome_none,Bool.false_eq_true,if_false,getElem!_pos,Array.getElem?_eq_getElem]
theorem grown_sortK{w:World}{g n:Nat}{os:Array Obj}(d:Array α):Gr w (sortWorldK f sz w g 0 n d os) (some g):=by
 unfold sortWorldK putRowK;refine⟨⟨rfl,rfl,rfl,by simp,fun k hk hne=> ?_⟩,Dle.of (Nat.le_add_right _ _)⟩;rw[heap_grow_old _ _ (by simp_all)];have:g≠k:=fun e=>hne (by rw[e]);simp[putRow,mapBlock,Sort.ahead,Array.getElem?_modify,this]
theorem own_sortK(hf:∀x,(f x).length=sz)(hp:0<sz){w:World}{base g cap n e:Nat}{os:Array Obj}{cur:Array Value}{ss ts:List α}(hl:ts.length=ss.length)(hbase:base≤g)(hb:w.heap[g]? =some (.cells cur e (0,0)))
  (h1:ss.length≤cap) (h2:cap≤maxLen) (h3:cur.size=cap*sz):OwnL (sortWorldK f sz w g 0 n ts.toArray os) base e f sz (.slice (some ⟨g,0,none⟩) ss.length cap) ts:=by
 have hg:g<w.heap.size:=(Array.getElem?_eq_some_iff.1 hb).1;have hh:(sortWorldK f sz w g 0 n ts.toArray os).heap[g]? =some (.cells (putCells id 0 (flatK f sz ts.toArray) cur) e (0,0)):=by
  unfold sortWorldK putRowK;rw[heap_grow_old _ _ (by simp_all)];simp[putRow,mapBlock,Sort.ahead,Array.getElem?_modify,hb,onCells]
 have hle:ts.length*sz≤cap*sz:=Nat.mul_le_mul_right sz Om;refine⟨flat_length hf ts,.inr ⟨g,cap,_,by rw[hl],hbase,hh,Om,h2,by simp[putCells,h3],?_⟩⟩;rw[←flatK_eq hf hp];apply List.ext_getElem?;intro j;by_cases hj:j<ts.length*sz<;>simp_all [dite,List.getElem?_take_of_lt,Array.getElem?_toList,flatK,putCells,List.getElem?_take_eq_none,List.getElem?_eq_none]
def srtBy(lt:α→α→Bool)(l:List α):List α:=(pdq lt l.toArray 0 l.length (Lib.bitLen l.length) true true).toList
theorem srtBy_sorts(lt:α→α→Bool)(hO:SWO lt)(l:List α):(srtBy lt l).Perm l∧∀i j,i<j→j<l.length→lt (srtBy lt l)[j]! (srtBy lt l)[i]! =false:=by
 obtain⟨hp,hs⟩:=pdq_sorts lt hO l.toArray 0 l.length (Lib.bitLen l.length) true true (Nat.zero_le _) (by simp) (Or.inl rfl);obtain⟨h1,_,h2⟩:=hp;have hsz:(pdq lt l.toArray 0 l.length (Lib.bitLen l.length) true true).size=l.length:=Om;refine⟨?_,fun i j hij hj=> ?_⟩
 ·rw[Array.toList_extract,Array.toList_extract]at h2;simp only[Nat.sub_zero,List.extract_eq_take_drop,List.drop_zero]at h2;have e1:(pdq lt l.toArray 0 l.length (Lib.bitLen l.length) true true).toList.length=l.length:=Om;have e2:l.toArray.toList.length=l.length:=rfl;rw[List.take_of_length_le (Nat.le_of_eq e1),List.take_of_length_le (Nat.le_of_eq e2)]at h2;exact h2
 ·have:=hs i j (Nat.zero_le _) hij hj;have hg:∀k,(srtBy lt l)[k]! =(pdq lt l.toArray 0 l.length (Lib.bitLen l.length) true true)[k]! :=fun k=>by
   unfold srtBy;rw[List.getElem!_eq_getElem?_getD,Array.getElem!_eq_getD,Array.getD_eq_getD_getElem?,Array.getElem?_toList]
  grind
theorem srtBy_len(lt:α→α→Bool)(hO:SWO lt)(l:List α):(srtBy lt l).length=l.length:=(srtBy_sorts lt hO l).1.length_eq
end
end Go.Eng
