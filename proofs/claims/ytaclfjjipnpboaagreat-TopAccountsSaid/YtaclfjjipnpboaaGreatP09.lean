/- Part 9 of the proof. Conditions: what each theorem states. -/
import Derived.Test.YtaclfjjipnpboaaGreatP04
import Derived.Test.YtaclfjjipnpboaaGreatP01
import Derived.Test.YtaclfjjipnpboaaGreatP07
import Derived.Test.YtaclfjjipnpboaaGreatP03
import Derived.Test.YtaclfjjipnpboaaGreatProg
import Derived.Test.YtaclfjjipnpboaaGreatP08
import Derived.Test.YtaclfjjipnpboaaGreatP02
import Derived.Laws.StructEq
set_option linter.all false
set_option maxHeartbeats 4000000
set_option maxRecDepth 4000
section
attribute [local irreducible] Go.Eng.WC Go.Eng.WL Go.Eng.WK Go.Eng.WQ Go.Eng.WX Go.Eng.Yld
namespace Go.Proofs.YtaclfjjipnpboaaGreat
open Go Go.Eng Go.RowKit
namespace TW
def sT(q:Nat×Nat×Nat)(t:Nat):Nat:=match t with
 |39=>q.1
 |176=>q.2.1
 |180=>q.2.2
 |t=>t
def sO(fi:Nat→Nat):Operand→Operand
 | .func f=>.func (fi f)
 |x=>x
def sK(fi:Nat→Nat):Callee→Callee
 | .value f=>.value (sO fi f)
 |x=>x
def sP(q:Nat×Nat×Nat)(fi:Nat→Nat):Op→Op
 | .load t x=>.load (sT q t) x
 | .store t x y=>.store (sT q t) x y
 | .indexAddr t x y=>.indexAddr (sT q t) x y
 | .call ⟨c,a,ts⟩=>.call ⟨sK fi c,a,(ts.toList.map (sT q)).toArray⟩
 |x=>x
def sR(q:Nat×Nat×Nat)(fi:Nat→Nat)(o:Oper):Oper:=⟨o.dst,sP q fi o.op,sT q o.type,o.pos,o.after,o.guard⟩
def sC(q:Nat×Nat×Nat)(fi:Nat→Nat):Code→Code
 | .region i l d=>.region i (l.toList.map (sR q fi)).toArray d
 | .seq a b=>.seq (sC q fi a) (sC q fi b)
 | .cond c a b=>.cond c (sC q fi a) (sC q fi b)
 | .block i a=>.block i (sC q fi a)
 | .loop a=>.loop (sC q fi a)
 |x=>x
def Fs(q:Nat×Nat×Nat)(fi:Nat→Nat)(F:Nat)(fn0:Func):Prop:=∃fn,Tryz.prog.funcs[F]? =some fn∧fn.body=fn0.body.map (sC q fi)∧fn.ntmps=fn0.ntmps∧fn.results=fn0.results∧hasB Tryz.prog F=true
section
variable{q:Nat×Nat×Nat}{fi:Nat→Nat}{F:Nat}{fn0:Func}
theorem Fs.has(h:Fs q fi F fn0):Has Tryz.prog F:=by
 obtain⟨_,_,_,_,_,h⟩:=h;exact Fh h
theorem post_eq{P:Program}{fn fn0:Func}(h:fn.results=fn0.results)(R:Ending→World→Prop):bodyPost P fn R=bodyPost P fn0 R:=by
 have e:∀t,results fn t=results fn0 t:=fun t=>by unfold results;rw[h]
 funext e' a w;cases e'<;>simp only[bodyPost,e]
theorem wG{c:Code}{n:Nat}{args:List Value}{w:World}{R:Ending→World→Prop}(h:Fs q fi F fn0)(hb:fn0.body.map (sC q fi)=some c)(hw:WC Tryz.prog n c (bodyPost Tryz.prog fn0 R) (params 0 args) w)(hn:fn0.ntmps=n:=by exact rfl)(hl:args.length≤n:=by exact ble rfl):Calls Tryz.prog F args.toArray w R:=by
 obtain⟨fn,h1,h2,h3,h4,_⟩:=h;exact calls_of_WC h1 (h2.trans hb) (h3.trans hn) hl (by rw[post_eq h4];exact hw)
end
structure SG{α:Type}[Inhabited α](ce:α→List Value)(sz:Nat)(vl:α→Value)(tt:Nat×Nat×Nat)(fi:Nat→Nat):Prop where
 u:Tryz.prog.underlying tt.1=some (.slice tt.2.1)
 t0:∃z by',TI Tryz.prog tt.2.1 z sz by'
 len:∀x,(ce x).length=sz
 pos:0<sz
 cells:∀x,(vl x).cells=(ce x).toArray
 one:∀x,(ce x).all Value.oneCell'=true
 ld0:∀(o:Oper) (n:Nat) (E:Env) (C:World→Prop) (x:Operand) (A:Option Addr) (m cap:Nat) (l:List α) (k:Nat),o.op= .load tt.2.1 x→ev E x=some (.pointer (some (elemAt A sz k 0)))→(∀w',C w'→Ls w' A m cap ce sz l)→k<m→Yld Tryz.prog o n E C (vl l[k]!)
 f245:Fs tt fi (fi 245) Tryz.f245
 f163:Fs tt fi (fi 163) Tryz.f163
 f205:Fs tt fi (fi 205) Tryz.f205
 f164:Fs tt fi (fi 164) Tryz.f164
 f101:Fs tt fi (fi 101) Tryz.f101
 f70:Fs tt fi (fi 70) Tryz.f70
section
variable{α:Type}[Inhabited α]{ce:α→List Value}{sz:Nat}{vl:α→Value}{tt:Nat×Nat×Nat}{fi:Nat→Nat}
theorem sT_0{q:Nat×Nat×Nat}:sT q 0=0:=rfl
theorem sT_3{q:Nat×Nat×Nat}:sT q 3=3:=rfl
theorem sT_4{q:Nat×Nat×Nat}:sT q 4=4:=rfl
theorem sT_39{q:Nat×Nat×Nat}:sT q 39=q.1:=rfl
theorem sT_176{q:Nat×Nat×Nat}:sT q 176=q.2.1:=rfl
theorem sT_180{q:Nat×Nat×Nat}:sT q 180=q.2.2:=rfl
theorem sT_199{q:Nat×Nat×Nat}:sT q 199=199:=rfl
theorem SG.l(S:SG ce sz vl tt fi){W w:World}{L:List Res}{n c:Nat}{A:Option Addr}{l:List α}(H:Hp W w L)(k:Nat)(hk:L[k]? =some (row tt.2.1 ce sz (.slice A n c) l):=by exact rfl):Ls w A n c ce sz l:=H.l k hk S.len S.pos
theorem SG.ld(S:SG ce sz vl tt fi){o:Oper}{n:Nat}{E:Env}{C:World→Prop}{x:Operand}{A:Option Addr}{m cap:Nat}{l:List α}{k:Nat}(ho:o.op= .load tt.2.1 x)(hx:ev E x=some (.pointer (some (elemAt A sz k 0))))(h:∀w',C w'→Ls w' A m cap ce sz l)(hk:k<m):Yld Tryz.prog o n E C (vl l[k]!):=S.ld0 o n E C x A m cap l k ho hx h hk
theorem setAll_all:∀(a b:List Value) (c:List Value),a.length=b.length→setAll (c++b) c.length a=c++a
 |[],[],c,_=>rfl
 |[],_::_,c,h=>by cases h
 |_::_,[],c,h=>by cases h
 |v::a,u::b,c,h=>by
  have e:=setAll_all a b (c++[v]) (by simpa using h);simpa[setAll]using e
theorem SG.ixL(S:SG ce sz vl tt fi){o:Oper}{n:Nat}{E:Env}{C:World→Prop}{x y:Operand}{A:Option Addr}{len cap:Nat}{k:IntKind}{i:Int}{l:List α}{w:World}(j:Nat)(h:Ls w A len cap ce sz l)(ho:o.op= .indexAddr tt.1 x y)(hx:ev E x=some (.slice A len cap))(hy:ev E y=some (.int k i))(hj:i=(j:Int))(hl:j<len):Yld Tryz.prog o n E C (.pointer (some (elemAt A sz j 0))):=by
 obtain⟨z,by',h1⟩:=S.t0;exact Y.indexLs j h ho S.u h1 hx hy hj hl
theorem SG.stX(S:SG ce sz vl tt fi){n:Nat}{ops:Array Oper}{C:World→Prop}{Q:Act→World→Prop}{r:Ord}{E:Env}{W w:World}{L L':List Res}{i:Nat}{o:Oper}{l:List α}{x y:Operand}{A:Option Addr}{len cap i2:Nat}(hC:C w)(H:Hp W w L)(k:Nat)(hk:L[k]? =some (row tt.2.1 ce sz (.slice A len cap) l))(x':α)(hi2:i2<len)
  (h:∀w',Hp W w' L'→WX Tryz.prog n ops C Q r E w') (hi:ops[i]? =some o:=by exact rfl) (hd:o.dst=none:=by exact rfl) (hg:o.guard=none:=by exact rfl) (ho:o.op= .store tt.2.1 x y:=by exact rfl) (hx:ev E x=some (.pointer (some (elemAt A sz i2 0))):=by exact rfl) (hy:ev E y=some (vl x'):=by exact rfl)
  (p:Put (row tt.2.1 ce sz (.slice A len cap) (l.set i2 x')) k (row tt.2.1 ce sz (.slice A len cap) l) L L':=by repeat (first|exact Put.here|apply Put.there)):WX Tryz.prog n ops C Q (.alt i r .none) E w:=by
 obtain⟨z,by',h1⟩:=S.t0;exact steX hC H k hk x' hi2 (by rw[S.len x'];exact h1) rfl h S.len hi hd hg ho hx hy (S.cells x') p (by rw[Nat.zero_add,S.len x'];simp) (S.one x') (by rw[show setAll (ce l[i2]!) 0 (ce x')=ce x' from setAll_all (ce x') (ce l[i2]!) [] (by rw[S.len,S.len])])
theorem swrG_any(S:SG ce sz vl tt fi)(A:Option Addr)(n q:Nat)(l:List α)(a b k:Nat)(f:FuncId)(cap:List Value)(c:α→α→Int)(W:World)(R:List Res)(w:World)(H:Hp W w (row tt.2.1 ce sz (.slice A n q) l::R))(ha:a+k≤n)(hb:b+k≤n)(h1:n≤1000000):
  Calls Tryz.prog (fi 245) #[.slice A n q,.int .i64 (a:Int),.int .i64 (b:Int),.int .i64 (k:Int),.func (.func f) #[] cap.toArray] w fun e w'=>e= .returned (resVal [])∧Hp W w' (row tt.2.1 ce sz (.slice A n q) (swr a b k l)::R):=by
 have e_n:=(S.l H 0).len;have z_n:=(S.l H 0).nle;subst e_n;refine wG (args:=[.slice A l.length q,.int .i64 (a:Int),.int .i64 (b:Int),.int .i64 (k:Int),.func (.func f) #[] cap.toArray]) S.f245 (by simp only[Tryz.f245,sC,sR,sP,sK,sO,Option.map,List.map,sT_0,sT_3,sT_4,sT_39,sT_176,sT_180,sT_199];rfl) ?_;refine go ?_;refine sb [10,0,1,2,3] ?_;refine WC.loopS 1 (fun mz Ed W'=>∃j:Nat,mz=2*(k-j)∧Ed=[(10,.int .i64 ((j:Nat):Int))]∧Hp W W' (row tt.2.1 ce sz (.slice A l.length q) (swr a b j l)::R)∧(j≤k)) _ ⟨0,rfl,rfl,H,(Nat.zero_le _)⟩ ?_;rintro _ _ z ⟨j,rfl,rfl,H,jk⟩;have wl:=swr_len a b j l;refine go ?_;refine Cd (fun p6=> ?_) fun p6=> ?_
 ·refine go ?_;refine Xr H (HpC W _) (.load 0 (.load 1 (.load 2 (.load 3 (.load 4 (.load 5 (.load 6 (.load 7 (.load 8 (.load 9 (.load 10 (.load 11 (.load 12 (.load 14 (.load 15 (.load 16 (.load 17 (.load 18 (.alt 13 (.alt 19 (.load 20 (.alt 21 (.load 22 (.alt 23 (.fin) (.none))) (.none))) (.none)) (.alt 19 (.alt 13 (.load 20 (.alt 21 (.load 22 (.alt 23 (.fin) (.none))) (.none))) (.none)) (.none))))))))))))))))))))) (H.pick []) fun z H=> ?_;have b8:(b+j)<l.length:=Om;refine G12 ?_;refine yx rfl (S.ixL (b+j) (S.l H 0) rfl rfl rfl rfl b8) ?_;have b9:(a+j)<l.length:=Om;refine G4 ?_;refine yx rfl (S.ixL (a+j) (S.l H 0) rfl rfl rfl rfl b9) ?_;refine WX.alt ?_ ?_
  ·refine WX.yldL rfl rfl (blt rfl) rfl (H.pick []) (S.ld rfl rfl (lWe (S.l H 0)) b8) ?_;refine WX.yldL rfl rfl (blt rfl) rfl (H.pick []) (S.ld rfl rfl (lWe (S.l H 0)) b9) ?_;have b10:(a+j)<l.length:=Om;refine yx rfl (S.ixL (a+j) (S.l H 0) rfl rfl rfl rfl b10) ?_;refine S.stX (H.pick []) H 0 rfl (swr a b j l)[b+j]! b10 fun z H=> ?_;have b11:(b+j)<l.length:=Om;refine yx rfl (S.ixL (b+j) (S.l H 0) rfl rfl rfl rfl b11) ?_;refine S.stX (H.pick []) H 0 rfl (swr a b j l)[a+j]! b11 fun z H=> ?_;refine WX.nil (H.pick []) ?_;refine G2 ?_;refine sb [0,1,2,3,10] ?_;refine go ?_;exact Rs [(10,_)] Sx ⟨(j+1),rfl,rfl,(by rw[show swr a b (j+1) l=(((swr a b j l).set (a+j) (swr a b j l)[b+j]!).set (b+j) (swr a b j l)[a+j]!)from rfl];exact H),Om⟩
  refine WX.yldL rfl rfl (blt rfl) rfl (H.pick []) (S.ld rfl rfl (lWe (S.l H 0)) b9) ?_;refine WX.yldL rfl rfl (blt rfl) rfl (H.pick []) (S.ld rfl rfl (lWe (S.l H 0)) b8) ?_;have b12:(a+j)<l.length:=Om;refine yx rfl (S.ixL (a+j) (S.l H 0) rfl rfl rfl rfl b12) ?_;refine S.stX (H.pick []) H 0 rfl (swr a b j l)[b+j]! b12 fun z H=> ?_;have b13:(b+j)<l.length:=Om;refine yx rfl (S.ixL (b+j) (S.l H 0) rfl rfl rfl rfl b13) ?_;refine S.stX (H.pick []) H 0 rfl (swr a b j l)[a+j]! b13 fun z H=> ?_;refine WX.nil (H.pick []) ?_;refine G2 ?_;refine sb [0,1,2,3,10] ?_;refine go ?_;exact Rs [(10,_)] Sx ⟨(j+1),rfl,rfl,(by rw[show swr a b (j+1) l=(((swr a b j l).set (a+j) (swr a b j l)[b+j]!).set (b+j) (swr a b j l)[a+j]!)from rfl];exact H),Om⟩
 ·refine go ?_;refine En ?_;have ej:j=k:=Om;subst ej;exact⟨rfl,H⟩
theorem insG_any(S:SG ce sz vl tt fi)(A:Option Addr)(n q:Nat)(l:List α)(a b:Nat)(f:FuncId)(cap:List Value)(c:α→α→Int)(W:World)(R:List Res)(w:World)(H:Hp W w (row tt.2.1 ce sz (.slice A n q) l::R))(ha:a≤b)(hb:b≤n)(h1:n≤1000000)(hF:Has Tryz.prog f)(hc:∀l1:List α,(∀x∈l1,x∈l)→∀w1,Hp W w1 (row tt.2.1 ce sz (.slice A n q) l1::R)→∀x∈l,∀y∈l,Calls Tryz.prog f ([]++[(vl x),(vl y)]++cap).toArray w1 fun e w2=>e= .returned (.int .i64 (c x y))∧Ext w1 w2):
  Calls Tryz.prog (fi 163) #[.slice A n q,.int .i64 (a:Int),.int .i64 (b:Int),.func (.func f) #[] cap.toArray] w fun e w'=>e= .returned (resVal [])∧Hp W w' (row tt.2.1 ce sz (.slice A n q) (insF c a b l)::R):=by
 have e_n:=(S.l H 0).len;have z_n:=(S.l H 0).nle;subst e_n;refine wG (args:=[.slice A l.length q,.int .i64 (a:Int),.int .i64 (b:Int),.func (.func f) #[] cap.toArray]) S.f163 (by simp only[Tryz.f163,sC,sR,sP,sK,sO,Option.map,List.map,sT_0,sT_3,sT_4,sT_39,sT_176,sT_180,sT_199];rfl) ?_;refine G5 ?_;refine sb [0,1,2,3,8] ?_;refine go ?_;refine sb [8,0,1,2,3] ?_;refine WC.loopS 1 (fun mz Ed W'=>∃k:Nat,mz=2*(b+1-k)∧Ed=[(8,.int .i64 ((a+1+k:Nat):Int))]∧Hp W W' (row tt.2.1 ce sz (.slice A l.length q) (insN c a k l)::R)∧(a+1+k≤b∨k=0)) _ ⟨0,rfl,rfl,H,(.inr rfl)⟩ ?_;rintro _ _ z ⟨k,rfl,rfl,H,hk⟩;refine go ?_;refine Cd (fun p6=> ?_) fun p6=> ?_
 ·refine G8 ?_;refine sb [0,1,2,3,8,9] ?_;refine go ?_;refine sb [9,0,1,2,3,8] ?_;refine WC.loopS 1 (fun mz Ed W'=>∃j:Nat,∃L:List α,mz=2*j∧Ed=[(9,.int .i64 ((j:Nat):Int))]∧Hp W W' (row tt.2.1 ce sz (.slice A l.length q) L::R)∧(j≤a+1+k)∧(insJ c a j L=insN c a (k+1) l)∧(L.length=l.length)∧(∀x∈L,x∈l)) _ ⟨(a+1+k),(insN c a k l),rfl,rfl,H,Nl,rfl,(insN_len c a k l),(insN_mem c a k l Om)⟩ ?_;rintro _ _ z ⟨j,L,rfl,rfl,H,hj,hd,hL,hm⟩;refine go ?_;refine Qr ?_;refine G4 ?_;refine WQ.split (t:=21) rfl (fun h11=> ?_) (fun h11=> ?_)
  ·have p11:=(dec_t h11);have b12:j<l.length:=Om;refine G3 ?_;refine WQ.yldW rfl (blt rfl) rfl rfl rfl (S.ixL j (S.l H 0) rfl rfl rfl rfl b12) ?_;refine WQ.yldW rfl (blt rfl) rfl rfl rfl (S.ld rfl rfl (lWx (S.l H 0)) b12) ?_;refine G2 ?_;refine WQ.yldW rfl (blt rfl) rfl rfl rfl (Y.sub rfl rfl rfl Wo) ?_;have b13:(j-1)<l.length:=Om;refine WQ.yldW rfl (blt rfl) rfl rfl rfl (S.ixL (j-1) (S.l H 0) rfl rfl rfl Om b13) ?_;refine WQ.yldW rfl (blt rfl) rfl rfl rfl (S.ld rfl rfl (lWx (S.l H 0)) b13) ?_;refine WQ.guarded rfl rfl rfl ?_;refine qcV (fst:=[]) rfl hF (fun w1 hw=>calls_ext hw (hc _ hm _ (H.ex hw) _ (hm _ (mem_b (show j<L.length from Om))) _ (hm _ (mem_b (show(j-1)<L.length from Om))))) ?_;refine G1 ?_;refine yq (Y.pickT rfl rfl rfl) ?_;refine Qd H fun z H=> ?_;refine G1 ?_;refine sb [0,1,2,3,8,9,34] ?_;refine Cd (fun p14=> ?_) fun p14=> ?_
   ·refine go ?_;refine Xr H (HpC W _) (.load 0 (.load 1 (.load 2 (.load 3 (.load 4 (.load 5 (.load 6 (.load 7 (.load 8 (.load 10 (.load 11 (.load 12 (.alt 9 (.alt 13 (.load 14 (.alt 15 (.load 16 (.alt 17 (.fin) (.none))) (.none))) (.none)) (.alt 13 (.alt 9 (.load 14 (.alt 15 (.load 16 (.alt 17 (.fin) (.none))) (.none))) (.none)) (.none))))))))))))))) (H.pick []) fun z H=> ?_;have b16:(j-1)<l.length:=Om;refine G8 ?_;refine yx rfl (S.ixL (j-1) (S.l H 0) rfl rfl rfl Om b16) ?_;have b17:j<l.length:=Om;refine G2 ?_;refine yx rfl (S.ixL j (S.l H 0) rfl rfl rfl rfl b17) ?_;refine WX.alt ?_ ?_
    ·refine WX.yldL rfl rfl (blt rfl) rfl (H.pick []) (S.ld rfl rfl (lWe (S.l H 0)) b16) ?_;refine WX.yldL rfl rfl (blt rfl) rfl (H.pick []) (S.ld rfl rfl (lWe (S.l H 0)) b17) ?_;have b18:j<l.length:=Om;refine yx rfl (S.ixL j (S.l H 0) rfl rfl rfl rfl b18) ?_;refine S.stX (H.pick []) H 0 rfl L[j-1]! b18 fun z H=> ?_;have b19:(j-1)<l.length:=Om;refine yx rfl (S.ixL (j-1) (S.l H 0) rfl rfl rfl Om b19) ?_;refine S.stX (H.pick []) H 0 rfl L[j]! b19 fun z H=> ?_;refine WX.nil (H.pick []) ?_;refine G2 ?_;refine sb [0,1,2,3,8,9] ?_;refine G2 ?_;refine yy (Yld.cast (Y.sub rfl rfl rfl Wo) (vi (show(j:Int)-1=((j-1:Nat):Int)from Om))) ?_;refine go ?_;exact Rs [(9,_)] Sx ⟨(j-1),(swp L j (j-1)),rfl,rfl,(by rw[show swp L j (j-1)=((L.set j L[j-1]!).set (j-1) L[j]!)from rfl];exact H),Om,((insJ_go c (dec_t h11) p14).symm.trans hd),(by rw[swp_len];exact hL),(fun x hx=>hm x (swp_mem Om Om x hx))⟩
    refine WX.yldL rfl rfl (blt rfl) rfl (H.pick []) (S.ld rfl rfl (lWe (S.l H 0)) b17) ?_;refine WX.yldL rfl rfl (blt rfl) rfl (H.pick []) (S.ld rfl rfl (lWe (S.l H 0)) b16) ?_;have b20:j<l.length:=Om;refine yx rfl (S.ixL j (S.l H 0) rfl rfl rfl rfl b20) ?_;refine S.stX (H.pick []) H 0 rfl L[j-1]! b20 fun z H=> ?_;have b21:(j-1)<l.length:=Om;refine yx rfl (S.ixL (j-1) (S.l H 0) rfl rfl rfl Om b21) ?_;refine S.stX (H.pick []) H 0 rfl L[j]! b21 fun z H=> ?_;refine WX.nil (H.pick []) ?_;refine G4 ?_;refine yy (Yld.cast (Y.sub rfl rfl rfl Wo) (vi (show(j:Int)-1=((j-1:Nat):Int)from Om))) ?_;refine go ?_;exact Rs [(9,_)] Sx ⟨(j-1),(swp L j (j-1)),rfl,rfl,(by rw[show swp L j (j-1)=((L.set j L[j-1]!).set (j-1) L[j]!)from rfl];exact H),Om,((insJ_go c (dec_t h11) p14).symm.trans hd),(by rw[swp_len];exact hL),(fun x hx=>hm x (swp_mem Om Om x hx))⟩
   ·refine G6 ?_;refine sb [0,1,2,3,8] ?_;refine go ?_;exact Rs [(8,_)] Sx ⟨(k+1),rfl,rfl,(by rw[show insN c a (k+1) l=L from hd.symm.trans (insJ_stop c (.inr p14))];exact H),(.inl Om)⟩
  ·have p11:=(dec_f h11);refine G12 ?_;refine yq (Y.pickF rfl rfl rfl) ?_;refine Qd H fun z H=> ?_;refine G1 ?_;refine sb [0,1,2,3,8,9,34] ?_;refine WC.condF rfl ?_;refine G6 ?_;refine sb [0,1,2,3,8] ?_;refine go ?_;exact Rs [(8,_)] Sx ⟨(k+1),rfl,rfl,(by rw[show insN c a (k+1) l=L from hd.symm.trans (insJ_stop c (.inl (dec_f h11)))];exact H),(.inl Om)⟩
 ·refine go ?_;refine En ?_;have ek:k=b-(a+1):=Om;subst ek;exact⟨rfl,H⟩
theorem rotG_any(S:SG ce sz vl tt fi)(A:Option Addr)(n q:Nat)(l:List α)(a m b:Nat)(f:FuncId)(cap:List Value)(c:α→α→Int)(W:World)(R:List Res)(w:World)(H:Hp W w (row tt.2.1 ce sz (.slice A n q) l::R))(ha:a<m)(hb:m<b)(hn:b≤n)(h1:n≤1000000):
  Calls Tryz.prog (fi 205) #[.slice A n q,.int .i64 (a:Int),.int .i64 (m:Int),.int .i64 (b:Int),.func (.func f) #[] cap.toArray] w fun e w'=>e= .returned (resVal [])∧Hp W w' (row tt.2.1 ce sz (.slice A n q) (rotF a m b l)::R):=by
 have e_n:=(S.l H 0).len;have z_n:=(S.l H 0).nle;subst e_n;refine wG (args:=[.slice A l.length q,.int .i64 (a:Int),.int .i64 (m:Int),.int .i64 (b:Int),.func (.func f) #[] cap.toArray]) S.f205 (by simp only[Tryz.f205,sC,sR,sP,sK,sO,Option.map,List.map,sT_0,sT_3,sT_4,sT_39,sT_176,sT_180,sT_199];rfl) ?_;refine G3 ?_;refine yy (Yld.cast (Y.sub rfl rfl rfl Wo) (vi (show(m:Int)-(a:Int)=((m-a:Nat):Int)from Om))) ?_;refine G2 ?_;refine sb [0,2,3,4,10] ?_;refine G3 ?_;refine yy (Yld.cast (Y.sub rfl rfl rfl Wo) (vi (show(b:Int)-(m:Int)=((b-m:Nat):Int)from Om))) ?_;refine go ?_;refine sb [10,11,0,2,4] ?_;refine WC.loopS 2 (fun mz Ed W'=>∃fu:Nat,∃i:Nat,∃j:Nat,∃L:List α,mz=2*fu∧Ed=[(10,.int .i64 ((i:Nat):Int)),(11,.int .i64 ((j:Nat):Int))]∧Hp W W' (row tt.2.1 ce sz (.slice A l.length q) L::R)∧(1≤i)∧(1≤j)∧(i≤m)∧(m+j≤l.length)∧(i+j≤fu)∧(rotL fu m i j L=rotF a m b l)∧(L.length=l.length)∧(∀x∈L,x∈l)) _ ⟨(b-a),(m-a),(b-m),l,rfl,rfl,H,Om,Om,Om,Om,Om,rfl,rfl,(fun x hx=>hx)⟩ ?_;rintro _ _ z ⟨fu,i,j,L,rfl,rfl,H,p1,p2,p3,p4,p5,hd,hL,hm⟩;refine go ?_;refine Cd (fun p8=> ?_) fun p8=> ?_
 ·refine G8 ?_;refine sb [0,2,4,10,11,23] ?_;refine Cd (fun p10=> ?_) fun p10=> ?_
  ·refine G4 ?_;refine yy (Yld.cast (Y.sub rfl rfl rfl Wo) (vi (show(m:Int)-(i:Int)=((m-i:Nat):Int)from Om))) ?_;refine go ?_;refine c3 S.f245.has (swrG_any S _ _ _ _ (m-i) (m) (j) f cap c _ _ _ (H.front [0]) Om Om Om) ?_;rintro _ z ⟨rfl,H⟩;refine⟨_,rfl,?_⟩;refine G1 ?_;refine sb [0,2,4,10,11] ?_;refine G3 ?_;refine yy (Yld.cast (Y.sub rfl rfl rfl Wo) (vi (show(i:Int)-(j:Int)=((i-j:Nat):Int)from Om))) ?_;refine go ?_;exact Rs [(10,_),(11,_)] Sx ⟨(fu-1),(i-j),j,(swr (m-i) m j L),rfl,rfl,H,Om,Om,Om,Om,Om,(hd.symm.trans (by rw[show fu=(fu-1)+1 from Om];exact ite_to p8 (ite_to p10 rfl))).symm,(by rw[swr_len];exact hL),(fun x hx=>hm x (swr_mem _ _ _ _ Om Om x hx))⟩
  ·refine G4 ?_;refine yy (Yld.cast (Y.sub rfl rfl rfl Wo) (vi (show(m:Int)-(i:Int)=((m-i:Nat):Int)from Om))) ?_;refine G4 ?_;refine yy (Yld.cast (Y.sub rfl rfl rfl Wo) (vi (show(m:Int)+(j:Int)-(i:Int)=((m+j-i:Nat):Int)from Om))) ?_;refine go ?_;refine c3 S.f245.has (swrG_any S _ _ _ _ (m-i) (m+j-i) (i) f cap c _ _ _ (H.front [0]) Om Om Om) ?_;rintro _ z ⟨rfl,H⟩;refine⟨_,rfl,?_⟩;refine G1 ?_;refine sb [0,2,4,10,11] ?_;refine G3 ?_;refine yy (Yld.cast (Y.sub rfl rfl rfl Wo) (vi (show(j:Int)-(i:Int)=((j-i:Nat):Int)from Om))) ?_;refine go ?_;exact Rs [(10,_),(11,_)] Sx ⟨(fu-1),i,(j-i),(swr (m-i) (m+j-i) i L),rfl,rfl,H,Om,Om,Om,Om,Om,(hd.symm.trans (by rw[show fu=(fu-1)+1 from Om];exact ite_to p8 (ite_no p10 rfl))).symm,(by rw[swr_len];exact hL),(fun x hx=>hm x (swr_mem _ _ _ _ Om Om x hx))⟩
 ·refine G5 ?_;refine sb [0,2,4,10] ?_;refine G4 ?_;refine yy (Yld.cast (Y.sub rfl rfl rfl Wo) (vi (show(m:Int)-(i:Int)=((m-i:Nat):Int)from Om))) ?_;refine go ?_;refine c3 S.f245.has (swrG_any S _ _ _ _ (m-i) (m) (i) f cap c _ _ _ (H.front [0]) Om Om Om) ?_;rintro _ z ⟨rfl,H⟩;refine⟨_,rfl,?_⟩;refine go ?_;refine En ?_;have e:rotF a m b l=swr (m-i) m i L:=hd.symm.trans (by rw[show fu=(fu-1)+1 from Om];exact ite_no (fun q=>q p8) rfl);exact⟨rfl,by rw[e];exact H⟩
theorem symG_step(S:SG ce sz vl tt fi)(A:Option Addr)(n q:Nat)(l:List α)(fu a m b:Nat)(f:FuncId)(cap:List Value)(c:α→α→Int)(W:World)(R:List Res)(w:World)(H:Hp W w (row tt.2.1 ce sz (.slice A n q) l::R))(ha:a<m)(hb:m<b)(hn:b≤n)(hf:b-a≤fu+1)(h1:n≤1000000)(IH:∀(l2:List α) (a2 m2 b2:Nat) (w2:World),(∀x∈l2,x∈l)→l2.length=l.length→Hp W w2 (row tt.2.1 ce sz (.slice A n q) l2::R)→a2<m2→m2<b2→b2≤l.length→b2-a2≤fu→Calls Tryz.prog (fi 164) #[.slice A n q,.int .i64 (a2:Int),.int .i64 (m2:Int),.int .i64 (b2:Int),.func (.func f) #[] cap.toArray] w2 fun e w3=>e= .returned (resVal [])∧Hp W w3 (row tt.2.1 ce sz (.slice A n q) (symF c fu a2 m2 b2 l2)::R))(hF:Has Tryz.prog f)(hc:∀l1:List α,(∀x∈l1,x∈l)→∀w1,Hp W w1 (row tt.2.1 ce sz (.slice A n q) l1::R)→∀x∈l,∀y∈l,Calls Tryz.prog f ([]++[(vl x),(vl y)]++cap).toArray w1 fun e w2=>e= .returned (.int .i64 (c x y))∧Ext w1 w2):
  Calls Tryz.prog (fi 164) #[.slice A n q,.int .i64 (a:Int),.int .i64 (m:Int),.int .i64 (b:Int),.func (.func f) #[] cap.toArray] w fun e w'=>e= .returned (resVal [])∧Hp W w' (row tt.2.1 ce sz (.slice A n q) (symF c (fu+1) a m b l)::R):=by
 have e_n:=(S.l H 0).len;have z_n:=(S.l H 0).nle;subst e_n;have hm:∀x∈l,x∈l:=fun x hx=>hx;refine wG (args:=[.slice A l.length q,.int .i64 (a:Int),.int .i64 (m:Int),.int .i64 (b:Int),.func (.func f) #[] cap.toArray]) S.f164 (by simp only[Tryz.f164,sC,sR,sP,sK,sO,Option.map,List.map,sT_0,sT_3,sT_4,sT_39,sT_176,sT_180,sT_199];rfl) ?_;refine G7 ?_;refine sb [0,1,2,3,4,28] ?_;refine Cd (fun p5=> ?_) fun p5=> ?_
 ·refine go ?_;refine sb [10,11,0,1,4] ?_;refine WC.loopS 2 (fun mz Ed W'=>∃fk:Nat,∃i:Nat,∃j:Nat,mz=2*fk∧Ed=[(10,.int .i64 ((i:Nat):Int)),(11,.int .i64 ((j:Nat):Int))]∧Hp W W' (_::R)∧(i≤j)∧(m≤i)∧(j≤b)∧(j-i≤fk)∧(bsF (fun h=>c l[h]! l[a]! <0) fk i j=bsF (fun h=>c l[h]! l[a]! <0) (b-m) m b)) _ ⟨(b-m),m,b,rfl,rfl,H,Om,Om,Om,Om,rfl⟩ ?_;rintro _ _ z ⟨fk,i,j,rfl,rfl,H,q1,q2,q3,q4,hd⟩;refine go ?_;refine Cd (fun p11=> ?_) fun p11=> ?_
  ·refine G2 ?_;refine sb [0,1,4,10,11] ?_;refine G6 ?_;refine yy (Y.shr rfl rfl rfl Om (shr1 (i) (j))) ?_;refine go ?_;refine Qr ?_;have b14:((i+j)/2)<l.length:=Om;refine G3 ?_;refine yq (S.ixL ((i+j)/2) (S.l H 0) rfl rfl rfl Om b14) ?_;refine yq (S.ld rfl rfl (lWx (S.l H 0)) b14) ?_;have b15:a<l.length:=Om;refine G2 ?_;refine yq (S.ixL a (S.l H 0) rfl rfl rfl rfl b15) ?_;refine yq (S.ld rfl rfl (lWx (S.l H 0)) b15) ?_;refine qcV (fst:=[]) rfl hF (fun w1 hw=>calls_ext hw (hc _ hm _ (H.ex hw) _ (hm _ (mem_b (show((i+j)/2)<l.length from Om))) _ (hm _ (mem_b (show a<l.length from Om))))) ?_;refine go ?_;refine Qd H fun z H=> ?_;refine G1 ?_;refine sb [0,1,4,10,11,12,50] ?_;refine Cd (fun p16=> ?_) fun p16=> ?_
   ·refine go ?_;exact Rs [(10,_),(11,_)] Sx ⟨(fk-1),((i+j)/2+1),j,rfl,rfl,H,Om,Om,Om,Om,(hd.symm.trans (by rw[show fk=(fk-1)+1 from Om];exact ite_to p11 (ite_to p16 rfl))).symm⟩
   ·refine go ?_;exact Rs [(10,_),(11,_)] Sx ⟨(fk-1),i,((i+j)/2),rfl,rfl,H,Om,Om,Om,Om,(hd.symm.trans (by rw[show fk=(fk-1)+1 from Om];exact ite_to p11 (ite_no p16 rfl))).symm⟩
  ·have eb:=hd.symm.trans (bsF_end (show¬(i:Int)<(j:Int) by omega));refine G10 ?_;refine sb [0,10,13] ?_;refine go ?_;refine sb [13,0,10] ?_;refine WC.loopS 1 (fun mz Ed W'=>∃kk:Nat,mz=2*(i-kk)∧Ed=[(13,.int .i64 ((a+kk:Nat):Int))]∧Hp W W' (row tt.2.1 ce sz (.slice A l.length q) (mvU a kk l)::R)∧(kk≤i-1-a)) _ ⟨0,rfl,rfl,H,(Nat.zero_le _)⟩ ?_;rintro _ _ z ⟨kk,rfl,rfl,H,kl⟩;have wl:=mvU_len a kk l;refine go ?_;refine Cd (fun p21=> ?_) fun p21=> ?_
   ·refine G2 ?_;refine sb [0,10,13] ?_;refine go ?_;refine Xr H (HpC W _) (.load 0 (.load 1 (.load 2 (.load 3 (.load 4 (.load 5 (.load 6 (.load 7 (.load 8 (.load 10 (.load 11 (.load 12 (.alt 9 (.alt 13 (.load 14 (.alt 15 (.load 16 (.alt 17 (.fin) (.none))) (.none))) (.none)) (.alt 13 (.alt 9 (.load 14 (.alt 15 (.load 16 (.alt 17 (.fin) (.none))) (.none))) (.none)) (.none))))))))))))))) (H.pick []) fun z H=> ?_;have b23:((a+kk)+1)<l.length:=Om;refine G8 ?_;refine yx rfl (S.ixL ((a+kk)+1) (S.l H 0) rfl rfl rfl rfl b23) ?_;have b24:(a+kk)<l.length:=Om;refine G2 ?_;refine yx rfl (S.ixL (a+kk) (S.l H 0) rfl rfl rfl rfl b24) ?_;refine WX.alt ?_ ?_
    ·refine WX.yldL rfl rfl (blt rfl) rfl (H.pick []) (S.ld rfl rfl (lWe (S.l H 0)) b23) ?_;refine WX.yldL rfl rfl (blt rfl) rfl (H.pick []) (S.ld rfl rfl (lWe (S.l H 0)) b24) ?_;have b25:(a+kk)<l.length:=Om;refine yx rfl (S.ixL (a+kk) (S.l H 0) rfl rfl rfl rfl b25) ?_;refine S.stX (H.pick []) H 0 rfl (mvU a kk l)[a+kk+1]! b25 fun z H=> ?_;have b26:((a+kk)+1)<l.length:=Om;refine yx rfl (S.ixL ((a+kk)+1) (S.l H 0) rfl rfl rfl rfl b26) ?_;refine S.stX (H.pick []) H 0 rfl (mvU a kk l)[a+kk]! b26 fun z H=> ?_;refine WX.nil (H.pick []) ?_;refine G2 ?_;refine sb [0,10,13] ?_;refine go ?_;exact Rs [(13,_)] Sx ⟨(kk+1),rfl,rfl,(by rw[show mvU a (kk+1) l=(((mvU a kk l).set (a+kk) (mvU a kk l)[a+kk+1]!).set ((a+kk)+1) (mvU a kk l)[a+kk]!)from rfl];exact H),Om⟩
    refine WX.yldL rfl rfl (blt rfl) rfl (H.pick []) (S.ld rfl rfl (lWe (S.l H 0)) b24) ?_;refine WX.yldL rfl rfl (blt rfl) rfl (H.pick []) (S.ld rfl rfl (lWe (S.l H 0)) b23) ?_;have b27:(a+kk)<l.length:=Om;refine yx rfl (S.ixL (a+kk) (S.l H 0) rfl rfl rfl rfl b27) ?_;refine S.stX (H.pick []) H 0 rfl (mvU a kk l)[a+kk+1]! b27 fun z H=> ?_;have b28:((a+kk)+1)<l.length:=Om;refine yx rfl (S.ixL ((a+kk)+1) (S.l H 0) rfl rfl rfl rfl b28) ?_;refine S.stX (H.pick []) H 0 rfl (mvU a kk l)[a+kk]! b28 fun z H=> ?_;refine WX.nil (H.pick []) ?_;refine G2 ?_;refine sb [0,10,13] ?_;refine go ?_;exact Rs [(13,_)] Sx ⟨(kk+1),rfl,rfl,(by rw[show mvU a (kk+1) l=(((mvU a kk l).set (a+kk) (mvU a kk l)[a+kk+1]!).set ((a+kk)+1) (mvU a kk l)[a+kk]!)from rfl];exact H),Om⟩
   ·refine go ?_;refine Rt [] ?_;have ek:kk=i-1-a:=Om;exact⟨rfl,by rw[show symF c (fu+1) a m b l=mvU a kk l from ite_to p5 (by rw[eb,ek])];exact H⟩
 ·refine G9 ?_;refine sb [0,1,2,3,4,80] ?_;refine Cd (fun p31=> ?_) fun p31=> ?_
  ·refine go ?_;refine sb [14,15,0,2,4] ?_;refine WC.loopS 2 (fun mz Ed W'=>∃fk:Nat,∃i:Nat,∃j:Nat,mz=2*fk∧Ed=[(14,.int .i64 ((i:Nat):Int)),(15,.int .i64 ((j:Nat):Int))]∧Hp W W' (_::R)∧(i≤j)∧(a≤i)∧(j≤m)∧(j-i≤fk)∧(bsF (fun h=>¬c l[m]! l[h]! <0) fk i j=bsF (fun h=>¬c l[m]! l[h]! <0) (m-a) a m)) _ ⟨(m-a),a,m,rfl,rfl,H,Om,Om,Om,Om,rfl⟩ ?_;rintro _ _ z ⟨fk,i,j,rfl,rfl,H,q1,q2,q3,q4,hd⟩;refine go ?_;refine Cd (fun p37=> ?_) fun p37=> ?_
   ·refine G2 ?_;refine sb [0,2,4,14,15] ?_;refine G6 ?_;refine yy (Y.shr rfl rfl rfl Om (shr1 (i) (j))) ?_;refine go ?_;refine Qr ?_;have b40:m<l.length:=Om;refine G3 ?_;refine yq (S.ixL m (S.l H 0) rfl rfl rfl rfl b40) ?_;refine yq (S.ld rfl rfl (lWx (S.l H 0)) b40) ?_;have b41:((i+j)/2)<l.length:=Om;refine G2 ?_;refine yq (S.ixL ((i+j)/2) (S.l H 0) rfl rfl rfl Om b41) ?_;refine yq (S.ld rfl rfl (lWx (S.l H 0)) b41) ?_;refine qcV (fst:=[]) rfl hF (fun w1 hw=>calls_ext hw (hc _ hm _ (H.ex hw) _ (hm _ (mem_b (show m<l.length from Om))) _ (hm _ (mem_b (show((i+j)/2)<l.length from Om))))) ?_;refine go ?_;refine Qd H fun z H=> ?_;refine G1 ?_;refine sb [0,2,4,14,15,16,103] ?_;refine Cd (fun p42=> ?_) fun p42=> ?_
    ·refine go ?_;exact Rs [(14,_),(15,_)] Sx ⟨(fk-1),((i+j)/2+1),j,rfl,rfl,H,Om,Om,Om,Om,(hd.symm.trans (by rw[show fk=(fk-1)+1 from Om];exact ite_to p37 (ite_to p42 rfl))).symm⟩
    ·refine go ?_;exact Rs [(14,_),(15,_)] Sx ⟨(fk-1),i,((i+j)/2),rfl,rfl,H,Om,Om,Om,Om,(hd.symm.trans (by rw[show fk=(fk-1)+1 from Om];exact ite_to p37 (ite_no (fun q=>q p42) rfl))).symm⟩
   ·have eb:=hd.symm.trans (bsF_end (show¬(i:Int)<(j:Int) by omega));refine G10 ?_;refine sb [0,14,17] ?_;refine go ?_;refine sb [17,0,14] ?_;refine WC.loopS 1 (fun mz Ed W'=>∃kk:Nat,mz=2*(m-kk)∧Ed=[(17,.int .i64 ((m-kk:Nat):Int))]∧Hp W W' (row tt.2.1 ce sz (.slice A l.length q) (mvD m kk l)::R)∧(kk≤m-i)) _ ⟨0,rfl,rfl,H,(Nat.zero_le _)⟩ ?_;rintro _ _ z ⟨kk,rfl,rfl,H,kl⟩;have wl:=mvD_len m kk l;refine go ?_;refine Cd (fun p47=> ?_) fun p47=> ?_
    ·refine go ?_;refine Xr H (HpC W _) (.load 0 (.load 1 (.load 2 (.load 3 (.load 4 (.load 5 (.load 6 (.load 7 (.load 8 (.load 10 (.load 11 (.load 12 (.alt 9 (.alt 13 (.load 14 (.alt 15 (.load 16 (.alt 17 (.fin) (.none))) (.none))) (.none)) (.alt 13 (.alt 9 (.load 14 (.alt 15 (.load 16 (.alt 17 (.fin) (.none))) (.none))) (.none)) (.none))))))))))))))) (H.pick []) fun z H=> ?_;have b49:((m-kk)-1)<l.length:=Om;refine G8 ?_;refine yx rfl (S.ixL ((m-kk)-1) (S.l H 0) rfl rfl rfl Om b49) ?_;have b50:(m-kk)<l.length:=Om;refine G2 ?_;refine yx rfl (S.ixL (m-kk) (S.l H 0) rfl rfl rfl Om b50) ?_;refine WX.alt ?_ ?_
     ·refine WX.yldL rfl rfl (blt rfl) rfl (H.pick []) (S.ld rfl rfl (lWe (S.l H 0)) b49) ?_;refine WX.yldL rfl rfl (blt rfl) rfl (H.pick []) (S.ld rfl rfl (lWe (S.l H 0)) b50) ?_;have b51:(m-kk)<l.length:=Om;refine yx rfl (S.ixL (m-kk) (S.l H 0) rfl rfl rfl Om b51) ?_;refine S.stX (H.pick []) H 0 rfl (mvD m kk l)[m-kk-1]! b51 fun z H=> ?_;have b52:((m-kk)-1)<l.length:=Om;refine yx rfl (S.ixL ((m-kk)-1) (S.l H 0) rfl rfl rfl Om b52) ?_;refine S.stX (H.pick []) H 0 rfl (mvD m kk l)[m-kk]! b52 fun z H=> ?_;refine WX.nil (H.pick []) ?_;refine G2 ?_;refine sb [0,14,17] ?_;refine G2 ?_;refine yy (Yld.cast (Y.sub rfl rfl rfl Wo) (vi (show((m-kk:Nat):Int)-1=((m-(kk+1):Nat):Int)from Om))) ?_;refine go ?_;exact Rs [(17,_)] Sx ⟨(kk+1),rfl,rfl,(by rw[show mvD m (kk+1) l=(((mvD m kk l).set (m-kk) (mvD m kk l)[m-kk-1]!).set ((m-kk)-1) (mvD m kk l)[m-kk]!)from rfl];exact H),Om⟩
     refine WX.yldL rfl rfl (blt rfl) rfl (H.pick []) (S.ld rfl rfl (lWe (S.l H 0)) b50) ?_;refine WX.yldL rfl rfl (blt rfl) rfl (H.pick []) (S.ld rfl rfl (lWe (S.l H 0)) b49) ?_;have b53:(m-kk)<l.length:=Om;refine yx rfl (S.ixL (m-kk) (S.l H 0) rfl rfl rfl Om b53) ?_;refine S.stX (H.pick []) H 0 rfl (mvD m kk l)[m-kk-1]! b53 fun z H=> ?_;have b54:((m-kk)-1)<l.length:=Om;refine yx rfl (S.ixL ((m-kk)-1) (S.l H 0) rfl rfl rfl Om b54) ?_;refine S.stX (H.pick []) H 0 rfl (mvD m kk l)[m-kk]! b54 fun z H=> ?_;refine WX.nil (H.pick []) ?_;refine G4 ?_;refine yy (Yld.cast (Y.sub rfl rfl rfl Wo) (vi (show((m-kk:Nat):Int)-1=((m-(kk+1):Nat):Int)from Om))) ?_;refine go ?_;exact Rs [(17,_)] Sx ⟨(kk+1),rfl,rfl,(by rw[show mvD m (kk+1) l=(((mvD m kk l).set (m-kk) (mvD m kk l)[m-kk-1]!).set ((m-kk)-1) (mvD m kk l)[m-kk]!)from rfl];exact H),Om⟩
    ·refine go ?_;refine Rt [] ?_;have ek:kk=m-i:=Om;exact⟨rfl,by rw[show symF c (fu+1) a m b l=mvD m kk l from ite_no p5 (ite_to p31 (by rw[eb,ek]))];exact H⟩
  ·refine G2 ?_;refine sb [0,1,2,3,4] ?_;refine G5 ?_;refine yy (Y.shr rfl rfl rfl Om (shr1 (a) (b))) ?_;refine G13 ?_;refine sb [0,1,2,3,4,18,19] ?_
   (refine sb [0,1,2,3,4,18,19] ?_)
   refine jI (fun Ed W'=>∃lo hi:Nat,Ed=[(20,.int .i64 ((lo:Nat):Int)),(21,.int .i64 ((hi:Nat):Int))]∧Hp W W' (row tt.2.1 ce sz (.slice A l.length q) l::R)∧(a≤lo∧(a+b)/2+m≤lo+b∧lo≤hi∧hi≤m∧hi≤(a+b)/2)∧symStart c a m b l=bsF (fun h=>¬c l[(a+b)/2+m-1-h]! l[h]! <0) (hi-lo) lo hi) ?_ ?_
   ·refine go ?_;refine Cd (fun p60=> ?_) fun p60=> ?_
    ·refine G3 ?_;refine yy (Yld.cast (Y.sub rfl rfl rfl Wo) (vi (show((((a+b)/2:Nat):Int)+(m:Int))-(b:Int)=(((a+b)/2+m-b:Nat):Int)from Om))) ?_;refine go ?_;exact kI [(20,_),(21,_)] Sx ⟨_,_,rfl,H,Om,by unfold symStart;dsimp only;simp only[if_pos p60]⟩
    ·refine go ?_;exact kI [(20,_),(21,_)] Sx ⟨_,_,rfl,H,Om,by unfold symStart;dsimp only;simp only[if_neg p60]⟩
   rintro _ z ⟨lo,hi,rfl,H,⟨b1,b2,b3,b4,b5⟩,es⟩;refine go ?_
   (refine sb [20,21,0,1,2,3,4,18,19,22] ?_)
   refine WC.loopS 2 (fun mz Ed W'=>∃fk:Nat,∃i:Nat,∃j:Nat,mz=2*fk∧Ed=[(20,.int .i64 ((i:Nat):Int)),(21,.int .i64 ((j:Nat):Int))]∧Hp W W' (_::R)∧(i≤j)∧(lo≤i)∧(j≤hi)∧(j-i≤fk)∧(bsF (fun h=>¬c l[(a+b)/2+m-1-h]! l[h]! <0) fk i j=bsF (fun h=>¬c l[(a+b)/2+m-1-h]! l[h]! <0) (hi-lo) lo hi)) _ ⟨(hi-lo),lo,hi,rfl,rfl,H,b3,Nl,Nl,Nl,rfl⟩ ?_;rintro _ _ z ⟨fk,i,j,rfl,rfl,H,q1,q2,q3,q4,hd⟩;refine go ?_;refine Cd (fun p66=> ?_) fun p66=> ?_
   ·refine G8 ?_;refine yy (Y.shr rfl rfl rfl Om (shr1 (i) (j))) ?_;refine go ?_;refine Qr ?_;have b69:(((((a+b)/2)+m)-1)-((i+j)/2))<l.length:=Om;refine G5 ?_;refine yq (S.ixL (((((a+b)/2)+m)-1)-((i+j)/2)) (S.l H 0) rfl rfl rfl Om b69) ?_;refine yq (S.ld rfl rfl (lWx (S.l H 0)) b69) ?_;have b70:((i+j)/2)<l.length:=Om;refine G2 ?_;refine yq (S.ixL ((i+j)/2) (S.l H 0) rfl rfl rfl Om b70) ?_;refine yq (S.ld rfl rfl (lWx (S.l H 0)) b70) ?_;refine qcV (fst:=[]) rfl hF (fun w1 hw=>calls_ext hw (hc _ hm _ (H.ex hw) _ (hm _ (mem_b b69)) _ (hm _ (mem_b b70)))) ?_;refine go ?_;refine Qd H fun z H=> ?_;refine go ?_;refine Cd (fun p71=> ?_) fun p71=> ?_
    ·refine go ?_;exact Rs [(20,_),(21,_)] Sx ⟨(fk-1),((i+j)/2+1),j,rfl,rfl,H,Om,Om,Om,Om,(hd.symm.trans (by rw[show fk=(fk-1)+1 from Om];exact ite_to p66 (ite_to p71 rfl))).symm⟩
    ·refine go ?_;exact Rs [(20,_),(21,_)] Sx ⟨(fk-1),i,((i+j)/2),rfl,rfl,H,Om,Om,Om,Om,(hd.symm.trans (by rw[show fk=(fk-1)+1 from Om];exact ite_to p66 (ite_no (fun q=>q p71) rfl))).symm⟩
   ·have ei:=es.trans (hd.symm.trans (bsF_end (show¬(i:Int)<(j:Int) by omega)));refine G5 ?_
    (refine sb [0,1,2,3,4,18,19,20] ?_)
    refine G3 ?_;refine yy (Yld.cast (Y.sub rfl rfl rfl Wo) (vi (show((((a+b)/2:Nat):Int)+(m:Int))-(i:Int)=(((a+b)/2+m-i:Nat):Int)from Om))) ?_;refine G2 ?_
    (refine sb [0,1,2,3,4,18,20,24] ?_)
    refine jI (fun Ed W'=>Ed=[]∧Hp W W' (row tt.2.1 ce sz (.slice A l.length q) (if(i:Int)<(m:Int)∧(m:Int)<(((a+b)/2+m-i:Nat):Int)then rotF i m ((a+b)/2+m-i) l else l)::R)) ?_ ?_
    ·refine go ?_;refine Cd (fun p75=> ?_) fun p75=> ?_
     ·refine go ?_;refine c3 S.f205.has (rotG_any S _ _ _ _ (i) (m) ((a+b)/2+m-i) f cap c _ _ _ (H.front [0]) Om Om Om Om) ?_;rintro _ z ⟨rfl,H⟩;refine⟨_,rfl,?_⟩;refine go ?_;exact kI [] Sx ⟨rfl,by rw[if_pos p75];exact H⟩
     ·refine go ?_;exact kI [] Sx ⟨rfl,by rw[if_neg Om];exact H⟩
    rintro _ z ⟨rfl,H⟩;obtain⟨L1,e1⟩:∃L1,(if(i:Int)<(m:Int)∧(m:Int)<(((a+b)/2+m-i:Nat):Int)then rotF i m ((a+b)/2+m-i) l else l)=L1:=⟨_,rfl⟩;rw[e1]at H;have m1:∀x∈L1,x∈l:=by
     rw[←e1];intro x hx;split at hx
     ·exact rotF_mem Om Om x hx
     ·exact hx
    have n1:L1.length=l.length:=by rw[←e1];split<;>simp only[rotF_len]
    refine jI (fun Ed W'=>Ed=[]∧Hp W W' (row tt.2.1 ce sz (.slice A l.length q) (if(a:Int)<(i:Int)∧(i:Int)<(((a+b)/2:Nat):Int)then symF c fu a i ((a+b)/2) L1 else L1)::R)) ?_ ?_
    ·refine go ?_;refine Cd (fun p78=> ?_) fun p78=> ?_
     ·refine go ?_;refine c3 S.f164.has (IH L1 (a) (i) (((a+b)/2)) _ m1 n1 (H.front [0]) Om Om Om Om) ?_;rintro _ z ⟨rfl,H⟩;refine⟨_,rfl,?_⟩;refine go ?_;exact kI [] Sx ⟨rfl,by rw[if_pos p78];exact H⟩
     ·refine go ?_;exact kI [] Sx ⟨rfl,by rw[if_neg Om];exact H⟩
    rintro _ z ⟨rfl,H⟩;obtain⟨L2,e2⟩:∃L2,(if(a:Int)<(i:Int)∧(i:Int)<(((a+b)/2:Nat):Int)then symF c fu a i ((a+b)/2) L1 else L1)=L2:=⟨_,rfl⟩;rw[e2]at H;have m2:∀x∈L2,x∈l:=by
     rw[←e2];intro x hx;split at hx
     ·exact m1 x (symF_mem c fu _ _ _ L1 Om Om Om x hx)
     ·exact m1 x hx
    have n2:L2.length=l.length:=by rw[←e2];split<;>simp only[symF_len,n1]
    have ef:symF c (fu+1) a m b l=if(((a+b)/2:Nat):Int)<(((a+b)/2+m-i:Nat):Int)∧(((a+b)/2+m-i:Nat):Int)<(b:Int)then symF c fu ((a+b)/2) ((a+b)/2+m-i) b L2 else L2:=by
     rw[show symF c (fu+1) a m b l=sym3 (symF c fu) a m b i l from ite_no p5 (ite_no p31 (by rw[ei]))];unfold sym3;dsimp only;rw[e1,e2]
    refine go ?_;refine Cd (fun p80=> ?_) fun p80=> ?_
    ·refine go ?_;refine c3 S.f164.has (IH L2 (((a+b)/2)) ((a+b)/2+m-i) (b) _ m2 n2 (H.front [0]) Om Om Om Om) ?_;rintro _ z ⟨rfl,H⟩;refine⟨_,rfl,?_⟩;refine go ?_;refine En ?_;exact⟨rfl,by rw[ef,if_pos p80];exact H⟩
    ·refine go ?_;refine En ?_;exact⟨rfl,by rw[ef,if_neg Om];exact H⟩
theorem symG_any(S:SG ce sz vl tt fi)(A:Option Addr)(n q:Nat)(l:List α)(fu a m b:Nat)(f:FuncId)(cap:List Value)(c:α→α→Int)(W:World)(R:List Res)(w:World)(H:Hp W w (row tt.2.1 ce sz (.slice A n q) l::R))(ha:a<m)(hb:m<b)(hn:b≤n)(hf:b-a≤fu)(h1:n≤1000000)(hF:Has Tryz.prog f)(hc:∀l1:List α,(∀x∈l1,x∈l)→∀w1,Hp W w1 (row tt.2.1 ce sz (.slice A n q) l1::R)→∀x∈l,∀y∈l,Calls Tryz.prog f ([]++[(vl x),(vl y)]++cap).toArray w1 fun e w2=>e= .returned (.int .i64 (c x y))∧Ext w1 w2):
  Calls Tryz.prog (fi 164) #[.slice A n q,.int .i64 (a:Int),.int .i64 (m:Int),.int .i64 (b:Int),.func (.func f) #[] cap.toArray] w fun e w3=>e= .returned (resVal [])∧Hp W w3 (row tt.2.1 ce sz (.slice A n q) (symF c fu a m b l)::R):=by
 induction fu generalizing l a m b w with
 |zero=>omega
 |succ fu ih=>
  have e:=(S.l H 0).len;exact symG_step S A n q l fu a m b f cap c W R w H ha hb hn hf h1 (fun l2 a2 m2 b2 w2 hm hl H2 x1 x2 x3 x4=>ih l2 a2 m2 b2 w2 H2 x1 x2 Om x4 (fun l1 h1 w1 H1 x hx y hy=>hc l1 (fun z hz=>hm z (h1 z hz)) w1 H1 x (hm x hx) y (hm y hy))) hF hc
theorem staG_any(S:SG ce sz vl tt fi)(A:Option Addr)(n q:Nat)(l:List α)(f:FuncId)(cap:List Value)(c:α→α→Int)(W:World)(R:List Res)(w:World)(H:Hp W w (row tt.2.1 ce sz (.slice A n q) l::R))(h1:n≤39)(hF:Has Tryz.prog f)(hc:∀l1:List α,(∀x∈l1,x∈l)→∀w1,Hp W w1 (row tt.2.1 ce sz (.slice A n q) l1::R)→∀x∈l,∀y∈l,Calls Tryz.prog f ([]++[(vl x),(vl y)]++cap).toArray w1 fun e w2=>e= .returned (.int .i64 (c x y))∧Ext w1 w2):
  Calls Tryz.prog (fi 101) #[.slice A n q,.int .i64 (l.length:Int),.func (.func f) #[] cap.toArray] w fun e w'=>e= .returned (resVal [])∧Hp W w' (row tt.2.1 ce sz (.slice A n q) (stabF c l)::R):=by
 have e_n:=(S.l H 0).len;have z_n:=(S.l H 0).nle;subst e_n;refine wG (args:=[.slice A l.length q,.int .i64 (l.length:Int),.func (.func f) #[] cap.toArray]) S.f101 (by simp only[Tryz.f101,sC,sR,sP,sK,sO,Option.map,List.map,sT_0,sT_3,sT_4,sT_39,sT_176,sT_180,sT_199];rfl) ?_;refine go ?_;refine sb [7,8,0,1,2,6] ?_;refine WC.loopS 2 (fun mz Ed W'=>∃ph:Nat,mz=2*(l.length-20*ph)∧Ed=[(7,.int .i64 ((20*ph:Nat):Int)),(8,.int .i64 ((20*(ph+1):Nat):Int))]∧Hp W W' (row tt.2.1 ce sz (.slice A l.length q) (st1 c l ph)::R)∧(20*ph≤l.length)) _ ⟨0,rfl,rfl,H,Om⟩ ?_;rintro _ _ z ⟨ph,rfl,rfl,H,hp⟩;have wl:=st1_len c l ph;have wm:=st1_mem c l ph hp;refine go ?_;refine Cd (fun p8=> ?_) fun p8=> ?_
 ·refine G2 ?_;refine sb [0,1,2,6,7,8] ?_;refine go ?_;refine c3 S.f163.has (insG_any S _ _ _ _ ((20*ph)) ((20*(ph+1))) f cap c _ _ _ (H.front [0]) Om Om Om hF (fun l1 h1 w1 H1 x hx y hy=>hc l1 (fun z hz=>wm z (h1 z hz)) w1 H1 x (wm x hx) y (wm y hy))) ?_;rintro _ z ⟨rfl,H⟩;refine⟨_,rfl,?_⟩;refine G5 ?_;refine sb [0,1,2,6,7,8] ?_;refine go ?_;exact Rs [(7,_),(8,_)] Sx ⟨(ph+1),rfl,rfl,H,Om⟩
 ·refine G5 ?_;refine sb [0,1,2,6,7] ?_;refine go ?_;refine c3 S.f163.has (insG_any S _ _ _ _ ((20*ph)) (l.length) f cap c _ _ _ (H.front [0]) Om Om Om hF (fun l1 h1 w1 H1 x hx y hy=>hc l1 (fun z hz=>wm z (h1 z hz)) w1 H1 x (wm x hx) y (wm y hy))) ?_;rintro _ z ⟨rfl,H⟩;refine⟨_,rfl,?_⟩;refine go ?_;refine sb [6,0,1,2] ?_;refine WC.loopS 1 (fun mz Ed W'=>∃t:Nat,mz=2*(2-t)∧Ed=[(6,.int .i64 ((20+20*t:Nat):Int))]∧Hp W W' (row tt.2.1 ce sz (.slice A l.length q) (if t=0 then insF c (20*ph) l.length (st1 c l ph)else symF c l.length 0 20 l.length (insF c (20*ph) l.length (st1 c l ph)))::R)∧(t≤1)∧(t=1→20<l.length)) _ ⟨0,rfl,rfl,(by rw[if_pos rfl];exact H),Om,Om⟩ ?_;rintro _ _ z ⟨t,rfl,rfl,H,tt,t0⟩;refine go ?_;refine Cd (fun p14=> ?_) fun p14=> ?_
  ·obtain rfl:t=0:=Om;rw[if_pos rfl]at H;refine G2 ?_;refine sb [0,1,2,6] ?_;refine G3 ?_;refine yy (Yld.cast (Y.mul rfl rfl rfl Wo) (vi (show 2*((20+20*0:Nat):Int)=((40:Nat):Int)from Om))) ?_;refine go ?_;refine sb [0,1,2,6,7,8] ?_;refine WC.loopS 0 (fun mz Ed W'=>mz=0∧Ed=[]∧Hp W W' (_::R)) _ ⟨rfl,rfl,H⟩ ?_;rintro _ _ z ⟨rfl,rfl,H⟩;refine go ?_;refine WC.cond rfl (fun h19=> ?_) (fun h19=> ?_)
   ·exfalso;have q:=dec_t h19;omega
   ·have p19:=(dec_f h19);refine G5 ?_;refine sb [0,1,2,6,7] ?_;refine G4 ?_;refine yy (Yld.cast (Y.add rfl rfl rfl Wo) (vi (show(0:Int)+((20+20*0:Nat):Int)=((20:Nat):Int)from rfl))) ?_;refine G7 ?_;refine sb [0,1,2,6,7,9,54] ?_;refine WC.cond rfl (fun h23=> ?_) (fun h23=> ?_)
    ·have p23:=(dec_t h23);refine go ?_;refine c3 S.f164.has (symG_any S _ _ _ _ l.length (0) (20) (l.length) f cap c _ _ _ (H.front [0]) Om Om Om Om Om hF (fun l1 h1 w1 H1 x hx y hy=>hc l1 (fun z hz=>wm z (insF_mem c Om z (h1 z hz))) w1 H1 x (wm x (insF_mem c Om x hx)) y (wm y (insF_mem c Om y hy)))) ?_;rintro _ z ⟨rfl,H⟩;refine⟨_,rfl,?_⟩;refine G1 ?_;refine sb [0,1,2,6] ?_;refine go ?_;exact Rs [(6,_)] Sx ⟨1,rfl,rfl,(by rw[if_neg Dc];exact H),Nl,(fun _=>by omega)⟩
    ·exfalso;have q:=dec_f h23;omega
  ·refine go ?_;refine En ?_;exact⟨rfl,by rw[←stabF_eq c hp Om h1 tt Om t0];exact H⟩
theorem sstG_any(S:SG ce sz vl tt fi)(A:Option Addr)(n q:Nat)(l:List α)(f:FuncId)(cap:List Value)(c:α→α→Int)(W:World)(R:List Res)(w:World)(H:Hp W w (row tt.2.1 ce sz (.slice A n q) l::R))(h1:n≤39)(hF:Has Tryz.prog f)(hc:∀l1:List α,(∀x∈l1,x∈l)→∀w1,Hp W w1 (row tt.2.1 ce sz (.slice A n q) l1::R)→∀x∈l,∀y∈l,Calls Tryz.prog f ([]++[(vl x),(vl y)]++cap).toArray w1 fun e w2=>e= .returned (.int .i64 (c x y))∧Ext w1 w2):
  Calls Tryz.prog (fi 70) #[.slice A n q,.func (.func f) #[] cap.toArray] w fun e w'=>e= .returned (resVal [])∧Hp W w' (row tt.2.1 ce sz (.slice A n q) (stabF c l)::R):=by
 have e_n:=(S.l H 0).len;have z_n:=(S.l H 0).nle;subst e_n;refine wG (args:=[.slice A l.length q,.func (.func f) #[] cap.toArray]) S.f70 (by simp only[Tryz.f70,sC,sR,sP,sK,sO,Option.map,List.map,sT_0,sT_3,sT_4,sT_39,sT_176,sT_180,sT_199];rfl) ?_;refine G3 ?_;refine yy (Y.lenSl rfl rfl rfl S.u rfl) ?_;refine go ?_;refine c3 S.f101.has (staG_any S _ _ _ _ f cap c _ _ _ (H.front [0]) h1 hF hc) ?_;rintro _ z ⟨rfl,H⟩;refine⟨_,rfl,?_⟩;refine go ?_;refine En ?_;exact⟨rfl,H⟩
end
theorem sgI:SG ic 1 (fun x:Int=>.int .i64 x) (65,3,129) (fun f=>match f with|245=>301|163=>180|205=>296|164=>285|101=>267|70=>241|f=>f) where
 u:=Tryz.underlying65
 t0:=⟨_,_,ti3⟩
 len:=fun _=>rfl
 pos:=by decide
 cells:=fun _=>rfl
 one:=fun x=>List.all_eq_true.2 (ic_one x)
 ld0:=fun o n E C x A m cap l k ho hx h hk=>ld ho Tryz.underlying3 hx (Ls.at_c h hk rfl)
 f245:=⟨_,Tryz.func301,by kernel_rfl,by kernel_rfl,by kernel_rfl,by kernel_rfl⟩
 f163:=⟨_,Tryz.func180,by kernel_rfl,by kernel_rfl,by kernel_rfl,by kernel_rfl⟩
 f205:=⟨_,Tryz.func296,by kernel_rfl,by kernel_rfl,by kernel_rfl,by kernel_rfl⟩
 f164:=⟨_,Tryz.func285,by kernel_rfl,by kernel_rfl,by kernel_rfl,by kernel_rfl⟩
 f101:=⟨_,Tryz.func267,by kernel_rfl,by kernel_rfl,by kernel_rfl,by kernel_rfl⟩
 f70:=⟨_,Tryz.func241,by kernel_rfl,by kernel_rfl,by kernel_rfl,by kernel_rfl⟩
theorem sstI_any(A:Option Addr)(n q:Nat)(l:List Int)(f:FuncId)(cap:List Value)(c:Int→Int→Int)(W:World)(R:List Res)(w:World)(H:Hp W w (row 3 ic 1 (.slice A n q) l::R))(h1:n≤39)(hF:Has Tryz.prog f)(hc:∀l1:List Int,(∀x∈l1,x∈l)→∀w1,Hp W w1 (row 3 ic 1 (.slice A n q) l1::R)→∀x∈l,∀y∈l,Calls Tryz.prog f ([]++[Value.int .i64 x,Value.int .i64 y]++cap).toArray w1 fun e w2=>e= .returned (.int .i64 (c x y))∧Ext w1 w2):
  Calls Tryz.prog 241 #[.slice A n q,.func (.func f) #[] cap.toArray] w fun e w'=>e= .returned (resVal [])∧Hp W w' (row 3 ic 1 (.slice A n q) (stabF c l)::R):=sstG_any sgI A n q l f cap c W R w H h1 hF hc
theorem rd1_any(a:Int)(b:Int)(g:Nat)(X:Cw)(es:List Ev)(w:World)(h2:Blk w g 266 [.pointer (some ⟨X.g,0,none⟩)])(hb:Blk w X.g 272 X.cells)(hes:Ls w X.eA X.eN X.eC Ev.c 6 es)(ha:0≤a∧a.toNat<es.length)(hbb:0≤b∧b.toNat<es.length):
  Cr 242 #[.int .i64 a,.int .i64 b,.pointer (some ⟨g,0,none⟩)] w (.int .i64 (cmA es a b)):=by
 have H:=(Hp.nil w);have e_e:=hes.len;have z_e:=hes.nle;refine Wb Tryz.func242 ?_;refine go ?_;refine Qr ?_;have b3:a.toNat<X.eN:=Om;refine G5 ?_;refine yq (Y.indexLs a.toNat (hes.ext H.ext) rfl u68 ti81 rfl rfl Om b3) ?_;have b4:b.toNat<X.eN:=Om;refine G7 ?_;refine yq (Y.indexLs b.toNat (hes.ext H.ext) rfl u68 ti81 rfl rfl Om b4) ?_;refine G2 ?_;refine WQ.call rfl (blt rfl) rfl rfl rfl Fh rfl (fun w hw=>calls_ext hw (cmpI_any _ _ _)) ?_;refine go ?_;refine Qd H fun z H=> ?_;refine go ?_;refine Rt [_] ?_;exact⟨rfl,H.ext⟩
theorem readings_any(X:Cw)(ids:List Ix)(es:List Ev)(ns:List Nx)(ths:List Th)(E:List (List Int))(W:World)(R:List Res)(w:World)(H:Hp W w (box X.g 272 X.cells::row 78 Ix.c 2 (.slice X.iA X.iN X.iC) ids::row 81 Ev.c 6 (.slice X.eA X.eN X.eC) es::row 65 Nx.c 1 (.slice X.nA X.nN X.nC) ns::big nxF ns::R))(hths:Ls W X.tA X.tN X.tC Th.c 3 ths)(hdk:∀i,i<ids.length→ixP (fun t=>t.id==ids[i]!.th) ths≥0)(hN:ns.map Nx.l=E)(hE:LB E ids.length (2*ids.length))(he:es.length=ids.length)(h1:ids.length≤24):
  Calls Tryz.prog 201 #[.pointer (some ⟨X.g,0,none⟩)] w fun e w'=>∃ns',e= .returned (resVal [])∧Hp W w' (box X.g 272 X.cells::row 78 Ix.c 2 (.slice X.iA X.iN X.iC) ids::row 81 Ev.c 6 (.slice X.eA X.eN X.eC) es::row 65 Nx.c 1 (.slice X.nA X.nN X.nC) ns'::big nxF ns'::R)∧ns'.map Nx.l=rdF ths ids es E:=by
 have e_i:=(H.l 1).len;have e_e:=(H.l 2).len;have e_n:=(H.l 3).len;have z_e:=(H.l 2).nle;have nl0:ns.length=ids.length:=by rw[←List.length_map (f:=Nx.l),hN];exact hE.1
 refine Wb Tryz.func201 ?_;refine go ?_;refine bx H fun g8 z H=> ?_;refine go ?_;refine mm H fun g11 z H=> ?_;have H:=H.bigNil glF;refine go ?_;refine sb [18,1,2,17] ?_;refine WC.loopS 1 (fun mz Ed W'=>∃i:Nat,∃gl:List Gl,mz=X.iN-i∧Ed=[(18,.int .i64 ((i:Nat):Int))]∧Hp W W' (big glF gl::mpi g11 (gl.map glM)::_::_::_::_::_::_::R)∧(i≤X.iN)∧(gl.map glP=gpN ths ids i)) _ ⟨0,[],rfl,rfl,H,(Nat.zero_le _),rfl⟩ ?_;rintro _ _ z ⟨i,gl,rfl,rfl,H,il,hg⟩;refine go ?_;refine Cd (fun p18=> ?_) fun p18=> ?_
 ·refine go ?_;refine c1 H Fh (domain_any _ _ i _ _ (H.b 3) (H.l 4) (hths.ext H.ext) Om (hdk _ Om)) fun z H=> ?_;refine G7 ?_;rcases hq:mget (gl.map glM) (domOf ths ids[i]!.th)with _|v
  ·obtain⟨ga,gb,gc⟩:=gl_none hq;have H:=(H.nilRow 3 ic 1).front [0];refine yy (Yld.cast (Y.lookup rfl u338 u3 ti65 rfl rfl (fun _ h=>h▸(H.mi 2))) (by unfold mval;rw[hq];first|done|rfl)) ?_;refine go ?_;refine bs1 H u65 ti3 fun g23 z H=> ?_;refine ap H 1 0 rfl [(i:Int)] u65 ti3 rfl ic_one (show 0+1≤1000000 by decide) fun v25 z H=> ?_;obtain⟨A26,n27,c28,rfl,_,_,_⟩:=H.op 1;refine mu H 3 u338 u3 fun z H=> ?_;have H:=H.front [1,1];have H:Hp W _ (big glF (gl++[⟨(domOf ths ids[i]!.th),A26,n27,c28,([]++[(i:Int)])⟩])::_):=Hp.bigPush glF ⟨(domOf ths ids[i]!.th),A26,n27,c28,([]++[(i:Int)])⟩ H;refine go ?_;exact Rs [(18,_)] Sx ⟨(i+1),(gl++[⟨(domOf ths ids[i]!.th),A26,n27,c28,([]++[(i:Int)])⟩]),rfl,rfl,(by rw[List.map_append];rw[show List.map glM [(⟨(domOf ths ids[i]!.th),A26,n27,c28,([]++[(i:Int)])⟩:Gl)]=[((domOf ths ids[i]!.th),.slice A26 n27 c28)]from rfl,←gc];exact(H.drop [1])),Om,(by rw[List.map_append];show _=lset (gpN ths ids i) (dmA ths ids i) (lget (gpN ths ids i) (dmA ths ids i)++[(i:Int)]);rw[←hg,show dmA ths ids i=(domOf ths ids[i]!.th)from rfl,ga,gb];rfl)⟩
  ·obtain⟨q,gi,gid,rfl,ga,gb,gc⟩:=gl_some hq;obtain⟨⟨id,A,n,c,l⟩,hx⟩:∃x,gl[q]! =x:=⟨_,rfl⟩;rw[hx]at gid ga hq;dsimp only at gid ga hq;have H:Hp W _ (row 3 ic 1 (.slice A n c) l::hole glF gl (q)::_):=Hp.bigOutX glF ⟨id,A,n,c,l⟩ hx H gi;have ln_:=(H.l 0).len;have ll:l.length≤i:=by rw[←ga,hg];exact gl_len ths ids i _
   refine yy (Yld.cast (Y.lookup rfl u338 u3 ti65 rfl rfl (fun _ h=>h▸(H.mi 2))) (by unfold mval;rw[hq];first|done|rfl)) ?_;refine go ?_;refine bs1 H u65 ti3 fun g31 z H=> ?_;refine ap H 1 0 rfl [(i:Int)] u65 ti3 rfl ic_one (room_le ll (Nat.le_refl 1) Om) fun v33 z H=> ?_;obtain⟨A34,n35,c36,rfl,_,_,_⟩:=H.op 1;refine mu H 3 u338 u3 fun z H=> ?_;have H:=H.front [1,1];have H:Hp W _ (big glF (gl.set (q) ⟨(domOf ths ids[i]!.th),A34,n35,c36,(l++[(i:Int)])⟩)::_):=Hp.bigIn glF ⟨(domOf ths ids[i]!.th),A34,n35,c36,(l++[(i:Int)])⟩ H gi;refine go ?_;exact Rs [(18,_)] Sx ⟨(i+1),(gl.set q ⟨(domOf ths ids[i]!.th),A34,n35,c36,(l++[(i:Int)])⟩),rfl,rfl,(by rw[List.map_set];rw[show glM (⟨(domOf ths ids[i]!.th),A34,n35,c36,(l++[(i:Int)])⟩:Gl)=((domOf ths ids[i]!.th),.slice A34 n35 c36)from rfl,←gc];exact(H.drop [1])),Om,(by rw[List.map_set];show _=lset (gpN ths ids i) (dmA ths ids i) (lget (gpN ths ids i) (dmA ths ids i)++[(i:Int)]);rw[←hg,show dmA ths ids i=(domOf ths ids[i]!.th)from rfl,ga,gb];rfl)⟩
 ·refine G5 ?_;refine sb [1,2] ?_;refine go ?_;refine rg H 1 u338 fun g38 z H=> ?_;obtain rfl:i=ids.length:=Om;have hG:GrpOk ths ids gl:=⟨hg⟩;refine go ?_;refine sb [1,34] ?_;refine WC.loopS 0 (fun mz Ed W'=>∃S:List Nat,∃gs:List Gl,∃ms:List Nx,mz=gl.length-S.length∧Ed=[]∧Hp W W' (big glF gs::mrg g38 g11 (gl.map glM) S::_::_::_::_::row 65 Nx.c 1 (.slice X.nA X.nN X.nC) ms::big nxF ms::R)∧(S.Nodup∧∀j∈S,j<gl.length)∧(gs.map glM=gl.map glM)∧(∀j,j<gl.length→j∉S→gs[j]!.l=gl[j]!.l)∧(RdOk ths ids es gl E (ms.map Nx.l) S)) _ ⟨[],gl,ns,rfl,rfl,H,⟨List.nodup_nil,fun j hj=>(by cases hj)⟩,rfl,(fun _ _ _=>rfl),(by rw[hN];exact RdOk.start hE.1)⟩ ?_;rintro _ _ z ⟨S,gs,ms,rfl,rfl,H,hS,hh,hl,hR⟩;have hLm:=hR.lb hE;have nlm:ms.length=ids.length:=by rw[←List.length_map (f:=Nx.l)];exact hR.len
  refine go ?_;refine nx (ty:=0) H 1 (fun hall z H=> ?_) fun i40 z hi_i40 hS_i40 H=> ?_
  ·refine go ?_;refine WC.condF rfl ?_;refine go ?_;refine En ?_;exact⟨ms,rfl,(H.drop [0,0,0]),hR.done hG hE.1 (fun i hi=>hall i (by simpa using hi))⟩
  ·refine go ?_;refine WC.condT rfl ?_;have hi_:i40<gl.length:=by simpa using hi_i40
   obtain⟨gl1,gl2,gl3⟩:=gl_at hh hi_;obtain⟨⟨id,A,n,c,l⟩,hx⟩:∃y,gs[i40]! =y:=⟨_,rfl⟩;rw[hx]at gl2 gl3;dsimp only at gl2 gl3;have hl_:l=gl[i40]!.l:=by have:=hl i40 hi_ hS_i40;rw[hx]at this;exact this
   have hv:((gl.map glM)[i40]!).2= .slice A n c:=by rw[map_b glM hi_];exact gl3.symm
   have H:Hp W _ (row 3 ic 1 (.slice A n c) l::hole glF gs (i40)::_):=Hp.bigOutX glF ⟨id,A,n,c,l⟩ hx H (show i40<gs.length by omega);obtain⟨g1,g2,g3,_⟩:=hG.el hi_;have ln_:=(H.l 0).len;have lc_:=(H.l 0).le;have hl2:l.length≤ids.length:=by rw[hl_];exact g2
   refine go ?_;refine en H 2 ?_;refine yy (Yld.cast (Y.extract rfl rfl rfl) hv) ?_;refine G4 ?_;refine yy (Y.func rfl rfl rfl) ?_;refine c3 Fh (sstI_any _ _ _ _ 242 [.pointer (some ⟨g8,0,none⟩)] (cmA es) _ _ _ (H.front [0]) Om Fh (fun l1 _ w1 H1 a ha b hb=>rd1_any a b g8 X es w1 (H1.b 3) (H1.b 4) (H1.l 6) (by have:=g3 a (hl_▸ha);omega) (by have:=g3 b (hl_▸hb);omega))) ?_;rintro _ z ⟨rfl,H⟩;refine⟨_,rfl,?_⟩;obtain⟨srt,hsrt⟩:∃q,q=srtG es gl[i40]!.l:=⟨_,rfl⟩;rw[show stabF (cmA es) l=srt from by rw[hsrt,hl_];rfl]at H;obtain rfl:n=srt.length:=((H.l 0).len).symm;have srg:∀x∈srt,0≤x∧x<(ids.length:Int):=fun x hx=>by have:=g3 x (srtG_mem.1 (hsrt▸hx));omega
   have snd:srt.Nodup:=by rw[hsrt];exact(stabF_perm _).nodup_iff.2 g1
   have sle:srt.length≤ids.length:=by rw[hsrt,srtG_len];exact g2
   have sm:0<srt.length→∀k:Nat,0≤srt[k]!∧srt[k]!.toNat<ids.length:=fun h k=>by
    by_cases q:k<srt.length
    ·have:=srg _ (mem_b q);omega
    ·rw[List.getElem!_eq_getElem?_getD,List.getElem?_eq_none Om];have:=srg _ (mem_b h);exact⟨Int.le_refl _,by show 0<ids.length;omega⟩
   refine go ?_;refine sb [7,8,1,6,34] ?_;refine WC.loopS 2 (fun mz Ed W'=>∃f:Nat,∃k0:Nat,∃k:Nat,∃B:Option Addr,∃bc:Nat,∃mt:List Nx,mz=2*f∧Ed=[(7,.slice B (k-k0) bc),(8,.int .i64 ((k:Nat):Int))]∧Hp W W' (_::_::_::_::_::_::_::row 65 Nx.c 1 (.slice X.nA X.nN X.nC) mt::big nxF mt::R)∧(k0≤k)∧(k≤srt.length)∧(srt.length≤k+f)∧(∀z,Ls z A srt.length c ic 1 srt→Ls z B (k-k0) bc ic 1 ((srt.take k).drop k0))∧(rgB es srt f k0 k (mt.map Nx.l)=rgB es srt srt.length 0 0 (ms.map Nx.l))∧(LB (mt.map Nx.l) ids.length (2*ids.length+ids.length+k))) _ ⟨srt.length,0,0,none,0,ms,rfl,rfl,H,Nl,(Nat.zero_le _),Om,(fun _ _=>Ls.nil Dc),rfl,hLm⟩ ?_;rintro _ _ z ⟨f,k0,k,B,bc,mt,rfl,rfl,H,hk0,hk,hf,hB,hd,hL⟩;have nlt:mt.length=ids.length:=by rw[←List.length_map (f:=Nx.l)];exact hL.1
   refine go ?_;refine Cd (fun p51=> ?_) fun p51=> ?_
   ·refine go ?_;refine sb [9,1,6,7,8,34] ?_;refine WC.loopS 1 (fun mz Ed W'=>∃n:Nat,mz=srt.length-n∧Ed=[(9,.int .i64 ((n:Nat):Int))]∧Hp W W' (_::_::_::_::_::_::_::_::_::R)∧(k≤n)∧(n≤srt.length)∧(blkF es srt k (srt.length-n) n=blkE es srt k)) _ ⟨k,rfl,rfl,H,Nl,Om,rfl⟩ ?_;rintro _ _ z ⟨n,rfl,rfl,H,hn1,hn2,hn⟩;have rn:=sm Om n;have rk:=sm Om k;refine go ?_;refine Qr ?_;refine G13 ?_;refine qg (fun hb=>Y.indexLs srt[n]!.toNat (H.l 6) rfl u68 ti81 (evg rfl hb) (evg rfl hb) Om (by have q0:=(dec_t hb);omega)) ?_;refine G10 ?_;refine qg (fun hb=>Y.indexLs srt[k]!.toNat (H.l 6) rfl u68 ti81 (evg rfl hb) (evg rfl hb) Om (by have q0:=(dec_t hb);omega)) ?_;refine go ?_;refine Qd H fun z H=> ?_;refine go ?_;refine Cd (fun p56=> ?_) fun p56=> ?_
    ·refine go ?_;exact Rs [(9,_)] Sx ⟨(n+1),rfl,rfl,H,Om,Om,(by rw[show srt.length-(n+1)=srt.length-n-1 from Om];exact(blkF_step Om p56).symm.trans hn)⟩
    ·have eblk:blkE es srt k=n:=hn.symm.trans (blkF_stop (fun q=>p56.elim (fun h=>h q.1) (fun h=>h q.2)));have nkb:=blkE_rng es (s:=srt) (k:=k) Om;rw[eblk]at nkb;have br:∀x∈(srt.take k).drop k0,0≤x∧x<(ids.length:Int):=fun x hx=>srg x (List.mem_of_mem_take (List.mem_of_mem_drop hx));have kr:∀x∈(srt.take n).drop k,0≤x∧x<(ids.length:Int):=fun x hx=>srg x (List.mem_of_mem_take (List.mem_of_mem_drop hx));have bnd:((srt.take k).drop k0).Nodup:=snd.sublist ((List.drop_sublist _ _).trans (List.take_sublist _ _));have bl:=take_drop_len hk0 hk;have bl2:=take_drop_len (s:=srt) (k:=k) (n:=n) Om Om;refine G11 ?_;refine sb [1,6,8,9,34,78,79,80] ?_;refine go ?_;refine sb [80,1,6,8,9,34,78,79] ?_;refine WC.loopS 1 (fun mz Ed W'=>∃jj:Nat,∃mu:List Nx,mz=(k-k0)-jj∧Ed=[(80,.int .i64 ((jj:Nat):Int))]∧Hp W W' (_::_::_::_::_::_::_::row 65 Nx.c 1 (.slice X.nA X.nN X.nC) mu::big nxF mu::R)∧(jj≤(k-k0))∧(mu.map Nx.l=putA (mt.map Nx.l) ((srt.take k).drop k0) ((srt.take n).drop k) jj)) _ ⟨0,mt,rfl,rfl,H,(Nat.zero_le _),rfl⟩ ?_;rintro _ _ z ⟨jj,mu,rfl,rfl,H,jjl,hm⟩;have lu:=putA_LB hL bnd br kr jj Om;have nlu:mu.length=ids.length:=by rw[←List.length_map (f:=Nx.l),hm];exact lu.1
     refine go ?_;refine Cd (fun p61=> ?_) fun p61=> ?_
     ·have rb:=br _ (mem_b (show jj<((srt.take k).drop k0).length by omega));have b64:jj<(k-k0):=Om;refine G5 ?_;refine yy (Y.indexLs jj (hB _ (H.l 0)) rfl u65 ti3 rfl rfl rfl b64) ?_;refine yy (ld rfl u3 rfl (Ls.at_eq (hB _ (H.l 0)) b64 rfl)) ?_;have rb2:((srt.take k).drop k0)[jj]!.toNat<ids.length:=Om;obtain⟨⟨Af65,nf65,cf65,lf65⟩,xf65⟩:∃y,mu[((srt.take k).drop k0)[jj]!.toNat]! =y:=⟨_,rfl⟩;have kf65:((srt.take k).drop k0)[jj]!.toNat<mu.length:=Om;have gf65:((putA (mt.map Nx.l) ((srt.take k).drop k0) ((srt.take n).drop k) jj))[((srt.take k).drop k0)[jj]!.toNat]! =lf65:=by rw[←hm,map_b Nx.l kf65,xf65]
      have H:=H.front [8];have H:Hp W _ (row 3 ic 1 (.slice Af65 nf65 cf65) lf65::hole nxF mu (((srt.take k).drop k0)[jj]!.toNat)::_):=Hp.bigOutX nxF ⟨Af65,nf65,cf65,lf65⟩ xf65 H kf65;have vf65:Value.slice mu[((srt.take k).drop k0)[jj]!.toNat]!.A mu[((srt.take k).drop k0)[jj]!.toNat]!.n mu[((srt.take k).drop k0)[jj]!.toNat]!.cp= .slice Af65 nf65 cf65:=by rw[xf65]
      have e_nf65:=(H.l 0).len;have z_nf65:=(H.l 0).nle;refine go ?_;refine Xr H (HpC W _) (.load 0 (.load 1 (.load 2 (.load 3 (.load 4 (.load 5 (.load 6 (.load 7 (.load 8 (.load 9 (.load 10 (.load 12 (.load 13 (.load 14 (.load 15 (.alt 11 (.alt 16 (.load 17 (.alt 18 (.fin) (.none))) (.none)) (.none))))))))))))))))) (H.pick [1,1,1,1,1,1,1,1]) fun z H=> ?_;have b68:((srt.take k).drop k0)[jj]!.toNat<X.nN:=Om;refine G10 ?_;refine yx rfl (Y.indexLs ((srt.take k).drop k0)[jj]!.toNat (H.l 9) rfl u135 ti65 rfl rfl Om b68) ?_;have b69:k≤n:=Om;have b70:n≤srt.length:=Om;refine G3 ?_;refine yx rfl (Y.sliceB k n rfl u65 ti3 rfl rfl rfl rfl rfl b69 Om) ?_;refine WX.yldL rfl rfl (blt rfl) rfl (H.pick [1,1,1,1,1,1,1,1]) (Yld.cast (Y.load1 rfl u65 rfl rfl (Ls.at_eq (H.l 9) b68 rfl)) vf65) ?_;refine aplX (H.pick [1,1,1,1,1,1,1,1]) H 0 rfl (((H.l 2).take b70).drop b69) u65 ti3 ic_one (room_le (by rw[←gf65];exact(lu.at_ rb2).2) (Nat.le_of_eq bl2) Om) fun v71 z H=> ?_;have b72:((srt.take k).drop k0)[jj]!.toNat<X.nN:=Om;refine yx rfl (Y.indexLs ((srt.take k).drop k0)[jj]!.toNat (H.l 9) rfl u135 ti65 rfl rfl Om b72) ?_;obtain⟨A73,n74,c75,rfl,_,_,_⟩:=H.op 0;refine steX (H.pick [1,1,1,1,1,1,1,1]) H 9 rfl ⟨A73,n74,c75,(lf65++((srt.take n).drop k))⟩ b72 ti65 xf65 fun z H=> ?_;refine WX.nil (H.pick [1,1,1,1,1,1,1,1]) ?_;have H:Hp W _ (big nxF (mu.set (((srt.take k).drop k0)[jj]!.toNat) ⟨A73,n74,c75,(lf65++((srt.take n).drop k))⟩)::_):=Hp.bigIn nxF ⟨A73,n74,c75,(lf65++((srt.take n).drop k))⟩ H kf65;obtain⟨m4,q_m4⟩:∃m:List Nx,m=(mu.set (((srt.take k).drop k0)[jj]!.toNat) ⟨A73,n74,c75,(lf65++((srt.take n).drop k))⟩):=⟨_,rfl⟩;rw[←q_m4]at H;refine go ?_;exact Rs [(80,_)] Sx ⟨(jj+1),m4,rfl,rfl,(H.front [1,1,1,1,1,1,1,1,0]),Om,(by rw[q_m4,List.map_set,hm,putA_next];rw[gf65])⟩
     ·have b77:k≤n:=Om;have b78:n≤srt.length:=Om;refine G9 ?_;refine yy (Y.sliceB k n rfl u65 ti3 rfl rfl rfl rfl rfl b77 Om) ?_;refine G2 ?_;refine sb [1,6,7,9,34] ?_;refine go ?_;exact Rs [(7,_),(8,_)] Sx ⟨(f-1),k,n,_,_,mu,rfl,rfl,H,Om,Om,Om,(fun z h=>(h.take Om).drop Om),(by rw[hm,show jj=((srt.take k).drop k0).length from by rw[take_drop_len hk0 hk];omega,←hd,rgB_step (show(k:Int)<(srt.length:Int) by omega) hf,eblk]),(by rw[hm];exact(putA_LB hL bnd br kr jj (by rw[take_drop_len hk0 hk];omega)).up (by rw[take_drop_len Om Om];omega))⟩
   ·have eN:rgB es srt srt.length 0 0 (ms.map Nx.l)=mt.map Nx.l:=hd.symm.trans (rgB_end Om);have H:Hp W _ (big glF (gs.set (i40) ⟨id,A,srt.length,c,srt⟩)::_):=Hp.bigIn glF ⟨id,A,srt.length,c,srt⟩ H (show i40<gs.length by omega);refine go ?_;refine WK.roundS _ [] Sx ?_ ⟨(i40::S),_,mt,rfl,rfl,H,⟨List.nodup_cons.2 ⟨hS_i40,hS.1⟩,fun j hj=>(List.mem_cons.1 hj).elim (fun e=>(by rw[e];exact hi_)) (hS.2 j)⟩,((map_keep glM (y:=⟨id,A,srt.length,c,srt⟩) Om hx rfl).trans hh),(fun j hj hn=>by rw[set_at _ _ _ _ Om,if_neg (fun e=>hn (by rw[←e];exact List.mem_cons_self))];exact hl j hj (fun q=>hn (List.mem_cons_of_mem _ q))),(by rw[←eN,hsrt];exact hR.step hG hS.2 hi_ hS_i40 rfl)⟩;exact left_lt hi_ hS_i40 hS.1 hS.2
theorem lg_th{ths:List Th}{d:List Dm}{s:List Sn}{l:List Pk}(h:lgE ths d s l=0):∀p∈l,p.th∈ths.map (·.id):=by
 intro p hp;obtain⟨j,hj,e⟩:=mem_at hp;have:=lch_zero (of_zero (lg_pk h).1).2 j hj;have h2:tlE (ths.map (·.id)) (tlN (ths.map (·.id)) l j) l[j]! =0:=this;unfold tlE at h2;grind
theorem idsN_mem{l:List Pk}{x:Ix}:∀j,j≤l.length→x∈idsN l j→∃p∈l,x.th=p.th∧∃i:Nat,i<p.k∧x.sr=p.sr+(i:Int)
 |0,_,h=>by cases h
 |j+1,hj,h=>by
  rw[idsN_next]at h;rcases List.mem_append.1 h with h|h
  ·exact idsN_mem j Om h
  ·unfold idsK at h;grind
theorem ixP_ge{α:Type}{p:α→Bool}{l:List α}(h:∃t∈l,p t=true):ixP p l≥0:=by
 simp_all [ixP,if_pos,List.findIdx_lt_length_of_exists,Exists.intro,And.intro]
theorem lg_dom{ths:List Th}{d:List Dm}{s:List Sn}{l:List Pk}(h:lgE ths d s l=0):∀i,i<(idsOf l).length→ixP (fun t:Th=>t.id==(idsOf l)[i]!.th) ths≥0:=by
 intro i hi;obtain⟨p,hp,e,_⟩:=idsN_mem l.length Nl (mem_b hi:(idsOf l)[i]!∈idsN l l.length);have:=lg_th h p hp;obtain⟨t,ht,et⟩:=List.mem_map.1 this;exact ixP_ge ⟨t,ht,beq_iff_eq.2 (et.trans e.symm)⟩
theorem ids_evs{l:List Pk}(h:∀p∈l,p.es.length=p.k):(evsOf l).length=(idsOf l).length:=by
 simp_all [evsOf,idsOf,evsN_len,Nat.le_refl,idsN_len]
theorem nx_ls{w:World}{ns:List Nx}(h:(big nxF ns).holds w):∀y∈ns,Ls w y.A y.n y.cp ic 1 y.l:=fun y hy=>
 OwnL.ls (h.1 (row 3 ic 1 (.slice y.A y.n y.cp) y.l) (List.mem_flatMap.2 ⟨y,hy,List.mem_cons_self⟩)) (fun _=>rfl) Dc
theorem wtI_len(w l:List Int):∀j,(wtI w l j).length=w.length
 |0=>rfl
 |j+1=>by show(List.set _ _ _).length=_;rw[List.length_set];exact wtI_len w l j
theorem wtI_rng{w l:List Int}{B:Int}(h:∀x∈w,0≤x∧x≤B)(hl:∀x∈l,x.toNat<w.length):∀j,j≤l.length→∀x∈wtI w l j,0≤x∧x≤B+(j:Int)
 |0,_,x,hx=>by have:=h x hx;omega
 |j+1,hj,x,hx=>by
  have ih:=wtI_rng h hl j Om;rcases List.mem_or_eq_of_mem_set hx with q|rfl
  ·have:=ih x q;omega
  ·have:=ih _ (mem_b (show l[j]!.toNat<(wtI w l j).length by grind [wtI_len,mem_b]));have e:(fN (fun(w:List Int) (k:Int)=>w.set k.toNat (w[k.toNat]! +1)) w l j)=wtI w l j:=rfl;grind
theorem wtN_next(N:List (List Int))(i:Nat):wtN N (i+1)=wtI (wtN N i) N[i]! N[i]!.length:=rfl
theorem wtN_ok{N:List (List Int)}{n B:Nat}(h:LB N n B):∀i,i≤n→(wtN N i).length=n∧∀x∈wtN N i,0≤x∧x≤((B*i:Nat):Int)
 |0,_=>⟨by show(List.replicate N.length (0:Int)).length=n;rw[List.length_replicate];exact h.1,fun x hx=>by
   have:x∈List.replicate N.length (0:Int):=hx;grind⟩
 |i+1,hi=>by
  obtain⟨a,b⟩:=wtN_ok h i Om;have c:=h.at_ (show i<n by omega);rw[wtN_next];refine⟨(wtI_len _ _ _).trans a,fun x hx=> ?_⟩;have:=wtI_rng b (fun x hx=>by grind) _ Nl x hx;grind
theorem rdyN_ok(w:List Int):∀i,(rdyN w i).length≤i∧∀x∈rdyN w i,0≤x∧x<(i:Int)
 |0=>⟨Nat.le_refl _,fun x hx=>by cases hx⟩
 |i+1=>by
  obtain⟨a,b⟩:=rdyN_ok w i;unfold rdyN;grind
theorem wS_le:∀{w:List Int} {B:Nat},(∀x∈w,x≤(B:Int))→wS w≤w.length*B
 |[],_,_=>Nat.zero_le _
 |x::r,B,h=>by
  have h1:=h x List.mem_cons_self;have h2:=wS_le (w:=r) fun y hy=>h y (List.mem_cons_of_mem _ hy);unfold wS at h2 ⊢;rw[List.map_cons,List.sum_cons,List.length_cons,Nat.succ_mul];omega
structure KaOk(s:List Int×List Int)(n:Nat)(B:Int)(M:Nat):Prop where
 r:∀x∈s.1,0≤x∧x<(n:Int)
 l:s.2.length=n
 b:∀x∈s.2,-B≤x∧x≤100000
 m:kaM s.1 s.2≤M
theorem KaOk.step{s:List Int×List Int}{n:Nat}{B:Int}{M:Nat}{k:Int}(h:KaOk s n B M)(hk:0≤k∧k<(n:Int)):KaOk (kaI s k) n (B+1) M:=by
 have hb:=h.b _ (mem_b (show k.toNat<s.2.length by rw[h.l];omega));refine⟨fun x hx=> ?_,(kaI_len s k).trans h.l,fun x hx=> ?_,Nat.le_trans (kaI_M (r:=s.1) (w:=s.2) (by rw[h.l];omega)) h.m⟩
 ·unfold kaI at hx;dsimp only at hx;split at hx
  ·rcases List.mem_append.1 hx with q|q
   ·exact h.r x q
   grind
  ·exact h.r x hx
 ·have hx:x∈s.2.set k.toNat (s.2[k.toNat]! -1):=hx;rcases List.mem_or_eq_of_mem_set hx with q|rfl
  ·have:=h.b x q;omega
  ·omega
theorem KaOk.run{s:List Int×List Int}{n:Nat}{B:Int}{M:Nat}{l:List Int}(h:KaOk s n B M)(hl:∀x∈l,0≤x∧x<(n:Int)):∀j,j≤l.length→KaOk (kaR s l j) n (B+(j:Int)) M
 |0,_=>by rw[show B+((0:Nat):Int)=B from Om];exact h
 |j+1,hj=>by
  have ih:=h.run hl j Om;have:=ih.step (hl _ (mem_b (show j<l.length from hj)));rw[show B+((j+1:Nat):Int)=B+(j:Int)+1 from Om];exact this
theorem KaOk.up{s:List Int×List Int}{n:Nat}{B B':Int}{M M':Nat}(h:KaOk s n B M)(hB:B≤B')(hM:M≤M'):KaOk s n B' M':=⟨h.r,h.l,fun x hx=>by have:=h.b x hx;omega,Nat.le_trans h.m hM⟩
theorem kaR_next(s:List Int×List Int)(l:List Int)(j:Nat):kaR s l (j+1)=kaI (kaR s l j) l[j]! :=rfl
theorem kaM_drop{r w:List Int}(h:0<r.length):kaM (r.drop 1) w+1=kaM r w:=by grind [kaM,List.length_drop]
theorem kaF_step{N:List (List Int)}{f d:Nat}{r w:List Int}(h:(r.length:Int)>0)(hf:1≤f):kaF N f r w d=kaF N (f-1) (kaR (r.drop 1,w) N[r[0]!.toNat]! N[r[0]!.toNat]!.length).1 (kaR (r.drop 1,w) N[r[0]!.toNat]! N[r[0]!.toNat]!.length).2 (d+1):=by
 obtain⟨g,rfl⟩:∃g,f=g+1:=⟨f-1,Om⟩;exact if_pos h
def plI(ids:List Ix)(k:Int×Int):Nat→Option Nat
 |0=>none
 |j+1=>if k=(ids[j]!.th,ids[j]!.sr)then some j else plI ids k j
theorem pget_set:∀(m:PM) (i:Int×Int) (u:Value) (k:Int×Int),pget (pset m i u) k=if k=i then some u else pget m k
 |[],i,u,k=>by
  rfl
 |(a,v)::r,i,u,k=>by
  have ih:=pget_set r i u k;by_cases h:i=a
  ·simp_all [dite,pset,pget]
  ·by_cases q:k=a
   ·subst q;rw[if_neg (fun e=>h e.symm)];simp[pset,pget,h]
   simp_all [pset,if_false,pget]
theorem pget_atM(ids:List Ix)(k:Int×Int):∀n,pget (atM ids n) k=(plI ids k n).map fun j:Nat=>Value.int .i64 (j:Int)
 |0=>rfl
 |n+1=>by
  show pget (pset (atM ids n) (ids[n]!.th,ids[n]!.sr) _) k=_;rw[pget_set,pget_atM ids k n,show plI ids k (n+1)=if k=(ids[n]!.th,ids[n]!.sr)then some n else plI ids k n from rfl];grind
theorem vcI_rng(ids:List Ix)(N:List (List Int))(th:Int)(a:Nat)(h:∀x∈ids,0≤x.sr∧x.sr≤1000000000000000):∀i,i≤ids.length→0≤vcI ids N th a i∧vcI ids N th a i≤1000000000000001
 |0,_=>⟨Int.le_refl _,by show(0:Int)≤1000000000000001;decide⟩
 |i+1,hi=>by
  have ih:=vcI_rng ids N th a h i Om;grind [mem_b,vcI]
theorem vcF_next(ths:List Th)(ids:List Ix)(N:List (List Int))(a:Nat){j:Nat}(h:j<ths.length):vcF ths ids N a (j+1)=vcF ths ids N a j++[vcI ids N ths[j]!.id a ids.length]:=by
 unfold vcF;rw[take_1 h,List.map_append];rfl
theorem vcF_len(ths:List Th)(ids:List Ix)(N:List (List Int))(a:Nat){j:Nat}(h:j≤ths.length):(vcF ths ids N a j).length=j:=by
 grind [vcF,List.length_map,List.length_take]
theorem caN_ok{ths:List Th}{l:List Pk}(h:∀p∈l,p.es.length=p.k):LB (caN ths l) (idsOf l).length (2*(idsOf l).length+(idsOf l).length):=by
 have hE:=edF_ok (ids_evs h);obtain⟨gl,hp⟩:∃gl:List Gl,gl.map glP=gpN ths (idsOf l) (idsOf l).length:=⟨(gpN ths (idsOf l) (idsOf l).length).map fun g=>⟨g.1,none,0,0,g.2⟩,by rw[List.map_map];exact List.map_id _⟩;have hG:GrpOk ths (idsOf l) gl:=⟨hp⟩;have key:∀S:List Nat,(∀j∈S,j<gl.length)→S.Nodup→∃N,RdOk ths (idsOf l) (evsOf l) gl (edF (idsOf l) (evsOf l)) N S:=by
  intro S
  induction S with
  |nil=>intro _ _;exact⟨_,RdOk.start hE.1⟩
  |cons i S ih=>
   intro h1 h2;rw[List.nodup_cons]at h2;obtain⟨N,hN⟩:=ih (fun j hj=>h1 j (List.mem_cons_of_mem _ hj)) h2.2;exact⟨_,hN.step hG (fun j hj=>h1 j (List.mem_cons_of_mem _ hj)) (h1 i List.mem_cons_self) h2.1 rfl⟩
 obtain⟨N,hN⟩:=key (List.range gl.length) (fun j hj=>List.mem_range.1 hj) List.nodup_range;have e:=hN.done hG hE.1 fun i hi=>List.mem_range.2 hi;unfold caN;rw[←e];exact hN.lb hE
theorem LB.nok{N:List (List Int)}{n B:Nat}(h:LB N n B)(hB:B≤1000):NOk N:=fun l hl=>⟨by rw[h.1];exact(h.2 l hl).1,Nat.le_trans (h.2 l hl).2 hB⟩
theorem kq78(a0:Int)(a1:Int)(b0:Int)(b1:Int)(w:World):(Op.equalIn 10000 78 (.agg #[.int .i64 a0,.int .i64 a1]) (.agg #[.int .i64 b0,.int .i64 b1])).run Tryz.prog w= .ok ((a0==b0)&&(a1==b1)) w:=by
 go_simp
 grind
theorem chk78(em:Bool)(a b:Int)(w:World):(Instr.checkKey em 10000 78 (.agg #[.int .i64 a,.int .i64 b])).run Tryz.prog w= .ok () w:=by
 rw[show(10000:Nat)=9999+1 from rfl];unfold Instr.checkKey
 go_simp
 rw[show(Instr.checkKey em 9999 3 (.int .i64 a)).run Tryz.prog w= .ok () w from checkKey_int Tryz.underlying3 em 9998 a w,Result.andThen_ok,show(Instr.checkKey em 9999 3 (.int .i64 b)).run Tryz.prog w= .ok () w from checkKey_int Tryz.underlying3 em 9998 b w]
theorem pkk78:PK Tryz.prog 78:=⟨by kernel_rfl,kq78,chk78⟩
theorem kq363(a0:Int)(a1:Int)(b0:Int)(b1:Int)(w:World):(Op.equalIn 10000 363 (.agg #[.int .i64 a0,.int .i64 a1]) (.agg #[.int .i64 b0,.int .i64 b1])).run Tryz.prog w= .ok ((a0==b0)&&(a1==b1)) w:=by
 go_simp
 grind
theorem chk363(em:Bool)(a b:Int)(w:World):(Instr.checkKey em 10000 363 (.agg #[.int .i64 a,.int .i64 b])).run Tryz.prog w= .ok () w:=by
 rw[show(10000:Nat)=9999+1 from rfl];unfold Instr.checkKey
 go_simp
 rw[show(Instr.checkKey em 9999 3 (.int .i64 a)).run Tryz.prog w= .ok () w from checkKey_int Tryz.underlying3 em 9998 a w,Result.andThen_ok,show(Instr.checkKey em 9999 3 (.int .i64 b)).run Tryz.prog w= .ok () w from checkKey_int Tryz.underlying3 em 9998 b w]
theorem pkk363:PK Tryz.prog 363:=⟨by kernel_rfl,kq363,chk363⟩
end TW
end Go.Proofs.YtaclfjjipnpboaaGreat
end
