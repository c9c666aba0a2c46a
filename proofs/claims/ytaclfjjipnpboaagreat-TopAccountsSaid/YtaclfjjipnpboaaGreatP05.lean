/- Part 5 of the proof. Conditions: what each theorem states. -/
import Derived.Test.YtaclfjjipnpboaaGreatP04
import Derived.Test.YtaclfjjipnpboaaGreatP01
import Derived.Test.YtaclfjjipnpboaaGreatP03
import Derived.Shelf.Small.Strs
set_option linter.all false
set_option maxHeartbeats 4000000
set_option maxRecDepth 4000
section
attribute [local irreducible] Go.Eng.WC Go.Eng.WL Go.Eng.WK Go.Eng.WQ Go.Eng.WX Go.Eng.Yld
namespace Go.Proofs.YtaclfjjipnpboaaGreat
open Go Go.Eng Go.RowKit
namespace TW
theorem becomes_any(g:Nat)(v:Value)(n l:Int)(cs:List Ch)(a s c o b:Int)(W:World)(R:List Res)(w:World)(H:Hp W w (box g 163 [v,.int .i64 n,.int .i64 l]::row 206 Ch.c 5 v cs::R))(hl:cs.length≤1000):
  Calls Tryz.prog 58 #[.pointer (some ⟨g,0,none⟩),.int .i64 a,.int .i64 s,.int .i64 c,.int .i64 o,.int .i64 b] w fun e w'=>∃v',e= .returned (resVal [])∧Hp W w' (box g 163 [v',.int .i64 n,.int .i64 l]::row 206 Ch.c 5 v' (cs++[⟨a,s,c,o,b⟩])::R):=by
 refine Wb Tryz.func58 ?_;refine go ?_;refine bs1 H u161 ti206 fun g4 z H=> ?_;refine ap H 2 0 rfl [⟨a,s,c,o,b⟩] u161 ti206 rfl Ch.one (by simp;omega) fun v6 z H=> ?_;obtain⟨A7,n8,c9,rfl,_,_,_⟩:=H.op 2;refine go ?_;refine st H 1 ti161 fun z H=> ?_;refine go ?_;refine En ?_;exact⟨_,rfl,(H.drop [0])⟩
theorem now_any(g:Nat)(A:Option Addr)(m k:Nat)(n l:Int)(cs:List Ch)(w:World)(mg:Blk w g 163 [.slice A m k,.int .i64 n,.int .i64 l])(hc:Ls w A m k Ch.c 5 cs)(hm:1≤m):
  Cr 96 #[.pointer (some ⟨g,0,none⟩)] w (.agg (Ch.c cs[m-1]!).toArray):=by
 have H:=(Hp.nil w);have zc:=hc.nle;refine Wb Tryz.func96 ?_;refine go ?_;refine al H ti206 fun g2 z H=> ?_;refine go ?_;refine WC.regionT 12 (by kernel_rfl) (by kernel_rfl) ?_;have b5:(m-1)<m:=Om;refine G10 ?_;refine yq (Y.indexLs (m-1) (hc.ext H.ext) rfl u161 ti206 rfl rfl Om b5) ?_;refine go ?_;refine WQ.tail (fun z x=> ?_);have H:=H.ex x;refine st H 0 ti206 fun z H=> ?_;refine go ?_;refine WK.ret [_] rfl ⟨⟨_,rfl,run_loadVar_blk u206 rfl ti206 (H.b 0)⟩,trivial⟩ ?_;exact⟨rfl,H.ext⟩
theorem gap_any(g:Nat)(v:Value)(n l:Int)(cs:List Ch)(W:World)(R:List Res)(w:World)(H:Hp W w (box g 163 [v,.int .i64 n,.int .i64 l]::row 206 Ch.c 5 v cs::R))(hl:cs.length≤999):
  Calls Tryz.prog 95 #[.pointer (some ⟨g,0,none⟩)] w fun e w'=>∃v',e= .returned (resVal [])∧Hp W w' (box g 163 [v',.int .i64 n,.int .i64 l]::row 206 Ch.c 5 v' (gapF l cs)::R):=by
 refine Wb Tryz.func95 ?_;refine go ?_;refine sb [0] ?_;refine WC.loopS 0 (fun mz Ed W'=>∃j:Nat,∃v:Value,mz=2*j∧Ed=[]∧Hp W W' (box g 163 [v,.int .i64 n,.int .i64 l]::row 206 Ch.c 5 v (cs.take j)::R)∧(j≤cs.length)∧(popK l cs j=popK l cs cs.length)) _ ⟨cs.length,_,rfl,rfl,(by rw[List.take_length];exact H),Nl,rfl⟩ ?_;rintro _ _ z ⟨j,v,rfl,rfl,H,jl,hp⟩;refine go ?_;refine Qr ?_;obtain⟨A7,n8,c9,rfl,_,_,_⟩:=H.op 1;refine G8 ?_;refine WQ.callG rfl (blt rfl) rfl rfl rfl rfl rfl Fh (fun hb=>(evs_cons (evg rfl hb) evs_nil)) (fun hb w hw=>calls_ext hw (now_any _ _ _ _ _ _ _ _ (Blk.ext (H.b 0) hw) (Ls.ext (H.l 1) hw) (by have q0:=(dec_t hb);omega))) ?_;refine qg (fun hb=>Y.field1 rfl u206 rfl u3 rfl (evg rfl hb) rfl) ?_;refine go ?_;refine Qd H fun z H=> ?_;refine go ?_;refine Cd (fun p10=> ?_) fun p10=> ?_
 ·refine go ?_;refine WC.regionT 14 (by kernel_rfl) (by kernel_rfl) ?_;have b11:(n8-1)≤n8:=Om;refine G11 ?_;refine yq (Y.sliceH (n8-1) rfl u161 ti206 rfl rfl Om Om) ?_;refine go ?_;refine WQ.tail (fun z x=> ?_);have H:=H.ex x;refine st H 0 ti161 fun z H=> ?_;have H:=H.cut 1 (n8-1) rfl Om;refine go ?_;refine WK.roundS _ [] ⟨rfl,trivial⟩ ?_ ⟨(n8-1),(.slice A7 (n8-1) c9),rfl,rfl,(by rw[show cs.take (n8-1)=(cs.take j).take (n8-1)from by rw[List.take_take,Nat.min_eq_left Om]];exact H),Om,(by rw[←hp,show n8-1=j-1 from Om];refine(popK_step Om ?_).symm;rw[←take_bangC (i:=j-1) Om jl,show j-1=n8-1 from Om];exact p10.2)⟩;omega
 ·refine G5 ?_;refine sb [0] ?_;refine go ?_;refine c3 Fh (becomes_any _ _ _ _ _ _ _ _ _ _ _ _ _ (H.front [0,0]) (by first|omega|(simp;omega)|(have:=gapF_len l cs;omega))) ?_;rintro _ z ⟨v12,rfl,H⟩;refine⟨_,rfl,?_⟩;refine go ?_;refine En ?_;have e:popK l cs cs.length=j:=by
    rw[←hp];refine popK_stop ?_;by_cases q:j≤1
    ·exact .inl q
    refine .inr ?_;rw[←take_bangC (i:=j-1) Om jl,show j-1=n8-1 from Om];rcases p10 with h|h
    ·omega
    ·exact h
  exact⟨_,rfl,by unfold gapF;rw[e];exact H⟩
theorem wake_any(g:Nat)(v:Value)(n l:Int)(cs:List Ch)(a b:Int)(W:World)(R:List Res)(w:World)(H:Hp W w (box g 163 [v,.int .i64 n,.int .i64 l]::row 206 Ch.c 5 v cs::R))(hl:cs.length≤1000)(h1:1≤cs.length):
  Calls Tryz.prog 61 #[.pointer (some ⟨g,0,none⟩),.int .i64 a,.int .i64 b] w fun e w'=>∃v',e= .returned (resVal [])∧Hp W w' (box g 163 [v',.int .i64 n,.int .i64 l]::row 206 Ch.c 5 v' (wakeF a b cs)::R):=by
 refine Wb Tryz.func61 ?_;obtain⟨A5,n6,c7,rfl,e_n6,_,_⟩:=H.op 1;refine go ?_;refine c1 H Fh (now_any _ _ _ _ _ _ _ _ (H.b 0) (H.l 1) Om) fun z H=> ?_;refine yy (Y.field1 rfl u206 rfl u3 rfl rfl rfl) ?_;refine go ?_;refine Cd (fun p9=> ?_) fun p9=> ?_
 ·refine go ?_;refine c3 Fh (becomes_any _ _ _ _ _ _ _ _ _ _ _ _ _ (H.front [0,0]) (by first|omega|(simp;omega)|(have:=gapF_len l cs;omega))) ?_;rintro _ z ⟨v10,rfl,H⟩;refine⟨_,rfl,?_⟩;refine go ?_;refine En ?_;have q:=p9;exact⟨_,rfl,by unfold wakeF;rw[if_pos (by rw[e_n6];exact q)];exact H⟩
 ·refine go ?_;refine En ?_;have q:=p9;exact⟨_,rfl,by unfold wakeF;rw[if_neg (by rw[e_n6];rintro(h|h);exact q.1 h;exact q.2 h)];exact H⟩
theorem sttime_any(x:Tm)(w:World):
  Cr 59 #[.agg #[.int .i64 x.th,.int .i64 x.sr,.int .i64 x.at_,.int .i64 x.kd,.string x.nm,.int .i64 x.n,.int .i64 x.m,.slice x.A x.k x.c_,.int .i64 x.lo,.int .i64 x.hi]] w (.int .i64 (clk x.lo)):=by
 have H:=(Hp.nil w);refine Wb Tryz.func59 ?_;refine go ?_;refine bx H fun g2 z H=> ?_;refine go ?_;refine Rt [_] ?_;exact⟨rfl,H.ext⟩
theorem stevent_any(g:Nat)(v:Value)(n l:Int)(cs:List Ch)(x:Tm)(W:World)(R:List Res)(w:World)(H:Hp W w (box g 163 [v,.int .i64 n,.int .i64 l]::row 206 Ch.c 5 v cs::R))(hl:cs.length≤998)(hs:0≤x.sr∧x.sr≤2000000000000000):
  Calls Tryz.prog 60 #[.pointer (some ⟨g,0,none⟩),.agg #[.int .i64 x.th,.int .i64 x.sr,.int .i64 x.at_,.int .i64 x.kd,.string x.nm,.int .i64 x.n,.int .i64 x.m,.slice x.A x.k x.c_,.int .i64 x.lo,.int .i64 x.hi]] w fun e w'=>∃v',e= .returned (resVal [])∧Hp W w' (box g 163 [v',.int .i64 (x.sr+1),.int .i64 (clk x.lo)]::row 206 Ch.c 5 v' (evF x n l cs)::R):=by
 refine Wb Tryz.func60 ?_;refine go ?_;refine bx H fun g5 z H=> ?_;refine G1 ?_;refine sb [0,3] ?_;refine go ?_;refine c1 H Fh (sttime_any _ _) fun z H=> ?_;refine go ?_;refine Qr ?_;refine go ?_;refine Qd H fun z H=> ?_;refine go ?_;refine Cd (fun p10=> ?_) fun p10=> ?_
 ·refine go ?_;refine c3 Fh (gap_any _ _ _ _ _ _ _ _ (H.front [1,1]) Om) ?_;rintro _ z ⟨v11,rfl,H⟩;refine⟨_,rfl,?_⟩;refine go ?_;refine st H 0 ti3 fun z H=> ?_;refine go ?_;refine st H 0 ti3 fun z H=> ?_;refine G11 ?_;refine sb [0,3,4,31,32] ?_;refine Cd (fun p15=> ?_) fun p15=> ?_
  ·refine go ?_;refine c3 Fh (becomes_any _ _ _ _ _ _ _ _ _ _ _ _ _ (H.front [0,0]) (by first|omega|(simp;omega)|(have:=gapF_len l cs;omega))) ?_;rintro _ z ⟨v16,rfl,H⟩;refine⟨_,rfl,?_⟩;refine go ?_;refine En ?_;exact⟨_,rfl,by unfold evF evK;rw[if_neg p10,if_pos p15];exact(H.drop [2])⟩
  ·refine go ?_;refine Cd (fun p18=> ?_) fun p18=> ?_
   ·refine go ?_;refine Cd (fun p22=> ?_) fun p22=> ?_
    ·refine go ?_;refine c3 Fh (becomes_any _ _ _ _ _ _ _ _ _ _ _ _ _ (H.front [0,0]) (by first|omega|(simp;omega)|(have:=gapF_len l cs;omega))) ?_;rintro _ z ⟨v23,rfl,H⟩;refine⟨_,rfl,?_⟩;refine go ?_;refine En ?_;exact⟨_,rfl,by unfold evF evK;rw[if_neg p10,if_neg p15,if_pos p18,if_pos p22];exact(H.drop [2])⟩
    ·refine G2 ?_;refine sb [0,3,4,5] ?_;refine go ?_;refine c3 Fh (becomes_any _ _ _ _ _ _ _ _ _ _ _ _ _ (H.front [0,0]) (by first|omega|(simp;omega)|(have:=gapF_len l cs;omega))) ?_;rintro _ z ⟨v24,rfl,H⟩;refine⟨_,rfl,?_⟩;refine go ?_;refine En ?_;exact⟨_,rfl,by unfold evF evK;rw[if_neg p10,if_neg p15,if_pos p18,if_neg p22];exact(H.drop [2])⟩
   ·refine go ?_;refine En ?_;exact⟨_,rfl,by unfold evF evK;rw[if_neg p10,if_neg p15,if_neg p18];exact(H.drop [2])⟩
 ·refine go ?_;refine st H 1 ti3 fun z H=> ?_;refine go ?_;refine st H 1 ti3 fun z H=> ?_;refine go ?_;refine Cd (fun p28=> ?_) fun p28=> ?_
  ·refine go ?_;refine c3 Fh (becomes_any _ _ _ _ _ _ _ _ _ _ _ _ _ (H.front [1,1]) (by first|omega|(simp;omega)|(have:=gapF_len l cs;omega))) ?_;rintro _ z ⟨v29,rfl,H⟩;refine⟨_,rfl,?_⟩;refine go ?_;refine En ?_;exact⟨_,rfl,by unfold evF evK;rw[if_pos p10,if_pos p28];exact(H.drop [2])⟩
  ·refine G4 ?_;refine sb [0,3,4,40] ?_;refine Cd (fun p31=> ?_) fun p31=> ?_
   ·refine go ?_;refine Cd (fun p35=> ?_) fun p35=> ?_
    ·refine go ?_;refine c3 Fh (becomes_any _ _ _ _ _ _ _ _ _ _ _ _ _ (H.front [1,1]) (by first|omega|(simp;omega)|(have:=gapF_len l cs;omega))) ?_;rintro _ z ⟨v36,rfl,H⟩;refine⟨_,rfl,?_⟩;refine go ?_;refine En ?_;exact⟨_,rfl,by unfold evF evK;rw[if_pos p10,if_neg p28,if_pos p31,if_pos p35];exact(H.drop [2])⟩
    ·refine go ?_;refine c3 Fh (becomes_any _ _ _ _ _ _ _ _ _ _ _ _ _ (H.front [1,1]) (by first|omega|(simp;omega)|(have:=gapF_len l cs;omega))) ?_;rintro _ z ⟨v37,rfl,H⟩;refine⟨_,rfl,?_⟩;refine go ?_;refine En ?_;exact⟨_,rfl,by unfold evF evK;rw[if_pos p10,if_neg p28,if_pos p31,if_neg p35];exact(H.drop [2])⟩
   ·refine go ?_;refine En ?_;exact⟨_,rfl,by unfold evF evK;rw[if_pos p10,if_neg p28,if_neg p31];exact(H.drop [0])⟩
theorem stsame_any(a:Sg)(b:Sg)(w:World):
  Cr 97 #[.agg #[.int .i64 a.th,.int .i64 a.s,.int .i64 a.f,.int .i64 a.t,.int .i64 a.cpu,.int .i64 a.on,.int .i64 a.by_],.agg #[.int .i64 b.th,.int .i64 b.s,.int .i64 b.f,.int .i64 b.t,.int .i64 b.cpu,.int .i64 b.on,.int .i64 b.by_]] w (.bool (sameF a b)):=by
 have H:=(Hp.nil w);refine Wb Tryz.func97 ?_;refine go ?_;refine bx H fun g2 z H=> ?_;refine bx H fun g4 z H=> ?_;refine G24 ?_;refine sb [4] ?_;refine go ?_;refine Rt [_] ?_;exact⟨rfl,H.ext⟩
theorem states_any(g:Nat)(A:Option Addr)(m k:Nat)(n l:Int)(th:Int)(en:Int)(cs:List Ch)(w:World)(mg:Blk w g 163 [.slice A m k,.int .i64 n,.int .i64 l])(hc:Ls w A m k Ch.c 5 cs)(hm:m≤1000):
  Calls Tryz.prog 62 #[.pointer (some ⟨g,0,none⟩),.int .i64 th,.int .i64 en] w fun e w'=>∃v,e= .returned v∧OwnL w' w.heap.size 113 Sg.c 7 v (statesF th en cs)∧Ext w w':=by
 have H:=(Hp.nil w);have ec:=hc.len;have zc:=hc.nle;refine Wb Tryz.func62 ?_;have H:=H.nilRow 113 Sg.c 7;refine go ?_;refine sb [19,7,0,1,2,17,18] ?_;refine WC.loopS 2 (fun mz Ed W'=>∃i:Nat,∃v:Value,mz=m-i∧Ed=[(19,.int .i64 ((i:Nat):Int)),(7,v)]∧Hp w W' (row 113 Sg.c 7 v (stN th en cs i)::[])∧(i≤m)) _ ⟨0,_,rfl,rfl,(H.pick [0]),(Nat.zero_le _)⟩ ?_;rintro _ _ z ⟨i,v,rfl,rfl,H,il⟩;have sl:=stN_len th en cs i;refine go ?_;refine WC.cond rfl (fun h8=> ?_) (fun h8=> ?_)
 ·have p8:=(dec_t h8);have b11:i<m:=Om;refine go ?_;refine al H ti206 fun g12 z H=> ?_;refine go ?_;refine st H 0 ti206 fun z H=> ?_;refine go ?_;refine Cd (fun p17=> ?_) fun p17=> ?_
  ·refine Qr ?_;have b18:(i+1)<m:=Om;refine G6 ?_;refine yq (Y.indexLs (i+1) (hc.ext H.ext) rfl u161 ti206 rfl rfl rfl b18) ?_;have b19:(i+1)<m:=Om;refine G8 ?_;refine yq (Y.indexLs (i+1) (hc.ext H.ext) rfl u161 ti206 rfl rfl rfl b19) ?_;refine go ?_;refine Qd H fun z H=> ?_;refine G1 ?_;refine sb [0,1,2,7,9,10,11,17,18,19] ?_;refine go ?_;refine al H ti113 fun g21 z H=> ?_;refine st H 0 ti113 fun z H=> ?_;refine go ?_;refine Cd (fun p25=> ?_) fun p25=> ?_
   ·refine go ?_;exact Rs [(19,_),(7,_)] Sx ⟨(i+1),v,rfl,rfl,(by rw[stN_skip (show sgAt th en cs i=(⟨th,cs[i]!.s,cs[i]!.t,cs[i+1]!.t,cs[i]!.cpu,cs[i]!.on,cs[i+1]!.by_⟩:Sg) by unfold sgAt;rw[ec,if_pos Om,if_pos Om]) p25];exact(H.pick [2])),Om⟩
   ·obtain⟨A28,n29,c30,rfl,e_n29,_,_⟩:=H.op 2;refine G9 ?_;refine sb [0,1,2,7,12,13,17,18,19] ?_;refine go ?_;refine Qr ?_;refine G5 ?_;refine qg (fun hb=>Y.indexLs (n29-1) (H.l 2) rfl u35 ti113 (evg rfl hb) (evg rfl hb) (by have q0:=(dec_t hb);omega) (by have q0:=(dec_t hb);omega)) ?_;refine G2 ?_;refine WQ.callG rfl (blt rfl) rfl rfl rfl rfl rfl Fh (fun hb=>(evs_cons (evg rfl hb) (evs_cons (evg rfl hb) evs_nil))) (fun hb w hw=>calls_ext hw (stsame_any _ (⟨th,cs[i]!.s,cs[i]!.t,cs[i+1]!.t,cs[i]!.cpu,cs[i]!.on,cs[i+1]!.by_⟩:Sg) _)) ?_;refine go ?_;refine Qd H fun z H=> ?_;refine go ?_;refine WC.cond rfl (fun h32=> ?_) (fun h32=> ?_)
    ·have p32:=(dec_t (and_t h32).1);refine go ?_;refine Xr H (HpC w _) (.load 0 (.load 1 (.load 2 (.load 3 (.load 4 (.load 5 (.load 6 (.load 7 (.load 8 (.load 9 (.load 10 (.load 11 (.alt 12 (.load 13 (.load 14 (.alt 15 (.fin) (.none)))) (.none)))))))))))))) (H.pick [0,0]) fun z H=> ?_;have b34:(n29-1)<n29:=Om;refine G9 ?_;refine yx rfl (Y.indexLs (n29-1) (H.l 2) rfl u35 ti113 rfl rfl Om b34) ?_;refine go ?_;refine steX (H.pick [0,0]) H 2 rfl {(stN th en cs i)[n29-1]! with t:=cs[i+1]!.t} b34 ti3 rfl fun z H=> ?_;have b35:(n29-1)<n29:=Om;refine yx rfl (Y.indexLs (n29-1) (H.l 2) rfl u35 ti113 rfl rfl Om b35) ?_;refine go ?_;refine steX (H.pick [0,0]) H 2 rfl {(stN th en cs i)[n29-1]! with t:=cs[i+1]!.t,by_:=cs[i+1]!.by_} b35 ti3 (set_bang Om) fun z H=> ?_;refine WX.nil (H.pick [0,0]) ?_;have q:=and_t h32;have q1:=dec_t q.1;have q2:=(H.pick [2]);rw[List.set_set]at q2;refine go ?_;exact Rs [(19,_),(7,_)] Sx ⟨(i+1),(.slice A28 n29 c30),rfl,rfl,(by rw[stN_join (show sgAt th en cs i=(⟨th,cs[i]!.s,cs[i]!.t,cs[i+1]!.t,cs[i]!.cpu,cs[i]!.on,cs[i+1]!.by_⟩:Sg) by unfold sgAt;rw[ec,if_pos Om,if_pos Om]) p25 e_n29 Om q.2];exact q2),Om⟩
    ·have p32:=((and_f h32).imp (fun h=>(dec_f h)) (fun h=>h));refine go ?_;refine bs1 H u35 ti113 fun g36 z H=> ?_;refine ap H 3 0 rfl [(⟨th,cs[i]!.s,cs[i]!.t,cs[i+1]!.t,cs[i]!.cpu,cs[i]!.on,cs[i+1]!.by_⟩:Sg)] u35 ti113 rfl Sg.one (by simp;omega) fun v38 z H=> ?_;refine G4 ?_;refine sb [0,1,2,7,17,18,19] ?_;refine go ?_;exact Rs [(19,_),(7,_)] Sx ⟨(i+1),v38,rfl,rfl,(by rw[stN_new (show sgAt th en cs i=(⟨th,cs[i]!.s,cs[i]!.t,cs[i+1]!.t,cs[i]!.cpu,cs[i]!.on,cs[i+1]!.by_⟩:Sg) by unfold sgAt;rw[ec,if_pos Om,if_pos Om]) p25 e_n29 ((and_f h32).imp (fun h=>by have:=dec_f h;omega) id)];exact(H.pick [3])),Om⟩
  ·refine go ?_;refine al H ti113 fun g40 z H=> ?_;refine st H 0 ti113 fun z H=> ?_;refine go ?_;refine Cd (fun p44=> ?_) fun p44=> ?_
   ·refine go ?_;exact Rs [(19,_),(7,_)] Sx ⟨(i+1),v,rfl,rfl,(by rw[stN_skip (show sgAt th en cs i=(⟨th,cs[i]!.s,cs[i]!.t,en,cs[i]!.cpu,cs[i]!.on,-1⟩:Sg) by unfold sgAt;rw[ec,if_neg Om,if_neg Om]) p44];exact(H.pick [2])),Om⟩
   ·obtain⟨A47,n48,c49,rfl,e_n48,_,_⟩:=H.op 2;refine G9 ?_;refine sb [0,1,2,7,12,13,17,18,19] ?_;refine go ?_;refine Qr ?_;refine G5 ?_;refine qg (fun hb=>Y.indexLs (n48-1) (H.l 2) rfl u35 ti113 (evg rfl hb) (evg rfl hb) (by have q0:=(dec_t hb);omega) (by have q0:=(dec_t hb);omega)) ?_;refine G2 ?_;refine WQ.callG rfl (blt rfl) rfl rfl rfl rfl rfl Fh (fun hb=>(evs_cons (evg rfl hb) (evs_cons (evg rfl hb) evs_nil))) (fun hb w hw=>calls_ext hw (stsame_any _ (⟨th,cs[i]!.s,cs[i]!.t,en,cs[i]!.cpu,cs[i]!.on,-1⟩:Sg) _)) ?_;refine go ?_;refine Qd H fun z H=> ?_;refine go ?_;refine WC.cond rfl (fun h51=> ?_) (fun h51=> ?_)
    ·have p51:=(dec_t (and_t h51).1);refine go ?_;refine Xr H (HpC w _) (.load 0 (.load 1 (.load 2 (.load 3 (.load 4 (.load 5 (.load 6 (.load 7 (.load 8 (.load 9 (.load 10 (.load 11 (.alt 12 (.load 13 (.load 14 (.alt 15 (.fin) (.none)))) (.none)))))))))))))) (H.pick [0,0]) fun z H=> ?_;have b53:(n48-1)<n48:=Om;refine G9 ?_;refine yx rfl (Y.indexLs (n48-1) (H.l 2) rfl u35 ti113 rfl rfl Om b53) ?_;refine go ?_;refine steX (H.pick [0,0]) H 2 rfl {(stN th en cs i)[n48-1]! with t:=en} b53 ti3 rfl fun z H=> ?_;have b54:(n48-1)<n48:=Om;refine yx rfl (Y.indexLs (n48-1) (H.l 2) rfl u35 ti113 rfl rfl Om b54) ?_;refine go ?_;refine steX (H.pick [0,0]) H 2 rfl {(stN th en cs i)[n48-1]! with t:=en,by_:= -1} b54 ti3 (set_bang Om) fun z H=> ?_;refine WX.nil (H.pick [0,0]) ?_;have q:=and_t h51;have q1:=dec_t q.1;have q2:=(H.pick [2]);rw[List.set_set]at q2;refine go ?_;exact Rs [(19,_),(7,_)] Sx ⟨(i+1),(.slice A47 n48 c49),rfl,rfl,(by rw[stN_join (show sgAt th en cs i=(⟨th,cs[i]!.s,cs[i]!.t,en,cs[i]!.cpu,cs[i]!.on,-1⟩:Sg) by unfold sgAt;rw[ec,if_neg Om,if_neg Om]) p44 e_n48 Om q.2];exact q2),Om⟩
    ·have p51:=((and_f h51).imp (fun h=>(dec_f h)) (fun h=>h));refine go ?_;refine bs1 H u35 ti113 fun g55 z H=> ?_;refine ap H 3 0 rfl [(⟨th,cs[i]!.s,cs[i]!.t,en,cs[i]!.cpu,cs[i]!.on,-1⟩:Sg)] u35 ti113 rfl Sg.one (by simp;omega) fun v57 z H=> ?_;refine G4 ?_;refine sb [0,1,2,7,17,18,19] ?_;refine go ?_;exact Rs [(19,_),(7,_)] Sx ⟨(i+1),v57,rfl,rfl,(by rw[stN_new (show sgAt th en cs i=(⟨th,cs[i]!.s,cs[i]!.t,en,cs[i]!.cpu,cs[i]!.on,-1⟩:Sg) by unfold sgAt;rw[ec,if_neg Om,if_neg Om]) p44 e_n48 ((and_f h51).imp (fun h=>by have:=dec_f h;omega) id)];exact(H.pick [3])),Om⟩
 ·have p8:=(dec_f h8);refine go ?_;refine Rt [_] ?_;have q:=dec_f h8;exact⟨_,rfl,(by rw[show statesF th en cs=stN th en cs i from by unfold statesF;rw[ec];congr 1;omega];exact H.out 0),H.ext⟩
def fN{σ α:Type}[Inhabited α](f:σ→α→σ)(s:σ)(l:List α):Nat→σ
 |0=>s
 |i+1=>f (fN f s l i) l[i]!
def fE(f:Nat→Int):Nat→Int
 |0=>0
 |i+1=>if fE f i=0 then f i else fE f i
theorem fE_ok{f:Nat→Int}:∀{n:Nat},fE f n=0↔∀i,i<n→f i=0
 |0=>⟨fun _ i h=>absurd h (Nat.not_lt_zero i),fun _=>rfl⟩
 |n+1=>by
  show(if fE f n=0 then f n else fE f n)=0↔_;constructor
  ·intro h i hi;by_cases q:fE f n=0
   ·rw[if_pos q]at h;rcases Nat.lt_succ_iff_lt_or_eq.1 hi with hi|rfl
    ·exact(fE_ok.1 q) i hi
    ·exact h
   omega
  ·intro h;rw[if_pos (fE_ok.2 fun i hi=>h i (Nat.lt_succ_of_lt hi))];grind
theorem fE_hit{f:Nat→Int}{i:Nat}(h0:fE f i=0)(h:f i≠0):∀{n:Nat},i<n→fE f n=f i
 |n+1,hi=>by
  show(if fE f n=0 then f n else fE f n)=f i;rcases Nat.lt_succ_iff_lt_or_eq.1 hi with q|rfl
  ·have e:=fE_hit h0 h q;omega
  omega
theorem fE_next{f:Nat→Int}{i:Nat}(h0:fE f i=0)(h:f i=0):fE f (i+1)=0:=(if_pos h0).trans h
theorem if_f{α:Sort _}{b:Bool}{x y:α}(h:b=false):(if b=true then x else y)=y:=if_neg (by grind)
theorem ite_to{α:Sort _}{c:Prop}[Decidable c]{x y z:α}(h:c)(e:x=z):(if c then x else y)=z:=(if_pos h).trans e
theorem ite_no{α:Sort _}{c:Prop}[Decidable c]{x y z:α}(h:¬c)(e:y=z):(if c then x else y)=z:=(if_neg h).trans e
theorem fE_ret{f:Nat→Int}{i n:Nat}{e:Int}(h0:fE f i=0)(he:f i=e)(hne:e≠0)(hi:i<n):fE f n=e:=(fE_hit h0 Om hi).trans he
theorem fE_end{f:Nat→Int}{j n:Nat}(h0:fE f j=0)(e:n=j):fE f n=0:=e▸h0
def ixP{α:Type}(p:α→Bool)(l:List α):Int:=if l.findIdx p<l.length then((l.findIdx p:Nat):Int)else-1
theorem ixP_no{α:Type}[Inhabited α]{p:α→Bool}{l:List α}(h:∀k,k<l.length→p l[k]! =false):ixP p l= -1:=by
 unfold ixP;grind
theorem ixP_at{α:Type}[Inhabited α]{p:α→Bool}{l:List α}{j:Nat}(hj:j<l.length)(h:∀k,k<j→p l[k]! =false)(e:p l[j]! =true):ixP p l=j:=by
 have:l.findIdx p=j:=(List.findIdx_eq hj).2 ⟨by grind,fun k hk=>by grind⟩;simp_all [ixP,if_pos]
theorem fE_out{f:Nat→Int}{i n:Nat}{e y:Int}(h0:fE f i=0)(he:f i=e)(hne:e≠0)(hi:i<n):(if fE f n≠0 then fE f n else y)=e:=by
 rw[fE_ret h0 he hne hi,if_pos hne]
theorem fE_thru{f:Nat→Int}{j n:Nat}{y z:Int}(h0:fE f j=0)(e:n=j)(h:y=z):(if fE f n≠0 then fE f n else y)=z:=by
 grind
def eqW{α:Type}[Inhabited α](p:α→α→Bool)(l m:List α):Bool:=decide (l.length=m.length)&&(List.range l.length).all fun j=>p l[j]! m[j]!
theorem eqW_len{α:Type}[Inhabited α]{p:α→α→Bool}{l m:List α}(h:l.length≠m.length):eqW p l m=false:=by grind [eqW,decide_eq_false]
theorem eqW_no{α:Type}[Inhabited α]{p:α→α→Bool}{l m:List α}{j:Nat}(hj:j<l.length)(h:p l[j]! m[j]! =false):eqW p l m=false:=by
 unfold eqW;grind
theorem eqW_yes{α:Type}[Inhabited α]{p:α→α→Bool}{l m:List α}(hl:l.length=m.length)(h:∀k,k<l.length→p l[k]! m[k]! =true):eqW p l m=true:=by
 simp_all [eqW,decide_eq_true,List.all_eq_true,List.mem_range]
theorem map_b{α β:Type}[Inhabited α][Inhabited β](f:α→β){l:List α}{k:Nat}(h:k<l.length):(l.map f)[k]! =f l[k]! :=by
 rw[bang_eq (by grind),bang_eq h,List.getElem_map]
theorem eqW_refl{α:Type}[Inhabited α]{p:α→α→Bool}(h:∀x,p x x=true)(l:List α):eqW p l l=true:=eqW_yes rfl fun _ _=>h _
theorem eqW_map{α β:Type}[Inhabited α][Inhabited β]{p:β→β→Bool}(f:α→β)(l m:List α):eqW (fun x y=>p (f x) (f y)) l m=eqW p (l.map f) (m.map f):=by
 by_cases h:l.length=m.length
 ·cases hq:eqW p (l.map f) (m.map f)with
  |true=>
   simp_all [eqW_yes,eqW,List.all_eq_true,and_t,List.mem_range,map_b]
  |false=>
   cases hq':eqW (fun x y=>p (f x) (f y)) l m with
   |false=>rfl
   |true=>
    exfalso;unfold eqW at hq';have h2:=List.all_eq_true.1 (and_t hq').2;have:eqW p (l.map f) (m.map f)=true:=eqW_yes (by grind) fun k hk=>by
     simp_all
    grind
 grind [eqW_len]
theorem all_next{P:Nat→Prop}{j:Nat}(h:∀k,k<j→P k)(hj:P j):∀k,k<j+1→P k:=fun k hk=>(Nat.lt_succ_iff_lt_or_eq.1 hk).elim (h k) fun e=>e▸hj
def pkb(ks:List Int):List (Int×Value):=ks.map fun k=>(k,.bool true)
theorem mval_pkb:∀(ks:List Int) (x:Int),mval (pkb ks) x (.bool false)= .bool (decide (x∈ks))
 |[],x=>by rfl
 |k::r,x=>by
  have ih:=mval_pkb r x;unfold mval at ih ⊢;show(if x=k then some (Value.bool true)else mget (pkb r) x).getD _=_;grind
theorem mset_pkb{ks:List Int}{x:Int}(h:x∉ks):mset (pkb ks) x (.bool true)=pkb (ks++[x]):=by
 induction ks with
 |nil=>rfl
 |cons k r ih=>
  rw[List.mem_cons,not_or]at h;simp_all [ite,List.cons,Prod.mk,mset,pkb,List.nil,if_neg]
theorem nt_f{b:Bool}(h:b=false):¬b=true:=by grind
theorem nf_t{b:Bool}(h:b=true):¬b=false:=by grind
theorem set_b{α:Type}[Inhabited α]{l:List α}{k:Nat}{x:α}(h:k<l.length):(l.set k x)[k]! =x:=by
 grind
theorem app_b{α:Type}[Inhabited α]{l:List α}{x:α}{k:Nat}(h:k<l.length):(l++[x])[k]! =l[k]! :=by
 rw[bang_eq (by grind),bang_eq h,List.getElem_append_left h]
theorem app_e{α:Type}[Inhabited α]{l:List α}{x:α}:(l++[x])[l.length]! =x:=by
 grind
def ixF(l:List Int)(x:Int):Int:=if l.idxOf x<l.length then((l.idxOf x:Nat):Int)else-1
theorem ix_no{l:List Int}{x:Int}(h:∀k,k<l.length→¬x=l[k]!):¬l.idxOf x<l.length:=fun q=>h _ q (by rw[bang_eq q,List.getElem_idxOf])
theorem ix_at{l:List Int}{x:Int}{j:Nat}(hj:j<l.length)(h:∀k,k<j→¬x=l[k]!)(e:x=l[j]!):l.idxOf x=j:=by
 have hm:x∈l:=by grind
 have hl:=List.idxOf_lt_length_iff.2 hm;rcases Nat.lt_trichotomy (l.idxOf x) j with q|q|q
 ·grind
 ·exact q
 ·have:=List.not_of_lt_findIdx (p:=(·==x)) (xs:=l) q;grind
theorem ixF_at{l:List Int}{x:Int}{j:Nat}(hj:j<l.length)(h:∀k,k<j→¬x=l[k]!)(e:x=l[j]!):ixF l x=j:=by unfold ixF;rw[ix_at hj h e,if_pos hj]
theorem ixF_ge{l:List Int}{x:Int}:decide (ixF l x≥0)=decide (x∈l):=by
 unfold ixF;grind
theorem room_le{a b A B:Nat}(h1:a≤A)(h2:b≤B)(h:A+B≤1000000):a+b≤1000000:=Om
theorem mget_by{α:Type}[Inhabited α](f:α→Int×Nat)(tm:List α)(x:Int):(mget (pkv (tm.map f)) x=none∧¬(tm.map fun t=>(f t).1).idxOf x<tm.length)∨((tm.map fun t=>(f t).1).idxOf x<tm.length∧mget (pkv (tm.map f)) x=some (.pointer (some ⟨(f tm[(tm.map fun t=>(f t).1).idxOf x]!).2,0,none⟩))):=by
 have e:(tm.map f).map (·.1)=tm.map fun t=>(f t).1:=by simp_all
 rcases mget_pkv (tm.map f) x with⟨h1,h2⟩|⟨h1,h2⟩<;>grind
theorem map_keep{α β:Type}[Inhabited α][Inhabited β](f:α→β){tm:List α}{i:Nat}{x y:α}(hi:i<tm.length)(hx:tm[i]! =x)(e:f y=f x):(tm.set i y).map f=tm.map f:=by
 have h:=map_b f hi;rw[hx]at h;rw[List.map_set];exact List.ext_getElem (by simp) fun k a b=>by
  grind
theorem nodup_take{l:List Int}{j:Nat}(h:l.Nodup)(hj:j<l.length):¬l[j]!∈l.take j:=by
 intro q;obtain⟨k,hk,e⟩:=List.mem_iff_getElem.1 q;rw[List.length_take]at hk;rw[List.getElem_take,bang_eq hj]at e;grind [List.getElem_inj]
theorem mem_b{α:Type}[Inhabited α]{l:List α}{i:Nat}(h:i<l.length):l[i]!∈l:=by grind
theorem nodup_map_take{α:Type}[Inhabited α](f:α→Int){l:List α}{j:Nat}(h:(l.map f).Nodup)(hj:j<l.length):¬f l[j]!∈(l.take j).map f:=by
 grind [nodup_take,map_b,List.map_take]
theorem set_same{α:Type}[Inhabited α]{l:List α}{i:Nat}(h:i<l.length):l.set i l[i]! =l:=by rw[bang_eq h,List.set_getElem_self]
theorem set_twice{α:Type}{l:List α}{i:Nat}{x y:α}:(l.set i x).set i y=l.set i y:=by simp
theorem take_1{α:Type}[Inhabited α]{l:List α}{j:Nat}(h:j<l.length):l.take (j+1)=l.take j++[l[j]!]:=by
 rw[List.take_succ_eq_append_getElem h,bang_eq h]
end TW
end Go.Proofs.YtaclfjjipnpboaaGreat
end
namespace Go.Proofs.YtaclfjjipnpboaaGreat
open Go Go.Eng Go.RowKit Go.Shelf
namespace TW
def sc(s:ByteArray):List Value:=[.string s]
theorem sc_one(s:ByteArray):∀u∈sc s,u.oneCell'=true:=by simp[sc,Value.oneCell']
def ic(x:Int):List Value:=[.int .i64 x]
theorem ic_one(x:Int):∀u∈ic x,u.oneCell'=true:=by simp[ic,Value.oneCell']
def bc(x:Bool):List Value:=[.bool x]
structure Ev where(at_ kd:Int)(nm:ByteArray)(n m:Int)(A:Option Addr)(k c_:Nat)(st:List ByteArray)
instance:Inhabited Ev:=⟨⟨0,0,⟨#[]⟩,0,0,none,0,0,[]⟩⟩
def Ev.c(x:Ev):List Value:=[.int .i64 x.at_,.int .i64 x.kd,.string x.nm,.int .i64 x.n,.int .i64 x.m,.slice x.A x.k x.c_]
theorem Ev.one(x:Ev):∀u∈x.c,u.oneCell'=true:=by simp[Ev.c,Value.oneCell']
def Ev.ok(w:World)(x:Ev):Prop:=Ls w x.A x.k x.c_ sc 1 x.st
theorem Ev.ok.ext{w w':World}{x:Ev}(h:x.ok w)(e:Ext w w'):x.ok w':=Ls.ext h e
def EvsOk(w:World)(l:List Ev):Prop:=∀x∈l,x.ok w
theorem EvsOk.ext{w w':World}{l:List Ev}(h:EvsOk w l)(e:Ext w w'):EvsOk w' l:=fun x hx=>(h x hx).ext e
structure Pk where(th sr ls:Int)(A:Option Addr)(k c_:Nat)(es:List Ev)
instance:Inhabited Pk:=⟨⟨0,0,0,none,0,0,[]⟩⟩
def Pk.c(x:Pk):List Value:=[.int .i64 x.th,.int .i64 x.sr,.int .i64 x.ls,.slice x.A x.k x.c_]
theorem Pk.one(x:Pk):∀u∈x.c,u.oneCell'=true:=by simp[Pk.c,Value.oneCell']
structure Pk.ok(w:World)(x:Pk):Prop where
 l:Ls w x.A x.k x.c_ Ev.c 6 x.es
 e:EvsOk w x.es
theorem Pk.ok.ext{w w':World}{x:Pk}(h:x.ok w)(e:Ext w w'):x.ok w':=⟨h.l.ext e,h.e.ext e⟩
def PksOk(w:World)(l:List Pk):Prop:=∀x∈l,x.ok w
theorem PksOk.ext{w w':World}{l:List Pk}(h:PksOk w l)(e:Ext w w'):PksOk w' l:=fun x hx=>(h x hx).ext e
structure Th where(id:Int)(nm:ByteArray)(dom:Int)
instance:Inhabited Th:=⟨⟨0,⟨#[]⟩,0⟩⟩
def Th.c(x:Th):List Value:=[.int .i64 x.id,.string x.nm,.int .i64 x.dom]
structure Dm where(id ppm:Int)
instance:Inhabited Dm:=⟨⟨0,0⟩⟩
def Dm.c(x:Dm):List Value:=[.int .i64 x.id,.int .i64 x.ppm]
structure Sn where(a ta b lo hi:Int)
instance:Inhabited Sn:=⟨⟨0,0,0,0,0⟩⟩
def Sn.c(x:Sn):List Value:=[.int .i64 x.a,.int .i64 x.ta,.int .i64 x.b,.int .i64 x.lo,.int .i64 x.hi]
theorem Sn.one(x:Sn):∀u∈x.c,u.oneCell'=true:=by simp[Sn.c,Value.oneCell']
def signs:ByteArray:=⟨#[95,46,58,47,60,62,36,42,126,45]⟩
def letB(c:Int):Bool:=((decide (c≥97)&&decide (c≤122))||(decide (c≥65)&&decide (c≤90)))||(decide (c≥48)&&decide (c≤57))||([95,46,58,47,60,62,36,42,126,45]:List Int).contains c
def ixB(c:Int):Int:=Lib.indexByte signs.data.toList c.toNat.toUInt8
theorem ix_all:∀c:Fin 256,decide (Lib.indexByte signs.data.toList c.val.toUInt8≥0)=([95,46,58,47,60,62,36,42,126,45]:List Int).contains (c.val:Int):=by decide+kernel
theorem let_ix{c:Int}(h:0≤c∧c≤255):((((decide (c≥97)&&decide (c≤122))||(decide (c≥65)&&decide (c≤90)))||(decide (c≥48)&&decide (c≤57)))||decide (ixB c≥0))=letB c:=by
 have:=ix_all ⟨c.toNat,Om⟩;simp only at this;grind [Int.toNat_of_nonneg,letB,ixB]
def nmF(s:ByteArray):Int:=if s=⟨#[]⟩∨(s.size:Int)>40 then 3 else fE (fun i=>if letB (bat s i)=true then 0 else 3) s.size
def frF(l:List ByteArray):Int:=if(l.length:Int)>32 then 7 else fE (fun i=>nmF l[i]!) l.length
structure Fm where(word:ByteArray)(nm n m st:Bool)(lo hi mlo mhi:Int)
instance:Inhabited Fm:=⟨⟨⟨#[]⟩,false,false,false,false,0,0,0,0⟩⟩
def Fm.c(x:Fm):List Value:=[.string x.word,.bool x.nm,.bool x.n,.bool x.m,.bool x.st,.int .i64 x.lo,.int .i64 x.hi,.int .i64 x.mlo,.int .i64 x.mhi]
def formsL:List Fm:=
 [default,
  ⟨⟨#[98,101,103,105,110]⟩,true,false,false,false,0,0,0,0⟩,
  ⟨⟨#[101,110,100]⟩,false,false,false,false,0,0,0,0⟩,
  ⟨⟨#[109,97,114,107]⟩,true,false,false,false,0,0,0,0⟩,
  ⟨⟨#[99,111,117,110,116]⟩,true,true,false,false,-1000000000000000,1000000000000000,0,0⟩,
  ⟨⟨#[115,97,109,112,108,101]⟩,false,true,false,true,1,1000000000000,0,0⟩,
  ⟨⟨#[115,101,110,100]⟩,false,true,false,false,0,1000000000000000,0,0⟩,
  ⟨⟨#[114,101,99,118]⟩,false,true,false,false,0,1000000000000000,0,0⟩,
  ⟨⟨#[114,117,110]⟩,false,true,false,false,0,63,0,0⟩,
  ⟨⟨#[115,116,111,112]⟩,false,true,true,false,0,3,0,1000000000000000⟩,
  ⟨⟨#[119,97,107,101]⟩,false,true,false,false,0,1000000000000000,0,0⟩,
  ⟨⟨#[97,108,108,111,99]⟩,false,true,true,true,0,1000000000000000,1,1000000000000⟩,
  ⟨⟨#[102,114,101,101]⟩,false,true,false,false,0,1000000000000000,0,0⟩]
def formF(k:Int):Fm:=if k<1∨k≥13 then default else formsL[k.toNat]!
def fmOk(k:Int):Bool:=decide (1≤k)&&decide (k<13)
theorem formF_out{k:Int}(h:k<1∨k≥13):formF k=default:=if_pos h
theorem formF_in{k:Int}(h1:1≤k)(h2:k<13):formF k=formsL[k.toNat]! :=if_neg Om
theorem fmOk_out{k:Int}(h:k<1∨k≥13):fmOk k=false:=by
 unfold fmOk;grind
theorem fmOk_in{k:Int}(h1:1≤k)(h2:k<13):fmOk k=true:=by grind [fmOk,decide_eq_true]
def evE(e:Ev):Int:=
 if e.at_<0∨e.at_>1000000000000 then 2
 else
  let f:=formF e.kd
  if((((fmOk e.kd=false∨f.nm=false∧e.nm≠⟨#[]⟩)∨f.n=false∧e.n≠0)∨f.m=false∧e.m≠0)∨f.st=false∧(e.k:Int)>0)then 1
  else
   let x:=if f.nm=true then nmF e.nm else frF e.st
   if x≠0 then x
   else if f.n=true∧(e.n<f.lo∨e.n>f.hi)then 2
   else if(e.kd=9∧e.n≠2)∧e.m≠0 then 1
   else if(f.m=true∧(e.m<f.mlo∨e.m>f.mhi))∧(e.kd≠9∨e.n=2)then 2
   else 0
def ev1(l:List Ev)(i:Nat):Int:=if evE l[i]!≠0 then evE l[i]! else if(i:Int)>0∧l[i]!.at_<l[i-1]!.at_ then 11 else 0
def evsE(l:List Ev):Int:=fE (ev1 l) l.length
def pkE(p:Pk):Int:=
 if fE (fun i=>if[p.th,p.sr,p.ls][i]! <0∨[p.th,p.sr,p.ls][i]! >1000000000000000 then 2 else 0) 3≠0 then 2
 else if p.ls>p.sr then 2
 else if IntKind.i64.wrap (p.sr+(p.k:Int))>1000000000000000 then 2
 else if(p.k:Int)=0 then 8
 else if(p.k:Int)>1000 then 7
 else evsE p.es
theorem pk_rng{x:Pk}(h:fE (fun i=>if[x.th,x.sr,x.ls][i]! <0∨[x.th,x.sr,x.ls][i]! >1000000000000000 then 2 else 0) 3=0):0≤x.sr∧x.sr≤1000000000000000:=by
 have q:=fE_ok.1 h 1 Dc;grind
structure PkOk(x:Pk):Prop where
 th:0≤x.th∧x.th≤1000000000000000
 sr:0≤x.sr∧x.sr≤1000000000000000
 ls:0≤x.ls∧x.ls≤1000000000000000
 le:x.ls≤x.sr
 to:x.sr+(x.k:Int)≤1000000000000000
 k:1≤x.k∧x.k≤1000
 e:evsE x.es=0
theorem pk_ok{x:Pk}(h:pkE x=0):PkOk x:=by
 unfold pkE at h;split at h
 ·cases h
 rename_i h0;have h0:=Decidable.of_not_not h0;have q:∀i:Nat,i<3→0≤([x.th,x.sr,x.ls]:List Int)[i]!∧([x.th,x.sr,x.ls]:List Int)[i]!≤1000000000000000:=fun i hi=>by
  have q:=fE_ok.1 h0 i hi;split at q
  ·cases q
  ·omega
 split at h
 ·cases h
 split at h
 ·cases h
 rename_i h2;split at h
 ·cases h
 split at h
 ·cases h
 have q1:0≤x.sr∧x.sr≤1000000000000000:=q 1 Dc;rw[wrap_i64 Om]at h2;exact⟨q 0 Dc,q1,q 2 Dc,Om,Om,Om,h⟩
def thE(t:Th):Int:=if((t.id<0∨t.id>1000000000000000)∨t.dom<0)∨t.dom≥8 then 2 else nmF t.nm
end TW
end Go.Proofs.YtaclfjjipnpboaaGreat
namespace Go.Proofs.YtaclfjjipnpboaaGreat
open Go Go.Eng Go.RowKit
namespace TW
structure Td where(n l:Int)(cs:List Ch)
instance:Inhabited Td:=⟨⟨0,0,[]⟩⟩
structure Tk where(g:Nat)(v:Value)(id:Int)(d:Td)
instance:Inhabited Tk:=⟨⟨0,.nilIface,0,default⟩⟩
def evT(e:Tm)(t:Td):Td:=⟨e.sr+1,clk e.lo,evF e t.n t.l t.cs⟩
def wkT(e:Tm)(t:Td):Td:={t with cs:=wakeF (clk e.lo) e.th t.cs}
def atI(ids:List Int)(x:Int)(f:Td→Td)(T:List Td):List Td:=if ids.idxOf x<ids.length then T.set (ids.idxOf x) (f T[ids.idxOf x]!)else T
def stStep(ids:List Int)(S:List Td×Int)(e:Tm):List Td×Int:=
 (if ids.idxOf e.n<ids.length then(if e.kd=10 then(atI ids e.th (evT e) S.1).set (ids.idxOf e.n) (wkT e (atI ids e.th (evT e) S.1)[ids.idxOf e.n]!)else atI ids e.th (evT e) S.1)else atI ids e.th (evT e) S.1,max S.2 (clk e.lo))
def tk0:Td:=⟨0,0,[⟨0,5,-1,-1,-1⟩]⟩
def stFold(ids:List Int)(o:List Tm)(en:Int)(j:Nat):List Td×Int:=fN (stStep ids) (ids.map fun _=>tk0,en) o j
def stRows(ids:List Int)(T:List Td)(en:Int)(j:Nat):List Sg:=fN (fun out id=>out++statesF id en T[ids.idxOf id]!.cs) [] ids j
def dsT(ths:List Th):Nat→List Int:=fN (fun out t=>if¬t.id∈out then out++[t.id]else out) [] ths
def dsF(ths:List Th):List Int:=dsT ths ths.length
theorem dsT_succ(ths:List Th)(j:Nat):dsT ths (j+1)=if¬ths[j]!.id∈dsT ths j then dsT ths j++[ths[j]!.id]else dsT ths j:=rfl
theorem dsT_nodup(ths:List Th):∀j,(dsT ths j).Nodup
 |0=>List.nodup_nil
 |j+1=>by
  rw[dsT_succ];split
  ·rename_i h;rw[List.nodup_append];exact⟨dsT_nodup ths j,by simp,fun a ha b hb e=>by grind⟩
  ·exact dsT_nodup ths j
theorem dsT_len(ths:List Th):∀j,(dsT ths j).length≤j
 |0=>Nat.le_refl _
 |j+1=>by
  have:=dsT_len ths j;grind [dsT_succ]
def stOf(ths:List Th)(o:List Tm)(en:Int):List Sg:=
 stRows (dsF ths) (stFold (dsF ths) o en o.length).1 (clk (stFold (dsF ths) o en o.length).2) (dsF ths).length
def tkF(t:Tk):Int×Nat:=(t.id,t.g)
theorem mget_tk(tm:List Tk)(x:Int):(mget (pkv (tm.map tkF)) x=none∧¬(tm.map Tk.id).idxOf x<tm.length)∨((tm.map Tk.id).idxOf x<tm.length∧mget (pkv (tm.map tkF)) x=some (.pointer (some ⟨tm[(tm.map Tk.id).idxOf x]!.g,0,none⟩))):=by
 have e:(tm.map tkF).map (·.1)=tm.map Tk.id:=by rw[List.map_map];rfl
 rcases mget_pkv (tm.map tkF) x with⟨h1,h2⟩|⟨h1,h2⟩
 ·grind
 ·rw[e,List.length_map]at h1;rw[e,map_b tkF h1]at h2;exact .inr ⟨h1,h2⟩
theorem tk_set{tm:List Tk}{i:Nat}{g:Nat}{v v':Value}{id:Int}{d d':Td}(hi:i<tm.length)(hx:tm[i]! =⟨g,v,id,d⟩):
  (tm.set i ⟨g,v',id,d'⟩).map tkF=tm.map tkF∧(tm.set i ⟨g,v',id,d'⟩).map Tk.id=tm.map Tk.id∧(tm.set i ⟨g,v',id,d'⟩).map Tk.d=(tm.map Tk.d).set i d'∧(tm.map Tk.d)[i]! =d:=by
 have h1:=map_b tkF hi;have h2:=map_b Tk.id hi;have h3:=map_b Tk.d hi;rw[hx]at h1 h2 h3;refine⟨?_,?_,?_,h3⟩
 ·rw[List.map_set];exact List.ext_getElem (by simp) fun k a b=>by
   rw[List.getElem_set];split
   ·subst k;rw[←bang_eq,h1];rfl
   ·rfl
 ·rw[List.map_set];exact List.ext_getElem (by simp) fun k a b=>by
   grind
 simp_all
def TkOk(T:List Td)(b:Nat):Prop:=∀t∈T,1≤t.cs.length∧t.cs.length≤b
theorem gapF_pos(l:Int)(cs:List Ch):1≤(gapF l cs).length:=by unfold gapF;simp
theorem evF_len(e:Tm)(n l:Int){cs:List Ch}(h:1≤cs.length):1≤(evF e n l cs).length∧(evF e n l cs).length≤cs.length+2:=by
 have q:=gapF_len l cs;have q':=gapF_pos l cs;have k:∀c:List Ch,c.length≤(evK e c).length∧(evK e c).length≤c.length+1:=by
  grind [evK]
 unfold evF;grind
theorem wakeF_len(a b:Int)(cs:List Ch):cs.length≤(wakeF a b cs).length∧(wakeF a b cs).length≤cs.length+1:=by
 grind [wakeF]
theorem mem_set_{α:Type}{l:List α}{i:Nat}{x y:α}(h:y∈l.set i x):y∈l∨y=x:=List.mem_or_eq_of_mem_set h
theorem TkOk.mono{T:List Td}{j k:Nat}(h:TkOk T j)(hk:j≤k):TkOk T k:=fun t ht=>⟨(h t ht).1,by have:=(h t ht).2;omega⟩
theorem TkOk.set{T:List Td}{j i:Nat}{d:Td}(h:TkOk T j)(h1:1≤d.cs.length)(h2:d.cs.length≤j):TkOk (T.set i d) j:=fun t ht=>(mem_set_ ht).elim (h t) fun e=>e▸⟨h1,h2⟩
theorem tk_len{tm:List Tk}{i b:Nat}{g:Nat}{v:Value}{id n l:Int}{cs:List Ch}(hb:TkOk (tm.map Tk.d) b)(hi:i<tm.length)(hx:tm[i]! =⟨g,v,id,n,l,cs⟩):1≤cs.length∧cs.length≤b:=by
 have h3:=map_b Tk.d hi;rw[hx]at h3;have hm:=mem_b (l:=tm.map Tk.d) (i:=i) (by grind);rw[h3]at hm;exact hb _ hm
theorem tk_turn{tm:List Tk}{i b b':Nat}{g:Nat}{v v':Value}{id n l:Int}{cs:List Ch}{d':Td}{ids:List Int}{S:List Td}(hi:i<tm.length)(hx:tm[i]! =⟨g,v,id,n,l,cs⟩)(hI:tm.map Tk.id=ids)(hd:tm.map Tk.d=S)(hb:TkOk (tm.map Tk.d) b)(f:Td→Td)(hf:f ⟨n,l,cs⟩=d')(h1:1≤d'.cs.length)(h2:d'.cs.length≤b')(hbb:b≤b'):
  ∃tn:List Tk,tn=tm.set i ⟨g,v',id,d'⟩∧tn.map tkF=tm.map tkF∧tn.map Tk.id=ids∧tn.map Tk.d=S.set i (f S[i]!)∧TkOk (tn.map Tk.d) b':=by
 obtain⟨e1,e2,e3,e4⟩:=tk_set (v':=v') (d':=d') hi hx;refine⟨_,rfl,e1,e2.trans hI,?_,?_⟩
 ·rw[e3,←hd,e4,hf]
 ·rw[e3];exact(hb.mono hbb).set h1 h2
theorem statesF_len(th en:Int)(cs:List Ch):(statesF th en cs).length≤cs.length:=stN_len th en cs cs.length
theorem stRows_len(ids:List Int){T:List Td}(en:Int){b:Nat}(h:TkOk T b):∀i,(stRows ids T en i).length≤b*i
 |0=>Nat.le_refl _
 |i+1=>by
  have h1:=stRows_len ids en h i;have h2:(statesF ids[i]! en T[ids.idxOf ids[i]!]!.cs).length≤b:=by
   refine Nat.le_trans (statesF_len _ _ _) ?_;by_cases q:ids.idxOf ids[i]! <T.length
   ·exact(h _ (mem_b q)).2
   ·rw[List.getElem!_eq_getElem?_getD,List.getElem?_eq_none Om];exact Nat.zero_le _
  show(stRows ids T en i++_).length≤_;grind
theorem atI_len(ids:List Int)(x:Int)(f:Td→Td)(T:List Td):(atI ids x f T).length=T.length:=by grind [atI]
def ixD(d:List Dm)(id:Int):Int:=ixP (fun x=>x.id==id) d
def dm1(d:List Dm)(i:Nat):Int:=if((d[i]!.id<0∨d[i]!.id≥8)∨d[i]!.ppm<0)∨d[i]!.ppm>10000 then 2 else if ixD (d.take i) d[i]!.id≥0 then 4 else 0
def dmsE(d:List Dm):Int:=fE (dm1 d) d.length
def rdB(n:Int):Bool:=decide (n≥0)&&decide (n≤1000000000000)
def snE(d:List Dm)(x:Sn):Int:=
 if ixD d x.a<0 then 5 else if ixD d x.b<0 then 5
 else if x.a=x.b then 1
 else if rdB x.ta=false then 2 else if rdB x.lo=false then 2 else if rdB x.hi=false then 2 else if x.lo>x.hi then 2 else 0
def ckE(d:List Dm)(l:List Sn):Int:=
 if(d.length:Int)=0 then 8
 else if(d.length:Int)>8∨(l.length:Int)>200 then 7
 else if((d[0]!.id==0)&&(d[0]!.ppm==0))=false then 10
 else if dmsE d≠0 then dmsE d
 else fE (fun i=>snE d l[i]!) l.length
def th1(ths:List Th)(i:Nat):Int:=if thE ths[i]!≠0 then thE ths[i]! else if ths[i]!.id∈(ths.take i).map (·.id)then 4 else 0
def hdE(ths:List Th)(d:List Dm)(l:List Sn):Int:=
 if(ths.length:Int)=0 then 8 else if(ths.length:Int)>64 then 7
 else if fE (th1 ths) ths.length≠0 then fE (th1 ths) ths.length
 else if ckE d l≠0 then ckE d l
 else fE (fun i=>if¬(ixP (fun x=>x.id==ths[i]!.dom) d≥0)then 5 else 0) ths.length
structure Tl where(nx la:Int)
instance:Inhabited Tl:=⟨⟨0,0⟩⟩
def tlS(ids:List Int)(T:List Tl)(p:Pk):List Tl:=T.set (ids.idxOf p.th) ⟨p.sr+p.k,p.es[p.k-1]!.at_⟩
def tlE(ids:List Int)(T:List Tl)(p:Pk):Int:=
 if pkE p≠0 then pkE p
 else if¬ids.idxOf p.th<ids.length then 5
 else if(p.sr-p.ls==T[ids.idxOf p.th]!.nx&&decide (p.es[0]!.at_≥T[ids.idxOf p.th]!.la))=false then 11 else 0
def tlN(ids:List Int)(l:List Pk)(j:Nat):List Tl:=fN (tlS ids) (ids.map fun _=>default) l j
def lch1(ids:List Int)(l:List Pk)(j:Nat):Int:=tlE ids (tlN ids l j) l[j]!
def evsum(l:List Pk)(j:Nat):Nat:=fN (fun n p=>n+p.k) 0 l j
def lchE(ids:List Int)(l:List Pk):Int:=if fE (lch1 ids l) l.length≠0 then fE (lch1 ids l) l.length else if((evsum l l.length:Nat):Int)>20000 then 7 else 0
structure TlK where(g:Nat)(id:Int)(d:Tl)
instance:Inhabited TlK:=⟨⟨0,0,default⟩⟩
def tlF(t:TlK):Int×Nat:=(t.id,t.g)
theorem tlE_at{ids:List Int}{T:List Tl}{p:Pk}{t:Tl}(hT:T[ids.idxOf p.th]! =t):tlE ids T p=if pkE p≠0 then pkE p else if¬ids.idxOf p.th<ids.length then 5 else if(p.sr-p.ls==t.nx&&decide (p.es[0]!.at_≥t.la))=false then 11 else 0:=by subst hT;rfl
theorem tl_turn{tm:List TlK}{i g:Nat}{id:Int}{d d':Tl}{ids:List Int}{S:List Tl}(hi:i<tm.length)(hx:tm[i]! =⟨g,id,d⟩)(hI:tm.map TlK.id=ids)(hd:tm.map TlK.d=S):
  ∃tn:List TlK,tn=tm.set i ⟨g,id,d'⟩∧tn.map tlF=tm.map tlF∧tn.map TlK.id=ids∧tn.map TlK.d=S.set i d':=by
 refine⟨_,rfl,map_keep tlF (y:=⟨g,id,d'⟩) hi hx rfl,(map_keep TlK.id (y:=⟨g,id,d'⟩) hi hx rfl).trans hI,?_⟩;simp_all
structure Pp where(th sr ls:Int)(es:List Ev)
instance:Inhabited Pp:=⟨⟨0,0,0,[]⟩⟩
def ppOpen(own:List Pp)(p:Pk):List Pp:=if p.ls>0∨own.length=0 then own++[⟨p.th,p.sr,p.ls,[]⟩]else own
def ppPut(own:List Pp)(p:Pk):List Pp:=
 let o:=ppOpen own p
 o.set (o.length-1) {o[o.length-1]! with es:=o[o.length-1]!.es++p.es}
def aget:List (Int×List Pp)→Int→List Pp
 |[],_=>[]
 |(k,v)::r,x=>if x=k then v else aget r x
def aset:List (Int×List Pp)→Int→List Pp→List (Int×List Pp)
 |[],x,u=>[(x,u)]
 |(k,v)::r,x,u=>if x=k then(k,u)::r else(k,v)::aset r x u
def grS(G:List (Int×List Pp))(p:Pk):List (Int×List Pp):=aset G p.th (ppPut (aget G p.th) p)
def grN(l:List Pk)(j:Nat):List (Int×List Pp):=fN grS [] l j
def lgN(ths:List Th)(l:List Pk)(j:Nat):List Pp:=fN (fun out t=>out++aget (grN l l.length) t.id) [] ths j
def lgParts(ths:List Th)(l:List Pk):List Pp:=lgN ths l ths.length
def ofE(ths:List Th)(d:List Dm)(s:List Sn)(l:List Pk):Int:=
 if hdE ths d s≠0 then hdE ths d s else lchE (ths.map (·.id)) l
def evSame(a b:Ev):Bool:=((((a.at_==b.at_&&a.kd==b.kd)&&a.nm==b.nm)&&a.n==b.n)&&a.m==b.m)&&eqW (fun x y=>x==y) a.st b.st
def ppSame(a b:Pp):Bool:=((a.th==b.th&&a.sr==b.sr)&&a.ls==b.ls)&&eqW evSame a.es b.es
def Pk.pp(p:Pk):Pp:=⟨p.th,p.sr,p.ls,p.es⟩
def pkSame(a b:Pk):Bool:=ppSame a.pp b.pp
def thSame(a b:Th):Bool:=a.id==b.id&&a.nm==b.nm&&a.dom==b.dom
def dmSame(a b:Dm):Bool:=a.id==b.id&&a.ppm==b.ppm
def snSame(a b:Sn):Bool:=a.a==b.a&&a.ta==b.ta&&a.b==b.b&&(a.lo==b.lo&&a.hi==b.hi)
def lgSame(t t':List Th)(d d':List Dm)(s s':List Sn)(l l':List Pk):Bool:=((eqW thSame t t'&&eqW dmSame d d')&&eqW snSame s s')&&eqW pkSame l l'
def lgE(ths:List Th)(d:List Dm)(s:List Sn)(l:List Pk):Int:=
 if ofE ths d s l=0∧eqW ppSame (lgParts ths l) (l.map Pk.pp)=false then 10 else ofE ths d s l
end TW
end Go.Proofs.YtaclfjjipnpboaaGreat
section
attribute [local irreducible] Go.Eng.WC Go.Eng.WL Go.Eng.WK Go.Eng.WQ Go.Eng.WX Go.Eng.Yld
namespace Go.Proofs.YtaclfjjipnpboaaGreat
open Go Go.Eng Go.RowKit
namespace TW
theorem ixI_any(A_l:Option Addr)(n_l c_l:Nat)(l:List Int)(x:Int)(w:World)(h_l:Ls w A_l n_l c_l ic 1 l):
  Cr 159 #[.slice A_l n_l c_l,.int .i64 x] w (.int .i64 (ixF l x)):=by
 have H:=(Hp.nil w);have e_l:=h_l.len;have z_l:=h_l.nle;refine Wb Tryz.func159 ?_;refine go ?_;refine sb [8,0,1,7] ?_;refine WC.loopS 1 (fun mz Ed W'=>∃j:Nat,mz=n_l-j∧Ed=[(8,.int .i64 ((j:Nat):Int))]∧Hp w W' ([])∧(j≤n_l)∧(∀k,k<j→¬x=l[k]!)) _ ⟨0,rfl,rfl,(H.pick []),(Nat.zero_le _),(fun k h=>absurd h (Nat.not_lt_zero k))⟩ ?_;rintro _ _ z ⟨j,rfl,rfl,H,jl,hp⟩;refine go ?_;refine Cd (fun p6=> ?_) fun p6=> ?_
 ·have b10:j<n_l:=Om;refine go ?_;refine Cd (fun p11=> ?_) fun p11=> ?_
  ·refine go ?_;refine Rt [_] ?_;exact⟨ret1 (vi (ixF_at Om hp p11).symm),H.ext⟩
  ·refine go ?_;exact Rs [(8,_)] Sx ⟨(j+1),rfl,rfl,(H.pick []),Om,(fun k h=>(Nat.lt_succ_iff_lt_or_eq.1 h).elim (hp k) fun e=>e▸p11)⟩
 ·refine go ?_;refine Rt [_] ?_;exact⟨ret1 (vi (if_neg (ix_no (fun k hk=>hp k Om))).symm),H.ext⟩
theorem hasI_any(A_l:Option Addr)(n_l c_l:Nat)(l:List Int)(x:Int)(w:World)(h_l:Ls w A_l n_l c_l ic 1 l):
  Cr 94 #[.slice A_l n_l c_l,.int .i64 x] w (.bool (decide (x∈l))):=by
 have H:=(Hp.nil w);have e_l:=h_l.len;have z_l:=h_l.nle;refine Wb Tryz.func94 ?_;refine G3 ?_;refine sb [0,1] ?_;refine go ?_;refine c1 H Fh (ixI_any _ _ _ _ _ _ (h_l.ext H.ext)) fun z H=> ?_;refine go ?_;refine Rt [_] ?_;exact⟨ret1 (vb ixF_ge),H.ext⟩
theorem dst_any(A_ths:Option Addr)(n_ths c_ths:Nat)(ths:List Th)(w:World)(h_ths:Ls w A_ths n_ths c_ths Th.c 3 ths)(ht:n_ths≤1000):
  Calls Tryz.prog 57 #[.slice A_ths n_ths c_ths] w fun e w'=>∃v,e= .returned v∧OwnL w' w.heap.size 3 ic 1 v (dsF ths)∧Ext w w':=by
 have H:=(Hp.nil w);have e_ths:=h_ths.len;have z_ths:=h_ths.nle;refine Wb Tryz.func57 ?_;have H:=H.nilRow 3 ic 1;refine go ?_;refine sb [8,3,6,7] ?_;refine WC.loopS 2 (fun mz Ed W'=>∃j:Nat,∃v:Value,mz=n_ths-j∧Ed=[(8,.int .i64 ((j:Nat):Int)),(3,v)]∧Hp w W' (row 3 ic 1 v (dsT ths j)::[])∧(j≤n_ths)) _ ⟨0,_,rfl,rfl,(H.pick [0]),(Nat.zero_le _)⟩ ?_;rintro _ _ z ⟨j,v,rfl,rfl,H,jl⟩;have dl:=dsT_len ths j;refine go ?_;refine Cd (fun p9=> ?_) fun p9=> ?_
 ·have b12:j<n_ths:=Om;refine go ?_;refine al H ti57 fun g13 z H=> ?_;refine st H 0 ti57 fun z H=> ?_;obtain⟨A16,n17,c18,rfl,_,_,_⟩:=H.op 1;refine go ?_;refine c1 H Fh (hasI_any _ _ _ _ _ _ (H.l 1)) fun z H=> ?_;refine go ?_;refine Cd (fun p19=> ?_) fun p19=> ?_
  ·refine go ?_;refine bs1 H u65 ti3 fun g20 z H=> ?_;refine ap H 2 0 rfl [ths[j]!.id] u65 ti3 rfl ic_one (by simp;omega) fun v22 z H=> ?_;refine go ?_;exact Rs [(8,_),(3,_)] Sx ⟨(j+1),v22,rfl,rfl,(by rw[show dsT ths (j+1)=((dsT ths j)++[ths[j]!.id])from(ite_to p19 rfl)];exact(H.pick [2])),Om⟩
  ·refine go ?_;exact Rs [(8,_),(3,_)] Sx ⟨(j+1),(.slice A16 n17 c18),rfl,rfl,(by rw[show dsT ths (j+1)=(dsT ths j)from(ite_no (fun q=>q p19) rfl)];exact(H.pick [1])),Om⟩
 ·refine G9 ?_;refine sb [2] ?_;refine go ?_;refine Rt [_] ?_;exact⟨_,rfl,(by rw[show dsF ths=dsT ths j from by unfold dsF;congr 1;omega];exact H.out 0),H.ext⟩
abbrev trkF:Tk→List Res:=fun t=>[box t.g 163 [t.v,.int .i64 t.d.n,.int .i64 t.d.l],row 206 Ch.c 5 t.v t.d.cs]
theorem stOf_any(A_ths:Option Addr)(n_ths c_ths:Nat)(ths:List Th)(A_o:Option Addr)(n_o c_o:Nat)(o:List Tm)(en:Int)(w:World)(h_ths:Ls w A_ths n_ths c_ths Th.c 3 ths)(h_o:Ls w A_o n_o c_o Tm.c 10 o)(ht:n_ths≤100)(hn:n_o≤100)(hs:∀x∈o,0≤x.sr∧x.sr≤2000000000000000):
  Calls Tryz.prog 20 #[.slice A_ths n_ths c_ths,.slice A_o n_o c_o,.int .i64 en] w fun e w'=>∃v,e= .returned v∧OwnL w' w.heap.size 113 Sg.c 7 v (stOf ths o en)∧Ext w w':=by
 have H:=(Hp.nil w);have e_ths:=h_ths.len;have z_ths:=h_ths.nle;have e_o:=h_o.len;have z_o:=h_o.nle;have dn:(dsF ths).length≤ths.length:=dsT_len ths ths.length;refine Wb Tryz.func20 ?_;refine go ?_;refine mm H fun g3 z H=> ?_;refine go ?_;refine c2 H Fh (dst_any _ _ _ _ _ (h_ths.ext H.ext) Om) fun v6 z H=> ?_;obtain⟨A10,n11,c12,rfl,_,_,_⟩:=H.op 0;have H:=H.bigNil trkF;refine go ?_;refine sb [24,1,2,7,8,22,23] ?_;refine WC.loopS 1 (fun mz Ed W'=>∃j:Nat,∃tl:List Tk,mz=(dsF ths).length-j∧Ed=[(24,.int .i64 ((j:Nat):Int))]∧Hp w W' (mpi g3 (pkv (tl.map tkF))::_::big trkF tl::[])∧(j≤(dsF ths).length)∧(tl.map Tk.id=(dsF ths).take j)∧(tl.map Tk.d=((dsF ths).take j).map fun _=>tk0)) _ ⟨0,[],rfl,rfl,(H.pick [2,1,0]),(Nat.zero_le _),rfl,rfl⟩ ?_;rintro _ _ z ⟨j,tl,rfl,rfl,H,jl,hi,hd⟩;refine go ?_;refine Cd (fun p16=> ?_) fun p16=> ?_
 ·have b19:j<n11:=Om;refine go ?_;refine bx H fun g21 z H=> ?_;have H:=H.nilRow 206 Ch.c 5;refine go ?_;refine c3 Fh (becomes_any _ _ _ _ _ _ _ _ _ _ _ _ _ (H.front [1,0]) Dc) ?_;rintro _ z ⟨v25,rfl,H⟩;refine⟨_,rfl,?_⟩;refine go ?_;refine mu H 2 u158 u3 fun z H=> ?_;have H:=H.front [0,0,2];have H:Hp w _ (big trkF (tl++[⟨g21,v25,(dsF ths)[j]!,⟨0,0,[⟨0,5,-1,-1,-1⟩]⟩⟩])::_):=Hp.bigPush trkF ⟨g21,v25,(dsF ths)[j]!,⟨0,0,[⟨0,5,-1,-1,-1⟩]⟩⟩ H;have hk:=mset_pkv_new (ks:=tl.map tkF) (x:=(dsF ths)[j]!) (by rw[show(tl.map tkF).map (·.1)=tl.map Tk.id from by rw[List.map_map];rfl,hi];exact nodup_take (dsT_nodup ths ths.length) (by show j<(dsF ths).length;omega)) g21;refine go ?_;exact Rs [(24,_)] Sx ⟨(j+1),(tl++[⟨g21,v25,(dsF ths)[j]!,⟨0,0,[⟨0,5,-1,-1,-1⟩]⟩⟩]),rfl,rfl,(by rw[List.map_append];rw[show List.map tkF [(⟨g21,v25,(dsF ths)[j]!,⟨0,0,[⟨0,5,-1,-1,-1⟩]⟩⟩:Tk)]=[((dsF ths)[j]!,g21)]from rfl,←hk];exact(H.pick [1,1,0])),Om,(by rw[List.map_append,hi,take_1 Om];rfl),(by rw[List.map_append,hd,take_1 Om,List.map_append];rfl)⟩
 ·refine G11 ?_;refine sb [2,7,8,36,37,38] ?_;refine go ?_;refine sb [38,2,7,8,36,37] ?_;refine WC.loopS 2 (fun mz Ed W'=>∃j:Nat,∃tm:List Tk,mz=n_o-j∧Ed=[(38,.int .i64 ((j:Nat):Int)),(2,.int .i64 (stFold (dsF ths) o en j).2)]∧Hp w W' (mpi g3 (pkv (tm.map tkF))::_::big trkF tm::[])∧(j≤n_o)∧(tm.map Tk.id=dsF ths)∧(tm.map Tk.d=(stFold (dsF ths) o en j).1)∧(TkOk (tm.map Tk.d) (1+3*j))) _ ⟨0,tl,rfl,rfl,(H.pick [0,0,0]),(Nat.zero_le _),(by rw[hi,List.take_of_length_le Om]),(by rw[hd,List.take_of_length_le Om];rfl),(by rw[hd];intro t ht;obtain⟨_,_,rfl⟩:=List.mem_map.1 ht;exact⟨Nat.le_refl _,Nat.le_refl _⟩)⟩ ?_;rintro _ _ z ⟨j,tm,rfl,rfl,H,jl,hi,hd,hb⟩;refine go ?_;refine Cd (fun p30=> ?_) fun p30=> ?_
  ·have b33:j<n_o:=Om;refine go ?_;refine al H ti85 fun g34 z H=> ?_;refine st H 0 ti85 fun z H=> ?_;refine go ?_;refine c1 H Fh (sttime_any o[j]! _) fun z H=> ?_;have q:=mget_tk tm o[j]!.th;rw[hi]at q;have tn_:tm.length=(dsF ths).length:=by rw[←hi,List.length_map]
   refine G9 ?_;rcases q with⟨qb,qa⟩|⟨qa,qb⟩
   ·refine yy (Yld.cast (Y.lookup rfl u158 u3 ti160 rfl rfl (fun _ h=>h▸(H.mi 1))) (by unfold mval;rw[qb];first|done|rfl)) ?_;refine G4 ?_;refine yy (Y.neqPN rfl u160 rfl) ?_;refine go ?_;refine WC.condF rfl ?_;have he:tm.map Tk.d=(atI (dsF ths) o[j]!.th (evT o[j]!) (stFold (dsF ths) o en j).1):=hd.trans (if_neg Om).symm;have hb_t1:TkOk (tm.map Tk.d) (3+3*j):=hb.mono Om;have q:=mget_tk tm o[j]!.n;rw[hi]at q;have tn2:tm.length=(dsF ths).length:=by rw[←hi,List.length_map]
    refine G7 ?_;rcases q with⟨qd,qc⟩|⟨qc,qd⟩
    ·refine yy (Yld.cast (Y.lookup rfl u158 u3 ti160 rfl rfl (fun _ h=>h▸(H.mi 1))) (by unfold mval;rw[qd];first|done|rfl)) ?_;refine G4 ?_;refine yy (Y.neqPN rfl u160 rfl) ?_;refine G5 ?_;refine yy (Y.pickF rfl rfl rfl) ?_;refine G1 ?_;refine sb [2,7,8,13,15,36,37,38,68] ?_;refine WC.condF rfl ?_;refine go ?_;exact Rs [(38,_),(2,_)] Sx ⟨(j+1),tm,rfl,rfl,(H.pick [1,1,1]),Om,hi,(he.trans (if_neg Om).symm),(hb_t1.mono Om)⟩
    ·obtain⟨⟨g42,v43,i44,n45,l46,c47⟩,hy⟩:∃x,tm[((dsF ths).idxOf o[j]!.n)]! =x:=⟨_,rfl⟩;have tl_hy:=tk_len hb_t1 qc hy;have H:=H.front [3];have H:Hp w _ (box g42 163 [v43,.int .i64 n45,.int .i64 l46]::row 206 Ch.c 5 v43 c47::hole trkF tm (((dsF ths).idxOf o[j]!.n))::_):=Hp.bigOutX trkF ⟨g42,v43,i44,n45,l46,c47⟩ hy H qc;rw[hy]at qd;refine yy (Yld.cast (Y.lookup rfl u158 u3 ti160 rfl rfl (fun _ h=>h▸(H.mi 4))) (by unfold mval;rw[qd];first|done|rfl)) ?_;refine G4 ?_;refine yy (Y.neqPS rfl u160 rfl) ?_;refine G5 ?_;refine yy (Y.pickT rfl rfl rfl) ?_;refine go ?_;refine Cd (fun p52=> ?_) fun p52=> ?_
     ·refine Xr H (HpC w _) (.load 0 (.load 1 (.load 3 (.load 4 (.load 5 (.alt 2 (.alt 6 (.fin) (.none)) (.none))))))) (H.pick [2,2,2,2]) fun z H=> ?_;refine go ?_;refine c1X (H.pick [2,2,2,2]) H Fh (sttime_any o[j]! _) fun z H=> ?_;refine c3X (H.pick [2,2,2,2]) Fh (wake_any _ _ _ _ _ _ _ _ _ _ (H.front [0,0]) Om Om) ?_;rintro _ z ⟨v53,rfl,H⟩;refine⟨_,rfl,?_⟩;refine WX.nil (H.pick [2,2,2,2]) ?_;obtain⟨t2,ht,h1,hi_t2,hd_t2,hb_t2⟩:=tk_turn (v':=v53) (d':=⟨n45,l46,wakeF (clk o[j]!.lo) o[j]!.th c47⟩) (b':=(4+3*j)) qc hy hi he hb_t1 (wkT o[j]!) rfl (Nat.le_trans tl_hy.1 (wakeF_len _ _ _).1) (by have:=(wakeF_len (clk o[j]!.lo) o[j]!.th c47).2;show(wakeF _ _ _).length≤_;omega) Om;have H:Hp w _ (big trkF (tm.set (((dsF ths).idxOf o[j]!.n)) ⟨g42,v53,i44,⟨n45,l46,wakeF (clk o[j]!.lo) o[j]!.th c47⟩⟩)::_):=Hp.bigIn trkF ⟨g42,v53,i44,⟨n45,l46,wakeF (clk o[j]!.lo) o[j]!.th c47⟩⟩ H qc;rw[←ht,←h1]at H;refine go ?_;exact Rs [(38,_),(2,_)] Sx ⟨(j+1),t2,rfl,rfl,(H.pick [2,2,0]),Om,hi_t2,(hd_t2.trans ((if_pos Om).trans (if_pos p52)).symm),(hb_t2.mono Om)⟩
     ·have H:Hp w _ (big trkF tm::_):=Hp.bigBack trkF ⟨g42,v43,i44,n45,l46,c47⟩ hy H qc;refine go ?_;exact Rs [(38,_),(2,_)] Sx ⟨(j+1),tm,rfl,rfl,(H.pick [2,2,0]),Om,hi,(he.trans ((if_pos Om).trans (if_neg p52)).symm),(hb_t1.mono Om)⟩
   ·obtain⟨⟨g54,v55,i56,n57,l58,c59⟩,hx⟩:∃x,tm[((dsF ths).idxOf o[j]!.th)]! =x:=⟨_,rfl⟩;have tl_hx:=tk_len hb qa hx;have H:=H.front [3];have H:Hp w _ (box g54 163 [v55,.int .i64 n57,.int .i64 l58]::row 206 Ch.c 5 v55 c59::hole trkF tm (((dsF ths).idxOf o[j]!.th))::_):=Hp.bigOutX trkF ⟨g54,v55,i56,n57,l58,c59⟩ hx H qa;rw[hx]at qb;have es:=hs _ (mem_b (show j<o.length by omega));refine yy (Yld.cast (Y.lookup rfl u158 u3 ti160 rfl rfl (fun _ h=>h▸(H.mi 4))) (by unfold mval;rw[qb];first|done|rfl)) ?_;refine G4 ?_;refine yy (Y.neqPS rfl u160 rfl) ?_;refine go ?_;refine WC.condT rfl ?_;refine go ?_;refine c3 Fh (stevent_any _ _ _ _ _ _ _ _ _ (H.front [0,0]) Om Om) ?_;rintro _ z ⟨v64,rfl,H⟩;refine⟨_,rfl,?_⟩;obtain⟨t1,ht,h1,hi_t1,hd_t1,hb_t1⟩:=tk_turn (v':=v64) (d':=⟨o[j]!.sr+1,clk o[j]!.lo,evF o[j]! n57 l58 c59⟩) (b':=(3+3*j)) qa hx hi hd hb (evT o[j]!) rfl (evF_len _ _ _ tl_hx.1).1 (by have:=(evF_len o[j]! n57 l58 tl_hx.1).2;show(evF _ _ _ _).length≤_;omega) Om;have H:Hp w _ (big trkF (tm.set (((dsF ths).idxOf o[j]!.th)) ⟨g54,v64,i56,⟨o[j]!.sr+1,clk o[j]!.lo,evF o[j]! n57 l58 c59⟩⟩)::_):=Hp.bigIn trkF ⟨g54,v64,i56,⟨o[j]!.sr+1,clk o[j]!.lo,evF o[j]! n57 l58 c59⟩⟩ H qa;rw[←ht,←h1]at H;have he:t1.map Tk.d=(atI (dsF ths) o[j]!.th (evT o[j]!) (stFold (dsF ths) o en j).1):=hd_t1.trans (if_pos Om).symm;have q:=mget_tk t1 o[j]!.n;rw[hi_t1]at q;have tn2:t1.length=(dsF ths).length:=by rw[←hi_t1,List.length_map]
    refine G1 ?_;refine sb [2,7,8,13,36,37,38] ?_;refine G5 ?_;rcases q with⟨qd,qc⟩|⟨qc,qd⟩
    ·refine yy (Yld.cast (Y.lookup rfl u158 u3 ti160 rfl rfl (fun _ h=>h▸(H.mi 2))) (by unfold mval;rw[qd];first|done|rfl)) ?_;refine G4 ?_;refine yy (Y.neqPN rfl u160 rfl) ?_;refine G5 ?_;refine yy (Y.pickF rfl rfl rfl) ?_;refine go ?_;refine WC.condF rfl ?_;refine go ?_;exact Rs [(38,_),(2,_)] Sx ⟨(j+1),t1,rfl,rfl,(H.pick [2,2,0]),Om,hi_t1,(he.trans (if_neg Om).symm),(hb_t1.mono Om)⟩
    ·obtain⟨⟨g67,v68,i69,n70,l71,c72⟩,hy⟩:∃x,t1[((dsF ths).idxOf o[j]!.n)]! =x:=⟨_,rfl⟩;have tl_hy:=tk_len hb_t1 qc hy;have H:Hp w _ (box g67 163 [v68,.int .i64 n70,.int .i64 l71]::row 206 Ch.c 5 v68 c72::hole trkF t1 (((dsF ths).idxOf o[j]!.n))::_):=Hp.bigOutX trkF ⟨g67,v68,i69,n70,l71,c72⟩ hy H qc;rw[hy]at qd;refine yy (Yld.cast (Y.lookup rfl u158 u3 ti160 rfl rfl (fun _ h=>h▸(H.mi 4))) (by unfold mval;rw[qd];first|done|rfl)) ?_;refine G4 ?_;refine yy (Y.neqPS rfl u160 rfl) ?_;refine G5 ?_;refine yy (Y.pickT rfl rfl rfl) ?_;refine go ?_;refine Cd (fun p77=> ?_) fun p77=> ?_
     ·refine Xr H (HpC w _) (.load 0 (.load 1 (.load 3 (.load 4 (.load 5 (.alt 2 (.alt 6 (.fin) (.none)) (.none))))))) (H.pick [2,2,2,2]) fun z H=> ?_;refine go ?_;refine c1X (H.pick [2,2,2,2]) H Fh (sttime_any o[j]! _) fun z H=> ?_;refine c3X (H.pick [2,2,2,2]) Fh (wake_any _ _ _ _ _ _ _ _ _ _ (H.front [0,0]) Om Om) ?_;rintro _ z ⟨v78,rfl,H⟩;refine⟨_,rfl,?_⟩;refine WX.nil (H.pick [2,2,2,2]) ?_;obtain⟨t2,ht,h1,hi_t2,hd_t2,hb_t2⟩:=tk_turn (v':=v78) (d':=⟨n70,l71,wakeF (clk o[j]!.lo) o[j]!.th c72⟩) (b':=(4+3*j)) qc hy hi_t1 he hb_t1 (wkT o[j]!) rfl (Nat.le_trans tl_hy.1 (wakeF_len _ _ _).1) (by have:=(wakeF_len (clk o[j]!.lo) o[j]!.th c72).2;show(wakeF _ _ _).length≤_;omega) Om;have H:Hp w _ (big trkF (t1.set (((dsF ths).idxOf o[j]!.n)) ⟨g67,v78,i69,⟨n70,l71,wakeF (clk o[j]!.lo) o[j]!.th c72⟩⟩)::_):=Hp.bigIn trkF ⟨g67,v78,i69,⟨n70,l71,wakeF (clk o[j]!.lo) o[j]!.th c72⟩⟩ H qc;rw[←ht,←h1]at H;refine G2 ?_;refine sb [2,7,8,36,37,38] ?_;refine go ?_;exact Rs [(38,_),(2,_)] Sx ⟨(j+1),t2,rfl,rfl,(H.pick [2,2,0]),Om,hi_t2,(hd_t2.trans ((if_pos Om).trans (if_pos p77)).symm),(hb_t2.mono Om)⟩
     ·have H:Hp w _ (big trkF t1::_):=Hp.bigBack trkF ⟨g67,v68,i69,n70,l71,c72⟩ hy H qc;refine go ?_;exact Rs [(38,_),(2,_)] Sx ⟨(j+1),t1,rfl,rfl,(H.pick [2,2,0]),Om,hi_t1,(he.trans ((if_pos Om).trans (if_neg p77)).symm),(hb_t1.mono Om)⟩
  ·obtain rfl:j=o.length:=Om;have H:=H.nilRow 113 Sg.c 7;refine go ?_;refine sb [82,16,2,7,80,81] ?_;refine WC.loopS 2 (fun mz Ed W'=>∃i:Nat,∃v:Value,mz=(dsF ths).length-i∧Ed=[(82,.int .i64 ((i:Nat):Int)),(16,v)]∧Hp w W' (_::_::_::row 113 Sg.c 7 v (stRows (dsF ths) (stFold (dsF ths) o en o.length).1 (clk (stFold (dsF ths) o en o.length).2) i)::[])∧(i≤(dsF ths).length)) _ ⟨0,_,rfl,rfl,(H.pick [1,1,1,0]),(Nat.zero_le _)⟩ ?_;rintro _ _ z ⟨i,v,rfl,rfl,H,il⟩;have rl:=stRows_len (dsF ths) (clk (stFold (dsF ths) o en o.length).2) (hd▸hb.mono (show 1+3*o.length≤301 by omega)) i;refine go ?_;refine Cd (fun p87=> ?_) fun p87=> ?_
   ·have b90:i<n11:=Om;have q:=mget_tk tm (dsF ths)[i]!;rw[hi]at q;have tn_:tm.length=(dsF ths).length:=by rw[←hi,List.length_map]
    have qa:(dsF ths).idxOf (dsF ths)[i]! <tm.length:=by rw[tn_];exact List.idxOf_lt_length_iff.2 (mem_b Om)
    have qb:=(q.resolve_left fun h=>h.2 qa).2;obtain⟨⟨g91,v92,i93,n94,l95,c96⟩,hx⟩:∃x,tm[((dsF ths).idxOf (dsF ths)[i]!)]! =x:=⟨_,rfl⟩;have tl_hx:=tk_len hb qa hx;have H:=H.front [2];have H:Hp w _ (box g91 163 [v92,.int .i64 n94,.int .i64 l95]::row 206 Ch.c 5 v92 c96::hole trkF tm (((dsF ths).idxOf (dsF ths)[i]!))::_):=Hp.bigOutX trkF ⟨g91,v92,i93,n94,l95,c96⟩ hx H qa;rw[hx]at qb;refine G13 ?_;refine yy (Yld.cast (Y.lookup rfl u158 u3 ti160 rfl rfl (fun _ h=>h▸(H.mi 3))) (by unfold mval;rw[qb];first|done|rfl)) ?_;obtain⟨A100,n101,c102,rfl,_,_,_⟩:=H.op 1;refine go ?_;refine c2 H Fh (states_any _ _ _ _ _ _ _ _ _ _ (H.b 0) (H.l 1) Om) fun v103 z H=> ?_;obtain⟨A106,n107,c108,rfl,_,_,_⟩:=H.op 0;refine apl H 6 rfl (H.l 0) u35 ti113 Sg.one (room_le rl (Nat.le_trans (statesF_len _ _ _) tl_hx.2) Om) fun v105 z H=> ?_;have H:=H.front [1,1,1];have H:Hp w _ (big trkF tm::_):=Hp.bigBack trkF ⟨g91,(.slice A100 n101 c102),i93,n94,l95,c96⟩ hx H qa;have eT:(stFold (dsF ths) o en o.length).1[(dsF ths).idxOf (dsF ths)[i]!]!.cs=c96:=by rw[←hd,map_b Tk.d qa,hx]
    refine go ?_;exact Rs [(82,_),(16,_)] Sx ⟨(i+1),v105,rfl,rfl,(by rw[show stRows (dsF ths) (stFold (dsF ths) o en o.length).1 (clk (stFold (dsF ths) o en o.length).2) (i+1)=stRows (dsF ths) (stFold (dsF ths) o en o.length).1 (clk (stFold (dsF ths) o en o.length).2) i++statesF _ _ _ from rfl,eT];exact(H.pick [2,2,0,1])),Om⟩
   ·refine go ?_;refine Rt [_] ?_;exact⟨_,rfl,(by rw[show stOf ths o en=stRows (dsF ths) (stFold (dsF ths) o en o.length).1 (clk (stFold (dsF ths) o en o.length).2) i from by unfold stOf;congr 1;omega];exact H.out 3),H.ext⟩
end TW
end Go.Proofs.YtaclfjjipnpboaaGreat
end
section
attribute [local irreducible] Go.Eng.WC Go.Eng.WL Go.Eng.WK Go.Eng.WQ Go.Eng.WX Go.Eng.Yld
namespace Go.Proofs.YtaclfjjipnpboaaGreat
open Go Go.Eng Go.RowKit
def Tryz.lays216_ren:Go.Shelf.Ren:=⟨fun|137=>216|217=>249|266=>269|n=>n,fun|9=>9|5=>5|3=>3|n=>n,fun|n=>n⟩
theorem Tryz.lays216:Go.Proofs.Lays.n137 Tryz.prog Tryz.lays216_ren:={
 mixed:=by kernel_rfl
 f137:=Tryz.func216.trans (congrArg some (by kernel_rfl))
 f217:=Tryz.func249.trans (congrArg some (by kernel_rfl))
 f266:=Tryz.func269.trans (congrArg some (by kernel_rfl))
 t3:=Tryz.underlying3
 a3:=Tryz.isAgg3
 z3:=Tryz.sizeOf3
 v3:=Tryz.zeroValue3
 t5:=Tryz.underlying5
 a5:=Tryz.isAgg5
 z5:=Tryz.sizeOf5
 v5:=Tryz.zeroValue5
 t9:=Tryz.underlying9
 a9:=Tryz.isAgg9
 z9:=Tryz.sizeOf9
 v9:=Tryz.zeroValue9}
namespace TW
open Go.Shelf Go.Proofs
theorem indexByte_any(c:Int)(w:World):Cr 216 #[.string ⟨#[95,46,58,47,60,62,36,42,126,45]⟩,.int .u8 c] w (.int .i64 (ixB c)):=
 (Any.strings_IndexByte Tryz.lays216 signs c w).mono fun e w' ⟨he,hw⟩=>⟨he,by subst hw;exact Ext.refl _⟩
theorem letter_any(c:Int)(w:World)(hc:0≤c∧c≤255):
  Cr 177 #[.int .u8 c] w (.bool (letB c)):=by
 have H:=(Hp.nil w);refine Wb Tryz.func177 ?_;refine G14 ?_;refine WL.yldGs [(_,_)] rfl (blt rfl) rfl rfl rfl (fun hb=>Y.move rfl rfl) ?_;refine WL.yldGs [(_,_)] rfl (blt rfl) rfl rfl rfl (fun hb=>Y.leq rfl (evg (evg rfl hb.1) hb.2.1) rfl) ?_;refine G6 ?_;refine WL.yldGs [(_,_)] rfl (blt rfl) rfl rfl rfl (fun hb=>Y.move rfl rfl) ?_;refine WL.yldGs [(_,_)] rfl (blt rfl) rfl rfl rfl (fun hb=>Y.leq rfl (evg (evg rfl hb.1) hb.2.1) rfl) ?_;refine G4 ?_;refine WL.callG rfl (blt rfl) rfl rfl rfl rfl rfl Fh (fun hb=>(evs_cons rfl (evs_cons (evg rfl hb) evs_nil))) (fun hb=>indexByte_any _ _) (fun z x=> ?_);have H:=H.ex x;refine go ?_;refine Rt [_] ?_;exact⟨ret1 (vb (let_ix hc)),H.ext⟩
theorem name_any(s:ByteArray)(w:World):
  Cr 133 #[.string s] w (.int .i64 (nmF s)):=by
 have H:=(Hp.nil w);refine Wb Tryz.func133 ?_;refine G9 ?_;refine yg (fun hb=>Y.lenStr rfl rfl rfl u9 (evs_cons (evg rfl hb) evs_nil)) ?_;refine G3 ?_;refine sb [0,10] ?_;refine Cd (fun p4=> ?_) fun p4=> ?_
 ·refine go ?_;refine Rt [_] ?_;exact⟨ret1 (vi (Eq.symm (ite_to p4 rfl))),H.ext⟩
 ·refine G5 ?_;refine yy (Y.lenStr rfl rfl rfl u9 rfl) ?_;refine go ?_;refine sb [13,0,12] ?_;refine WC.loopS 1 (fun mz Ed W'=>∃j:Nat,mz=s.size-j∧Ed=[(13,.int .i64 ((j:Nat):Int))]∧Hp w W' ([])∧(j≤s.size)∧(fE (fun i=>if letB (bat s i)=true then 0 else 3) j=0)) _ ⟨0,rfl,rfl,(H.pick []),(Nat.zero_le _),rfl⟩ ?_;rintro _ _ z ⟨j,rfl,rfl,H,jl,hp⟩;refine go ?_;refine Cd (fun p10=> ?_) fun p10=> ?_
  ·have b14:j<s.size:=Om;refine G11 ?_;refine yy (Y.indexStr j rfl u9 rfl rfl rfl b14) ?_;refine c1 H Fh (letter_any _ _ (bat_rng _ _)) fun z H=> ?_;refine go ?_;refine WC.cond rfl (fun h15=> ?_) (fun h15=> ?_)
   ·refine go ?_;refine Rt [_] ?_;exact⟨ret1 (vi (Eq.symm (ite_no (fun q=>q.elim p4.1 p4.2) (fE_ret hp (if_f (not_t h15)) Dc Om)))),H.ext⟩
   ·refine go ?_;exact Rs [(13,_)] Sx ⟨(j+1),rfl,rfl,(H.pick []),Om,(fE_next hp (if_pos (not_f h15)))⟩
  ·refine go ?_;refine Rt [_] ?_;exact⟨ret1 (vi (Eq.symm (ite_no (fun q=>q.elim p4.1 p4.2) (fE_end hp Om)))),H.ext⟩
theorem frames_any(A_l:Option Addr)(n_l c_l:Nat)(l:List ByteArray)(w:World)(h_l:Ls w A_l n_l c_l sc 1 l):
  Cr 81 #[.slice A_l n_l c_l] w (.int .i64 (frF l)):=by
 have H:=(Hp.nil w);have e_l:=h_l.len;have z_l:=h_l.nle;refine Wb Tryz.func81 ?_;refine G9 ?_;refine sb [0,8] ?_;refine Cd (fun p4=> ?_) fun p4=> ?_
 ·refine go ?_;refine Rt [_] ?_;subst e_l;exact⟨ret1 (vi (Eq.symm (ite_to p4 rfl))),H.ext⟩
 ·refine go ?_;refine sb [11,9,10] ?_;refine WC.loopS 1 (fun mz Ed W'=>∃j:Nat,mz=n_l-j∧Ed=[(11,.int .i64 ((j:Nat):Int))]∧Hp w W' ([])∧(j≤n_l)∧(fE (fun i=>nmF l[i]!) j=0)) _ ⟨0,rfl,rfl,(H.pick []),(Nat.zero_le _),rfl⟩ ?_;rintro _ _ z ⟨j,rfl,rfl,H,jl,hp⟩;refine go ?_;refine Cd (fun p10=> ?_) fun p10=> ?_
  ·have b13:j<n_l:=Om;refine go ?_;refine c1 H Fh (name_any _ _) fun z H=> ?_;refine go ?_;refine Cd (fun p16=> ?_) fun p16=> ?_
   ·refine go ?_;refine Rt [_] ?_;subst e_l;exact⟨ret1 (vi (Eq.symm (ite_no p4 (fE_ret hp rfl p16 Om)))),H.ext⟩
   ·refine go ?_;exact Rs [(11,_)] Sx ⟨(j+1),rfl,rfl,(H.pick []),Om,(fE_next hp (Decidable.of_not_not (fun q=>q p16)))⟩
  ·refine go ?_;refine Rt [_] ?_;subst e_l;exact⟨ret1 (vi (Eq.symm (ite_no p4 (fE_end hp Om)))),H.ext⟩
theorem forms_any(W:World)(R:List Res)(w:World)(H:Hp W w R):
  Calls Tryz.prog 306 #[] w fun e w'=>∃g,e= .returned (.slice (some ⟨g,0,none⟩) 13 13)∧Hp W w' (box g 410 (formsL.flatMap Fm.c)::R):=by
 refine Wb Tryz.func306 ?_;refine go ?_;refine bs (zs:=[.string ⟨#[]⟩,.bool false,.bool false,.bool false,.bool false,.int .i64 0,.int .i64 0,.int .i64 0,.int .i64 0,.string ⟨#[]⟩,.bool false,.bool false,.bool false,.bool false,.int .i64 0,.int .i64 0,.int .i64 0,.int .i64 0,.string ⟨#[]⟩,.bool false,.bool false,.bool false,.bool false,.int .i64 0,.int .i64 0,.int .i64 0,.int .i64 0,.string ⟨#[]⟩,.bool false,.bool false,.bool false,.bool false,.int .i64 0,.int .i64 0,.int .i64 0,.int .i64 0,.string ⟨#[]⟩,.bool false,.bool false,.bool false,.bool false,.int .i64 0,.int .i64 0,.int .i64 0,.int .i64 0,.string ⟨#[]⟩,.bool false,.bool false,.bool false,.bool false,.int .i64 0,.int .i64 0,.int .i64 0,.int .i64 0,.string ⟨#[]⟩,.bool false,.bool false,.bool false,.bool false,.int .i64 0,.int .i64 0,.int .i64 0,.int .i64 0,.string ⟨#[]⟩,.bool false,.bool false,.bool false,.bool false,.int .i64 0,.int .i64 0,.int .i64 0,.int .i64 0,.string ⟨#[]⟩,.bool false,.bool false,.bool false,.bool false,.int .i64 0,.int .i64 0,.int .i64 0,.int .i64 0,.string ⟨#[]⟩,.bool false,.bool false,.bool false,.bool false,.int .i64 0,.int .i64 0,.int .i64 0,.int .i64 0,.string ⟨#[]⟩,.bool false,.bool false,.bool false,.bool false,.int .i64 0,.int .i64 0,.int .i64 0,.int .i64 0,.string ⟨#[]⟩,.bool false,.bool false,.bool false,.bool false,.int .i64 0,.int .i64 0,.int .i64 0,.int .i64 0,.string ⟨#[]⟩,.bool false,.bool false,.bool false,.bool false,.int .i64 0,.int .i64 0,.int .i64 0,.int .i64 0]) (cs:=[_,_,_,_,_,_,_,_,_,_,_,_,_,_,_,_,_,_,_,_,_,_,_,_,_,_,_,_,_,_,_,_,_,_,_,_,_,_,_,_,_,_,_,_,_,_,_,_,_,_,_,_,_,_,_,_,_,_,_,_,_,_,_,_,_,_,_,_,_,_,_,_,_,_,_,_,_,_,_,_,_,_,_,_,_,_,_,_,_,_,_,_,_,_,_,_,_,_,_,_,_,_,_,_,_,_,_,_,_,_,_,_,_,_,_,_,_]) H u414 ti410 fun g4 z H=> ?_;refine G2 ?_;refine sb [0] ?_;refine go ?_;refine Rt [_] ?_;exact⟨_,rfl,H⟩
theorem formOf_any(k:Int)(w:World):
  Cr 304 #[.int .i64 k] w (.tuple #[.agg #[.string (formF k).word,.bool (formF k).nm,.bool (formF k).n,.bool (formF k).m,.bool (formF k).st,.int .i64 (formF k).lo,.int .i64 (formF k).hi,.int .i64 (formF k).mlo,.int .i64 (formF k).mhi],.bool (fmOk k)]):=by
 have H:=(Hp.nil w);refine Wb Tryz.func304 ?_;refine go ?_;refine al H ti410 fun g2 z H=> ?_;refine go ?_;refine c3 Fh (forms_any _ _ _ (H.front [])) ?_;rintro _ z ⟨g5,rfl,H⟩;refine⟨_,rfl,?_⟩;refine go ?_;refine Cd (fun p9=> ?_) fun p9=> ?_
 ·refine go ?_;refine st H 1 ti410 fun z H=> ?_;refine go ?_;refine WK.ret [_,_] rfl ⟨⟨_,rfl,run_loadVar_blk u410 rfl ti410 (H.b 1)⟩,rfl,trivial⟩ ?_;exact⟨(show _=_ from by rw[formF_out p9,fmOk_out p9];rfl),H.ext⟩
 ·have b12:k.toNat<13:=Om;refine G5 ?_;refine yy (Y.indexLs k.toNat (Ls.lit (f:=Fm.c) (sz:=9) (l:=formsL) (H.b 0) (fun _=>rfl) rfl (by first|decide|exact(show 13≤maxLen by decide)) rfl) rfl u414 ti410 rfl rfl Om b12) ?_;refine yy (Y.loadS (cs:=[_,_,_,_,_,_,_,_,_]) rfl u410 rfl ti410 rfl (Ls.part_eq (Ls.lit (f:=Fm.c) (sz:=9) (l:=formsL) (H.b 0) (fun _=>rfl) rfl (by first|decide|exact(show 13≤maxLen by decide)) rfl) b12 rfl)) ?_;refine st H 1 ti410 fun z H=> ?_;refine go ?_;refine WK.ret [_,_] rfl ⟨⟨_,rfl,run_loadVar_blk u410 rfl ti410 (H.b 1)⟩,rfl,trivial⟩ ?_;exact⟨(show _=_ from by rw[formF_in Om Om,fmOk_in Om Om];rfl),H.ext⟩
theorem names_any(f:Fm)(x:Ev)(w:World)(h_x:Ls w x.A x.k x.c_ sc 1 x.st):
  Cr 305 #[.agg #[.string f.word,.bool f.nm,.bool f.n,.bool f.m,.bool f.st,.int .i64 f.lo,.int .i64 f.hi,.int .i64 f.mlo,.int .i64 f.mhi],.agg #[.int .i64 x.at_,.int .i64 x.kd,.string x.nm,.int .i64 x.n,.int .i64 x.m,.slice x.A x.k x.c_]] w (.int .i64 (if f.nm=true then nmF x.nm else frF x.st)):=by
 have H:=(Hp.nil w);have e_x:=h_x.len;have z_x:=h_x.nle;refine Wb Tryz.func305 ?_;refine go ?_;refine bx H fun g2 z H=> ?_;refine bx H fun g4 z H=> ?_;refine go ?_;refine WC.cond rfl (fun h8=> ?_) (fun h8=> ?_)
 ·refine go ?_;refine c1 H Fh (name_any _ _) fun z H=> ?_;refine G2 ?_;refine sb [4] ?_;refine go ?_;refine Rt [_] ?_;exact⟨ret1 (vi (Eq.symm (ite_to h8 rfl))),H.ext⟩
 ·refine go ?_;refine c1 H Fh (frames_any _ _ _ _ _ (h_x.ext H.ext)) fun z H=> ?_;refine go ?_;refine Rt [_] ?_;exact⟨ret1 (vi (Eq.symm (ite_no (nt_f h8) rfl))),H.ext⟩
theorem evcheck_any(x:Ev)(w:World)(h_x:Ls w x.A x.k x.c_ sc 1 x.st):
  Cr 303 #[.agg #[.int .i64 x.at_,.int .i64 x.kd,.string x.nm,.int .i64 x.n,.int .i64 x.m,.slice x.A x.k x.c_]] w (.int .i64 (evE x)):=by
 have H:=(Hp.nil w);have e_x:=h_x.len;have z_x:=h_x.nle;refine Wb Tryz.func303 ?_;refine go ?_;refine bx H fun g2 z H=> ?_;refine go ?_;refine Cd (fun p6=> ?_) fun p6=> ?_
 ·refine go ?_;refine Rt [_] ?_;exact⟨ret1 (vi (Eq.symm (ite_to p6 rfl))),H.ext⟩
 ·refine go ?_;refine c1 H Fh (formOf_any _ _) fun z H=> ?_;refine go ?_;refine al H ti410 fun g9 z H=> ?_;refine st H 0 ti410 fun z H=> ?_;refine G2 ?_;refine sb [1,3,4] ?_;refine G9 ?_;refine WL.yldGs [(_,_)] rfl (blt rfl) rfl rfl rfl (fun hb=>Y.fieldAddr rfl u81 rfl ti9 Dc rfl) ?_;refine WL.yldGs [(_,_)] rfl (blt rfl) rfl rfl rfl (fun hb=>Y.load1 rfl u9 rfl (evg (evg rfl hb.1) hb.2.1) (Blk.at_eq (H.b 1) rfl)) ?_;refine WL.yldGs [(_,_)] rfl (blt rfl) rfl rfl rfl (fun hb=>Y.neqStr rfl (evg (evg rfl hb.1) hb.2.1) rfl) ?_;refine G7 ?_;refine WL.yldGs [(_,_)] rfl (blt rfl) rfl rfl rfl (fun hb=>Y.fieldAddr rfl u81 rfl ti3 Dc rfl) ?_;refine WL.yldGs [(_,_)] rfl (blt rfl) rfl rfl rfl (fun hb=>Y.load1 rfl u3 rfl (evg (evg rfl hb.1) hb.2.1) (Blk.at_eq (H.b 1) rfl)) ?_;refine WL.yldGs [(_,_)] rfl (blt rfl) rfl rfl rfl (fun hb=>Y.neq rfl (evg (evg rfl hb.1) hb.2.1) rfl) ?_;refine G7 ?_;refine WL.yldGs [(_,_)] rfl (blt rfl) rfl rfl rfl (fun hb=>Y.fieldAddr rfl u81 rfl ti3 Dc rfl) ?_;refine WL.yldGs [(_,_)] rfl (blt rfl) rfl rfl rfl (fun hb=>Y.load1 rfl u3 rfl (evg (evg rfl hb.1) hb.2.1) (Blk.at_eq (H.b 1) rfl)) ?_;refine WL.yldGs [(_,_)] rfl (blt rfl) rfl rfl rfl (fun hb=>Y.neq rfl (evg (evg rfl hb.1) hb.2.1) rfl) ?_;refine G7 ?_;refine WL.yldGs [(_,_)] rfl (blt rfl) rfl rfl rfl (fun hb=>Y.fieldAddr rfl u81 rfl ti51 Dc rfl) ?_;refine WL.yldGs [(_,_)] rfl (blt rfl) rfl rfl rfl (fun hb=>Y.load1 rfl u51 rfl (evg (evg rfl hb.1) hb.2.1) (Blk.at_eq (H.b 1) rfl)) ?_;refine WL.yldGs [(_,_)] rfl (blt rfl) rfl rfl rfl (fun hb=>Y.lenSl rfl rfl rfl u51 (evs_cons (evg (evg rfl hb.1) hb.2.1) evs_nil)) ?_;refine WL.yldGs [(_,_)] rfl (blt rfl) rfl rfl rfl (fun hb=>Y.gtr rfl (evg (evg rfl hb.1) hb.2.1) rfl) ?_;refine go ?_;refine WC.cond rfl (fun h13=> ?_) (fun h13=> ?_)
  ·have p13:=((or_t h13).imp (fun h=>((or_t h).imp (fun h=>((or_t h).imp (fun h=>((or_t h).imp (fun h=>h) (fun h=>(beqB_ne.1 (not_t (and_t h).2))))) (fun h=>(eq_f (not_t (and_t h).2))))) (fun h=>(eq_f (not_t (and_t h).2))))) (fun h=>(dec_t (and_t h).2)));refine go ?_;refine Rt [_] ?_;exact⟨ret1 (vi (Eq.symm (ite_no (fun q=>q.elim p6.1 p6.2) (ite_to ((or_t h13).imp (fun h=>((or_t h).imp (fun h=>((or_t h).imp (fun h=>((or_t h).imp (fun h=>(not_t h)) (fun h=>⟨(not_t (and_t h).1),(beqB_ne.1 (not_t (and_t h).2))⟩))) (fun h=>⟨(not_t (and_t h).1),(eq_f (not_t (and_t h).2))⟩))) (fun h=>⟨(not_t (and_t h).1),(eq_f (not_t (and_t h).2))⟩))) (fun h=>⟨(not_t (and_t h).1),(dec_t (and_t h).2)⟩)) rfl)))),H.ext⟩
  ·have p13:=(And.intro (And.intro (And.intro ((and_f (or_f (or_f (or_f (or_f h13).1).1).1).2).imp (fun h=>h) (fun h=>(beqB_eq.1 (not_f h)))) ((and_f (or_f (or_f (or_f h13).1).1).2).imp (fun h=>h) (fun h=>(eq_t (not_f h))))) ((and_f (or_f (or_f h13).1).2).imp (fun h=>h) (fun h=>(eq_t (not_f h))))) ((and_f (or_f h13).2).imp (fun h=>h) (fun h=>(dec_f h))));refine G2 ?_;refine sb [1,3] ?_;refine go ?_;refine c1 H Fh (names_any (formF x.kd) x _ (h_x.ext H.ext)) fun z H=> ?_;refine go ?_;refine Cd (fun p18=> ?_) fun p18=> ?_
   ·refine go ?_;refine Rt [_] ?_;exact⟨ret1 (vi (Eq.symm (ite_no (fun q=>q.elim p6.1 p6.2) (ite_no (fun q=>q.elim (fun q=>q.elim (fun q=>q.elim (fun q=>q.elim (nf_t (not_f (or_f (or_f (or_f (or_f h13).1).1).1).1)) (fun q=>(and_f (or_f (or_f (or_f (or_f h13).1).1).1).2).elim (fun h=>(nf_t (not_f h)) q.1) (fun h=>(fun q=>q (beqB_eq.1 (not_f h))) q.2))) (fun q=>(and_f (or_f (or_f (or_f h13).1).1).2).elim (fun h=>(nf_t (not_f h)) q.1) (fun h=>(fun q=>q (eq_t (not_f h))) q.2))) (fun q=>(and_f (or_f (or_f h13).1).2).elim (fun h=>(nf_t (not_f h)) q.1) (fun h=>(fun q=>q (eq_t (not_f h))) q.2))) (fun q=>(and_f (or_f h13).2).elim (fun h=>(nf_t (not_f h)) q.1) (fun h=>(dec_f h) q.2))) (ite_to p18 rfl))))),H.ext⟩
   ·refine G14 ?_;refine WL.yldGs [(_,_)] rfl (blt rfl) rfl rfl rfl (fun hb=>Y.fieldAddr rfl u81 rfl ti3 Dc rfl) ?_;refine WL.yldGs [(_,_)] rfl (blt rfl) rfl rfl rfl (fun hb=>Y.load1 rfl u3 rfl (evg (evg rfl hb.1) hb.2.1) (Blk.at_eq (H.b 1) rfl)) ?_;refine WL.yldGs [(_,_)] rfl (blt rfl) rfl rfl rfl (fun hb=>Y.fieldAddr rfl u410 rfl ti3 Dc rfl) ?_;refine WL.yldGs [(_,_)] rfl (blt rfl) rfl rfl rfl (fun hb=>Y.load1 rfl u3 rfl (evg (evg rfl hb.1) hb.2.1) (Blk.at_eq (H.b 0) rfl)) ?_;refine WL.yldGs [(_,_)] rfl (blt rfl) rfl rfl rfl (fun hb=>Y.gtr rfl (evg (evg rfl hb.1) hb.2.1) (evg (evg rfl hb.1) hb.2.1)) ?_;refine go ?_;refine WC.cond rfl (fun h22=> ?_) (fun h22=> ?_)
    ·have p22:=((or_t (and_t h22).2).imp (fun h=>(dec_t h)) (fun h=>(dec_t h)));refine go ?_;refine Rt [_] ?_;exact⟨ret1 (vi (Eq.symm (ite_no (fun q=>q.elim p6.1 p6.2) (ite_no (fun q=>q.elim (fun q=>q.elim (fun q=>q.elim (fun q=>q.elim (nf_t (not_f (or_f (or_f (or_f (or_f h13).1).1).1).1)) (fun q=>(and_f (or_f (or_f (or_f (or_f h13).1).1).1).2).elim (fun h=>(nf_t (not_f h)) q.1) (fun h=>(fun q=>q (beqB_eq.1 (not_f h))) q.2))) (fun q=>(and_f (or_f (or_f (or_f h13).1).1).2).elim (fun h=>(nf_t (not_f h)) q.1) (fun h=>(fun q=>q (eq_t (not_f h))) q.2))) (fun q=>(and_f (or_f (or_f h13).1).2).elim (fun h=>(nf_t (not_f h)) q.1) (fun h=>(fun q=>q (eq_t (not_f h))) q.2))) (fun q=>(and_f (or_f h13).2).elim (fun h=>(nf_t (not_f h)) q.1) (fun h=>(dec_f h) q.2))) (ite_no (fun q=>q p18) (ite_to ⟨(and_t h22).1,((or_t (and_t h22).2).imp (fun h=>(dec_t h)) (fun h=>(dec_t h)))⟩ rfl)))))),H.ext⟩
    ·have p22:=((and_f h22).imp (fun h=>h) (fun h=>(And.intro (dec_f (or_f h).1) (dec_f (or_f h).2))));refine G16 ?_;refine sb [1,3,86] ?_;refine Cd (fun p25=> ?_) fun p25=> ?_
     ·refine go ?_;refine Rt [_] ?_;exact⟨ret1 (vi (Eq.symm (ite_no (fun q=>q.elim p6.1 p6.2) (ite_no (fun q=>q.elim (fun q=>q.elim (fun q=>q.elim (fun q=>q.elim (nf_t (not_f (or_f (or_f (or_f (or_f h13).1).1).1).1)) (fun q=>(and_f (or_f (or_f (or_f (or_f h13).1).1).1).2).elim (fun h=>(nf_t (not_f h)) q.1) (fun h=>(fun q=>q (beqB_eq.1 (not_f h))) q.2))) (fun q=>(and_f (or_f (or_f (or_f h13).1).1).2).elim (fun h=>(nf_t (not_f h)) q.1) (fun h=>(fun q=>q (eq_t (not_f h))) q.2))) (fun q=>(and_f (or_f (or_f h13).1).2).elim (fun h=>(nf_t (not_f h)) q.1) (fun h=>(fun q=>q (eq_t (not_f h))) q.2))) (fun q=>(and_f (or_f h13).2).elim (fun h=>(nf_t (not_f h)) q.1) (fun h=>(dec_f h) q.2))) (ite_no (fun q=>q p18) (ite_no (fun q=>(and_f h22).elim (fun h=>(nt_f h) q.1) (fun h=>(fun q=>q.elim (dec_f (or_f h).1) (dec_f (or_f h).2)) q.2)) (ite_to p25 rfl))))))),H.ext⟩
     ·refine G10 ?_;refine WL.yldGs [(_,_)] rfl (blt rfl) rfl rfl rfl (fun hb=>Y.fieldAddr rfl u81 rfl ti3 Dc rfl) ?_;refine WL.yldGs [(_,_)] rfl (blt rfl) rfl rfl rfl (fun hb=>Y.load1 rfl u3 rfl (evg (evg rfl hb.1) hb.2.1) (Blk.at_eq (H.b 1) rfl)) ?_;refine WL.yldGs [(_,_)] rfl (blt rfl) rfl rfl rfl (fun hb=>Y.fieldAddr rfl u410 rfl ti3 Dc rfl) ?_;refine WL.yldGs [(_,_)] rfl (blt rfl) rfl rfl rfl (fun hb=>Y.load1 rfl u3 rfl (evg (evg rfl hb.1) hb.2.1) (Blk.at_eq (H.b 0) rfl)) ?_;refine WL.yldGs [(_,_)] rfl (blt rfl) rfl rfl rfl (fun hb=>Y.gtr rfl (evg (evg rfl hb.1) hb.2.1) (evg (evg rfl hb.1) hb.2.1)) ?_;refine G7 ?_;refine WL.yldGs [(_,_)] rfl (blt rfl) rfl rfl rfl (fun hb=>Y.fieldAddr rfl u81 rfl ti3 Dc rfl) ?_;refine WL.yldGs [(_,_)] rfl (blt rfl) rfl rfl rfl (fun hb=>Y.load1 rfl u3 rfl (evg (evg rfl hb.1) hb.2.1) (Blk.at_eq (H.b 1) rfl)) ?_;refine WL.yldGs [(_,_)] rfl (blt rfl) rfl rfl rfl (fun hb=>Y.eql rfl (evg (evg rfl hb.1) hb.2.1) rfl) ?_;refine go ?_;refine WC.cond rfl (fun h28=> ?_) (fun h28=> ?_)
      ·have p28:=(And.intro ((or_t (and_t (and_t h28).1).2).imp (fun h=>(dec_t h)) (fun h=>(dec_t h))) ((or_t (and_t h28).2).imp (fun h=>(eq_f (not_t h))) (fun h=>(eq_t h))));refine go ?_;refine Rt [_] ?_;exact⟨ret1 (vi (Eq.symm (ite_no (fun q=>q.elim p6.1 p6.2) (ite_no (fun q=>q.elim (fun q=>q.elim (fun q=>q.elim (fun q=>q.elim (nf_t (not_f (or_f (or_f (or_f (or_f h13).1).1).1).1)) (fun q=>(and_f (or_f (or_f (or_f (or_f h13).1).1).1).2).elim (fun h=>(nf_t (not_f h)) q.1) (fun h=>(fun q=>q (beqB_eq.1 (not_f h))) q.2))) (fun q=>(and_f (or_f (or_f (or_f h13).1).1).2).elim (fun h=>(nf_t (not_f h)) q.1) (fun h=>(fun q=>q (eq_t (not_f h))) q.2))) (fun q=>(and_f (or_f (or_f h13).1).2).elim (fun h=>(nf_t (not_f h)) q.1) (fun h=>(fun q=>q (eq_t (not_f h))) q.2))) (fun q=>(and_f (or_f h13).2).elim (fun h=>(nf_t (not_f h)) q.1) (fun h=>(dec_f h) q.2))) (ite_no (fun q=>q p18) (ite_no (fun q=>(and_f h22).elim (fun h=>(nt_f h) q.1) (fun h=>(fun q=>q.elim (dec_f (or_f h).1) (dec_f (or_f h).2)) q.2)) (ite_no (fun q=>p25.elim (fun h=>(fun q=>h.elim (fun h=>h q.1) (fun h=>(fun q=>q h) q.2)) q.1) (fun h=>(fun q=>q h) q.2)) (ite_to ⟨⟨(and_t (and_t h28).1).1,((or_t (and_t (and_t h28).1).2).imp (fun h=>(dec_t h)) (fun h=>(dec_t h)))⟩,((or_t (and_t h28).2).imp (fun h=>(eq_f (not_t h))) (fun h=>(eq_t h)))⟩ rfl)))))))),H.ext⟩
      ·have p28:=((and_f h28).imp (fun h=>((and_f h).imp (fun h=>h) (fun h=>(And.intro (dec_f (or_f h).1) (dec_f (or_f h).2))))) (fun h=>(And.intro (eq_t (not_f (or_f h).1)) (eq_f (or_f h).2))));refine go ?_;refine Rt [_] ?_;exact⟨ret1 (vi (Eq.symm (ite_no (fun q=>q.elim p6.1 p6.2) (ite_no (fun q=>q.elim (fun q=>q.elim (fun q=>q.elim (fun q=>q.elim (nf_t (not_f (or_f (or_f (or_f (or_f h13).1).1).1).1)) (fun q=>(and_f (or_f (or_f (or_f (or_f h13).1).1).1).2).elim (fun h=>(nf_t (not_f h)) q.1) (fun h=>(fun q=>q (beqB_eq.1 (not_f h))) q.2))) (fun q=>(and_f (or_f (or_f (or_f h13).1).1).2).elim (fun h=>(nf_t (not_f h)) q.1) (fun h=>(fun q=>q (eq_t (not_f h))) q.2))) (fun q=>(and_f (or_f (or_f h13).1).2).elim (fun h=>(nf_t (not_f h)) q.1) (fun h=>(fun q=>q (eq_t (not_f h))) q.2))) (fun q=>(and_f (or_f h13).2).elim (fun h=>(nf_t (not_f h)) q.1) (fun h=>(dec_f h) q.2))) (ite_no (fun q=>q p18) (ite_no (fun q=>(and_f h22).elim (fun h=>(nt_f h) q.1) (fun h=>(fun q=>q.elim (dec_f (or_f h).1) (dec_f (or_f h).2)) q.2)) (ite_no (fun q=>p25.elim (fun h=>(fun q=>h.elim (fun h=>h q.1) (fun h=>(fun q=>q h) q.2)) q.1) (fun h=>(fun q=>q h) q.2)) (ite_no (fun q=>(and_f h28).elim (fun h=>(fun q=>(and_f h).elim (fun h=>(nt_f h) q.1) (fun h=>(fun q=>q.elim (dec_f (or_f h).1) (dec_f (or_f h).2)) q.2)) q.1) (fun h=>(fun q=>q.elim (fun q=>q (eq_t (not_f (or_f h).1))) (eq_f (or_f h).2)) q.2)) rfl)))))))),H.ext⟩
end TW
end Go.Proofs.YtaclfjjipnpboaaGreat
end
