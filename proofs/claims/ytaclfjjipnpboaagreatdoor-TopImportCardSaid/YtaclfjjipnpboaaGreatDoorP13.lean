/- Part 13 of the proof. Conditions: what each theorem states. -/
import Derived.Test.YtaclfjjipnpboaaGreatDoorP04
import Derived.Test.YtaclfjjipnpboaaGreatDoorP01
import Derived.Test.YtaclfjjipnpboaaGreatDoorP12
import Derived.Test.YtaclfjjipnpboaaGreatDoorP09
import Derived.Test.YtaclfjjipnpboaaGreatDoorP08
set_option linter.all false
set_option maxHeartbeats 4000000
set_option maxRecDepth 4000
section
attribute [local irreducible] Go.Eng.WC Go.Eng.WL Go.Eng.WK Go.Eng.WQ Go.Eng.WX Go.Eng.Yld
namespace Go.Proofs.YtaclfjjipnpboaaGreatDoor
open Go Go.Eng Go.RowKit
namespace TW
abbrev nvF:=nxF
theorem id_th{ths:List Th}{d:List Dm}{s:List Sn}{l:List Pk}(h:soE ths d s l=0)(hi:0<(idsOf l).length):0<ths.length:=by
 have hl:0<l.length:=by
  rcases Nat.eq_zero_or_pos l.length with q|q
  ·rw[List.length_eq_zero_iff]at q;subst q;exact absurd hi (Nat.lt_irrefl _)
  ·exact q
 have:=lg_th (so_lg h) _ (mem_b hl);obtain⟨t,ht,_⟩:=List.mem_map.1 this;exact List.length_pos_of_mem ht
theorem be_yes{A:Prop}{p:Bool}{q r:Prop}[Decidable q][Decidable r](a:A)(h:(p&&(decide q||decide r))=true):(A∧p=true)∧(q∨r):=by
 rw[Bool.and_eq_true,Bool.or_eq_true,decide_eq_true_eq,decide_eq_true_eq]at h;exact⟨⟨a,h.1⟩,h.2⟩
theorem be_no{A:Prop}{p:Bool}{q r:Prop}[Decidable q][Decidable r](h:(p&&(decide q||decide r))=false):¬((A∧p=true)∧(q∨r)):=fun k=>by
 rw[show(p&&(decide q||decide r))=true from by rw[Bool.and_eq_true,Bool.or_eq_true,decide_eq_true_eq,decide_eq_true_eq];exact⟨k.1.2,k.2⟩]at h;cases h
theorem order_any(A_ta:Option Addr)(n_ta c_ta:Nat)(ta:List Th)(A_da:Option Addr)(n_da c_da:Nat)(da:List Dm)(A_na:Option Addr)(n_na c_na:Nat)(na:List Sn)(A_pa:Option Addr)(n_pa c_pa:Nat)(pa:List Pk)(w:World)(h_ta:Ls w A_ta n_ta c_ta Th.c 3 ta)(h_da:Ls w A_da n_da c_da Dm.c 2 da)(h_na:Ls w A_na n_na c_na Sn.c 5 na)(h_pa:Ls w A_pa n_pa c_pa Pk.c 4 pa)(g_pa:PksOk w pa)(hk:∀x∈pa,x.k≤1000000)(hl:n_pa≤1000)(ht:n_ta≤1000)(he:evsum pa pa.length≤24)(hsn:n_na≤12):
  Calls Tryz.prog 29 #[.agg #[.slice A_ta n_ta c_ta,.slice A_da n_da c_da,.slice A_na n_na c_na,.slice A_pa n_pa c_pa]] w fun e w'=>∃v,e= .returned (.tuple #[v,.int .i64 (orE ta da na pa)])∧OwnL w' w.heap.size 107 Tm.c 10 v (orL ta da na pa)∧Ext w w':=by
 have H:=(Hp.nil w);have e_ta:=h_ta.len;have z_ta:=h_ta.nle;have e_da:=h_da.len;have z_da:=h_da.nle;have e_na:=h_na.len;have z_na:=h_na.nle;have e_pa:=h_pa.len;have z_pa:=h_pa.nle;have hkl:∀p∈pa,p.es.length=p.k:=fun p hp=>(g_pa p hp).l.len;refine Wb Tryz.func29 ?_;refine go ?_;refine bx H fun g2 z H=> ?_;refine go ?_;refine c3 Fh (know_any _ _ _ _ _ _ _ _ _ _ _ _ _ _ _ _ _ (h_ta.ext H.ext) (h_da.ext H.ext) (h_na.ext H.ext) (h_pa.ext H.ext) (g_pa.ext H.ext) hk Om Om he Om) ?_;rintro _ z ⟨kv,rfl,x,hno,hof⟩;refine⟨_,rfl,?_⟩;refine G1 ?_;by_cases h0:tgE ta da na pa=0
 ·obtain⟨gm,v1,v2,ns,rfl,K,hns⟩:=hof h0;obtain⟨X,hX⟩:∃q,q=tgX ta da na pa:=⟨_,rfl⟩;rw[←hX]at K;obtain⟨V,hV⟩:∃q,q=veN ta pa (idsOf pa).length:=⟨_,rfl⟩;rw[←hV]at hns;have H:Hp w _ (mpi gm (im (coM ta ta.length))::row 107 Tm.c 10 v1 X::row 81 Nx.c 1 v2 ns::big nvF ns::_):=H.join K;have hso:=rw_so (tg_rw h0);have hXl:X.length=(idsOf pa).length:=by rw[hX];exact tgX_len hkl
  have e_24:(idsOf pa).length≤24:=by show(idsN pa pa.length).length≤24;rw[idsN_len];exact he
  have hnl:ns.length=X.length:=by rw[←List.length_map (f:=Nx.l),hns,hV,veN_len,hXl]
  have hvl:∀y∈ns,y.l.length=ta.length:=fun y hy=>by
   obtain⟨i,hi,e⟩:=mem_at hy;have q:V[i]! =y.l:=by rw[←hns,map_b Nx.l hi,e]
   rw[←q,hV,veN_at _ _ Om];exact veI_len _ _ _
  have hth:0<X.length→0<ta.length:=fun q=>id_th hso Om;refine go ?_;refine al H ti181 fun g9 z H=> ?_;obtain⟨A11,n12,c13,rfl,_,_,_⟩:=H.op 2;obtain⟨A14,n15,c16,rfl,_,_,_⟩:=H.op 3;refine st H 0 ti181 fun z H=> ?_;refine G5 ?_;refine yy (Yld.cast (Y.neq rfl rfl rfl) (vb (by rw[h0];first|done|rfl))) ?_;refine go ?_;refine WC.condF rfl ?_;refine go ?_;refine ms (f:=Nx.c) (m:=n_ta) (default:Nx) H u179 ti81 Om fun v20 z H=> ?_;refine al H ti179 fun g22 z H=> ?_;obtain⟨A24,n25,c26,rfl,_,_,_⟩:=H.op 1;refine st H 0 ti179 fun z H=> ?_;have H:=nx_zero H n_ta;have e_X:=(H.l 5).len;have e_W:=(H.l 2).len;rw[List.length_replicate]at e_W;refine go ?_;refine sb [31,4,6,29,30] ?_;refine WC.loopS 1 (fun mz Ed W'=>∃k:Nat,∃ws:List Nx,mz=n12-k∧Ed=[(31,.int .i64 ((k:Nat):Int))]∧Hp w W' (big nxF ws::_::row 81 Nx.c 1 (.slice A24 n25 c26) ws::_::_::_::_::_::_::[])∧(k≤n12)∧(ws.map Nx.l=wqN (coO ta) X ta.length k)) _ ⟨0,(List.replicate n_ta default),rfl,rfl,(H.pick [0,0,0,0,0,0,0,0,0]),(Nat.zero_le _),(by rw[List.map_replicate,←e_ta];rfl)⟩ ?_;rintro _ _ z ⟨k,ws,rfl,rfl,H,kl,hws⟩;obtain⟨wok,wl⟩:=wqN_ok (C:=coO ta) (X:=X) (n:=ta.length) k Om;have nlw:ws.length=ta.length:=by rw[←List.length_map (f:=Nx.l),hws];exact wok.l
  refine go ?_;refine Cd (fun p32=> ?_) fun p32=> ?_
  ·have b35:k<n12:=Om;refine go ?_;refine al H ti107 fun g36 z H=> ?_;refine go ?_;refine st H 0 ti107 fun z H=> ?_;refine G7 ?_;refine yy (Yld.cast (Y.lookup rfl u178 u3 ti3 rfl rfl (fun _ h=>h▸(H.mi 5))) (show mval _ _ _=Value.int .i64 (coO ta X[k]!.th)from mval_im _ _)) ?_;have hco:=coO_rng (hth Om) X[k]!.th;obtain⟨⟨Af39,nf39,cf39,lf39⟩,xf39⟩:∃y,ws[(coO ta X[k]!.th).toNat]! =y:=⟨_,rfl⟩;have kf39:(coO ta X[k]!.th).toNat<ws.length:=Om;have gf39:((wqN (coO ta) X ta.length k))[(coO ta X[k]!.th).toNat]! =lf39:=by rw[←hws,map_b Nx.l kf39,xf39]
   have H:=H.front [1];have H:Hp w _ (row 3 ic 1 (.slice Af39 nf39 cf39) lf39::hole nxF ws ((coO ta X[k]!.th).toNat)::_):=Hp.bigOutX nxF ⟨Af39,nf39,cf39,lf39⟩ xf39 H kf39;have vf39:Value.slice ws[(coO ta X[k]!.th).toNat]!.A ws[(coO ta X[k]!.th).toNat]!.n ws[(coO ta X[k]!.th).toNat]!.cp= .slice Af39 nf39 cf39:=by rw[xf39]
   have e_nf39:=(H.l 0).len;have z_nf39:=(H.l 0).nle;have wl2:lf39.length≤k:=by rw[←gf39];exact wl _ (mem_b (by rw[wok.l];omega))
   refine go ?_;refine Xr H (HpC w _) (.load 0 (.load 1 (.load 2 (.load 3 (.load 4 (.load 6 (.alt 5 (.alt 7 (.alt 8 (.load 9 (.alt 10 (.fin) (.none))) (.none)) (.none)) (.alt 7 (.alt 5 (.alt 8 (.load 9 (.alt 10 (.fin) (.none))) (.none)) (.none)) (.none))))))))) (H.pick [1,1,1,2,2,2,2,2,2]) fun z H=> ?_;have b42:(coO ta X[k]!.th).toNat<n25:=Om;refine G4 ?_;refine yx rfl (Y.indexLs (coO ta X[k]!.th).toNat (H.l 4) rfl u179 ti81 rfl rfl Om b42) ?_;refine go ?_;refine bs1L (H.pick [1,1,1,2,2,2,2,2,2]) H (fun z H=>Yld.cast (Y.load1 rfl u81 rfl rfl (Ls.at_eq (H.l 4) b42 rfl)) vf39) u81 ti3 fun g43 z H=> ?_;refine apX (H.pick [2,2,2,3,3,3,3,3,3]) H 1 0 rfl [(k:Int)] u81 ti3 rfl ic_one (room_le wl2 (Nat.le_refl 1) Om) fun v45 z H=> ?_;have b46:(coO ta X[k]!.th).toNat<n25:=Om;refine yx rfl (Y.indexLs (coO ta X[k]!.th).toNat (H.l 5) rfl u179 ti81 rfl rfl Om b46) ?_;obtain⟨A47,n48,c49,rfl,_,_,_⟩:=H.op 1;refine steX (H.pick [2,2,2,3,3,3,3,3,3]) H 5 rfl ⟨A47,n48,c49,(lf39++[(k:Int)])⟩ b46 ti81 xf39 fun z H=> ?_;refine WX.nil (H.pick [2,2,2,3,3,3,3,3,3]) ?_;have H:=H.front [1,1];have H:Hp w _ (big nxF (ws.set ((coO ta X[k]!.th).toNat) ⟨A47,n48,c49,(lf39++[(k:Int)])⟩)::_):=Hp.bigIn nxF ⟨A47,n48,c49,(lf39++[(k:Int)])⟩ H kf39;obtain⟨m1,q_m1⟩:∃m:List Nx,m=(ws.set ((coO ta X[k]!.th).toNat) ⟨A47,n48,c49,(lf39++[(k:Int)])⟩):=⟨_,rfl⟩;rw[←q_m1]at H;refine go ?_;exact Rs [(31,_)] Sx ⟨(k+1),m1,rfl,rfl,(H.pick [0,2,2,2,2,2,2,2,2]),Om,(by rw[q_m1,List.map_set,hws];show _=List.set _ _ _;rw[gf39])⟩
  ·refine G6 ?_;refine yy (Y.func rfl rfl rfl) ?_;have H:=big_q H;obtain rfl:k=X.length:=Om;obtain⟨wok,_⟩:=wqN_ok (C:=coO ta) (X:=X) (n:=ta.length) X.length Nl;have H:=H.nilRow 107 Tm.c 10;refine G12 ?_;refine sb [4,6,10,11,56,57] ?_;refine go ?_;refine sb [57,11,4,6,10,56] ?_;refine WC.loopS 2 (fun mz Ed W'=>∃r:Nat,∃v:Value,∃ws:List Nx,∃out:List Tm,mz=n12-r∧Ed=[(57,.int .i64 ((r:Nat):Int)),(11,v)]∧Hp w W' (row 107 Tm.c 10 v (out)::big nqF ws::_::row 81 Nx.c 1 (.slice A24 n25 c26) ws::_::_::_::_::_::_::[])∧(r≤n12)∧(OrOk (ws.map Nx.l) ta.length X.length)∧(orR (coO ta) X V (X.length-r) (ws.map Nx.l) out=orO ta da na pa)∧(out.length≤r)) _ ⟨0,_,ws,[],rfl,rfl,(H.pick [0,0,0,0,0,0,0,0,0,0]),(Nat.zero_le _),(by rw[hws];exact wok),(by unfold orO;rw[←hX,←hV,hws,Nat.sub_zero]),Nl⟩ ?_;rintro _ _ z ⟨r,v,ws,out,rfl,rfl,H,rl,hOk,hd,hol⟩;have nlw:ws.length=ta.length:=by rw[←List.length_map (f:=Nx.l)];exact hOk.l
   refine go ?_;refine Cd (fun p58=> ?_) fun p58=> ?_
   ·refine go ?_;refine sb [61,12,4,6,10,11,56,57,59,60] ?_;refine WC.loopS 2 (fun mz Ed W'=>∃c:Nat,∃b:Int,mz=n25-c∧Ed=[(61,.int .i64 ((c:Nat):Int)),(12,.int .i64 b)]∧Hp w W' (_::_::_::_::_::_::_::_::_::_::[])∧(c≤n25)∧(b=beN (coO ta) X V (ws.map Nx.l) c)) _ ⟨0,(-1),rfl,rfl,(H.pick [0,0,0,0,0,0,0,0,0,0]),(Nat.zero_le _),rfl⟩ ?_;rintro _ _ z ⟨c,b,rfl,rfl,H,cl,hb⟩;have br:=beN_rng (C:=coO ta) (X:=X) (V:=V) (W:=ws.map Nx.l) c;rw[←hb]at br;obtain⟨br1,br2,br3⟩:=br;refine go ?_;refine Cd (fun p65=> ?_) fun p65=> ?_
    ·have eWc:(ws.map Nx.l)[c]! =ws[c]!.l:=map_b Nx.l Om;have eWb:(ws.map Nx.l)[b.toNat]! =ws[b.toNat]!.l:=map_b Nx.l Om;have hql:=nq_ls (H.get (k:=1) rfl);have eWl:=(hql _ (mem_b (show c<ws.length from Om))).len;have eBl:=(hql _ (mem_b (show b.toNat<ws.length from Om))).len;have hwr:0<ws[c]!.n→0≤ws[c]!.l[0]!∧ws[c]!.l[0]! <(X.length:Int):=fun q=>by have r:=hOk.at_ (c:=c) (by rw[List.length_map];omega) (by rw[eWc];omega);rw[eWc]at r;exact r
     have hbr:0≤b→0<ws[b.toNat]!.n∧0≤ws[b.toNat]!.l[0]!∧ws[b.toNat]!.l[0]! <(X.length:Int):=fun q=>by have q2:=br3 q;have r:=hOk.at_ (c:=b.toNat) (by rw[List.length_map];omega) q2;rw[eWb]at r q2;exact⟨Om,r⟩
     have b68:c<n25:=Om;refine go ?_;refine Qr ?_;refine G4 ?_;refine WQ.split (t:=69) rfl (fun h70=> ?_) (fun h70=> ?_)
     ·have p70:=(dec_t h70);have b71:0<ws[c]!.n:=Om;refine G2 ?_;refine WQ.yldW rfl (blt rfl) rfl rfl rfl (Y.indexLs 0 (nq_ls (H.get (k:=1) rfl) _ (mem_b (show c<ws.length from Om))) rfl u81 ti3 rfl rfl rfl b71) ?_;refine WQ.yldW rfl (blt rfl) rfl rfl rfl (ld rfl u3 rfl (Ls.at_ext (nq_ls (H.get (k:=1) rfl) _ (mem_b (show c<ws.length from Om))) b71 rfl)) ?_;refine WQ.guarded rfl rfl rfl ?_;refine qcV (fst:=[]) (cap:=[_,_]) rfl Fh (fun w hw=>calls_ext hw ((have H:=H.ex hw;free_any ws[c]!.l[0]! _ _ _ _ _ _ _ _ _ _ _ _ ta X ns ws _ (H.b 2) (H.l 3) (nq_ls (H.get (k:=1) rfl)) (H.b 4) (H.mi 5) (H.l 6) (H.l 7) (nx_ls (H.get (k:=8) rfl)) Om hOk hvl hnl (hth Om)))) ?_;refine yq (Y.pickT rfl rfl rfl) ?_;refine G4 ?_;refine WQ.yldGs [(_,_)] rfl (blt rfl) rfl rfl rfl (fun hb=>Y.fieldAddr rfl u181 rfl ti101 Dc rfl) ?_;refine WQ.yldGs [(_,_)] rfl (blt rfl) rfl rfl rfl (fun hb=>Y.load1 rfl u101 rfl (evg (evg rfl hb.1) hb.2.1) (Blk.at_ext (H.b 4) rfl)) ?_;refine WQ.yldGs [(_,_)] rfl (blt rfl) rfl rfl rfl (fun hb=>Y.move rfl rfl) ?_;refine WQ.yldGs [(_,_)] rfl (blt rfl) rfl rfl rfl (fun hb=>Y.indexLs 0 (nq_ls (H.get (k:=1) rfl) _ (mem_b (show c<ws.length from Om))) rfl u81 ti3 (evg (evg rfl hb.1) hb.2.1) rfl rfl (by have q1:=(dec_f hb.2.1);omega)) ?_;refine WQ.yldGs [(_,_)] rfl (blt rfl) rfl rfl rfl (fun hb=>Y.load1 rfl u3 rfl (evg (evg rfl hb.1) hb.2.1) (Ls.at_ext (nq_ls (H.get (k:=1) rfl) _ (mem_b (show c<ws.length from Om))) (by have q1:=(dec_f hb.2.1);omega) rfl)) ?_;refine WQ.yldGs [(_,_)] rfl (blt rfl) rfl rfl rfl (fun hb=>Y.indexLs ws[c]!.l[0]!.toNat (H.l 6) rfl u101 ti107 (evg (evg rfl hb.1) hb.2.1) (evg (evg rfl hb.1) hb.2.1) (by have q1:=(dec_f hb.2.1);omega) (by have q1:=(dec_f hb.2.1);omega)) ?_;refine WQ.yldGs [(_,_)] rfl (blt rfl) rfl rfl rfl (fun hb=>Y.fieldE rfl u107 rfl ti96 Dc (evg (evg rfl hb.1) hb.2.1)) ?_;refine WQ.yldGs [(_,_)] rfl (blt rfl) rfl rfl rfl (fun hb=>Y.fieldE rfl u96 rfl ti3 Dc (evg (evg rfl hb.1) hb.2.1)) ?_;refine WQ.yldGs [(_,_)] rfl (blt rfl) rfl rfl rfl (fun hb=>Y.load1 rfl u3 rfl (evg (evg rfl hb.1) hb.2.1) (Ls.at_ext (H.l 6) (by have q1:=(dec_f hb.2.1);omega) rfl)) ?_;refine WQ.yldGs [(_,_)] rfl (blt rfl) rfl rfl rfl (fun hb=>Y.fieldAddr rfl u181 rfl ti101 Dc rfl) ?_;refine WQ.yldGs [(_,_)] rfl (blt rfl) rfl rfl rfl (fun hb=>Y.load1 rfl u101 rfl (evg (evg rfl hb.1) hb.2.1) (Blk.at_ext (H.b 4) rfl)) ?_;refine WQ.yldGs [(_,_)] rfl (blt rfl) rfl rfl rfl (fun hb=>Y.load1 rfl u179 rfl rfl (Blk.at_ext (H.b 2) rfl)) ?_;refine WQ.yldGs [(_,_)] rfl (blt rfl) rfl rfl rfl (fun hb=>Y.move rfl rfl) ?_;refine WQ.yldGs [(_,_)] rfl (blt rfl) rfl rfl rfl (fun hb=>Y.indexLs b.toNat (H.l 3) rfl u179 ti81 (evg (evg rfl hb.1) hb.2.1) (evg (evg rfl hb.1) hb.2.1) (by have q1:=(dec_f hb.2.1);omega) (by have q1:=(dec_f hb.2.1);omega)) ?_;refine WQ.yldGs [(_,_)] rfl (blt rfl) rfl rfl rfl (fun hb=>Y.load1 rfl u81 rfl (evg (evg rfl hb.1) hb.2.1) (Ls.at_ext (H.l 3) (by have q1:=(dec_f hb.2.1);omega) rfl)) ?_;refine WQ.yldGs [(_,_)] rfl (blt rfl) rfl rfl rfl (fun hb=>Y.indexLs 0 (nq_ls (H.get (k:=1) rfl) _ (mem_b (show b.toNat<ws.length from Om))) rfl u81 ti3 (evg (evg rfl hb.1) hb.2.1) rfl rfl (by have q1:=(dec_f hb.2.1);omega)) ?_;refine WQ.yldGs [(_,_)] rfl (blt rfl) rfl rfl rfl (fun hb=>Y.load1 rfl u3 rfl (evg (evg rfl hb.1) hb.2.1) (Ls.at_ext (nq_ls (H.get (k:=1) rfl) _ (mem_b (show b.toNat<ws.length from Om))) (by have q1:=(dec_f hb.2.1);omega) rfl)) ?_;refine WQ.yldGs [(_,_)] rfl (blt rfl) rfl rfl rfl (fun hb=>Y.indexLs ws[b.toNat]!.l[0]!.toNat (H.l 6) rfl u101 ti107 (evg (evg rfl hb.1) hb.2.1) (evg (evg rfl hb.1) hb.2.1) (by have q1:=(dec_f hb.2.1);omega) (by have q1:=(dec_f hb.2.1);omega)) ?_;refine WQ.yldGs [(_,_)] rfl (blt rfl) rfl rfl rfl (fun hb=>Y.fieldE rfl u107 rfl ti96 Dc (evg (evg rfl hb.1) hb.2.1)) ?_;refine WQ.yldGs [(_,_)] rfl (blt rfl) rfl rfl rfl (fun hb=>Y.fieldE rfl u96 rfl ti3 Dc (evg (evg rfl hb.1) hb.2.1)) ?_;refine WQ.yldGs [(_,_)] rfl (blt rfl) rfl rfl rfl (fun hb=>Y.load1 rfl u3 rfl (evg (evg rfl hb.1) hb.2.1) (Ls.at_ext (H.l 6) (by have q1:=(dec_f hb.2.1);omega) rfl)) ?_;refine WQ.yldGs [(_,_)] rfl (blt rfl) rfl rfl rfl (fun hb=>Y.lss rfl (evg (evg rfl hb.1) hb.2.1) (evg (evg rfl hb.1) hb.2.1)) ?_;refine go ?_;refine Qd H fun z H=> ?_;refine go ?_;refine WC.cond rfl (fun h72=> ?_) (fun h72=> ?_)
      ·have p72:=((or_t (and_t h72).2).imp (fun h=>(dec_t h)) (fun h=>(dec_t h)));have hfr:=h72;rw[hns]at hfr;refine go ?_;exact Rs [(61,_),(12,_)] Sx ⟨(c+1),(c:Int),rfl,rfl,(H.pick [0,0,0,0,0,0,0,0,0,0]),Om,(by rw[show beN (coO ta) X V (ws.map Nx.l) (c+1)=be1 (coO ta) X V (ws.map Nx.l) (beN (coO ta) X V (ws.map Nx.l) c) c from rfl,←hb];refine Eq.symm (if_pos ?_);rw[eWc,eWb,eWl];exact(be_yes (dec_t h70) hfr))⟩
      ·have p72:=((and_f h72).imp (fun h=>h) (fun h=>(And.intro (dec_f (or_f h).1) (dec_f (or_f h).2))));have hfr:=h72;rw[hns]at hfr;refine G3 ?_;refine sb [4,6,10,11,12,56,57,59,60,61] ?_;refine go ?_;exact Rs [(61,_),(12,_)] Sx ⟨(c+1),b,rfl,rfl,(H.pick [0,0,0,0,0,0,0,0,0,0]),Om,(by rw[show beN (coO ta) X V (ws.map Nx.l) (c+1)=be1 (coO ta) X V (ws.map Nx.l) (beN (coO ta) X V (ws.map Nx.l) c) c from rfl,←hb];refine Eq.symm (if_neg ?_);rw[eWc,eWb,eWl];exact(be_no hfr))⟩
     ·have p70:=(dec_f h70);refine G5 ?_;refine yq (Y.pickF rfl rfl rfl) ?_;refine G27 ?_;refine yq (Y.pickF rfl rfl rfl) ?_;refine Qd H fun z H=> ?_;refine go ?_;refine WC.condF rfl ?_;refine G3 ?_;refine sb [4,6,10,11,12,56,57,59,60,61] ?_;refine go ?_;exact Rs [(61,_),(12,_)] Sx ⟨(c+1),b,rfl,rfl,(H.pick [0,0,0,0,0,0,0,0,0,0]),Om,(by rw[show beN (coO ta) X V (ws.map Nx.l) (c+1)=be1 (coO ta) X V (ws.map Nx.l) (beN (coO ta) X V (ws.map Nx.l) c) c from rfl,←hb];refine Eq.symm (if_neg ?_);rw[eWc,eWb,eWl];exact(fun q=>(dec_f h70) q.1.1))⟩
    ·have hbF:beF (coO ta) X V (ws.map Nx.l)=b:=by rw[hb];unfold beF;rw[List.length_map];congr 1;omega
     refine go ?_;refine Cd (fun p75=> ?_) fun p75=> ?_
     ·refine go ?_;refine Rt [_,_] ?_;have e0:orO ta da na pa=none:=by rw[←hd,orR_bad Om (by rw[hbF];exact p75)]
      have e1:orE ta da na pa=13:=(if_neg (not_not_intro h0)).trans (if_pos e0);exact⟨_,(by rw[e1];rfl),(by rw[show orL ta da na pa=[]from if_pos (by rw[e1];decide)];exact OwnL.nil_),H.ext⟩
     ·have hbp:0≤b:=Om;have hbq:=br3 hbp;obtain⟨⟨Af78,nf78,cf78,lf78⟩,xf78⟩:∃y,ws[b.toNat]! =y:=⟨_,rfl⟩;have kf78:b.toNat<ws.length:=Om;have gf78:(ws.map Nx.l)[b.toNat]! =lf78:=by rw[map_b Nx.l kf78,xf78]
      have H:=H.front [1];have H:Hp w _ (rowq ic 1 (.slice Af78 nf78 cf78) lf78::hole nqF ws (b.toNat)::_):=Hp.bigOutX nqF ⟨Af78,nf78,cf78,lf78⟩ xf78 H kf78;have vf78:Value.slice ws[b.toNat]!.A ws[b.toNat]!.n ws[b.toNat]!.cp= .slice Af78 nf78 cf78:=by rw[xf78]
      have e_nf78:=(H.q 0).len;rw[gf78]at hbq;have hbx:=hOk.at_ (c:=b.toNat) (by rw[List.length_map];omega) (by rw[gf78];exact hbq);rw[gf78]at hbx;obtain⟨A81,n82,c83,rfl,_,_,_⟩:=H.op 2;refine go ?_;refine Xr H (HpC w _) (.load 0 (.load 1 (.load 2 (.load 3 (.load 4 (.load 5 (.load 6 (.load 7 (.load 8 (.load 9 (.load 10 (.alt 11 (.alt 12 (.load 13 (.fin)) (.none)) (.none))))))))))))) (H.pick [0,0,1,1,1,1,1,1,1,1]) fun z H=> ?_;have b84:b.toNat<n25:=Om;refine G5 ?_;refine yx rfl (Y.indexLs b.toNat (H.l 4) rfl u179 ti81 rfl rfl Om b84) ?_;refine yx rfl (Yld.cast (Y.load1 rfl u81 rfl rfl (Ls.at_c (fun _ h=>h.l 3) b84 rfl)) vf78) ?_;have b85:0<nf78:=Om;refine yx rfl (Y.indexLs 0 (H.q 0) rfl u81 ti3 rfl rfl rfl b85) ?_;refine yx rfl (ld rfl u3 rfl (Ls.at_c (fun _ h=>h.q 0) b85 rfl)) ?_;have b86:lf78[0]!.toNat<n12:=Om;refine yx rfl (Y.indexLs lf78[0]!.toNat (H.l 7) rfl u101 ti107 rfl rfl Om b86) ?_;refine go ?_;refine bs1X (H.pick [0,0,1,1,1,1,1,1,1,1]) H u101 ti107 fun g87 z H=> ?_;refine apX (H.pick [1,1,2,2,2,2,2,2,2,2]) H 3 0 rfl [X[lf78[0]!.toNat]!] u101 ti107 rfl Tm.one (room_le hol (Nat.le_refl 1) Om) fun v89 z H=> ?_;refine go ?_;refine WX.nil (H.pick [1,1,2,2,2,2,2,2,2,2]) ?_;refine go ?_;refine WC.regionT 8 (by kernel_rfl) (by kernel_rfl) ?_;have b90:b.toNat<n25:=Om;refine G4 ?_;refine yq (Y.indexLs b.toNat (H.l 5) rfl u179 ti81 rfl rfl Om b90) ?_;refine yq (Yld.cast (Y.load1 rfl u81 rfl rfl (Ls.at_ext (H.l 5) b90 rfl)) vf78) ?_;have b91:1≤nf78:=Om;refine yq (Y.sliceL 1 rfl u81 ti3 rfl rfl rfl b91) ?_;have H:=H.cutq 1 Om;have b92:b.toNat<n25:=Om;refine yq (Y.indexLs b.toNat (H.l 5) rfl u179 ti81 rfl rfl Om b92) ?_;refine WQ.tail (fun z x=> ?_);have H:=H.ex x;refine ste H 5 rfl ⟨(if cf78=1 then Af78 else Af78.map (·.add (1*1))),(nf78-1),(cf78-1),(lf78.drop 1)⟩ b92 ti81 xf78 fun z H=> ?_;have H:=H.front [1,1];have H:Hp w _ (big nqF (ws.set (b.toNat) ⟨(if cf78=1 then Af78 else Af78.map (·.add (1*1))),(nf78-1),(cf78-1),(lf78.drop 1)⟩)::_):=Hp.bigIn nqF ⟨(if cf78=1 then Af78 else Af78.map (·.add (1*1))),(nf78-1),(cf78-1),(lf78.drop 1)⟩ H kf78;obtain⟨m1,q_m1⟩:∃m:List Nx,m=(ws.set (b.toNat) ⟨(if cf78=1 then Af78 else Af78.map (·.add (1*1))),(nf78-1),(cf78-1),(lf78.drop 1)⟩):=⟨_,rfl⟩;rw[←q_m1]at H;refine G3 ?_;refine sb [4,6,10,11,56,57] ?_;refine go ?_;exact Rs [(57,_),(11,_)] Sx ⟨(r+1),v89,m1,(out++[X[lf78[0]!.toNat]!]),rfl,rfl,(H.pick [2,0,1,1,1,1,1,1,1,1]),Om,(by rw[q_m1,List.map_set];exact hOk.set (fun x hx=>hOk.e _ (mem_b (show b.toNat<(ws.map Nx.l).length by rw[List.length_map];omega)) x (by rw[gf78];exact List.mem_of_mem_drop hx))),(by rw[show X.length-(r+1)=X.length-r-1 from Om,←hd,orR_step (k:=X.length-r) (W:=ws.map Nx.l) (out:=out) Om (by rw[hbF];omega),hbF,q_m1,List.map_set,gf78]),(by rw[List.length_append];simp only[List.length_cons,List.length_nil];omega)⟩
   ·refine go ?_;refine Rt [_,_] ?_;have e0:orO ta da na pa=some out:=by rw[←hd,show X.length-r=0 from Om];rfl
    have e1:orE ta da na pa=0:=(if_neg (not_not_intro h0)).trans (if_neg (by rw[e0];exact Option.some_ne_none _));exact⟨_,(by rw[e1];rfl),(by rw[show orL ta da na pa=out from(if_neg (not_not_intro e1)).trans (by rw[e0];rfl)];exact H.out 0),H.ext⟩
 ·obtain rfl:=hno h0;have H:=H.ex x;refine go ?_;refine al H ti181 fun g94 z H=> ?_;refine st H 0 ti181 fun z H=> ?_;refine G5 ?_;refine yy (Yld.cast (Y.neq rfl rfl rfl) (vb (show(!(tgE ta da na pa==0))=true by rw[beq_false_of_ne h0];rfl))) ?_;refine go ?_;refine WC.condT rfl ?_;refine go ?_;refine Rt [_,_] ?_;have e1:orE ta da na pa=tgE ta da na pa:=if_pos h0;exact⟨_,(by rw[e1];rfl),(by rw[show orL ta da na pa=[]from if_pos (by rw[e1];exact h0)];exact OwnL.nil_),H.ext⟩
section
variable{α:Type}(enc:α→Value)
def xam(m:List (Int×α)):List (Int×Value):=m.map fun p=>(p.1,enc p.2)
def xget:List (Int×α)→Int→Option α
 |[],_=>none
 |(k,v)::r,i=>if i=k then some v else xget r i
def xset:List (Int×α)→Int→α→List (Int×α)
 |[],i,u=>[(i,u)]
 |(k,v)::r,i,u=>if i=k then(k,u)::r else(k,v)::xset r i u
def xdel:List (Int×α)→Int→List (Int×α)
 |[],_=>[]
 |(k,v)::r,i=>if i=k then r else(k,v)::xdel r i
theorem mget_xam:∀(m:List (Int×α)) (i:Int),mget (xam enc m) i=(xget m i).map enc
 |[],_=>rfl
 |(k,v)::r,i=>by
  have ih:=mget_xam r i;show(if i=k then some (enc v)else mget (xam enc r) i)=((if i=k then some v else xget r i)).map enc;grind
theorem mset_xam:∀(m:List (Int×α)) (i:Int) (u:α),mset (xam enc m) i (enc u)=xam enc (xset m i u)
 |[],_,_=>rfl
 |(k,v)::r,i,u=>by
  have ih:=mset_xam r i u;show(if i=k then(k,enc u)::xam enc r else(k,enc v)::mset (xam enc r) i (enc u))=xam enc (if i=k then(k,u)::r else(k,v)::xset r i u);by_cases h:i=k
  ·rw[if_pos h,if_pos h];rfl
  ·rw[if_neg h,if_neg h,ih];rfl
theorem mval_xam{m:List (Int×α)}{i:Int}{v:α}(h:xget m i=some v)(z:Value):mval (xam enc m) i z=enc v:=by grind [mval,mget_xam]
theorem mval_xam0{m:List (Int×α)}{i:Int}(h:xget m i=none)(z:Value):mval (xam enc m) i z=z:=by grind [mval,mget_xam]
theorem isSome_xam(m:List (Int×α))(i:Int):(mget (xam enc m) i).isSome=(xget m i).isSome:=by grind [mget_xam,xget]
theorem xget_xset:∀(m:List (Int×α)) (i:Int) (u:α) (j:Int),xget (xset m i u) j=if j=i then some u else xget m j
 |[],i,u,j=>by rfl
 |(k,v)::r,i,u,j=>by
  have ih:=xget_xset r i u j;show xget (if i=k then(k,u)::r else(k,v)::xset r i u) j=_;by_cases h:i=k
  ·subst h;rw[if_pos rfl];simp_all [ite,some,xget]
  ·rw[if_neg h];show(if j=k then some v else xget (xset r i u) j)=if j=i then some u else(if j=k then some v else xget r j)
   grind
end
theorem clk_mm(x:Int):min (max x 0) 1000000000000=clk x:=by grind [clk]
theorem clk_rng(x:Int):0≤clk x∧clk x≤1000000000000:=by grind [clk]
structure Fw where(id fth fsr tth tsr snd rcv:Int)
instance:Inhabited Fw:=⟨⟨0,0,0,0,0,0,0⟩⟩
def Fw.c(x:Fw):List Value:=[.int .i64 x.id,.int .i64 x.fth,.int .i64 x.fsr,.int .i64 x.tth,.int .i64 x.tsr,.int .i64 x.snd,.int .i64 x.rcv]
theorem Fw.one(x:Fw):∀u∈x.c,u.oneCell'=true:=by simp[Fw.c,Value.oneCell']
def tmE(x:Tm):Value:=.agg x.c.toArray
def fl7(s:List (Int×Tm)×List Fw)(x:Tm):Option Tm→List (Int×Tm)×List Fw
 |none=>s
 |some t=>(s.1,s.2++[⟨x.n,t.th,t.sr,x.th,x.sr,clk t.lo,clk x.lo⟩])
def fl1(s:List (Int×Tm)×List Fw)(x:Tm):List (Int×Tm)×List Fw:=if x.kd=6 then(xset s.1 x.n x,s.2)else if x.kd=7 then fl7 s x (xget s.1 x.n)else s
def flN(o:List Tm)(j:Nat):List (Int×Tm)×List Fw:=fN fl1 ([],[]) o j
def flF(o:List Tm):List Fw:=(flN o o.length).2
theorem flN_len(o:List Tm):∀j,(flN o j).2.length≤j
 |0=>Nat.le_refl _
 |j+1=>by
  have ih:=flN_len o j;show(fl1 (flN o j) o[j]!).2.length≤j+1;unfold fl1;split
  ·grind
  split
  ·cases xget (flN o j).1 o[j]!.n with
   |none=>exact Nat.le_succ_of_le ih
   |some t=>show(_++[_]).length≤_;grind
  omega
structure Lo where(th fr to ct:Int)
instance:Inhabited Lo:=⟨⟨0,0,0,0⟩⟩
def Lo.c(x:Lo):List Value:=[.int .i64 x.th,.int .i64 x.fr,.int .i64 x.to,.int .i64 x.ct]
theorem Lo.one(x:Lo):∀u∈x.c,u.oneCell'=true:=by simp[Lo.c,Value.oneCell']
def miF(a b:Int):Int×Int:=if b>a then(a,b)else if a=1000000000000 then(a-1,a)else(a,a+1)
def prE(x:Int×Int):Value:=.agg #[.int .i64 x.1,.int .i64 x.2]
def lsB(m:List (Int×(Int×Int)))(x:Tm):Int×Int:=(xget m x.th).getD (0,0)
def ls1(s:List (Int×(Int×Int))×List Lo)(x:Tm):List (Int×(Int×Int))×List Lo:=
 (xset s.1 x.th (x.sr+1,clk x.lo),if x.sr>(lsB s.1 x).1 then s.2++[⟨x.th,(miF (lsB s.1 x).2 (clk x.lo)).1,(miF (lsB s.1 x).2 (clk x.lo)).2,x.sr-(lsB s.1 x).1⟩]else s.2)
def lsN(o:List Tm)(j:Nat):List (Int×(Int×Int))×List Lo:=fN ls1 ([],[]) o j
def lsF(o:List Tm):List Lo:=(lsN o o.length).2
theorem mval_pr(m:List (Int×(Int×Int)))(i:Int):mval (xam prE m) i (.agg #[.int .i64 0,.int .i64 0])=prE ((xget m i).getD (0,0)):=by
 cases h:xget m i<;>simp_all [xget,none,mval_xam0,prE,some,mval_xam]
theorem lsN_ok{o:List Tm}(h:∀x∈o,0≤x.sr∧x.sr≤2000000000000000):∀j,j≤o.length→(lsN o j).2.length≤j∧∀k v,xget (lsN o j).1 k=some v→(0≤v.1∧v.1≤2000000000000001)∧0≤v.2∧v.2≤1000000000000
 |0,_=>⟨Nat.le_refl _,fun k v hv=>by cases hv⟩
 |j+1,hj=>by
  obtain⟨a,b⟩:=lsN_ok h j Om;have hs:=h _ (mem_b (show j<o.length from hj));have hc:=clk_rng o[j]!.lo;refine⟨?_,fun k v hv=> ?_⟩
  ·show(ls1 (lsN o j) o[j]!).2.length≤j+1;grind [ls1,List.length_append,Nat.succ_le_succ,Nat.le_succ_of_le]
  ·rw[show(lsN o (j+1)).1=xset (lsN o j).1 o[j]!.th (o[j]!.sr+1,clk o[j]!.lo)from rfl,xget_xset]at hv;grind
theorem lsB_rng{o:List Tm}(h:∀x∈o,0≤x.sr∧x.sr≤2000000000000000){j:Nat}(hj:j≤o.length)(x:Tm):(0≤(lsB (lsN o j).1 x).1∧(lsB (lsN o j).1 x).1≤2000000000000001)∧0≤(lsB (lsN o j).1 x).2∧(lsB (lsN o j).1 x).2≤1000000000000:=by
 unfold lsB;cases e:xget (lsN o j).1 x.th with
 |none=>decide
 |some v=>grind [lsN_ok]
structure Sm where(th at_ w:Int)(A:Option Addr)(n cp:Nat)(st:List ByteArray)
instance:Inhabited Sm:=⟨⟨0,0,0,none,0,0,[]⟩⟩
def Sm.c(x:Sm):List Value:=[.int .i64 x.th,.int .i64 x.at_,.int .i64 x.w,.slice x.A x.n x.cp]
theorem Sm.one(x:Sm):∀u∈x.c,u.oneCell'=true:=by simp[Sm.c,Value.oneCell']
structure Sq where(th at_ w:Int)(st:List ByteArray)
instance:Inhabited Sq:=⟨⟨0,0,0,[]⟩⟩
def Sm.q(x:Sm):Sq:=⟨x.th,x.at_,x.w,x.st⟩
def smN(o:List Tm):Nat→List Sq
 |0=>[]
 |j+1=>if o[j]!.kd=5 then smN o j++[⟨o[j]!.th,clk o[j]!.lo,o[j]!.n,o[j]!.st⟩]else smN o j
def smFo(o:List Tm):List Sq:=smN o o.length
theorem smN_len(o:List Tm):∀j,(smN o j).length≤j
 |0=>Nat.le_refl _
 |j+1=>by
  have ih:=smN_len o j;grind [smN,List.length_append,Nat.succ_le_succ,Nat.le_succ_of_le]
theorem ftime_any(x:Tm)(w:World):
  Cr 88 #[.agg #[.int .i64 x.th,.int .i64 x.sr,.int .i64 x.at_,.int .i64 x.kd,.string x.nm,.int .i64 x.n,.int .i64 x.m,.slice x.A x.k x.c_,.int .i64 x.lo,.int .i64 x.hi]] w (.int .i64 (clk x.lo)):=by
 have H:=(Hp.nil w);refine Wb Tryz.func88 ?_;refine go ?_;refine bx H fun g2 z H=> ?_;refine go ?_;refine Rt [_] ?_;exact⟨ret1 (vi rfl),H.ext⟩
theorem clock_any(x:Tm)(w:World):
  Cr 30 #[.agg #[.int .i64 x.th,.int .i64 x.sr,.int .i64 x.at_,.int .i64 x.kd,.string x.nm,.int .i64 x.n,.int .i64 x.m,.slice x.A x.k x.c_,.int .i64 x.lo,.int .i64 x.hi]] w (.int .i64 (clk x.lo)):=by
 have H:=(Hp.nil w);refine Wb Tryz.func30 ?_;refine go ?_;refine bx H fun g2 z H=> ?_;refine go ?_;refine Rt [_] ?_;exact⟨ret1 (vi (clk_mm x.lo)),H.ext⟩
theorem stime_any(x:Tm)(w:World):
  Cr 76 #[.agg #[.int .i64 x.th,.int .i64 x.sr,.int .i64 x.at_,.int .i64 x.kd,.string x.nm,.int .i64 x.n,.int .i64 x.m,.slice x.A x.k x.c_,.int .i64 x.lo,.int .i64 x.hi]] w (.int .i64 (clk x.lo)):=by
 have H:=(Hp.nil w);refine Wb Tryz.func76 ?_;refine go ?_;refine bx H fun g2 z H=> ?_;refine go ?_;refine Rt [_] ?_;exact⟨ret1 (vi (clk_mm x.lo)),H.ext⟩
theorem ctime_any(x:Tm)(w:World):
  Cr 89 #[.agg #[.int .i64 x.th,.int .i64 x.sr,.int .i64 x.at_,.int .i64 x.kd,.string x.nm,.int .i64 x.n,.int .i64 x.m,.slice x.A x.k x.c_,.int .i64 x.lo,.int .i64 x.hi]] w (.int .i64 (clk x.lo)):=by
 have H:=(Hp.nil w);refine Wb Tryz.func89 ?_;refine go ?_;refine bx H fun g2 z H=> ?_;refine G10 ?_;refine sb [2] ?_;refine go ?_;refine Rt [_] ?_;exact⟨ret1 (vi (clk_mm x.lo)),H.ext⟩
theorem mtime_any(x:Tm)(w:World):
  Cr 92 #[.agg #[.int .i64 x.th,.int .i64 x.sr,.int .i64 x.at_,.int .i64 x.kd,.string x.nm,.int .i64 x.n,.int .i64 x.m,.slice x.A x.k x.c_,.int .i64 x.lo,.int .i64 x.hi]] w (.int .i64 (clk x.lo)):=by
 have H:=(Hp.nil w);refine Wb Tryz.func92 ?_;refine go ?_;refine bx H fun g2 z H=> ?_;refine go ?_;refine Rt [_] ?_;exact⟨ret1 (vi rfl),H.ext⟩
theorem flow_any(A_o:Option Addr)(n_o c_o:Nat)(o:List Tm)(w:World)(h_o:Ls w A_o n_o c_o Tm.c 10 o)(hn:n_o≤1000):
  Calls Tryz.prog 33 #[.slice A_o n_o c_o] w fun e w'=>∃v,e= .returned v∧OwnL w' w.heap.size 122 Fw.c 7 v (flF o)∧Ext w w':=by
 have H:=(Hp.nil w);have e_o:=h_o.len;have z_o:=h_o.nle;refine Wb Tryz.func33 ?_;refine G4 ?_;refine mm H fun g3 z H=> ?_;have H:=H.nilRow 122 Fw.c 7;refine go ?_;refine sb [13,4,3,11,12] ?_;refine WC.loopS 2 (fun mz Ed W'=>∃j:Nat,∃v:Value,mz=n_o-j∧Ed=[(13,.int .i64 ((j:Nat):Int)),(4,v)]∧Hp w W' (row 122 Fw.c 7 v ((flN o j).2)::mpi g3 (xam tmE (flN o j).1)::[])∧(j≤n_o)) _ ⟨0,_,rfl,rfl,(H.pick [0,0]),(Nat.zero_le _)⟩ ?_;rintro _ _ z ⟨j,v,rfl,rfl,H,jl⟩;have dl:=flN_len o j;refine go ?_;refine Cd (fun p12=> ?_) fun p12=> ?_
 ·have b15:j<n_o:=Om;refine go ?_;refine al H ti107 fun g16 z H=> ?_;refine st H 0 ti107 fun z H=> ?_;refine go ?_;refine Cd (fun p21=> ?_) fun p21=> ?_
  ·refine G4 ?_;refine mu H 2 u211 u3 fun z H=> ?_;refine go ?_;exact Rs [(13,_),(4,_)] Sx ⟨(j+1),v,rfl,rfl,(by rw[show flN o (j+1)=(xset (flN o j).1 o[j]!.n o[j]!,(flN o j).2)from if_pos p21,←mset_xam];exact(H.pick [1,1])),Om⟩
  ·refine G4 ?_;refine sb [3,4,6,7,11,12,13,28] ?_;refine Cd (fun p23=> ?_) fun p23=> ?_
   ·refine G3 ?_;rcases hg:xget (flN o j).1 o[j]!.n with _|t
    ·refine yy (Y.lookupOk rfl u211 u3 ti107 rfl rfl (fun _ h=>h▸(H.mi 2))) ?_;refine G1 ?_;refine yy (Yld.cast (Y.extract rfl rfl rfl) (mval_xam0 tmE hg _)) ?_;refine yy (Yld.cast (Y.extract rfl rfl rfl) (vb (show(mget (xam tmE (flN o j).1) o[j]!.n).isSome=false from by rw[isSome_xam,hg];rfl))) ?_;refine al H ti107 fun g25 z H=> ?_;refine st H 0 ti107 fun z H=> ?_;refine go ?_;refine WC.condF rfl ?_;refine go ?_;exact Rs [(13,_),(4,_)] Sx ⟨(j+1),v,rfl,rfl,(by rw[show flN o (j+1)=flN o j from(if_neg p21).trans ((if_pos p23).trans (by show fl7 (flN o j) o[j]! (xget (flN o j).1 o[j]!.n)=_;rw[hg];rfl))];exact(H.pick [2,2])),Om⟩
    ·refine yy (Y.lookupOk rfl u211 u3 ti107 rfl rfl (fun _ h=>h▸(H.mi 2))) ?_;refine G1 ?_;refine yy (Yld.cast (Y.extract rfl rfl rfl) (mval_xam tmE hg _)) ?_;refine yy (Yld.cast (Y.extract rfl rfl rfl) (vb (show(mget (xam tmE (flN o j).1) o[j]!.n).isSome=true from by rw[isSome_xam,hg];rfl))) ?_;refine al H ti107 fun g28 z H=> ?_;refine st H 0 ti107 fun z H=> ?_;refine go ?_;refine WC.condT rfl ?_;obtain⟨A31,n32,c33,rfl,_,_,_⟩:=H.op 2;refine Xr H (HpC w _) (.load 0 (.load 1 (.load 2 (.load 3 (.load 4 (.load 5 (.load 6 (.load 8 (.alt 7 (.alt 9 (.load 10 (.alt 11 (.alt 12 (.load 13 (.fin)) (.none)) (.none))) (.none)) (.none)))))))))) (H.pick [0,0,1]) fun z H=> ?_;refine go ?_;refine c1X (H.pick [0,0,1]) H Fh (ftime_any t _) fun z H=> ?_;refine c1X (H.pick [0,0,1]) H Fh (ftime_any o[j]! _) fun z H=> ?_;refine go ?_;refine bs1X (H.pick [0,0,1]) H u42 ti122 fun g34 z H=> ?_;refine apX (H.pick [1,1,2]) H 3 0 rfl [⟨o[j]!.n,t.th,t.sr,o[j]!.th,o[j]!.sr,clk t.lo,clk o[j]!.lo⟩] u42 ti122 rfl Fw.one (room_le dl (Nat.le_refl 1) Om) fun v36 z H=> ?_;refine go ?_;refine WX.nil (H.pick [1,1,2]) ?_;refine go ?_;exact Rs [(13,_),(4,_)] Sx ⟨(j+1),v36,rfl,rfl,(by rw[show flN o (j+1)=((flN o j).1,(flN o j).2++[⟨o[j]!.n,t.th,t.sr,o[j]!.th,o[j]!.sr,clk t.lo,clk o[j]!.lo⟩])from(if_neg p21).trans ((if_pos p23).trans (by show fl7 (flN o j) o[j]! (xget (flN o j).1 o[j]!.n)=_;rw[hg];rfl))];exact(H.pick [3,3])),Om⟩
   ·refine G4 ?_;refine sb [3,4,11,12,13] ?_;refine go ?_;exact Rs [(13,_),(4,_)] Sx ⟨(j+1),v,rfl,rfl,(by rw[show flN o (j+1)=flN o j from(if_neg p21).trans (if_neg p23)];exact(H.pick [1,1])),Om⟩
 ·refine go ?_;refine Rt [_] ?_;exact⟨_,rfl,(by rw[show flF o=(flN o j).2 from by unfold flF;rw[show o.length=j from Om]];exact H.out 0),H.ext⟩
theorem missing_any(a:Int)(b:Int)(w:World)(ha:0≤a∧a≤1000000000000):
  Cr 98 #[.int .i64 a,.int .i64 b] w (.agg #[.int .i64 (miF a b).1,.int .i64 (miF a b).2]):=by
 have H:=(Hp.nil w);refine Wb Tryz.func98 ?_;refine go ?_;refine al H ti39 fun g2 z H=> ?_;refine go ?_;refine Cd (fun p6=> ?_) fun p6=> ?_
 ·refine go ?_;refine st H 0 ti39 fun z H=> ?_;refine go ?_;refine WK.ret [_] rfl ⟨⟨_,rfl,run_loadVar_blk u39 rfl ti39 (H.b 0)⟩,trivial⟩ ?_;have e1:miF a b=(a,b):=if_pos p6;exact⟨by rw[e1];rfl,H.ext⟩
 ·refine go ?_;refine Cd (fun p9=> ?_) fun p9=> ?_
  ·refine go ?_;refine st H 0 ti39 fun z H=> ?_;refine go ?_;refine WK.ret [_] rfl ⟨⟨_,rfl,run_loadVar_blk u39 rfl ti39 (H.b 0)⟩,trivial⟩ ?_;have e1:miF a b=(a-1,a):=(if_neg p6).trans (if_pos p9);exact⟨by rw[e1];rfl,H.ext⟩
  ·refine go ?_;refine st H 0 ti39 fun z H=> ?_;refine G1 ?_;refine sb [4] ?_;refine go ?_;refine WK.ret [_] rfl ⟨⟨_,rfl,run_loadVar_blk u39 rfl ti39 (H.b 0)⟩,trivial⟩ ?_;have e1:miF a b=(a,a+1):=(if_neg p6).trans ((if_neg p9).trans (rfl));exact⟨by rw[e1];rfl,H.ext⟩
theorem losses_any(A_o:Option Addr)(n_o c_o:Nat)(o:List Tm)(w:World)(h_o:Ls w A_o n_o c_o Tm.c 10 o)(hn:n_o≤1000)(hs:∀x∈o,0≤x.sr∧x.sr≤2000000000000000):
  Calls Tryz.prog 37 #[.slice A_o n_o c_o] w fun e w'=>∃v,e= .returned v∧OwnL w' w.heap.size 128 Lo.c 4 v (lsF o)∧Ext w w':=by
 have H:=(Hp.nil w);have e_o:=h_o.len;have z_o:=h_o.nle;refine Wb Tryz.func37 ?_;refine G4 ?_;refine mm H fun g3 z H=> ?_;have H:=H.nilRow 128 Lo.c 4;refine go ?_;refine sb [13,4,3,11,12] ?_;refine WC.loopS 2 (fun mz Ed W'=>∃j:Nat,∃v:Value,mz=n_o-j∧Ed=[(13,.int .i64 ((j:Nat):Int)),(4,v)]∧Hp w W' (row 128 Lo.c 4 v ((lsN o j).2)::mpi g3 (xam prE (lsN o j).1)::[])∧(j≤n_o)) _ ⟨0,_,rfl,rfl,(H.pick [0,0]),(Nat.zero_le _)⟩ ?_;rintro _ _ z ⟨j,v,rfl,rfl,H,jl⟩;have dl:=(lsN_ok hs j Om).1;have br:=lsB_rng hs (show j≤o.length by omega) o[j]!;have bc:=clk_rng o[j]!.lo;refine go ?_;refine Cd (fun p12=> ?_) fun p12=> ?_
 ·have hsj:=hs _ (mem_b (show j<o.length by omega));have b15:j<n_o:=Om;refine go ?_;refine al H ti107 fun g16 z H=> ?_;refine st H 0 ti107 fun z H=> ?_;refine go ?_;refine Xr H (HpC w _) (.load 0 (.load 1 (.load 2 (.load 3 (.load 4 (.load 5 (.alt 6 (.alt 7 (.alt 8 (.load 9 (.fin)) (.none)) (.none)) (.alt 7 (.alt 6 (.alt 8 (.load 9 (.fin)) (.none)) (.none)) (.none))))))))) (H.pick [0,0,0]) fun z H=> ?_;refine G4 ?_;refine yx rfl (Yld.cast (Y.lookup rfl u221 u3 ti223 rfl rfl (fun _ h=>h.mi 2)) (show mval _ _ _=Value.agg #[.int .i64 (lsB (lsN o j).1 o[j]!).1,.int .i64 (lsB (lsN o j).1 o[j]!).2]from mval_pr _ _)) ?_;refine G1 ?_;refine WX.alt ?_ ?_
  ·refine c1X (H.pick [0,0,0]) H Fh (clock_any o[j]! _) fun z H=> ?_;refine alX (H.pick [0,0,0]) H ti223 fun g19 z H=> ?_;refine stX (H.pick [1,1,1]) H 0 ti223 fun z H=> ?_;refine go ?_;refine WX.nil (H.pick [1,1,1]) ?_;refine go ?_;refine Cd (fun p24=> ?_) fun p24=> ?_
   ·obtain⟨A25,n26,c27,rfl,_,_,_⟩:=H.op 2;refine Xr H (HpC w _) (.load 0 (.load 1 (.load 2 (.load 3 (.load 4 (.load 5 (.load 6 (.load 8 (.alt 7 (.load 9 (.alt 10 (.alt 11 (.load 12 (.fin)) (.none)) (.none))) (.none)))))))))) (H.pick [0,0,1]) fun z H=> ?_;refine go ?_;refine c1X (H.pick [0,0,1]) H Fh (missing_any (lsB (lsN o j).1 o[j]!).2 _ _ Om) fun z H=> ?_;refine go ?_;refine bs1X (H.pick [0,0,1]) H u46 ti128 fun g28 z H=> ?_;refine apX (H.pick [1,1,2]) H 3 0 rfl [⟨o[j]!.th,(miF (lsB (lsN o j).1 o[j]!).2 (clk o[j]!.lo)).1,(miF (lsB (lsN o j).1 o[j]!).2 (clk o[j]!.lo)).2,o[j]!.sr-(lsB (lsN o j).1 o[j]!).1⟩] u46 ti128 rfl Lo.one (room_le dl (Nat.le_refl 1) Om) fun v30 z H=> ?_;refine go ?_;refine WX.nil (H.pick [1,1,2]) ?_;refine G1 ?_;refine sb [3,4,6,8,11,12,13] ?_;refine G11 ?_;refine mu H 4 u221 u3 fun z H=> ?_;refine go ?_;exact Rs [(13,_),(4,_)] Sx ⟨(j+1),v30,rfl,rfl,(by rw[show lsN o (j+1)=(xset (lsN o j).1 o[j]!.th (o[j]!.sr+1,clk o[j]!.lo),((lsN o j).2++[⟨o[j]!.th,(miF (lsB (lsN o j).1 o[j]!).2 (clk o[j]!.lo)).1,(miF (lsB (lsN o j).1 o[j]!).2 (clk o[j]!.lo)).2,o[j]!.sr-(lsB (lsN o j).1 o[j]!).1⟩]))from(by show ls1 (lsN o j) o[j]! =_;unfold ls1;rw[if_pos p24]),←mset_xam];exact(H.pick [3,3])),Om⟩
   ·refine G13 ?_;refine mu H 3 u221 u3 fun z H=> ?_;refine go ?_;exact Rs [(13,_),(4,_)] Sx ⟨(j+1),v,rfl,rfl,(by rw[show lsN o (j+1)=(xset (lsN o j).1 o[j]!.th (o[j]!.sr+1,clk o[j]!.lo),(lsN o j).2)from(by show ls1 (lsN o j) o[j]! =_;unfold ls1;rw[if_neg p24]),←mset_xam];exact(H.pick [2,2])),Om⟩
  refine alX (H.pick [0,0,0]) H ti223 fun g31 z H=> ?_;refine c1X (H.pick [1,1,1]) H Fh (clock_any o[j]! _) fun z H=> ?_;refine stX (H.pick [1,1,1]) H 0 ti223 fun z H=> ?_;refine go ?_;refine WX.nil (H.pick [1,1,1]) ?_;refine G19 ?_;refine sb [3,4,6,7,8,9,11,12,13,35] ?_;refine Cd (fun p36=> ?_) fun p36=> ?_
  ·obtain⟨A37,n38,c39,rfl,_,_,_⟩:=H.op 2;refine Xr H (HpC w _) (.load 0 (.load 1 (.load 2 (.load 3 (.load 4 (.load 5 (.load 6 (.load 8 (.alt 7 (.load 9 (.alt 10 (.alt 11 (.load 12 (.fin)) (.none)) (.none))) (.none)))))))))) (H.pick [0,0,1]) fun z H=> ?_;refine go ?_;refine c1X (H.pick [0,0,1]) H Fh (missing_any (lsB (lsN o j).1 o[j]!).2 _ _ Om) fun z H=> ?_;refine go ?_;refine bs1X (H.pick [0,0,1]) H u46 ti128 fun g40 z H=> ?_;refine apX (H.pick [1,1,2]) H 3 0 rfl [⟨o[j]!.th,(miF (lsB (lsN o j).1 o[j]!).2 (clk o[j]!.lo)).1,(miF (lsB (lsN o j).1 o[j]!).2 (clk o[j]!.lo)).2,o[j]!.sr-(lsB (lsN o j).1 o[j]!).1⟩] u46 ti128 rfl Lo.one (room_le dl (Nat.le_refl 1) Om) fun v42 z H=> ?_;refine go ?_;refine WX.nil (H.pick [1,1,2]) ?_;refine G12 ?_;refine mu H 4 u221 u3 fun z H=> ?_;refine go ?_;exact Rs [(13,_),(4,_)] Sx ⟨(j+1),v42,rfl,rfl,(by rw[show lsN o (j+1)=(xset (lsN o j).1 o[j]!.th (o[j]!.sr+1,clk o[j]!.lo),((lsN o j).2++[⟨o[j]!.th,(miF (lsB (lsN o j).1 o[j]!).2 (clk o[j]!.lo)).1,(miF (lsB (lsN o j).1 o[j]!).2 (clk o[j]!.lo)).2,o[j]!.sr-(lsB (lsN o j).1 o[j]!).1⟩]))from(by show ls1 (lsN o j) o[j]! =_;unfold ls1;rw[if_pos p36]),←mset_xam];exact(H.pick [3,3])),Om⟩
  ·refine G2 ?_;refine sb [3,4,6,8,11,12,13] ?_;refine G11 ?_;refine mu H 3 u221 u3 fun z H=> ?_;refine go ?_;exact Rs [(13,_),(4,_)] Sx ⟨(j+1),v,rfl,rfl,(by rw[show lsN o (j+1)=(xset (lsN o j).1 o[j]!.th (o[j]!.sr+1,clk o[j]!.lo),(lsN o j).2)from(by show ls1 (lsN o j) o[j]! =_;unfold ls1;rw[if_neg p36]),←mset_xam];exact(H.pick [2,2])),Om⟩
 ·refine go ?_;refine Rt [_] ?_;exact⟨_,rfl,(by rw[show lsF o=(lsN o j).2 from by unfold lsF;rw[show o.length=j from Om]];exact H.out 0),H.ext⟩
def smR(x:Sm):List Res:=[row 9 sc 1 (.slice x.A x.n x.cp) x.st]
theorem sample_any(A_o:Option Addr)(n_o c_o:Nat)(o:List Tm)(w:World)(h_o:Ls w A_o n_o c_o Tm.c 10 o)(g_o:∀x∈o,Ls w x.A x.k x.c_ sc 1 x.st)(hn:n_o≤1000)(hkk:∀x∈o,x.st.length≤1000):
  Calls Tryz.prog 34 #[.slice A_o n_o c_o] w fun e w'=>∃v xs,e= .returned v∧Hp w w' [row 131 Sm.c 4 v xs,big smR xs]∧xs.map Sm.q=smFo o:=by
 have H:=(Hp.nil w);have e_o:=h_o.len;have z_o:=h_o.nle;refine Wb Tryz.func34 ?_;have H:=H.nilRow 131 Sm.c 4;have H:=H.bigNil smR;refine go ?_;refine sb [8,3,6,7] ?_;refine WC.loopS 2 (fun mz Ed W'=>∃j:Nat,∃v:Value,∃xs:List Sm,mz=n_o-j∧Ed=[(8,.int .i64 ((j:Nat):Int)),(3,v)]∧Hp w W' (big smR xs::row 131 Sm.c 4 v (xs)::[])∧(j≤n_o)∧(xs.map Sm.q=smN o j)) _ ⟨0,_,[],rfl,rfl,(H.pick [0,0]),(Nat.zero_le _),rfl⟩ ?_;rintro _ _ z ⟨j,v,xs,rfl,rfl,H,jl,hx⟩;have xl:xs.length≤j:=by rw[←List.length_map (f:=Sm.q),hx];exact smN_len o j
 refine go ?_;refine Cd (fun p10=> ?_) fun p10=> ?_
 ·have b13:j<n_o:=Om;refine go ?_;refine al H ti107 fun g14 z H=> ?_;refine st H 0 ti107 fun z H=> ?_;refine go ?_;refine Cd (fun p17=> ?_) fun p17=> ?_
  ·have hkj:=hkk _ (mem_b (show j<o.length by omega));obtain⟨A18,n19,c20,rfl,_,_,_⟩:=H.op 2;refine Xr H (HpC w _) (.load 0 (.load 1 (.load 2 (.load 3 (.load 4 (.load 5 (.load 6 (.load 7 (.load 8 (.load 9 (.load 10 (.load 11 (.load 12 (.load 13 (.load 14 (.alt 15 (.load 16 (.alt 17 (.alt 18 (.load 19 (.fin)) (.none)) (.none))) (.none))))))))))))))))) (H.pick [0,0]) fun z H=> ?_;refine G8 ?_;refine yx rfl (Yld.cast (Y.minI rfl rfl rfl rfl) (vi (clk_mm _))) ?_;have H:=H.nilRow 9 sc 1;refine go ?_;refine aplX (H.pick [1,1]) H 0 rfl ((g_o _ (mem_b (show j<o.length from Om))).ext H.ext) u63 ti9 sc_one (by show 0+_≤1000000;omega) fun v22 z H=> ?_;obtain⟨A23,n24,c25,rfl,_,_,_⟩:=H.op 0;refine go ?_;refine bs1X (H.pick [1,1]) H u43 ti131 fun g26 z H=> ?_;refine apX (H.pick [2,2]) H 4 0 rfl [⟨o[j]!.th,clk o[j]!.lo,o[j]!.n,A23,n24,c25,o[j]!.st⟩] u43 ti131 rfl Sm.one (room_le xl (Nat.le_refl 1) Om) fun v28 z H=> ?_;refine go ?_;refine WX.nil (H.pick [2,2]) ?_;have H:=H.front [1,2];have H:Hp w _ (big smR (xs++[⟨o[j]!.th,clk o[j]!.lo,o[j]!.n,A23,n24,c25,o[j]!.st⟩])::_):=Hp.bigPush smR ⟨o[j]!.th,clk o[j]!.lo,o[j]!.n,A23,n24,c25,o[j]!.st⟩ H;refine go ?_;exact Rs [(8,_),(3,_)] Sx ⟨(j+1),v28,(xs++[⟨o[j]!.th,clk o[j]!.lo,o[j]!.n,A23,n24,c25,o[j]!.st⟩]),rfl,rfl,(H.pick [0,2]),Om,(by rw[List.map_append,hx];exact(if_pos p17).symm)⟩
  ·refine G3 ?_;refine sb [3,6,7,8] ?_;refine go ?_;exact Rs [(8,_),(3,_)] Sx ⟨(j+1),v,xs,rfl,rfl,(H.pick [1,1]),Om,(hx.trans (if_neg p17).symm)⟩
 ·refine go ?_;refine Rt [_] ?_;exact⟨_,xs,rfl,(H.pick [1,0]),by rw[hx];unfold smFo;congr 1;omega⟩
structure Sp where(nm:ByteArray)(at_ v:Int)
instance:Inhabited Sp:=⟨⟨⟨#[]⟩,0,0⟩⟩
def Sp.c(x:Sp):List Value:=[.string x.nm,.int .i64 x.at_,.int .i64 x.v]
theorem Sp.one(x:Sp):∀u∈x.c,u.oneCell'=true:=by simp[Sp.c,Value.oneCell']
def cmpSp(a b:Sp):Int:=orF [cmpS a.nm b.nm,cmpI a.at_ b.at_]
def coA(o:List Tm):Nat→List Sp
 |0=>[]
 |j+1=>if o[j]!.kd=4 then coA o j++[⟨o[j]!.nm,clk o[j]!.lo,o[j]!.n⟩]else coA o j
theorem coA_len(o:List Tm):∀j,(coA o j).length≤j
 |0=>Nat.le_refl _
 |j+1=>by
  have ih:=coA_len o j;grind [coA,List.length_append,Nat.succ_le_succ,Nat.le_succ_of_le]
def ct1(l out:List Sp)(i:Nat):List Sp:=
 if((i:Int)+1<(l.length:Int))∧cmpSp l[i]! l[i+1]! =0 then out
 else if(((out.length:Int)>0)∧out[out.length-1]!.nm=l[i]!.nm)∧out[out.length-1]!.v=l[i]!.v then out
 else out++[l[i]!]
def ctR(l:List Sp):Nat→List Sp
 |0=>[]
 |i+1=>ct1 l (ctR l i) i
theorem ctR_len(l:List Sp):∀i,(ctR l i).length≤i
 |0=>Nat.le_refl _
 |i+1=>by
  have ih:=ctR_len l i;grind [ct1,ctR,Nat.le_succ_of_le,List.length_append,Nat.succ_le_succ]
def coL(o:List Tm):List Sp:=stabF cmpSp (coA o o.length)
def coF(o:List Tm):List Sp:=ctR (coL o) (coL o).length
structure Bk where(id th sz fr to:Int)(A:Option Addr)(k c_:Nat)(st:List ByteArray)(lv:Bool)
instance:Inhabited Bk:=⟨⟨0,0,0,0,0,none,0,0,[],false⟩⟩
def Bk.c(x:Bk):List Value:=[.int .i64 x.id,.int .i64 x.th,.int .i64 x.sz,.int .i64 x.fr,.int .i64 x.to,.slice x.A x.k x.c_,.bool x.lv]
theorem Bk.one(x:Bk):∀u∈x.c,u.oneCell'=true:=by simp[Bk.c,Value.oneCell']
def mmC(s:List (Int×Int)×List Bk)(x:Tm):Option Int→List (Int×Int)×List Bk
 |none=>s
 |some i=>(xdel s.1 x.n,s.2.set i.toNat {s.2[i.toNat]! with to:=clk x.lo,lv:=false})
def mm1(en:Int)(s:List (Int×Int)×List Bk)(x:Tm):List (Int×Int)×List Bk:=
 if x.kd≠11∧x.kd≠12 then s
 else if x.kd=11 then(xset (mmC s x (xget s.1 x.n)).1 x.n ((mmC s x (xget s.1 x.n)).2.length:Int),(mmC s x (xget s.1 x.n)).2++[⟨x.n,x.th,x.m,clk x.lo,en,x.A,x.k,x.c_,x.st,true⟩])
 else mmC s x (xget s.1 x.n)
def mmN(en:Int)(o:List Tm)(j:Nat):List (Int×Int)×List Bk:=fN (mm1 en) ([],[]) o j
def mmE(o:List Tm)(en:Int):Int:=clk (if o.length>0 then max en (clk o[o.length-1]!.lo)else en)
def cmpBk(a b:Bk):Int:=cmpI a.fr b.fr
def mmF(o:List Tm)(en:Int):List Bk:=stabF cmpBk ((mmN (mmE o en) o o.length).2.filter fun b=> !decide (b.to≤b.fr))
theorem mdel_xam{α:Type}(enc:α→Value):∀(m:List (Int×α)) (i:Int),mdel (xam enc m) i=xam enc (xdel m i)
 |[],_=>rfl
 |(k,v)::r,i=>by
  have ih:=mdel_xam enc r i;show(if i=k then xam enc r else(k,enc v)::mdel (xam enc r) i)=xam enc (if i=k then r else(k,v)::xdel r i);by_cases h:i=k
  ·rw[if_pos h,if_pos h]
  ·rw[if_neg h,if_neg h,ih];rfl
theorem xget_mem{α:Type}:∀{m:List (Int×α)} {i:Int} {v:α},xget m i=some v→(i,v)∈m
 |(k,u)::r,i,v,h=>by
  have h':(if i=k then some u else xget r i)=some v:=h;split at h'
  ·rename_i q;grind
  ·exact List.mem_cons_of_mem _ (xget_mem h')
theorem xdel_mem{α:Type}:∀{m:List (Int×α)} {i:Int} {x:Int×α},x∈xdel m i→x∈m
 |(k,u)::r,i,x,h=>by
  have h':x∈(if i=k then r else(k,u)::xdel r i):=h;split at h'
  ·grind
  ·rcases List.mem_cons.1 h' with rfl|q
   ·grind
   ·exact List.mem_cons_of_mem _ (xdel_mem q)
theorem xset_mem{α:Type}:∀{m:List (Int×α)} {i:Int} {u:α} {x:Int×α},x∈xset m i u→x∈m∨x=(i,u)
 |[],i,u,x,h=>.inr (List.mem_singleton.1 h)
 |(k,v)::r,i,u,x,h=>by
  have h':x∈(if i=k then(k,u)::r else(k,v)::xset r i u):=h;split at h'
  ·rename_i q;grind
  ·rcases List.mem_cons.1 h' with rfl|q
   ·grind
   ·exact(xset_mem q).imp (List.mem_cons_of_mem _) id
def intE(v:Int):Value:=.int .i64 v
theorem mmC_ok{s:List (Int×Int)×List Bk}{x:Tm}{r:Option Int}(h:∀p∈s.1,0≤p.2∧p.2<(s.2.length:Int)):(mmC s x r).2.length=s.2.length∧∀p∈(mmC s x r).1,0≤p.2∧p.2<((mmC s x r).2.length:Int):=by
 cases r with
 |none=>exact⟨rfl,h⟩
 |some i=>
  have e:(mmC s x (some i)).2.length=s.2.length:=List.length_set;exact⟨e,fun p hp=>by rw[e];exact h p (xdel_mem hp)⟩
theorem mmN_ok(en:Int)(o:List Tm):∀j,(mmN en o j).2.length≤j∧∀p∈(mmN en o j).1,0≤p.2∧p.2<((mmN en o j).2.length:Int)
 |0=>⟨Nat.le_refl _,fun p hp=>by cases hp⟩
 |j+1=>by
  obtain⟨a,b⟩:=mmN_ok en o j;rw[show mmN en o (j+1)=mm1 en (mmN en o j) o[j]! from rfl];generalize mmN en o j=s at a b;obtain⟨c,d⟩:=mmC_ok (x:=o[j]!) (r:=xget s.1 o[j]!.n) b;unfold mm1;split
  ·grind
  split
  ·refine⟨by grind,fun p hp=> ?_⟩;have hl:((mmC s o[j]! (xget s.1 o[j]!.n)).2++[(⟨o[j]!.n,o[j]!.th,o[j]!.m,clk o[j]!.lo,en,o[j]!.A,o[j]!.k,o[j]!.c_,o[j]!.st,true⟩:Bk)]).length=(mmC s o[j]! (xget s.1 o[j]!.n)).2.length+1:=by grind
   dsimp only;rw[hl];rcases xset_mem hp with q|rfl<;>grind
  grind
structure Dl{α:Type}[Inhabited α](p:α→Bool)(l M:List α)(i j:Nat):Prop where
 len:M.length=l.length
 tk:M.take i=(l.take j).filter fun x=> !p x
 kp:∀k,j≤k→k<l.length→M[k]! =l[k]!
 ij:i<j
theorem Dl.start{α:Type}[Inhabited α]{p:α→Bool}{l:List α}{i:Nat}(hi:i<l.length)(hp:p l[i]! =true)(hn:∀k,k<i→p l[k]! =false):Dl p l l i (i+1):=by
 refine⟨rfl,?_,fun _ _ _=>rfl,Nat.lt_succ_self i⟩;rw[take_1 hi,List.filter_append,List.filter_cons_of_neg (by grind),List.filter_nil,List.append_nil];refine(List.filter_eq_self.2 fun x hx=> ?_).symm;obtain⟨k,hk,rfl⟩:=mem_at hx;grind
theorem Dl.keep{α:Type}[Inhabited α]{p:α→Bool}{l M:List α}{i j:Nat}(h:Dl p l M i j)(hj:j<l.length)(hp:p l[j]! =false):Dl p l (M.set i l[j]!) (i+1) (j+1):=by
 have hi:i<M.length:=by rw[h.len];have:=h.ij;omega
 refine⟨by rw[List.length_set];exact h.len,?_,fun k hk hkl=> ?_,by have:=h.ij;omega⟩
 ·rw[take_1 hj,List.filter_append,←h.tk,List.filter_cons_of_pos (by grind),List.filter_nil,List.take_set,take_1 hi];rw[List.set_append_right _ _ (by grind),List.length_take,show i-min i M.length=0 from Om];rfl
 ·have:=h.ij;rw[←h.kp k Om hkl,set_at _ _ _ _ (by rw[h.len];exact hkl),if_neg Om]
theorem Dl.del{α:Type}[Inhabited α]{p:α→Bool}{l M:List α}{i j:Nat}(h:Dl p l M i j)(hj:j<l.length)(hp:p l[j]! =true):Dl p l M i (j+1):=by
 refine⟨h.len,?_,fun k hk hkl=>h.kp k Om hkl,by have:=h.ij;omega⟩;rw[take_1 hj,List.filter_append,←h.tk,List.filter_cons_of_neg (by grind),List.filter_nil,List.append_nil]
theorem Dl.end_{α:Type}[Inhabited α]{p:α→Bool}{l M:List α}{i j:Nat}(h:Dl p l M i j)(hj:l.length≤j):M.take i=l.filter fun x=> !p x:=by rw[h.tk,List.take_of_length_le hj]
theorem ixP_none{α:Type}[Inhabited α]{p:α→Bool}{l:List α}(h:ixP p l= -1):(l.filter fun x=> !p x)=l:=by
 grind [List.filter_eq_self,ixP,List.findIdx_eq_length,Nat.le_antisymm,List.findIdx_le_length,Nat.le_of_not_lt]
theorem ixP_some{α:Type}[Inhabited α]{p:α→Bool}{l:List α}(h:ixP p l≠-1):ixP p l=((ixP p l).toNat:Int)∧(ixP p l).toNat<l.length∧p l[(ixP p l).toNat]! =true∧∀k,k<(ixP p l).toNat→p l[k]! =false:=by
 unfold ixP at h ⊢;split at h
 ·rename_i q;rw[if_pos q,Int.toNat_natCast];grind
 omega
theorem corder_any(a:Sp)(b:Sp)(w:World):
  Cr 91 #[.agg #[.string a.nm,.int .i64 a.at_,.int .i64 a.v],.agg #[.string b.nm,.int .i64 b.at_,.int .i64 b.v]] w (.int .i64 (cmpSp a b)):=by
 have H:=(Hp.nil w);refine Wb Tryz.func91 ?_;refine go ?_;refine bx H fun g2 z H=> ?_;refine bx H fun g4 z H=> ?_;refine go ?_;refine WC.regionT 10 (by kernel_rfl) (by kernel_rfl) ?_;refine G4 ?_;refine WQ.call rfl (blt rfl) rfl rfl rfl Fh rfl (fun w hw=>calls_ext hw (cmpS_any _ _ _)) ?_;refine G4 ?_;refine WQ.call rfl (blt rfl) rfl rfl rfl Fh rfl (fun w hw=>calls_ext hw (cmpI_any _ _ _)) ?_;refine WQ.tail (fun z x=> ?_);have H:=H.ex x;refine bs (zs:=[.int .i64 0,.int .i64 0]) (cs:=[_,_]) H u81 ti3 fun g7 z H=> ?_;refine c1 H Fh (or_any _ _ _ _ _ (Ls.lit (f:=ic) (sz:=1) (l:=[cmpS a.nm b.nm,cmpI a.at_ b.at_]) (H.b 0) (fun _=>rfl) rfl (by first|decide|exact(show 2≤maxLen by decide)) rfl)) fun z H=> ?_;refine go ?_;refine Rt [_] ?_;exact⟨rfl,H.ext⟩
theorem sgC:SG Sp.c 3 (fun x:Sp=>.agg (Sp.c x).toArray) (44,125,214) (fun f=>match f with|224=>223|173=>170|201=>200|174=>171|139=>136|95=>90|f=>f) where
 u:=Tryz.underlying44
 t0:=⟨_,_,ti125⟩
 len:=fun _=>rfl
 pos:=by decide
 cells:=fun _=>rfl
 one:=fun x=>List.all_eq_true.2 (Sp.one x)
 ld0:=fun o n E C x A m cap l k ho hx h hk=>Y.loadS ho Tryz.underlying125 rfl ti125 hx (Ls.part_c h hk (by rw[List.drop_zero,List.take_length]))
 f224:=⟨_,Tryz.func223,by kernel_rfl,by kernel_rfl,by kernel_rfl,by kernel_rfl⟩
 f173:=⟨_,Tryz.func170,by kernel_rfl,by kernel_rfl,by kernel_rfl,by kernel_rfl⟩
 f201:=⟨_,Tryz.func200,by kernel_rfl,by kernel_rfl,by kernel_rfl,by kernel_rfl⟩
 f174:=⟨_,Tryz.func171,by kernel_rfl,by kernel_rfl,by kernel_rfl,by kernel_rfl⟩
 f139:=⟨_,Tryz.func136,by kernel_rfl,by kernel_rfl,by kernel_rfl,by kernel_rfl⟩
 f95:=⟨_,Tryz.func90,by kernel_rfl,by kernel_rfl,by kernel_rfl,by kernel_rfl⟩
theorem sstC_any(A:Option Addr)(n q:Nat)(l:List Sp)(f:FuncId)(cap:List Value)(c:Sp→Sp→Int)(W:World)(R:List Res)(w:World)(H:Hp W w (row 125 Sp.c 3 (.slice A n q) l::R))(h1:n≤39)(hF:Has Tryz.prog f)(hc:∀l1:List Sp,(∀x∈l1,x∈l)→∀w1,Hp W w1 (row 125 Sp.c 3 (.slice A n q) l1::R)→∀x∈l,∀y∈l,Calls Tryz.prog f ([]++[(Value.agg #[.string x.nm,.int .i64 x.at_,.int .i64 x.v]),(Value.agg #[.string y.nm,.int .i64 y.at_,.int .i64 y.v])]++cap).toArray w1 fun e w2=>e= .returned (.int .i64 (c x y))∧Ext w1 w2):
  Calls Tryz.prog 90 #[.slice A n q,.func (.func f) #[] cap.toArray] w fun e w'=>e= .returned (resVal [])∧Hp W w' (row 125 Sp.c 3 (.slice A n q) (stabF c l)::R):=sstG_any sgC A n q l f cap c W R w H h1 hF hc
theorem counter_any(A_o:Option Addr)(n_o c_o:Nat)(o:List Tm)(w:World)(h_o:Ls w A_o n_o c_o Tm.c 10 o)(hn:n_o≤39):
  Calls Tryz.prog 35 #[.slice A_o n_o c_o] w fun e w'=>∃v,e= .returned v∧OwnL w' w.heap.size 125 Sp.c 3 v (coF o)∧Ext w w':=by
 have H:=(Hp.nil w);have e_o:=h_o.len;have z_o:=h_o.nle;refine Wb Tryz.func35 ?_;have H:=H.nilRow 125 Sp.c 3;refine go ?_;refine sb [12,3,4,10,11] ?_;refine WC.loopS 2 (fun mz Ed W'=>∃j:Nat,∃v:Value,mz=n_o-j∧Ed=[(12,.int .i64 ((j:Nat):Int)),(3,v)]∧Hp w W' (row 125 Sp.c 3 v (coA o j)::[])∧(j≤n_o)) _ ⟨0,_,rfl,rfl,(H.pick [0]),(Nat.zero_le _)⟩ ?_;rintro _ _ z ⟨j,v,rfl,rfl,H,jl⟩;have dl:=coA_len o j;refine go ?_;refine Cd (fun p9=> ?_) fun p9=> ?_
 ·have b12:j<n_o:=Om;refine go ?_;refine al H ti107 fun g13 z H=> ?_;refine st H 0 ti107 fun z H=> ?_;refine go ?_;refine Cd (fun p16=> ?_) fun p16=> ?_
  ·obtain⟨A17,n18,c19,rfl,_,_,_⟩:=H.op 1;refine Xr H (HpC w _) (.load 0 (.load 1 (.load 2 (.load 3 (.load 4 (.load 6 (.load 7 (.load 8 (.alt 5 (.load 9 (.alt 10 (.alt 11 (.load 12 (.fin)) (.none)) (.none))) (.none)))))))))) (H.pick [0]) fun z H=> ?_;refine go ?_;refine c1X (H.pick [0]) H Fh (ctime_any o[j]! _) fun z H=> ?_;refine go ?_;refine bs1X (H.pick [0]) H u44 ti125 fun g20 z H=> ?_;refine apX (H.pick [1]) H 2 0 rfl [⟨o[j]!.nm,clk o[j]!.lo,o[j]!.n⟩] u44 ti125 rfl Sp.one (room_le dl (Nat.le_refl 1) Om) fun v22 z H=> ?_;refine go ?_;refine WX.nil (H.pick [1]) ?_;refine go ?_;exact Rs [(12,_),(3,_)] Sx ⟨(j+1),v22,rfl,rfl,(by rw[show coA o (j+1)=((coA o j)++[⟨o[j]!.nm,clk o[j]!.lo,o[j]!.n⟩])from if_pos p16];exact(H.pick [2])),Om⟩
  ·refine G3 ?_;refine sb [3,4,10,11,12] ?_;refine go ?_;exact Rs [(12,_),(3,_)] Sx ⟨(j+1),v,rfl,rfl,(by rw[show coA o (j+1)=(coA o j)from if_neg p16];exact(H.pick [1])),Om⟩
 ·obtain rfl:j=n_o:=Om;obtain⟨A24,n25,c26,rfl,_,_,_⟩:=H.op 0;have e_A:=(H.l 0).len;have l_A:=coA_len o j;refine go ?_;refine c3 Fh (sstC_any _ _ _ _ 91 [] cmpSp _ _ _ (H.front [0]) Om Fh (fun l1 _ w1 H1 a ha b hb=>corder_any a b w1)) ?_;rintro _ z ⟨rfl,H⟩;refine⟨_,rfl,?_⟩;obtain⟨L,hL⟩:∃q,q=coL o:=⟨_,rfl⟩;rw[show stabF cmpSp (coA o j)=L from by rw[hL];unfold coL;rw[e_o]]at H;have e_L:=(H.l 0).len;have H:=H.nilRow 125 Sp.c 3;refine go ?_;refine sb [37,4,3,35,36] ?_;refine WC.loopS 2 (fun mz Ed W'=>∃i:Nat,∃v0:Value,mz=n25-i∧Ed=[(37,.int .i64 ((i:Nat):Int)),(4,v0)]∧Hp w W' (row 125 Sp.c 3 v0 (ctR L i)::_::[])∧(i≤n25)) _ ⟨0,_,rfl,rfl,(H.pick [0,0]),(Nat.zero_le _)⟩ ?_;rintro _ _ z ⟨i,v0,rfl,rfl,H,il⟩;have ol:=ctR_len L i;refine go ?_;refine Cd (fun p33=> ?_) fun p33=> ?_
  ·have b36:i<n25:=Om;refine go ?_;refine al H ti125 fun g37 z H=> ?_;refine go ?_;refine st H 0 ti125 fun z H=> ?_;refine go ?_;refine Qr ?_;refine G10 ?_;refine qg (fun hb=>Y.indexLs (i+1) (H.l 2) rfl u44 ti125 (evg rfl hb) (evg rfl hb) rfl (by have q0:=(dec_t hb);omega)) ?_;refine G1 ?_;refine WQ.callG rfl (blt rfl) rfl rfl rfl rfl rfl Fh (fun hb=>(evs_cons (evg rfl hb) (evs_cons (evg rfl hb) evs_nil))) (fun hb w hw=>calls_ext hw (corder_any L[i]! L[i+1]! _)) ?_;refine go ?_;refine Qd H fun z H=> ?_;refine go ?_;refine Cd (fun p41=> ?_) fun p41=> ?_
   ·refine go ?_;exact Rs [(37,_),(4,_)] Sx ⟨(i+1),v0,rfl,rfl,(by rw[show ctR L (i+1)=ctR L i from if_pos (show((i:Int)+1<(L.length:Int))∧cmpSp L[i]! L[i+1]! =0 from by rw[e_L];exact p41)];exact(H.pick [1,1])),Om⟩
   ·obtain⟨A44,n45,c46,rfl,_,_,_⟩:=H.op 1;have e_O:=(H.l 1).len;refine G8 ?_;refine sb [3,4,8,9,35,36,37] ?_;refine go ?_;refine Qr ?_;refine G6 ?_;refine qg (fun hb=>Y.indexLs (n45-1) (H.l 1) rfl u44 ti125 (evg rfl hb) (evg rfl hb) (by have q0:=(dec_t hb);omega) (by have q0:=(dec_t hb);omega)) ?_;refine G10 ?_;refine qg (fun hb=>Y.indexLs (n45-1) (H.l 1) rfl u44 ti125 (evg rfl hb) (evg rfl hb) (by have q0:=(And.intro (dec_t (and_t hb).1) (beqB_eq.1 (and_t hb).2));omega) (by have q0:=(And.intro (dec_t (and_t hb).1) (beqB_eq.1 (and_t hb).2));omega)) ?_;refine go ?_;refine Qd H fun z H=> ?_;refine go ?_;refine Cd (fun p48=> ?_) fun p48=> ?_
    ·refine go ?_;exact Rs [(37,_),(4,_)] Sx ⟨(i+1),(.slice A44 n45 c46),rfl,rfl,(by rw[show ctR L (i+1)=ctR L i from(if_neg (show¬(((i:Int)+1<(L.length:Int))∧cmpSp L[i]! L[i+1]! =0)from by rw[e_L];exact(fun q=>p41.elim (fun h=>h q.1) (fun h=>h q.2)))).trans (if_pos (show(((ctR L i).length:Int)>0∧(ctR L i)[(ctR L i).length-1]!.nm=L[i]!.nm)∧(ctR L i)[(ctR L i).length-1]!.v=L[i]!.v from by rw[e_O];exact p48))];exact(H.pick [1,1])),Om⟩
    ·refine go ?_;refine bs1 H u44 ti125 fun g49 z H=> ?_;refine ap H 2 0 rfl [L[i]!] u44 ti125 rfl Sp.one (room_le ol (Nat.le_refl 1) Om) fun v51 z H=> ?_;refine G4 ?_;refine sb [3,4,35,36,37] ?_;refine go ?_;exact Rs [(37,_),(4,_)] Sx ⟨(i+1),v51,rfl,rfl,(by rw[show ctR L (i+1)=(ctR L i++[L[i]!])from(if_neg (show¬(((i:Int)+1<(L.length:Int))∧cmpSp L[i]! L[i+1]! =0)from by rw[e_L];exact(fun q=>p41.elim (fun h=>h q.1) (fun h=>h q.2)))).trans (if_neg (show¬((((ctR L i).length:Int)>0∧(ctR L i)[(ctR L i).length-1]!.nm=L[i]!.nm)∧(ctR L i)[(ctR L i).length-1]!.v=L[i]!.v)from by rw[e_O];exact(fun q=>p48.elim (fun h=>(fun q=>h.elim (fun h=>h q.1) (fun h=>h q.2)) q.1) (fun h=>h q.2))))];exact(H.pick [2,2])),Om⟩
  ·refine go ?_;refine Rt [_] ?_;exact⟨_,rfl,(by rw[show coF o=ctR L i from by unfold coF;rw[←hL,show L.length=i from Om]];exact H.out 0),H.ext⟩
end TW
end Go.Proofs.YtaclfjjipnpboaaGreatDoor
end
namespace Go.Eng
open Go Go.RowKit
abbrev HpP(W:World)(L:List Res)(g o1 o2:Nat)(v1 v2:Value):World→Prop:=fun w=>Hp W w L∧w.cell? ⟨g,o1,none⟩=some v1∧w.cell? ⟨g,o2,none⟩=some v2
theorem setAll_low:∀(vs cs:List Value) (i n:Nat),n≤i→(setAll cs i vs).take n=cs.take n
 |[],_,_,_,_=>rfl
 |v::r,cs,i,n,h=>by
  show(setAll (cs.set i v) (i+1) r).take n=_;rw[setAll_low r (cs.set i v) (i+1) n Om,List.take_set_of_le h]
theorem zeroCells_one{z:Array Value}{n:Nat}(h:(z.toList.all Value.oneCell')=true):(Builtin.zeroCells z n).toList.length=n*z.size∧∀v∈(Builtin.zeroCells z n).toList,v.oneCell'=true:=by
 unfold Builtin.zeroCells;refine⟨by simp,fun v hv=> ?_⟩;rw[Array.toList_map,List.mem_map]at hv;obtain⟨i,hi,rfl⟩:=hv;have hi':i<n*z.size:=by grind
 have hz:0<z.size:=by
  grind
 simp_all [Nat.mod_lt,getElem!_pos,List.all_eq_true]
section
variable{P:Program}{n:Nat}{ops:Array Oper}{Q:Exit→Act→World→Prop}{E:Env}{W w:World}{L L':List Res}{o:Oper}{rest:List Oper}{d:Nat}
theorem run_clearE{α:Type}{t ty e:TypeId}{f:α→List Value}{sz base:Nat}{A A':Option Addr}{len cap cap2 i:Nat}{l:List α}{z:Value}{by':Nat}(hU:P.underlying t=some (.slice e))(hT:TI P e z sz by')(hz:z.cells.size=sz)(h1:(z.cells.toList.all Value.oneCell')=true)(own:OwnL w base e f sz (.slice A len cap) l)(hf:∀x,(f x).length=sz)(hi:i≤len)(hA:i<len→A'=A.map (·.add (i*sz))):
  ∃w',(Builtin.clear_ #[t] ty #[.slice A' (len-i) cap2]).run P w= .ok (.tuple #[]) w'∧OwnL w' base e f sz (.slice A i cap) (l.take i)∧Gr w w' (Value.slice A len cap).ownBlock:=by
 have hc:=OwnL.cut own hf hi;rcases Nat.lt_or_ge i len with q|q
 ·have hB:=hA q;rcases own.2 with⟨hs',h0⟩|⟨g,cap',cur,hs',g1,g2,g3,g4,g5,g6⟩
  ·grind
  ·injection hs' with e1 e2 e3
   subst e1;subst e2;subst e3;have hA':A'=some ⟨g,i*sz,none⟩:=by rw[hB,Option.map_some,add_blk,Nat.zero_add]
   subst hA';have hb:Blk w g e cur.toList:=by simp_all [Blk]
   obtain⟨z1,z2⟩:=zeroCells_one (n:=l.length-i) h1;rw[hz]at z1;have hc5:cur.toList.length=cap*sz:=Om;have hmul:i*sz+(l.length-i)*sz≤cap*sz:=by rw[←Nat.add_mul];simp_all [Nat.mul_le_mul_right]
   obtain⟨w',hr,hon,hb'⟩:=run_storeCells (P:=P) (Builtin.zeroCells z.cells (l.length-i)).toList w cur.toList (i*sz) 0 hb Om z2;obtain⟨k,hk⟩:∃k,l.length-i=k+1:=⟨l.length-i-1,Om⟩;refine⟨w',?_,⟨hc.1,.inr ⟨g,cap,(setAll cur.toList (i*sz+0) (Builtin.zeroCells z.cells (l.length-i)).toList).toArray,by grind,g1,by unfold Blk at hb';omega,by grind,g4,?_,?_⟩⟩,?_⟩
   ·rw[hk]at hr ⊢;simp[Builtin.clear_,run_underlying hU,hT.zeroValue,hr]
   ·rw[List.size_toArray,length_setAll,hc5]
   ·have e1:(l.take i).length=i:=by grind
    rw[e1,Nat.add_zero];show(setAll cur.toList (i*sz) _).take (i*sz)=_;rw[setAll_low _ _ _ _ Nl,flatMap_takeK hf,←g6,List.take_take];simp_all
   ·exact⟨⟨hon.os,hon.tape,hon.output,Nat.le_of_eq hon.size.symm,fun j _ hne=>hon.block j (fun hh=>hne (by rw[hh];rfl))⟩,hon.dr⟩
 ·have e:len-i=0:=Om;rw[e];refine⟨w,?_,hc,Gr.refl _ _⟩;cases A'<;>simp[Builtin.clear_,run_underlying hU]
theorem clE{α:Type}{e t:TypeId}{f:α→List Value}{sz:Nat}{A:Option Addr}{i len cap:Nat}{l:List α}{c:Call}{z:Value}{by':Nat}(H:Hp W w L)(k:Nat)(hk:L[k]? =some (row e f sz (.slice A len cap) l))(hU:P.underlying t=some (.slice e))(hT:TI P e z sz by')(hi:i≤len)(hcp:i<len→cap≠i)
  (h:∀w',Hp W w' L'→WL P n ops Q rest E w')
  (hd:o.dst=none:=by exact rfl) (hg:o.guard=none:=by exact rfl) (ho:o.op= .call c:=by exact rfl) (hc:c.callee= .builtin .clear:=by exact rfl) (ht:c.argTypes= #[t]:=by exact rfl) (ha:evs E c.args.toList=some [.slice (if cap=i then A else A.map (·.add (i*sz))) (len-i) (cap-i)]:=by exact rfl)
  (p:Put (row e f sz (.slice A i cap) (l.take i)) k (row e f sz (.slice A len cap) l) L L':=by repeat (first|exact Put.here|apply Put.there)) (hf:∀x,(f x).length=sz:=by exact fun _=>rfl) (hz:z.cells.size=sz:=by exact rfl) (h1:(z.cells.toList.all Value.oneCell')=true:=by exact rfl):WL P n ops Q (o::rest) E w:=by
 intro a hA;obtain⟨cb,hcb⟩:=run_builtin (P:=P) (w:=w) hA ho hc ha;obtain⟨w',hr,h2,h3⟩:=run_clearE (P:=P) (ty:=o.type) (A':=if cap=i then A else A.map (·.add (i*sz))) (cap2:=cap-i) hU hT hz h1 (H.get hk) hf hi (fun q=>if_neg (hcp q));refine wpList_plain hg fun K hK=> ?_;unfold Oper.wp;rw[hcb];simp only[builtin,ht,Sem.run_bind,hr,Result.andThen_ok,Sem.run_pure];refine hK _ _ ?_;rw[hd];refine h w' ?_ _ hA;refine H.putD p fun M K=>K.turn h3.size (fun b hb hf=>h3.block b hb (fun e=>hf e.symm)) (K.ext.grown h3 fun b hb=>K.own _ List.mem_cons_self b hb) h2 fun b hf=>.inl ?_;exact(show(Value.slice A len cap).ownBlock=some b from by cases A<;>exact hf)
end
end Go.Eng
section
attribute [local irreducible] Go.Eng.WC Go.Eng.WL Go.Eng.WK Go.Eng.WQ Go.Eng.WX Go.Eng.Yld
namespace Go.Proofs.YtaclfjjipnpboaaGreatDoor
open Go Go.Eng Go.RowKit
namespace TW
theorem mdel_any(x:Bk)(w:World):
  Cr 94 #[.agg #[.int .i64 x.id,.int .i64 x.th,.int .i64 x.sz,.int .i64 x.fr,.int .i64 x.to,.slice x.A x.k x.c_,.bool x.lv]] w (.bool (decide (x.to≤x.fr))):=by
 have H:=(Hp.nil w);refine Wb Tryz.func94 ?_;refine go ?_;refine bx H fun g2 z H=> ?_;refine go ?_;refine Rt [_] ?_;exact⟨rfl,H.ext⟩
theorem mcmp_any(a:Bk)(b:Bk)(w:World):
  Cr 96 #[.agg #[.int .i64 a.id,.int .i64 a.th,.int .i64 a.sz,.int .i64 a.fr,.int .i64 a.to,.slice a.A a.k a.c_,.bool a.lv],.agg #[.int .i64 b.id,.int .i64 b.th,.int .i64 b.sz,.int .i64 b.fr,.int .i64 b.to,.slice b.A b.k b.c_,.bool b.lv]] w (.int .i64 (cmpBk a b)):=by
 have H:=(Hp.nil w);refine Wb Tryz.func96 ?_;refine go ?_;refine bx H fun g2 z H=> ?_;refine bx H fun g4 z H=> ?_;refine go ?_;refine c1 H Fh (cmpI_any _ _ _) fun z H=> ?_;refine go ?_;refine Rt [_] ?_;exact⟨rfl,H.ext⟩
theorem ixfB_any(A_l:Option Addr)(n_l c_l:Nat)(l:List Bk)(f:FuncId)(cap:List Value)(pr:Bk→Bool)(w:World)(h_l:Ls w A_l n_l c_l Bk.c 7 l)(hF:Has Tryz.prog f)(hp:∀k,k<l.length→∀w1,Ext w w1→Calls Tryz.prog f ([]++[Value.agg (Bk.c l[k]!).toArray]++cap).toArray w1 fun e w2=>e= .returned (.bool (pr l[k]!))∧Ext w1 w2):
  Cr 138 #[.slice A_l n_l c_l,.func (.func f) #[] cap.toArray] w (.int .i64 (ixP pr l)):=by
 have H:=(Hp.nil w);have e_l:=h_l.len;have z_l:=h_l.nle;refine Wb Tryz.func138 ?_;refine go ?_;refine sb [8,0,1,7] ?_;refine WC.loopS 1 (fun mz Ed W'=>∃j:Nat,mz=n_l-j∧Ed=[(8,.int .i64 ((j:Nat):Int))]∧Hp w W' ([])∧(j≤n_l)∧(∀k,k<j→pr l[k]! =false)) _ ⟨0,rfl,rfl,(H.pick []),(Nat.zero_le _),(fun k h=>absurd h (Nat.not_lt_zero k))⟩ ?_;rintro _ _ z ⟨j,rfl,rfl,H,jl,hb⟩;refine go ?_;refine Cd (fun p6=> ?_) fun p6=> ?_
 ·have b10:j<n_l:=Om;refine go ?_;refine c1V rfl H hF (hp j Om _ H.ext) fun z H=> ?_;refine go ?_;refine WC.cond rfl (fun h11=> ?_) (fun h11=> ?_)
  ·refine go ?_;refine Rt [_] ?_;exact⟨ret1 (vi (ixP_at Om hb h11).symm),H.ext⟩
  ·refine go ?_;exact Rs [(8,_)] Sx ⟨(j+1),rfl,rfl,(H.pick []),Om,(fun k h=>(Nat.lt_succ_iff_lt_or_eq.1 h).elim (hb k) fun e=>e▸h11)⟩
 ·refine go ?_;refine Rt [_] ?_;exact⟨ret1 (vi (ixP_no (fun k hk=>hb k Om)).symm),H.ext⟩
theorem delB_any(v:Value)(l:List Bk)(f:FuncId)(cap:List Value)(pr:Bk→Bool)(W:World)(R:List Res)(w:World)(H:Hp W w (row 135 Bk.c 7 v l::R))(hF:Has Tryz.prog f)(hp:∀x∈l,∀w1,Calls Tryz.prog f ([]++[Value.agg (Bk.c x).toArray]++cap).toArray w1 fun e w2=>e= .returned (.bool (pr x))∧Ext w1 w2):
  Calls Tryz.prog 93 #[v,.func (.func f) #[] cap.toArray] w fun e w'=>∃v',e= .returned v'∧Hp W w' (row 135 Bk.c 7 v' (l.filter fun x=> !pr x)::R):=by
 refine Wb Tryz.func93 ?_;obtain⟨A4,n5,c6,rfl,_,_,_⟩:=H.op 0;have e_l:=(H.l 0).len;refine G3 ?_;refine sb [0,1] ?_;refine go ?_;refine c1 H Fh (ixfB_any _ _ _ _ f cap pr _ (H.l 0) hF (fun k hk w1 _=>hp _ (mem_b hk) w1)) fun z H=> ?_;refine go ?_;refine Cd (fun p10=> ?_) fun p10=> ?_
 ·refine go ?_;refine Rt [_] ?_;exact⟨_,rfl,(by rw[ixP_none p10];exact H)⟩
 ·obtain⟨i0,hi0,hi1,hi2⟩:=ixP_some (p:=pr) (l:=l) p10;refine G5 ?_;refine yy (Yld.cast (Y.add rfl rfl rfl Wo) (vi (show ixP pr l+1=(((ixP pr l).toNat+1:Nat):Int)from Om))) ?_;refine go ?_;refine sb [6,5,0,1] ?_;refine WC.loopS 2 (fun mz Ed W'=>∃j:Nat,∃i:Nat,∃M:List Bk,∃iv:Int,mz=n5-j∧Ed=[(6,.int .i64 ((j:Nat):Int)),(5,.int .i64 iv)]∧Hp W W' (row 135 Bk.c 7 (.slice A4 n5 c6) M::R)∧(iv=(i:Int))∧(j≤n5)∧(Dl pr l M i j)) _ ⟨((ixP pr l).toNat+1),(ixP pr l).toNat,l,(ixP pr l),rfl,rfl,H,i0,Om,(Dl.start hi0 hi1 hi2)⟩ ?_;rintro _ _ z ⟨j,i,M,iv,rfl,rfl,H,hiv,jn,hd⟩;have wl:=hd.len;have hij:=hd.ij;refine go ?_;refine Cd (fun p16=> ?_) fun p16=> ?_
  ·have b19:j<n5:=Om;refine go ?_;refine al H ti135 fun g20 z H=> ?_;refine st H 0 ti135 fun z H=> ?_;refine go ?_;refine c1V rfl H hF (hp M[j]! (by rw[hd.kp j Nl Om];exact mem_b (show j<l.length from Om)) _) fun z H=> ?_;refine go ?_;refine WC.cond rfl (fun h23=> ?_) (fun h23=> ?_)
   ·have b25:i<n5:=Om;refine G4 ?_;refine yy (Y.indexLs i (H.l 1) rfl u45 ti135 rfl rfl Om b25) ?_;refine ste H 1 rfl M[j]! b25 ti135 rfl fun z H=> ?_;refine go ?_;exact Rs [(6,_),(5,_)] Sx ⟨(j+1),(i+1),(M.set i M[j]!),_,rfl,rfl,(H.drop [0]),Om,Om,(by rw[hd.kp j Nl Om];exact hd.keep Om (by rw[←hd.kp j Nl Om];exact not_t h23))⟩
   ·refine G3 ?_;refine sb [0,1,5,6] ?_;refine go ?_;exact Rs [(6,_),(5,_)] Sx ⟨(j+1),i,M,_,rfl,rfl,(H.drop [0]),Om,Om,(hd.del Om (by rw[←hd.kp j Nl Om];exact not_f h23))⟩
  ·have hi9:i≤n5:=Om;have b27:i≤n5:=Om;refine G8 ?_;refine yy (Y.sliceL i rfl u45 ti135 rfl rfl Om b27) ?_;refine clE (i:=i) H 0 rfl u45 ti135 Om (fun q=>by omega) fun z H=> ?_;have b29:i≤n5:=Om;refine G4 ?_;refine yy (Yld.cast (Y.sliceH i rfl u45 ti135 rfl rfl Om Om) rfl) ?_;refine go ?_;refine Rt [_] ?_;have e:=hd.end_ (show l.length≤j by omega);exact⟨_,rfl,(by rw[←e];exact H)⟩
theorem sgB:SG Bk.c 7 (fun x:Bk=>.agg (Bk.c x).toArray) (45,135,220) (id) where
 u:=Tryz.underlying45
 t0:=⟨_,_,ti135⟩
 len:=fun _=>rfl
 pos:=by decide
 cells:=fun _=>rfl
 one:=fun x=>List.all_eq_true.2 (Bk.one x)
 ld0:=fun o n E C x A m cap l k ho hx h hk=>Y.loadS ho Tryz.underlying135 rfl ti135 hx (Ls.part_c h hk (by rw[List.drop_zero,List.take_length]))
 f224:=⟨_,Tryz.func224,by kernel_rfl,by kernel_rfl,by kernel_rfl,by kernel_rfl⟩
 f173:=⟨_,Tryz.func173,by kernel_rfl,by kernel_rfl,by kernel_rfl,by kernel_rfl⟩
 f201:=⟨_,Tryz.func201,by kernel_rfl,by kernel_rfl,by kernel_rfl,by kernel_rfl⟩
 f174:=⟨_,Tryz.func174,by kernel_rfl,by kernel_rfl,by kernel_rfl,by kernel_rfl⟩
 f139:=⟨_,Tryz.func139,by kernel_rfl,by kernel_rfl,by kernel_rfl,by kernel_rfl⟩
 f95:=⟨_,Tryz.func95,by kernel_rfl,by kernel_rfl,by kernel_rfl,by kernel_rfl⟩
theorem sstB_any(A:Option Addr)(n q:Nat)(l:List Bk)(f:FuncId)(cap:List Value)(c:Bk→Bk→Int)(W:World)(R:List Res)(w:World)(H:Hp W w (row 135 Bk.c 7 (.slice A n q) l::R))(h1:n≤39)(hF:Has Tryz.prog f)(hc:∀l1:List Bk,(∀x∈l1,x∈l)→∀w1,Hp W w1 (row 135 Bk.c 7 (.slice A n q) l1::R)→∀x∈l,∀y∈l,Calls Tryz.prog f ([]++[(Value.agg #[.int .i64 x.id,.int .i64 x.th,.int .i64 x.sz,.int .i64 x.fr,.int .i64 x.to,.slice x.A x.k x.c_,.bool x.lv]),(Value.agg #[.int .i64 y.id,.int .i64 y.th,.int .i64 y.sz,.int .i64 y.fr,.int .i64 y.to,.slice y.A y.k y.c_,.bool y.lv])]++cap).toArray w1 fun e w2=>e= .returned (.int .i64 (c x y))∧Ext w1 w2):
  Calls Tryz.prog 95 #[.slice A n q,.func (.func f) #[] cap.toArray] w fun e w'=>e= .returned (resVal [])∧Hp W w' (row 135 Bk.c 7 (.slice A n q) (stabF c l)::R):=sstG_any sgB A n q l f cap c W R w H h1 hF hc
theorem memory_any(A_o:Option Addr)(n_o c_o:Nat)(o:List Tm)(en:Int)(w:World)(h_o:Ls w A_o n_o c_o Tm.c 10 o)(hn:n_o≤39)(hne:0<n_o):
  Calls Tryz.prog 36 #[.slice A_o n_o c_o,.int .i64 en] w fun e w'=>∃v,e= .returned v∧OwnL w' w.heap.size 135 Bk.c 7 v (mmF o en)∧Ext w w':=by
 have H:=(Hp.nil w);have e_o:=h_o.len;have z_o:=h_o.nle;refine Wb Tryz.func36 ?_;refine go ?_;refine WC.cond rfl (fun h4=> ?_) (fun h4=> ?_)
 ·have p4:=(dec_t h4);refine G5 ?_;refine yy (Yld.cast (Y.sub rfl rfl rfl Wo) (vi (show(n_o:Int)-1=(((n_o-1):Nat):Int)from Om))) ?_;have b5:(n_o-1)<n_o:=Om;refine yy (Y.indexLs (n_o-1) (h_o.ext H.ext) rfl u101 ti107 rfl rfl Om b5) ?_;refine go ?_;refine c1 H Fh (mtime_any o[n_o-1]! _) fun z H=> ?_;obtain⟨E,hE⟩:∃q,q=mmE o en:=⟨_,rfl⟩;have hE0:max 0 (min (max en (clk o[n_o-1]!.lo)) 1000000000000)=E:=by rw[hE];unfold mmE;rw[if_pos Om,e_o];rfl
  refine G6 ?_;refine yy (Yld.cast (Y.maxI rfl rfl rfl rfl) (vi hE0)) ?_;refine G6 ?_;refine mm H fun g9 z H=> ?_;have H:=H.nilRow 135 Bk.c 7;refine go ?_;refine sb [30,5,1,6,28,29] ?_;refine WC.loopS 2 (fun mz Ed W'=>∃j:Nat,∃v:Value,mz=n_o-j∧Ed=[(30,.int .i64 ((j:Nat):Int)),(5,v)]∧Hp w W' (row 135 Bk.c 7 v ((mmN E o j).2)::mpi g9 (xam intE (mmN E o j).1)::[])∧(j≤n_o)) _ ⟨0,_,rfl,rfl,(H.pick [0,0]),(Nat.zero_le _)⟩ ?_;rintro _ _ z ⟨j,v,rfl,rfl,H,jl⟩;obtain⟨dlen,drg⟩:=mmN_ok E o j;refine go ?_;refine Cd (fun p17=> ?_) fun p17=> ?_
  ·have b20:j<n_o:=Om;refine go ?_;refine al H ti107 fun g21 z H=> ?_;refine st H 0 ti107 fun z H=> ?_;refine go ?_;refine Cd (fun p26=> ?_) fun p26=> ?_
   ·refine go ?_;exact Rs [(30,_),(5,_)] Sx ⟨(j+1),v,rfl,rfl,(by rw[show mmN E o (j+1)=(mmN E o j)from if_pos p26];exact(H.pick [1,1])),Om⟩
   ·refine G2 ?_;refine sb [1,5,6,8,9,28,29,30] ?_;refine G4 ?_;rcases hg:xget (mmN E o j).1 o[j]!.n with _|i
    ·refine yy (Y.lookupOk rfl u178 u3 ti3 rfl rfl (fun _ h=>h▸(H.mi 2))) ?_;refine G1 ?_;refine yy (Yld.cast (Y.extract rfl rfl rfl) (mval_xam0 intE hg _)) ?_;refine yy (Yld.cast (Y.extract rfl rfl rfl) (vb (show(mget (xam intE (mmN E o j).1) o[j]!.n).isSome=false from by rw[isSome_xam,hg];rfl))) ?_;refine go ?_;refine WC.condF rfl ?_;refine go ?_;refine Cd (fun p31=> ?_) fun p31=> ?_
     ·obtain⟨A33,n34,c35,rfl,_,_,_⟩:=H.op 1;refine G4 ?_;refine yy (Yld.cast (Y.lenSl rfl rfl rfl u45 rfl) (vi (show((n34:Nat):Int)=((((mmN E o j).2)).length:Int)from by rw[(H.l 1).len]))) ?_;refine mu H 2 u178 u3 fun z H=> ?_;refine go ?_;refine Xr H (HpC w _) (.load 0 (.load 1 (.load 2 (.load 3 (.load 4 (.load 5 (.load 6 (.load 7 (.load 8 (.load 10 (.load 12 (.load 13 (.load 14 (.alt 9 (.load 11 (.load 15 (.alt 16 (.alt 17 (.load 18 (.fin)) (.none)) (.none)))) (.none))))))))))))))) (H.pick [0,1]) fun z H=> ?_;refine go ?_;refine c1X (H.pick [0,1]) H Fh (mtime_any o[j]! _) fun z H=> ?_;refine go ?_;refine bs1X (H.pick [0,1]) H u45 ti135 fun g36 z H=> ?_;refine apX (H.pick [1,2]) H 2 0 rfl [⟨o[j]!.n,o[j]!.th,o[j]!.m,clk o[j]!.lo,E,o[j]!.A,o[j]!.k,o[j]!.c_,o[j]!.st,true⟩] u45 ti135 rfl Bk.one (by simp only[List.length_set,List.length_cons,List.length_nil];omega) fun v38 z H=> ?_;refine go ?_;refine WX.nil (H.pick [1,2]) ?_;refine G2 ?_;refine sb [1,5,6,28,29,30] ?_;refine go ?_;exact Rs [(30,_),(5,_)] Sx ⟨(j+1),v38,rfl,rfl,(by rw[show mmN E o (j+1)=(xset (mmN E o j).1 o[j]!.n ((mmN E o j).2.length:Int),(mmN E o j).2++[⟨o[j]!.n,o[j]!.th,o[j]!.m,clk o[j]!.lo,E,o[j]!.A,o[j]!.k,o[j]!.c_,o[j]!.st,true⟩])from(by show mm1 E (mmN E o j) o[j]! =_;unfold mm1;rw[if_neg (fun q=>p26.elim (fun h=>(fun q=>q h) q.1) (fun h=>(fun q=>q h) q.2)),if_pos p31,hg];rfl),←mset_xam];exact(H.pick [2,2])),Om⟩
     ·refine go ?_;exact Rs [(30,_),(5,_)] Sx ⟨(j+1),v,rfl,rfl,(by rw[show mmN E o (j+1)=((mmN E o j).1,(mmN E o j).2)from(by show mm1 E (mmN E o j) o[j]! =_;unfold mm1;rw[if_neg (fun q=>p26.elim (fun h=>(fun q=>q h) q.1) (fun h=>(fun q=>q h) q.2)),if_neg p31,hg];rfl)];exact(H.pick [1,1])),Om⟩
    ·have ir:=drg _ (xget_mem hg);dsimp only at ir;refine yy (Y.lookupOk rfl u178 u3 ti3 rfl rfl (fun _ h=>h▸(H.mi 2))) ?_;refine G1 ?_;refine yy (Yld.cast (Y.extract rfl rfl rfl) (mval_xam intE hg _)) ?_;refine yy (Yld.cast (Y.extract rfl rfl rfl) (vb (show(mget (xam intE (mmN E o j).1) o[j]!.n).isSome=true from by rw[isSome_xam,hg];rfl))) ?_;refine go ?_;refine WC.condT rfl ?_;refine go ?_;refine c1 H Fh (mtime_any o[j]! _) fun z H=> ?_;obtain⟨A41,n42,c43,rfl,_,_,_⟩:=H.op 1;have b44:i.toNat<n42:=Om;refine yy (Y.indexLs i.toNat (H.l 1) rfl u45 ti135 rfl rfl Om b44) ?_;refine go ?_;refine ste H 1 rfl ({(mmN E o j).2[i.toNat]! with to:=clk o[j]!.lo}) b44 ti3 rfl fun z H=> ?_;have b45:i.toNat<n42:=Om;refine yy (Y.indexLs i.toNat (H.l 1) rfl u45 ti135 rfl rfl Om b45) ?_;refine go ?_;refine ste H 1 rfl ({(mmN E o j).2[i.toNat]! with to:=clk o[j]!.lo,lv:=false}) b45 ti4 (set_b Om) fun z H=> ?_;refine go ?_;refine dl H 2 u178 u3 fun z H=> ?_;rw[List.set_set]at H;refine go ?_;refine Cd (fun p47=> ?_) fun p47=> ?_
     ·refine G4 ?_;refine yy (Yld.cast (Y.lenSl rfl rfl rfl u45 rfl) (vi (show((n42:Nat):Int)=((((mmN E o j).2.set i.toNat ({(mmN E o j).2[i.toNat]! with to:=clk o[j]!.lo,lv:=false}))).length:Int)from by rw[(H.l 1).len]))) ?_;refine mu H 2 u178 u3 fun z H=> ?_;refine G1 ?_;refine sb [1,5,6,8,9,28,29,30] ?_;refine Xr H (HpC w _) (.load 0 (.load 1 (.load 2 (.load 3 (.load 4 (.load 5 (.load 6 (.load 7 (.load 8 (.load 10 (.load 12 (.load 13 (.load 14 (.alt 9 (.load 11 (.load 15 (.alt 16 (.alt 17 (.load 18 (.fin)) (.none)) (.none)))) (.none))))))))))))))) (H.pick [0,1]) fun z H=> ?_;refine go ?_;refine c1X (H.pick [0,1]) H Fh (mtime_any o[j]! _) fun z H=> ?_;refine go ?_;refine bs1X (H.pick [0,1]) H u45 ti135 fun g49 z H=> ?_;refine apX (H.pick [1,2]) H 2 0 rfl [⟨o[j]!.n,o[j]!.th,o[j]!.m,clk o[j]!.lo,E,o[j]!.A,o[j]!.k,o[j]!.c_,o[j]!.st,true⟩] u45 ti135 rfl Bk.one (by simp only[List.length_set,List.length_cons,List.length_nil];omega) fun v51 z H=> ?_;refine go ?_;refine WX.nil (H.pick [1,2]) ?_;refine go ?_;exact Rs [(30,_),(5,_)] Sx ⟨(j+1),v51,rfl,rfl,(by rw[show mmN E o (j+1)=(xset (xdel (mmN E o j).1 o[j]!.n) o[j]!.n (((mmN E o j).2.set i.toNat ({(mmN E o j).2[i.toNat]! with to:=clk o[j]!.lo,lv:=false})).length:Int),((mmN E o j).2.set i.toNat ({(mmN E o j).2[i.toNat]! with to:=clk o[j]!.lo,lv:=false}))++[⟨o[j]!.n,o[j]!.th,o[j]!.m,clk o[j]!.lo,E,o[j]!.A,o[j]!.k,o[j]!.c_,o[j]!.st,true⟩])from(by show mm1 E (mmN E o j) o[j]! =_;unfold mm1;rw[if_neg (fun q=>p26.elim (fun h=>(fun q=>q h) q.1) (fun h=>(fun q=>q h) q.2)),if_pos p47,hg];rfl),←mset_xam,←mdel_xam];exact(H.pick [2,2])),Om⟩
     ·refine go ?_;exact Rs [(30,_),(5,_)] Sx ⟨(j+1),(.slice A41 n42 c43),rfl,rfl,(by rw[show mmN E o (j+1)=((xdel (mmN E o j).1 o[j]!.n),((mmN E o j).2.set i.toNat ({(mmN E o j).2[i.toNat]! with to:=clk o[j]!.lo,lv:=false})))from(by show mm1 E (mmN E o j) o[j]! =_;unfold mm1;rw[if_neg (fun q=>p26.elim (fun h=>(fun q=>q h) q.1) (fun h=>(fun q=>q h) q.2)),if_neg p47,hg];rfl),←mdel_xam];exact(H.pick [1,1])),Om⟩
  ·refine go ?_;refine c3 Fh (delB_any _ _ 94 [] (fun b=>decide (b.to≤b.fr)) _ _ _ (H.front [0]) Fh (fun x _ w1=>mdel_any x w1)) ?_;rintro _ z ⟨v53,rfl,H⟩;refine⟨_,rfl,?_⟩;have fl:=List.length_filter_le (fun b:Bk=> !decide (b.to≤b.fr)) (mmN E o j).2;obtain⟨A55,n56,c57,rfl,_,_,_⟩:=H.op 0;have e_F:=(H.l 0).len;refine go ?_;refine c3 Fh (sstB_any _ _ _ _ 96 [] cmpBk _ _ _ (H.front [0]) Om Fh (fun l1 _ w1 H1 a ha b hb=>mcmp_any a b w1)) ?_;rintro _ z ⟨rfl,H⟩;refine⟨_,rfl,?_⟩;refine G5 ?_;refine sb [4] ?_;refine go ?_;refine Rt [_] ?_;exact⟨_,rfl,(by rw[show mmF o en=stabF cmpBk ((mmN E o j).2.filter fun b=> !decide (b.to≤b.fr))from by unfold mmF;rw[←hE,show o.length=j from Om]];exact H.out 0),H.ext⟩
 ·exfalso;have q:=dec_f h4;omega
end TW
end Go.Proofs.YtaclfjjipnpboaaGreatDoor
end
