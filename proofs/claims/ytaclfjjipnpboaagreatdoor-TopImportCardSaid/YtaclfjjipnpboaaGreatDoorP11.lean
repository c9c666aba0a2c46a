/- Part 11 of the proof. Conditions: what each theorem states. -/
import Derived.Test.YtaclfjjipnpboaaGreatDoorP01
import Derived.Test.YtaclfjjipnpboaaGreatDoorP08
import Derived.Test.YtaclfjjipnpboaaGreatDoorP10
import Derived.Test.YtaclfjjipnpboaaGreatDoorP04
import Derived.Test.YtaclfjjipnpboaaGreatDoorP03
import Derived.Test.YtaclfjjipnpboaaGreatDoorProg
set_option linter.all false
set_option maxHeartbeats 4000000
set_option maxRecDepth 4000
namespace Go.Proofs.YtaclfjjipnpboaaGreatDoor
open Go Go.Eng Go.RowKit
namespace TW
def agB(l:List Sn)(i:Nat):Nat→Bool
 |0=>false
 |j+1=>agB l i j||snSame l[i]! l[j]!
def dfN(l:List Sn):Nat→List Sn
 |0=>[]
 |i+1=>if agB l i i=false then dfN l i++[l[i]!]else dfN l i
theorem dfN_len(l:List Sn):∀i,(dfN l i).length≤i
 |0=>Nat.le_refl _
 |i+1=>by
  have:=dfN_len l i;grind [dfN,List.length_append]
def difF(l:List Sn):List Sn:=dfN l l.length
def addK(S:List Int)(k:Int):List Int:=if k∈S then S else S++[k]
theorem mset_addK:∀(S:List Int) (k:Int),mset (pkb S) k (.bool true)=pkb (addK S k)
 |[],_=>rfl
 |x::r,k=>by
  have ih:=mset_addK r k;show(if k=x then(x,Value.bool true)::pkb r else(x,Value.bool true)::mset (pkb r) k (.bool true))=_;by_cases h:k=x
  ·subst h;rw[if_pos rfl];unfold addK;rw[if_pos List.mem_cons_self];rfl
  ·rw[if_neg h,ih];unfold addK;by_cases q:k∈r
   ·rw[if_pos q,if_pos (List.mem_cons_of_mem _ q)];rfl
   ·rw[if_neg q,if_neg (fun e=>(List.mem_cons.1 e).elim h q)];rfl
def lk1(S:List Int)(x:Sn):List Int:=if x.a∈S∨x.b∈S then addK (addK S x.a) x.b else S
def lkI(l:List Sn)(S:List Int)(j:Nat):List Int:=fN lk1 S l j
def lkO(l:List Sn):Nat→List Int
 |0=>[0]
 |k+1=>lkI l (lkO l k) l.length
def lnkF(d:List Dm)(l:List Sn)(id:Int):Bool:=if ckE d l≠0∨ixD d id<0 then false else decide (id∈lkO (difF l) d.length)
def ptN(l:List Sn)(id:Int):Nat→List Int
 |0=>[]
 |j+1=>if l[j]!.b=id then(if l[j]!.a=id then ptN l id j++[l[j]!.ta]else ptN l id j)++[l[j]!.lo,l[j]!.hi]else(if l[j]!.a=id then ptN l id j++[l[j]!.ta]else ptN l id j)
theorem ptN_len(l:List Sn)(id:Int):∀j,(ptN l id j).length≤3*j
 |0=>Nat.le_refl _
 |j+1=>by
  have:=ptN_len l id j;grind [ptN,List.length_append,List.length_cons,List.length_nil]
def SnR(l:List Sn):Prop:=∀x∈l,(0≤x.ta∧x.ta≤1000000000000)∧(0≤x.lo∧x.lo≤1000000000000)∧0≤x.hi∧x.hi≤1000000000000
theorem ptN_rng{l:List Sn}{id:Int}(h:SnR l):∀j,j≤l.length→∀x∈ptN l id j,0≤x∧x≤1000000000000
 |0,_,x,hx=>by cases hx
 |j+1,hj,x,hx=>by
  have ih:=ptN_rng (id:=id) h j Om;have hs:=h _ (mem_b (show j<l.length from hj));have k1:∀y∈(if l[j]!.a=id then ptN l id j++[l[j]!.ta]else ptN l id j),0≤y∧y≤1000000000000:=fun y hy=>by
   grind
  unfold ptN at hx;grind
def ptF(l:List Sn)(id:Int):List Int:=csF (ptN l id l.length)
theorem ptF_ok{l:List Sn}{id:Int}(h:SnR l):(ptF l id).length≤3*l.length∧∀x∈ptF l id,0≤x∧x≤1000000000000:=
 ⟨Nat.le_trans (csF_len _) (ptN_len _ _ _),fun x hx=>ptN_rng h _ Nl x (csF_mem.1 hx)⟩
abbrev Key:=Int×Int
def nuK(ks:List Key)(k:Key):List Key:=if k∈ks then ks else ks++[k]
theorem nuK_len(ks:List Key)(k:Key):(nuK ks k).length≤ks.length+1∧ks.length≤(nuK ks k).length:=by
 grind [nuK]
theorem nuK_rng(ks:List Key)(k:Key):1≤Bd.nix (nuK ks k) k∧Bd.nix (nuK ks k) k≤((nuK ks k).length:Int):=by
 refine Bd.nix_rng ?_;grind [nuK,List.mem_append_right,List.mem_cons_self]
theorem nu_get{ks:List Key}{k:Key}(h:k∈ks):pget (Bd.numF 0 ks) k=some (.int .i64 (Bd.nix (nuK ks k) k)):=by
 simp_all [Bd.numF_get,if_pos,nuK,Bd.nix]
theorem nu_not{ks:List Key}{k:Key}(h:k∉ks):pget (Bd.numF 0 ks) k=none:=by rw[Bd.numF_get,if_neg h]
theorem nu_put{ks:List Key}{k:Key}(h:k∉ks):pset (Bd.numF 0 ks) k (.int .i64 ((ks.length:Int)+1))=Bd.numF 0 (nuK ks k)∧Bd.nix (nuK ks k) k=(ks.length:Int)+1:=by
 have e:nuK ks k=ks++[k]:=if_neg h;rw[e,Bd.nix_new h,Bd.numF_push,pset_none _ _ _ (nu_not h),Bd.numF_len];grind
structure Gs where(ks:List Key)(es:List Bd.Ed)
instance:Inhabited Gs:=⟨⟨[],[]⟩⟩
def bQ1(x:Dm)(p:Int)(n:Int)(s:Gs)(q:Int):Gs:=
 ⟨nuK s.ks (x.id,q),s.es++[⟨Bd.nix (nuK s.ks (x.id,q)) (x.id,q),n,(Iv.stretchF (p-q) x.ppm).1.2⟩,⟨n,Bd.nix (nuK s.ks (x.id,q)) (x.id,q),-(Iv.stretchF (p-q) x.ppm).1.1⟩]⟩
def bQ(x:Dm)(p n:Int)(s:Gs)(ps:List Int)(j:Nat):Gs:=fN (bQ1 x p n) s ps j
def bP1(x:Dm)(ps:List Int)(s:Gs)(i:Nat):Gs:=
 if x.id=0 then⟨nuK s.ks (x.id,ps[i]!),s.es++[⟨0,Bd.nix (nuK s.ks (x.id,ps[i]!)) (x.id,ps[i]!),ps[i]!⟩,⟨Bd.nix (nuK s.ks (x.id,ps[i]!)) (x.id,ps[i]!),0,-ps[i]!⟩]⟩
 else bQ x ps[i]! (Bd.nix (nuK s.ks (x.id,ps[i]!)) (x.id,ps[i]!)) ⟨nuK s.ks (x.id,ps[i]!),s.es⟩ (ps.take i) i
def bP(x:Dm)(ps:List Int)(s:Gs):Nat→Gs
 |0=>s
 |i+1=>bP1 x ps (bP x ps s i) i
def dpF(l:List Sn)(id at_:Int)(x:Dm):List Int:=srtI (if x.id=id∧¬at_∈ptF l x.id then ptF l x.id++[at_]else ptF l x.id)
def bD(d:List Dm)(l:List Sn)(id at_:Int):Nat→Gs
 |0=>default
 |k+1=>bP d[k]! (dpF l id at_ d[k]!) (bD d l id at_ k) (dpF l id at_ d[k]!).length
def bS1(s:Gs)(x:Sn):Gs:=
 let k1:=nuK s.ks (x.a,x.ta)
 let k2:=nuK k1 (x.b,x.lo)
 let k3:=nuK k2 (x.b,x.hi)
 ⟨k3,s.es++[⟨Bd.nix k1 (x.a,x.ta),Bd.nix k2 (x.b,x.lo),0⟩,⟨Bd.nix k3 (x.b,x.hi),Bd.nix k1 (x.a,x.ta),0⟩]⟩
def bF(d:List Dm)(l:List Sn)(id at_:Int):Gs:=fN bS1 (bD d l id at_ d.length) l l.length
structure GsOk(s:Gs)(K M:Nat):Prop where
 k:s.ks.length≤K
 m:s.es.length≤M
 e:∀e∈s.es,(0≤e.u∧e.u≤(s.ks.length:Int))∧(0≤e.v∧e.v≤(s.ks.length:Int))∧-1010000000000≤e.w∧e.w≤1010000000000
theorem GsOk.up{s:Gs}{K M K' M':Nat}(h:GsOk s K M)(h1:K≤K')(h2:M≤M'):GsOk s K' M':=⟨Nat.le_trans h.k h1,Nat.le_trans h.m h2,h.e⟩
theorem GsOk.key{s:Gs}{K M:Nat}(h:GsOk s K M)(k:Key):GsOk ⟨nuK s.ks k,s.es⟩ (K+1) M:=by
 have:=nuK_len s.ks k;exact⟨by have:=h.k;grind,h.m,fun e he=>by have:=h.e e he;grind⟩
theorem GsOk.two{s:Gs}{K M:Nat}(h:GsOk s K M){a b:Bd.Ed}(ha:(0≤a.u∧a.u≤(s.ks.length:Int))∧(0≤a.v∧a.v≤(s.ks.length:Int))∧-1010000000000≤a.w∧a.w≤1010000000000)(hb:(0≤b.u∧b.u≤(s.ks.length:Int))∧(0≤b.v∧b.v≤(s.ks.length:Int))∧-1010000000000≤b.w∧b.w≤1010000000000):GsOk ⟨s.ks,s.es++[a,b]⟩ K (M+2):=by
 refine⟨h.k,by show(s.es++[a,b]).length≤_;rw[List.length_append];have:=h.m;grind,fun e he=> ?_⟩;rcases List.mem_append.1 he with q|q
 ·exact h.e e q
 grind
theorem nuK_has{ks:List Key}{k:Key}(h:k∈ks):nuK ks k=ks:=if_pos h
theorem nuK_mem{ks:List Key}{k:Key}:k∈nuK ks k:=by
 grind [nuK,List.mem_append_right,List.mem_cons_self]
theorem nuK_sub{ks:List Key}{k x:Key}(h:x∈ks):x∈nuK ks k:=by
 grind [nuK,List.mem_append_left]
theorem bQ_ok{x:Dm}{p n:Int}{s:Gs}{K M:Nat}{ps:List Int}(h:GsOk s K M)(hn:1≤n∧n≤(s.ks.length:Int))(hk:∀q∈ps,(x.id,q)∈s.ks):∀j,j≤ps.length→GsOk (bQ x p n s ps j) K (M+2*j)∧(bQ x p n s ps j).ks=s.ks
 |0,_=>⟨h,rfl⟩
 |j+1,hj=>by
  obtain⟨ih,hks⟩:=bQ_ok (x:=x) (p:=p) (n:=n) h hn hk j Om;have e:bQ x p n s ps (j+1)=bQ1 x p n (bQ x p n s ps j) ps[j]! :=rfl;rw[e];have hm:=hk _ (mem_b (show j<ps.length from hj));rw[←hks]at hm hn;rw[←hks];generalize bQ x p n s ps j=t at ih hm hn;have h2:=nuK_rng t.ks (x.id,ps[j]!);have hb:=Iv.str_bound (p-ps[j]!) x.ppm;unfold bQ1;rw[nuK_has hm]at h2 ⊢;refine⟨(ih.two ⟨?_,?_,?_⟩ ⟨?_,?_,?_⟩).up Om Om,rfl⟩<;>dsimp only<;>omega
theorem bP_ok{x:Dm}{s:Gs}{K M:Nat}{ps:List Int}(h:GsOk s K M)(hp:∀y∈ps,0≤y∧y≤1000000000000):∀i,i≤ps.length→i≤37→GsOk (bP x ps s i) (K+i) (M+74*i)∧∀y∈ps.take i,(x.id,y)∈(bP x ps s i).ks
 |0,_,_=>⟨h,fun y hy=>by simp at hy⟩
 |i+1,hi,h37=>by
  obtain⟨ih,hm⟩:=bP_ok (x:=x) h hp i Om Om;have e:bP x ps s (i+1)=bP1 x ps (bP x ps s i) i:=rfl;rw[e];generalize bP x ps s i=t at ih hm;have hy:=hp _ (mem_b (show i<ps.length from hi));have h1:=ih.key (x.id,ps[i]!);have h2:=nuK_rng t.ks (x.id,ps[i]!);have hall:∀y∈ps.take (i+1),(x.id,y)∈nuK t.ks (x.id,ps[i]!):=fun y hy=>by
   rw[take_1 (show i<ps.length from hi)]at hy;rcases List.mem_append.1 hy with q|q<;>simp_all [List.mem_append,nuK_sub,List.mem_singleton,nuK_mem]
  unfold bP1;split
  ·refine⟨(h1.two ⟨?_,?_,?_⟩ ⟨?_,?_,?_⟩).up Om Om,hall⟩<;>dsimp only<;>omega
  ·obtain⟨a,b⟩:=bQ_ok (x:=x) (p:=ps[i]!) (ps:=ps.take i) h1 h2 (fun q hq=>nuK_sub (hm q hq)) i (by grind);exact⟨a.up Om Om,by grind⟩
theorem dpF_ok{l:List Sn}{id at_:Int}{x:Dm}(h:SnR l)(hl:l.length≤12)(ha:0≤at_∧at_≤1000000000000):(dpF l id at_ x).length≤37∧∀y∈dpF l id at_ x,0≤y∧y≤1000000000000:=by
 obtain⟨a,b⟩:=ptF_ok (id:=x.id) h;unfold dpF;rw[srtI_len];have key:(if x.id=id∧¬at_∈ptF l x.id then ptF l x.id++[at_]else ptF l x.id).length≤37∧∀y∈(if x.id=id∧¬at_∈ptF l x.id then ptF l x.id++[at_]else ptF l x.id),0≤y∧y≤1000000000000:=by
  grind
 simp_all [And.intro,srtI,List.mem_mergeSort]
theorem bD_ok{d:List Dm}{l:List Sn}{id at_:Int}(h:SnR l)(hl:l.length≤12)(ha:0≤at_∧at_≤1000000000000):∀k,GsOk (bD d l id at_ k) (37*k) (2738*k)
 |0=>⟨Nat.le_refl _,Nat.le_refl _,fun e he=>by cases he⟩
 |k+1=>by
  have ih:=bD_ok (d:=d) (id:=id) h hl ha k;have hd:=dpF_ok (id:=id) (x:=d[k]!) h hl ha;exact(bP_ok (x:=d[k]!) ih hd.2 _ Nl hd.1).1.up Om Om
theorem bS_ok{s:Gs}{K M:Nat}(h:GsOk s K M)(l:List Sn):∀j,GsOk (fN bS1 s l j) (K+3*j) (M+2*j)
 |0=>h
 |j+1=>by
  have ih:=bS_ok h l j;show GsOk (bS1 (fN bS1 s l j) l[j]!) _ _;generalize fN bS1 s l j=t at ih;have a1:=ih.key (l[j]!.a,l[j]!.ta);have a2:=a1.key (l[j]!.b,l[j]!.lo);have a3:=a2.key (l[j]!.b,l[j]!.hi);have r1:=nuK_rng t.ks (l[j]!.a,l[j]!.ta);have r2:=nuK_rng (nuK t.ks (l[j]!.a,l[j]!.ta)) (l[j]!.b,l[j]!.lo);have r3:=nuK_rng (nuK (nuK t.ks (l[j]!.a,l[j]!.ta)) (l[j]!.b,l[j]!.lo)) (l[j]!.b,l[j]!.hi);have n2:=nuK_len (nuK t.ks (l[j]!.a,l[j]!.ta)) (l[j]!.b,l[j]!.lo);have n3:=nuK_len (nuK (nuK t.ks (l[j]!.a,l[j]!.ta)) (l[j]!.b,l[j]!.lo)) (l[j]!.b,l[j]!.hi);refine(a3.two ⟨?_,?_,?_⟩ ⟨?_,?_,?_⟩).up Om Om<;>dsimp only<;>omega
def far:Int:=9223372036854775807
def rx1(back:Bool)(s:List Int×Bool)(e:Bd.Ed):List Int×Bool:=
 if s.1[(if back=true then e.v else e.u).toNat]!≠far∧s.1[(if back=true then e.v else e.u).toNat]! +e.w<s.1[(if back=true then e.u else e.v).toNat]!
 then(s.1.set (if back=true then e.u else e.v).toNat (s.1[(if back=true then e.v else e.u).toNat]! +e.w),false)else s
def rxI(back:Bool)(es:List Bd.Ed)(D:List Int)(j:Nat):List Int×Bool:=fN (rx1 back) (D,true) es j
def rxN(back:Bool)(es:List Bd.Ed):Nat→List Int→List Int×Bool
 |0,D=>(D,false)
 |k+1,D=>if(rxI back es D es.length).2=true then((rxI back es D es.length).1,true)else rxN back es k (rxI back es D es.length).1
def DOk(D:List Int)(n:Nat)(B:Int):Prop:=D.length=n∧∀x∈D,x=far∨-B≤x∧x≤B
theorem DOk.up{D:List Int}{n:Nat}{B B':Int}(h:DOk D n B)(hB:B≤B'):DOk D n B':=⟨h.1,fun x hx=>(h.2 x hx).imp id fun q=>by omega⟩
theorem rx1_ok{back:Bool}{s:List Int×Bool}{e:Bd.Ed}{n:Nat}{B:Int}(h:DOk s.1 n B)(he:(0≤e.u∧e.u<(n:Int))∧(0≤e.v∧e.v<(n:Int))∧-1010000000000≤e.w∧e.w≤1010000000000):DOk (rx1 back s e).1 n (B+1010000000000):=by
 have hu:0≤(if back=true then e.v else e.u)∧(if back=true then e.v else e.u)<(n:Int):=Om;unfold rx1;generalize (if back=true then e.v else e.u)=u at hu ⊢;generalize (if back=true then e.u else e.v)=v;split
 ·rename_i q;refine⟨by rw[List.length_set];exact h.1,fun x hx=> ?_⟩;rcases List.mem_or_eq_of_mem_set hx with r|rfl
  ·exact(h.2 x r).imp id fun q=>by omega
  ·have hm:u.toNat<s.1.length:=by rw[h.1];omega
   rcases h.2 _ (mem_b hm)with r|r<;>grind
 ·exact h.up Om
theorem rxI_ok{back:Bool}{es:List Bd.Ed}{D:List Int}{n:Nat}{B:Int}(h:DOk D n B)(he:∀e∈es,(0≤e.u∧e.u<(n:Int))∧(0≤e.v∧e.v<(n:Int))∧-1010000000000≤e.w∧e.w≤1010000000000):∀j,j≤es.length→DOk (rxI back es D j).1 n (B+1010000000000*(j:Int))
 |0,_=>by rw[show B+1010000000000*((0:Nat):Int)=B from Om];exact h
 |j+1,hj=>by
  have ih:=rxI_ok (back:=back) h he j Om;exact(rx1_ok (back:=back) ih (he _ (mem_b (show j<es.length from hj)))).up Om
theorem rxN_step{back:Bool}{es:List Bd.Ed}{k:Nat}{D:List Int}(hk:1≤k)(h:¬(rxI back es D es.length).2=true):rxN back es k D=rxN back es (k-1) (rxI back es D es.length).1:=by
 obtain⟨g,rfl⟩:∃g,k=g+1:=⟨k-1,Om⟩;exact if_neg h
theorem rxN_stop{back:Bool}{es:List Bd.Ed}{k:Nat}{D:List Int}(hk:1≤k)(h:(rxI back es D es.length).2=true):rxN back es k D=((rxI back es D es.length).1,true):=by
 obtain⟨g,rfl⟩:∃g,k=g+1:=⟨k-1,Om⟩;exact if_pos h
theorem rxN_len{back:Bool}{es:List Bd.Ed}:∀(k:Nat) (D:List Int),(rxN back es k D).1.length=D.length
 |0,_=>rfl
 |k+1,D=>by
  have key:∀j,(rxI back es D j).1.length=D.length:=fun j=>by
   induction j with
   |zero=>rfl
   |succ j ih=>
    show(rx1 back (rxI back es D j) es[j]!).1.length=_;unfold rx1;grind
  unfold rxN;split
  ·grind
  ·rw[rxN_len k];grind
theorem DOk.len{back:Bool}{es:List Bd.Ed}{n:Nat}(he:∀e∈es,(0≤e.u∧e.u<(n:Int))∧(0≤e.v∧e.v<(n:Int))∧-1010000000000≤e.w∧e.w≤1010000000000):∀(k:Nat) (D:List Int) (B:Int),DOk D n B→0≤B→DOk (rxN back es k D).1 n (B+1010000000000*(es.length:Int)*(k:Int))
 |0,D,B,h,_=>h.up Om
 |k+1,D,B,h,hB=>by
  have h1:=rxI_ok (back:=back) h he es.length Nl;have hm:1010000000000*(es.length:Int)*((k+1:Nat):Int)=1010000000000*(es.length:Int)*(k:Int)+1010000000000*(es.length:Int):=by
   rfl
  have hp:0≤1010000000000*(es.length:Int)*(k:Int):=Int.mul_nonneg Om Om;unfold rxN;split
  ·exact h1.up Om
  ·exact(DOk.len he k _ _ h1 Om).up Om
def dz(n:Nat):List Int:=(List.replicate n far).set 0 0
def bdE(d:List Dm)(l:List Sn)(id at_:Int):Int:=
 if ckE d l≠0 then ckE d l else if¬(ixD d id≥0)then 5 else if at_<0∨at_>1000000000000 then 2 else if lnkF d l id=false then 12
 else if(rxN false (bF d l id at_).es ((bF d l id at_).ks.length+1+1) (List.replicate ((bF d l id at_).ks.length+1) 0)).2=false then 12 else 0
def bdD(back:Bool)(d:List Dm)(l:List Sn)(id at_:Int):Int:=
 (rxN back (bF d l id at_).es ((nuK (bF d l id at_).ks (id,at_)).length+1+1) (dz ((nuK (bF d l id at_).ks (id,at_)).length+1))).1[(Bd.nix (nuK (bF d l id at_).ks (id,at_)) (id,at_)).toNat]!
def bdL(d:List Dm)(l:List Sn)(id at_:Int):Int:=if bdE d l id at_≠0 then 0 else-bdD true d l id at_
def bdH(d:List Dm)(l:List Sn)(id at_:Int):Int:=if bdE d l id at_≠0 then 0 else bdD false d l id at_
theorem ck_rng{d:List Dm}{l:List Sn}(h:ckE d l=0):SnR l∧d.length≤8:=by
 unfold ckE at h;split at h
 ·cases h
 split at h
 ·cases h
 rename_i q1 q2;split at h
 ·cases h
 split at h
 ·rename_i q;omega
 refine⟨fun x hx=> ?_,Om⟩;obtain⟨i,hi,rfl⟩:=mem_at hx;have hs:=fE_ok.1 h i hi;unfold snE at hs;have rd:∀n,¬rdB n=false→0≤n∧n≤1000000000000:=fun n hn=>by
  simp_all [rdB,true,false,absurd,Bool.and_eq_true,decide_eq_true_eq]
 split at hs<;>grind
end TW
end Go.Proofs.YtaclfjjipnpboaaGreatDoor
namespace Go.Eng
open Go Go.RowKit
section
variable{P:Program}{n:Nat}{ops:Array Oper}{Q:Exit→Act→World→Prop}{E:Env}{W w:World}{L L':List Res}{o:Oper}{rest:List Oper}{d:Nat}
theorem cp0{α:Type}{e t:TypeId}{f:α→List Value}{A B:Option Addr}{len cap m c':Nat}{l s:List α}{c:Call}(H:Hp W w L)(k:Nat)(hk:L[k]? =some (row e f 1 (.slice A len cap) l))(src:Ls w B m c' f 1 s)(hU:P.underlying t=some (.slice e))(hs:(P.info? e).map (·.size)=some 1)(h1:∀x,∀u∈f x,u.oneCell'=true)(hl:0<len)(hm:0<m)
  (h:∀w',Hp W w' L'→WL P n ops Q rest ((d,.int .i64 ((min m len:Nat):Int))::E) w')
  (hd:o.dst=some d:=by exact rfl) (hn:d<n:=by exact blt rfl) (hg:o.guard=none:=by exact rfl) (ho:o.op= .call c:=by exact rfl) (hc:c.callee= .builtin .copy:=by exact rfl) (ht:c.argTypes= #[t,t]:=by exact rfl) (ha:evs E c.args.toList=some [.slice A len cap,.slice B m c']:=by exact rfl)
  (p:Put (row e f 1 (.slice A len cap) (s.take (min m len)++l.drop (min m len))) k (row e f 1 (.slice A len cap) l) L L':=by repeat (first|exact Put.here|apply Put.there)) (hf:∀x,(f x).length=1:=by exact fun _=>rfl):WL P n ops Q (o::rest) E w:=
 WL.copy0 hd hn hg ho hc ht hU hs ha (H.get hk) src hf h1 hl hm fun w' ow gr=>h w' (H.grown p gr ow (.inl rfl))
theorem cpEX{C:World→Prop}{Q:Act→World→Prop}{r:Ord}{i:Nat}{α:Type}{e t:TypeId}{f:α→List Value}{A B:Option Addr}{j len cap m c':Nat}{l s:List α}{c:Call}(hC:C w)(H:Hp W w L)(k:Nat)(hk:L[k]? =some (row e f 1 (.slice A len cap) l))(src:Ls w B m c' f 1 s)(hU:P.underlying t=some (.slice e))(hs:(P.info? e).map (·.size)=some 1)(h1:∀x,∀u∈f x,u.oneCell'=true)(hl:j<len)(hm:0<m)
  (h:∀w',Hp W w' L'→WX P n ops C Q r ((d,.int .i64 ((min m (len-j):Nat):Int))::E) w')
  (hi:ops[i]? =some o:=by exact rfl) (hd:o.dst=some d:=by exact rfl) (hn:d<n:=by exact blt rfl) (hg:o.guard=none:=by exact rfl) (ho:o.op= .call c:=by exact rfl) (hc:c.callee= .builtin .copy:=by exact rfl) (ht:c.argTypes= #[t,t]:=by exact rfl) (ha:evs E c.args.toList=some [.slice (if cap=j then A else A.map (·.add (j*1))) (len-j) (cap-j),.slice B m c']:=by exact rfl)
  (p:Put (row e f 1 (.slice A len cap) (l.take j++s.take (min m (len-j))++l.drop (j+min m (len-j)))) k (row e f 1 (.slice A len cap) l) L L':=by repeat (first|exact Put.here|apply Put.there)) (hf:∀x,(f x).length=1:=by exact fun _=>rfl):WX P n ops C Q (.alt i r .none) E w:=
 WX.run hi hd hn hg hC (Run.copyE ho hc ht hU hs ha (H.get hk) src hf h1 hl hm) fun _ w' ⟨he,ow,gr⟩=>by subst he;exact h w' (H.grown p gr ow (.inl rfl))
theorem bsX{C:World→Prop}{Q:Act→World→Prop}{r:Ord}{i:Nat}{t e len:Nat}{parts:Array (Nat×Operand)}{ps:List (Nat×Value)}{z:Value}{zs cs:List Value}{sz by':Nat}(hC:C w)(H:Hp W w L)(hU:P.underlying t=some (.slice e))(hT:TI P e z sz by')(h:∀g w',Hp W w' (box g e cs::L)→WX P n ops C Q r ((d,.slice (some ⟨g,0,none⟩) len len)::E) w')
  (hi:ops[i]? =some o:=by exact rfl) (hd:o.dst=some d:=by exact rfl) (hn:d<n:=by exact blt rfl) (hg:o.guard=none:=by exact rfl) (ho:o.op= .buildSlice t len parts:=by exact rfl) (hp:(len*sz !=0)=true:=by exact rfl) (hs:Nat.ble (len*sz) 16777216=true:=by exact rfl)
  (hz:((Array.range (len*sz)).map (z.cells[·%z.cells.size]!))=zs.toArray:=by kernel_rfl) (hps:evp E parts.toList=some ps:=by exact rfl) (hf:fillP (fun i=>some (i*sz,sz)) zs ps=some cs:=by exact rfl):WX P n ops C Q (.alt i r .none) E w:=by
 refine WX.run hi hd hn hg hC (Run.bslice ho hU hT hp (ble hs) hz hps hf) ?_;rintro _ w' ⟨g,rfl,e,x,b⟩;exact h g w' (H.new x b fun b' hb=>by rw[show b'=g from hb,e];omega)
end
end Go.Eng
namespace Go.Num
theorem mul_split{x y p00 p01 p10 p11:Int}(_hx:0≤x∧x≤18446744073709551615)(_hy:0≤y∧y≤18446744073709551615)
  (h00:(x%4294967296)*(y%4294967296)=p00) (h01:(x%4294967296)*(y/4294967296)=p01) (h10:(x/4294967296)*(y%4294967296)=p10) (h11:(x/4294967296)*(y/4294967296)=p11):
  x*y=18446744073709551616*p11+4294967296*(p10+p01)+p00:=by
 grind
theorem ne_beq{a b:Int}(h:a≠b):(a==b)=false:=by grind
end Go.Num
section
attribute [local irreducible] Go.Eng.WC Go.Eng.WL Go.Eng.WK Go.Eng.WQ Go.Eng.WX Go.Eng.Yld
namespace Go.Proofs.YtaclfjjipnpboaaGreatDoor
open Go Go.Eng Go.RowKit
namespace NumF
theorem ti3:TI Tryz.prog 3 (.int .i64 0) 1 8:=TI.mk (by kernel_rfl)
theorem ti96:TI Tryz.prog 96 (.agg #[.int .i64 0,.int .i64 0]) 2 16:=TI.mk (by kernel_rfl)
theorem pl96:PL Tryz.prog 96 [.int .i64 0,.int .i64 0] [(0,1),(1,1)]:=PL.mk (zero:=[.int .i64 0,.int .i64 0]) ti96 Tryz.underlying96 (by kernel_rfl)
theorem in_any(n:Int)(w:World):
  Cr 142 #[.int .i64 n] w (.bool (Iv.inB n)):=by
 have xW:=Ext.refl w;refine Wb Tryz.func142 ?_;refine sr fun K1 k1=> ?_;refine go1 ?_;refine nk k1 [0] ?_;refine sr fun K2 k2=> ?_;refine go3 ?_;refine yg (fun hb=>Y.move rfl rfl) ?_;refine yg (fun hb=>Y.leq rfl (evg rfl hb) rfl) ?_;refine go2 ?_;refine nk k2 [2] ?_;refine WC.ret ?_;clear k1 k2;refine Rt [_] ?_;exact⟨rfl,xW⟩
theorem mul64_any(x y:Int)(w:World)(hx:0≤x∧x≤18446744073709551615)(hy:0≤y∧y≤18446744073709551615):
  Cr 265 #[.int .u64 x,.int .u64 y] w (.tuple #[.int .u64 (x*y/18446744073709551616),.int .u64 (x*y%18446744073709551616)]):=by
 have xW:=Ext.refl w;obtain⟨p00,h00⟩:∃p,(x%4294967296)*(y%4294967296)=p:=⟨_,rfl⟩;obtain⟨p01,h01⟩:∃p,(x%4294967296)*(y/4294967296)=p:=⟨_,rfl⟩;obtain⟨p10,h10⟩:∃p,(x/4294967296)*(y%4294967296)=p:=⟨_,rfl⟩;obtain⟨p11,h11⟩:∃p,(x/4294967296)*(y/4294967296)=p:=⟨_,rfl⟩;have b00:=mul_bound (a:=x%4294967296) (b:=y%4294967296) (m:=4294967295) (k:=4294967295) Om Om;have b01:=mul_bound (a:=x%4294967296) (b:=y/4294967296) (m:=4294967295) (k:=4294967295) Om Om;have b10:=mul_bound (a:=x/4294967296) (b:=y%4294967296) (m:=4294967295) (k:=4294967295) Om Om;have b11:=mul_bound (a:=x/4294967296) (b:=y/4294967296) (m:=4294967295) (k:=4294967295) Om Om;rw[h00]at b00;rw[h01]at b01;rw[h10]at b10;rw[h11]at b11;have hxy:=Num.mul_split hx hy h00 h01 h10 h11;refine Wb Tryz.func265 ?_;refine sr fun K1 k1=> ?_;refine go2 ?_;refine nk k1 [0,1] ?_;refine sr fun K2 k2=> ?_;refine go1 ?_;refine yy (Y.andM rfl rfl rfl Om) ?_;refine go1 ?_;refine nk k2 [0,1,6] ?_;refine sr fun K3 k3=> ?_;refine go1 ?_;refine yy (Y.shr rfl rfl rfl Om (shr32 Om)) ?_;refine go1 ?_;refine nk k3 [0,1,6,7] ?_;refine sr fun K4 k4=> ?_;refine go1 ?_;refine yy (Y.andM rfl rfl rfl Om) ?_;refine go1 ?_;refine nk k4 [0,1,6,7,8] ?_;refine sr fun K5 k5=> ?_;refine go1 ?_;refine yy (Y.shr rfl rfl rfl Om (shr32 Om)) ?_;refine go1 ?_;refine nk k5 [0,1,6,7,8,9] ?_;refine sr fun K6 k6=> ?_;refine go2 ?_;refine yy (Y.mul rfl rfl rfl (wm h00 Om)) ?_;refine go1 ?_;refine nk k6 [0,1,6,7,8,9,10] ?_;refine sr fun K7 k7=> ?_;refine go2 ?_;refine yy (Y.mul rfl rfl rfl (wm h10 Om)) ?_;refine go1 ?_;refine yy (Y.shr rfl rfl rfl Om (shr32 Om)) ?_;refine yy (Y.add rfl rfl rfl Wu) ?_;refine go1 ?_;refine nk k7 [0,1,6,7,9,11] ?_;refine sr fun K8 k8=> ?_;refine go1 ?_;refine yy (Y.andM rfl rfl rfl Om) ?_;refine go1 ?_;refine nk k8 [0,1,6,7,9,11,12] ?_;refine sr fun K9 k9=> ?_;refine go1 ?_;refine yy (Y.shr rfl rfl rfl Om (shr32 Om)) ?_;refine go1 ?_;refine nk k9 [0,1,6,7,9,12,13] ?_;refine sr fun K10 k10=> ?_;refine go3 ?_;refine yy (Y.mul rfl rfl rfl (wm h01 Om)) ?_;refine yy (Y.add rfl rfl rfl Wu) ?_;refine go1 ?_;refine nk k10 [0,1,7,9,12,13] ?_;refine sr fun K11 k11=> ?_;refine go2 ?_;refine yy (Y.mul rfl rfl rfl (wm h11 Om)) ?_;refine go1 ?_;refine yy (Y.add rfl rfl rfl Wu) ?_;refine go1 ?_;refine yy (Y.shr rfl rfl rfl Om (shr32 Om)) ?_;refine yy (Y.add rfl rfl rfl Wu) ?_;refine go1 ?_;refine nk k11 [0,1,4] ?_;refine sr fun K12 k12=> ?_;refine go2 ?_;refine yy (Y.mul rfl rfl rfl (IntKind.wrap_u64 _)) ?_;refine go1 ?_;refine nk k12 [4,5] ?_;refine WC.ret ?_;clear k1 k2 k3 k4 k5 k6 k7 k8 k9 k10 k11 k12;refine Rt [_,_] ?_;refine⟨ret2 (vi ?_) rfl,xW⟩;rw[hxy];omega
theorem div64_lo(lo y:Int)(w:World)(hl:0≤lo∧lo≤18446744073709551615)(hy:1≤y∧y≤18446744073709551615):
  Cr 273 #[.int .u64 0,.int .u64 lo,.int .u64 y] w (.tuple #[.int .u64 (lo/y),.int .u64 (lo%y)]):=by
 have xW:=Ext.refl w;refine Wb Tryz.func273 ?_;refine sr fun K1 k1=> ?_;refine go2 ?_;refine nk k1 [0,1,2] ?_;refine WC.seq (fun K2 k2=> ?_);refine sr fun K3 k3=> ?_;refine go1 ?_;refine yy (Yld.cast (Y.eql rfl rfl rfl) (vb (Num.ne_beq Om))) ?_;refine nk k3 [0,1,2,20] ?_;refine WC.condF rfl ?_;refine WC.skip ?_;refine WK.then_normal (k2 _ _ ?_);refine sb [0,1,2] ?_;refine WC.seq (fun K4 k4=> ?_);refine sr fun K5 k5=> ?_;refine go2 ?_;refine yy (Yld.cast (Y.leq rfl rfl rfl) (bf Om)) ?_;refine nk k5 [0,1,2,24] ?_;refine WC.condF rfl ?_;refine WC.skip ?_;refine WK.then_normal (k4 _ _ ?_);refine sb [0,1,2] ?_;refine WC.seq (fun K6 k6=> ?_);refine sr fun K7 k7=> ?_;refine go1 ?_;refine yy (Yld.cast (Y.eql rfl rfl rfl) (vb rfl)) ?_;refine nk k7 [0,1,2,27] ?_;refine WC.condT rfl ?_;refine WC.seq (fun K8 k8=> ?_);refine Qr ?_;refine yq (Y.move rfl rfl) ?_;refine yq (Y.move rfl rfl) ?_;refine yq (Y.quo rfl rfl rfl Om (wrap_quo_u64 Om Om Om)) ?_;refine yq (Y.move rfl rfl) ?_;refine yq (Y.move rfl rfl) ?_;refine yq (Y.rem rfl rfl rfl Om (rem_pos Om)) ?_;refine yq (Y.assign rfl rfl) ?_;refine yq (Y.assign rfl rfl) ?_;refine WQ.done (fun w9 x10=> ?_);have xW:=Ext.trans xW x10;refine WK.then_normal (k8 _ _ ?_);refine sb [6,7] ?_;refine WC.ret ?_;refine WK.then_ret ?_;clear k1 k2 k3 k4 k5 k6 k7 k8;refine Rt [_,_] ?_;exact⟨rfl,xW⟩
theorem mul64_small(x y p:Int)(w:World)(h:x*y=p)(hx:0≤x∧x≤18446744073709551615)(hy:0≤y∧y≤18446744073709551615)(hp:0≤p∧p≤18446744073709551615):
  Cr 265 #[.int .u64 x,.int .u64 y] w (.tuple #[.int .u64 0,.int .u64 p]):=by
 have:=mul64_any x y w hx hy;rw[h,show p/18446744073709551616=0 from Om,show p%18446744073709551616=p from Om]at this;exact this
theorem in_yes(n:Int)(w:World)(h: -1000000000000000≤n∧n≤1000000000000000):
  Cr 142 #[.int .i64 n] w (.bool true):=by
 have:=in_any n w;rw[show Iv.inB n=true from by simp[Iv.inB];omega]at this;exact this
theorem mag_nn(n:Int)(w:World)(h:0≤n∧n≤1000000000000000):
  Cr 272 #[.int .i64 n] w (.tuple #[.int .u64 n,.bool false]):=by
 have xW:=Ext.refl w;refine Wb Tryz.func272 ?_;refine sr fun K1 k1=> ?_;refine go2 ?_;refine nk k1 [0] ?_;refine WC.seq (fun K2 k2=> ?_);refine sr fun K3 k3=> ?_;refine go1 ?_;refine yy (Yld.cast (Y.lss rfl rfl rfl) (bf Om)) ?_;refine nk k3 [0,5] ?_;refine WC.condF rfl ?_;refine WC.skip ?_;refine WK.then_normal (k2 _ _ ?_);refine sb [0] ?_;refine sr fun K4 k4=> ?_;refine go1 ?_;refine yy (Y.convInt rfl Tryz.underlying3 Tryz.underlying317 rfl Wu) ?_;refine go2 ?_;refine nk k4 [2,3] ?_;refine WC.ret ?_;clear k1 k2 k3 k4;refine Rt [_,_] ?_;exact⟨rfl,xW⟩
theorem within_yes(n:Int)(w:World)(h: -1000000000000000≤n∧n≤1000000000000000):
  Cr 179 #[.int .i64 n,.bool true] w (.tuple #[.int .i64 n,.bool true]):=by
 have xW:=Ext.refl w;refine Wb Tryz.func179 ?_;refine sr fun K1 k1=> ?_;refine go2 ?_;refine nk k1 [0,1] ?_;refine WC.seq (fun K2 k2=> ?_);refine sr fun K3 k3=> ?_;refine go3 ?_;refine WL.yldW rfl (blt rfl) rfl rfl rfl (Y.move rfl rfl) ?_;refine WL.callW rfl (blt rfl) rfl rfl rfl rfl rfl Fh rfl (in_yes _ _ Om) ?_;rintro _ w4 ⟨rfl,x5⟩;refine⟨_,rfl,?_⟩;have xW:=Ext.trans xW x5;refine WL.yldW rfl (blt rfl) rfl rfl rfl (Y.not rfl rfl) ?_;refine yy (Y.pickF rfl rfl rfl) ?_;refine nk k3 [0,12] ?_;refine WC.condF rfl ?_;refine WC.skip ?_;refine WK.then_normal (k2 _ _ ?_);refine sb [0] ?_;refine sr fun K6 k6=> ?_;refine go3 ?_;refine nk k6 [4,5] ?_;refine WC.ret ?_;clear k1 k2 k3 k6;refine Rt [_,_] ?_;exact⟨rfl,xW⟩
theorem quot_small(a b c p q r:Int)(w:World)(ha:0≤a∧a≤1000000000000000)(hb:0≤b∧b≤1000000000000000)(hc:1≤c∧c≤1000000000000000)(h:a*b=p)(hp:0≤p∧p≤18446744073709551615)(hq:p/c=q)(hr:p%c=r)(hqb:0≤q∧q≤1000000000000000)(hrb:0≤r∧r<c):
  Cr 263 #[.int .i64 a,.int .i64 b,.int .i64 c] w (.tuple #[.int .u64 q,.int .u64 r,.bool false,.bool true]):=by
 have xW:=Ext.refl w;refine Wb Tryz.func263 ?_;refine sr fun K1 k1=> ?_;refine go4 ?_;refine nk k1 [0,1,2] ?_;refine WC.seq (fun K2 k2=> ?_);refine sr fun K3 k3=> ?_;refine go1 ?_;refine WL.call rfl (blt rfl) rfl rfl rfl Fh rfl (in_yes _ _ Om) ?_;rintro _ w4 ⟨rfl,x5⟩;refine⟨_,rfl,?_⟩;have xW:=Ext.trans xW x5;refine go2 ?_;refine WL.yldW rfl (blt rfl) rfl rfl rfl (Y.move rfl rfl) ?_;refine WL.callW rfl (blt rfl) rfl rfl rfl rfl rfl Fh rfl (in_yes _ _ Om) ?_;rintro _ w6 ⟨rfl,x7⟩;refine⟨_,rfl,?_⟩;have xW:=Ext.trans xW x7;refine WL.yldW rfl (blt rfl) rfl rfl rfl (Y.not rfl rfl) ?_;refine yy (Y.pickF rfl rfl rfl) ?_;refine go1 ?_;refine WL.yldW rfl (blt rfl) rfl rfl rfl (Y.move rfl rfl) ?_;refine WL.yldW rfl (blt rfl) rfl rfl rfl (Yld.cast (Y.lss rfl rfl rfl) (bf Om)) ?_;refine yy (Y.pickF rfl rfl rfl) ?_;refine go1 ?_;refine WL.yldW rfl (blt rfl) rfl rfl rfl (Y.move rfl rfl) ?_;refine WL.callW rfl (blt rfl) rfl rfl rfl rfl rfl Fh rfl (in_yes _ _ Om) ?_;rintro _ w8 ⟨rfl,x9⟩;refine⟨_,rfl,?_⟩;have xW:=Ext.trans xW x9;refine WL.yldW rfl (blt rfl) rfl rfl rfl (Y.not rfl rfl) ?_;refine yy (Y.pickF rfl rfl rfl) ?_;refine nk k3 [0,1,2,32] ?_;refine WC.condF rfl ?_;refine WC.skip ?_;refine WK.then_normal (k2 _ _ ?_);refine sb [0,1,2] ?_;refine sr fun K10 k10=> ?_;refine go1 ?_;refine WL.call rfl (blt rfl) rfl rfl rfl Fh rfl (mag_nn _ _ Om) ?_;rintro _ w11 ⟨rfl,x12⟩;refine⟨_,rfl,?_⟩;have xW:=Ext.trans xW x12;refine go5 ?_;refine nk k10 [1,2,10,11] ?_;refine sr fun K13 k13=> ?_;refine go1 ?_;refine WL.call rfl (blt rfl) rfl rfl rfl Fh rfl (mag_nn _ _ Om) ?_;rintro _ w14 ⟨rfl,x15⟩;refine⟨_,rfl,?_⟩;have xW:=Ext.trans xW x15;refine go5 ?_;refine nk k13 [2,10,11,12,13] ?_;refine sr fun K16 k16=> ?_;refine go2 ?_;refine WL.call rfl (blt rfl) rfl rfl rfl Fh rfl (mul64_small _ _ _ _ h Om Om Om) ?_;rintro _ w17 ⟨rfl,x18⟩;refine⟨_,rfl,?_⟩;have xW:=Ext.trans xW x18;refine go5 ?_;refine nk k16 [2,11,13,14,15] ?_;refine WC.seq (fun K19 k19=> ?_);refine sr fun K20 k20=> ?_;refine go2 ?_;refine yy (Y.convInt rfl Tryz.underlying3 Tryz.underlying317 rfl Wu) ?_;refine yy (Yld.cast (Y.geq rfl rfl rfl) (bf Om)) ?_;refine nk k20 [2,11,13,14,15,52] ?_;refine WC.condF rfl ?_;refine WC.skip ?_;refine WK.then_normal (k19 _ _ ?_);refine sb [2,11,13,14,15] ?_;refine sr fun K21 k21=> ?_;refine go3 ?_;refine yy (Y.convInt rfl Tryz.underlying3 Tryz.underlying317 rfl Wu) ?_;refine WL.call rfl (blt rfl) rfl rfl rfl Fh rfl (div64_lo _ _ _ Om Om) ?_;rintro _ w22 ⟨rfl,x23⟩;refine⟨_,rfl,?_⟩;have xW:=Ext.trans xW x23;refine go5 ?_;refine nk k21 [6,7,11,13] ?_;refine sr fun K24 k24=> ?_;refine go4 ?_;refine yy (Y.neqB rfl Tryz.underlying4 rfl rfl) ?_;refine go1 ?_;refine yy (Yld.cast (Y.leq rfl rfl rfl) (bt Om)) ?_;refine go4 ?_;refine nk k24 [6,7,8,9] ?_;refine WC.ret ?_;clear k1 k2 k3 k10 k13 k16 k19 k20 k21 k24;refine Rt [_,_,_,_] ?_;exact⟨ret4 (vi hq) (vi hr) rfl rfl,xW⟩
theorem floor_small(a b c p q r:Int)(w:World)(ha:0≤a∧a≤1000000000000000)(hb:0≤b∧b≤1000000000000000)(hc:1≤c∧c≤1000000000000000)(h:a*b=p)(hp:0≤p∧p≤18446744073709551615)(hq:p/c=q)(hr:p%c=r)(hqb:0≤q∧q≤1000000000000000)(hrb:0≤r∧r<c):
  Cr 246 #[.int .i64 a,.int .i64 b,.int .i64 c] w (.tuple #[.int .i64 q,.bool true]):=by
 have xW:=Ext.refl w;refine Wb Tryz.func246 ?_;refine sr fun K1 k1=> ?_;refine go2 ?_;refine nk k1 [0,1,2] ?_;refine sr fun K2 k2=> ?_;refine go3 ?_;refine WL.call rfl (blt rfl) rfl rfl rfl Fh rfl (quot_small _ _ _ p q r _ ha hb hc h hp hq hr Om hrb) ?_;rintro _ w3 ⟨rfl,x4⟩;refine⟨_,rfl,?_⟩;have xW:=Ext.trans xW x4;refine go9 ?_;refine nk k2 [8,9,10,11] ?_;refine sr fun K5 k5=> ?_;refine go1 ?_;refine yy (Y.convInt rfl Tryz.underlying317 Tryz.underlying3 rfl Wo) ?_;refine go1 ?_;refine nk k5 [9,10,11,12] ?_;refine WC.seq (fun K6 k6=> ?_);refine sr fun K7 k7=> ?_;refine go1 ?_;refine nk k7 [9,11,12,24] ?_;refine WC.condF rfl ?_;refine WC.skip ?_;refine WK.then_normal (k6 _ _ ?_);refine sb [11,12] ?_;refine sr fun K8 k8=> ?_;refine go2 ?_;refine WL.call rfl (blt rfl) rfl rfl rfl Fh rfl (within_yes _ _ Om) ?_;rintro _ w9 ⟨rfl,x10⟩;refine⟨_,rfl,?_⟩;have xW:=Ext.trans xW x10;refine go4 ?_;refine nk k8 [6,7] ?_;refine WC.ret ?_;clear k1 k2 k5 k6 k7 k8;refine Rt [_,_] ?_;exact⟨rfl,xW⟩
theorem ceil_small(a b c p q r:Int)(w:World)(ha:0≤a∧a≤1000000000000000)(hb:0≤b∧b≤1000000000000000)(hc:1≤c∧c≤1000000000000000)(h:a*b=p)(hp:0≤p∧p≤18446744073709551615)(hq:p/c=q)(hr:p%c=r)(hqb:0≤q∧q<1000000000000000)(hrb:0≤r∧r<c):
  Cr 247 #[.int .i64 a,.int .i64 b,.int .i64 c] w (.tuple #[.int .i64 (if 0<r then q+1 else q),.bool true]):=by
 have xW:=Ext.refl w;refine Wb Tryz.func247 ?_;refine sr fun K1 k1=> ?_;refine go2 ?_;refine nk k1 [0,1,2] ?_;refine sr fun K2 k2=> ?_;refine go3 ?_;refine WL.call rfl (blt rfl) rfl rfl rfl Fh rfl (quot_small _ _ _ p q r _ ha hb hc h hp hq hr Om hrb) ?_;rintro _ w3 ⟨rfl,x4⟩;refine⟨_,rfl,?_⟩;have xW:=Ext.trans xW x4;refine go9 ?_;refine nk k2 [8,9,10,11] ?_;refine sr fun K5 k5=> ?_;refine go1 ?_;refine yy (Y.convInt rfl Tryz.underlying317 Tryz.underlying3 rfl Wo) ?_;refine go1 ?_;refine nk k5 [9,10,11,12] ?_;refine WC.seq (fun K6 k6=> ?_);refine sr fun K7 k7=> ?_;refine go1 ?_;refine nk k7 [9,11,12,24] ?_;refine WC.condF rfl ?_;refine sr fun K8 k8=> ?_;refine go2 ?_;refine nk k8 [11,12,28] ?_;refine WC.cond rfl (fun h9=> ?_) (fun h9=> ?_)
 ·have p9:=(dec_t h9);refine WC.region rfl ?_;refine go1 ?_;refine yy (Y.add rfl rfl rfl Wo) ?_;refine go1 ?_;refine nk k6 [11,12] ?_;refine sr fun K10 k10=> ?_;refine go2 ?_;refine WL.call rfl (blt rfl) rfl rfl rfl Fh rfl (within_yes _ _ Om) ?_;rintro _ w11 ⟨rfl,x12⟩;refine⟨_,rfl,?_⟩;have xW:=Ext.trans xW x12;refine go4 ?_;refine nk k10 [6,7] ?_;refine WC.ret ?_;clear k1 k2 k5 k6 k7 k8 k10;refine Rt [_,_] ?_;simp only[decide_eq_true_eq,decide_eq_false_iff_not]at h9;refine⟨?_,xW⟩
  first|rw[if_pos Om]|rw[if_neg Om]
  rfl
 ·have p9:=(dec_f h9);refine WC.skip ?_;refine WK.then_normal (k6 _ _ ?_);refine sb [11,12] ?_;refine sr fun K13 k13=> ?_;refine go2 ?_;refine WL.call rfl (blt rfl) rfl rfl rfl Fh rfl (within_yes _ _ Om) ?_;rintro _ w14 ⟨rfl,x15⟩;refine⟨_,rfl,?_⟩;have xW:=Ext.trans xW x15;refine go4 ?_;refine nk k13 [6,7] ?_;refine WC.ret ?_;clear k1 k2 k5 k6 k7 k8 k13;refine Rt [_,_] ?_;simp only[decide_eq_true_eq,decide_eq_false_iff_not]at h9;refine⟨?_,xW⟩
  first|rw[if_pos Om]|rw[if_neg Om]
  rfl
theorem stretch_pos(d ppm:Int)(w:World)(hd:0≤d∧d≤1000000000000)(hp:0≤ppm∧ppm≤10000):
  Cr 235 #[.int .i64 d,.int .i64 ppm] w (Iv.ivb (Iv.strPos d ppm,true)):=by
 have xW:=Ext.refl w;obtain⟨p1,hp1⟩:∃p,d*(1000000-ppm)=p:=⟨_,rfl⟩;obtain⟨p2,hp2⟩:∃p,d*(1000000+ppm)=p:=⟨_,rfl⟩;have b1:=mul_bound (a:=d) (b:=1000000-ppm) (m:=1000000000000) (k:=1000000) hd Om;have b2:=mul_bound (a:=d) (b:=1000000+ppm) (m:=1000000000000) (k:=1010000) hd Om;rw[hp1]at b1;rw[hp2]at b2;refine Wb Tryz.func235 ?_;refine sr fun K1 k1=> ?_;refine WL.alloc rfl (blt rfl) rfl rfl ti96 rfl ?_;intro g2 w3 e4 x5 m6;have o_g2:=own_new xW e4;have xW:=Ext.trans xW x5;refine go1 ?_;refine nk k1 [0,1,4] ?_;refine WC.seq (fun K7 k7=> ?_);refine sr fun K8 k8=> ?_;refine go1 ?_;refine yy (Yld.cast (Y.lss rfl rfl rfl) (bf Om)) ?_;refine go1 ?_;refine WL.yldW rfl (blt rfl) rfl rfl rfl (Y.move rfl rfl) ?_;refine WL.yldW rfl (blt rfl) rfl rfl rfl (Yld.cast (Y.gtr rfl rfl rfl) (bf Om)) ?_;refine yy (Y.pickF rfl rfl rfl) ?_;refine go1 ?_;refine WL.yldW rfl (blt rfl) rfl rfl rfl (Y.move rfl rfl) ?_;refine WL.yldW rfl (blt rfl) rfl rfl rfl (Yld.cast (Y.lss rfl rfl rfl) (bf Om)) ?_;refine yy (Y.pickF rfl rfl rfl) ?_;refine go1 ?_;refine WL.yldW rfl (blt rfl) rfl rfl rfl (Y.move rfl rfl) ?_;refine WL.yldW rfl (blt rfl) rfl rfl rfl (Yld.cast (Y.gtr rfl rfl rfl) (bf Om)) ?_;refine yy (Y.pickF rfl rfl rfl) ?_;refine nk k8 [0,1,4,25] ?_;refine WC.condF rfl ?_;refine WC.skip ?_;refine WK.then_normal (k7 _ _ ?_);refine sb [0,1,4] ?_;refine WC.seq (fun K9 k9=> ?_);refine sr fun K10 k10=> ?_;refine go1 ?_;refine yy (Yld.cast (Y.lss rfl rfl rfl) (bf Om)) ?_;refine nk k10 [0,1,4,28] ?_;refine WC.condF rfl ?_;refine WC.skip ?_;refine WK.then_normal (k9 _ _ ?_);refine sb [0,1,4] ?_;refine sr fun K11 k11=> ?_;refine go2 ?_;refine yy (Y.sub rfl rfl rfl Wo) ?_;refine WL.call rfl (blt rfl) rfl rfl rfl Fh rfl (floor_small _ _ _ p1 _ _ _ Om Om Om hp1 Om rfl rfl Om Om) ?_;rintro _ w12 ⟨rfl,x13⟩;refine⟨_,rfl,?_⟩;have m6:=m6.ext x13;have xW:=Ext.trans xW x13;refine go5 ?_;refine nk k11 [0,1,4,8] ?_;refine sr fun K14 k14=> ?_;refine go2 ?_;refine yy (Y.add rfl rfl rfl Wo) ?_;refine WL.call rfl (blt rfl) rfl rfl rfl Fh rfl (ceil_small _ _ _ p2 _ _ _ Om Om Om hp2 Om rfl rfl Om Om) ?_;rintro _ w15 ⟨rfl,x16⟩;refine⟨_,rfl,?_⟩;have m6:=m6.ext x16;have xW:=Ext.trans xW x16;refine go5 ?_;refine nk k14 [4,8,10] ?_;refine sr fun K17 k17=> ?_;refine go2 ?_;refine yy (Y.build (cells:=[_,_]) rfl pl96 rfl rfl) ?_;refine WL.store (cs':=[_,_]) rfl rfl rfl rfl rfl rfl ti96 m6 (ble rfl) rfl rfl (fun w18 on19 m20=> ?_);have xW:=Ext.only xW on19 o_g2;refine go1 ?_;refine nk k17 [4,5] ?_;refine WC.ret ?_;clear k1 k7 k8 k9 k10 k11 k14 k17;refine WK.ret [_,_] rfl ⟨⟨_,rfl,run_loadVar_blk Tryz.underlying96 rfl ti96 m20⟩,rfl,trivial⟩ ?_;refine⟨?_,xW⟩;simp only[Iv.ivb,Iv.strPos,hp1,hp2];exact ret2 (Iv.agg2 Om (by first|omega|(split<;>omega))) rfl
theorem stretch_bad(d ppm:Int)(w:World)(hg:Iv.strGuard d ppm=true):
  Cr 235 #[.int .i64 d,.int .i64 ppm] w (Iv.ivb ((0,0),false)):=by
 have xW:=Ext.refl w;refine Wb Tryz.func235 ?_;refine sr fun K1 k1=> ?_;refine WL.alloc rfl (blt rfl) rfl rfl ti96 rfl ?_;intro g2 w3 e4 x5 m6;have o_g2:=own_new xW e4;have xW:=Ext.trans xW x5;refine go1 ?_;refine nk k1 [0,1,4] ?_;refine WC.seq (fun K7 k7=> ?_);refine sr fun K8 k8=> ?_;refine go3 ?_;refine yg (fun hb=>Y.move rfl rfl) ?_;refine yg (fun hb=>Y.gtr rfl (evg rfl hb) rfl) ?_;refine go2 ?_;refine yg (fun hb=>Y.move rfl rfl) ?_;refine yg (fun hb=>Y.lss rfl (evg rfl hb) rfl) ?_;refine go2 ?_;refine yg (fun hb=>Y.move rfl rfl) ?_;refine yg (fun hb=>Y.gtr rfl (evg rfl hb) rfl) ?_;refine go1 ?_;refine nk k8 [0,1,4,25] ?_;refine WC.cond rfl (fun h9=> ?_) (fun h9=> ?_)
 ·have p9:=((or_t h9).imp (fun h=>((or_t h).imp (fun h=>((or_t h).imp (fun h=>(dec_t h)) (fun h=>(dec_t h)))) (fun h=>(dec_t h)))) (fun h=>(dec_t h)));refine sr fun K10 k10=> ?_;refine yy (Y.build (cells:=[_,_]) rfl pl96 rfl rfl) ?_;refine WL.store (cs':=[_,_]) rfl rfl rfl rfl rfl rfl ti96 m6 (ble rfl) rfl rfl (fun w11 on12 m13=> ?_);have xW:=Ext.only xW on12 o_g2;refine go1 ?_;refine nk k10 [4,5] ?_;refine WC.ret ?_;refine WK.then_ret ?_;clear k1 k7 k8 k10;refine WK.ret [_,_] rfl ⟨⟨_,rfl,run_loadVar_blk Tryz.underlying96 rfl ti96 m13⟩,rfl,trivial⟩ ?_;exact⟨rfl,xW⟩
 ·clear k1 k7 k8;exact Bool.noConfusion (hg.symm.trans h9)
theorem stretch_neg(d ppm:Int)(w:World)(hd: -1000000000000≤d∧d<0)(hp:0≤ppm∧ppm≤10000):
  Cr 235 #[.int .i64 d,.int .i64 ppm] w (Iv.ivb ((-(Iv.strPos (-d) ppm).2,-(Iv.strPos (-d) ppm).1),true)):=by
 have xW:=Ext.refl w;have b:=Iv.strPos_bound (d:= -d) (ppm:=ppm) Om hp;refine Wb Tryz.func235 ?_;refine sr fun K1 k1=> ?_;refine WL.alloc rfl (blt rfl) rfl rfl ti96 rfl ?_;intro g2 w3 e4 x5 m6;have o_g2:=own_new xW e4;have xW:=Ext.trans xW x5;refine go1 ?_;refine nk k1 [0,1,4] ?_;refine WC.seq (fun K7 k7=> ?_);refine sr fun K8 k8=> ?_;refine go1 ?_;refine yy (Yld.cast (Y.lss rfl rfl rfl) (bf Om)) ?_;refine go1 ?_;refine WL.yldW rfl (blt rfl) rfl rfl rfl (Y.move rfl rfl) ?_;refine WL.yldW rfl (blt rfl) rfl rfl rfl (Yld.cast (Y.gtr rfl rfl rfl) (bf Om)) ?_;refine yy (Y.pickF rfl rfl rfl) ?_;refine go1 ?_;refine WL.yldW rfl (blt rfl) rfl rfl rfl (Y.move rfl rfl) ?_;refine WL.yldW rfl (blt rfl) rfl rfl rfl (Yld.cast (Y.lss rfl rfl rfl) (bf Om)) ?_;refine yy (Y.pickF rfl rfl rfl) ?_;refine go1 ?_;refine WL.yldW rfl (blt rfl) rfl rfl rfl (Y.move rfl rfl) ?_;refine WL.yldW rfl (blt rfl) rfl rfl rfl (Yld.cast (Y.gtr rfl rfl rfl) (bf Om)) ?_;refine yy (Y.pickF rfl rfl rfl) ?_;refine nk k8 [0,1,4,25] ?_;refine WC.condF rfl ?_;refine WC.skip ?_;refine WK.then_normal (k7 _ _ ?_);refine sb [0,1,4] ?_;refine WC.seq (fun K9 k9=> ?_);refine sr fun K10 k10=> ?_;refine go1 ?_;refine yy (Yld.cast (Y.lss rfl rfl rfl) (bt Om)) ?_;refine nk k10 [0,1,4,28] ?_;refine WC.condT rfl ?_;refine sr fun K11 k11=> ?_;refine go1 ?_;refine yy (Y.neg rfl rfl Wo) ?_;refine go1 ?_;refine WL.call rfl (blt rfl) rfl rfl rfl Fh rfl (stretch_pos _ _ _ Om Om) ?_;rintro _ w12 ⟨rfl,x13⟩;refine⟨_,rfl,?_⟩;have m6:=m6.ext x13;have xW:=Ext.trans xW x13;refine go3 ?_;refine WL.alloc rfl (blt rfl) rfl rfl ti96 rfl ?_;intro g14 w15 e16 x17 m18;have n_g2_g14:=ne_new m6 e16;have o_g14:=own_new xW e16;have m6:=m6.ext x17;have xW:=Ext.trans xW x17;refine WL.store (cs':=[_,_]) rfl rfl rfl rfl rfl rfl ti96 m18 (ble rfl) rfl rfl (fun w19 on20 m21=> ?_);have m6:=m6.only n_g2_g14 on20;have xW:=Ext.only xW on20 o_g14;refine go1 ?_;refine nk k11 [4,6] ?_;refine sr fun K22 k22=> ?_;refine yy (Y.fieldAddr rfl Tryz.underlying96 rfl ti3 Dc rfl) ?_;refine yy (Y.load1 rfl Tryz.underlying3 rfl rfl (Blk.at_eq m21 rfl)) ?_;refine yy (Y.neg rfl rfl Wo) ?_;refine yy (Y.fieldAddr rfl Tryz.underlying96 rfl ti3 Dc rfl) ?_;refine yy (Y.load1 rfl Tryz.underlying3 rfl rfl (Blk.at_eq m21 rfl)) ?_;refine yy (Y.neg rfl rfl Wo) ?_;refine yy (Y.build (cells:=[_,_]) rfl pl96 rfl rfl) ?_;refine WL.store (cs':=[_,_]) rfl rfl rfl rfl rfl rfl ti96 m6 (ble rfl) rfl rfl (fun w23 on24 m25=> ?_);have m21:=m21.only n_g2_g14.symm on24;have xW:=Ext.only xW on24 o_g2;refine go1 ?_;refine nk k22 [4,5] ?_;refine WC.ret ?_;refine WK.then_ret ?_;clear k1 k7 k8 k9 k10 k11 k22;refine WK.ret [_,_] rfl ⟨⟨_,rfl,run_loadVar_blk Tryz.underlying96 rfl ti96 m25⟩,rfl,trivial⟩ ?_;exact⟨rfl,xW⟩
theorem stretch_any(d ppm:Int)(w:World):Cr 235 #[.int .i64 d,.int .i64 ppm] w (Iv.ivb (Iv.stretchF d ppm)):=by
 cases hg:Iv.strGuard d ppm with
 |true=>rw[Iv.stretch_bad hg];exact stretch_bad d ppm w hg
 |false=>
  have hb:=Iv.guard_no hg;by_cases h0:d<0
  ·rw[Iv.stretch_neg hg h0];exact stretch_neg d ppm w Om Om
  ·rw[Iv.stretch_pos hg h0];exact stretch_pos d ppm w Om Om
end NumF
end Go.Proofs.YtaclfjjipnpboaaGreatDoor
end
section
attribute [local irreducible] Go.Eng.WC Go.Eng.WL Go.Eng.WK Go.Eng.WQ Go.Eng.WX Go.Eng.Yld
namespace Go.Proofs.YtaclfjjipnpboaaGreatDoor
open Go Go.Eng Go.RowKit
namespace TW
theorem take_g{α:Type}[Inhabited α](l:List α){i j:Nat}(h:j<i):(l.take i)[j]! =l[j]! :=by rw[List.getElem!_eq_getElem?_getD,List.getElem!_eq_getElem?_getD,List.getElem?_take_of_lt h]
theorem ag_yes{l:List Sn}{i j:Nat}(e:j=i)(h:(!agB l i j)=true):dfN l (i+1)=dfN l i++[l[i]!]:=by subst e;exact if_pos (by simpa using h)
theorem ag_no{l:List Sn}{i j:Nat}(e:j=i)(h:(!agB l i j)=false):dfN l (i+1)=dfN l i:=by subst e;exact if_neg (by simpa using h)
theorem different_any(A_l:Option Addr)(n_l c_l:Nat)(l:List Sn)(w:World)(h_l:Ls w A_l n_l c_l Sn.c 5 l)(hn:n_l≤1000):
  Calls Tryz.prog 232 #[.slice A_l n_l c_l] w fun e w'=>∃v,e= .returned v∧OwnL w' w.heap.size 98 Sn.c 5 v (difF l)∧Ext w w':=by
 have H:=(Hp.nil w);have e_l:=h_l.len;have z_l:=h_l.nle;refine Wb Tryz.func232 ?_;have H:=H.nilRow 98 Sn.c 5;refine go ?_;refine sb [11,3,0,9,10] ?_;refine WC.loopS 2 (fun mz Ed W'=>∃i:Nat,∃v:Value,mz=n_l-i∧Ed=[(11,.int .i64 ((i:Nat):Int)),(3,v)]∧Hp w W' (row 98 Sn.c 5 v (dfN l i)::[])∧(i≤n_l)) _ ⟨0,_,rfl,rfl,(H.pick [0]),(Nat.zero_le _)⟩ ?_;rintro _ _ z ⟨i,v,rfl,rfl,H,il⟩;have dl:=dfN_len l i;refine go ?_;refine Cd (fun p9=> ?_) fun p9=> ?_
 ·have b12:i<n_l:=Om;refine go ?_;refine al H ti98 fun g13 z H=> ?_;refine go ?_;refine st H 0 ti98 fun z H=> ?_;have b18:i≤n_l:=Om;refine G8 ?_;refine yy (Y.sliceH i rfl u24 ti98 rfl rfl rfl (Nat.le_trans b18 (h_l.ext H.ext).le)) ?_;refine go ?_;refine sb [20,6,0,3,5,9,10,11,18,19] ?_;refine WC.loopS 2 (fun mz Ed W'=>∃j:Nat,mz=i-j∧Ed=[(20,.int .i64 ((j:Nat):Int)),(6,.bool (agB l i j))]∧Hp w W' (_::_::[])∧(j≤i)) _ ⟨0,rfl,rfl,(H.pick [0,0]),(Nat.zero_le _)⟩ ?_;rintro _ _ z ⟨j,rfl,rfl,H,jl⟩;refine go ?_;refine Cd (fun p21=> ?_) fun p21=> ?_
  ·have b24:j<i:=Om;refine G5 ?_;refine yy (Y.indexLs j ((h_l.ext H.ext).take b18) rfl u24 ti98 rfl rfl rfl b24) ?_;refine yy (Y.loadS (cs:=[_,_,_,_,_]) rfl u98 rfl ti98 rfl (Ls.part_eq ((h_l.ext H.ext).take b18) b24 rfl)) ?_;refine al H ti98 fun g25 z H=> ?_;refine st H 0 ti98 fun z H=> ?_;refine G6 ?_;refine yg (fun hb=>Y.eqlS rfl eqg98 (eq98 _ _ _ _ _ _ _ _ _ _) (evg rfl hb) (evg rfl hb)) ?_;refine yy (Yld.cast (Y.or rfl rfl rfl rfl) (vb (show(agB l i j||snSame l[i]! (l.take i)[j]!)=agB l i (j+1)from by rw[take_g l (show j<i by omega)];rfl))) ?_;refine go ?_;exact Rs [(20,_),(6,_)] Sx ⟨(j+1),rfl,rfl,(H.pick [1,1]),Om⟩
  ·refine go ?_;refine WC.cond rfl (fun h28=> ?_) (fun h28=> ?_)
   ·refine go ?_;refine bs1 H u24 ti98 fun g29 z H=> ?_;refine ap H 2 0 rfl [l[i]!] u24 ti98 rfl Sn.one (room_le dl (Nat.le_refl 1) Om) fun v31 z H=> ?_;refine G4 ?_;refine sb [0,3,9,10,11] ?_;refine go ?_;exact Rs [(11,_),(3,_)] Sx ⟨(i+1),v31,rfl,rfl,(by rw[show dfN l (i+1)=((dfN l i)++[l[i]!])from ag_yes Om h28];exact(H.pick [2])),Om⟩
   ·refine go ?_;exact Rs [(11,_),(3,_)] Sx ⟨(i+1),v,rfl,rfl,(by rw[show dfN l (i+1)=(dfN l i)from ag_no Om h28];exact(H.pick [1])),Om⟩
 ·refine go ?_;refine Rt [_] ?_;exact⟨_,rfl,(by rw[show difF l=dfN l i from by unfold difF;congr 1;omega];exact H.out 0),H.ext⟩
theorem points_any(A_l:Option Addr)(n_l c_l:Nat)(l:List Sn)(id:Int)(w:World)(h_l:Ls w A_l n_l c_l Sn.c 5 l)(hn:n_l≤1000):
  Calls Tryz.prog 233 #[.slice A_l n_l c_l,.int .i64 id] w fun e w'=>∃v,e= .returned v∧OwnL w' w.heap.size 3 ic 1 v (ptF l id)∧Ext w w':=by
 have H:=(Hp.nil w);have e_l:=h_l.len;have z_l:=h_l.nle;refine Wb Tryz.func233 ?_;have H:=H.nilRow 3 ic 1;refine go ?_;refine sb [10,5,1,8,9] ?_;refine WC.loopS 2 (fun mz Ed W'=>∃j:Nat,∃v:Value,mz=n_l-j∧Ed=[(10,.int .i64 ((j:Nat):Int)),(5,v)]∧Hp w W' (row 3 ic 1 v (ptN l id j)::[])∧(j≤n_l)) _ ⟨0,_,rfl,rfl,(H.pick [0]),(Nat.zero_le _)⟩ ?_;rintro _ _ z ⟨j,v,rfl,rfl,H,jl⟩;have dl:=ptN_len l id j;refine go ?_;refine Cd (fun p9=> ?_) fun p9=> ?_
 ·have b12:j<n_l:=Om;refine go ?_;refine al H ti98 fun g13 z H=> ?_;refine st H 0 ti98 fun z H=> ?_;refine go ?_;refine Cd (fun p17=> ?_) fun p17=> ?_
  ·refine go ?_;refine bs1 H u81 ti3 fun g18 z H=> ?_;refine ap H 2 0 rfl [l[j]!.ta] u81 ti3 rfl ic_one (room_le dl (Nat.le_refl 1) Om) fun v20 z H=> ?_;refine go ?_;refine Cd (fun p22=> ?_) fun p22=> ?_
   ·refine go ?_;refine bs (zs:=[.int .i64 0,.int .i64 0]) (cs:=[_,_]) H u81 ti3 fun g23 z H=> ?_;refine ap H 3 0 rfl [l[j]!.lo,l[j]!.hi] u81 ti3 rfl ic_one (by have dl:=dl;simp only[List.length_append,List.length_cons,List.length_nil];omega) fun v25 z H=> ?_;refine G4 ?_;refine sb [1,5,8,9,10] ?_;refine go ?_;exact Rs [(10,_),(5,_)] Sx ⟨(j+1),v25,rfl,rfl,(by rw[show ptN l id (j+1)=(((ptN l id j)++[l[j]!.ta])++[l[j]!.lo,l[j]!.hi])from(if_pos p22).trans (by rw[if_pos p17])];exact(H.pick [3])),Om⟩
   ·refine go ?_;exact Rs [(10,_),(5,_)] Sx ⟨(j+1),v20,rfl,rfl,(by rw[show ptN l id (j+1)=((ptN l id j)++[l[j]!.ta])from(if_neg p22).trans (by rw[if_pos p17])];exact(H.pick [2])),Om⟩
  ·refine go ?_;refine Cd (fun p27=> ?_) fun p27=> ?_
   ·refine go ?_;refine bs (zs:=[.int .i64 0,.int .i64 0]) (cs:=[_,_]) H u81 ti3 fun g28 z H=> ?_;refine ap H 2 0 rfl [l[j]!.lo,l[j]!.hi] u81 ti3 rfl ic_one (by have dl:=dl;simp only[List.length_append,List.length_cons,List.length_nil];omega) fun v30 z H=> ?_;refine go ?_;exact Rs [(10,_),(5,_)] Sx ⟨(j+1),v30,rfl,rfl,(by rw[show ptN l id (j+1)=((ptN l id j)++[l[j]!.lo,l[j]!.hi])from(if_pos p27).trans (by rw[if_neg p17])];exact(H.pick [2])),Om⟩
   ·refine G3 ?_;refine sb [1,5,8,9,10] ?_;refine go ?_;exact Rs [(10,_),(5,_)] Sx ⟨(j+1),v,rfl,rfl,(by rw[show ptN l id (j+1)=(ptN l id j)from(if_neg p27).trans (by rw[if_neg p17])];exact(H.pick [1])),Om⟩
 ·refine go ?_;refine c3 Fh (sortI_any _ _ _ _ _ (H.front [0]) Om) ?_;rintro _ z ⟨rfl,H⟩;refine⟨_,rfl,?_⟩;refine go ?_;refine c3 Fh (compactI_any _ _ _ _ _ (H.front [0]) (by rw[srtI_len];omega)) ?_;rintro _ z ⟨v33,rfl,H⟩;refine⟨_,rfl,?_⟩;refine go ?_;refine Rt [_] ?_;obtain rfl:j=n_l:=Om;exact⟨_,rfl,(by rw[show ptF l id=Lib.compact (srtI (ptN l id j))from by unfold ptF csF;rw[e_l]];exact H.out 0),H.ext⟩
theorem linked_any(A_d:Option Addr)(n_d c_d:Nat)(d:List Dm)(A_l:Option Addr)(n_l c_l:Nat)(l:List Sn)(id:Int)(w:World)(h_d:Ls w A_d n_d c_d Dm.c 2 d)(h_l:Ls w A_l n_l c_l Sn.c 5 l)(hn:n_l≤1000):
  Cr 211 #[.slice A_d n_d c_d,.slice A_l n_l c_l,.int .i64 id] w (.bool (lnkF d l id)):=by
 have H:=(Hp.nil w);have e_d:=h_d.len;have z_d:=h_d.nle;have e_l:=h_l.len;have z_l:=h_l.nle;refine Wb Tryz.func211 ?_;refine go ?_;refine c1 H Fh (clcheck_any _ _ _ _ _ _ _ _ _ (h_d.ext H.ext) (h_l.ext H.ext)) fun z H=> ?_;refine G4 ?_;refine WL.callG rfl (blt rfl) rfl rfl rfl rfl rfl Fh (fun hb=>(evs_cons (evg rfl hb) (evs_cons (evg rfl hb) evs_nil))) (fun hb=>clix_any _ _ _ _ _ _ (h_d.ext H.ext)) (fun z x=> ?_);have H:=H.ex x;refine go ?_;refine Cd (fun p4=> ?_) fun p4=> ?_
 ·refine go ?_;refine Rt [_] ?_;exact⟨ret1 (vb (Eq.symm (if_pos p4))),H.ext⟩
 ·refine go ?_;refine c2 H Fh (different_any _ _ _ _ _ (h_l.ext H.ext) Om) fun v7 z H=> ?_;refine G2 ?_;refine sb [0,1,2] ?_;refine G1 ?_;refine mm H fun g10 z H=> ?_;refine mu H 0 u246 u3 fun z H=> ?_;obtain⟨A14,n15,c16,rfl,_,_,_⟩:=H.op 1;refine go ?_;refine sb [26,1,2,7,25] ?_;refine WC.loopS 1 (fun mz Ed W'=>∃k:Nat,mz=n_d-k∧Ed=[(26,.int .i64 ((k:Nat):Int))]∧Hp w W' (mpi g10 (pkb (lkO (difF l) k))::_::[])∧(k≤n_d)) _ ⟨0,rfl,rfl,(H.pick [0,0]),(Nat.zero_le _)⟩ ?_;rintro _ _ z ⟨k,rfl,rfl,H,kl⟩;refine go ?_;refine Cd (fun p19=> ?_) fun p19=> ?_
  ·have e_D:=(H.l 1).len;refine go ?_;refine sb [30,1,2,7,25,26,28,29] ?_;refine WC.loopS 1 (fun mz Ed W'=>∃j:Nat,mz=n15-j∧Ed=[(30,.int .i64 ((j:Nat):Int))]∧Hp w W' (mpi g10 (pkb (lkI (difF l) (lkO (difF l) k) j))::_::[])∧(j≤n15)) _ ⟨0,rfl,rfl,(H.pick [0,0]),(Nat.zero_le _)⟩ ?_;rintro _ _ z ⟨j,rfl,rfl,H,jl⟩;refine go ?_;refine Cd (fun p24=> ?_) fun p24=> ?_
   ·have b27:j<n15:=Om;refine go ?_;refine al H ti98 fun g28 z H=> ?_;refine st H 0 ti98 fun z H=> ?_;refine G5 ?_;refine yy (Yld.cast (Y.lookup rfl u246 u3 ti4 rfl rfl (fun _ h=>h▸(H.mi 1))) (mval_pkb _ _)) ?_;refine G4 ?_;refine yg (fun hb=>Yld.cast (Y.lookup rfl u246 u3 ti4 (evg rfl hb) (evg rfl hb) (fun _ h=>h▸(H.mi 1))) (mval_pkb _ _)) ?_;refine go ?_;refine Cd (fun p31=> ?_) fun p31=> ?_
    ·refine Xr H (HpC w _) (.load 0 (.load 1 (.load 2 (.load 3 (.load 4 (.load 5 (.alt 6 (.alt 7 (.fin) (.none)) (.none)))))))) (H.pick [0,1]) fun z H=> ?_;refine G6 ?_;refine muX (H.pick [0,1]) H 1 u246 u3 fun z H=> ?_;refine muX (H.pick [0,1]) H 1 u246 u3 fun z H=> ?_;refine WX.nil (H.pick [0,1]) ?_;refine go ?_;exact Rs [(30,_)] Sx ⟨(j+1),rfl,rfl,(by rw[show lkI (difF l) (lkO (difF l) k) (j+1)=addK (addK (lkI (difF l) (lkO (difF l) k) j) (difF l)[j]!.a) (difF l)[j]!.b from if_pos p31,←mset_addK,←mset_addK];exact(H.pick [1,1])),Om⟩
    ·refine G3 ?_;refine sb [1,2,7,25,26,28,29,30] ?_;refine go ?_;exact Rs [(30,_)] Sx ⟨(j+1),rfl,rfl,(by rw[show lkI (difF l) (lkO (difF l) k) (j+1)=(lkI (difF l) (lkO (difF l) k) j)from if_neg (fun q=>q.elim p31.1 p31.2)];exact(H.pick [1,1])),Om⟩
   ·refine go ?_;exact Rs [(26,_)] Sx ⟨(k+1),rfl,rfl,(by rw[show lkO (difF l) (k+1)=lkI (difF l) (lkO (difF l) k) j from by rw[show j=(difF l).length from Om];rfl];exact(H.pick [0,0])),Om⟩
  ·refine G8 ?_;refine yy (Yld.cast (Y.lookup rfl u246 u3 ti4 rfl rfl (fun _ h=>h▸(H.mi 0))) (mval_pkb _ _)) ?_;refine go ?_;refine Rt [_] ?_;exact⟨ret1 (vb (Eq.symm ((if_neg (fun q=>q.elim (fun q=>q p4.1) p4.2)).trans (by rw[e_d,show k=n_d from Om])))),H.ext⟩
theorem mul_small(x:Int)(y:Int)(p:Int)(w:World)(h:x*y=p)(hx:0≤x∧x≤18446744073709551615)(hy:0≤y∧y≤18446744073709551615)(hp:0≤p∧p≤18446744073709551615):
  Cr 248 #[.int .u64 x,.int .u64 y] w (.tuple #[.int .u64 0,.int .u64 p]):=by
 have H:=(Hp.nil w);refine Wb Tryz.func248 ?_;refine go ?_;refine WC.condF rfl ?_;refine go ?_;refine c1 H Fh (NumF.mul64_small x y p _ h hx hy hp) fun z H=> ?_;refine go ?_;refine Rt [_,_] ?_;exact⟨rfl,H.ext⟩
theorem repeat_any(A_l:Option Addr)(n_l c_l:Nat)(l:List Int)(n:Nat)(a:Int)(w:World)(h_l:Ls w A_l n_l c_l ic 1 l)(hl1:l=[a])(hn:1≤n∧n≤100000):
  Calls Tryz.prog 237 #[.slice A_l n_l c_l,.int .i64 ((n:Nat):Int)] w fun e w'=>∃v,e= .returned v∧OwnL w' w.heap.size 3 ic 1 v (List.replicate n a)∧Ext w w':=by
 have H:=(Hp.nil w);have e_l:=h_l.len;have z_l:=h_l.nle;have n1:n_l=1:=by rw[←e_l,hl1];rfl
 refine Wb Tryz.func237 ?_;refine G6 ?_;refine yy (Yld.cast (Y.lss rfl rfl rfl) (bf Om)) ?_;refine go ?_;refine WC.condF rfl ?_;refine go ?_;refine c1 H Fh (mul_small ((n_l:Nat):Int) ((n:Nat):Int) ((n:Nat):Int) _ (by rw[show n_l=1 from Om];exact Int.one_mul _) Om Om Om) fun z H=> ?_;refine G6 ?_;refine sb [0,5,6] ?_;refine G3 ?_;refine yy (Yld.cast (Y.gtr rfl rfl rfl) (bf Om)) ?_;refine G2 ?_;refine WL.yldW rfl (blt rfl) rfl rfl rfl (Yld.cast (Y.gtr rfl rfl rfl) (bf Om)) ?_;refine yy (Y.pickF rfl rfl rfl) ?_;refine go ?_;refine WC.condF rfl ?_;refine go ?_;refine ms (f:=ic) (m:=n) (0:Int) H u81 ti3 Om fun v8 z H=> ?_;obtain⟨A11,n12,c13,rfl,_,_,_⟩:=H.op 0;refine go ?_;refine cp0 H 0 rfl (h_l.ext H.ext) u81 (by kernel_rfl) ic_one Om Om fun z H=> ?_;rw[Bd.rep_first hl1 (show min n_l n12=1 from Om) Om]at H;refine go ?_;refine sb [8,7] ?_;refine WC.loopS 1 (fun mz Ed W'=>∃k:Nat,mz=n-k∧Ed=[(8,.int .i64 ((k:Nat):Int))]∧Hp w W' (row 3 ic 1 (.slice A11 n12 c13) (List.replicate k a++List.replicate (n-k) (0:Int))::[])∧(1≤k∧k≤n)) _ ⟨(min n_l n12),rfl,rfl,(H.pick [0]),Om⟩ ?_;rintro _ _ z ⟨k,rfl,rfl,H,le_k⟩;have lenk:(List.replicate k a++List.replicate (n-k) (0:Int)).length=n:=by rw[List.length_append,List.length_replicate,List.length_replicate];omega
 refine go ?_;refine Cd (fun p17=> ?_) fun p17=> ?_
 ·refine go ?_;refine Xr H (HpC w _) (.load 0 (.load 1 (.load 2 (.load 3 (.load 4 (.load 5 (.load 6 (.alt 7 (.load 8 (.load 9 (.fin))) (.none))))))))) (H.pick []) fun z H=> ?_;have b18:k≤n12:=Om;refine G3 ?_;refine yx rfl (Y.sliceL k rfl u81 ti3 rfl rfl rfl b18) ?_;have b19:k≤n12:=Om;refine G2 ?_;refine yx rfl (Y.sliceH k rfl u81 ti3 rfl rfl rfl Om) ?_;refine cpEX (H.pick []) (j:=k) H 0 rfl ((H.l 0).take b19) u81 (by kernel_rfl) ic_one Om Om fun z H=> ?_;refine go ?_;refine WX.nil (H.pick []) ?_;refine go ?_;refine WK.roundS _ [(8,_)] Sx ?_ ⟨(k+min k (n12-k)),rfl,rfl,(by have q:=(H.pick [0]);rw[Bd.rep_copy (n:=k) (N:=n) (show min k (n12-k)=min k (n-k) by omega) Om]at q;rw[show n12=n from Om]at q ⊢;exact q),Om⟩;show n-(k+min k (n12-k))<n-k;omega
 ·refine go ?_;refine Rt [_] ?_;obtain rfl:k=n:=Om;exact⟨_,rfl,(by have q:=H.out 0;rw[Nat.sub_self,List.replicate_zero,List.append_nil]at q;exact q),H.ext⟩
theorem number_any(g gm:Nat)(ev:Value)(ks:List Key)(a b:Int)(W:World)(R:List Res)(w:World)(H:Hp W w (box g 360 [.map (some gm),ev]::mpp gm (Bd.numF 0 ks)::R))(hn:ks.length≤100000):
  Calls Tryz.prog 214 #[.pointer (some ⟨g,0,none⟩),.int .i64 a,.int .i64 b] w fun e w'=>e= .returned (.int .i64 (Bd.nix (nuK ks (a,b)) (a,b)))∧Hp W w' (box g 360 [.map (some gm),ev]::mpp gm (Bd.numF 0 (nuK ks (a,b)))::R):=by
 refine Wb Tryz.func214 ?_;refine G11 ?_;by_cases hk:(a,b)∈ks
 ·refine yy (Y.lookupOkP rfl u357 pkk368 ti3 rfl rfl (fun _ h=>h▸(H.mp 1))) ?_;refine G1 ?_;refine yy (Yld.cast (Y.extract rfl rfl rfl) (Bd.pv_has (nu_get hk))) ?_;refine yy (Yld.cast (Y.extract rfl rfl rfl) (vb (show(pget _ _).isSome=true from by rw[nu_get hk];rfl))) ?_;refine go ?_;refine WC.condF rfl ?_;refine go ?_;refine Rt [_] ?_;exact⟨rfl,(by rw[nuK_has hk];exact H)⟩
 ·refine yy (Y.lookupOkP rfl u357 pkk368 ti3 rfl rfl (fun _ h=>h▸(H.mp 1))) ?_;refine G2 ?_;refine yy (Yld.cast (Y.extract rfl rfl rfl) (vb (show(pget _ _).isSome=false from by rw[nu_not hk];rfl))) ?_;refine go ?_;refine WC.condT rfl ?_;refine G5 ?_;refine yy (Yld.cast (Y.lenMapP rfl rfl rfl u357 rfl (fun _ h=>h▸(H.mp 1))) (vi (show(((Bd.numF 0 ks).length:Nat):Int)=((ks.length:Nat):Int)from by rw[Bd.numF_len]))) ?_;refine G3 ?_;refine sb [0,1,2,7] ?_;refine go ?_;refine mup H 1 u357 pkk368 fun z H=> ?_;refine go ?_;refine Rt [_] ?_;exact⟨(by rw[(nu_put hk).2];rfl),(by rw[←(nu_put hk).1];exact H)⟩
theorem add_any(g gm:Nat)(v:Value)(es:List Bd.Ed)(ea eb lo hi:Int)(W:World)(R:List Res)(w:World)(H:Hp W w (box g 360 [.map (some gm),v]::row 365 Bd.Ed.c 3 v es::R))(hn:es.length≤100000)(hr: -2000000000000≤lo∧lo≤2000000000000):
  Calls Tryz.prog 234 #[.pointer (some ⟨g,0,none⟩),.int .i64 ea,.int .i64 eb,.agg #[.int .i64 lo,.int .i64 hi]] w fun e w'=>∃v',e= .returned (resVal [])∧Hp W w' (box g 360 [.map (some gm),v']::row 365 Bd.Ed.c 3 v' (es++[⟨ea,eb,hi⟩,⟨eb,ea,-lo⟩])::R):=by
 refine Wb Tryz.func234 ?_;refine go ?_;refine bx H fun g5 z H=> ?_;obtain⟨A7,n8,c9,rfl,_,_,_⟩:=H.op 2;refine go ?_;refine Xr H (HpC W _) (.load 0 (.load 1 (.load 2 (.load 3 (.load 5 (.load 6 (.load 7 (.load 8 (.load 9 (.load 10 (.load 11 (.load 12 (.load 13 (.load 14 (.load 15 (.alt 4 (.alt 16 (.alt 17 (.load 18 (.load 19 (.alt 20 (.fin) (.none)))) (.none)) (.none)) (.alt 16 (.alt 4 (.alt 17 (.load 18 (.load 19 (.alt 20 (.fin) (.none)))) (.none)) (.none)) (.none)))))))))))))))))) (H.pick [0]) fun z H=> ?_;refine G13 ?_;refine yx rfl (Y.neg rfl rfl Wo) ?_;refine G1 ?_;refine WX.alt ?_ ?_
 ·refine WX.yldL rfl rfl (blt rfl) rfl (H.pick [0]) (ld rfl u358 rfl (Blk.at_eq (H.b 1) rfl)) ?_;refine bsX (H.pick [0]) (zs:=[.int .i64 0,.int .i64 0,.int .i64 0,.int .i64 0,.int .i64 0,.int .i64 0]) (cs:=[_,_,_,_,_,_]) H u358 ti365 fun g10 z H=> ?_;refine apX (H.pick [1]) H 3 0 rfl [⟨ea,eb,hi⟩,⟨eb,ea,-lo⟩] u358 ti365 rfl Bd.Ed.one (by simp only[List.length_cons,List.length_nil];omega) fun v12 z H=> ?_;obtain⟨A13,n14,c15,rfl,_,_,_⟩:=H.op 3;refine go ?_;refine stX (H.pick [1]) H 2 ti358 fun z H=> ?_;refine WX.nil (H.pick [1]) ?_;refine En ?_;exact⟨_,rfl,(H.drop [0,0])⟩
 refine bsX (H.pick [0]) (zs:=[.int .i64 0,.int .i64 0,.int .i64 0,.int .i64 0,.int .i64 0,.int .i64 0]) (cs:=[_,_,_,_,_,_]) H u358 ti365 fun g16 z H=> ?_;refine WX.yldL rfl rfl (blt rfl) rfl (H.pick [1]) (ld rfl u358 rfl (Blk.at_eq (H.b 2) rfl)) ?_;refine apX (H.pick [1]) H 3 0 rfl [⟨ea,eb,hi⟩,⟨eb,ea,-lo⟩] u358 ti365 rfl Bd.Ed.one (by simp only[List.length_cons,List.length_nil];omega) fun v18 z H=> ?_;obtain⟨A19,n20,c21,rfl,_,_,_⟩:=H.op 3;refine go ?_;refine stX (H.pick [1]) H 2 ti358 fun z H=> ?_;refine WX.nil (H.pick [1]) ?_;refine En ?_;exact⟨_,rfl,(H.drop [0,0])⟩
theorem dp_yes{l:List Sn}{id at_:Int}{x:Dm}(h:(x.id==id&& !decide (at_∈ptF l x.id))=true):dpF l id at_ x=srtI (ptF l x.id++[at_]):=by unfold dpF;rw[if_pos (by simpa using h)]
theorem dp_no{l:List Sn}{id at_:Int}{x:Dm}(h:(x.id==id&& !decide (at_∈ptF l x.id))=false):dpF l id at_ x=srtI (ptF l x.id):=by unfold dpF;rw[if_neg (fun q=>by rw[show(x.id==id&& !decide (at_∈ptF l x.id))=true from by simpa using q]at h;cases h)]
theorem build_any(A_d:Option Addr)(n_d c_d:Nat)(d:List Dm)(A_l:Option Addr)(n_l c_l:Nat)(l:List Sn)(id:Int)(at_:Int)(w:World)(h_d:Ls w A_d n_d c_d Dm.c 2 d)(h_l:Ls w A_l n_l c_l Sn.c 5 l)(hR:SnR l)(hl12:l.length≤12)(hd8:d.length≤8)(hat:0≤at_∧at_≤1000000000000):
  Calls Tryz.prog 212 #[.slice A_d n_d c_d,.slice A_l n_l c_l,.int .i64 id,.int .i64 at_] w fun e w'=>∃g gm v,e= .returned (.pointer (some ⟨g,0,none⟩))∧Hp w w' [box g 360 [.map (some gm),v],mpp gm (Bd.numF 0 (bF d l id at_).ks),row 365 Bd.Ed.c 3 v (bF d l id at_).es]:=by
 have H:=(Hp.nil w);have e_d:=h_d.len;have z_d:=h_d.nle;have e_l:=h_l.len;have z_l:=h_l.nle;refine Wb Tryz.func212 ?_;refine go ?_;refine mmp H fun g3 z H=> ?_;refine go ?_;refine bx H fun g5 z H=> ?_;have H:=H.nilRow 365 Bd.Ed.c 3;refine go ?_;refine sb [28,1,2,3,9,26,27] ?_;refine WC.loopS 1 (fun mz Ed W'=>∃k:Nat,∃v:Value,mz=n_d-k∧Ed=[(28,.int .i64 ((k:Nat):Int))]∧Hp w W' (row 365 Bd.Ed.c 3 v ((bD d l id at_ k)).es::box g5 360 [.map (some g3),v]::mpp g3 (Bd.numF 0 ((bD d l id at_ k)).ks)::[])∧(k≤n_d)) _ ⟨0,_,rfl,rfl,(H.pick [0,0,0]),(Nat.zero_le _)⟩ ?_;rintro _ _ z ⟨k,v,rfl,rfl,H,kl⟩;have hpf:=(ptF_ok (id:=d[k]!.id) hR).1;have ok0:=bD_ok (d:=d) (id:=id) hR hl12 hat k;refine go ?_;refine Cd (fun p12=> ?_) fun p12=> ?_
 ·have b15:k<n_d:=Om;refine go ?_;refine al H ti86 fun g16 z H=> ?_;refine st H 0 ti86 fun z H=> ?_;refine go ?_;refine c2 H Fh (points_any _ _ _ _ _ _ (h_l.ext H.ext) Om) fun v19 z H=> ?_;obtain⟨A23,n24,c25,rfl,_,_,_⟩:=H.op 0;refine G11 ?_;refine WL.callG rfl (blt rfl) rfl rfl rfl rfl rfl Fh (fun hb=>(evs_cons (evg rfl hb) (evs_cons (evg rfl hb) evs_nil))) (fun hb=>hasI_any _ _ _ _ _ _ (H.l 0)) (fun z x=> ?_);have H:=H.ex x;refine go ?_;refine WC.cond rfl (fun h26=> ?_) (fun h26=> ?_)
  ·have p26:=(And.intro (eq_t (and_t h26).1) (dec_f (not_t (and_t h26).2)));refine go ?_;refine c2 H Fh (cloneI_any _ _ _ _ _ (H.l 0) Om) fun v27 z H=> ?_;refine go ?_;refine bs1 H u81 ti3 fun g29 z H=> ?_;refine ap H 1 0 rfl [at_] u81 ti3 rfl ic_one (by have q:=ptF_ok (id:=d[k]!.id) hR;simp only[List.length_cons,List.length_nil];omega) fun v31 z H=> ?_;refine go ?_;refine c3 Fh (sortI_any _ _ _ _ _ (H.front [1]) (by have q:=ptF_ok (id:=d[k]!.id) hR;first|omega|(rw[List.length_append];simp only[List.length_cons,List.length_nil];omega))) ?_;rintro _ z ⟨rfl,H⟩;refine⟨_,rfl,?_⟩;obtain⟨ps,hps⟩:∃q,q=dpF l id at_ d[k]! :=⟨_,rfl⟩;obtain⟨hpl,hpr⟩:=dpF_ok (id:=id) (x:=d[k]!) hR hl12 hat;rw[←hps]at hpl hpr;rw[show(srtI ((ptF l d[k]!.id)++[at_]))=ps from(hps.trans (dp_yes h26)).symm]at H;obtain⟨A34,n35,c36,rfl,_,_,_⟩:=H.op 0;refine G1 ?_;refine sb [1,2,3,9,11,12,26,27,28] ?_;refine go ?_;refine sb [55,1,2,3,9,11,12,26,27,28,53,54] ?_;refine WC.loopS 1 (fun mz Ed W'=>∃i:Nat,∃v1:Value,mz=n35-i∧Ed=[(55,.int .i64 ((i:Nat):Int))]∧Hp w W' (_::_::_::_::row 365 Bd.Ed.c 3 v1 ((bP d[k]! ps (bD d l id at_ k) i)).es::box g5 360 [.map (some g3),v1]::mpp g3 (Bd.numF 0 ((bP d[k]! ps (bD d l id at_ k) i)).ks)::[])∧(i≤n35)) _ ⟨0,_,rfl,rfl,(H.pick [0,0,0,0,0,0,0]),(Nat.zero_le _)⟩ ?_;rintro _ _ z ⟨i,v1,rfl,rfl,H,il⟩;obtain⟨ok1,hin⟩:=bP_ok (x:=d[k]!) ok0 hpr i Om Om;obtain⟨S,hS⟩:∃q,q=bP d[k]! ps (bD d l id at_ k) i:=⟨_,rfl⟩;rw[←hS]at H ok1 hin;refine go ?_;refine Cd (fun p39=> ?_) fun p39=> ?_
   ·have b42:i<n35:=Om;have hpi:=hpr _ (mem_b (show i<ps.length by omega));have hks:=ok1.k;have hes:=ok1.m;have hnr:=nuK_rng S.ks (d[k]!.id,ps[i]!);have hkl:=nuK_len S.ks (d[k]!.id,ps[i]!);refine go ?_;refine c3 Fh (number_any _ _ _ _ _ _ _ _ _ (H.front [5,5]) Om) ?_;rintro _ z ⟨rfl,H⟩;refine⟨_,rfl,?_⟩;refine go ?_;refine Cd (fun p46=> ?_) fun p46=> ?_
    ·refine go ?_;refine c3 Fh (add_any _ _ _ _ _ _ (ps[i]!) _ _ _ _ (H.front [0,5]) Om Om) ?_;rintro _ z ⟨v48,rfl,H⟩;refine⟨_,rfl,?_⟩;refine G1 ?_;refine sb [1,2,3,9,11,12,26,27,28,53,54,55] ?_;refine go ?_;exact Rs [(55,_)] Sx ⟨(i+1),v48,rfl,rfl,(by rw[show bP d[k]! ps (bD d l id at_ k) (i+1)=bP1 d[k]! ps S i from by rw[hS];rfl,show bP1 d[k]! ps S i=_ from if_pos p46];exact(H.pick [3,3,3,3,1,0,0])),Om⟩
    ·have b50:i≤n35:=Om;refine G5 ?_;refine yy (Y.sliceH i rfl u81 ti3 rfl rfl rfl Om) ?_;have ok2:=ok1.key (d[k]!.id,ps[i]!);refine go ?_;refine sb [78,1,2,3,9,11,12,14,15,26,27,28,53,54,55,76,77] ?_;refine WC.loopS 1 (fun mz Ed W'=>∃j:Nat,∃v2:Value,mz=i-j∧Ed=[(78,.int .i64 ((j:Nat):Int))]∧Hp w W' (box g5 360 [.map (some g3),v2]::mpp g3 (Bd.numF 0 ((bQ d[k]! ps[i]! (Bd.nix (nuK S.ks (d[k]!.id,ps[i]!)) (d[k]!.id,ps[i]!)) ⟨(nuK S.ks (d[k]!.id,ps[i]!)),S.es⟩ (ps.take i) j)).ks)::_::_::_::_::row 365 Bd.Ed.c 3 v2 ((bQ d[k]! ps[i]! (Bd.nix (nuK S.ks (d[k]!.id,ps[i]!)) (d[k]!.id,ps[i]!)) ⟨(nuK S.ks (d[k]!.id,ps[i]!)),S.es⟩ (ps.take i) j)).es::[])∧(j≤i)) _ ⟨0,_,rfl,rfl,(H.pick [0,0,0,0,0,0,0]),(Nat.zero_le _)⟩ ?_;rintro _ _ z ⟨j,v2,rfl,rfl,H,jl⟩;obtain⟨ok3,hk3⟩:=bQ_ok (x:=d[k]!) (p:=ps[i]!) (n:=Bd.nix (nuK S.ks (d[k]!.id,ps[i]!)) (d[k]!.id,ps[i]!)) (ps:=ps.take i) ok2 hnr (fun q hq=>nuK_sub (hin q hq)) j (by rw[List.length_take];omega);have hk4:=ok3.k;have hm4:=ok3.m;refine go ?_;refine Cd (fun p53=> ?_) fun p53=> ?_
     ·have b56:j<i:=Om;refine G5 ?_;refine yy (Y.indexLs j ((H.l 2).take b50) rfl u81 ti3 rfl rfl rfl b56) ?_;refine yy (ld rfl u3 rfl (Ls.at_eq ((H.l 2).take b50) b56 rfl)) ?_;have hpj:0≤(ps.take i)[j]!∧(ps.take i)[j]!≤1000000000000:=hpr _ (by rw[take_g ps (show j<i by omega)];exact mem_b (show j<ps.length by omega));have hsb:=Iv.str_bound (ps[i]! -(ps.take i)[j]!) d[k]!.ppm;refine go ?_;refine c1 H Fh (NumF.stretch_any _ _ _) fun z H=> ?_;refine go ?_;refine al H ti96 fun g58 z H=> ?_;refine st H 0 ti96 fun z H=> ?_;refine go ?_;refine Xr H (HpC w _) (.load 0 (.load 1 (.load 2 (.load 3 (.load 4 (.load 6 (.load 7 (.alt 5 (.alt 8 (.fin) (.none)) (.none))))))))) (H.pick [0,2,2,2,2]) fun z H=> ?_;refine go ?_;refine c3X (H.pick [0,2,2,2,2]) Fh (number_any _ _ _ _ _ _ _ _ _ (H.front [1,1]) Om) ?_;rintro _ z ⟨rfl,H⟩;refine⟨_,rfl,?_⟩;refine c3X (H.pick [2,2,2,2,2]) Fh (add_any _ _ _ _ _ _ ((Iv.stretchF (ps[i]! -(ps.take i)[j]!) d[k]!.ppm).1.1) _ _ _ _ (H.front [0,6]) Om Om) ?_;rintro _ z ⟨v60,rfl,H⟩;refine⟨_,rfl,?_⟩;refine WX.nil (H.pick [3,3,3,3,3]) ?_;refine go ?_;exact Rs [(78,_)] Sx ⟨(j+1),v60,rfl,rfl,(H.pick [0,1,2,2,2,2,0]),Om⟩
     ·refine G6 ?_;refine sb [1,2,3,9,11,12,26,27,28,53,54,55] ?_;refine go ?_;exact Rs [(55,_)] Sx ⟨(i+1),v2,rfl,rfl,(by rw[show bP d[k]! ps (bD d l id at_ k) (i+1)=bQ d[k]! ps[i]! (Bd.nix (nuK S.ks (d[k]!.id,ps[i]!)) (d[k]!.id,ps[i]!)) ⟨(nuK S.ks (d[k]!.id,ps[i]!)),S.es⟩ (ps.take i) j from by rw[show bP d[k]! ps (bD d l id at_ k) (i+1)=bP1 d[k]! ps S i from by rw[hS];rfl,show j=i from Om];exact if_neg p46];exact(H.pick [2,2,2,2,2,0,0])),Om⟩
   ·refine go ?_;exact Rs [(28,_)] Sx ⟨(k+1),v1,rfl,rfl,(by rw[show bD d l id at_ (k+1)=S from by rw[hS,show i=ps.length from Om,hps];rfl];exact(H.pick [4,4,4])),Om⟩
  ·have p26:=((and_f h26).imp (fun h=>(eq_f h)) (fun h=>(dec_t (not_f h))));refine go ?_;refine c3 Fh (sortI_any _ _ _ _ _ (H.front [0]) (by have q:=ptF_ok (id:=d[k]!.id) hR;first|omega|(rw[List.length_append];simp only[List.length_cons,List.length_nil];omega))) ?_;rintro _ z ⟨rfl,H⟩;refine⟨_,rfl,?_⟩;obtain⟨ps,hps⟩:∃q,q=dpF l id at_ d[k]! :=⟨_,rfl⟩;obtain⟨hpl,hpr⟩:=dpF_ok (id:=id) (x:=d[k]!) hR hl12 hat;rw[←hps]at hpl hpr;rw[show(srtI (ptF l d[k]!.id))=ps from(hps.trans (dp_no h26)).symm]at H;have e_ps:=(H.l 0).len;refine go ?_;refine sb [55,1,2,3,9,11,12,26,27,28,53,54] ?_;refine WC.loopS 1 (fun mz Ed W'=>∃i:Nat,∃v1:Value,mz=n24-i∧Ed=[(55,.int .i64 ((i:Nat):Int))]∧Hp w W' (_::_::row 365 Bd.Ed.c 3 v1 ((bP d[k]! ps (bD d l id at_ k) i)).es::box g5 360 [.map (some g3),v1]::mpp g3 (Bd.numF 0 ((bP d[k]! ps (bD d l id at_ k) i)).ks)::[])∧(i≤n24)) _ ⟨0,_,rfl,rfl,(H.pick [0,0,0,0,0]),(Nat.zero_le _)⟩ ?_;rintro _ _ z ⟨i,v1,rfl,rfl,H,il⟩;obtain⟨ok1,hin⟩:=bP_ok (x:=d[k]!) ok0 hpr i Om Om;obtain⟨S,hS⟩:∃q,q=bP d[k]! ps (bD d l id at_ k) i:=⟨_,rfl⟩;rw[←hS]at H ok1 hin;refine go ?_;refine Cd (fun p65=> ?_) fun p65=> ?_
   ·have b68:i<n24:=Om;have hpi:=hpr _ (mem_b (show i<ps.length by omega));have hks:=ok1.k;have hes:=ok1.m;have hnr:=nuK_rng S.ks (d[k]!.id,ps[i]!);have hkl:=nuK_len S.ks (d[k]!.id,ps[i]!);refine go ?_;refine c3 Fh (number_any _ _ _ _ _ _ _ _ _ (H.front [3,3]) Om) ?_;rintro _ z ⟨rfl,H⟩;refine⟨_,rfl,?_⟩;refine go ?_;refine Cd (fun p72=> ?_) fun p72=> ?_
    ·refine go ?_;refine c3 Fh (add_any _ _ _ _ _ _ (ps[i]!) _ _ _ _ (H.front [0,3]) Om Om) ?_;rintro _ z ⟨v74,rfl,H⟩;refine⟨_,rfl,?_⟩;refine G1 ?_;refine sb [1,2,3,9,11,12,26,27,28,53,54,55] ?_;refine go ?_;exact Rs [(55,_)] Sx ⟨(i+1),v74,rfl,rfl,(by rw[show bP d[k]! ps (bD d l id at_ k) (i+1)=bP1 d[k]! ps S i from by rw[hS];rfl,show bP1 d[k]! ps S i=_ from if_pos p72];exact(H.pick [3,3,1,0,0])),Om⟩
    ·have b76:i≤n24:=Om;refine G5 ?_;refine yy (Y.sliceH i rfl u81 ti3 rfl rfl rfl Om) ?_;have ok2:=ok1.key (d[k]!.id,ps[i]!);refine go ?_;refine sb [78,1,2,3,9,11,12,14,15,26,27,28,53,54,55,76,77] ?_;refine WC.loopS 1 (fun mz Ed W'=>∃j:Nat,∃v2:Value,mz=i-j∧Ed=[(78,.int .i64 ((j:Nat):Int))]∧Hp w W' (box g5 360 [.map (some g3),v2]::mpp g3 (Bd.numF 0 ((bQ d[k]! ps[i]! (Bd.nix (nuK S.ks (d[k]!.id,ps[i]!)) (d[k]!.id,ps[i]!)) ⟨(nuK S.ks (d[k]!.id,ps[i]!)),S.es⟩ (ps.take i) j)).ks)::_::_::row 365 Bd.Ed.c 3 v2 ((bQ d[k]! ps[i]! (Bd.nix (nuK S.ks (d[k]!.id,ps[i]!)) (d[k]!.id,ps[i]!)) ⟨(nuK S.ks (d[k]!.id,ps[i]!)),S.es⟩ (ps.take i) j)).es::[])∧(j≤i)) _ ⟨0,_,rfl,rfl,(H.pick [0,0,0,0,0]),(Nat.zero_le _)⟩ ?_;rintro _ _ z ⟨j,v2,rfl,rfl,H,jl⟩;obtain⟨ok3,hk3⟩:=bQ_ok (x:=d[k]!) (p:=ps[i]!) (n:=Bd.nix (nuK S.ks (d[k]!.id,ps[i]!)) (d[k]!.id,ps[i]!)) (ps:=ps.take i) ok2 hnr (fun q hq=>nuK_sub (hin q hq)) j (by rw[List.length_take];omega);have hk4:=ok3.k;have hm4:=ok3.m;refine go ?_;refine Cd (fun p79=> ?_) fun p79=> ?_
     ·have b82:j<i:=Om;refine G5 ?_;refine yy (Y.indexLs j ((H.l 2).take b76) rfl u81 ti3 rfl rfl rfl b82) ?_;refine yy (ld rfl u3 rfl (Ls.at_eq ((H.l 2).take b76) b82 rfl)) ?_;have hpj:0≤(ps.take i)[j]!∧(ps.take i)[j]!≤1000000000000:=hpr _ (by rw[take_g ps (show j<i by omega)];exact mem_b (show j<ps.length by omega));have hsb:=Iv.str_bound (ps[i]! -(ps.take i)[j]!) d[k]!.ppm;refine go ?_;refine c1 H Fh (NumF.stretch_any _ _ _) fun z H=> ?_;refine go ?_;refine al H ti96 fun g84 z H=> ?_;refine st H 0 ti96 fun z H=> ?_;refine go ?_;refine Xr H (HpC w _) (.load 0 (.load 1 (.load 2 (.load 3 (.load 4 (.load 6 (.load 7 (.alt 5 (.alt 8 (.fin) (.none)) (.none))))))))) (H.pick [0,2,2]) fun z H=> ?_;refine go ?_;refine c3X (H.pick [0,2,2]) Fh (number_any _ _ _ _ _ _ _ _ _ (H.front [1,1]) Om) ?_;rintro _ z ⟨rfl,H⟩;refine⟨_,rfl,?_⟩;refine c3X (H.pick [2,2,2]) Fh (add_any _ _ _ _ _ _ ((Iv.stretchF (ps[i]! -(ps.take i)[j]!) d[k]!.ppm).1.1) _ _ _ _ (H.front [0,4]) Om Om) ?_;rintro _ z ⟨v86,rfl,H⟩;refine⟨_,rfl,?_⟩;refine WX.nil (H.pick [3,3,3]) ?_;refine go ?_;exact Rs [(78,_)] Sx ⟨(j+1),v86,rfl,rfl,(H.pick [0,1,2,2,0]),Om⟩
     ·refine G6 ?_;refine sb [1,2,3,9,11,12,26,27,28,53,54,55] ?_;refine go ?_;exact Rs [(55,_)] Sx ⟨(i+1),v2,rfl,rfl,(by rw[show bP d[k]! ps (bD d l id at_ k) (i+1)=bQ d[k]! ps[i]! (Bd.nix (nuK S.ks (d[k]!.id,ps[i]!)) (d[k]!.id,ps[i]!)) ⟨(nuK S.ks (d[k]!.id,ps[i]!)),S.es⟩ (ps.take i) j from by rw[show bP d[k]! ps (bD d l id at_ k) (i+1)=bP1 d[k]! ps S i from by rw[hS];rfl,show j=i from Om];exact if_neg p72];exact(H.pick [2,2,2,0,0])),Om⟩
   ·refine go ?_;exact Rs [(28,_)] Sx ⟨(k+1),v1,rfl,rfl,(by rw[show bD d l id at_ (k+1)=S from by rw[hS,show i=ps.length from Om,hps];rfl];exact(H.pick [2,2,2])),Om⟩
 ·obtain rfl:k=n_d:=Om;subst e_d;refine go ?_;refine sb [105,9,103,104] ?_;refine WC.loopS 1 (fun mz Ed W'=>∃j:Nat,∃v:Value,mz=n_l-j∧Ed=[(105,.int .i64 ((j:Nat):Int))]∧Hp w W' (row 365 Bd.Ed.c 3 v ((fN bS1 (bD d l id at_ d.length) l j)).es::box g5 360 [.map (some g3),v]::mpp g3 (Bd.numF 0 ((fN bS1 (bD d l id at_ d.length) l j)).ks)::[])∧(j≤n_l)) _ ⟨0,_,rfl,rfl,(H.pick [0,0,0]),(Nat.zero_le _)⟩ ?_;rintro _ _ z ⟨j,v,rfl,rfl,H,jl⟩;have ok3:=bS_ok ok0 l j;have hk3:=ok3.k;have hm3:=ok3.m;have n1:=nuK_len (fN bS1 (bD d l id at_ d.length) l j).ks (l[j]!.a,l[j]!.ta);have n2:=nuK_len (nuK (fN bS1 (bD d l id at_ d.length) l j).ks (l[j]!.a,l[j]!.ta)) (l[j]!.b,l[j]!.lo);refine go ?_;refine Cd (fun p91=> ?_) fun p91=> ?_
  ·have b94:j<n_l:=Om;refine go ?_;refine al H ti98 fun g95 z H=> ?_;refine st H 0 ti98 fun z H=> ?_;refine go ?_;refine c3 Fh (number_any _ _ _ _ _ _ _ _ _ (H.front [2,2]) Om) ?_;rintro _ z ⟨rfl,H⟩;refine⟨_,rfl,?_⟩;obtain⟨A98,n99,c100,rfl,_,_,_⟩:=H.op 3;refine go ?_;refine Xr H (HpC w _) (.load 0 (.load 1 (.load 2 (.load 3 (.load 5 (.load 6 (.load 7 (.load 8 (.load 9 (.load 10 (.load 11 (.load 14 (.load 15 (.load 16 (.load 17 (.load 18 (.load 19 (.load 21 (.alt 4 (.alt 12 (.load 13 (.alt 20 (.load 22 (.alt 23 (.alt 24 (.load 25 (.load 26 (.alt 27 (.fin) (.none)))) (.none)) (.none))) (.none))) (.none)) (.alt 12 (.load 13 (.alt 4 (.alt 20 (.load 22 (.alt 23 (.alt 24 (.load 25 (.load 26 (.alt 27 (.fin) (.none)))) (.none)) (.none))) (.none)) (.alt 20 (.load 22 (.alt 4 (.alt 23 (.alt 24 (.load 25 (.load 26 (.alt 27 (.fin) (.none)))) (.none)) (.none)) (.alt 23 (.alt 4 (.alt 24 (.load 25 (.load 26 (.alt 27 (.fin) (.none)))) (.none)) (.none)) (.none)))) (.none)))) (.none))))))))))))))))))))) (H.pick [2]) fun z H=> ?_;refine G18 ?_;refine WX.alt ?_ ?_
   ·refine WX.yldL rfl rfl (blt rfl) rfl (H.pick [2]) (ld rfl u358 rfl (Blk.at_eq (H.b 0) rfl)) ?_;refine c3X (H.pick [2]) Fh (number_any _ _ _ _ _ _ _ _ _ (H.front [0,0]) Om) ?_;rintro _ z ⟨rfl,H⟩;refine⟨_,rfl,?_⟩;refine go ?_;refine c3X (H.pick [2]) Fh (number_any _ _ _ _ _ _ _ _ _ (H.front [0,0]) Om) ?_;rintro _ z ⟨rfl,H⟩;refine⟨_,rfl,?_⟩;refine go ?_;refine bsX (H.pick [2]) (zs:=[.int .i64 0,.int .i64 0,.int .i64 0,.int .i64 0,.int .i64 0,.int .i64 0]) (cs:=[_,_,_,_,_,_]) H u358 ti365 fun g101 z H=> ?_;refine apX (H.pick [3]) H 4 0 rfl [⟨Bd.nix (nuK (fN bS1 (bD d l id at_ d.length) l j).ks (l[j]!.a,l[j]!.ta)) (l[j]!.a,l[j]!.ta),Bd.nix (nuK (nuK (fN bS1 (bD d l id at_ d.length) l j).ks (l[j]!.a,l[j]!.ta)) (l[j]!.b,l[j]!.lo)) (l[j]!.b,l[j]!.lo),0⟩,⟨Bd.nix (nuK (nuK (nuK (fN bS1 (bD d l id at_ d.length) l j).ks (l[j]!.a,l[j]!.ta)) (l[j]!.b,l[j]!.lo)) (l[j]!.b,l[j]!.hi)) (l[j]!.b,l[j]!.hi),Bd.nix (nuK (fN bS1 (bD d l id at_ d.length) l j).ks (l[j]!.a,l[j]!.ta)) (l[j]!.a,l[j]!.ta),0⟩] u358 ti365 rfl Bd.Ed.one (by simp only[List.length_cons,List.length_nil];omega) fun v103 z H=> ?_;obtain⟨A104,n105,c106,rfl,_,_,_⟩:=H.op 4;refine go ?_;refine stX (H.pick [3]) H 1 ti358 fun z H=> ?_;refine WX.nil (H.pick [3]) ?_;refine G2 ?_;refine sb [9,103,104,105] ?_;refine go ?_;exact Rs [(105,_)] Sx ⟨(j+1),(.slice A104 n105 c106),rfl,rfl,(H.pick [4,1,1]),Om⟩
   refine c3X (H.pick [2]) Fh (number_any _ _ _ _ _ _ _ _ _ (H.front [0,0]) Om) ?_;rintro _ z ⟨rfl,H⟩;refine⟨_,rfl,?_⟩;refine G1 ?_;refine WX.alt ?_ ?_
   ·refine WX.yldL rfl rfl (blt rfl) rfl (H.pick [2]) (ld rfl u358 rfl (Blk.at_eq (H.b 0) rfl)) ?_;refine c3X (H.pick [2]) Fh (number_any _ _ _ _ _ _ _ _ _ (H.front [0,0]) Om) ?_;rintro _ z ⟨rfl,H⟩;refine⟨_,rfl,?_⟩;refine go ?_;refine bsX (H.pick [2]) (zs:=[.int .i64 0,.int .i64 0,.int .i64 0,.int .i64 0,.int .i64 0,.int .i64 0]) (cs:=[_,_,_,_,_,_]) H u358 ti365 fun g107 z H=> ?_;refine apX (H.pick [3]) H 4 0 rfl [⟨Bd.nix (nuK (fN bS1 (bD d l id at_ d.length) l j).ks (l[j]!.a,l[j]!.ta)) (l[j]!.a,l[j]!.ta),Bd.nix (nuK (nuK (fN bS1 (bD d l id at_ d.length) l j).ks (l[j]!.a,l[j]!.ta)) (l[j]!.b,l[j]!.lo)) (l[j]!.b,l[j]!.lo),0⟩,⟨Bd.nix (nuK (nuK (nuK (fN bS1 (bD d l id at_ d.length) l j).ks (l[j]!.a,l[j]!.ta)) (l[j]!.b,l[j]!.lo)) (l[j]!.b,l[j]!.hi)) (l[j]!.b,l[j]!.hi),Bd.nix (nuK (fN bS1 (bD d l id at_ d.length) l j).ks (l[j]!.a,l[j]!.ta)) (l[j]!.a,l[j]!.ta),0⟩] u358 ti365 rfl Bd.Ed.one (by simp only[List.length_cons,List.length_nil];omega) fun v109 z H=> ?_;obtain⟨A110,n111,c112,rfl,_,_,_⟩:=H.op 4;refine go ?_;refine stX (H.pick [3]) H 1 ti358 fun z H=> ?_;refine WX.nil (H.pick [3]) ?_;refine go ?_;exact Rs [(105,_)] Sx ⟨(j+1),(.slice A110 n111 c112),rfl,rfl,(H.pick [4,1,1]),Om⟩
   refine c3X (H.pick [2]) Fh (number_any _ _ _ _ _ _ _ _ _ (H.front [0,0]) Om) ?_;rintro _ z ⟨rfl,H⟩;refine⟨_,rfl,?_⟩;refine G1 ?_;refine WX.alt ?_ ?_
   ·refine WX.yldL rfl rfl (blt rfl) rfl (H.pick [2]) (ld rfl u358 rfl (Blk.at_eq (H.b 0) rfl)) ?_;refine bsX (H.pick [2]) (zs:=[.int .i64 0,.int .i64 0,.int .i64 0,.int .i64 0,.int .i64 0,.int .i64 0]) (cs:=[_,_,_,_,_,_]) H u358 ti365 fun g113 z H=> ?_;refine apX (H.pick [3]) H 4 0 rfl [⟨Bd.nix (nuK (fN bS1 (bD d l id at_ d.length) l j).ks (l[j]!.a,l[j]!.ta)) (l[j]!.a,l[j]!.ta),Bd.nix (nuK (nuK (fN bS1 (bD d l id at_ d.length) l j).ks (l[j]!.a,l[j]!.ta)) (l[j]!.b,l[j]!.lo)) (l[j]!.b,l[j]!.lo),0⟩,⟨Bd.nix (nuK (nuK (nuK (fN bS1 (bD d l id at_ d.length) l j).ks (l[j]!.a,l[j]!.ta)) (l[j]!.b,l[j]!.lo)) (l[j]!.b,l[j]!.hi)) (l[j]!.b,l[j]!.hi),Bd.nix (nuK (fN bS1 (bD d l id at_ d.length) l j).ks (l[j]!.a,l[j]!.ta)) (l[j]!.a,l[j]!.ta),0⟩] u358 ti365 rfl Bd.Ed.one (by simp only[List.length_cons,List.length_nil];omega) fun v115 z H=> ?_;obtain⟨A116,n117,c118,rfl,_,_,_⟩:=H.op 4;refine go ?_;refine stX (H.pick [3]) H 1 ti358 fun z H=> ?_;refine WX.nil (H.pick [3]) ?_;refine go ?_;exact Rs [(105,_)] Sx ⟨(j+1),(.slice A116 n117 c118),rfl,rfl,(H.pick [4,1,1]),Om⟩
   refine bsX (H.pick [2]) (zs:=[.int .i64 0,.int .i64 0,.int .i64 0,.int .i64 0,.int .i64 0,.int .i64 0]) (cs:=[_,_,_,_,_,_]) H u358 ti365 fun g119 z H=> ?_;refine WX.yldL rfl rfl (blt rfl) rfl (H.pick [3]) (ld rfl u358 rfl (Blk.at_eq (H.b 1) rfl)) ?_;refine apX (H.pick [3]) H 4 0 rfl [⟨Bd.nix (nuK (fN bS1 (bD d l id at_ d.length) l j).ks (l[j]!.a,l[j]!.ta)) (l[j]!.a,l[j]!.ta),Bd.nix (nuK (nuK (fN bS1 (bD d l id at_ d.length) l j).ks (l[j]!.a,l[j]!.ta)) (l[j]!.b,l[j]!.lo)) (l[j]!.b,l[j]!.lo),0⟩,⟨Bd.nix (nuK (nuK (nuK (fN bS1 (bD d l id at_ d.length) l j).ks (l[j]!.a,l[j]!.ta)) (l[j]!.b,l[j]!.lo)) (l[j]!.b,l[j]!.hi)) (l[j]!.b,l[j]!.hi),Bd.nix (nuK (fN bS1 (bD d l id at_ d.length) l j).ks (l[j]!.a,l[j]!.ta)) (l[j]!.a,l[j]!.ta),0⟩] u358 ti365 rfl Bd.Ed.one (by simp only[List.length_cons,List.length_nil];omega) fun v121 z H=> ?_;obtain⟨A122,n123,c124,rfl,_,_,_⟩:=H.op 4;refine go ?_;refine stX (H.pick [3]) H 1 ti358 fun z H=> ?_;refine WX.nil (H.pick [3]) ?_;refine go ?_;exact Rs [(105,_)] Sx ⟨(j+1),(.slice A122 n123 c124),rfl,rfl,(H.pick [4,1,1]),Om⟩
  ·refine G9 ?_;refine sb [8] ?_;refine go ?_;refine Rt [_] ?_;exact⟨g5,g3,v,rfl,(by rw[show bF d l id at_=(fN bS1 (bD d l id at_ d.length) l j)from by unfold bF;congr 1;omega];exact(H.pick [1,1,0]))⟩
end TW
end Go.Proofs.YtaclfjjipnpboaaGreatDoor
end
