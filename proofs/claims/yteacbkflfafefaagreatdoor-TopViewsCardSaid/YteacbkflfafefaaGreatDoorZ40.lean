/- Part 41 of 50 of the proof that TopViews returns true at every input: lemmas on the way; no condition. -/
import Derived.Test.YteacbkflfafefaaGreatDoorZ38
namespace Go.Proofs.YteacbkflfafefaaGreatDoor
set_option linter.all false
set_option maxHeartbeats 1000000
set_option maxRecDepth 100000
section
open Go.RowKit An Go.ChangeShapes Go.WideShapes Go.ChangeAt Go.Proofs.Tryz
structure Ky(da:Nat)(σ:RS)(c:Nat)(σ':RS):Prop where
 ok:σ'.Ok da
 k:σ'.K≤σ.K+1
 cap:σ'.d.cap=σ.d.cap
 st:(c=0∧(∃x,σ'.o=some x)∧∃k,σ.s≤k∧k≤σ.MB.length∧σ'.MB=σ.MB.take k∧σ'.s=k)∨(c=61∧σ'.o=none∧σ'.d.down=true∧σ'.MB=σ.MB∧σ'.s=σ.s)
 PS:∀n,BC da σ n→c=0∧∃x,σ'.o=some x∧x.m.next=n
 new:σ.d.fa=[]→σ.d.Ya=false→c=0∧zm σ' 0 0 false false
section
variable(S L X D rate da:Nat){σ:RS}{x:OS}
theorem vD(h:σ.Ok da)(n:σ.o=some x)(st:Int):Tr prog 16 #[Da S] (Eh S L X D rate da st x σ.d) (fun v:Option Addr×Nat×Nat=>ag x.m (O v.1 v.2.1 v.2.2)) (fun v=>Eh S L X D rate da st x σ.d):=by
 intro w o r g;have I:=TZ g;have t25:=Wm S L X (Pa da);obtain⟨i,_⟩:=h.live x n;obtain⟨_,_,a3,a4,_⟩:=Qh i.gi.valid;have t35:=jn X D rate x.m x.tl x.mem (by omega) (by omega);unfold ag at*;have e:=I.Wa (.cells #[Z 0,Z 0,Pa 0,O none 0 0] 66) w.heap.size rfl;clear g h i I a3 a4;go_enter func16,ntmps16;go_upto_region 1 with(fail);generalize w.alloc (.cells #[Z 0,Z 0,Pa 0,O none 0 0] 66)=j at*;generalize w.heap.size=a at*;go_wp2_with fail;refine Y.ka e t25 fun m=> ?_;have J:=e.drewN m;clear e;generalize j.drewN m=k at*;have f:k.cell? ⟨S,1,none⟩=some (Da X):=J.cells S 1;go_wp2_with fail;refine J.kc t35 fun p v K=> ?_;obtain⟨A,c,b,rfl⟩:∃A c b,v=O A b c:=by obtain⟨A,c,qs,h,_⟩:=K.dr v x.m.ia;exact⟨A,c,qs.length,h⟩
 clear f J;obtain⟨l,f,c2,c3⟩:=K.c4 a;obtain⟨f0,f1,f2,f3⟩:=K.f4 a;go_wp2_with fail;refine ZT (v:=.agg #[Z x.m.next,Z x.m.check,Pa x.m.da,O A b c]) (by simp[results,results16,go_sem,l,f,c2,c3]) rfl ⟨(A,b,c),rfl,?_⟩;exact((((K.ra a 0 (Z x.m.next) _ rfl).ra a 1 (Z x.m.check) _ rfl).ra a 2 (Pa x.m.da) _ rfl).ra a 3 (O A b c) _ rfl).ya
structure SP where
 S:Nat
 L:Nat
 X:Nat
def jT(c:Nat)(S:Nat):Value:=if c=0 then .tuple #[Da S,Z 0]else .tuple #[.pointer none,Z c]
theorem xP(h:σ.Ok da)(a:da<18446744073709551616)(hK:σ.K≤89)(v:σ.o=none)(g:σ.d.down=false):Tr prog 73 #[Da D,Pa da,.float .f64 rate] (na D σ.d) (fun p:SP×Nat×RS=>jT p.2.1 p.1.S) (fun p=>aa.pure (Ky da σ p.2.1 p.2.2)*Zk p.1.S p.1.L p.1.X D rate da p.2.2):=by
 intro w o r C;have I:=TZ C;have a8:∃P T H y bs,sN da σ P T H y bs∧∀n,BC da σ n→Bm da σ.d.fa P n:=by
  by_cases hb:∃n,BC da σ n
  ·obtain⟨n,c⟩:=hb;obtain⟨P,T,H,y,bs,t,M⟩:=c.TE;refine⟨P,T,H,y,bs,t,fun n' aj=> ?_⟩;obtain⟨P',_,_,_,_,_,N⟩:=aj.TE;rw[N.one M a];exact M
  ·obtain⟨P,T,H,y,bs,t⟩:=h.TE v;exact⟨P,T,H,y,bs,t,fun n c=>absurd ⟨n,c⟩ hb⟩
 obtain⟨P,T,H,y,bs,e,i⟩:=a8;have b:∀n,BC da σ n→σ.d.Ya=false:=fun n c=>c.calm;have t115:=pL D σ.d P T H y g e.log;have ak:=h.opens a hK v g e;have k:σ.s≤bs.length:=by obtain⟨P1,t,M⟩:=e.sure;have N:=t.pre.flat.length_le;rw[e.holds.len]at N;omega
 have j:bs.length≤σ.MB.length:=e.pre.length_le;rcases ak with⟨F,⟨y',a2,a3⟩,a4,a5,G,a7⟩|⟨F,a2,a3,a4,a5⟩
 ·have t116:∀L,Tr prog 116 #[Da D,Da L,Pa da,.float .f64 rate] (Fc L D σ.d.za P*na D (Gc P T H σ.d).2) _ _:=fun L=>qM D L da rate σ.d.za (Gc P T H σ.d).2 a5 G a2 e.holds a;generalize Gc P T H σ.d=q at*;obtain⟨q1,d1⟩:=q;dsimp only at*;subst F;have t115:Tr prog 115 #[Da D] (na D σ.d) (fun L:Nat=> .tuple #[Da L,Z 0]) (fun L=>Fc L D σ.d.za P*na D d1):=t115;obtain⟨J,u⟩:∃J,(ei da d1.fa (Ad P)).isNone=J:=⟨_,rfl⟩;rw[u]at t116;rcases a7 with⟨b1,b2,b3,b4,b8,⟨R,b6⟩,b7,b9,E⟩|⟨b1,b2,b3,b4,W⟩
  ·have l:Hid (Ky da σ 0 ⟨(ke da P d1).2,σ.MB.take bs.length,bs.length,σ.K+1,some (bP da P R d1.fa)⟩):=V ⟨b6,FT _,b4,.inl ⟨rfl,⟨_,rfl⟩,bs.length,k,j,rfl,rfl⟩,fun n c=>⟨rfl,_,rfl,b7 n (i n c)⟩,fun hf f=>⟨rfl,_,rfl,b8 f,KT E (by rw[hf];exact FT _),b9 (by rw[hf];rfl),fun h=>(by cases h),fun h=>(by cases h)⟩⟩;have hle:∀S L X,aa.le (ba S 82 #[Da L,Da X,Pa da]*(Xd X D rate (dm da P d1.fa) (Wi d1.fa) (Dg da P (dm da P d1.fa).check)*(Fc L D σ.d.za P*na D (ke da P d1).2))) (Zk S L X D rate da ⟨(ke da P d1).2,σ.MB.take bs.length,bs.length,σ.K+1,some (bP da P R d1.fa)⟩):=fun S L X=>by show aa.le _ (Eh S L X D rate da (ke da P d1).2.za (bP da P R d1.fa) (ke da P d1).2);rw[b3];exact MZ (JZ _) (KZ PZ (KZ (MZ NZ (JZ _)) OZ))
   have U:=V hle;unfold qP at t116;generalize ke da P d1=Q at*;obtain⟨q3,d2⟩:=Q;dsimp only at*;subst b1;simp only[dZ]at t116;have t116:∀L,Tr prog 116 #[Da D,Da L,Pa da,.float .f64 rate] (Fc L D σ.d.za P*na D d1) (fun X:Nat=> .tuple #[Da X,.bool J,Z 0]) _:=t116;clear C h a e i b k j a2 a3 a4 a5 G b2 b3 b4 b6 b7 b8 b9 E hle u g v;go_enter func73,ntmps73;go_wp2_with fail;refine I.kc t115 fun w2 L K=> ?_;clear I t115;go_wp2_with fail;refine K.kc (t116 L) fun z X B=> ?_;have m:=B.Wa (.cells #[Da L,Da X,Pa da] 82) z.heap.size rfl;clear K t116 B;go_wp2;go_ret2;refine⟨(⟨z.heap.size,L,X⟩,0,_),rfl,(m.ya (A:=ba z.heap.size 82 #[Da L,Da X,Pa da]*(Xd X D rate (dm da P d1.fa) (Wi d1.fa) (Dg da P (dm da P d1.fa).check)*(Fc L D σ.d.za P*na D d2)))).le (KZ (U.out _ _ _) (RZ l.out))⟩
  ·have l:Hid (Ky da σ 61 ⟨(ke da P d1).2,σ.MB,σ.s,σ.K+1,none⟩):=V ⟨W,FT _,b4,.inr ⟨rfl,rfl,b2,rfl,rfl⟩,fun n c=>(by rw[b n c]at b3;cases b3),fun _ f=>(by rw[f]at b3;cases b3)⟩;unfold qP at t116;generalize ke da P d1=Q at*;obtain⟨q3,d2⟩:=Q;dsimp only at*;subst b1;have t116:∀L,Tr prog 116 #[Da D,Da L,Pa da,.float .f64 rate] (Fc L D σ.d.za P*na D d1) (fun X:Nat=> .tuple #[.pointer none,.bool false,Z 61]) (fun _=>na D d2):=t116;clear C h a e i b k j a2 a3 a4 a5 G b2 b3 b4 W u g v;go_enter func73,ntmps73;go_wp2_with fail;refine I.kc t115 fun w2 L K=> ?_;clear I t115;go_wp2_with fail;refine K.kc (t116 L) fun z X B=> ?_;clear K t116;go_wp2;go_ret2;have m:Y w o r (na D d2) z:=B.ya;exact⟨(⟨0,0,0⟩,61,⟨d2,σ.MB,σ.s,σ.K+1,none⟩),rfl,m.le (RZ l.out)⟩
 ·have l:Hid (Ky da σ 61 ⟨(Gc P T H σ.d).2,σ.MB,σ.s,σ.K+1,none⟩):=V ⟨a5,FT _,a4,.inr ⟨rfl,rfl,a2,rfl,rfl⟩,fun n c=>(by rw[b n c]at a3;cases a3),fun _ f=>(by rw[f]at a3;cases a3)⟩;generalize Gc P T H σ.d=q at*;obtain⟨q1,d1⟩:=q;dsimp only at*;subst F;have t115:Tr prog 115 #[Da D] (na D σ.d) (fun L:Nat=> .tuple #[.pointer none,Z 61]) (fun L=>na D d1):=t115;clear C h a e i b k j a2 a3 a4 a5 g v;go_enter func73,ntmps73;go_wp2_with fail;refine I.kc t115 fun w2 L K=> ?_;clear I t115;go_wp2;go_ret2;have m:Y w o r (na D d1) w2:=K.ya;exact⟨(⟨0,0,0⟩,61,⟨d1,σ.MB,σ.s,σ.K+1,none⟩),rfl,m.le (RZ l.out)⟩
end
end
section
open Go Go.RowKit
section
variable {P:Program}{ops:Array Oper}{md:Region.Mode}{C:World→Prop}{H:Nat→Bool}
def OO(md:Region.Mode)(ops:Array Oper)(c:Nat)(b tl:List Nat)(a:Array Bool):Bool:=decide (Region.ready md ops a=[c])&&(Rx md ops b (a.setIfInBounds c true)&&vp md ops tl (Oh b (a.setIfInBounds c true)))
def UL(md:Region.Mode)(ops:Array Oper)(c b:List Nat)(d:Nat)(a tl:List Nat):Bool:=Region.noSelect ops&&dy md ops d b&&(a++tl).all (fun k=>(d::(a++tl)).any fun j=>Region.waitsFor md ops k j)&&(List.range ops.size).all (fun k=>(b.contains k||c.contains k)||(d::(a++tl)).contains k)&&(d::(a++tl)).all (fun t=> !(b.contains t||c.contains t)&&decide (t<ops.size))&&b.all (fun t=>decide (t<ops.size))&&decide (c.length+(b.length+(a.length+tl.length+1))=ops.size)&&c.all (fun t=>decide (t<ops.size))&&Tv md ops c (Array.replicate ops.size false)&&ao md ops (OO md ops d a tl) b (Oh c (Array.replicate ops.size false))
theorem Gy{id:Nat}{Q:Exit→Act→World→Prop}{a:Act}{w:World}{A:Oper}(f d:List Nat)(t0:Nat)(b tl:List Nat)(hm:P.follows .mixedOrders=true)(R:UL .any ops f d t0 b tl=true)(F:ops[t0]? =some A)(hC:C {w with drawn:=w.drawn+1}) (U:∀c (a:Act) t v w,Q (.panic c) (a.put (some t) v) w→Q (.panic c) a w) (h:wpQuiet P ops C (fun s=>∀w',C w'→∀K:Act→World→Prop,(∀a2 w2,ni P ops (fun a3=>wpList P ops Q (tl.filterMap (ops[·]?)) a3 w2) (b.filterMap (ops[·]?)) a2→K a2 w2)→if Region.wanted A (yielded ops s.tmps)=true then A.wp P s w' K Q else K (s.put A.dst undef) w') (d.filterMap (ops[·]?)) (Ub (f.filterMap (ops[·]?)) a)):(Code.region id ops true).wp P Q a w:=by
 simp only[UL,aU,GU,bU,GW]at R;obtain⟨⟨⟨⟨⟨⟨⟨⟨⟨m,hs⟩,hc⟩,E⟩,q⟩,B⟩,a1⟩,X⟩,D⟩,I⟩:=R;have r:∀x,x<ops.size→(ops[x]?).isSome=true:=fun x e=>by rw[eV e];rfl
 have L:Je .any ops (fun k=>d.contains k||f.contains k) (Array.replicate ops.size false):=⟨by simp,fun j oj _ W=>(by rw[JV]at W;cases W),fun t n _=>getD_in (by simpa using n) (JV _ _)⟩;have inv1:=L.JG f _ (fun i hi=>by simp[hi]) D;have T:∀t∈t0::(b++tl),(d.contains t||f.contains t)=false:=fun t n=>by have:=(q t n).1;simpa using this
 have z:∀i,i∈d→∀listed,Je .any ops (fun k=>d.contains k||f.contains k) listed→listed.getD i true=false→∀t∈Region.ready .any ops listed,(d.contains t||f.contains t)=true:=by
  intro i hi listed inv a6 t n;have J:t<ops.size:=by obtain⟨_,o,F,_⟩:=AX.1 n;exact(sU.1 F).1
  have N:=E t J;rw[PU]at N;rcases N with l|l
  ·exact l
  ·exfalso;have l:t∈t0::(b++tl):=by simpa using l
   rcases dU.1 l with rfl|l
   ·exact gm inv d hs (fun x e=>B x e) i hi a6 n
   ·have y:=hc t l;rw[bX]at y;obtain⟨j,u,hw⟩:=y;exact ye hw (inv.tail j (q j u).2 (T j u)) n
 have HH:=Ep (P:=P) (C:=C) (md:=.any) (H:=fun k=>d.contains k||f.contains k) (G:=fun k=>k∈d) (Bd:=OO .any ops t0 b tl) m z (fun listed hb j u=>by
  simp only[OO,aU,bU]at hb;rw[hb.1]at u;obtain rfl:j=t0:=by simpa using u
  exact T j (.head _)) d (d.filterMap (ops[·]?)) _ _
  (map_filterMap _ d fun x e=>r x (B x e)) (fun i hi=>⟨by simp[hi],hi⟩) inv1 I h;refine pY hm ?_;have H2:=Ti (Q':=Q) (g:=b.length+tl.length+1) (fun listed s w' S hL=> ?_) _ _ _ _ hC HH
 ·have M:=gn m U f (f.filterMap (ops[·]?)) _ _ _ _ (map_filterMap _ f fun x e=>r x (X x e)) D H2;rw[a1]at M;exact M
 ·obtain⟨inv,hb,hq⟩:=hL;simp only[OO,aU,bU]at hb;refine⟨fun l=>(by rw[hb.1]at l;cases l),fun i hi=> ?_⟩;have a7:=hi;rw[hb.1]at hi;obtain rfl:i=t0:=by simpa using hi
  have fin:∀ (a2:Act) (w2:World),ni P ops (fun a3=>wpList P ops Q (tl.filterMap (ops[·]?)) a3 w2) (b.filterMap (ops[·]?)) a2→wpAny P .any ops Q (b.length+tl.length) (listed.setIfInBounds i true) a2 w2:=fun a2 w2 y=>Rq (K:=fun a3=>wpList P ops Q (tl.filterMap (ops[·]?)) a3 w2) m U b (b.filterMap (ops[·]?)) tl.length _ _ _ (map_filterMap _ b fun x e=>r x (q x (.tail _ (xX _ e))).2) hb.2.1 (fun s h'=>pk tl (tl.filterMap (ops[·]?)) _ s w2 (map_filterMap _ tl fun x e=>r x (q x (.tail _ (bZ _ e))).2) hb.2.2 h') y;have p:=hq w' S _ fin;unfold wpOp;simp only[F];split
  ·rename_i hw;rw[JT hw]at p;exact .inl p
  ·rename_i hw;rw[DT hw]at p;exact p
theorem Ee{q:Nat}{Q:Exit→Act→World→Prop}{a:Act}{w:World}{l:List Oper}{e:Oper}(i g:List Nat)(j:Nat)(b tl:List Nat)(n:P.follows .mixedOrders=true)(k:UL .any l.toArray i g j b tl=true)(o:l[j]? =some e) (m:∀c (a:Act) t v w,Q (.panic c) (a.put (some t) v) w→Q (.panic c) a w) (h:wpQuiet P l.toArray (fun w'=>∃p:Regrown,w'=Go.Sort.grow (redrawn w p.d) p.os) (fun f=>∀w',(∃p:Regrown,w'=Go.Sort.grow (redrawn w p.d) p.os)→∀K:Act→World→Prop,(∀a2 w2,ni P l.toArray (fun a3=>wpList P l.toArray Q (tl.filterMap (l[·]?)) a3 w2) (b.filterMap (l[·]?)) a2→K a2 w2)→if Region.wanted e (yielded l.toArray f.tmps)=true then e.wp P f w' K Q else K (f.put e.dst undef) w') (g.filterMap (l[·]?)) (Ub (i.filterMap (l[·]?)) a)):(Code.region q l.toArray true).wp P Q a w:=Gy (C:=fun w'=>∃p:Regrown,w'=Go.Sort.grow (redrawn w p.d) p.os) i g j b tl n k (by simpa using o) ⟨⟨w.drawn+1,#[]⟩,by rw[zZ];rfl⟩ m (by simpa using h)
end
end
section
open Go.RowKit An Go.ChangeShapes Go.WideShapes Go.ChangeAt Go.Proofs.Tryz
abbrev Ug(D:Nat)(sv:Value)(da rate:Nat):Array Value:=#[Da D,sv,.int .u64 da,.float .f64 rate]
def Yd(o:Option OS)(S:Nat):Value:=match o with
 |none=> .pointer none
 |some _=>Da S
abbrev wA(W:Nat)(q:SP)(D rate da:Nat)(σ:RS):aa:=ba W 77 (Ug D (Yd σ.o q.S) da rate)*Zk q.S q.L q.X D rate da σ
theorem Kw(W D:Nat)(a b c:Value):Pp prog 24 #[Da W] (ba W 77 #[Da D,a,b,c]) (.bool false):=by intro w o r d;have I:=TZ d;have e:w.cell? ⟨W,0,none⟩=some (Da D):=I.cells W 0;clear d;go_enter func24,ntmps24;go_wp2;go_ret;exact⟨rfl,0,rfl⟩
theorem jl(W D:Nat)(a b c:Value):Pp prog 8 #[Da W] (ba W 77 #[Da D,a,b,c]) a:=by intro w o r d;have I:=TZ d;have t24:=Kw W D a b c;have e:w.cell? ⟨W,1,none⟩=some a:=I.cells W 1;clear d;go_enter func8,ntmps8;go_wp2_with fail;refine Y.ka I t24 fun m=> ?_;go_wp2;go_ret;exact⟨rfl,m,rfl⟩
theorem Yh(W D:Nat)(a b c:Value):Pp prog 39 #[Da W] (ba W 77 #[Da D,a,b,c]) (Da D):=by intro w o r d;have I:=TZ d;have t24:=Kw W D a b c;have e:w.cell? ⟨W,0,none⟩=some (Da D):=I.cells W 0;clear d;go_enter func39,ntmps39;go_wp2_with fail;refine Y.ka I t24 fun m=> ?_;go_wp2;go_ret;exact⟨rfl,m,rfl⟩
theorem dD(n e:Int):Pu prog 83 #[Z n,Z e] (.agg #[Z e,Z n,O none 0 0]):=by intro w;have J:=(ZZ w).Wa (.cells #[Z 0,Z 0,O none 0 0] 71) w.heap.size rfl;obtain⟨a,b,c2⟩:=J.c3 w.heap.size;obtain⟨f0,f1,f2⟩:=J.f3 w.heap.size;go_enter func83,ntmps83;go_wp2_with fail;refine ZT (v:=.agg #[Z e,Z n,O none 0 0]) (by simp[results,results83,go_sem,a,b,c2]) rfl ⟨rfl,?_⟩;exact(mU _ w).alloc (FT _) _
theorem EF(A:Option Addr)(n c:Nat)(e:Int):Pu prog 85 #[O A n c,Z e] (.agg #[Z e,Z 0,O A n c]):=by intro w;have J:=(ZZ w).Wa (.cells #[Z 0,Z 0,O none 0 0] 71) w.heap.size rfl;obtain⟨a,b,c2⟩:=J.c3 w.heap.size;obtain⟨f0,f1,f2⟩:=J.f3 w.heap.size;go_enter func85,ntmps85;go_wp2_with fail;refine ZT (v:=.agg #[Z e,Z 0,O A n c]) (by simp[results,results85,go_sem,a,b,c2]) rfl ⟨rfl,?_⟩;exact(mU _ w).alloc (FT _) _
theorem Ky.start{da:Nat}{σ σ':RS}{c:Nat}(h:Ky da ⟨σ.d.rf.2,σ.MB,σ.s,σ.K,none⟩ c σ'):Ky da σ c σ':=⟨h.ok,h.k,h.cap.trans (Qi (d:=σ.d)).2.1,h.st,fun n e=>h.PS n e.start,fun a b=>h.new ((Qi (d:=σ.d)).1.trans a) ((Qi (d:=σ.d)).2.2.2.trans b)⟩
structure tT where
 q:SP
 c:Nat
 σ:RS
theorem ju(o:Option OS)(S:Nat):∃a,Yd o S= .pointer a:=by
 cases o
 ·exact⟨_,rfl⟩
 ·exact⟨_,rfl⟩
theorem Ky.val{da:Nat}{σ σ':RS}{c:Nat}(h:Ky da σ c σ')(S:Nat):jT c S= .tuple #[Yd σ'.o S,Z c]:=by
 rcases h.st with⟨rfl,⟨x,a⟩,_⟩|⟨rfl,a,_⟩
 ·rw[a];rfl
 ·rw[a];rfl
section
variable(W D rate da:Nat){σ:RS}(sv:Value)
theorem sH(h:σ.Ok da)(i:da<18446744073709551616)(k:σ.K≤89)(ho:σ.o=none):Tr prog 37 #[Da W] (ba W 77 (Ug D sv da rate)*na D σ.d) (fun p:tT=>Z p.c) (fun p=>aa.pure (Ky da σ p.c p.σ)*wA W p.q D rate da p.σ):=by
 intro w o r E;have I:=TZ E;have key:∀ (x:RS),(∀c σ',Ky da x c σ'→Ky da σ c σ')→x.Ok da→x.K≤89→x.o=none→x.d.down=false→∃v:SP×Nat×RS→Value,(∀p,v p=jT p.2.1 p.1.S)∧Tr prog 73 #[Da D,Pa da,.float .f64 rate] (na D x.d) v (fun p=>aa.pure (Ky da σ p.2.1 p.2.2)*Zk p.1.S p.1.L p.1.X D rate da p.2.2):=by intro x h1 h2 h3 h4 h5;refine⟨_,fun _=>rfl,fun w o r E=> ?_⟩;have I:=TZ E;refine(I.call (xP D rate da h2 i h3 h4 h5)).mono ?_;rintro e w' ⟨p,rfl,J⟩;obtain⟨g,J2⟩:=J.pure;have J3:Y w o r (Zk p.1.S p.1.L p.1.X D rate da p.2.2) w':=J2.ya;exact⟨p,rfl,J3.le (RZ (h1 _ _ g))⟩
 have f1:=I.free W 1;have H:=I.cells W 1;have j:=I.ra W 1 (.pointer none) (Ug D (.pointer none) da rate);cases y:σ.d.down with
 |false=>
  obtain⟨v,F,t73⟩:=key σ (fun _ _ h=>h) h k ho y;have t40:=Gk D σ.d;rw[y]at t40;have P:=V F;clear E key h i y I F;go_enter func37,ntmps37;go_upto_region 2 with(fail);generalize w.setCell ⟨W,1,none⟩ (.pointer none)=C at*;clear f1 H;have b:C.cell? ⟨W,0,none⟩=some (Da D):=j.cells W 0;go_wp2_with fail;refine j.ka t40 fun m=> ?_;have J:=j.drewN m;clear b j;generalize C.drewN m=t at*;have b:t.cell? ⟨W,0,none⟩=some (Da D):=J.cells W 0;have c2:t.cell? ⟨W,2,none⟩=some (Pa da):=J.cells W 2;have c3:t.cell? ⟨W,3,none⟩=some (.float .f64 rate):=J.cells W 3;have U:=IT b;have q2:=IT c2;have q3:=IT c3;go_upto_region 6 with(fail);refine Ee [0,1,5,9] [2,3,4,6,7,8,10,11,12] 13 [14,15,16] [17,18,19,20] (by kernel_rfl) (by kernel_rfl) (by rfl) (fun _ _ _ _ _ h=>h) ?_;simp only[QT,VT,MT,NT];dsimp only[Ub];go_simp;repeat (quiet_step (fail))
  refine fU ?_;first|(rintro _ ⟨a,rfl⟩)|(intro a)
  have l:=jU t a.d a.os;generalize Go.Sort.grow (redrawn t a.d) a.os=wq at*;clear a;intro K k;go_simp;have A:=J.below l;clear U q2 q3 b c2 c3 J l;refine(A.call t73).mono ?_;rintro e w5 ⟨⟨p,c,σ'⟩,rfl,B⟩;obtain⟨g,n⟩:=B.pure;rw[P.out,g.val];obtain⟨u,f⟩:=ju σ'.o p.S;have z:=V f;have N:=V g;dsimp only;rw[f];clear g f A B t73;go_simp;refine k _ _ ?_;clear k K;iterate 3 (refine Exists.intro _ ⟨.inl ⟨by rfl,fun w=>(by go_simp;rfl)⟩,?_⟩)
  dsimp only[ni];have f1:=n.free W 1;have H:=n.cells W 1;have R:=n.ra W 1 (.pointer u) (Ug D (.pointer u) da rate);go_wp2;go_ret;refine⟨⟨p,c,σ'⟩,rfl,?_⟩;have T:Y w o r (ba W 77 (Ug D (Yd σ'.o p.S) da rate)*Zk p.S p.L p.X D rate da σ') (w5.setCell ⟨W,1,none⟩ (.pointer u)):=by rw[z.out];exact R.ya
  exact T.le (RZ N.out)
 |true=>
  have hs:=Qi (d:=σ.d);have M:σ.d.rf.1=0:=by unfold An.ja.rf;rw[y];rfl
  obtain⟨v,F,t73⟩:=key ⟨σ.d.rf.2,σ.MB,σ.s,σ.K,none⟩ (fun _ _ h=>h.start) (h.start ho) k rfl hs.2.2.1;have t40:=Gk D σ.d;have t72:=AP D σ.d;rw[y]at t40;rw[M]at t72;generalize σ.d.rf.2=d1 at*;dsimp only at t73;have P:=V F;clear E key h i y I F hs M;go_enter func37,ntmps37;go_upto_region 2 with(fail);generalize w.setCell ⟨W,1,none⟩ (.pointer none)=C at*;clear f1 H;have b:C.cell? ⟨W,0,none⟩=some (Da D):=j.cells W 0;go_wp2_with fail;refine j.ka t40 fun m=> ?_;have Q:=j.drewN m;clear b j;generalize C.drewN m=t at*;have b:t.cell? ⟨W,0,none⟩=some (Da D):=Q.cells W 0;go_wp2_with fail;refine Q.k1 t72 fun G J=> ?_;clear b Q t72;have b:G.cell? ⟨W,0,none⟩=some (Da D):=J.cells W 0;have c2:G.cell? ⟨W,2,none⟩=some (Pa da):=J.cells W 2;have c3:G.cell? ⟨W,3,none⟩=some (.float .f64 rate):=J.cells W 3;have U:=IT b;have q2:=IT c2;have q3:=IT c3;go_upto_region 6 with(fail);refine Ee [0,1,5,9] [2,3,4,6,7,8,10,11,12] 13 [14,15,16] [17,18,19,20] (by kernel_rfl) (by kernel_rfl) (by rfl) (fun _ _ _ _ _ h=>h) ?_;simp only[QT,VT,MT,NT];dsimp only[Ub];go_simp;repeat (quiet_step (fail))
  refine fU ?_;first|(rintro _ ⟨a,rfl⟩)|(intro a)
  have l:=jU G a.d a.os;generalize Go.Sort.grow (redrawn G a.d) a.os=wq at*;clear a;intro K k;go_simp;have A:=J.below l;clear U q2 q3 b c2 c3 J l;refine(A.call t73).mono ?_;rintro e w5 ⟨⟨p,c,σ'⟩,rfl,B⟩;obtain⟨g,n⟩:=B.pure;rw[P.out,g.val];obtain⟨u,f⟩:=ju σ'.o p.S;have z:=V f;have N:=V g;dsimp only;rw[f];clear g f A B t73;go_simp;refine k _ _ ?_;clear k K;iterate 3 (refine Exists.intro _ ⟨.inl ⟨by rfl,fun w=>(by go_simp;rfl)⟩,?_⟩)
  dsimp only[ni];have f1:=n.free W 1;have H:=n.cells W 1;have R:=n.ra W 1 (.pointer u) (Ug D (.pointer u) da rate);go_wp2;go_ret;refine⟨⟨p,c,σ'⟩,rfl,?_⟩;have T:Y w o r (ba W 77 (Ug D (Yd σ'.o p.S) da rate)*Zk p.S p.L p.X D rate da σ') (w5.setCell ⟨W,1,none⟩ (.pointer u)):=by rw[z.out];exact R.ya
  exact T.le (RZ N.out)
end
end
end Go.Proofs.YteacbkflfafefaaGreatDoor
