/- Part 36 of 50 of the proof that TopViews returns true at every input: lemmas on the way; no condition. -/
import Derived.Test.YteacbkflfafefaaGreatDoorZ22
import Derived.Test.YteacbkflfafefaaGreatDoorZ29
import Derived.Test.YteacbkflfafefaaGreatDoorZ33
namespace Go.Proofs.YteacbkflfafefaaGreatDoor
set_option linter.all false
set_option maxHeartbeats 1000000
set_option maxRecDepth 100000
section
namespace An
open ja
structure sN(da:Nat)(σ:RS)(P:Ma)(T:Bs)(H:Option Bs)(y:Nat)(bs:List Za):Prop where
 log:Jc σ.d.fa P T H y
 holds:Holds P bs
 pre:bs<+:σ.MB
 sure:uj P y σ.s
 idx:Yi da σ.K σ.d.fa P y
structure Bm(da:Nat)(fs:Hb)(P:Ma)(n:Nat):Prop where
 gi:∃m:Fa,∃tl:Nat→List qa,m.next=n∧dd m=true∧m.da=da∧Na Va fs=some (full (Xb m))∧m.check≤Ad P∧∀j∈m.ia.flatten,j≤999999∧Na (Ra j) fs=some (full (Tb (tl j)))∧mf (Tb (tl j))=some (tl j)
structure BC(da:Nat)(σ:RS)(n:Nat):Prop where
 calm:σ.d.Ya=false
 TE:∃P T H y bs,sN da σ P T H y bs∧Bm da σ.d.fa P n
section
variable {da:Nat}{σ:RS}{x:OS}{P:Ma}{T:Bs}{H:Option Bs}{y:Nat}{bs:List Za}{n:Nat}
theorem RS.Ok.TE(h:σ.Ok da)(f:σ.o=none):∃P T H y bs,sN da σ P T H y bs:=by obtain⟨P,T,H,y,bs,a,b,c,d,e⟩:=(h.shut f).log;exact⟨P,T,H,y,bs,a,b,c,d,e⟩
theorem Bm.ei(h:Bm da σ.d.fa P n)(c:da<18446744073709551616){fs:Hb}(b:∀k,¬wg k→Na k fs=Na k σ.d.fa):∃m,ei da fs (Ad P)=some m∧m.next=n:=by
 obtain⟨m,tl,f,g,i,l,o,p⟩:=h.gi;have r:¬wg Va:=fun h=>h.elim Gf (fun e=>jr e.symm);refine⟨{m with ia:=Ab m.ia},?_,f⟩;have a:((Ab m.ia).flatten.all fun n=>(Hh fs n).isSome)=true:=by rw[Yc,GU];intro j q;obtain⟨t,a2,a3⟩:=p j q;have s:¬wg (Ra j):=fun h=>h.elim (uf j (by omega)) (Bp (by omega));unfold Hh;rw[b _ s,a2];dsimp only[full];rw[a3];rfl
 unfold An.ei;rw[b _ r,l];dsimp only[full];rw[Un g (by omega)];exact JT ⟨i,o,a⟩
theorem Bm.one{c:Nat}{g:Ma}(h:Bm da σ.d.fa P n)(h':Bm da σ.d.fa g c)(f:da<18446744073709551616):n=c:=by obtain⟨m,tl,q,i,r,j,_⟩:=h.gi;obtain⟨l,p,k1,k,s,b,_⟩:=h'.gi;rw[j]at b;have e:Xb m=Xb l:=eU jc.data (VU b);have a:=Un i (by omega);rw[e,Un k (by omega)]at a;have:=eU (fun o:Option Fa=>o.map (·.next)) a;simp at this;omega
theorem Tc.NM{K:Nat}{d:ja}{m:Fa}{tl b:Nat→List qa}{mem:List qa}(h:Tc da K d bs P y m tl mem)(e:∀n∈m.ia.flatten,b n=tl n):Tc da K d bs P y m b mem:=by
 have c:∀z,(∃n∈m.ia.flatten,z∈b n)↔∃n∈m.ia.flatten,z∈tl n:=fun z=>⟨fun⟨n,a,f⟩=>⟨n,a,by rwa [e n a]at f⟩,fun⟨n,a,f⟩=>⟨n,a,by rwa [e n a]⟩⟩;obtain⟨Pc,g,c2,c3⟩:=h.gi.check;exact {h with
  gi:=⟨h.gi.valid,h.gi.sd,h.gi.next,fun n a=>by rw[e n a];exact h.gi.ym n a,Pc,g,c2,fun z=>(c z).trans (c3 z)⟩
  ko:=fun n a=>by rw[e n a];exact h.ko n a
  xc:=fun z=>by rw[←h.xc z,c z]}
def bP(da:Nat)(P:Ma)(y':Nat)(fs:Hb):OS:=⟨P,y',dm da P fs,fun n=>(Hh fs n).getD [],Dg da P (dm da P fs).check⟩
theorem RS.Ok.opens(h:σ.Ok da)(j:da<18446744073709551616)(hK:σ.K≤89)(ho:σ.o=none)(N:σ.d.down=false)(i:sN da σ P T H y bs):((Gc P T H σ.d).1=0∧(∃y',Jc (Gc P T H σ.d).2.fa P [] none y'∧Yi da σ.K (Gc P T H σ.d).2.fa P y')∧(Gc P T H σ.d).2.Wf∧(Gc P T H σ.d).2.down=false∧(Gc P T H σ.d).2.za=σ.d.za∧((ke da P (Gc P T H σ.d).2).1=0∧(ke da P (Gc P T H σ.d).2).2.down=false∧(ke da P (Gc P T H σ.d).2).2.za=σ.d.za∧(ke da P (Gc P T H σ.d).2).2.cap=σ.d.cap∧(σ.d.Ya=false→(ke da P (Gc P T H σ.d).2).2.Ya=false)∧(∃y',RS.Ok da ⟨(ke da P (Gc P T H σ.d).2).2,σ.MB.take bs.length,bs.length,σ.K+1,some (bP da P y' (Gc P T H σ.d).2.fa)⟩)∧(∀n,Bm da σ.d.fa P n→(dm da P (Gc P T H σ.d).2.fa).next=n)∧(Na Va σ.d.fa=none→(dm da P (Gc P T H σ.d).2.fa).next=0)∧An.Ia (ke da P (Gc P T H σ.d).2).2.fa≤An.Ia (zb oa σ.d.fa)∨(ke da P (Gc P T H σ.d).2).1=61∧(ke da P (Gc P T H σ.d).2).2.down=true∧σ.d.Ya=true∧(ke da P (Gc P T H σ.d).2).2.cap=σ.d.cap∧RS.Ok da ⟨(ke da P (Gc P T H σ.d).2).2,σ.MB,σ.s,σ.K+1,none⟩))∨((Gc P T H σ.d).1=61∧(Gc P T H σ.d).2.down=true∧σ.d.Ya=true∧(Gc P T H σ.d).2.cap=σ.d.cap∧RS.Ok da ⟨(Gc P T H σ.d).2,σ.MB,σ.s,σ.K+1,none⟩):=by
 have p:=h.shut ho;have z:σ.MB.length≤σ.K+1:=KT h.many (fV _);obtain⟨r,L⟩:=i.pre;have q:σ.MB.take bs.length=bs:=by rw[←L];exact PX rfl
 have a6:bs.length≤σ.MB.length:=by rw[←L,CT];exact UY _ _
 have a:∀C,Ui da (σ.K+1) C bs σ.s→Ui da (σ.K+1) C σ.MB σ.s:=fun C I=>by obtain⟨R,S,Q,y2,b2,U,a2,a3,a4,a5⟩:=I.log;exact {I with log:=⟨R,S,Q,y2,b2,U,a2,a3.trans i.pre,a4,a5⟩,qj:=p.qj}
 have hq:nh bs:=p.qj.pre i.pre;have A:=opened (T:=T) (H:=H) p.wf N j (by omega) i.log i.holds hq i.sure i.idx p.room p.many;unfold fm at A;rcases A with⟨v,l,y',⟨E,_⟩,k1,e,c,f,F,B,hD,G,tl,M,t,D⟩|⟨v,l,c,f,_,_,w,g⟩
 ·rw[e]at l c f F B D;refine .inl ⟨v,⟨y',E,t⟩,k1.wf,k1.down,k1.za,.inl ⟨l,D.up,f,c,F,⟨y',?_⟩,fun n u=> ?_,fun u=> ?_,B⟩⟩
  ·refine RS.Ok.mk' ?_ (fun b hb=>h.ok b (VV hb)) ?_ ?_ G
   ·rw[q];omega
   ·rw[q];exact FT _
   ·rw[q];exact(D.RR (fV _)).NM fun n u=>by show(Hh _ n).getD []=tl n;rw[M n u];rfl
  ·obtain⟨m,hm,J⟩:=u.ei j (fs:=(Gc P T H σ.d).2.fa) fun k X=>k1.get k X;unfold dm;rw[hm];exact J
  ·have nM:¬wg Va:=fun h=>h.elim Gf (fun e=>jr e.symm);have W:ei da (Gc P T H σ.d).2.fa (Ad P)=none:=by unfold An.ei;rw[k1.get Va nM,u]
   unfold dm;rw[W];rfl
 ·rcases g with g|⟨g,y',⟨E,_⟩,k1,t⟩
  ·have e:chain [Gc P T H,ke da P] σ.d=Gc P T H σ.d:=Vd (by rw[g];simp);rw[e]at c f w;exact .inr ⟨g,c,l,f,RS.Ok.yI z h.ok h.sure (a _ w)⟩
  ·have e:chain [Gc P T H,ke da P] σ.d=ke da P (Gc P T H σ.d).2:=by rw[Wd g,nf]
   rw[e]at v c f w;exact .inl ⟨g,⟨y',E,t⟩,k1.wf,k1.down,k1.za,.inr ⟨v,c,l,f,RS.Ok.yI z h.ok h.sure (a _ w)⟩⟩
theorem RS.Ok.close(h:σ.Ok da)(a:da<18446744073709551616):RS.Ok da ⟨σ.d,σ.MB,σ.s,σ.K,none⟩:=by
 refine RS.Ok.yI h.many h.ok h.sure ?_;cases b:σ.o with
 |none=>exact h.shut b
 |some x=>exact(h.live x b).1.shut a (h.live x b).2
theorem RS.Ok.Ve(h:σ.Ok da)(a:da<18446744073709551616)(Ga:List Int):RS.Ok da ⟨σ.d.Ve Ga,σ.MB,σ.s,σ.K,none⟩:=RS.Ok.yI h.many h.ok h.sure (((h.close a).shut rfl).Ve Ga)
theorem RS.Ok.same(h:σ.Ok da){a:ja}(f:a.Wf)(g:a.down=σ.d.down)(e:a.fa=σ.d.fa)(c:a.cap=σ.d.cap):RS.Ok da ⟨a,σ.MB,σ.s,σ.K,σ.o⟩:=⟨h.many,h.ok,h.sure,fun b=>(h.shut b).same f e c,fun x b=>⟨(h.live x b).1.same f (g.trans (h.live x b).1.up) e c,(h.live x b).2⟩⟩
theorem RS.Ok.start(h:σ.Ok da)(a:σ.o=none):RS.Ok da ⟨σ.d.rf.2,σ.MB,σ.s,σ.K,none⟩:=by obtain⟨b,c,_,_⟩:=Qi (d:=σ.d);exact RS.Ok.yI h.many h.ok h.sure ((h.shut a).same (aN (h.shut a).wf) b c)
theorem RS.Ok.Rw(h:σ.Ok da)(c:σ.K≤90){k:Nat}(e:k≤999999){b:ja}(t:Touch (rb k) σ.d b):RS.Ok da ⟨b,σ.MB,σ.s,σ.K,σ.o⟩:=⟨h.many,h.ok,h.sure,fun a=>(h.shut a).Rw c e t,fun x a=>⟨(h.live x a).1.Rw c e t,(h.live x a).2⟩⟩
theorem RS.Ok.EB(h:σ.Ok da)(b:σ.K≤90)(g:σ.o=none){n:Bs}(e:n=Va∨∃k,k≤999999∧n=Ra k){a:ja}(t:Touch n σ.d a) (c:∀f f',Na n σ.d.fa=some f→Na n a.fa=some f'→f'.data=f.data∨(if n=Va then qg f'.data=none else mf f'.data=none)):RS.Ok da ⟨a,σ.MB,σ.s,σ.K,none⟩:=RS.Ok.yI h.many h.ok h.sure ((h.shut g).EB b e t c)
theorem RS.Ok.up(h:σ.Ok da){c:Nat}(b:σ.K≤c):RS.Ok da ⟨σ.d,σ.MB,σ.s,c,σ.o⟩:=⟨KT h.many b,h.ok,h.sure,fun a=>(h.shut a).up b,fun x a=>⟨(h.live x a).1.RR b,(h.live x a).2⟩⟩
theorem zm.Ve{u:Nat}{e f:Bool}(B:zm σ u n e f)(h:σ.Ok da)(b:da<18446744073709551616)(D:n≠0)(Ga:List Int):BC da ⟨σ.d.Ve Ga,σ.MB,σ.s,σ.K,none⟩ n:=by
 obtain⟨x,E,_,_,o,_⟩:=B;obtain⟨a,C⟩:=h.live x E;have c:=uk a.wf Ga;have k:Left (fun _=>False) σ.d (σ.d.Ve Ga):=c.left;refine⟨k.off,?_⟩;obtain⟨q,T,H,y',r,a2,a3,a4⟩:zo x.P x.y x.P (σ.d.Ve Ga).fa:=k.log (fun _ _ h=>h) a.log;have t:∀i,Qk x.P x.y i→Qk q y' i:=fun i w=>(a3 i w).rz a4;refine⟨q,T,H,y',_,⟨r,a.holds.pre a2,jY _ _,C.rz t,a.vC b (k.stays fun h=>h) (fun j _=>k.stays fun h=>h) t⟩,⟨x.m,x.tl,o,a.gi.valid,a.gi.sd,?_,?_,fun j g=>⟨?_,(k.stays fun h=>h).Ga _ (a.ko j g),?_⟩⟩⟩
 ·rcases a.map with⟨_,l⟩|l
  ·rw[l]at o;exact absurd o.symm D
  ·exact(k.stays fun h=>h).Ga _ l
 ·obtain⟨Pc,v,c2,_⟩:=a.gi.check;obtain⟨_,_,_,_,A⟩:=(a3 Pc v).split r.size;rw[c2];exact A
 ·have F:=Dc.1 a.gi.valid;have:=F.2.2.2 j g;omega
 ·have hm:∀z∈x.tl j,z∈ld da (ab x.P):=fun z p=>(a.xc z).1 (.inr ⟨j,g,p⟩);have:=Ll a.holds a.log.size a.log.sub (a.gi.ym j g) hm;exact uu (a.gi.ym j g) (fun z p=>(Jt b a.holds a.log.size a.log.sub (hm z p)).1) (by omega)
theorem BC.start(h:BC da σ n):BC da ⟨σ.d.rf.2,σ.MB,σ.s,σ.K,none⟩ n:=by
 obtain⟨c,f,_,e⟩:=Qi (d:=σ.d);obtain⟨P,T,H,y,bs,a,b⟩:=h.TE;refine⟨e.trans h.calm,P,T,H,y,bs,⟨?_,a.holds,a.pre,a.sure,?_⟩,?_⟩
 ·rw[c];exact a.log
 ·rw[c];exact a.idx
 ·rw[c];exact b
end
end An
end
section
open Go.RowKit An Go.ChangeShapes Go.WideShapes Go.ChangeAt Go.Proofs.Tryz
def bh(t:An.yc):List Value:=[Ha t.stream,Z t.Qb,Ha t.ev.Xi,Ha t.ev.data,.float .f64 t.ev.w]
def Vb(l:List An.yc):List Value:=l.flatMap bh
theorem Ue(t:An.yc):(bh t).length=5:=rfl
theorem FF(l:List An.yc):(Vb l).length=l.length*5:=zg Ue l
theorem uo(t:An.yc):∀u∈bh t,u.oneCell'=true:=by intro u hu;simp only[bh,dU,nV,SW]at hu;rcases hu with rfl|rfl|rfl|rfl|rfl<;>rfl
def dw(t:An.yc):Value:=.agg (bh t).toArray
theorem Po:(prog.info? 58).map (fun i=>(i.zero,i.size,i.bytes))=some (some (.agg #[.string ⟨#[]⟩,Z 0,.string ⟨#[]⟩,.string ⟨#[]⟩,.float .f64 0]),5,64):=by kernel_rfl
abbrev Eh(S L X D rate da:Nat)(st:Int)(x:OS)(d:An.ja):aa:=ba S 82 #[Da L,Da X,.int .u64 da]*(Fc L D st x.P*(Xd X D rate x.m x.tl x.mem*na D d))
theorem Wm(S L X:Nat)(s:Value):Pp prog 25 #[Da S] (ba S 82 #[Da L,Da X,s]) (.bool false):=by intro w o r a;have I:=TZ a;have b:w.cell? ⟨S,0,none⟩=some (Da L):=I.cells S 0;clear a;go_enter func25,ntmps25;go_wp2;go_ret;exact⟨rfl,0,rfl⟩
def pc(st:Bs)(fr n:Int):Nat:=if ad st=false∨fr<0∨n<1 then 2 else 0
theorem YL(S L X:Nat)(s:Value)(st:Bs)(fr n:Int)(f:st.length≤1000000000):Pp prog 33 #[Da S,Ha st,Z fr,Z n] (ba S 82 #[Da L,Da X,s]) (Z (pc st fr n)):=by
 intro w o r a;have I:=TZ a;have t25:=Wm S L X s;have t29:=BD st f;unfold pc;clear a;cases d:ad st with
 |false=>rw[d]at t29;rw[JT (.inl rfl)];go_enter func33,ntmps33;go_wp2_with fail;refine Y.ka I t25 fun m=> ?_;go_wp2_with fail;refine(t29 _).mono ?_;rintro e w' ⟨rfl,m2,rfl⟩;go_wp2;go_ret;exact⟨rfl,m+m2,rfl⟩
 |true=>
  rw[d]at t29;by_cases b:fr<0
  ·rw[JT (.inr (.inl b))];go_enter func33,ntmps33;go_wp2_with fail;refine Y.ka I t25 fun m=> ?_;go_wp2_with fail;refine(t29 _).mono ?_;rintro e w' ⟨rfl,m2,rfl⟩;go_wp2;go_ret;exact⟨rfl,m+m2,rfl⟩
  ·by_cases c:n<1
   ·rw[JT (.inr (.inr c))];go_enter func33,ntmps33;go_wp2_with fail;refine Y.ka I t25 fun m=> ?_;go_wp2_with fail;refine(t29 _).mono ?_;rintro e w' ⟨rfl,m2,rfl⟩;go_wp2;go_ret;exact⟨rfl,m+m2,rfl⟩
   ·rw[DT (by simp[b,c])];go_enter func33,ntmps33;go_wp2_with fail;refine Y.ka I t25 fun m=> ?_;go_wp2_with fail;refine(t29 _).mono ?_;rintro e w' ⟨rfl,m2,rfl⟩;go_wp2;go_ret;exact⟨rfl,m+m2,rfl⟩
theorem il{a:Int}(h:0≤a∧a≤4000000000):IntKind.i64.wrap a=a∧wrap64 a=a:=⟨RT _ (by omega),UW _ (by omega)⟩
def OM:Value:=.agg #[.string ⟨#[]⟩,Z 0,.string ⟨#[]⟩,.string ⟨#[]⟩,.float .f64 0]
def Mo:Option An.yc→Value
 |none=> .tuple #[OM,.bool false,Z 0]
 |some t=> .tuple #[dw t,.bool true,Z 0]
theorem fO(S L X D rate da:Nat)(st:Int)(x:OS)(d:An.ja)(hd:d.down=false)(F:d.za=st){y:Nat}(hl:Jc d.fa x.P [] none y)(q:Nat×Bs)(hq:q∈ab x.P)(b:Za)(t:ow b)(E:q.2=Sa b)(hh i:Nat)(hi:i<b.vc.length)(s:Bs):Ud prog 70 #[Da S,bj ⟨hh,b.first+i,q.1⟩,Ha s] (Eh S L X D rate da st x d) (Mo (if b.stream=s then some ⟨s,b.first+i,b.vc[i]⟩else none)) (Eh S L X D rate da st x d):=by
 intro w o r h0;have I:=TZ h0;have t113:=rL L D st x.P d y hd F hl q hq;rw[E]at t113;have u:=Ej t;have t27:=iE (Sa b) (by omega);rw[Hl t]at t27;have t27:Tr prog 27 #[Ha (Sa b)] aa.emp (fun v=> .tuple #[bV b v,Z 0]) (fun v=>Ba 3 v b.vc.length (vc b.vc)):=t27;generalize Sa b=p at*;have l:=Hd t.check;have h5:=l.2.2.2.2.1;obtain⟨bs,n,be⟩:=b;dsimp only at*;have hi:i<be.length:=hi;obtain⟨v,hv⟩:∃v,n+i=v:=⟨_,rfl⟩;rw[hv];have N:(v:Int)-n=i:=by omega
 have a7:wrap64 ((i:Nat):Int)=i:=(il ⟨by omega,by omega⟩).2;have ak:IntKind.i64.wrap ((v:Int)-n)=(i:Int):=by rw[N];exact(il ⟨by omega,by omega⟩).1
 have a8:¬ ((i:Nat):Int)<0:=by omega
 have a6:(i:Int)<(be.length:Int):=by omega
 unfold bj bV at*;dsimp only at*;have z:=(I.Wa (.cells #[Pa hh,Z v,Z q.1] 126) w.heap.size rfl).Wa (.cells #[.string ⟨#[]⟩,Z 0,.string ⟨#[]⟩,.string ⟨#[]⟩,.float .f64 0] 58) (w.heap.size+1) (dc rfl);generalize q.1=q1 at*;obtain⟨res,k⟩:∃res,(if bs=s then some (⟨s,v,be[i]⟩:An.yc)else none)=res:=⟨_,rfl⟩;rw[k];have HR:=V k;clear k;clear h0 I t E u l h5 hd F hl hq hv;go_enter func70,ntmps70;go_upto_region 1 with(fail);generalize(w.alloc (.cells #[Pa hh,Z v,Z q1] 126)).alloc (.cells #[.string ⟨#[]⟩,Z 0,.string ⟨#[]⟩,.string ⟨#[]⟩,.float .f64 0] 58)=A at*;have c0:A.cell? ⟨S,0,none⟩=some (Da L):=z.cells S 0;have c2:A.cell? ⟨w.heap.size,2,none⟩=some (Z q1):=z.cells w.heap.size 2;have q0:=IT c0;have q2:=IT c2;refine Hc [0] [1,2,3,4,5] 6 [7,8,9,10,11] (by kernel_rfl) (by kernel_rfl) (by rfl) (fun _ _ _ _ _ h=>h) ?_;simp only[QT,VT,MT,NT];dsimp only[Ub];go_simp;repeat (quiet_step (fail))
 refine fU ?_;first|(rintro _ ⟨c,rfl⟩)|(intro c)
 have j:=jU A c.d c.os;generalize Go.Sort.grow (redrawn A c.d) c.os=wq at*;clear c;intro K hK;go_simp;have K:=z.below j;clear q0 q2 c0 c2 z j;refine K.k1 t113 fun w2 K2=> ?_;go_simp;refine hK _ _ ?_;clear hK K;repeat (quiet_step (fail))
 refine fU ?_;clear K t113;go_wp2_with fail;refine((K2.le (Re _)).call t27).mono ?_;rintro e W ⟨v5,rfl,H⟩;obtain⟨_,G,c5,rfl,_⟩:=H.sl v5;have f:=H.Wa (.cells #[Ha bs,Z n,O G be.length c5] 85) W.heap.size rfl;clear K2 H t27;go_upto_region 5 with(fail);generalize W.alloc (.cells #[Ha bs,Z n,O G be.length c5] 85)=M at*;generalize W.heap.size=r3 at*;generalize a1:w.heap.size+1=a at*;generalize w.heap.size=r1 at*;clear a1;obtain⟨d0,d1,d2⟩:=f.c3 r3;have e1:M.cell? ⟨r1,1,none⟩=some (Z v):=f.cells r1 1;by_cases B:bs=s
 ·subst B;obtain⟨g,off,rfl,u,C,l⟩:=f.we G c5 be wi i hi (by decide);have z0:=C _ rfl;have z1:=l 1 _ rfl;have z2:=l 2 _ rfl;have m:Hid (res=some ⟨bs,v,be[i]⟩):=V (by rw[←HR.out,JT rfl]);generalize be[i]=ev at*;clear l C u;go_upto_region 10 with(fail);have p0:=IT z0;have p1:=IT z1;have p2:=IT z2;have p3:=IT d2;have p4:=IT e1;refine Cb [0,5] [1,2,3,4,6,7,8] [9,10,11] (by kernel_rfl) (by kernel_rfl) (fun _ _ _ _ _ h=>h) ?_;simp only[QT,VT,MT,NT];dsimp only[Ub];go_simp;repeat (quiet_step (fail))
  refine fU ?_;first|(rintro _ ⟨c,rfl⟩)|(intro c)
  have j:=jU M c.d c.os;generalize Go.Sort.grow (redrawn M c.d) c.os=wq at*;clear c;have J:=f.below j;clear p0 p1 p2 p3 p4 z0 z1 z2 d0 d1 d2 e1 f j;obtain⟨f0,f1,f2,f3,f4⟩:=J.f5 a;obtain⟨Q,k1,R,T,U⟩:=J.c5 a;go_wp2_with fail;refine ZT (v:=Mo (some ⟨bs,v,ev⟩)) (by simp[results,results70,go_sem,Mo,dw,bh,Q,k1,R,T,U]) rfl ⟨by rw[m.out],?_⟩;exact(((((J.ra a 0 (Ha bs) _ rfl).ra a 1 (Z v) _ rfl).ra a 2 (Ha ev.Xi) _ rfl).ra a 3 (Ha ev.data) _ rfl).ra a 4 (.float .f64 ev.w) _ rfl).ya
 ·have m:Hid (res=none):=V (by rw[←HR.out,DT B]);have t:(bs==s)=false:=by rw[ET];exact B
  have aj:(bs !=s)=true:=by rw[CU];exact B
  obtain⟨f0,f1,f2,f3,f4⟩:=f.f5 a;obtain⟨Q,k1,R,T,U⟩:=f.c5 a;go_wp2_with fail;refine ZT (v:=Mo none) (by simp[results,results70,go_sem,Mo,OM,Q,k1,R,T,U]) rfl ⟨by rw[m.out],?_⟩;exact(((((f.ra a 0 (.string ⟨#[]⟩) _ rfl).ra a 1 (Z 0) _ rfl).ra a 2 (.string ⟨#[]⟩) _ rfl).ra a 3 (.string ⟨#[]⟩) _ rfl).ra a 4 (.float .f64 0) _ rfl).ya
abbrev Ic(A:Option Addr)(l:List An.yc)(c:Nat):aa:=Ba 5 (.slice A l.length c) l.length (Vb l)
abbrev Zg(A:Option Addr)(l:List An.yc)(c:Nat):aa:=ua 58 5 (.slice A l.length c) l.length (Vb l)
end
end Go.Proofs.YteacbkflfafefaaGreatDoor
