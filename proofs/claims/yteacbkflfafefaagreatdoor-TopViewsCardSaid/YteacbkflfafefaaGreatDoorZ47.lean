/- Part 48 of 50 of the proof that TopViews returns true at every input: lemmas on the way; no condition. -/
import Derived.Test.YteacbkflfafefaaGreatDoorZ45
namespace Go.Proofs.YteacbkflfafefaaGreatDoor
set_option linter.all false
set_option maxHeartbeats 2000000
set_option maxRecDepth 100000
section
open Go.RowKit An Go.ChangeShapes Go.WideShapes Go.ChangeAt Go.Proofs.Tryz
theorem gR(R M W D:Nat)(q:SP)(rate da:Nat){σ':RS}(X:aa)(f:Option Addr)(a i:Nat)(n:Int)(m:σ'.o=none)(l:σ'.d.down=true):Ud prog 23 #[Da R,.agg #[Z 61,Z n,O f a i]] (ba R 41 #[Da W,Da M,.bool false]*(wA W q D rate da σ'*X)) (.bool true) (ba R 41 #[Da W,Da M,.bool false]*(wA W q D rate da σ'*X)):=by
 intro w o r k;have I:=TZ k;have t39:=Yh W D (Yd σ'.o q.S) (Pa da) (.float .f64 rate);have t40:=Gk D σ'.d;rw[l]at t40;have t8:=jl W D (Yd σ'.o q.S) (Pa da) (.float .f64 rate);have p:Yd σ'.o q.S= .pointer none:=by rw[m];rfl
 have t8:Pp prog 8 #[Da W] (ba W 77 #[Da D,Yd σ'.o q.S,Pa da,.float .f64 rate]) (.pointer none):=fun w o r h=>p▸t8 w o r h;have J:=(I.le (MZ (JZ _) (MZ um (JZ _)))).Wa (.cells #[Z 61,Z n,O f a i] 71) w.heap.size rfl;clear k I m l p;go_enter func23,ntmps23;go_upto_region 1 with(fail);generalize w.alloc (.cells #[Z 61,Z n,O f a i] 71)=g at*;generalize w.heap.size=s at*;have d0:=J.cells s 0;have e:g.cell? ⟨R,0,none⟩=some (Da W):=J.cells R 0;go_wp2_with fail;refine J.ka t39 fun m1=> ?_;have b:=J.drewN m1;clear J d0 e;have e:(g.drewN m1).cell? ⟨R,0,none⟩=some (Da W):=b.cells R 0;go_wp2_with fail;refine b.ka t40 fun m2=> ?_;have c:=b.drewN m2;rw[NU]at c;clear b e;have e:(g.drewN (m1+m2)).cell? ⟨R,0,none⟩=some (Da W):=c.cells R 0;go_wp2_with fail;refine c.ka t8 fun m3=> ?_;have j:=c.drewN m3;go_wp2;go_ret;rw[NU]at j;exact⟨rfl,(j.ya (A:=ba R 41 #[Da W,Da M,.bool false]*(wK W q D rate da σ'*X))).le (MZ (JZ _) (MZ Mp (JZ _)))⟩
theorem iR(R M W D:Nat)(q:SP)(rate da:Nat)(a:List Za)(C:Nat){σ':RS}{x:OS}(mq:MQ)(s:Hk)(t u:Value)(P:Option Addr)(p U:Nat)(n:Int)(z:σ'.o=some x)(H:σ'.Ok da)(hb:∀b∈a,ow b)(g:Nat)(h1:C≤g)(h2:g≤a.length)(k:σ'.MB=a.take g)(h4:σ'.s=g)(hL:(Ja a).length≤10000)(hM:a.length≤10000):Tr prog 23 #[Da R,.agg #[.int .i64 0,.int .i64 n,.slice P p U]] (aa.wm R 41 #[Da W,Da M,.bool false]*(wA W q D rate da σ'*(xj M (Ja a) (La a) (.int .i64 C) mq*Kc s t u))) (fun _:MX=> .bool true) (fun y=>aa.wm R 41 #[Da W,Da y.M,.bool false]*(wA W q D rate da σ'*(xj y.M (Ja σ'.MB) (La σ'.MB) (.int .i64 σ'.s) y.mq*Kc s t u))):=by
 intro w o r h0;have I:=TZ h0;obtain⟨F,_⟩:=H.live x z;have t9:=vQ q.S q.L q.X D rate da σ'.d.za x F rfl;have t8:=jl W D (Yd σ'.o q.S) (.int .u64 da) (.float .f64 rate);have hv:Yd σ'.o q.S=Da q.S:=by rw[z];rfl
 have t8:Pp prog 8 #[Da W] (aa.wm W 77 #[Da D,Yd σ'.o q.S,.int .u64 da,.float .f64 rate]) (Da q.S):=fun w o r h=>hv▸t8 w o r h;obtain⟨hq,I1⟩:=I.pure;have t54:=fun A2 c2=>ZQ M a mq C g A2 c2 hb h1 h2 hL hM hq;rw[←k]at t54;have N:aa.le (wA W q D rate da σ') (aa.wm W 77 (Ug D (Yd σ'.o q.S) da rate)*Eh q.S q.L q.X D rate da σ'.d.za x σ'.d):=MZ (JZ _) (Ew z);have K:aa.le (aa.wm W 77 (Ug D (Yd σ'.o q.S) da rate)*Eh q.S q.L q.X D rate da σ'.d.za x σ'.d) (wA W q D rate da σ'):=MZ (JZ _) (qB z);have J:=(I1.le (MZ (JZ _) (MZ N (JZ _)))).Wa (.cells #[.int .i64 0,.int .i64 n,.slice P p U] 71) w.heap.size rfl;have i:aa.le (Ba 5 (.slice mq.A (Ja a).length mq.c) (Ja a).length (Vb (Ja a))) (Ba 5 (.slice mq.A (Ja σ'.MB).length (Ja σ'.MB).length) (Ja σ'.MB).length (Vb (Ja σ'.MB))):=by rw[k];have h:=Vm (f:=bh) Ue (A:=mq.A) (c:=mq.c) (c':=(Ja (a.take g)).length) (l:=Ja a) (m:=(Ja (a.take g)).length) (oy a g).length_le;rw[mJ]at h;exact h
 have j:aa.le (Ba 1 (.slice mq.B (La a).length mq.d) (La a).length (nv (La a))) (Ba 1 (.slice mq.B (La σ'.MB).length g) (La σ'.MB).length (nv (La σ'.MB))):=by
  have e:(La σ'.MB).length=g:=by rw[yh,k,OT];omega
  rw[e,k,TC];have h:=Vm (f:=iv) (sz:=1) (fun _=>rfl) (A:=mq.B) (c:=mq.d) (c':=g) (l:=(La a).map Int.ofNat) (m:=g) (by rw[zU,yh];exact h2);rw[zU,←NX]at h;exact h
 have G:(La σ'.MB).length=g:=by rw[yh,k,OT];omega
 have a8:=V K;have a1:=V i;have a6:=V j;have E:=V G;have a7:=V h4;clear h0 I I1 hv F N K i j G h4 k hb H;go_enter func23,ntmps23;go_upto_region 3 with(fail);generalize w.alloc (.cells #[.int .i64 0,.int .i64 n,.slice P p U] 71)=W1 at*;generalize w.heap.size=r1 at*;have e0:W1.cell? ⟨R,0,none⟩=some (Da W):=J.cells R 0;go_wp2_with fail;refine J.ka t8 fun m1=> ?_;have J1:=J.drewN m1;clear J e0;go_wp2_with fail;refine J1.kc t9 fun w3 v Q=> ?_;obtain⟨_,A9,c9,rfl⟩:=Q.Cd v;clear J1;have K1:Y w o r (ua 58 5 (.slice A9 (Ja σ'.MB).length c9) (Ja σ'.MB).length (Vb (Ja σ'.MB))*(aa.wm R 41 #[Da W,Da M,.bool false]*(aa.wm W 77 (Ug D (Yd σ'.o q.S) da rate)*Eh q.S q.L q.X D rate da σ'.d.za x σ'.d*(yl M mq (Ja a).length (La a).length (.int .i64 C)*(Ba 5 (.slice mq.A (Ja a).length mq.c) (Ja a).length (Vb (Ja a))*(Ba 1 (.slice mq.B (La a).length mq.d) (La a).length (nv (La a))*Kc s t u)))))) w3:=Q.ya;have T:=K1.le (MZ c8 (JZ _));clear Q K1;have e1:w3.cell? ⟨R,1,none⟩=some (Da M):=T.cells R 1;have t54:=t54 A9 c9;go_wp2_with fail;refine T.k1 t54 fun w4 K3=> ?_;clear T t54 e1;go_wp2_with fail;go_ret;refine⟨(⟨M,⟨mq.A,(Ja σ'.MB).length,mq.B,g⟩⟩:MX),rfl,?_⟩;have K4:Y w o r (aa.wm R 41 #[Da W,Da M,.bool false]*((aa.wm W 77 (Ug D (Yd σ'.o q.S) da rate)*Eh q.S q.L q.X D rate da σ'.d.za x σ'.d)*((yl M ⟨mq.A,(Ja σ'.MB).length,mq.B,g⟩ (Ja σ'.MB).length g (.int .i64 g)*(Ba 5 (.slice mq.A (Ja a).length mq.c) (Ja a).length (Vb (Ja a))*Ba 1 (.slice mq.B (La a).length mq.d) (La a).length (nv (La a))))*Kc s t u))) w4:=K3.ya;have K5:=K4.le (MZ (JZ _) (MZ a8.out (MZ (MZ (JZ _) (MZ a1.out a6.out)) (JZ _))));have K6:Y w o r (aa.wm R 41 #[Da W,Da M,.bool false]*(wA W q D rate da σ'*((yl M ⟨mq.A,(Ja σ'.MB).length,mq.B,g⟩ (Ja σ'.MB).length (La σ'.MB).length (.int .i64 σ'.s)*(Ba 5 (.slice mq.A (Ja σ'.MB).length (Ja σ'.MB).length) (Ja σ'.MB).length (Vb (Ja σ'.MB))*Ba 1 (.slice mq.B (La σ'.MB).length g) (La σ'.MB).length (nv (La σ'.MB))))*Kc s t u))) w4:=by rw[a7.out];have e:=E.out;rw[e]at K5⊢;exact K5
 exact K6.le (MZ (JZ _) (MZ (JZ _) (MZ (RZ ⟨FT _,vW E.out⟩) (JZ _))))
end
section
open Go.RowKit An
def uN(A:aa)(h:Array Obj):Prop:=∃r,A.p h (fun _=>False) r
theorem uN.star{A B:aa}{h:Array Obj}:uN A h→uN B h→uN (A*B) h:=fun⟨r,a⟩ ⟨s,b⟩=>⟨fun k=>r k∨s k,_,r,_,s,a,b,fun _ h=>h.elim,fun _ h=>h.elim,fun k=>by simp,fun _=>aX⟩
theorem Iv{α:Type}{p:Nat→α→Prop}:∀ (n:Nat),(∀i,i<n→∃a,p i a)→∃l:List α,l.length=n∧∀i a,l[i]? =some a→p i a
 |0,_=>⟨[],rfl,fun i a h=>by simp at h⟩
 |n+1,h=>by
  obtain⟨l,c,g⟩:=Iv n fun i hi=>h i (by omega);obtain⟨a,f⟩:=h n (by omega);refine⟨l++[a],by simp[c],fun i b hb=> ?_⟩;by_cases hi:i<l.length
  ·rw[IV hi]at hb;exact g i b hb
  ·have d:=(ZU.1 hb).1;simp at d;obtain rfl:i=l.length:=by omega
   simp at hb;rw[←hb,c];exact f
section
variable {H:Type}{enc:TypeId×Value→H}{P:Program}{w:World}{base fuel:Nat}{spare:Nat→Bool}{held:Bool}{t e:TypeId}{cs:List Value}{x:DataW H×List MemPlace}
theorem uy{k:FloatKind}(a:P.underlying t=some (.float k))(h:DataW.trod enc P w base spare held fuel t cs=some x):∃n,cs=[.float k n]∧(Lit.float k n).wf=true:=by
 cases fuel with
 |zero=>simp[DataW.trod]at h
 |succ n=>unfold DataW.trod at h;rw[a]at h;split at h<;>simp_all
theorem kt{fs:Array Field}(d:P.underlying t=some (.struct fs))(h:DataW.trod enc P w base spare held fuel t cs=some x):cs.length=P.cellsOf t∧∃n,∀ (i:Nat) (u:TypeId) (o m:Nat),(fs[i]?).map (fun f=>(f.type,f.offset))=some (u,o)→P.cellsOf u=m→∃y,DataW.trod enc P w base spare held n u ((cs.drop o).take m)=some y:=by
 obtain⟨xs,n,_,_,c,hlen,b⟩:=DataW.trod_struct d h;refine⟨c,n,fun i u o m hi hm=> ?_⟩;cases a:fs[i]? with
 |none=>rw[a]at hi;cases hi
 |some f=>rw[a]at hi;cases hi;subst hm;rw[b i f a];exact⟨_,PT (by rw[hlen];exact(sU.1 a).1)⟩
theorem jB{α:Type}{cells:α→List Value}{fI:α→Prop}{sz:Nat}(o:∀a,(cells a).length=sz)(y:0<sz)(Q:P.underlying t=some (.slice e))(M:P.cellsOf e=sz) (G:∀ (fuel:Nat) (cs:List Value) (x:DataW H×List MemPlace),DataW.trod enc P w base spare held fuel e cs=some x→∃a,cs=cells a∧fI a) (h:DataW.trod enc P w base spare held fuel t cs=some x):∃ (A:Option Addr) (c:Nat) (l:List α),cs=[O A l.length c]∧l.length≤maxLen∧(∀a∈l,fI a)∧uN (Ba sz (O A l.length c) l.length (l.flatMap cells)) w.heap:=by
 rcases Go.Deep.open_slice Q h with⟨rfl,_⟩|⟨a,len,cap,m,n,D,T,rfl,_,U,hm,J,_,hi⟩
 ·exact⟨none,0,[],rfl,WT _,by simp,fun _=>False,fun _ h=>h,by simp,none,0,rfl,.inl ⟨rfl,fun _ h=>h⟩⟩
 ·have S:len≤m:=by rw[J];split<;>omega
  obtain⟨l,rfl,z⟩:=Iv (p:=fun i x=>(∀j,j<sz→w.cell? ((a.add (i*sz)).add j)=(cells x)[j]?)∧fI x) len (fun i R=>by obtain⟨d,C,K⟩:=hi i (by omega);obtain⟨x,B,N⟩:=G n d _ K;rw[M]at C;obtain⟨_,_,L⟩:=World.cells?_some C;exact⟨x,fun j q=>by rw[L j q,B],N⟩);refine⟨some a,cap,l,rfl,by omega,fun x B=>by obtain⟨i,hi,rfl⟩:=dV B;exact(z i _ (PT hi)).2,?_⟩;have hlen:=zg o l;by_cases r:l=[]
  ·subst r;exact⟨fun _=>False,fun _ h=>h,by simp,_,_,rfl,.inl ⟨rfl,fun _ h=>h⟩⟩
  ·have r:=xV.2 r;obtain⟨b,off,spot⟩:=a;have f:=(z 0 _ (PT r)).1 0 y;rw[PT (by rw[o];omega)]at f;obtain rfl:spot=none:=by simpa [Addr.add]using World.cell?_spot f
   have hb:∃d v f',w.heap[b]? =some (.cells d v f'):=by
    simp only[Addr.add,World.cell?]at f;split at f
    ·next h=>exact⟨_,_,_,by simpa using h⟩
    ·cases f
   obtain⟨d,v,f',hb⟩:=hb;refine⟨fun k=>k=b,fun _ h=>h,hlen,_,_,rfl,.inr ⟨b,off,d,v,f',rfl,hb,fun j u q=> ?_,fun _=>aX⟩⟩;have I:j<l.length*sz:=by have:=(ZU.1 q).1;rw[hlen]at this;exact this
   have F:j/sz<l.length:=(Nat.div_lt_iff_lt_mul y).2 I;have g:j % sz<sz:=kY _ y;have s:j=j/sz*sz+j % sz:=by have:=Nat.div_add_mod j sz;rw[gY]at this;omega
   have E:=(z (j/sz) _ (PT F)).1 (j % sz) g;rw[CV,CV,RY,←s,jW _ _ _ _ _ _ hb]at E;rw[E,←q];conv=>rhs;rw[s]
   exact(vh o l _ _ F g).symm
end
end
section
open Go.RowKit An Go.Proofs.Tryz
theorem QK{n:Int}(h:(Lit.int .i64 n).wf=true):QF n:=by simp[Lit.wf,IntKind.min,IntKind.max,IntKind.signed,IntKind.bits]at h;exact⟨by omega,by omega⟩
theorem ZE{k:IntKind}{n:Int}(h:(Lit.int k n).wf=true)(a:k.min=0):∃m:Nat,n=m∧(m:Int)≤k.max:=by simp[Lit.wf,a]at h;exact⟨n.toNat,by omega,by omega⟩
theorem qA:prog.cellsOf 9=1:=by kernel_rfl
theorem pA:prog.cellsOf 3=1:=by kernel_rfl
theorem TF:prog.cellsOf 24=1:=by kernel_rfl
theorem NN:prog.cellsOf 34=1:=by kernel_rfl
theorem ON:prog.cellsOf 35=1:=by kernel_rfl
theorem VF:prog.cellsOf 56=3:=by kernel_rfl
theorem UF:prog.cellsOf 37=7:=by kernel_rfl
theorem MN:prog.cellsOf 27=3:=by kernel_rfl
theorem JN:prog.cellsOf 23=1:=by kernel_rfl
theorem KN:prog.cellsOf 25=1:=by kernel_rfl
section
variable {H:Type}{enc:TypeId×Value→H}{w:World}{base:Nat}{spare:Nat→Bool}{held:Bool}
theorem fS(a:Nat)(cs:List Value)(x:DataW H×List MemPlace)(h:DataW.trod enc prog w base spare held a 56 cs=some x):∃e:Ev,cs=dQ e∧e.w<18446744073709551616:=by
 obtain⟨c,n,b⟩:=kt underlying56 h;rw[VF]at c
 match cs,c with
 |[o,p,c2],_=>obtain⟨_,i⟩:=b 0 9 0 1 rfl qA;obtain⟨_,j⟩:=b 1 9 1 1 rfl qA;obtain⟨_,k⟩:=b 2 24 2 1 rfl TF;obtain⟨m,d,_⟩:=FY underlying9 i;obtain⟨s1,f,_⟩:=FY underlying9 j;obtain⟨l,g,w2⟩:=uy underlying24 k;simp at d f g;exact⟨⟨m.data.toList,s1.data.toList,l⟩,by rw[d,f,g];rfl,by simpa [Lit.wf]using w2⟩
def RF(h:Array Obj)(q:gz):Prop:=uN (Kc q.s q.ve q.vk) h∧QF q.s.a∧QF q.s.b∧∀e∈q.s.vc,e.w<18446744073709551616
theorem vR(b:Nat)(cs:List Value)(x:DataW H×List MemPlace)(h:DataW.trod enc prog w base spare held b 37 cs=some x):∃q:gz,cs=oQ q∧RF w.heap q:=by
 obtain⟨e,n,a⟩:=kt underlying37 h;rw[UF]at e
 match cs,e with
 |[K,L,c2,c3,c4,c5,c6],_=>
  obtain⟨_,r⟩:=a 0 3 0 1 rfl pA;obtain⟨_,s⟩:=a 1 9 1 1 rfl qA;obtain⟨_,t⟩:=a 2 3 2 1 rfl pA;obtain⟨_,u⟩:=a 3 3 3 1 rfl pA;obtain⟨_,v⟩:=a 4 34 4 1 rfl NN;obtain⟨_,y⟩:=a 5 35 5 1 rfl ON;obtain⟨_,A⟩:=a 6 9 6 1 rfl qA;obtain⟨C,f,_,M⟩:=BX underlying3 r;obtain⟨s1,g,_⟩:=FY underlying9 s;obtain⟨D,i,_,w2⟩:=BX underlying3 t;obtain⟨E,j,_,J⟩:=BX underlying3 u;obtain⟨p,ce,el,k,_,g4,F⟩:=jB (cells:=dQ) wi (by decide) underlying34 VF fS v;obtain⟨c,d,kl,l,_,_,G⟩:=jB (cells:=fun n:Int=> [Value.int .i64 n]) (fI:=fun _=>True) (fun _=>rfl) (by decide) underlying35 pA (fun _ _ _ h=>by obtain⟨z,B,_⟩:=BX underlying3 h;exact⟨z,B,trivial⟩) y;obtain⟨I,m,_⟩:=FY underlying9 A;have o:uN (Ba 1 (.slice c kl.length d) kl.length (xf kl)) w.heap:=by
   have:kl.flatMap (fun n:Int=> [Value.int .i64 n])=xf kl:=by unfold xf;rw[List.map_eq_flatMap]
   rw[←this];exact G
  simp at f g i j k l m;exact⟨⟨⟨C,s1.data.toList,D,E,el,kl,I.data.toList⟩,.slice p el.length ce,.slice c kl.length d⟩,by rw[f,g,i,j,k,l,m];rfl,F.star o,QK w2,QK J,g4⟩
theorem FJ{h:Array Obj}:∀l:List gz,(∀q∈l,RF h q)→uN (lA l) h
 |[],_=>⟨fun _=>False,trivial,fun _ h=>h,fun _ h=>h⟩
 |q::r,a=>(a q (.head _)).1.star (FJ r fun x b=>a x (.tail _ b))
theorem fF{v:Value}{d:DataW H}{p:List MemPlace}(o:∃A n c,v=O A n c)(h:DataW.Trod enc prog w base spare held 22 v d p):∃ (A:Option Addr) (c:Nat) (l:List gz),v=O A l.length c∧l.length≤9223372036854775807∧(∀q∈l,QF q.s.a∧QF q.s.b∧∀e∈q.s.vc,e.w<18446744073709551616)∧uN (Sf A c l) w.heap:=by obtain⟨A,n,c,rfl⟩:=o;obtain⟨fuel,k⟩:=h;obtain⟨r,c',l,f,i,g,j⟩:=jB (cells:=oQ) Ap (by decide) underlying22 UF vR k;simp[Value.cells]at f;obtain⟨rfl,rfl,rfl⟩:=f;exact⟨A,c,l,rfl,i,fun q m=>(g q m).2,j.star (FJ l g)⟩
theorem eF{cs:Array Value}{d:DataW H}{p:List MemPlace}(h:DataW.Trod enc prog w base spare held 27 (.agg cs) d p):∃da rate room:Nat,Value.agg cs= .agg #[Pa da,.float .f64 rate,.int .u16 room]∧da<18446744073709551616∧room≤65535:=by
 obtain⟨fuel,c⟩:=h;obtain⟨e,n,c⟩:=kt underlying27 c;rw[MN]at e;obtain⟨l⟩:=cs;simp only[Value.cells]at e c
 match l,e with
 |[s,t,c2],_=>obtain⟨_,j⟩:=c 0 23 0 1 rfl JN;obtain⟨_,k⟩:=c 1 24 1 1 rfl TF;obtain⟨_,m⟩:=c 2 25 2 1 rfl KN;obtain⟨u,f,_,r⟩:=BX underlying23 j;obtain⟨q,g,_⟩:=uy underlying24 k;obtain⟨v,i,_,w2⟩:=BX underlying25 m;simp at f g i;obtain⟨a,rfl,o⟩:=ZE r rfl;obtain⟨b,rfl,hb⟩:=ZE w2 rfl;exact⟨a,q,b,by rw[f,g,i],by simp[IntKind.max,IntKind.signed,IntKind.bits]at o;omega,by simp[IntKind.max,IntKind.signed,IntKind.bits]at hb;omega⟩
theorem cP{v:Value}{d:DataW H}{p:List MemPlace}(f:∃n,v= .int .u8 n)(h:DataW.Trod enc prog w base spare held 5 v d p):∃size:Nat,v= .int .u8 size∧size≤255:=by obtain⟨m,rfl⟩:=f;obtain⟨fuel,e⟩:=h;obtain⟨i,b,_,g⟩:=BX underlying5 e;simp[Value.cells]at b;subst b;obtain⟨a,rfl,c⟩:=ZE g rfl;exact⟨a,rfl,by simp[IntKind.max,IntKind.signed,IntKind.bits]at c;omega⟩
end
end
section
open Go Go.RowKit
def aa.Gg(B:Nat)(S:aa):Prop:=∀h o r k,S.p h o r→o k∨r k→k<B∨∃cs t f,h[k]? =some (.cells cs t f)
theorem aa.mc.b{S:aa}(h:S.mc)(B:Nat):S.Gg B:=fun h' o r k c a=> .inr (h h' o r k c a)
theorem aa.Gg.star{B:Nat}{S T:aa}(c:S.Gg B)(d:T.Gg B):(S*T).Gg B:=by
 rintro h o r k ⟨f,i,g,j,b,a2,a3,a4,a5,e⟩ a;rw[a5,e]at a;rcases a with(a|a)|(a|a)
 ·exact c _ _ _ _ b (.inl a)
 ·exact d _ _ _ _ a2 (.inl a)
 ·exact c _ _ _ _ b (.inr a)
 ·exact d _ _ _ _ a2 (.inr a)
theorem aa.Gg.up{B C:Nat}{S:aa}(h:S.Gg B)(a:B≤C):S.Gg C:=fun _ _ _ _ c b=>(h _ _ _ _ c b).imp (fun h=>aV h a) id
def Ul:List Nat→aa
 |[]=>aa.emp
 |D::r=>aa.obj D (.deferred (some []))*Ul r
theorem IG{B:Nat}:∀ {c:List Nat},(∀D∈c,D<B)→(Ul c).Gg B
 |[],_=>(k9 True).b B
 |D::r,h=>aa.Gg.star (fun _ _ _ k d a=> .inl (by
  rcases a with a|a
  ·rw[(d.2.1 k).1 a];exact h D (.head _)
  ·exact absurd a (d.2.2 k))) (IG fun x e=>h x (.tail _ e))
abbrev RO(a:List Nat):List Deferred:=a.map fun D=>{target:=.collected D,args:=#[]}
section
variable {w0 w w':World}{o0 r0 o r:Td}{S S' C:aa}{B:Nat}
theorem Y.XL{β:Type}{S:β→aa}(m:∀b,(S b).Gg B)(w0:World)(o0 r0:Td)(v:w0.heap.size≤B):OwnFrom B (fun b W=>Y w0 o0 r0 (S b) W):=by
 rintro b W s row ⟨o,r,d,hu⟩ c l;have i:∀k,o k∨r k→some k≠row:=by
  rintro k a e;obtain⟨u,x,j,p⟩:=l k e.symm;rcases m b _ _ _ _ d a with h|⟨cs,t,f,g⟩
  ·omega
  ·rw[g]at j;cases j;cases p
 refine⟨o,r,(S b).loc d fun k a=>c.block k ((S b).lt d a) (i k a),c.os.trans hu.os,c.tape.trans hu.tape,c.output.trans hu.output,KT hu.size c.size,fun k a q=> ?_,hu.own,hu.rd⟩;exact(c.block k (aV a hu.size) (fun e=>by have:=(l k e.symm).1;omega)).trans (hu.Ie k a q)
theorem Y.IE(g:S.p w.heap o r)(c:S.Gg B)(h:Y w o r S' w'):KeepsFrom B w w':=by
 obtain⟨j,m,_,hu⟩:=h;refine⟨hu.size,fun k l i a d=> ?_⟩;rw[hu.Ie k (sU.1 a).1 (fun e=> ?_)]
 ·exact a
 ·rcases c _ _ _ _ g (.inl e)with h|⟨cs,t,f,b⟩
  ·omega
  ·rw[b]at a;cases a;cases d
theorem Y.TR(h:Y w0 o0 r0 S w){D:Nat}{c:Obj}(j:S.Gg B)(i:B≤D)(b:w.heap[D]? =some c)(l:c.isCells=false)(g:w0.heap.size≤B):Y w0 o0 r0 (aa.obj D c*S) w:=by
 obtain⟨o,r,e,hu⟩:=h;have d:¬ (o D∨r D):=fun a=>by
  rcases j _ _ _ _ e a with h|⟨cs,t,f,h⟩
  ·omega
  ·rw[h]at b;cases b;cases l
 refine⟨fun k=>k=D∨o k,r,⟨fun k=>k=D,fun _=>False,o,r,⟨b,fun _=>aX,fun _ h=>h⟩,e,?_,?_,fun _=>aX,fun _=>by simp⟩,{hu with own:= ?_}⟩
 ·rintro k rfl a;exact d a
 ·rintro k a (rfl|h)
  ·exact d (.inl a)
  ·exact h
 ·rintro k (rfl|a)
  ·exact .inr (KT g i)
  ·exact hu.own k a
variable {F:Fence}{n:Nat}{P:Program}{fn:Func}{tmps:Array Value}{R:Ending→World→Prop}
theorem St:∀ (b:List Nat) (w:World),Y w0 o0 r0 (Ul b*C) w→(∀w',Y w0 o0 r0 C w'→∃v,(results fn tmps).run P w'= .ok v w'∧R (.returned v) w')→LeavesInM F n P fn tmps R (RO b) .returning w
 |[],w,h,a=>a w (h.le (KZ NZ QZ))
 |D::r,w,h,a=>by have c:Y w0 o0 r0 (aa.obj D (.deferred (some []))*(Ul r*C)) w:=h.le OZ;have hb:=c.obj (g:=D) (x:=.deferred (some []));have d:D<w.heap.size:=(sU.1 hb).1;refine⟨by simp,.inl ⟨D,_,rfl,run_takeDeferred hb,St r _ ?_ a⟩⟩;have f:=c.Ec (w':=w.putObj D (.deferred none)) (g:=D) (x:=.deferred (some [])) (y:=.deferred none) (World.putObj_heap_same d) rfl rfl rfl (by simp[World.putObj]) fun k _ e=>EY e;exact f.le (KZ NZ QZ)
theorem mw{c:Code}{Q:Exit→Act→World→Prop}{t:Array Value}{w:World}(I:Array Value→List Nat→World→Prop)(μ:Array Value→Nat)(g:I t [] w) (round:∀t d w,I t d w→c.wpIn F n P (Exit.then (fun b w'=>∃f,b.defers=RO f∧I b.tmps f w'∧μ b.tmps<μ t) Q) ⟨t,RO d⟩ w):(Code.loop c).wpIn F n P Q ⟨t,[]⟩ w:=by refine wpIn_loop (fun b w'=>∃d,b.defers=RO d∧I b.tmps d w') (fun b _=>μ b.tmps) ⟨[],rfl,g⟩ ?_;rintro⟨l,m⟩ w' ⟨d,rfl,k⟩;exact Code.wpIn_mono (fun e a w q=>by cases e<;>first|exact q|exact(let⟨f,h,i,j⟩:=q;⟨⟨f,h,i⟩,j⟩)) (round l d w' k)
end
abbrev o7:=@aa.Gg.star
end
section
open Go Go.RowKit Go.Shelf An Go.Proofs.Tryz
attribute [local go_sem] Oper.semAt_some
def XD(a b:Nat)(A B:World):Prop:=Below a A B∧∀k,b≤k→k<b+3→B.heap[k]? =A.heap[k]?
theorem XD.trans{a b:Nat}{A B C:World}(h:XD a b A B)(k:XD a b B C):XD a b A C:=⟨h.1.trans k.1,fun i c d=>(k.2 i c d).trans (h.2 i c d)⟩
theorem XD.put{a b:Nat}{w:World}(g:a≤w.heap.size)(i:b+3≤w.heap.size)(W:World)(l:Nat)(o c:Obj)(f:w.heap.size≤l)(h:W.heap[l]? =some o)(d:o.isCells=false)(e:o.isWalk=false):XD a b W (W.putObj l c):=⟨belowK_b g W l o c f h d e,fun k _ j=>EY (by omega)⟩
theorem XD.below{a b:Nat}{A B:World}(h:Below A.heap.size A B)(c:a≤A.heap.size)(d:b+3≤A.heap.size):XD a b A B:=⟨h.mono c,fun k _ e=>h.block k (by omega)⟩
theorem XD.cell{d b:Nat}{A B:World}(h:XD d b A B)(k:Nat)(a:b≤k)(c:k<b+3):B.cell? ⟨k,0,none⟩=A.cell? ⟨k,0,none⟩:=by simp only[World.cell?,h.2 k a c]
abbrev MR(m:Nat):Type:={x:Nat//x<m}
def XN{m:Nat}(x:MR m):Array Value:=#[Z x.1]
theorem aR{k:Nat}(h:k<65):65-(intOf (Z (wrap64 ((k:Int)+1)))).toNat<65-(intOf (Z (k:Int))).toNat:=by rw[UW _ (by omega)];simp only[intOf];omega
theorem WN(n:Nat)(hn:1≤n)(l b C h p m:Nat)(hh:h<18446744073709551616)(A:p≤64)(z:1≤m∧m≤1000000000)(J u:List (MR m)→World→Prop) (G:∀pre W c,J pre W→Below W.heap.size W c→J pre c) (hY:∀pre x W,J pre W→pre.length<64→YieldAt Fence.wide (n-1) prog l (XN x) W fun e c=>(e= .returned (.bool true)∧J (pre++[x]) c∧XD C b W c)∨(e= .returned (.bool false)∧u (pre++[x]) c)) (W:World) (M:b+3≤W.heap.size) (r:C≤W.heap.size) (x0:W.cell? ⟨b,0,none⟩=some (Pa h)) (x1:W.cell? ⟨b+1,0,none⟩=some (Z p)) (x2:W.cell? ⟨b+2,0,none⟩=some (Z m)) (S:J [] W):CallsIn Fence.wide n prog 306 #[.func (.yield l) #[] #[],.pointer (some ⟨b+1,0,none⟩),.pointer (some ⟨b,0,none⟩),.pointer (some ⟨b+2,0,none⟩)] W fun e c=>(∃v,e= .returned v)∧((∃ys:List (MR m),True∧J ys c)∨(∃pre:List (MR m),False∧u pre c)∨∃pre,u pre c):=by
 refine BZ func306 rfl trivial ?_ rfl;simp only[ntmps306,zV,UT,JU,Nat.reduceAdd,Nat.reduceSub,MW,NW,tX,YW,iV,TU];gi_wp2;gi_loopw [5] (fun i wr=>∃ (k:Nat) (pre:List (MR m)),i=Z k∧pre.length=k∧k≤64∧J pre wr∧XD C b W wr) (fun i _=>65-(intOf i).toNat);case atStart=>exact⟨0,[],rfl,rfl,by omega,S,mU _ _,fun _ _ _=>rfl⟩
 case round=>
  obtain⟨k,pre,rfl,H,I,o,g⟩:=hrel;have c0:wr.cell? ⟨b,0,none⟩=some (Pa h):=(g.cell b (by omega) (by omega)).trans x0;have c1:wr.cell? ⟨b+1,0,none⟩=some (Z p):=(g.cell (b+1) (by omega) (by omega)).trans x1;have c2:wr.cell? ⟨b+2,0,none⟩=some (Z m):=(g.cell (b+2) (by omega) (by omega)).trans x2;have s:=g.1.size;have a:min (p:Int) 64=p:=by omega
  have HM:=V a;by_cases f:k<p
  ·have t:=lD h k m hh (by omega) z;obtain⟨q,L⟩:∃q:MR m,q.1=Ip h k m:=⟨⟨_,Qx h k (by omega)⟩,rfl⟩;have B:=hY pre q;unfold XN at B;rw[L]at B;have y:decide ((k:Int)<min (p:Int) 64)=true:=by rw[a];simpa using f
   have hle:pre.length<64:=by omega
   have P:=V hle;have R:=V M;have Q:=V r;have E:=V s;have N:=V H;have j:=V f;have D:=V A;clear hh z a hle M r s H I f A L;gi_wp2;refine⟨trivial,?_⟩;refine(jZ.2 (t _)).mono ?_;rintro e w' ⟨rfl,d,rfl⟩;obtain⟨fn,tmps,assign,body,a1,X⟩:=B (wr.drewN d) (G _ _ _ o (below_drewN _ _)) P.out;gi_wp2;refine X.mono ?_;rintro e W3 (⟨rfl,F,K⟩|⟨rfl,w⟩)
   ·gi_wp2;go_roundw;case rel=>have T:=j.out;have U:=D.out;have e:=UW ((k:Int)+1) (by omega);exact⟨k+1,pre++[q],by rw[e];rfl,by rw[CT,N.out];rfl,by clear e;omega,F,(g.trans (XD.below (below_drewN _ _) (KT Q.out E.out) (KT R.out E.out))).trans K⟩
    case measure=>have T:=j.out;have U:=D.out;exact aR (by omega)
   ·gi_wp2;refine ZT (results_none rfl _ _ _) rfl ?_;exact⟨⟨_,rfl⟩,.inr (.inr ⟨_,w⟩)⟩
  ·have y:decide ((k:Int)<min (p:Int) 64)=false:=by rw[a];simpa using f
   clear a hh z A f;gi_wp2;go_end0;exact⟨⟨_,rfl⟩,.inl ⟨pre,trivial,o⟩⟩
theorem VN(n:Nat)(h p m:Int)(w:World):CallsIn Fence.wide n prog 301 #[Pa h,Z p,Z m] w fun e w'=>e= .returned (.func (.func 306) #[] #[.pointer (some ⟨w.heap.size+1,0,none⟩),.pointer (some ⟨w.heap.size,0,none⟩),.pointer (some ⟨w.heap.size+2,0,none⟩)])∧w'=((w.alloc (.cells #[Pa h] 23)).alloc (.cells #[Z p] 3)).alloc (.cells #[Z m] 3):=by refine BZ func301 rfl trivial ?_ rfl;simp only[ntmps301,zV,UT,JU,Nat.reduceAdd,Nat.reduceSub,MW,NW,tX,YW,iV,TU];gi_wp2;go_ret;exact⟨rfl,rfl⟩
theorem kE(n:Nat)(x:1≤n)(b d h p m:Nat)(hh:h<18446744073709551616)(y:p≤64)(v:1≤m∧m≤1000000000)(w:World)(z:b+3≤w.heap.size)(g:d≤w.heap.size) (A:w.cell? ⟨b,0,none⟩=some (Pa h)) (B:w.cell? ⟨b+1,0,none⟩=some (Z p)) (C:w.cell? ⟨b+2,0,none⟩=some (Z m)):SeqStopsK Fence.wide n prog 306 #[.pointer (some ⟨b+1,0,none⟩),.pointer (some ⟨b,0,none⟩),.pointer (some ⟨b+2,0,none⟩)] (XN (m:=m)) (XD d b) (fun _=>True) (fun _=>True) 64 w:=by
 intro l J i W c s _ t q;have D:=(c.cell (p:=⟨b,0,none⟩) (show b<_ by omega)).trans A;have E:=(c.cell (p:=⟨b+1,0,none⟩) (show b+1<_ by omega)).trans B;have F:=(c.cell (p:=⟨b+2,0,none⟩) (show b+2<_ by omega)).trans C;refine(WN n x l b d h p m hh y v J i (fun pre j o h hb=>s pre j o none h ⟨hb.os,hb.tape,hb.output,hb.size,fun k u _=>hb.block k u⟩ (fun r e=>by cases e)) t W (KT z c.size) (KT g c.size) D E F q).mono ?_;rintro e w' ⟨f,⟨G,_,a⟩|⟨pre,a,_⟩|⟨pre,a⟩⟩
 ·exact⟨f,.inl ⟨G,trivial,a⟩⟩
 ·exact a.elim
 ·exact⟨f,.inr ⟨pre,trivial,a⟩⟩
end
section
open Go Go.RowKit Go.Shelf An Go.Proofs.Tryz
attribute [local go_sem] Oper.semAt_some
def DR(n:Nat):List Value:=[Pa (n:Int)]
theorem vy(n:Nat):(DR n).length=1:=rfl
def Cp(l:List Nat):List Value:=l.flatMap DR
structure PB(m:Nat)(cs:Array Value):Prop where
 size:cs.size=m
 all:∀j,j<m→∃b:Nat,b<256∧cs[j]? =some (.int .u8 (b:Int))
theorem XJ(x y:Int):∃b:Nat,b<256∧bits BinOp.or IntKind.u8 x y=(b:Int):=by unfold bits;rw[IntKind.wrap_u8];generalize BitVec.toNat _=n;exact⟨n % 256,kY _ (by decide),by omega⟩
theorem PB.put{m:Nat}{cs:Array Value}(h:PB m cs)(i:Nat)(x y:Int):PB m (cs.setIfInBounds i (.int .u8 (bits BinOp.or IntKind.u8 x y))):=by
 refine⟨by rw[rW];exact h.size,fun j a=> ?_⟩;rw[qV];split
 ·obtain⟨b,hb,e⟩:=XJ x y;rw[JT (by rw[h.size];omega),e];exact⟨b,hb,rfl⟩
 ·exact h.all j a
def iQ(g b m:Nat):aa:=aa.ex fun cs:Array Value=>aa.pure (PB m cs)*(ba g 5 cs*ba b 152 #[O (some ⟨g,0,none⟩) m m])
theorem zI(g b m:Nat):(iQ g b m).mc:=aa.mc.ex fun _=>j9 (k9 _) (j9 (j8 _ _ _) (j8 _ _ _))
theorem xL(n:Nat)(f:n≤1000000)(w:World):∃cs:Array Value,PB n cs∧(Instr.makeSlice 152 (Z n) (Z n)).run prog w= .ok (O (some ⟨w.heap.size,0,none⟩) n n) (w.alloc (.cells cs 5)):=by obtain⟨i5,b,c,a,d⟩:=info_parts Ov;have h:=Go.run_makeSlice (P:=prog) (w:=w) 152 5 i5 _ underlying152 b c .i64 .i64 n n (by omega) (MY _) (by rw[a];omega) (by rw[d];omega) (by omega);simp only[gV]at h;refine⟨_,⟨by rw[size_madeCells,a,wU],fun j e=>⟨0,by decide,?_⟩⟩,h⟩;rw[a,wU,←EW];show(madeCells #[.int .u8 0] n).toList[j]? =_;rw[toList_madeCells_one,List.getElem?_replicate,JT e];rfl
end
section
open Go Go.RowKit
def gu:Op→Bool
 |.move _|.assign _|.load _ _|.store _ _ _|.binOp _ _ _ _ _|.indexAddr _ _ _=>true
 |_=>false
theorem mF{o:Oper}(h:gu o.op=true)(ρ:Operand→Value){P:Program}{w w':World}{x:Next}(b:(execOp ρ o).run P w= .ok x w'):(∃v,x= .value v)∨x= .skip:=by
 have key:∀ {α:Type} (s:Sem α) (f:α→Next),(∀a,(∃v,f a= .value v)∨f a= .skip)→((do let y←s;pure (f y):Sem Next)).run P w= .ok x w'→(∃v,x= .value v)∨x= .skip:=fun s f d e=>by
  rw[wW]at e;cases c:s.run P w with
  |ok y i=>rw[c]at e;simp only[GV,YV,Result.ok.injEq]at e;exact e.1▸d y
  |halt y i=>rw[c]at e;cases e
 unfold execOp at b;cases g:o.op<;>rw[g]at h b<;>first|(cases h;done)|skip
 ·simp only[YV,Result.ok.injEq]at b;exact .inl ⟨_,b.1.symm⟩
 ·simp only[YV,Result.ok.injEq]at b;exact .inl ⟨_,b.1.symm⟩
 ·exact key _ (fun y=> .value y) (fun a=> .inl ⟨a,rfl⟩) b
 ·exact key _ (fun _=> .skip) (fun _=> .inr rfl) b
 ·exact key _ (fun y=> .value y) (fun a=> .inl ⟨a,rfl⟩) b
 ·exact key _ (fun y=> .value y) (fun a=> .inl ⟨a,rfl⟩) b
section
variable {F:Fence}{n:Nat}{P:Program}{md:Region.Mode}{ops:Array Oper}{Q:Exit→Act→World→Prop}
theorem Wv{o:Oper}(h:gu o.op=true)(ρ:Operand→Value)(w:World):o.about P w ρ=none:=by unfold Oper.about;cases a:o.op<;>rw[a]at h<;>first|rfl|(cases h;done)
theorem oF{o:Oper}(h:gu o.op=true){a:Act}{w:World}{K:Act→World→Prop}(b:o.wp P a w K Q):o.wpIn F n P a w K Q:=by
 refine⟨fun f g=>(by rw[Wv h]at g;cases g),?_⟩;rw[Oper.semAt_eq F.round a.eval o (fun c e=>by rw[e]at h;cases h)];unfold Oper.wp at b;cases d:(execOp a.eval o).run P w with
 |ok x w'=>
  rw[d]at b;rcases mF h a.eval d with⟨v,rfl⟩|rfl
  ·exact b
  ·exact b
 |halt x w'=>rw[d]at b;cases x<;>first|exact b|exact b.elim
theorem Zh(d:¬LetsOut Q)(c:∀ (i:Nat) (o:Oper),ops[i]? =some o→gu o.op=true):∀ (fuel:Nat) (listed:Array Bool) (a:Act) (w:World),wpAny P md ops Q fuel listed a w→wpAnyIn F n P md ops Q fuel listed a w
 |0,_,_,_,h=>h
 |fuel+1,listed,a,w,h=>by
  refine⟨h.1,fun i hi=> ?_⟩;have b:=h.2 i hi;unfold wpOp at b;unfold wpOpIn;cases e:ops[i]? with
  |none=>rw[e]at b;exact Zh d c fuel _ _ _ b
  |some o=>
   rw[e]at b;dsimp only at b⊢;have j:=c i o e;split at b
   ·rename_i hw;rw[JT hw];exact oF j (Oper.wp_mono (fun a w=>Zh d c fuel _ a w) (b.resolve_right fun h=>d h.2))
   ·rename_i hw;rw[DT hw];exact⟨fun f g=>(by rw[Wv j]at g;cases g),Zh d c fuel _ _ _ b⟩
theorem Du{p:Nat}{a:Act}{w:World}{l:List Oper}(c b tl:List Nat)(m:P.follows .mixedOrders=true)(k:GI .any l.toArray c b tl=true)(g:l.all (fun o=>gu o.op)=true) (h:wpQuiet P l.toArray (fun w'=>∃n,w'=w.drewN n) (fun j=>∀w',(∃n,w'=w.drewN n)→wpList P l.toArray (fun e a w=>e= .normal∧Q .normal a w) (tl.filterMap (l[·]?)) j w') (b.filterMap (l[·]?)) (Ub (c.filterMap (l[·]?)) a)):(Code.region p l.toArray true).wpIn F n P Q a w:=by
 have d:¬LetsOut (fun e a w=>e= .normal∧Q .normal a w):=fun⟨_,_,h,_⟩=>(by cases h);refine wpIn_mono (Q:=fun e a w=>e= .normal∧Q .normal a w) (wpIn_region_any m (Zh d (fun i o f=> ?_) _ _ _ _ (gA (C:=fun w'=>∃n,w'=w.drewN n) c b tl k ⟨1,rfl⟩ (fun _ _ _ _ _ ⟨h,_⟩=>by cases h) (by simpa using h)))) ?_
 ·simp only[List.getElem?_toArray]at f;exact GU.1 g _ (AV f)
 ·rintro e a w ⟨rfl,h⟩;exact h
end
end
section
open Go Go.RowKit Go.Shelf An Go.Proofs.Tryz
attribute [local go_sem] Oper.semAt_some
theorem jE{m:Nat}{cs:Array Value}(h:PB m cs):∃bs:Bs,bs.length=m∧∀j (a:j<bs.length),cs[j]? =some (.int .u8 (bs[j].toNat:Int)):=by refine⟨(List.range m).map fun j=>UInt8.ofNat (match cs[j]? with|some (Value.int _ z)=>z.toNat|_=>0),by simp,fun j a=> ?_⟩;rw[zU,YX]at a;obtain⟨b,hb,e⟩:=h.all j a;simp only[List.getElem_map,List.getElem_range,e,gV];rw[UInt8.toNat_ofNat_of_lt' (by simpa using hb)]
theorem bK(A:Option Addr)(c:Nat)(l:List Nat)(hl:l.length≤1000000000)(hh:∀x∈l,x<18446744073709551616)(p m N:Nat)(hp:p≤64)(hm:1≤m∧m≤125000)(hN:N=8*m):Tr prog 294 #[O A l.length c,Z p,Z N] (Ba 1 (O A l.length c) l.length (Cp l)) (fun s:Bs=>Ha s) (fun s=>aa.pure (s.length=m)*Ba 1 (O A l.length c) l.length (Cp l)):=by
 intro w o r h0;have I:=TZ h0;have hO:∀k,¬o k:=h0.1;obtain⟨d,a,bn⟩:=xL m (by omega) w;have I1:=(I.Wa (.cells d 5) w.heap.size rfl).Wa (.cells #[O none 0 0] 152) (w.heap.size+1) (dc rfl);have f0:=I1.free (w.heap.size+1) 0;have e0:decide ((N:Int)<1)=false:=yU (by omega);have e1:decide ((N:Int)>1000000)=false:=yU (by omega);have e2:Int.tmod (N:Int) 8=0:=by rw[cV (by omega)];omega
 have e3:Int.tdiv (N:Int) 8=(m:Int):=by rw[PV (by omega)];omega
 have e4:(N:Int)/8=(m:Int):=by omega
 have e5:IntKind.i64.wrap (m:Int)=(m:Int):=RT _ (by omega);have HN:=V hN;have HM:=V hm;have HH:=V hh;clear hh hN hm h0;refine(jZ (n:=5)).1 ?_;refine callsIn_of_wp_marks func294 rfl trivial ?_ rfl;simp only[ntmps294,zV,UT,JU,Nat.reduceAdd,Nat.reduceSub,MW,NW,tX,YW,iV,TU];gi_wp2;have I2:=(I1.ra (w.heap.size+1) 0 (O (some ⟨w.heap.size,0,none⟩) m m) #[O (some ⟨w.heap.size,0,none⟩) m m]);have ak:((w.alloc (.cells d 5)).alloc (.cells #[O none 0 0] 152)).setCell ⟨w.heap.size+1,0,none⟩ (O (some ⟨w.heap.size,0,none⟩) m m)=(w.alloc (.cells d 5)).alloc (.cells #[O (some ⟨w.heap.size,0,none⟩) m m] 152):=by simp[go_sem]
 rw[ak]at I2;have a8:w.heap.size+1<((w.alloc (.cells d 5)).alloc (.cells #[O (some ⟨w.heap.size,0,none⟩) m m] 152)).heap.size:=by simp
 generalize(w.alloc (.cells d 5)).alloc (.cells #[O (some ⟨w.heap.size,0,none⟩) m m] 152)=W0 at*;have J0:Y w o r (Ul []*(iQ w.heap.size (w.heap.size+1) m*Ba 1 (O A l.length c) l.length (Cp l))) W0:=by have I3:=I2.ya (A:=ba w.heap.size 5 d*ba (w.heap.size+1) 152 #[O (some ⟨w.heap.size,0,none⟩) m m]*Ba 1 (O A l.length c) l.length (Cp l));exact I3.le (KZ (MZ (KZ (RZ a) (SZ (A:=fun cs:Array Value=>aa.pure (PB m cs)*(ba w.heap.size 5 cs*ba (w.heap.size+1) 152 #[O (some ⟨w.heap.size,0,none⟩) m m])) d)) (JZ _)) (RZ trivial))
 clear I I1 I2 ak a bn f0;refine mw (fun t f W=>∃ (k:Nat) (x9 al an aq av aM b0 b5 M:Value),k≤l.length∧(∀D∈f,D<W.heap.size)∧w.heap.size+1<W.heap.size∧t=#[O A l.length c,Z p,Z N,undef,undef,undef,.string ⟨#[]⟩,.pointer (some ⟨w.heap.size+1,0,none⟩),undef,x9,undef,Z N,.bool false,.bool false,Z N,.bool false,.bool false,.bool false,Z N,Z 0,.bool false,.bool false,Z N,Z m,O (some ⟨w.heap.size,0,none⟩) m m,O A l.length c,Z l.length,Z k,al,an,aq,av,aM,b0,b5,undef,undef,undef,undef,undef,undef,undef,undef,undef,undef,undef,M,undef,undef]∧Y w o r (Ul f*(iQ w.heap.size (w.heap.size+1) m*Ba 1 (O A l.length c) l.length (Cp l))) W) (fun t=>l.length-(intOf (t.getD 27 undef)).toNat) ⟨0,_,_,_,_,_,_,_,_,_,WT _,(fun _ h=>(nV h).elim),a8,rfl,J0⟩ ?_;rintro t f W ⟨k,x9,al,an,aq,av,aM,b0,b5,M,hk,hD,R,rfl,J⟩;clear J0 a8;by_cases a6:k<l.length
 ·obtain⟨g,off,rfl,_,X,_⟩:=J.we A c l vy k a6 (by decide);have c0:=X _ rfl;rw[wU]at c0;have hx:=HH.out _ (XT a6);have bm:(k:Int)<(l.length:Int):=by omega
  generalize l[k]=h at*;clear X;gi_wp2;refine⟨trivial,?_⟩;refine(VN _ h p N _).mono ?_;rintro e w' ⟨rfl,rfl⟩;gi_wp2;have i:=((J.Wa (.cells #[Pa h] 23) W.heap.size rfl).Wa (.cells #[Z p] 3) (W.heap.size+1) (dc rfl)).Wa (.cells #[Z N] 3) (W.heap.size+2) (dc (dc rfl));have y0:=i.cells W.heap.size 0;have y1:=i.cells (W.heap.size+1) 0;have y2:=i.cells (W.heap.size+2) 0;have C:(((W.alloc (.cells #[Pa h] 23)).alloc (.cells #[Z p] 3)).alloc (.cells #[Z N] 3)).heap.size=W.heap.size+3:=by simp
  generalize((W.alloc (.cells #[Pa h] 23)).alloc (.cells #[Z p] 3)).alloc (.cells #[Z N] 3)=L at*;obtain⟨B,hB⟩:∃B,W.heap.size=B:=⟨_,rfl⟩;rw[hB]at i y0 y1 y2 C hD R⊢;obtain⟨g0,a1⟩:∃g0,w.heap.size=g0:=⟨_,rfl⟩;rw[a1]at i R⊢;obtain⟨v,H⟩:∃v,Ba 1 (O (some ⟨g,off,none⟩) l.length c) l.length (Cp l)=v:=⟨_,rfl⟩;have bc:v.mc:=H▸aa.mc.sl _ _ _ _;rw[H]at i;have F:(ba (B+2) 3 #[Z N]*(ba (B+1) 3 #[Z p]*(ba B 23 #[Pa h]*(Ul f*(iQ g0 (g0+1) m*v))))).Gg (B+3):=o7 ((j8 _ _ _).b _) (o7 ((j8 _ _ _).b _) (o7 ((j8 _ _ _).b _) (o7 (IG fun D h=>aV (hD D h) (UY _ _)) (o7 ((zI _ _ _).b _) (bc.b _)))));have S:1≤N∧N≤1000000000:=by have:=HN.out;have:=HM.out;omega
  clear J c0;refine wpIn_rangeFunc_ownG rfl (by decide) (gf:=306) (lb:=#[.pointer (some ⟨B+1,0,none⟩),.pointer (some ⟨B,0,none⟩),.pointer (some ⟨B+2,0,none⟩)]) rfl trivial (enters_of func306 (by kernel_rfl) rfl) (kE 4 (by decide) B g0 h p N hx hp S L (by omega) (by omega) y0 y1 y2) XD.trans (XD.put (by omega) (by omega)) (mU _ _) (fun _=>rfl) (fun _ W'=>Y w o r (ba (B+2) 3 #[Z N]*(ba (B+1) 3 #[Z p]*(ba B 23 #[Pa h]*(Ul f*(iQ g0 (g0+1) m*v))))) W') (fun _ _ _=>False) (Y.XL (fun _=>C▸F) w o r (by omega)) (fun _ _ _ _ _ R _ _=>R) i (fun q=>{tmps:=#[O (some ⟨g,off,none⟩) l.length c,Z p,Z N,undef,undef,undef,.string ⟨#[]⟩,.pointer (some ⟨g0+1,0,none⟩),undef,Pa h,Z q.1,Z N,.bool false,.bool false,Z N,.bool false,.bool false,.bool false,Z N,Z 0,.bool false,.bool false,Z N,Z m,O (some ⟨g0,0,none⟩) m m,O (some ⟨g,off,none⟩) l.length c,Z l.length,Z k,.bool true,.pointer (some ⟨g,off+k,none⟩),Pa h,Pa h,Z p,Z N,.func (.func 306) #[] #[.pointer (some ⟨B+1,0,none⟩),.pointer (some ⟨B,0,none⟩),.pointer (some ⟨B+2,0,none⟩)],Z q.1,undef,undef,undef,undef,undef,undef,undef,undef,undef,undef,M,undef,undef],defers:=[]}) ?assign ?body ?done ?stop;case assign=>intro l x W K G;unfold XN;gi_wp2;exact G
  case body=>
   rintro l2 pre ⟨x,cf⟩ W2 ⟨o2,r2,a7,aj⟩ _;have K:=TZ a7;unfold iQ at K;obtain⟨cs,P⟩:=K.ex;obtain⟨a,u⟩:=P.pure;obtain⟨q,hq⟩:∃q,x/8=q:=⟨_,rfl⟩;obtain⟨z,hr⟩:∃z,x % 8=z:=⟨_,rfl⟩;have bt:q<m:=by have:=HN.out;omega
   obtain⟨y,hy,c1⟩:=a.all q bt;have d0:=u.cells (g0+1) 0;have d1:W2.cell? ⟨g0,q,none⟩=some (.int .u8 y):=(u.cells g0 q).trans c1;have d2:=u.free g0 q;have q1:Int.tdiv (x:Int) 8=(q:Int):=by rw[PV (by omega)];omega
   have q2:(x:Int)/8=(q:Int):=by omega
   have q3:Int.tmod (x:Int) 8=(z:Int):=by rw[cV (by omega)];omega
   have q4:IntKind.i64.wrap (q:Int)=(q:Int):=RT _ (by omega);have cb:z<8:=by omega
   have ca:(q:Int)<(m:Int):=by omega
   clear hq hr S y0 y1 y2 i;gi_wp2;refine Du [1,5] [0,2,3,4,6,7,8] [9,10] (by kernel_rfl) (by kernel_rfl) (by kernel_rfl) ?_;simp only[QT,VT,MT,NT];dsimp only[Ub];go_simp;repeat (quiet_step (fail))
   refine fU ?_;first|(rintro _ ⟨nq,rfl⟩)|(intro nq)
   go_wp2_with fail;have E:=(u.drewN nq).ra g0 q (.int .u8 (bits BinOp.or IntKind.u8 (y:Int) (2^z % 256))) (cs.setIfInBounds q (.int .u8 (bits BinOp.or IntKind.u8 (y:Int) (2^z % 256))));refine⟨Y.IE a7 (C▸F) E,⟨aj.UJ (by omega) (fun k _=>hO k) E,fun k Q h2=> ?_⟩,UZ aj ?_⟩
   ·have bf:k=B∨k=B+1∨k=B+2:=by omega
    rcases bf with rfl|rfl|rfl
    ·exact(E.wm k).trans (K.wm k).symm
    ·exact(E.wm (B+1)).trans (K.wm (B+1)).symm
    ·exact(E.wm (B+2)).trans (K.wm (B+2)).symm
   ·exact(E.ya (A:=ba (B+2) 3 #[Z N]*(ba (B+1) 3 #[Z p]*(ba B 23 #[Pa h]*(Ul f*(ba g0 5 (cs.setIfInBounds q (.int .u8 (bits BinOp.or IntKind.u8 (y:Int) (2^z % 256))))*ba (g0+1) 152 #[O (some ⟨g0,0,none⟩) m m]*v)))))).le (MZ (JZ _) (MZ (JZ _) (MZ (JZ _) (MZ (JZ _) (MZ (KZ (RZ (a.put q _ _)) (SZ (A:=fun cs:Array Value=>aa.pure (PB m cs)*(ba g0 5 cs*ba (g0+1) 152 #[O (some ⟨g0,0,none⟩) m m])) _)) (JZ _))))))
  case done=>
   rintro D ys W2 b7 _ J2 G;gi_wp2;have J3:=J2.TR (C▸F) b7 G rfl (by omega);have cc:B+3≤W2.heap.size:=by have Q:=(sU.1 G).1;have h2:=(J2.wm (B+2));have h3:=(sU.1 h2).1;omega
   have b9:=(sU.1 G).1;rw[a1,H];refine⟨D::f,rfl,⟨k+1,_,_,_,_,_,_,_,_,_,by omega,?_,by omega,rfl,J3.ya (A:=(aa.obj D (.deferred (some []))*Ul f)*(iQ g0 (g0+1) m*v))⟩,?_⟩
   ·intro D' b6;rcases dU.1 b6 with rfl|h
    ·exact b9
    ·have:=hD D' h;omega
   ·show l.length-((k:Int)+1).toNat<l.length-((k:Int)).toNat;omega
  case stop=>rintro D c pre W _ _ h _;exact h.elim
 ·have bm:¬ ((k:Int)<(l.length:Int)):=by omega
  unfold iQ at J;obtain⟨cs,P⟩:=J.ex;obtain⟨a,u⟩:=P.pure;have d0:=u.cells (w.heap.size+1) 0;obtain⟨bs,U,T⟩:=jE a;have c9:(convert 152 9 (O (some ⟨w.heap.size,0,none⟩) m m)).run prog W= .ok (Ha bs) W:=by
   have Q:=MV W 152 9 5 ⟨w.heap.size,0,none⟩ m bs underlying152 underlying5 underlying9 fun j hj=>by rw[CV,BU];exact(u.cells w.heap.size j).trans (T j hj)
   rw[U]at Q;exact Q
  clear J P T a;gi_wp2;refine St f W (u.ya (A:=Ul f*Ba 1 (O A l.length c) l.length (Cp l))) fun w' hC=>⟨_,by simp[results,results294,go_sem],bs,rfl,hC.le (RZ U)⟩
end
section
open Go Go.RowKit An Go.ChangeShapes Go.WideShapes Go.ChangeAt Go.Proofs.Tryz
def hb(k:Nat):Nat:=4607182418800017408-k*4503599627370496
theorem JQ:∀k,k<17→floatBits .quo .f64 (hb k) 4611686018427387904=some (hb (k+1)):=by decide+kernel
def eR(x:Nat):Bool:=FloatKind.f64.format.order x x !=some .eq
def PR(a b:Nat):Bool:=FloatKind.f64.format.order a b==some .lt||FloatKind.f64.format.order a b==some .eq
def pr(x:Nat):Nat→Nat→Nat
 |k,0=>k
 |k,n+1=>if PR (hb (k+1)) x=true then k+1 else pr x (k+1) n
def kD(x:Nat):Nat:=if eR x=true then 4 else pr x 0 16
theorem eM(x k n:Nat):k≤pr x k n∧pr x k n≤k+n:=by
 induction n generalizing k with
 |zero=>simp[pr]
 |succ n a=>
  unfold pr;split
  ·omega
  ·have:=a (k+1);omega
theorem pF(x:Nat):1≤kD x∧kD x≤16:=by
 unfold kD;split
 ·omega
 ·unfold pr;split
  ·omega
  ·have:=eM x 1 15;omega
theorem dR(x:Nat):Pq prog 298 #[.float .f64 x] (.bool (eR x)):=by intro w;go_enter func298,ntmps298;go_wp2;go_ret;exact⟨rfl,0,rfl⟩
theorem TQ{a b:Nat}(h:(FloatKind.f64.format.order a b==some Ordering.lt)=true∨(FloatKind.f64.format.order a b==some Ordering.eq)=true):PR a b=true:=by unfold PR;rcases h with h|h<;>simp[h]
theorem nS{a b:Nat}(h:(FloatKind.f64.format.order a b==some Ordering.lt)=false∧(FloatKind.f64.format.order a b==some Ordering.eq)=false):PR a b=false:=by unfold PR;rw[h.1,h.2];rfl
theorem iP(x k n:Nat):pr x k (n+1)=if PR (hb (k+1)) x=true then k+1 else pr x (k+1) n:=rfl
theorem SI(x:Nat):Pq prog 291 #[.float .f64 x] (Z (kD x:Nat)):=by
 intro w;have t:=dR x;cases c:eR x with
 |true=>rw[c]at t;go_enter func291,ntmps291;go_wp2_with fail;go_step3;go_wp2_with (go_at_call 298;refine(t _).mono ?_;rintro e w' ⟨rfl,m,rfl⟩);rw[SV];go_ret;exact⟨by unfold kD;rw[c];rfl,_,rfl⟩
 |false=>
  rw[c]at t;go_enter func291,ntmps291;go_wp2_with fail;go_step3;go_wp2_with (go_at_call 298;refine(t _).mono ?_;rintro e w' ⟨rfl,m,rfl⟩);go_step3;go_wp2_with fail;go_loop [3,4] (fun h i=>∃k:Nat,k≤16∧i=Z k∧h= .float .f64 (hb k)∧pr x k (16-k)=pr x 0 16) (fun _ i=>16-(intOf i).toNat);case atStart=>exact⟨0,by omega,rfl,rfl,rfl⟩
  case round=>
   obtain⟨k,o,rfl,rfl,a⟩:=hrel;by_cases n:k<16
   ·have j:=JQ k (by omega);have f:∀w,(binOp .quo 24 (.float .f64 (hb k)) (.float .f64 4611686018427387904)).run prog w= .ok (.float .f64 (hb (k+1))) w:=fun w=>run_float_arith w .quo 24 .f64 _ _ _ j;have b:=iP x k (16-k-1);rw[show 16-k-1+1=16-k by omega,a]at b;generalize hh:hb (k+1)=H at f b;have l:=V hh;have d:=V b;clear j hh b a;go_wp2_with fail
    ·have hle:=TQ (by assumption);go_ret;refine⟨?_,m,rfl⟩;have h:=d.out;rw[JT hle]at h;unfold kD;rw[c,DT (by simp),h];rfl
    ·have hle:=nS (by assumption);go_round;case rel=>refine⟨k+1,by omega,by go_num,by rw[l.out],?_⟩;have h:=d.out;rw[DT (by simp[hle])]at h;rw[h,show 16-(k+1)=16-k-1 by omega]
     case measure=>simp[intOf];omega
   ·obtain rfl:k=16:=by omega
    have g:=V a;clear a;go_wp2;go_ret;refine⟨?_,m,rfl⟩;unfold kD;rw[c,DT (by simp),←g.out];rfl
end
section
open Go Go.RowKit Go.Shelf An Go.Proofs.Tryz
theorem sn{B b:Nat}{p:Value}{bs:List Value}{w w':World}(h:Lib.BuilderAt 342 5 B b p bs w)(a:Below w.heap.size w w'):Lib.BuilderAt 342 5 B b p bs w':=by have c:=h.lt;obtain⟨d,v,e,f,g⟩:=h;exact⟨d,v,(a.block b c).trans e,f.kept (row:=none) ⟨a.os,a.tape,a.output,a.size,fun k i _=>a.block k i⟩ (Decidable.em _),g⟩
theorem iI{B b:Nat}{bs:List Value}{w w':World}(h:Lib.IsBuilder 342 5 B b bs w)(a:Below w.heap.size w w'):Lib.IsBuilder 342 5 B b bs w':=h.imp (fun h=>sn h a) fun h=>sn h a
theorem zS(s:Bs):Lib.strCells (mk s)=Lib.byteCells s:=rfl
theorem JH(a b:Bs):Lib.byteCells a++Lib.byteCells b=Lib.byteCells (a++b):=by simp[Lib.byteCells]
theorem gP(s:Bs)(l m:Nat)(M:s.length=60*m)(L:1≤m∧m≤500)(D:1≤l∧l≤16)(w:World):Calls prog 293 #[Ha s,Z l] w fun e w'=>∃out:Bs,e= .returned (Ha out)∧out.length=64+64*m∧Below w.heap.size w w':=by
 have t1:=aH s.length l (by omega) (by omega);rw[Bk.2 ⟨by omega,by omega,by omega,D.1,D.2⟩]at t1;have t2:=iD s.length l (by omega) (by omega);have hF:=V (fun w=>Lib.fresh_isBuilder 342 5 w);have y:=MI s.length l;generalize Qr s.length l=C at*;have G:=V M;have HM:=V L;have B:=V y;have hlen:s.length≤100000:=by omega
 generalize T:s.length=n at*;clear L D y M;go_enter func293,ntmps293;go_wp2_with fail;refine(t1 _).mono ?_;rintro e w1 ⟨rfl,d,rfl⟩;have F:Lib.IsBuilder 342 5 w.heap.size w.heap.size [] ((w.drewN d).alloc (.cells #[.pointer none,O none 0 0] 342)):=hF.out (w.drewN d);have v:Below w.heap.size w ((w.drewN d).alloc (.cells #[.pointer none,O none 0 0] 342)):=(below_drewN w d).alloc (FT _) _;have g:=V F;have q:=V v;clear F v hF;go_wp2_with fail;generalize(w.drewN d).alloc (.cells #[.pointer none,O none 0 0] 342)=Q at*;generalize J:w.heap.size=b at*;refine(t2 _).mono ?_;rintro e w2 ⟨rfl,f⟩;have p:=iI g.out f;have A:b≤Q.heap.size:=by have:=q.out.size;omega
 have c:Below b w w2:=q.out.trans (f.mono A);have t:=Tryz.Builder_WriteString b b [] (mk C) w2 p (by rw[JU,Ph,B.out];omega) (by have:=c.size;omega);have h:=V c;clear f p c g q A;go_wp2_with fail;refine t.mono ?_;rintro e N ⟨rfl,i,c⟩;rw[iV,zS]at i;have o:Hid (Lib.BuilderAt 342 5 b b (.pointer (some ⟨b,0,none⟩)) (Lib.byteCells C) N∧Below b w N):=V ⟨i,h.out.trans c⟩;clear i c h t;go_wp2_with fail;go_loopw [6] (fun x wr=>∃ (k a:Nat) (out:Bs),Hid (a=60*k∧out.length=64+64*k)∧a≤n∧x=Z a∧Hid (Lib.BuilderAt 342 5 b b (.pointer (some ⟨b,0,none⟩)) (Lib.byteCells out) wr∧Below b w wr)) (fun x _=>n-(intOf x).toNat);case atStart=>exact⟨0,0,C,V ⟨rfl,B.out⟩,WT _,rfl,o⟩
 case round=>
  obtain⟨k,a,out,j,ha,rfl,g⟩:=hrel;clear o t1 t2 B;by_cases X:a<n
  ·have H:(a:Int)<(n:Int):=by omega
   have R:=j.out;have S:=G.out;have a1:IntKind.i64.wrap ((a:Int)+60)=(a:Int)+60:=RT _ (by omega);have I:a+60≤n:=by omega
   have S1:∀w,(Instr.slice 9 (Ha s) (some (Z (a:Int))) (some (Z ((a:Int)+60))) none).run prog w= .ok (Ha ((s.drop a).take 60)) w:=Vh (by omega) (by congr 2<;>omega);have z:((s.drop a).take 60).length=60:=by rw[OT,cU,T];omega
   have t3:=nr ((s.drop a).take 60) (by omega);have r:=rj ((s.drop a).take 60);rw[z]at r;have u:=V r;generalize(s.drop a).take 60=U at*;generalize Qg U=sp at*;clear z r R S;go_wp2_with fail;refine(t3 _).mono ?_;rintro e E ⟨rfl,f⟩;have p:=sn g.out.1 f;have c:Below b w E:=g.out.2.trans (f.mono (by have:=g.out.2.size;omega));have t:=Tryz.Builder_WriteString b b (Lib.byteCells out) (mk sp) E (.inr p) (by rw[Lib.byteCells_length,Ph,u.out,j.out.2];have:=j.out.1;omega) (by have:=c.size;omega);have h:=V c;clear f p c g;go_wp2_with fail;refine t.mono ?_;rintro e P ⟨rfl,i,c⟩;rw[zS,JH]at i;have o:Hid (Lib.BuilderAt 342 5 b b (.pointer (some ⟨b,0,none⟩)) (Lib.byteCells (out++sp)) P∧Below b w P):=V ⟨i,h.out.trans c⟩;clear i c h t;go_wp2;go_roundw;case rel=>exact⟨k+1,a+60,out++sp,V ⟨by have:=j.out.1;omega,by rw[CT,u.out,j.out.2];omega⟩,I,by go_num,o⟩
   case measure=>simp[intOf];omega
  ·have H:¬ ((a:Int)<(n:Int)):=by omega
   have K:k=m:=by have:=j.out.1;have:=G.out;omega
   have W:=Tryz.Builder_String_any b b out wr (.inr g.out.1) (by have:=g.out.2.size;omega);go_wp2_with fail;refine W.mono ?_;rintro e E ⟨rfl,f⟩;go_wp2;go_ret;exact⟨out,rfl,by rw[j.out.2,K],by rw[J];exact g.out.2.trans f⟩
end
section
open Go.RowKit An Go.ChangeShapes Go.WideShapes Go.ChangeAt Go.Proofs.Tryz
theorem OQ:(prog.info? 23).map (fun i=>(i.zero,i.size,i.bytes))=some (some (Pa 0),1,8):=by kernel_rfl
theorem UM(l:List Nat):(Cp l).length=l.length:=by rw[Cp,zg vy,wU]
theorem oJ(l:List Nat)(x:Nat):Cp (l++[x])=Cp l++[Pa (x:Int)]:=by simp[Cp,DR]
theorem QP(l:List Nat)(i:Nat)(h:i<l.length):(Cp l)[i]? =some (Pa (l[i]:Int)):=by have:=vh vy l i 0 h (by decide);rw[wU,lX]at this;exact this
def lR(n p:Nat):Nat:=max 1 ((min n 10000*p*3/2+479)/480)
theorem mR{n p:Nat}(a:p≤16):1≤lR n p∧lR n p≤500:=by have h:min n 10000*p≤10000*16:=Nat.mul_le_mul (dX _ _) a;unfold lR;omega
theorem ZL{n p N:Nat}(b:p≤16)(a:n≤N):64+64*lR n p≤qe N:=by have h:min n 10000*p≤N*16:=Nat.mul_le_mul (KT (Nat.min_le_left _ _) a) b;unfold lR qe;omega
theorem iS:Dl:=by
 intro v l rate hl hE w o r C;have I:=TZ C;obtain⟨_,A,c,rfl,_⟩:=I.sl v;obtain⟨i0,hi,T,U,X⟩:=info_parts OQ;have I0:Y w o r (ua 23 1 (O none 0 0) ([]:List Nat).length (Cp [])*Fg A l c) w:=I.le (KZ (RZ trivial) (MZ (j0 23 1) (JZ _)));have HE:=V hE;have t1:=SI rate;obtain⟨p,hp⟩:∃p,kD rate=p:=⟨_,rfl⟩;have b:=pF rate;rw[hp]at t1 b;have HP:=V b;clear C I hE hp b;go_enter func273,ntmps273;go_wp2_with fail;go_loopw [5,12] (fun v x wr=>∃ (k:Nat) (q:Option Addr) (d:Nat) (a:List Nat),k≤l.length∧x=Z k∧v=O q a.length d∧a.length≤k∧Hid (∀h∈a,h<18446744073709551616)∧Y w o r (ua 23 1 (O q a.length d) a.length (Cp a)*Fg A l c) wr) (fun _ x _=>l.length-(intOf x).toNat);case atStart=>exact⟨0,none,0,[],WT _,rfl,rfl,FT _,V (fun _ h=>(nV h).elim),I0⟩
 case round=>
  obtain⟨k,q,d,a,hk,rfl,rfl,G,HH,J⟩:=hrel;clear I0;by_cases S:k<l.length
  ·obtain⟨g,off,rfl,_,M,hc⟩:=J.we A c l Ld k S (by decide);have d0:=M _ rfl;have d1:=hc 1 _ rfl;have d2:=hc 2 _ rfl;have Q:=(HE.out _ (XT S)).Qa;have HY:=V Q;have al:(k:Int)<(l.length:Int):=by omega
   clear hc M Q;generalize l[k]=y at*;have Qe:∀ (W:World) (i:Option Addr) (c':Nat),Y w o r (ua 23 1 (O i (a.length+1) c') (a.length+1) (Cp a++[Pa (y.Qa:Int)])*Fg (some ⟨g,off,none⟩) l c) W→Y w o r (ua 23 1 (O i (a++[y.Qa]).length c') (a++[y.Qa]).length (Cp (a++[y.Qa]))*Fg (some ⟨g,off,none⟩) l c) W:=fun W i c' h=>by
    have e:(a++[y.Qa]).length=a.length+1:=by simp
    rw[e,oJ];exact h
   have HS:=V Qe;clear Qe;have D:=J.Wa (.cells #[Pa y.Qa,Z y.Qb,Z y.pos] 126) wr.heap.size rfl;have x0:=D.cells wr.heap.size 0;have L:a.length+1≤1000000000:=by omega
   have K:Hid (∀h∈a++[y.Qa],h<18446744073709551616):=V fun h hm=>by
    rcases oU.1 hm with hm|hm
    ·exact HH.out h hm
    ·rw[lU.1 hm];exact HY.out
   by_cases C:a.length=0
   ·have e0:((a.length:Int)==0)=true:=by rw[C];rfl
    clear C;go_upto_region 5 with(fail);generalize wr.alloc (.cells #[Pa y.Qa,Z y.Qb,Z y.pos] 126)=W1 at*;generalize wr.heap.size=r1 at*;go_quiet (fail);go_wp2_with (at_builtin;go_loud (refine Oa (v:=O q a.length d) [Pa y.Qa] 1 (D.drewN nq) rfl rfl underlying334 hi T U rfl rfl rfl rfl (by simp[Value.oneCell']) L (by rw[X];omega) ?_);intro i c' w6 B);go_roundw;case rel=>exact⟨k+1,i,c',a++[y.Qa],by omega,by go_num,by rw[CT];rfl,by rw[CT];exact aW G,K,HS.out _ _ _ B.ya⟩
    case measure=>simp[intOf];omega
   ·obtain⟨j,hj⟩:∃j,a.length=j+1:=⟨a.length-1,by omega⟩;have e0:((a.length:Int)==0)=false:=by rw[ET];omega
    have e1:IntKind.i64.wrap ((a.length:Int)-1)=(j:Int):=by rw[RT _ (by omega)];omega
    have e2:wrap64 ((a.length:Int)-1)=(j:Int):=by rw[UW _ (by omega)];omega
    have aj:j<a.length:=by omega
    have av:(j:Int)<(a.length:Int):=by omega
    obtain⟨g1,rfl,hr⟩:=D.Mc (A:=q) (c:=d) (n:=a.length) (xs:=Cp a) (e:=23) (sz:=1) (by intro e;have:=UM a;rw[e]at this;simp at this;omega);have x1:=hr j _ (QP a j aj);clear hr C hj;generalize a[j]=z at*;by_cases hz:z=y.Qa
    ·have e3:((z:Int) !=(y.Qa:Int))=false:=by rw[kV,hz]
     have ak:=IY G;clear hz;go_upto_region 5 with(fail);generalize wr.alloc (.cells #[Pa y.Qa,Z y.Qb,Z y.pos] 126)=W1 at*;generalize wr.heap.size=r1 at*;go_quiet (fail);go_wp2;go_roundw;case rel=>exact⟨k+1,some ⟨g1,0,none⟩,d,a,by omega,by go_num,rfl,ak,HH,(D.drewN nq).ya⟩
     case measure=>simp[intOf];omega
    ·have e3:((z:Int) !=(y.Qa:Int))=true:=by rw[CU];omega
     clear hz;go_upto_region 5 with(fail);generalize wr.alloc (.cells #[Pa y.Qa,Z y.Qb,Z y.pos] 126)=W1 at*;generalize wr.heap.size=r1 at*;go_quiet (fail);go_wp2_with (at_builtin;go_loud (refine Oa (v:=O (some ⟨g1,0,none⟩) a.length d) [Pa y.Qa] 1 (D.drewN nq) rfl rfl underlying334 hi T U rfl rfl rfl rfl (by simp[Value.oneCell']) L (by rw[X];omega) ?_);intro i c' w6 B);go_roundw;case rel=>exact⟨k+1,i,c',a++[y.Qa],by omega,by go_num,by rw[CT];rfl,by rw[CT];exact aW G,K,HS.out _ _ _ B.ya⟩
     case measure=>simp[intOf];omega
  ·have al:¬ ((k:Int)<(l.length:Int)):=by omega
   have b:=HP.out;obtain⟨P,hP⟩:∃P,lR a.length p=P:=⟨_,rfl⟩;have t2:Pq prog 292 #[Z a.length,Z p] (Z (lR a.length p:Nat)):=dJ a.length p (by omega) b;have E:=mR (n:=a.length) b.2;have F:=ZL (n:=a.length) (N:=l.length) b.2 (by omega);rw[hP]at t2 E F;have a8:=V F;have a7:=V E;have e1:IntKind.i64.wrap ((P:Int)*60)=((60*P:Nat):Int):=by rw[RT _ (by omega)];omega
   have e2:IntKind.i64.wrap (((60*P:Nat):Int)*8)=((480*P:Nat):Int):=by rw[RT _ (by omega)];omega
   have t3:=bK q d a (by omega) HH.out p (60*P) (480*P) (by omega) (by omega) (by omega);obtain⟨aM,t⟩:∃m,60*P=m:=⟨_,rfl⟩;obtain⟨an,u⟩:∃m,480*P=m:=⟨_,rfl⟩;rw[t]at e1 e2 t3;rw[u]at e2 t3;have a1:=V t;have K1:=J.via (c8 (e:=23) (sz:=1) (v:=O q a.length d) (n:=a.length) (xs:=Cp a));clear b hP E F t u J;go_wp2_with fail;refine(t1 _).mono ?_;rintro e w1 ⟨rfl,d1,rfl⟩;go_wp2_with fail;refine(t2 _).mono ?_;rintro e w2 ⟨rfl,d2,rfl⟩;have K3:=K1.drewN (d1+d2);go_wp2_with fail;refine K3.kc t3 fun w3 s B=> ?_;obtain⟨H,K5⟩:=B.pure;have t4:=gP s p P (by rw[H];exact a1.out.symm) a7.out HP.out w3;have aq:=V H;clear H B K3 K1 t3;go_wp2_with fail;refine t4.mono ?_;rintro e w4 ⟨f,rfl,R,hb⟩;have K6:=K5.below hb;have a6:=V R;clear R hb K5 t4;go_wp2;go_ret;exact⟨f,rfl,(K6.ya (A:=Fg A l c)).le (RZ (by rw[a6.out];exact a8.out))⟩
end
end Go.Proofs.YteacbkflfafefaaGreatDoor
