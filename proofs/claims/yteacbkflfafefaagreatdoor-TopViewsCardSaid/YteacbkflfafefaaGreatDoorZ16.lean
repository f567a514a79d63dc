/- Part 17 of 50 of the proof that TopViews returns true at every input: lemmas on the way; no condition. -/
import Derived.Test.YteacbkflfafefaaGreatDoorZ9
import Derived.Test.YteacbkflfafefaaGreatDoorZ15
namespace Go.Proofs.YteacbkflfafefaaGreatDoor
set_option linter.all false
set_option maxHeartbeats 2000000
set_option maxRecDepth 100000
section
open Go.RowKit An Go.ChangeShapes Go.WideShapes Go.ChangeAt Go.Proofs.Tryz
def Mf(p:qa→Bool)(l:List qa):Nat:=(l.takeWhile p).length
theorem Ci(p:qa→Bool)(l:List qa):Mf p l≤l.length:=(List.takeWhile_sublist (l:=l) p).length_le
theorem Ij{p:qa→Bool}:∀ {l:List qa} {i:Nat} (h:i<l.length),i<Mf p l→p l[i]=true
 |[],_,h,_=>by simp at h
 |a::r,i,h,hi=>by
  unfold Mf at hi;rw[mW]at hi;split at hi
  ·rename_i b;cases i with
   |zero=>exact b
   |succ i=>exact Ij (l:=r) (by simpa using h) (by simpa [Mf]using hi)
  ·simp at hi
theorem Xp{p:qa→Bool}:∀ {l:List qa} (h:Mf p l<l.length),p l[Mf p l]=false
 |[],h=>by simp at h
 |a::r,h=>by
  by_cases b:p a=true
  ·have e:Mf p (a::r)=Mf p r+1:=by simp[Mf,mW,b]
   have h':Mf p r<r.length:=by rw[e]at h;simpa using h
   have:=Xp h';simp only[e,OY];exact this
  ·have e:Mf p (a::r)=0:=by simp[Mf,mW,b]
   simp only[e,PY];simpa using b
def dz(p:qa→Bool)(l:List qa):Prop:=l.Pairwise fun a b=>p b=true→p a=true
theorem dz.ge{p:qa→Bool}{l:List qa}(e:dz p l){i:Nat}(h:i<l.length)(d:p l[i]=true):i<Mf p l:=by
 apply YU;intro f;have c:Mf p l<l.length:=by omega
 have a:=Xp c;rcases Nat.lt_or_eq_of_le (Nat.le_of_not_lt f)with b|b
 ·have:=yX.1 e (Mf p l) i c h b d;rw[this]at a;cases a
 ·have:l[Mf p l]=l[i]:=by simp only[b]
  rw[this,d]at a;cases a
theorem WH{a b:qa}(h:de a b=true){hh:Nat}{v:Int}(c:Mb hh v b=true):Mb hh v a=true:=by unfold de at h;unfold Mb at c⊢;simp only[PU,aU,bU]at h c⊢;omega
theorem Dh{l:List qa}(h:ub l=true):l.Pairwise fun a b=>de a b=true:=by
 have i:∀ {a b c:qa},de a b=true→de b c=true→de a c=true:=by intro a b c f d;unfold de at*;simp only[PU,aU,bU]at f d⊢;omega
 induction l with
 |nil=>exact .nil
 |cons a r g=>
  cases r with
  |nil=>simp
  |cons b r=>
   simp only[ub,aU]at h;have d:=g h.2;refine xU.2 ⟨fun x e=> ?_,d⟩;rcases dU.1 e with rfl|e
   ·exact h.1
   ·exact i h.1 ((xU.1 d).1 x e)
theorem bl{l:List qa}(h:ub l=true)(hh:Nat)(v:Int):dz (Mb hh v) l:=(Dh h).imp fun a hb=>WH a hb
theorem Zu(v:Value)(l:List qa)(h:Nat)(d:Int)(Q:l.length≤100000000)(s:ub l=true):Ud prog 146 #[v,Pa h,Z d] (Ba 3 v l.length (xc l)) (Z (Mf (Mb h d) l:Nat)) (Ba 3 v l.length (xc l)):=by
 intro w o E n;have I:=TZ n;obtain⟨hlen,A,c,rfl,_⟩:=I.sl v;have hF:=bl s h d;have r:=Ci (Mb h d) l;have u:=V hF;clear n hlen s hF;go_enter func146,ntmps146;go_wp2_with fail;go_step3;go_wp2_with fail;go_step3;go_wp2_with fail;go_loopw [7,8] (fun x y wr=>∃a b:Nat,a≤Mf (Mb h d) l∧Mf (Mb h d) l≤b∧b≤l.length∧x=Z a∧y=Z b∧Y w o E (Fg A l c) wr) (fun x y _=>(intOf y-intOf x).toNat);case atStart=>exact⟨0,l.length,WT _,r,FT _,rfl,rfl,I⟩
 case round=>
  obtain⟨a,b,B,hb,q,rfl,rfl,J⟩:=hrel;by_cases H:a<b
  ·obtain⟨M,P,F,G⟩:∃M:Nat,(a:Int)+((b:Int)-a)/2=(M:Int)∧a≤M∧M<b:=⟨a+(b-a)/2,by omega,by omega,by omega⟩;obtain⟨g,off,rfl,C,i,k⟩:=J.we A c l Ld M (by omega) (by decide);have L:=i _ rfl;have N:=k 1 _ rfl;have c2:=k 2 _ rfl;have t:=DJ l[M] h d;have f:Mb h d l[M]=true→M<Mf (Mb h d) l:=fun e=>u.out.ge (by omega) e;have hle:Mb h d l[M]=false→¬M<Mf (Mb h d) l:=fun e D=>by rw[Ij (by omega) D]at e;cases e
   unfold bj at t;generalize l[M]=x at*;clear k i I;have K:IntKind.i64.wrap ((b:Int)-a)=(b:Int)-a:=RT _ (by omega);cases e:Mb h d x with
   |true=>
    have m:=f e;rw[e]at t;clear f hle e;go_wp2_with fail;refine J.kp t fun w2 j=> ?_;go_wp2;go_roundw;case rel=>exact⟨M+1,b,by omega,hb,q,by go_num,rfl,j⟩
    case measure=>simp[intOf];omega
   |false=>
    have m:=hle e;rw[e]at t;clear f hle e;go_wp2_with fail;refine J.kp t fun w2 j=> ?_;go_wp2;go_roundw;case rel=>exact⟨a,M,B,by omega,by omega,rfl,rfl,j⟩
    case measure=>simp[intOf];omega
  ·have p:Mf (Mb h d) l=a:=by omega
   have z:=V p;clear p;go_wp2_with fail;rw[SV];go_ret;refine⟨?_,J⟩;rw[z.out];rfl
theorem uc:∀ (l:List qa),ub l=true↔∀j (h:j+1<l.length),de l[j] l[j+1]=true
 |[]=>by simp[ub]
 |[_]=>by simp[ub]
 |a::b::r=>by
  simp only[ub,aU,uc (b::r)];constructor
  ·rintro⟨c,d⟩ j h;cases j with
   |zero=>exact c
   |succ j=>exact d j (by simpa using h)
  ·intro h;exact⟨h 0 (by simp),fun j e=>h (j+1) (by simpa using e)⟩
theorem Wz(v:Value)(l:List qa)(hl:l.length≤100000000):Ud prog 278 #[v] (Ba 3 v l.length (xc l)) (.bool (ub l)) (Ba 3 v l.length (xc l)):=by
 intro w o r0 H;have I:=TZ H;obtain⟨hlen,A,c,rfl,_⟩:=I.sl v;clear H hlen;go_enter func278,ntmps278;go_wp2_with fail;go_loopw [3] (fun x wr=>∃k:Nat,1≤k∧(k≤l.length∨k=1)∧x=Z k∧(∀j (h:j+1<l.length),j+1<k→de l[j] l[j+1]=true)∧Y w o r0 (Fg A l c) wr) (fun x _=>l.length-(intOf x).toNat);case atStart=>exact⟨1,FT _,.inr rfl,rfl,fun j _ h=>by omega,I⟩
 case round=>
  obtain⟨k,a7,hk,rfl,K,J⟩:=hrel;have D:=V K;clear K;by_cases M:k<l.length
  ·obtain⟨g,off,X,a1,p,u⟩:=J.we A c l Ld (k-1) (by omega) (by decide);obtain⟨W,C,m,_,q,z⟩:=J.we A c l Ld k M (by decide);subst X;have L:W=g∧C=off:=by injection m with h;injection h with f i;exact⟨f.symm,i.symm⟩
   obtain⟨rfl,rfl⟩:=L;clear m;have F:=p _ rfl;have G:=u 1 _ rfl;have c2:=u 2 _ rfl;have d0:=q _ rfl;have d1:=z 1 _ rfl;have d2:=z 2 _ rfl;have e:=Tt l[k-1] l[k];have t:Pu prog 150 #[bj l[k-1],bj l[k]] (.bool (de l[k-1] l[k])):=e;have Q:de l[k-1] l[k]=true→∀j (h:j+1<l.length),j+1<k+1→de l[j] l[j+1]=true:=by
    intro f j B a6;by_cases i:j+1<k
    ·exact D.out j B i
    ·have:j=k-1:=by omega
     subst this;have s:k-1+1=k:=by omega
     simp only[s];exact f
   have R:de l[k-1] l[k]=false→ub l=false:=by
    intro f;rw[uV,mY,uc];intro i;have:=i (k-1) (by omega);have s:k-1+1=k:=by omega
    simp only[s]at this;rw[f]at this;cases this
   have T:=V Q;have U:=V R;unfold bj at t;generalize l[k-1]=x at*;generalize l[k]=y at*;have P:IntKind.i64.wrap ((k:Int)-1)=((k-1:Nat):Int):=by rw[RT _ (by omega)];omega
   have q0:=IT F;have q1:=IT G;have q2:=IT c2;have p0:=IT d0;have p1:=IT d1;have p2:=IT d2;clear u p z q e Q R I;go_wp2_with fail;have a8:k-1<l.length:=by omega
   refine OU (by kernel_rfl) (by kernel_rfl) ?_;repeat (quiet_step ((first|(go_at_call 150;refine gU (t _)))))
   refine fU ?_;first|(rintro _ ⟨b,rfl⟩)|(intro b)
   have n:=jU wr b.d b.os;generalize Go.Sort.grow (redrawn wr b.d) b.os=wq at*;clear b;have E:=J.below n;clear q0 q1 q2 p0 p1 p2 F G c2 d0 d1 d2 t P n;cases a:de x y with
   |true=>
    have r:=V (T.out a);clear a;go_wp2;go_roundw;case rel=>exact⟨k+1,by omega,.inl (by omega),by go_num,r.out,E⟩
    case measure=>simp[intOf];omega
   |false=>have r:=V (U.out a);clear a;go_wp2;go_ret;refine⟨?_,E⟩;rw[r.out];rfl
  ·have N:ub l=true:=(uc l).2 fun j B=>D.out j B (by omega);have S:=V N;clear N;go_wp2;go_ret;refine⟨?_,J⟩;rw[S.out];rfl
theorem Pm:(prog.info? 126).map (fun i=>(i.zero,i.size,i.bytes))=some (some (.agg #[Pa 0,Z 0,Z 0]),3,24):=by kernel_rfl
theorem gq(l:List qa):∀u∈xc l,u.oneCell'=true:=by intro u hu;obtain⟨e,_,h⟩:=cX.1 hu;exact Im e u h
theorem WA(g:Nat)(e:TypeId)(sz:Nat):aa.le (ba g e #[]) (ua e sz (O (some ⟨g,0,none⟩) 0 0) 0 []):=⟨fun {_ o r} h=>⟨o,r,⟨h.2.2,by simp,.inr ⟨g,0,#[],rfl,h.1,FT _,by simp,by simp,h.2.1⟩⟩,fun _ h=>h,fun _ h=> .inr h⟩⟩
theorem ZB(v:Value)(l:List qa)(s:l.length≤100000000):Tr prog 200 #[v] (Ba 3 v l.length (xc l)) (fun e:Value=>e) (fun e=>ua 126 3 e l.length (xc l)*Ba 3 v l.length (xc l)):=by
 intro w o t f;have I:=TZ f;obtain⟨hlen,A,c,rfl,d⟩:=I.sl v;obtain⟨i0,hi,j,k,p⟩:=info_parts Pm;cases A with
 |none=>
  have i:l=[]:=by
   cases l with
   |nil=>rfl
   |cons a r=>obtain⟨b,off,h,_⟩:=d (by simp[xc,Ku]);cases h
  subst i;have q:=fun w=>aZ (P:=prog) w 137 126 none 0 c 0 0 underlying137;clear f hlen d;go_enter func200,ntmps200;go_wp2;go_ret;refine⟨_,rfl,I.le (KZ (RZ trivial) (MZ (j0 126 3) (JZ _)))⟩
 |some a=>have g:=(I.new (.cells #[] 126)).via (WA w.heap.size 126 3);have q:=fun w=>aZ (P:=prog) w 137 126 (some a) l.length c 0 0 underlying137;clear f hlen d;go_enter func200,ntmps200;go_wp2_with (at_builtin;go_loud (refine kf (v:=O (some ⟨w.heap.size,0,none⟩) 0 0) (xs:=[]) (n:=0) (m:=l.length) (news:=xc l) g rfl rfl underlying137 hi j k rfl rfl (g.En (O (some a) l.length c) underlying137 (gq l) (by decide)) (by unfold maxLen;omega) (by rw[p];omega) ?_);intro e w' J);rw[BU,iV]at J;go_ret;exact⟨e,rfl,J⟩
theorem JA{p:qa→Bool}{l:List qa}(h:dz p l):l.filter p=l.takeWhile p:=by
 induction l with
 |nil=>rfl
 |cons a r f=>
  rw[IU,mW];have b:=xU.1 h;split
  ·rw[f b.2]
  ·rename_i d;rw[WU];exact fun x e c=>d (b.1 x e c)
def jw(h:Nat)(to':Int)(e:qa):Bool:=decide (e.Qa=h)&&decide ((e.Qb:Int)≤to')
theorem Yo{p:qa→Bool}{l:List qa}(a:dz p l){x:qa}(c:x∈l.drop (Mf p l)):p x=false:=by
 obtain⟨i,hi,rfl⟩:=dV c;have d:Mf p l+i<l.length:=by rw[cU]at hi;omega
 rw[XX];cases b:p l[Mf p l+i]with
 |false=>rfl
 |true=>have:=a.ge _ b;omega
theorem JM(p:qa→Bool)(l:List qa):l.take (Mf p l)=l.takeWhile p:=by
 induction l with
 |nil=>rfl
 |cons a r b=>
  unfold Mf at b⊢;rw[mW];split
  ·simp[b]
  ·simp
theorem tz{l:List qa}(g:ub l=true)(h:Nat)(fr to':Int):ae l h fr to'=(l.drop (Mf (Mb h fr) l)).takeWhile (jw h to'):=by
 have hF:=bl g h fr;have j:=Dh g;have k:ae l h fr to'=ae (l.take (Mf (Mb h fr) l)) h fr to'++ae (l.drop (Mf (Mb h fr) l)) h fr to':=by unfold ae;rw[←sW,tU]
 have m:ae (l.take (Mf (Mb h fr) l)) h fr to'=[]:=by unfold ae;rw[WU];intro x d;obtain⟨i,hi,rfl⟩:=dV d;rw[OT]at hi;have:=Ij (p:=Mb h fr) (l:=l) (i:=i) (by omega) (by omega);rw[sX];unfold Mb at this;simp only[PU,aU,bU]at this⊢;omega
 rw[k,m,iV];have n:ae (l.drop (Mf (Mb h fr) l)) h fr to'=(l.drop (Mf (Mb h fr) l)).filter (jw h to'):=by unfold ae;refine lW fun x d=> ?_;have:=Yo hF d;unfold Mb at this;unfold jw;rw[RV];simp only[OW,oX,pV]at this;simp only[aU,bU];omega
 rw[n];refine JA ?_;have o:=j.sublist (List.drop_sublist (Mf (Mb h fr) l) l);refine List.Pairwise.imp_of_mem (fun {a b} q hb c f=> ?_) o;have e:=Yo hF q;unfold Mb at e;unfold de at c;unfold jw at f⊢;simp only[OW,oX,pV]at e;simp only[PU,aU,bU]at c f⊢;omega
theorem BF{α:Type}{f:α→List Value}{sz:Nat}(d:∀a,(f a).length=sz){A:Option Addr}{c:Nat}{l:List α}{lo hi:Nat}(E:lo≤hi)(F:hi≤l.length)(B:l.length≤c):aa.le (Ba sz (O A l.length c) l.length (l.flatMap f)) (Ba sz (O (if c=lo then A else A.map (·.add (lo*sz))) (hi-lo) (c-lo)) (hi-lo) (((l.drop lo).take (hi-lo)).flatMap f)):=by
 have hlen:(((l.drop lo).take (hi-lo)).flatMap f).length=(hi-lo)*sz:=by rw[zg d,OT,cU,QU (by omega)]
 constructor;rintro H o r ⟨D,a2,t,c',a3,a4⟩;have v:A=t:=by injection a3
 subst v;rcases a4 with⟨b1,b3⟩|⟨b,off,cs,e,z,b1,b2,b3,b4⟩
 ·refine⟨fun _=>False,fun _=>False,⟨fun _ h=>h,hlen,_,_,rfl,.inl ⟨?_,fun _ h=>h⟩⟩,fun _ h=>h.elim,fun _ h=>h.elim⟩
  ·apply uU;have:=eU List.length b1;rw[zg d,JU]at this;rw[hlen];have G:(hi-lo)*sz≤l.length*sz:=mV _ (by omega);omega
 ·subst b1;by_cases p:c=lo
  ·rw[JT p];refine⟨fun _=>False,fun _=>False,⟨fun _ h=>h,hlen,_,_,rfl,.inl ⟨?_,fun _ h=>h⟩⟩,fun _ h=>h.elim,fun _ h=>h.elim⟩
   ·apply uU;rw[hlen,show hi-lo=0 by omega];simp
  ·rw[DT p];refine⟨fun _=>False,r,⟨fun _ h=>h,hlen,_,_,rfl,.inr ⟨b,off+lo*sz,cs,e,z,by simp[Addr.add],b2,?_,b4⟩⟩,fun _ h=>h.elim,fun _ h=> .inr h⟩;intro j u g;have k:j<(hi-lo)*sz:=by rw[←hlen];exact(ZU.1 g).1
   have m:0<sz:=by
    cases sz with
    |zero=>simp at k
    |succ n=>omega
   have C:j/sz<hi-lo:=(Nat.div_lt_iff_lt_mul m).2 k;have i:j % sz<sz:=kY _ m;have y:j=j/sz*sz+j % sz:=by rw[gY];exact(Nat.div_add_mod j sz).symm
   have q:=vh d ((l.drop lo).take (hi-lo)) (j/sz) (j % sz) (by rw[OT,cU];omega) i;rw[←y]at q;rw[q]at g;have s:=vh d l (lo+j/sz) (j % sz) (by omega) i;have w:((l.drop lo).take (hi-lo))[j/sz]'(by rw[OT,cU];omega)=l[lo+j/sz]'(by omega):=by rw[sX,XX]
   rw[w,←s]at g;have:=b3 _ _ g;have x:off+lo*sz+j=off+((lo+j/sz)*sz+j % sz):=by rw[QX];omega
   rw[x];exact this
theorem fM(A:Option Addr)(c:Nat)(l:List qa)(h:Nat)(fr to':Int)(hl:l.length≤100000000)(S:ub l=true)(R:l.length≤c):Tr prog 155 #[O A l.length c,Pa h,Z fr,Z to'] (Fg A l c) (fun v:Value=>v) (fun v=>ua 126 3 v (ae l h fr to').length (xc (ae l h fr to'))*Fg A l c):=by
 intro w o r0 T;have I:=TZ T;have t:=Zu (O A l.length c) l h fr hl S;rw[tz S];have aj:=Ci (Mb h fr) l;generalize Mf (Mb h fr) l=K at*;have G:=Ci (jw h to') (l.drop K);have n:∀i (hi:i<l.length),K≤i→i-K<Mf (jw h to') (l.drop K)→jw h to' l[i]=true:=by
  intro i hi hk B;have:=Ij (p:=jw h to') (l:=l.drop K) (i:=i-K) (by rw[cU];omega) B;rw[XX]at this;have e:K+(i-K)=i:=by omega
  simp only[e]at this;exact this
 have H:∀i (hi:i<l.length),i=K+Mf (jw h to') (l.drop K)→jw h to' l[i]=false:=by intro i hi he;subst he;have:=Xp (p:=jw h to') (l:=l.drop K) (by rw[cU];omega);rw[XX]at this;exact this
 have s:=JM (jw h to') (l.drop K);generalize Mf (jw h to') (l.drop K)=M at*;rw[cU]at G;rw[←s];obtain⟨E,hE⟩:∃E,E=K+M:=⟨_,rfl⟩;have q:∀i (hi:i<l.length),K≤i→i<E→jw h to' l[i]=true:=fun i hi B h2=>n i hi B (by omega);have k:∀i (hi:i<l.length),i=E→jw h to' l[i]=false:=fun i hi B=>H i hi (by omega);have a8:K≤E:=by omega
 have a7:E≤l.length:=by omega
 obtain rfl:M=E-K:=by omega
 have y:=V q;have u:=V k;clear T n H q k s S hE G;go_enter func155,ntmps155;go_wp2_with fail;refine I.k1 t fun w1 z=> ?_;go_wp2_with fail;obtain⟨i0,hi,a1,N,a6⟩:=info_parts Pm;obtain⟨D,hcut,hle⟩:∃D,(∀w,(Instr.sliceAt 137 (O A l.length c) (some (Z K)) (some (Z E)) none).run prog w= .ok D w)∧aa.le (Fg A l c) (Ba 3 D ((l.drop K).take (E-K)).length (xc ((l.drop K).take (E-K)))):=by
  have e2:((l.drop K).take (E-K)).length=E-K:=by rw[OT,cU];omega
  have:=BF Ld (A:=A) (c:=c) (l:=l) (lo:=K) (hi:=E) (by omega) (by omega) R;rw[e2];refine⟨_,fun w=>(cg (P:=prog) (w:=w) underlying137 hi A l.length c K E c (by omega) (by omega) (FT _)).2.2.1,?_⟩;rw[N];exact this
 have t2:=ZB D ((l.drop K).take (E-K)) (by rw[OT];omega);generalize F:(l.drop K).take (E-K)=L at*;have f:=V F;clear F;clear I t hi a1 N a6 i0;go_loopw [10] (fun x wr=>∃m:Nat,K≤m∧m≤E∧x=Z m∧Y w o r0 (Fg A l c) wr) (fun x _=>E-(intOf x).toNat);case atStart=>exact⟨K,FT _,by omega,rfl,z.ya⟩
 case round=>
  obtain⟨m,W,ak,rfl,J⟩:=hrel;by_cases n:m<E
  ·obtain⟨g,off,rfl,Q,a,d⟩:=J.we A c l Ld m (by omega) (by decide);have c0:=a _ rfl;have c1:=d 1 _ rfl;have b:=y.out m (by omega) W (by omega);unfold jw at b;simp only[aU,bU]at b;have r:m<l.length:=by omega
   generalize l[m]=x at*;obtain⟨X,al⟩:=b;subst X;clear d a z;go_wp2;go_roundw;case rel=>exact⟨m+1,by omega,by omega,by go_num,J⟩
   case measure=>simp[intOf];omega
  ·obtain rfl:m=E:=by omega
   by_cases r:m<l.length
   ·obtain⟨g,off,rfl,Q,a,d⟩:=J.we A c l Ld m r (by decide);have c0:=a _ rfl;have c1:=d 1 _ rfl;have b:=u.out m r rfl;unfold jw at b;generalize l[m]=x at*;by_cases C:x.Qa=h
    ·have hv:to'<(x.Qb:Int):=by simp only[C,xZ,KX,pV]at b;omega
     have U:=C;subst U;clear d a z b C u y;go_wp2_with fail;refine(Y.fp J hle (j5 _ _ _ _) t2 (fun _=>QZ) (fun _=>j6 _ _ _ _ _)).mono ?_;rintro e w3 ⟨v,rfl,j⟩;go_wp2;go_ret;refine⟨v,rfl,?_⟩;rw[f.out];exact j
    ·have hh:((x.Qa:Int)==h)=false:=by rw[ET];omega
     clear d a z b C u y;go_wp2_with fail;refine(Y.fp J hle (j5 _ _ _ _) t2 (fun _=>QZ) (fun _=>j6 _ _ _ _ _)).mono ?_;rintro e w3 ⟨v,rfl,j⟩;go_wp2;go_ret;refine⟨v,rfl,?_⟩;rw[f.out];exact j
   ·clear u y;go_wp2_with fail;refine(Y.fp J hle (j5 _ _ _ _) t2 (fun _=>QZ) (fun _=>j6 _ _ _ _ _)).mono ?_;rintro e w3 ⟨v,rfl,j⟩;go_wp2;go_ret;refine⟨v,rfl,?_⟩;rw[f.out];exact j
def eP(h:Nat)(upto:Int)(e:qa):Bool:=decide (e.Qa=h)&&decide ((e.Qb:Int)≤upto)
def Qu(l:List qa)(h:Nat)(E:Nat):Option qa:=if E=0 then none else match l[E-1]? with
 |some e=>if e.Qa=h then some e else none
 |none=>none
theorem Cj{h:Nat}{v:Int}{e:qa}:Mb h v e=true↔e.Qa<h∨(e.Qa=h∧(e.Qb:Int)<v):=by unfold Mb;simp only[PU,aU,bU]
theorem gk{h:Nat}{v:Int}{e:qa}:Mb h v e=false↔¬ (e.Qa<h∨(e.Qa=h∧(e.Qb:Int)<v)):=by rw[←Cj,Bool.not_eq_true]
theorem rE{h:Nat}{v:Int}{e:qa}:eP h v e=true↔(e.Qa=h∧(e.Qb:Int)≤v):=by unfold eP;simp only[aU,bU]
theorem fC{l:List qa}(g:ub l=true)(h:Nat)(upto:Int):Rg l h upto=Qu l h (Mf (Mb h (upto+1)) l):=by
 have hF:=bl g h (upto+1);have j:=Dh g;have hle:=Ci (Mb h (upto+1)) l;have k:l.filter (fun e=>decide (e.Qa=h)&&decide ((e.Qb:Int)≤upto))=(l.take (Mf (Mb h (upto+1)) l)).filter (eP h upto):=by
  conv=>lhs;rw[←tU (Mf (Mb h (upto+1)) l) l,sW]
  have:(l.drop (Mf (Mb h (upto+1)) l)).filter (fun e=>decide (e.Qa=h)&&decide ((e.Qb:Int)≤upto))=[]:=by rw[WU];intro x c;have:=gk.1 (Yo hF c);simp only[aU,bU];omega
  rw[this,EU];rfl
 unfold Rg;rw[k];have f:∀i (hi:i<l.length),i<Mf (Mb h (upto+1)) l→Mb h (upto+1) l[i]=true:=fun i hi b=>Ij hi b;generalize Mf (Mb h (upto+1)) l=E at*;unfold Qu;split
 ·rename_i d;rw[d];rfl
 ·rename_i d;have m:l.take E=l.take (E-1)++[l[E-1]'(by omega)]:=by
   have:=rU (l:=l) (i:=E-1) (by omega)
   rwa [show E-1+1=E by omega]at this
  have p:=Cj.1 (f (E-1) (by omega) (by omega));rw[m,sW,PT (by omega:E-1<l.length)];dsimp only;split
  ·rename_i hh;have:eP h upto (l[E-1]'(by omega))=true:=rE.2 (by omega);rw[IU,JT this];simp
  ·rename_i hh;have b:¬eP h upto (l[E-1]'(by omega))=true:=fun o=>hh (rE.1 o).1;have n:(l.take (E-1)).filter (eP h upto)=[]:=by rw[WU];intro x c;obtain⟨i,hi,rfl⟩:=dV c;rw[OT]at hi;have a:=yX.1 j i (E-1) (by omega) (by omega) (by omega);rw[sX,rE];unfold de at a;simp only[PU,aU,bU]at a;omega
   rw[n,IU,DT b];rfl
def di:Option qa→Value
 |none=> .tuple #[.agg #[Pa 0,Z 0,Z 0],.bool false]
 |some e=> .tuple #[bj e,.bool true]
theorem wO(A:Option Addr)(c:Nat)(l:List qa)(h:Nat)(upto:Int)(hl:l.length≤100000000)(W:ub l=true):Ud prog 104 #[O A l.length c,Pa h,Z upto] (Fg A l c) (di (Rg l h upto)) (Fg A l c):=by
 intro w o r0 h0;have I:=(TZ h0).new (.cells #[Pa 0,Z 0,Z 0] 126);have t:=Zu (O A l.length c) l h upto hl W;have X:=fC W h upto;have b0:=Ci (Mb h upto) l;have aM:=Ci (Mb h (upto+1)) l;have al:Mf (Mb h upto) l≤Mf (Mb h (upto+1)) l:=by apply YU;intro hn;have G:=Cj.1 (Ij (p:=Mb h upto) (l:=l) (i:=Mf (Mb h (upto+1)) l) (by omega) (by omega));have S:=gk.1 (Xp (p:=Mb h (upto+1)) (l:=l) (by omega));omega
 have C:∀i (hi:i<l.length),Mf (Mb h upto) l≤i→i<Mf (Mb h (upto+1)) l→l[i].Qa=h∧(l[i].Qb:Int)≤upto:=by
  intro i hi G S;have T:=Cj.1 (Ij hi S);have h4:Mb h upto l[i]=false:=by
   cases hp:Mb h upto l[i]with
   |false=>rfl
   |true=>have:=(bl W h upto).ge hi hp;omega
  have h4:=gk.1 h4;omega
 have a6:∀i (hi:i<l.length),i=Mf (Mb h (upto+1)) l→¬ (l[i].Qa=h∧(l[i].Qb:Int)≤upto):=by
  intro i hi G S;have T:Mb h (upto+1) l[i]=false:=by subst G;exact Xp _
  have T:=gk.1 T;omega
 have a1:∀i (hi:i<l.length),i<Mf (Mb h (upto+1)) l→l[i].Qa=h→(l[i].Qb:Int)≤upto:=by intro i hi G S;have T:=Cj.1 (Ij hi G);omega
 generalize Mf (Mb h upto) l=K at*;generalize Mf (Mb h (upto+1)) l=E at*;have F:=V C;have D:=V a6;have u:=V a1;have q:=V X;clear h0 C a6 a1 X W;go_enter func104,ntmps104;go_wp2_with fail;refine I.k1 t fun w1 I1=> ?_;have I2:Y w o r0 (Fg A l c*ba w.heap.size 126 #[Pa 0,Z 0,Z 0]) w1:=I1.ya;clear I I1 t;go_wp2_with fail;go_loopw [8] (fun x wr=>∃m:Nat,K≤m∧m≤E∧x=Z m∧Y w o r0 (Fg A l c*ba w.heap.size 126 #[Pa 0,Z 0,Z 0]) wr) (fun x _=>E-(intOf x).toNat);case atStart=>exact⟨K,FT _,al,rfl,I2⟩
 case round=>
  obtain⟨m,an,b5,rfl,J⟩:=hrel;by_cases C:m<E
  ·obtain⟨g,off,rfl,ak,B,L⟩:=J.we A c l Ld m (by omega) (by decide);have r:=B _ rfl;have s:=L 1 _ rfl;obtain⟨aq,b6⟩:=F.out m (by omega) an C;have M:m<l.length:=by omega
   generalize l[m]=x at*;subst aq;clear L B I2;go_wp2;go_roundw;case rel=>exact⟨m+1,by omega,by omega,by go_num,J⟩
   case measure=>simp[intOf];omega
  ·obtain rfl:m=E:=by omega
   clear I2 C;by_cases M:m<l.length
   ·obtain⟨g,off,rfl,ak,B,L⟩:=J.we A c l Ld m M (by decide);have x0:=B _ rfl;have x1:=L 1 _ rfl;have U:=D.out m M rfl;generalize l[m]=x at*;clear L B;by_cases hx:x.Qa=h
    ·have hv:upto<(x.Qb:Int):=by rw[not_and]at U;have:=U hx;omega
     have av:((x.Qa:Int)==h)=true:=by rw[OV];omega
     clear U hx;go_upto_region 4 with(fail);obtain⟨r,s,c2⟩:=J.c3 w.heap.size;obtain⟨f0,f1,f2⟩:=J.f3 w.heap.size;by_cases n:m=0
     ·subst n;have e:Rg l h upto=none:=by rw[q.out];rfl
      have b:=V e;clear e;go_wp2_with fail;refine ZT (v:=di none) (by simp[results,results104,go_sem,di,r,s,c2]) rfl ⟨by rw[b.out],?_⟩;exact(((J.ra w.heap.size 0 (Pa 0) _ rfl).ra w.heap.size 1 (Z 0) _ rfl).ra w.heap.size 2 (Z 0) _ rfl).ya
     ·have a:m-1<l.length:=by omega
      obtain⟨g2,R,z,H,f,k⟩:=J.we (some ⟨g,off,none⟩) c l Ld (m-1) a (by decide);cases z;have d0:=f _ rfl;have d1:=k 1 _ rfl;have d2:=k 2 _ rfl;have d:=u.out (m-1) a (by omega);have e:Rg l h upto=if(l[m-1]'a).Qa=h then some (l[m-1]'a)else none:=by rw[q.out];unfold Qu;rw[DT n,PT a]
      have N:((m:Int)==0)=false:=by rw[ET];omega
      have a7:(m:Int)-1=((m-1:Nat):Int):=by omega
      have P:IntKind.i64.wrap ((m:Int)-1)=((m-1:Nat):Int):=by rw[RT _ (by omega)];omega
      generalize(l[m-1]'a)=y at*;by_cases j:y.Qa=h
      ·rw[JT j]at e;have aj:=d j;have b:=V e;subst j;clear e d k f F D u q;go_wp2_with fail;refine ZT (v:=di (some y)) (by simp[results,results104,go_sem,di,bj,r,s,c2]) rfl ⟨by rw[b.out],?_⟩;exact(((J.ra w.heap.size 0 (Pa y.Qa) _ rfl).ra w.heap.size 1 (Z y.Qb) _ rfl).ra w.heap.size 2 (Z y.pos) _ rfl).ya
      ·rw[DT j]at e;have b:=V e;have a8:((y.Qa:Int) !=h)=true:=by rw[CU];omega
       have Q:((y.Qa:Int)==h)=false:=by rw[ET];omega
       clear e d k f F D u q j;go_wp2_with fail;refine ZT (v:=di none) (by simp[results,results104,go_sem,di,r,s,c2]) rfl ⟨by rw[b.out],?_⟩;exact(((J.ra w.heap.size 0 (Pa 0) _ rfl).ra w.heap.size 1 (Z 0) _ rfl).ra w.heap.size 2 (Z 0) _ rfl).ya
    ·have av:((x.Qa:Int)==h)=false:=by rw[ET];omega
     clear U hx;go_upto_region 4 with(fail);obtain⟨r,s,c2⟩:=J.c3 w.heap.size;obtain⟨f0,f1,f2⟩:=J.f3 w.heap.size;by_cases n:m=0
     ·subst n;have e:Rg l h upto=none:=by rw[q.out];rfl
      have b:=V e;clear e;go_wp2_with fail;refine ZT (v:=di none) (by simp[results,results104,go_sem,di,r,s,c2]) rfl ⟨by rw[b.out],?_⟩;exact(((J.ra w.heap.size 0 (Pa 0) _ rfl).ra w.heap.size 1 (Z 0) _ rfl).ra w.heap.size 2 (Z 0) _ rfl).ya
     ·have a:m-1<l.length:=by omega
      obtain⟨g2,R,z,H,f,k⟩:=J.we (some ⟨g,off,none⟩) c l Ld (m-1) a (by decide);cases z;have d0:=f _ rfl;have d1:=k 1 _ rfl;have d2:=k 2 _ rfl;have d:=u.out (m-1) a (by omega);have e:Rg l h upto=if(l[m-1]'a).Qa=h then some (l[m-1]'a)else none:=by rw[q.out];unfold Qu;rw[DT n,PT a]
      have N:((m:Int)==0)=false:=by rw[ET];omega
      have a7:(m:Int)-1=((m-1:Nat):Int):=by omega
      have P:IntKind.i64.wrap ((m:Int)-1)=((m-1:Nat):Int):=by rw[RT _ (by omega)];omega
      generalize(l[m-1]'a)=y at*;by_cases j:y.Qa=h
      ·rw[JT j]at e;have aj:=d j;have b:=V e;subst j;clear e d k f F D u q;go_wp2_with fail;refine ZT (v:=di (some y)) (by simp[results,results104,go_sem,di,bj,r,s,c2]) rfl ⟨by rw[b.out],?_⟩;exact(((J.ra w.heap.size 0 (Pa y.Qa) _ rfl).ra w.heap.size 1 (Z y.Qb) _ rfl).ra w.heap.size 2 (Z y.pos) _ rfl).ya
      ·rw[DT j]at e;have b:=V e;have a8:((y.Qa:Int) !=h)=true:=by rw[CU];omega
       have Q:((y.Qa:Int)==h)=false:=by rw[ET];omega
       clear e d k f F D u q j;go_wp2_with fail;refine ZT (v:=di none) (by simp[results,results104,go_sem,di,r,s,c2]) rfl ⟨by rw[b.out],?_⟩;exact(((J.ra w.heap.size 0 (Pa 0) _ rfl).ra w.heap.size 1 (Z 0) _ rfl).ra w.heap.size 2 (Z 0) _ rfl).ya
   ·go_upto_region 4 with(fail);obtain⟨r,s,c2⟩:=J.c3 w.heap.size;obtain⟨f0,f1,f2⟩:=J.f3 w.heap.size;by_cases n:m=0
    ·subst n;have e:Rg l h upto=none:=by rw[q.out];rfl
     have b:=V e;clear e;go_wp2_with fail;refine ZT (v:=di none) (by simp[results,results104,go_sem,di,r,s,c2]) rfl ⟨by rw[b.out],?_⟩;exact(((J.ra w.heap.size 0 (Pa 0) _ rfl).ra w.heap.size 1 (Z 0) _ rfl).ra w.heap.size 2 (Z 0) _ rfl).ya
    ·have a:m-1<l.length:=by omega
     obtain⟨g2,R,z,H,f,k⟩:=J.we A c l Ld (m-1) a (by decide);subst z;have d0:=f _ rfl;have d1:=k 1 _ rfl;have d2:=k 2 _ rfl;have d:=u.out (m-1) a (by omega);have e:Rg l h upto=if(l[m-1]'a).Qa=h then some (l[m-1]'a)else none:=by rw[q.out];unfold Qu;rw[DT n,PT a]
     have N:((m:Int)==0)=false:=by rw[ET];omega
     have a7:(m:Int)-1=((m-1:Nat):Int):=by omega
     have P:IntKind.i64.wrap ((m:Int)-1)=((m-1:Nat):Int):=by rw[RT _ (by omega)];omega
     generalize(l[m-1]'a)=y at*;by_cases j:y.Qa=h
     ·rw[JT j]at e;have aj:=d j;have b:=V e;subst j;clear e d k f F D u q;go_wp2_with fail;refine ZT (v:=di (some y)) (by simp[results,results104,go_sem,di,bj,r,s,c2]) rfl ⟨by rw[b.out],?_⟩;exact(((J.ra w.heap.size 0 (Pa y.Qa) _ rfl).ra w.heap.size 1 (Z y.Qb) _ rfl).ra w.heap.size 2 (Z y.pos) _ rfl).ya
     ·rw[DT j]at e;have b:=V e;have a8:((y.Qa:Int) !=h)=true:=by rw[CU];omega
      have Q:((y.Qa:Int)==h)=false:=by rw[ET];omega
      clear e d k f F D u q j;go_wp2_with fail;refine ZT (v:=di none) (by simp[results,results104,go_sem,di,r,s,c2]) rfl ⟨by rw[b.out],?_⟩;exact(((J.ra w.heap.size 0 (Pa 0) _ rfl).ra w.heap.size 1 (Z 0) _ rfl).ra w.heap.size 2 (Z 0) _ rfl).ya
def gh(b:Nat)(l:List qa):aa:=aa.ex fun v=>ba b 183 #[.bool true,v]*ua 126 3 v l.length (xc l)
theorem Y.mem{f w:World}{d e:Td}{S R:aa}(h:Y f d e S w)(b:Nat)(l:List qa)[k:Find (gh b l) S R]:∃A c,Y f d e (ba b 183 #[.bool true,O A l.length c]*(Dk A l c*R)) w:=by have a:=h.le k.split;unfold gh at a;obtain⟨v,a⟩:=a.ex;obtain⟨_,A,c,rfl⟩:=a.Cd v;exact⟨A,c,a.le OZ⟩
theorem Vo{b:Nat}{l:List qa}{v:Value}:aa.le (ba b 183 #[.bool true,v]*ua 126 3 v l.length (xc l)) (gh b l):=SZ (A:=fun v=>ba b 183 #[.bool true,v]*ua 126 3 v l.length (xc l)) v
theorem VO:Tr prog 208 #[] aa.emp (fun b:Nat=>Da b) (fun b=>gh b []):=by intro w o r a;have I:=(TZ a).new (.cells #[.bool true,O none 0 0] 183);clear a;go_enter func208,ntmps208;go_wp2;go_ret;exact⟨w.heap.size,rfl,I.le (KZ (MZ (JZ _) (j0 126 3)) (Vo (b:=w.heap.size) (l:=[]) (v:=O none 0 0)))⟩
theorem Vn(b:Nat)(v:Value):Pp prog 103 #[Da b] (ba b 183 #[.bool true,v]) (.bool false):=by intro w o r a;have c:=(TZ a).cells b 0;clear a;go_enter func103,ntmps103;go_wp2;go_ret;exact⟨rfl,0,rfl⟩
theorem UO(b:Nat)(l:List qa):Ud prog 185 #[Da b] (gh b l) (Z l.length) (gh b l):=by intro w o r a;obtain⟨A,c,I⟩:=(TZ a).mem b l;have t:=Vn b (O A l.length c);clear a;go_enter func185,ntmps185;go_wp2_with fail;refine Y.ka I t fun m=> ?_;have d:World.cell? _ _=some _:=(I.drewN m).cells b 1;go_wp2;go_ret;exact⟨rfl,(I.drewN m).le (KZ PZ (KZ QZ Vo))⟩
theorem CI(b:Nat)(l:List qa)(h:Nat)(fr to':Int)(f:l.length≤100000000)(g:ub l=true):Tr prog 110 #[Da b,Pa h,Z fr,Z to'] (gh b l) (fun v:Value=>v) (fun v=>ua 126 3 v (ae l h fr to').length (xc (ae l h fr to'))*gh b l):=by intro w o r a;obtain⟨A,c,I⟩:=(TZ a).mem b l;have t:=Vn b (O A l.length c);have t2:=fM A c l h fr to' f g (I.Cn (n:=l.length) (A:=A) (c:=c));clear a;go_enter func110,ntmps110;go_wp2_with fail;refine Y.ka I t fun m=> ?_;have i:World.cell? _ _=some _:=(I.drewN m).cells b 1;go_wp2_with fail;refine(Y.fp (I.drewN m) (wc (O A l.length c)) (j5 _ _ _ _) t2 (fun _=>QZ) (fun _=>j6 _ _ _ _ _)).mono ?_;rintro e j ⟨v,rfl,d⟩;go_wp2;go_ret;exact⟨v,rfl,d.le (MZ (JZ _) (KZ PZ (KZ QZ Vo)))⟩
theorem zL(b:Nat)(l:List qa)(f:l.length≤100000000):Tr prog 188 #[Da b] (gh b l) (fun v:Value=>v) (fun v=>ua 126 3 v l.length (xc l)*gh b l):=by intro w o r a;obtain⟨A,c,I⟩:=(TZ a).mem b l;have t:=Vn b (O A l.length c);have t2:=ZB (O A l.length c) l f;clear a;go_enter func188,ntmps188;go_wp2_with fail;refine Y.ka I t fun m=> ?_;have g:World.cell? _ _=some _:=(I.drewN m).cells b 1;go_wp2_with fail;refine(Y.fp (I.drewN m) (wc (O A l.length c)) (j5 _ _ _ _) t2 (fun _=>QZ) (fun _=>j6 _ _ _ _ _)).mono ?_;rintro e h ⟨v,rfl,d⟩;go_wp2;go_ret;exact⟨v,rfl,d.le (MZ (JZ _) (KZ PZ (KZ QZ Vo)))⟩
theorem uI(b:Nat)(l:List qa):Ud prog 189 #[Da b] (gh b l) (.tuple #[]) (gh b []):=by intro w o r a;obtain⟨A,c,I⟩:=(TZ a).mem b l;have t:=Vn b (O A l.length c);clear a;go_enter func189,ntmps189;go_wp2_with fail;refine Y.ka I t fun m=> ?_;have d:World.cell? _ _=some _:=(I.drewN m).cells b 1;have f1:=(I.drewN m).free b 1;go_wp2;go_end0;refine⟨rfl,?_⟩;have J:=((I.drewN m).ra b 1 (O none 0 0) #[.bool true,O none 0 0]);exact J.le (KZ (MZ (JZ _) (KZ (RZ trivial) (MZ (j0 126 3) (JZ _)))) (KZ PZ (KZ QZ (Vo (b:=b) (l:=[]) (v:=O none 0 0)))))
theorem TO(b:Nat)(l:List qa)(h:Nat)(upto:Int)(q:l.length≤100000000)(s:ub l=true):Ud prog 66 #[Da b,Pa h,Z upto] (gh b l) (di (Rg l h upto)) (gh b l):=by
 intro w o r i;obtain⟨A,c,g⟩:=(TZ i).mem b l;have I:=g.new (.cells #[Pa 0,Z 0,Z 0] 126);have t:=Vn b (O A l.length c);have t2:=wO A c l h upto q s;have a:∃x y,di (Rg l h upto)= .tuple #[bj x,.bool y]:=by
  cases Rg l h upto with
  |none=>exact⟨⟨0,0,0⟩,false,rfl⟩
  |some e=>exact⟨e,true,rfl⟩
 obtain⟨x,y,a⟩:=a;have j:=V a;rw[a]at t2;clear i a g;unfold bj at t2;go_enter func66,ntmps66;go_wp2_with fail;refine Y.ka I t fun m=> ?_;have f:World.cell? _ _=some _:=(I.drewN m).cells b 1;go_wp2_with fail;refine(Y.Wu (I.drewN m) (wc (O A l.length c)) (j5 _ _ _ _) t2).mono ?_;rintro e u ⟨rfl,d⟩;clear f;obtain⟨p,f,c2⟩:=d.c3 w.heap.size;obtain⟨f0,f1,f2⟩:=d.f3 w.heap.size;go_wp2_with fail;refine ZT (v:=.tuple #[bj x,.bool y]) (by simp[results,results66,go_sem,bj,p,f,c2]) rfl ⟨by rw[j.out],?_⟩;have k:=((d.ra w.heap.size 0 (Pa x.Qa) _ rfl).ra w.heap.size 1 (Z x.Qb) _ rfl).ra w.heap.size 2 (Z x.pos) _ rfl;have n:=k.ya (A:=ba b 183 #[.bool true,O A l.length c]*Dk A l c);exact n.le Vo
end
end Go.Proofs.YteacbkflfafefaaGreatDoor
