/- Part 2 of 50 of the proof that TopViews returns true at every input: lemmas on the way; no condition. -/
import Derived.Test.YteacbkflfafefaaGreatDoorZ0
namespace Go.Proofs.YteacbkflfafefaaGreatDoor
set_option linter.all false
section
open Go.RowKit
abbrev Td:=Nat→Prop
structure aa where
 p:Array Obj→Td→Td→Prop
 loc:∀ {h h' o r},p h o r→(∀k,o k∨r k→h'[k]? =h[k]?)→p h' o r
 lt:∀ {h o r k},p h o r→o k∨r k→k<h.size
namespace aa
def pure(φ:Prop):aa:=⟨fun _ o r=>φ∧(∀k,¬o k)∧∀k,¬r k,fun h _=>h,fun h a=>absurd a (by simp[h.2.1,h.2.2])⟩
def emp:aa:=pure True
def star(A B:aa):aa where
 p h o r:=∃b d c e,A.p h b d∧B.p h c e∧(∀k,b k→¬ (c k∨e k))∧(∀k,c k→¬ (b k∨d k))∧(∀k,o k↔b k∨c k)∧(∀k,r k↔d k∨e k)
 loc:=by
  rintro h h' o r ⟨b,d,c,e,j,l,m,n,f,i⟩ a;refine⟨b,d,c,e,A.loc j fun k q=>a k ?_,B.loc l fun k s=>a k ?_,m,n,f,i⟩
  ·rw[f,i];exact q.elim (fun h=> .inl (.inl h)) fun h=> .inr (.inl h)
  ·rw[f,i];exact s.elim (fun h=> .inl (.inr h)) fun h=> .inr (.inr h)
 lt:=by
  rintro h o r k ⟨b,d,c,e,j,l,m,n,f,i⟩ a;rw[f,i]at a;rcases a with(a|a)|(a|a)
  ·exact A.lt j (.inl a)
  ·exact B.lt l (.inl a)
  ·exact A.lt j (.inr a)
  ·exact B.lt l (.inr a)
instance:Mul aa:=⟨star⟩
def ex{α:Type}(A:α→aa):aa where
 p h o r:=∃x,(A x).p h o r
 loc:=fun⟨x,b⟩ a=>⟨x,(A x).loc b a⟩
 lt:=fun⟨x,b⟩ a=>(A x).lt b a
def obj(g:Nat)(x:Obj):aa where
 p h o r:=h[g]? =some x∧(∀k,o k↔k=g)∧∀k,¬r k
 loc:=fun⟨c,b,d⟩ a=>⟨(a g (.inl ((b g).2 rfl))).trans c,b,d⟩
 lt:=by
  rintro h o r k ⟨c,b,d⟩ a;rcases a with a|a
  ·rw[(b k).1 a];exact(sU.1 c).1
  ·exact absurd a (d k)
abbrev wm(g:Nat)(t:TypeId)(cs:Array Value):aa:=obj g (.cells cs t (0,0))
def ro(A:aa):aa where
 p h o r:=(∀k,¬o k)∧∃a b,A.p h a b∧∀k,r k↔a k∨b k
 loc:=fun⟨d,a,b,e,c⟩ f=>⟨d,a,b,A.loc e fun k h=>f k (.inr ((c k).2 h)),c⟩
 lt:=by rintro h o r k ⟨d,a,b,e,c⟩ f;exact A.lt e ((c k).1 (f.resolve_left (d k)))
theorem eta{A:aa}{h:Array Obj}{o a r b:Td}(d:A.p h o r)(c:∀k,a k↔o k)(e:∀k,b k↔r k):A.p h a b:=by obtain rfl:a=o:=funext fun k=>propext (c k);obtain rfl:b=r:=funext fun k=>propext (e k);exact d
structure le(A B:aa):Prop where
 imp:∀ {h o r},A.p h o r→∃o' r',B.p h o' r'∧(∀k,o' k→o k)∧∀k,r' k→o k∨r k
theorem le.refl(A:aa):le A A:=⟨fun h=>⟨_,_,h,fun _ h=>h,fun _ h=> .inr h⟩⟩
theorem le.trans{A B C:aa}(h:le A B)(k:le B C):le A C:=⟨fun d=>
 let⟨_,_,b,a,c⟩:=h.imp d;let⟨_,_,k1,e,f⟩:=k.imp b
 ⟨_,_,k1,fun i hi=>a i (e i hi),fun i hi=>(f i hi).elim (fun h=> .inl (a i h)) (c i)⟩⟩
theorem le.star{A B C D:aa}(h:le A B)(k:le C D):le (A*C) (B*D):=by
 constructor;rintro s o r ⟨u,y,v,z,n,p,b,c,d,q⟩;obtain⟨e,j,m,a2,a3⟩:=h.imp n;obtain⟨f,l,b1,b2,b3⟩:=k.imp p;refine⟨fun k=>e k∨f k,fun k=>j k∨l k,⟨e,j,f,l,m,b1,?_,?_,fun _=>aX,fun _=>aX⟩,?_,?_⟩
 ·intro i hi a;rcases a with a|a
  ·exact b i (a2 i hi) (.inl (b2 i a))
  ·exact b i (a2 i hi) (b3 i a)
 ·intro i hi a;rcases a with a|a
  ·exact c i (b2 i hi) (.inl (a2 i a))
  ·exact c i (b2 i hi) (a3 i a)
 ·intro i hi;rw[d];exact hi.imp (a2 i) (b2 i)
 ·intro i hi;rw[d,q];rcases hi with hi|hi
  ·rcases a3 i hi with h|h
   ·exact .inl (.inl h)
   ·exact .inr (.inl h)
  ·rcases b3 i hi with h|h
   ·exact .inl (.inr h)
   ·exact .inr (.inr h)
theorem le.comm{A B:aa}:le (A*B) (B*A):=⟨fun⟨i,l,j,m,a,b,c,d,e,f⟩=>⟨_,_,⟨j,m,i,l,b,a,d,c,fun k=>(e k).trans Or.comm,fun k=>(f k).trans Or.comm⟩,fun _ h=>h,fun _ h=> .inr h⟩⟩
theorem le.assoc{A B C:aa}:le (A*B*C) (A*(B*C)):=by
 constructor;rintro h o r ⟨E,F,m,q,⟨z,D,n,p,s,u,j,v,c,d⟩,y,e,l,f,i⟩;refine⟨o,r,⟨z,D,fun k=>n k∨m k,fun k=>p k∨q k,s,⟨n,p,m,q,u,y,?_,?_,fun _=>aX,fun _=>aX⟩,?_,?_,?_,?_⟩,fun _ h=>h,fun _ h=> .inr h⟩
 ·intro k b a;exact e k ((c k).2 (.inr b)) a
 ·intro k b a;exact l k b (a.imp (fun h=>(c k).2 (.inr h)) fun h=>(d k).2 (.inr h))
 ·intro k b a;rcases a with(a|a)|(a|a)
  ·exact j k b (.inl a)
  ·exact e k ((c k).2 (.inl b)) (.inl a)
  ·exact j k b (.inr a)
  ·exact e k ((c k).2 (.inl b)) (.inr a)
 ·intro k b a;rcases b with b|b
  ·exact v k b a
  ·exact l k b (a.imp (fun h=>(c k).2 (.inl h)) fun h=>(d k).2 (.inl h))
 ·intro k;rw[f,c];exact or_assoc
 ·intro k;rw[i,d];exact or_assoc
theorem le.nb{A B C:aa}:le (A*(B*C)) (A*B*C):=le.trans le.comm (le.trans (le.star le.comm (le.refl _)) (le.trans le.assoc (le.trans le.comm (le.trans (le.star le.comm (le.refl _)) (le.refl _)))))
theorem le.drop{A B:aa}:le (A*B) A:=⟨fun⟨d,e,_,_,a,_,_,_,b,c⟩=>⟨d,e,a,fun k h=>(b k).2 (.inl h),fun k h=> .inr ((c k).2 (.inl h))⟩⟩
theorem le.ro{A:aa}:le A (ro A):=⟨fun {_ o r} a=>⟨fun _=>False,fun k=>o k∨r k,⟨fun _ h=>h,o,r,a,fun _=>aX⟩,fun _ h=>h.elim,fun _ h=>h⟩⟩
theorem le.pure{φ:Prop}{A:aa}(h:φ):le A (aa.pure φ*A):=⟨fun {_ o r} a=>⟨o,r,⟨fun _=>False,fun _=>False,o,r,⟨h,fun _ h=>h,fun _ h=>h⟩,a,fun _ h=>h.elim,fun _ _ h=>h.elim id id,fun k=>by simp,fun k=>by simp⟩,fun _ h=>h,fun _ h=> .inr h⟩⟩
theorem le.aI{α:Type}{A:α→aa}(x:α):le (A x) (ex A):=⟨fun h=>⟨_,_,⟨x,h⟩,fun _ h=>h,fun _ h=> .inr h⟩⟩
theorem le.qT{α:Type}{A:α→aa}{B:aa}(h:∀x,le (A x) B):le (ex A) B:=⟨fun⟨x,a⟩=>(h x).imp a⟩
end aa
structure eE(w0:World)(o0 r0:Td)(w:World)(o r:Td):Prop where
 os:w.os=w0.os
 tape:w.tape=w0.tape
 output:w.output=w0.output
 size:w0.heap.size≤w.heap.size
 Ie:∀k,k<w0.heap.size→¬o0 k→w.heap[k]? =w0.heap[k]?
 own:∀k,o k→o0 k∨w0.heap.size≤k
 rd:∀k,r k→o0 k∨r0 k∨w0.heap.size≤k
def Y(w0:World)(o0 r0:Td)(S:aa)(w:World):Prop:=∃o r,S.p w.heap o r∧eE w0 o0 r0 w o r
class Find(A S:aa)(R:outParam aa):Prop where
 split:aa.le S (A*R)
instance (priority:=1000) Find.here {A R:aa}:Find A (A*R) R:=⟨aa.le.refl _⟩
instance (priority:=900) Find.last {A:aa}:Find A A aa.emp:=⟨aa.le.trans (aa.le.pure trivial) aa.le.comm⟩
instance (priority:=800) Find.right {A B S R:aa}[h:Find A S R]:Find A (B*S) (B*R):=⟨aa.le.trans (aa.le.star (aa.le.refl _) h.split) (aa.le.trans aa.le.nb (aa.le.trans (aa.le.star aa.le.comm (aa.le.refl _)) aa.le.assoc))⟩
instance (priority:=700) Find.left {A B S R:aa}[h:Find A S R]:Find A (S*B) (R*B):=⟨aa.le.trans (aa.le.star h.split (aa.le.refl _)) aa.le.assoc⟩
instance (priority:=1100) Find.two {A B S R a:aa}[h:Find A S R][k:Find B R a]:Find (A*B) S a:=⟨aa.le.trans h.split (aa.le.trans (aa.le.star (aa.le.refl _) k.split) aa.le.nb)⟩
class El(S:aa)(α:outParam (Type))(A:outParam (α→aa))(R:outParam aa):Prop where
 split:aa.le S (aa.ex A*R)
instance (priority:=1000) El.here {α:Type}{A:α→aa}{R:aa}:El (aa.ex A*R) α A R:=⟨aa.le.refl _⟩
instance (priority:=900) El.last {α:Type}{A:α→aa}:El (aa.ex A) α A aa.emp:=⟨aa.le.trans (aa.le.pure trivial) aa.le.comm⟩
instance (priority:=800) El.right {α:Type}{A:α→aa}{B S R:aa}[h:El S α A R]:El (B*S) α A (B*R):=⟨aa.le.trans (aa.le.star (aa.le.refl _) h.split) (aa.le.trans aa.le.nb (aa.le.trans (aa.le.star aa.le.comm (aa.le.refl _)) aa.le.assoc))⟩
instance (priority:=700) El.left {α:Type}{A:α→aa}{B S R:aa}[h:El S α A R]:El (S*B) α A (R*B):=⟨aa.le.trans (aa.le.star h.split (aa.le.refl _)) aa.le.assoc⟩
class mh(S:aa)(φ:outParam (Prop))(R:outParam aa):Prop where
 split:aa.le S (aa.pure φ*R)
instance (priority:=1000) mh.here {φ:Prop}{R:aa}:mh (aa.pure φ*R) φ R:=⟨aa.le.refl _⟩
instance (priority:=900) mh.last {φ:Prop}:mh (aa.pure φ) φ aa.emp:=⟨aa.le.trans (aa.le.pure trivial) aa.le.comm⟩
instance (priority:=800) mh.right {φ:Prop}{B S R:aa}[h:mh S φ R]:mh (B*S) φ (B*R):=⟨aa.le.trans (aa.le.star (aa.le.refl _) h.split) (aa.le.trans aa.le.nb (aa.le.trans (aa.le.star aa.le.comm (aa.le.refl _)) aa.le.assoc))⟩
instance (priority:=700) mh.left {φ:Prop}{B S R:aa}[h:mh S φ R]:mh (S*B) φ (R*B):=⟨aa.le.trans (aa.le.star h.split (aa.le.refl _)) aa.le.assoc⟩
class Ed(g:Nat)(S:aa)(t:outParam (TypeId))(cs:outParam (Array Value))(R:outParam aa):Prop where
 split:aa.le S (aa.wm g t cs*R)
instance (priority:=1000) Ed.here {g:Nat}{t:TypeId}{cs:Array Value}{R:aa}:Ed g (aa.wm g t cs*R) t cs R:=⟨aa.le.refl _⟩
instance (priority:=900) Ed.last {g:Nat}{t:TypeId}{cs:Array Value}:Ed g (aa.wm g t cs) t cs aa.emp:=⟨aa.le.trans (aa.le.pure trivial) aa.le.comm⟩
instance (priority:=800) Ed.right {g:Nat}{t:TypeId}{cs:Array Value}{B S R:aa}[h:Ed g S t cs R]:Ed g (B*S) t cs (B*R):=⟨aa.le.trans (aa.le.star (aa.le.refl _) h.split) (aa.le.trans aa.le.nb (aa.le.trans (aa.le.star aa.le.comm (aa.le.refl _)) aa.le.assoc))⟩
instance (priority:=700) Ed.left {g:Nat}{t:TypeId}{cs:Array Value}{B S R:aa}[h:Ed g S t cs R]:Ed g (S*B) t cs (R*B):=⟨aa.le.trans (aa.le.star h.split (aa.le.refl _)) aa.le.assoc⟩
section
variable {P:Program}{w0 w w':World}{o0 r0 o r:Td}{A B S R:aa}
theorem eE.refl(w:World)(o r:Td):eE w o r w o r:=⟨rfl,rfl,rfl,FT _,fun _ _ _=>rfl,fun _ h=> .inl h,fun _ h=> .inr (.inl h)⟩
theorem eE.trans{e:World}{c d:Td}(h:eE w0 o0 r0 w o r)(k:eE w o r e c d):eE w0 o0 r0 e c d where
 os:=k.os.trans h.os
 tape:=k.tape.trans h.tape
 output:=k.output.trans h.output
 size:=KT h.size k.size
 Ie i hi b:=(k.Ie i (aV hi h.size) fun f=>(h.own i f).elim b (by omega)).trans (h.Ie i hi b)
 own i hi:=(k.own i hi).elim (h.own i) fun j=> .inr (KT h.size j)
 rd i hi:=by
  rcases k.rd i hi with a|a|a
  ·exact(h.own i a).imp id .inr
  ·exact h.rd i a
  ·exact .inr (.inr (KT h.size a))
theorem eE.less{b c:Td}(h:eE w0 o0 r0 w o r)(e:∀k,b k→o k)(f:∀k,c k→o k∨r k):eE w0 o0 r0 w b c:={h with own:=fun k a=>h.own k (e k a),rd:=fun k a=>(f k a).elim (fun d=>(h.own k d).imp id .inr) (h.rd k)}
theorem Y.start(h:A.p w.heap o r):Y w o r A w:=⟨o,r,h,.refl _ _ _⟩
theorem Y.le(h:Y w0 o0 r0 S w)(c:aa.le S A):Y w0 o0 r0 A w:=let⟨_,_,a,b⟩:=h;let⟨_,_,k1,d,e⟩:=c.imp a;⟨_,_,k1,b.less d e⟩
theorem Y.ya[f:Find A S R](h:Y w0 o0 r0 S w):Y w0 o0 r0 A w:=h.le (aa.le.trans f.split aa.le.drop)
theorem Y.to[f:Find A S R](h:Y w0 o0 r0 S w):Y w0 o0 r0 (A*R) w:=h.le f.split
theorem Y.via(h:Y w0 o0 r0 S w)(a:aa.le A B)[f:Find A S R]:Y w0 o0 r0 (B*R) w:=h.le (aa.le.trans f.split (aa.le.star a (aa.le.refl _)))
theorem Y.Qq(h:Y w0 o0 r0 S w)(a:aa.le A B)[f:Find A S R]:Y w0 o0 r0 B w:=(h.via a).le aa.le.drop
theorem Y.andThen{a:World}(h:eE w0 o0 r0 w o r)(k:Y w o r A a):Y w0 o0 r0 A a:=let⟨_,_,k1,b⟩:=k;⟨_,_,k1,h.trans b⟩
theorem Y.below(h:Y w0 o0 r0 S w)(a:Below w.heap.size w w'):Y w0 o0 r0 S w':=let⟨o,r,c,d⟩:=h;⟨o,r,S.loc c fun k b=>a.block k (S.lt c b),d.trans ⟨a.os,a.tape,a.output,a.size,fun k b _=>a.block k b,fun _ h=> .inl h,fun _ h=> .inr (.inl h)⟩⟩
theorem Y.drewN(h:Y w0 o0 r0 S w)(n:Nat):Y w0 o0 r0 S (w.drewN n):=let⟨o,r,b,a⟩:=h;⟨o,r,b,a.os,a.tape,a.output,a.size,a.Ie,a.own,a.rd⟩
theorem Y.as(h:Y w0 o0 r0 S w)(c:w'.heap=w.heap:=by rfl)(d:w'.os=w.os:=by rfl)(e:w'.tape=w.tape:=by rfl)(f:w'.output=w.output:=by rfl):Y w0 o0 r0 S w':=let⟨o,r,a,b⟩:=h;⟨o,r,c▸a,d.trans b.os,e.trans b.tape,f.trans b.output,by rw[c];exact b.size,by rw[c];exact b.Ie,b.own,b.rd⟩
theorem Y.drew(h:Y w0 o0 r0 S w):Y w0 o0 r0 S w.drew:=h.drewN 1
theorem Y.frame{v:World}{f l c d:Td}(m:R.p w.heap c d)(n:∀k,f k→¬ (c k∨d k))(j:∀k,c k→¬ (f k∨l k))(i:∀k,o k↔f k∨c k)(s:∀k,r k↔l k∨d k) (y:Y w f l B v):Y w o r (B*R) v:=by
 obtain⟨p,q,b1,b2⟩:=y;have e:∀k,c k∨d k→k<w.heap.size:=fun k a=>R.lt m a;have u:∀k,c k∨d k→¬f k:=fun k a h=>n k h a;refine⟨fun k=>p k∨c k,fun k=>q k∨d k,⟨p,q,c,d,b1,R.loc m fun k a=>b2.Ie k (e k a) (u k a),?_,?_,fun _=>aX,fun _=>aX⟩,b2.os,b2.tape,b2.output,b2.size,?_,?_,?_⟩
 ·intro k a b;rcases b2.own k a with h|h
  ·exact n k h b
  ·have:=e k b;omega
 ·intro k a b;have C:=e k (.inl a);rcases b with b|b
  ·rcases b2.own k b with h|h
   ·exact j k a (.inl h)
   ·omega
  ·rcases b2.rd k b with h|h|h
   ·exact j k a (.inl h)
   ·exact j k a (.inr h)
   ·omega
 ·intro k a z;exact b2.Ie k a fun h=>z ((i k).2 (.inl h))
 ·intro k a;rcases a with a|a
  ·exact(b2.own k a).imp (fun h=>(i k).2 (.inl h)) id
  ·exact .inl ((i k).2 (.inr a))
 ·intro k a;rcases a with a|a
  ·rcases b2.rd k a with h|h|h
   ·exact .inl ((i k).2 (.inl h))
   ·exact .inr (.inl ((s k).2 (.inl h)))
   ·exact .inr (.inr h)
  ·exact .inr (.inl ((s k).2 (.inr a)))
def Tr(P:Program){α:Type}(f:FuncId)(a:Array Value)(A:aa)(v:α→Value)(B:α→aa):Prop:=∀w o r,A.p w.heap o r→Calls P f a w fun e w'=>∃x,e= .returned (v x)∧Y w o r (B x) w'
theorem Y.call{α:Type}{f:FuncId}{a:Array Value}{v:α→Value}{B:α→aa}(h:Y w0 o0 r0 S w)(t:Tr P f a A v B)[k:Find A S R]:Calls P f a w fun e w'=>∃x,e= .returned (v x)∧Y w0 o0 r0 (B x*R) w':=by obtain⟨o,r,⟨d,i,j,l,b,a2,a3,a4,a5,c⟩,hu⟩:=h.le k.split;exact(t w d i b).mono fun e w' ⟨x,he,hi⟩=>⟨x,he,Y.andThen hu (Y.frame a2 a3 a4 a5 c hi)⟩
def Ud(P:Program)(f:FuncId)(a:Array Value)(A:aa)(v:Value)(B:aa):Prop:=∀w o r,A.p w.heap o r→Calls P f a w fun e w'=>e= .returned v∧Y w o r B w'
theorem Y.Fm{f:FuncId}{a:Array Value}{v:Value}(h:Y w0 o0 r0 S w)(t:Ud P f a A v B)[k:Find A S R]:Calls P f a w fun e w'=>e= .returned v∧Y w0 o0 r0 (B*R) w':=by obtain⟨o,r,⟨d,i,j,l,b,a2,a3,a4,a5,c⟩,hu⟩:=h.le k.split;exact(t w d i b).mono fun e w' ⟨he,hi⟩=>⟨he,Y.andThen hu (Y.frame a2 a3 a4 a5 c hi)⟩
def Pp(P:Program)(f:FuncId)(a:Array Value)(A:aa)(v:Value):Prop:=∀w o r,A.p w.heap o r→Calls P f a w fun e w'=>e= .returned v∧∃n,w'=w.drewN n
theorem Y.ask{f:FuncId}{a:Array Value}{v:Value}(h:Y w0 o0 r0 S w)(t:Pp P f a A v)[k:Find A S R]:Calls P f a w fun e w'=>e= .returned v∧∃n,w'=w.drewN n:=by obtain⟨o,r,⟨c,d,j,l,b,a2,a3,a4,a5,i⟩,hu⟩:=h.le k.split;exact t w c d b
@[go_sem ↓] theorem xS(w:World)(b:Array TypeId)(t:TypeId)(k a:IntKind)(x y:Int):(Builtin.max_ b t #[.int k x,.int a y]).run P w= .ok (.int k (max x y)) w:=by rw[run_max_int2,show(if y>x then y else x)=max x y by omega]
@[go_sem ↓] theorem yS(w:World)(b:Array TypeId)(t:TypeId)(k a:IntKind)(x y:Int):(Builtin.min_ b t #[.int k x,.int a y]).run P w= .ok (.int k (min x y)) w:=by rw[run_min_int2,show(if y<x then y else x)=min x y by omega]
theorem Y.ex{α:Type}{A:α→aa}(h:Y w0 o0 r0 S w)[k:El S α A R]:∃x,Y w0 o0 r0 (A x*R) w:=by obtain⟨o,r,⟨b,d,c,e,⟨x,a⟩,a2⟩,hu⟩:=h.le k.split;exact⟨x,o,r,⟨b,d,c,e,a,a2⟩,hu⟩
theorem Y.pure{φ:Prop}(h:Y w0 o0 r0 S w)[k:mh S φ R]:φ∧Y w0 o0 r0 R w:=by have a:=h.le k.split;obtain⟨o,r,⟨c,e,d,f,⟨x,b⟩,a2⟩,hu⟩:=id a;exact⟨x,a.le (aa.le.trans aa.le.comm aa.le.drop)⟩
variable {g:Nat}{t:TypeId}{cs:Array Value}{x:Obj}
theorem Y.obj[k:Find (aa.obj g x) S R](h:Y w0 o0 r0 S w):w.heap[g]? =some x:=let⟨_,_,⟨_,_,_,_,a,_⟩,_⟩:=h.le k.split;a.1
theorem Y.wm(h:Y w0 o0 r0 S w)(g:Nat)[k:Ed g S t cs R]:w.heap[g]? =some (.cells cs t (0,0)):=let⟨_,_,⟨_,_,_,_,a,_⟩,_⟩:=h.le k.split;a.1
theorem Y.cells(h:Y w0 o0 r0 S w)(g:Nat)[k:Ed g S t cs R](i:Nat):w.cell? ⟨g,i,none⟩=cs[i]? :=jW w g i cs t (0,0) (h.wm g)
theorem Y.free(h:Y w0 o0 r0 S w)(g:Nat)[k:Ed g S t cs R](i:Nat):w.frozen? ⟨g,i,none⟩=false:=by have h':=h.wm g;simp[World.frozen?,h']
theorem Y.new(h:Y w0 o0 r0 S w)(x:Obj):Y w0 o0 r0 (aa.obj w.heap.size x*S) (w.alloc x):=by
 obtain⟨o,r,c,a⟩:=h;have f:(w.alloc x).heap.size=w.heap.size+1:=by simp
 refine⟨fun k=>k=w.heap.size∨o k,r,⟨fun k=>k=w.heap.size,fun _=>False,o,r,⟨CY w x,fun _=>aX,fun _ h=>h⟩,S.loc c fun k b=>Below.heap_alloc w x k (S.lt c b),?_,?_,fun _=>aX,fun _=>by simp⟩,a.os,a.tape,a.output,?_,?_,?_,a.rd⟩
 ·rintro k rfl d;exact absurd (S.lt c d) (by omega)
 ·rintro k b d;have:=S.lt c (.inl b);simp at d;omega
 ·rw[f];exact IY a.size
 ·intro k b e;exact(Below.heap_alloc w x k (aV b a.size)).trans (a.Ie k b e)
 ·rintro k (rfl|b)
  ·exact .inr a.size
  ·exact a.own k b
theorem Y.alloc(h:Y w0 o0 r0 S w)(x:Obj):Y w0 o0 r0 S (w.alloc x):=(h.new x).le (aa.le.trans aa.le.comm aa.le.drop)
theorem Y.Ec[k:Find (aa.obj g x) S R](h:Y w0 o0 r0 S w){y:Obj}(n:w'.heap[g]? =some y)(i:w'.os=w.os)(m:w'.tape=w.tape)(j:w'.output=w.output)(l:w.heap.size≤w'.heap.size) (f:∀k,k<w.heap.size→k≠g→w'.heap[k]? =w.heap[k]?):Y w0 o0 r0 (aa.obj g y*R) w':=by obtain⟨o,r,⟨p,q,s,u,a,a2,a3,a4,a5,b⟩,hu⟩:=h.le k.split;refine Y.andThen hu (Y.frame a2 a3 a4 a5 b ⟨p,q,⟨n,a.2.1,a.2.2⟩,i,m,j,l,fun k c d=>f k c fun e=>d ((a.2.1 k).2 e),fun _ h=> .inl h,fun _ h=> .inr (.inl h)⟩)
theorem Y.put(h:Y w0 o0 r0 S w)(g:Nat)[k:Ed g S t cs R](i:Nat)(u:Value):Y w0 o0 r0 (aa.wm g t (cs.setIfInBounds i u)*R) (w.setCell ⟨g,i,none⟩ u):=by have hb:=h.wm g;have b:Find (aa.obj g (.cells cs t (0,0))) S R:=⟨k.split⟩;refine h.Ec (g:=g) (x:=.cells cs t (0,0)) ?_ rfl rfl rfl (by simp[World.setCell]) fun k _ a=>fX w _ u k a;simp[World.setCell,DW,hb]
theorem Y.ra(h:Y w0 o0 r0 S w)(g:Nat)[k:Ed g S t cs R](i:Nat)(u:Value)(a:Array Value)(b:cs.setIfInBounds i u=a:=by rfl):Y w0 o0 r0 (aa.wm g t a*R) (w.setCell ⟨g,i,none⟩ u):=b▸h.put g i u
theorem CR{a g2:Nat}{S R b:aa}{m n:TypeId}{f i:Array Value}(k:Ed a S m f R)(l:Ed g2 R n i b){h:Array Obj}{o r:Td}(j:S.p h o r):a≠g2:=by obtain⟨_,_,⟨q,C,s,D,c,a2,a3,_⟩,_⟩:=k.split.imp j;obtain⟨_,_,⟨u,y,v,z,b1,_,_,_,d,_⟩,e,b8⟩:=l.split.imp a2;rintro rfl;exact a3 _ ((c.2.1 a).2 rfl) (.inl (e _ ((d a).2 (.inl ((b1.2.1 a).2 rfl)))))
theorem Y.ne{b:aa}{i:TypeId}{c:Array Value}(h:Y w0 o0 r0 S w)(a g2:Nat)[e:Ed a S t cs R][f:Ed g2 R i c b]:a≠g2:=let⟨_,_,d,_⟩:=h;CR e f d
theorem Y.k1{f:FuncId}{a:Array Value}{v:Value}{Q:Ending→World→Prop}(h:Y w0 o0 r0 S w)(t:Ud P f a A v B)[k:Find A S R](H:∀w',Y w0 o0 r0 (B*R) w'→Q (.returned v) w'):Calls P f a w Q:=(h.Fm t).mono fun _ w' ⟨he,hi⟩=>he▸H w' hi
theorem Y.kc{α:Type}{f:FuncId}{a:Array Value}{v:α→Value}{B:α→aa}{Q:Ending→World→Prop}(h:Y w0 o0 r0 S w)(t:Tr P f a A v B)[k:Find A S R](H:∀w' x,Y w0 o0 r0 (B x*R) w'→Q (.returned (v x)) w'):Calls P f a w Q:=(h.call t).mono fun _ w' ⟨x,he,hi⟩=>he▸H w' x hi
theorem Y.ka{f:FuncId}{a:Array Value}{v:Value}{Q:Ending→World→Prop}(h:Y w0 o0 r0 S w)(t:Pp P f a A v)[k:Find A S R](H:∀n,Q (.returned v) (w.drewN n)):Calls P f a w Q:=(h.ask t).mono fun _ _ ⟨he,n,b⟩=>he▸b▸H n
theorem Y.c2(h:Y w0 o0 r0 S w)(g:Nat)[k:Ed g S t cs R]:w.cell? ⟨g,0,none⟩=cs[0]? ∧w.cell? ⟨g,1,none⟩=cs[1]? :=⟨h.cells g 0,h.cells g 1⟩
theorem Y.c3(h:Y w0 o0 r0 S w)(g:Nat)[k:Ed g S t cs R]:w.cell? ⟨g,0,none⟩=cs[0]? ∧w.cell? ⟨g,1,none⟩=cs[1]? ∧w.cell? ⟨g,2,none⟩=cs[2]? :=⟨h.cells g 0,h.cells g 1,h.cells g 2⟩
theorem Y.c4(h:Y w0 o0 r0 S w)(g:Nat)[k:Ed g S t cs R]:w.cell? ⟨g,0,none⟩=cs[0]? ∧w.cell? ⟨g,1,none⟩=cs[1]? ∧w.cell? ⟨g,2,none⟩=cs[2]? ∧w.cell? ⟨g,3,none⟩=cs[3]? :=⟨h.cells g 0,h.cells g 1,h.cells g 2,h.cells g 3⟩
theorem Y.c5(h:Y w0 o0 r0 S w)(g:Nat)[k:Ed g S t cs R]:w.cell? ⟨g,0,none⟩=cs[0]? ∧w.cell? ⟨g,1,none⟩=cs[1]? ∧w.cell? ⟨g,2,none⟩=cs[2]? ∧w.cell? ⟨g,3,none⟩=cs[3]? ∧w.cell? ⟨g,4,none⟩=cs[4]? :=⟨h.cells g 0,h.cells g 1,h.cells g 2,h.cells g 3,h.cells g 4⟩
theorem Y.c6(h:Y w0 o0 r0 S w)(g:Nat)[k:Ed g S t cs R]:w.cell? ⟨g,0,none⟩=cs[0]? ∧w.cell? ⟨g,1,none⟩=cs[1]? ∧w.cell? ⟨g,2,none⟩=cs[2]? ∧w.cell? ⟨g,3,none⟩=cs[3]? ∧w.cell? ⟨g,4,none⟩=cs[4]? ∧w.cell? ⟨g,5,none⟩=cs[5]? :=⟨h.cells g 0,h.cells g 1,h.cells g 2,h.cells g 3,h.cells g 4,h.cells g 5⟩
theorem Y.c7(h:Y w0 o0 r0 S w)(g:Nat)[k:Ed g S t cs R]:w.cell? ⟨g,0,none⟩=cs[0]? ∧w.cell? ⟨g,1,none⟩=cs[1]? ∧w.cell? ⟨g,2,none⟩=cs[2]? ∧w.cell? ⟨g,3,none⟩=cs[3]? ∧w.cell? ⟨g,4,none⟩=cs[4]? ∧w.cell? ⟨g,5,none⟩=cs[5]? ∧w.cell? ⟨g,6,none⟩=cs[6]? :=⟨h.cells g 0,h.cells g 1,h.cells g 2,h.cells g 3,h.cells g 4,h.cells g 5,h.cells g 6⟩
theorem Y.f2(h:Y w0 o0 r0 S w)(g:Nat)[k:Ed g S t cs R]:w.frozen? ⟨g,0,none⟩=false∧w.frozen? ⟨g,1,none⟩=false:=⟨h.free g 0,h.free g 1⟩
theorem Y.f3(h:Y w0 o0 r0 S w)(g:Nat)[k:Ed g S t cs R]:w.frozen? ⟨g,0,none⟩=false∧w.frozen? ⟨g,1,none⟩=false∧w.frozen? ⟨g,2,none⟩=false:=⟨h.free g 0,h.free g 1,h.free g 2⟩
theorem Y.f4(h:Y w0 o0 r0 S w)(g:Nat)[k:Ed g S t cs R]:w.frozen? ⟨g,0,none⟩=false∧w.frozen? ⟨g,1,none⟩=false∧w.frozen? ⟨g,2,none⟩=false∧w.frozen? ⟨g,3,none⟩=false:=⟨h.free g 0,h.free g 1,h.free g 2,h.free g 3⟩
theorem Y.f5(h:Y w0 o0 r0 S w)(g:Nat)[k:Ed g S t cs R]:w.frozen? ⟨g,0,none⟩=false∧w.frozen? ⟨g,1,none⟩=false∧w.frozen? ⟨g,2,none⟩=false∧w.frozen? ⟨g,3,none⟩=false∧w.frozen? ⟨g,4,none⟩=false:=⟨h.free g 0,h.free g 1,h.free g 2,h.free g 3,h.free g 4⟩
theorem Y.f6(h:Y w0 o0 r0 S w)(g:Nat)[k:Ed g S t cs R]:w.frozen? ⟨g,0,none⟩=false∧w.frozen? ⟨g,1,none⟩=false∧w.frozen? ⟨g,2,none⟩=false∧w.frozen? ⟨g,3,none⟩=false∧w.frozen? ⟨g,4,none⟩=false∧w.frozen? ⟨g,5,none⟩=false:=⟨h.free g 0,h.free g 1,h.free g 2,h.free g 3,h.free g 4,h.free g 5⟩
end
abbrev ba:= @aa.wm
abbrev JZ:=@aa.le.refl
abbrev KZ:=@aa.le.trans
abbrev MZ:=@aa.le.star
abbrev NZ:=@aa.le.comm
abbrev OZ:=@aa.le.assoc
abbrev PZ:=@aa.le.nb
abbrev QZ:=@aa.le.drop
abbrev RZ:=@aa.le.pure
abbrev SZ:=@aa.le.aI
abbrev TZ:=@Y.start
abbrev UZ:=@Y.andThen
abbrev VZ:=@Y.below
abbrev WZ:=@Y.frame
abbrev XZ:=@Y.ask
abbrev YZ:=@Y.cells
end
end Go.Proofs.YteacbkflfafefaaGreatDoor
