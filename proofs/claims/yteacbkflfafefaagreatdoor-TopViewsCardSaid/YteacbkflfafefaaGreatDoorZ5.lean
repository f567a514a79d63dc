/- Part 6 of 50 of the proof that TopViews returns true at every input: lemmas on the way; no condition. -/
import Derived.Test.YteacbkflfafefaaGreatDoorZ2
import Derived.Test.YteacbkflfafefaaGreatDoorZ3
import Derived.Test.YteacbkflfafefaaGreatDoorProg
namespace Go.Proofs.YteacbkflfafefaaGreatDoor
set_option linter.all false
section
open Go Go.RowKit
section
variable {P:Program}{ops:Array Oper}{md:Region.Mode}{C:World→Prop}{H:Nat→Bool}
structure Je(md:Region.Mode)(ops:Array Oper)(H:Nat→Bool)(listed:Array Bool):Prop where
 size:listed.size=ops.size
 closed:∀j oj,ops[j]? =some oj→listed.getD j false=true→∀e∈oj.after,Region.binds md e=true→listed.getD e.on false=true
 tail:∀t,t<ops.size→H t=false→listed.getD t true=false
theorem Je.set{i:Nat}{a:Array Bool}(b:Je md ops H a)(hi:i∈Region.ready md ops a)(d:H i=true):Je md ops H (a.setIfInBounds i true):=by
 obtain⟨_,o,l,g⟩:=AX.1 hi;refine⟨by simp[b.size],fun j m h k e he hb=> ?_,fun t n f=>by rw[getD_set_ne true (fun e=>by rw[e,f]at d;cases d)];exact b.tail t n f⟩;by_cases c:i=j
 ·subst c;have:m=o:=VU (h.symm.trans l);subst this;exact getD_set_true (g e he hb)
 ·rw[getD_set_ne false c]at k;exact getD_set_true (b.closed j m h k e he hb)
def yr(P:Program)(md:Region.Mode)(ops:Array Oper)(C:World→Prop)(H:Nat→Bool)(L:Array Bool→Act→Prop):Nat→Array Bool→Act→Prop
 |0,listed,a=>L listed a
 |f+1,listed,a=>Region.ready md ops listed≠[]∧∀i∈Region.ready md ops listed,H i=true∧qOp P ops C i (yr P md ops C H L f (listed.setIfInBounds i true)) a
theorem Ti{g:Nat}{L:Array Bool→Act→Prop}{Q':Exit→Act→World→Prop}(c:∀listed a w,C w→L listed a→wpAny P md ops Q' g listed a w):∀ (f:Nat) (listed:Array Bool) (a:Act) (w:World),C w→yr P md ops C H L f listed a→wpAny P md ops Q' (f+g) listed a w
 |0,listed,a,w,b,h=>by rw[BU];exact c _ _ _ b h
 |f+1,listed,a,w,b,h=>by rw[show f+1+g=(f+g)+1 by omega];exact⟨fun j=>absurd j h.1,fun i hi=>wpOp_of_qOp b (fun e w' d h'=>Ti c f _ e w' d h') (h.2 i hi).2⟩
theorem vs{i:Nat}{r:Oper}{v:Value}{L:Array Bool→Act→Prop}(hi:ops[i]? =some r)(y:∀ (j:Nat) (o:Oper) cs b,ops[j]? =some o→o.op≠ .select cs b)(R:H i=true) (q:∀listed,Je md ops H listed→listed.getD i true=false→∀t∈Region.ready md ops listed,H t=true) (A:∀listed a,L listed a→∀j∈Region.ready md ops listed,H j=false):∀ (f:Nat) (listed:Array Bool) (a:Act),Je md ops H listed→(∀j n,ops[j]? =some n→j≠i→listed.getD j true=false→(∀e∈n.after,Region.binds md e=true→e.on≠i)→r.apart ops n=true)→i∈Region.ready md ops listed→YieldsIn P ops C r v a→yr P md ops C H L f (listed.setIfInBounds i true) (a.put r.dst v)→yr P md ops C H L (f+1) listed a:=by
 intro f;induction f with
 |zero=>
  intro listed a inv _ l B s;have d:=(AX.1 l).1;refine⟨fun h=>(by rw[h]at l;cases l),fun j m=> ?_⟩;have g:=q listed inv d j m;refine⟨g,?_⟩;by_cases c:j=i
  ·subst c;exact B.qOp hi s
  ·have:=A _ _ s j (mZ m c);rw[this]at g;cases g
 |succ f Q=>
  intro listed a inv p l B s;have d:=(AX.1 l).1;refine⟨fun h=>(by rw[h]at l;cases l),fun j m=> ?_⟩;have g:=q listed inv d j m;refine⟨g,?_⟩;by_cases c:j=i
  ·subst c;exact B.qOp hi s
  ·have z:=(s.2 j (mZ m c)).2;obtain⟨w,n,x,E⟩:=AX.1 m;have F:∀e∈n.after,Region.binds md e=true→e.on≠i:=fun e he hb heq=>by have z:=E e he hb;rw[heq,getD_both d]at z;cases z
   have M:=qOp_put x (p j n x c w F) (fun cs b=>y i r cs b hi) (fun cs b=>y j n cs b x) B z;have u:∀k ok,ops[k]? =some ok→k≠i→(listed.setIfInBounds j true).getD k true=false→(∀e∈ok.after,Region.binds md e=true→e.on≠i)→r.apart ops ok=true:=fun k ok N I d J=>by
    refine p k ok N I ?_ J;by_cases D:j=k
    ·subst D;exact w
    ·rw[getD_set_ne true D]at d;exact d
   refine qOp_mono (fun K G=>Q (listed.setIfInBounds j true) K (inv.set m g) u (mZ l (Ne.symm c)) G.1 ?_) M;rw[Array.setIfInBounds_comm _ _ c];exact G.2
def vp(md:Region.Mode)(ops:Array Oper):List Nat→Array Bool→Bool
 |[],listed=>(Region.ready md ops listed).isEmpty
 |t::r,listed=>decide (Region.ready md ops listed=[t])&&vp md ops r (listed.setIfInBounds t true)
theorem pk{Q':Exit→Act→World→Prop}:∀ (tl:List Nat) (lt:List Oper) (listed:Array Bool) (a:Act) (w:World),tl.map (ops[·]?)=lt.map some→vp md ops tl listed=true→wpList P ops Q' lt a w→wpAny P md ops Q' tl.length listed a w
 |[],[],_,_,_,_,b,h=>⟨by simpa [vp]using b,h⟩
 |[],_::_,_,_,_,he,_,_=>by simp at he
 |_::_,[],_,_,_,he,_,_=>by simp at he
 |t::tl,o::lt,listed,a,w,he,b,h=>by
  simp only[qU,nW]at he;simp only[vp,aU,bU]at b;refine⟨fun c=>(by rw[b.1]at c;cases c),fun i hi=> ?_⟩;rw[b.1]at hi;obtain rfl:i=t:=by simpa using hi
  have hw:wpOp P ops Q' i (wpList P ops Q' lt) a w:=by unfold wpOp;simp only[he.1];exact h
  exact AZ (fun d w' h'=>pk tl lt _ d w' he.2 b.2 h') hw
def bp(md:Region.Mode)(ops:Array Oper)(tl:List Nat):List Nat→Array Bool→Bool
 |[],listed=>vp md ops tl listed
 |i::r,listed=>(Region.ready md ops listed).contains i&&Region.free md ops listed i&&bp md ops tl r (listed.setIfInBounds i true)
def dy(md:Region.Mode)(ops:Array Oper)(a:Nat):List Nat→Bool
 |[]=>true
 |i::post=>(a::post).any (fun j=>Region.waitsFor md ops j i)&&dy md ops a post
def Uw(md:Region.Mode)(ops:Array Oper):List Nat→Bool
 |t::u::r=>Region.waitsFor md ops u t&&Uw md ops (u::r)
 |_=>true
theorem ye{j i:Nat}{listed:Array Bool}(h:Region.waitsFor md ops j i=true)(f:listed.getD i true=false):j∉Region.ready md ops listed:=by intro g;obtain⟨l,c,e,he,hb,d⟩:=iZ h;obtain⟨_,k,b,a⟩:=AX.1 g;obtain rfl:k=l:=VU (b.symm.trans c);have:=a e he hb;rw[d,getD_both f]at this;cases this
theorem gm{p:Nat}{a:Array Bool}(c:Je md ops H a):∀ (g:List Nat),dy md ops p g=true→(∀i∈g,i<ops.size)→∀i∈g,a.getD i true=false→p∉Region.ready md ops a
 |[],_,_,i,hi,_=>by cases hi
 |k::post,h,f,i,hi,b=>by
  simp only[dy,aU,bX]at h;have o:=gm c post h.2 (fun x q=>f x (.tail _ q));rcases dU.1 hi with rfl|hi
  ·obtain⟨j,d,hw⟩:=h.1;rcases dU.1 d with rfl|d
   ·exact ye hw b
   ·refine o j d ?_;cases l:a.getD j false with
    |true=>obtain⟨r,m,e,he,hb,n⟩:=iZ hw;have:=c.closed j r m l e he hb;rw[n,getD_both b]at this;cases this
    |false=>exact getD_in (by rw[c.size];exact f j (.tail _ d)) l
  ·exact o i hi b
theorem Wp{a:Array Bool}:∀ (tl:List Nat),Uw md ops tl=true→(∀t∈tl,a.getD t true=false)→∀t∈tl.tail,t∉Region.ready md ops a
 |[],_,_,t,b=>by cases b
 |[_],_,_,t,b=>by cases b
 |t0::u::r,d,c,t,b=>by
  simp only[Uw,aU]at d;rcases dU.1 b with rfl|b
  ·exact ye d.1 (c t0 (.head _))
  ·exact Wp (u::r) d.2 (fun x e=>c x (.tail _ e)) t b
theorem Zm{tl:List Nat}{G:Nat→Prop}{Lq:Act→Prop}(e:Region.noSelect ops=true) (d:∀i,G i→∀listed,Je md ops H listed→listed.getD i true=false→∀t∈Region.ready md ops listed,H t=true) (p:∀t∈tl,H t=false):∀ (c:List Nat) (f:List Oper) (listed:Array Bool) (a:Act),c.map (ops[·]?)=f.map some→(∀i∈c,H i=true∧G i)→Je md ops H listed→bp md ops tl c listed=true→wpQuiet P ops C Lq f a→yr P md ops C H (fun b q=>vp md ops tl b=true∧Lq q) c.length listed a
 |[],[],listed,a,_,_,_,k,h=>⟨by simpa [bp]using k,h⟩
 |[],_::_,_,_,he,_,_,_,_=>by simp at he
 |_::_,[],_,_,he,_,_,_,_=>by simp at he
 |i::c,o::f,listed,a,he,l,inv,k,h=>by
  simp only[qU,nW]at he;simp only[bp,aU]at k;obtain⟨⟨A,z⟩,s⟩:=k;have n:i∈Region.ready md ops listed:=by simpa using A
  have u:qOp P ops C i (wpQuiet P ops C Lq f) a:=by unfold qOp;simp only[he.1];exact h
  obtain⟨v,D,w⟩:=yieldsIn_of_qOp he.1 u;refine vs he.1 (lY e) (l i (.head _)).1 (d i (l i (.head _)).2) (fun b q y j m=> ?_) c.length listed a inv (XY he.1 z) n D (Zm e d p c f _ _ he.2 (fun x B=>l x (.tail _ B)) (inv.set n (l i (.head _)).1) s w);have g:=y.1;cases tl with
  |nil=>simp only[vp,BW]at g;rw[g]at m;cases m
  |cons t r=>
   simp only[vp,aU,bU]at g;rw[g.1]at m;obtain rfl:j=t:=by simpa using m
   exact p j (.head _)
theorem map_filterMap{α β:Type}(f:α→Option β):∀ (l:List α),(∀x∈l,(f x).isSome=true)→l.map f=(l.filterMap f).map some
 |[],_=>rfl
 |x::r,h=>by
  have b:=h x (.head _);have d:=map_filterMap f r (fun y c=>h y (.tail _ c));cases a:f x with
  |none=>rw[a]at b;cases b
  |some y=>simp only[qU,a,QT,d]
def IL(o:Oper):Bool:=match o.op,o.guard,o.dst with|.move _,none,some _=>true|_,_,_=>false
def Oh(b:List Nat)(a:Array Bool):Array Bool:=b.foldl (fun l i=>l.setIfInBounds i true) a
def Tv(md:Region.Mode)(ops:Array Oper):List Nat→Array Bool→Bool
 |[],_=>true
 |i::r,listed=>(Region.ready md ops listed).contains i&&Region.free md ops listed i&&((ops[i]?).map IL).getD false&&Tv md ops r (listed.setIfInBounds i true)
def Ub:List Oper→Act→Act
 |[],a=>a
 |o::r,a=>Ub r (match o.op with|.move x=>a.put o.dst (a.eval x)|_=>a)
theorem gn{Q:Exit→Act→World→Prop}(b:Region.noSelect ops=true)(j:∀c (a:Act) t v w,Q (.panic c) (a.put (some t) v) w→Q (.panic c) a w):∀ (pr:List Nat) (d:List Oper) (f:Nat) (listed:Array Bool) (a:Act) (w:World),pr.map (ops[·]?)=d.map some→Tv md ops pr listed=true→wpAny P md ops Q f (Oh pr listed) (Ub d a) w→wpAny P md ops Q (pr.length+f) listed a w
 |[],[],f,listed,a,w,_,_,h=>by simpa [Oh,Ub]using h
 |[],_::_,_,_,_,_,he,_,_=>by simp at he
 |_::_,[],_,_,_,_,he,_,_=>by simp at he
 |i::pr,o::d,f,listed,a,w,he,e,h=>by
  simp only[qU,nW]at he;simp only[Tv,aU]at e;obtain⟨⟨⟨u,r⟩,hm⟩,g⟩:=e;rw[he.1]at hm;simp only[KU,CW]at hm;have l:∃x t,o.op= .move x∧o.guard=none∧o.dst=some t:=by
   unfold IL at hm;split at hm
   ·rename_i x t m n p;exact⟨x,t,m,n,p⟩
   ·cases hm
  obtain⟨x,t,k,s,q⟩:=l;rw[UT,show pr.length+1+f=(pr.length+f)+1 by omega];refine wpAny_take (v:=a.eval x) he.1 b r u (fun c a w=>by rw[q];exact j c a t _ w) (.inl ⟨by simp[Region.wanted,s],fun w=>by unfold execOp;simp[k]⟩) (gn b j pr d f _ _ w he.2 g ?_);simpa [Oh,Ub,k]using h
theorem Je.JG:∀ (pr:List Nat) (listed:Array Bool),Je md ops H listed→(∀i∈pr,H i=true)→Tv md ops pr listed=true→Je md ops H (Oh pr listed)
 |[],_,inv,_,_=>inv
 |i::pr,listed,inv,b,a=>by simp only[Tv,aU]at a;exact Je.JG pr _ (inv.set (by simpa using a.1.1.1) (b i (.head _))) (fun x c=>b x (.tail _ c)) a.2
def GI(md:Region.Mode)(ops:Array Oper)(b a tl:List Nat):Bool:=Region.noSelect ops&&dy md ops (tl.headD 0) a&&Uw md ops tl&&(List.range ops.size).all (fun k=>(a.contains k||b.contains k)||tl.contains k)&&tl.all (fun t=> !(a.contains t||b.contains t)&&decide (t<ops.size))&&a.all (fun t=>decide (t<ops.size))&&decide (b.length+(a.length+tl.length)=ops.size)&&b.all (fun t=>decide (t<ops.size))&&Tv md ops b (Array.replicate ops.size false)&&bp md ops tl a (Oh b (Array.replicate ops.size false))
theorem gA{Q:Exit→Act→World→Prop}{a:Act}{w:World}(e b tl:List Nat)(J:GI .any ops e b tl=true)(W:C {w with drawn:=w.drawn+1}) (X:∀c (a:Act) t v w,Q (.panic c) (a.put (some t) v) w→Q (.panic c) a w) (h:wpQuiet P ops C (fun y=>∀w',C w'→wpList P ops Q (tl.filterMap (ops[·]?)) y w') (b.filterMap (ops[·]?)) (Ub (e.filterMap (ops[·]?)) a)):wpAny P .any ops Q ops.size (Array.replicate ops.size false) a {w with drawn:=w.drawn+1}:=by
 simp only[GI,aU,GU,bU,GW]at J;obtain⟨⟨⟨⟨⟨⟨⟨⟨⟨n,hs⟩,hc⟩,z⟩,m⟩,s⟩,R⟩,N⟩,u⟩,A⟩:=J;have p:∀x,x<ops.size→(ops[x]?).isSome=true:=fun x d=>by rw[eV d];rfl
 have E:Je .any ops (fun k=>b.contains k||e.contains k) (Array.replicate ops.size false):=⟨by simp,fun j oj _ M=>(by rw[JV]at M;cases M),fun t l _=>getD_in (by simpa using l) (JV _ _)⟩;have inv1:=E.JG e _ (fun i hi=>by simp[hi]) u;have q:∀i,i∈b→∀listed,Je .any ops (fun k=>b.contains k||e.contains k) listed→listed.getD i true=false→∀t∈Region.ready .any ops listed,(b.contains t||e.contains t)=true:=by
  intro i hi listed inv S t l;have B:t<ops.size:=by obtain⟨_,o,ho,_⟩:=AX.1 l;exact(sU.1 ho).1
  have I:=z t B;rw[PU]at I;rcases I with f|f
  ·exact f
  ·exfalso;have f:t∈tl:=by simpa using f
   have D:∀x∈tl,listed.getD x true=false:=fun x d=>inv.tail x (m x d).2 (by simpa using(m x d).1);cases tl with
   |nil=>cases f
   |cons t0 r=>
    rcases dU.1 f with rfl|f
    ·exact gm inv b hs (fun x d=>s x d) i hi S l
    ·exact Wp (t0::r) hc D t f l
 have U:=Zm (P:=P) (C:=C) (md:=.any) (H:=fun k=>b.contains k||e.contains k) (G:=fun k=>k∈b) (tl:=tl) n q (fun t l=>by simpa using(m t l).1) b (b.filterMap (ops[·]?)) _ _ (map_filterMap _ b fun x d=>p x (s x d)) (fun i hi=>⟨by simp[hi],hi⟩) inv1 A h;have T:=Ti (Q':=Q) (g:=tl.length) (fun listed y w' K L=>pk (md:=.any) (Q':=Q) tl (tl.filterMap (ops[·]?)) listed y w' (map_filterMap _ tl fun x d=>p x (m x d).2) L.1 (L.2 w' K)) _ _ _ _ W U;have F:=gn n X e (e.filterMap (ops[·]?)) _ _ _ _ (map_filterMap _ e fun x d=>p x (N x d)) u T;rw[R]at F;exact F
theorem Es{k:Nat}{Q:Exit→Act→World→Prop}{a:Act}{w:World}(d b tl:List Nat)(j:P.follows .mixedOrders=true)(f:GI .any ops d b tl=true)(g:C {w with drawn:=w.drawn+1}) (i:∀c (a:Act) t v w,Q (.panic c) (a.put (some t) v) w→Q (.panic c) a w) (h:wpQuiet P ops C (fun e=>∀w',C w'→wpList P ops Q (tl.filterMap (ops[·]?)) e w') (b.filterMap (ops[·]?)) (Ub (d.filterMap (ops[·]?)) a)):(Code.region k ops true).wp P Q a w:=pY j (gA d b tl f g i h)
theorem qi{j:Nat}{Q:Exit→Act→World→Prop}{a:Act}{w:World}{l:List Oper}(d b tl:List Nat)(i:P.follows .mixedOrders=true)(f:GI .any l.toArray d b tl=true) (g:∀c (a:Act) t v w,Q (.panic c) (a.put (some t) v) w→Q (.panic c) a w) (h:wpQuiet P l.toArray (fun w'=>∃n,w'=w.drewN n) (fun e=>∀w',(∃n,w'=w.drewN n)→wpList P l.toArray Q (tl.filterMap (l[·]?)) e w') (b.filterMap (l[·]?)) (Ub (d.filterMap (l[·]?)) a)):(Code.region j l.toArray true).wp P Q a w:=Es (C:=fun w'=>∃n,w'=w.drewN n) d b tl i f ⟨1,rfl⟩ g (by simpa using h)
theorem Cb{k:Nat}{Q:Exit→Act→World→Prop}{a:Act}{w:World}{l:List Oper}(e b tl:List Nat)(j:P.follows .mixedOrders=true)(g:GI .any l.toArray e b tl=true) (i:∀c (a:Act) t v w,Q (.panic c) (a.put (some t) v) w→Q (.panic c) a w) (h:wpQuiet P l.toArray (fun w'=>∃p:Regrown,w'=Go.Sort.grow (redrawn w p.d) p.os) (fun f=>∀w',(∃p:Regrown,w'=Go.Sort.grow (redrawn w p.d) p.os)→wpList P l.toArray Q (tl.filterMap (l[·]?)) f w') (b.filterMap (l[·]?)) (Ub (e.filterMap (l[·]?)) a)):(Code.region k l.toArray true).wp P Q a w:=Es (C:=fun w'=>∃p:Regrown,w'=Go.Sort.grow (redrawn w p.d) p.os) e b tl j g ⟨⟨w.drawn+1,#[]⟩,by rw[zZ];rfl⟩ i (by simpa using h)
end
end
section
open Go Go.RowKit
section
variable {P:Program}{ops:Array Oper}{md:Region.Mode}{C:World→Prop}{H:Nat→Bool}
def Rx(md:Region.Mode)(ops:Array Oper):List Nat→Array Bool→Bool
 |[],_=>true
 |i::r,listed=>(Region.ready md ops listed).contains i&&Region.free md ops listed i&&((ops[i]?).map fun o=>o.dst.isSome).getD false&&Rx md ops r (listed.setIfInBounds i true)
def ni(P:Program)(ops:Array Oper)(K:Act→Prop):List Oper→Act→Prop
 |[],a=>K a
 |o::r,a=>∃v,Yields P ops o v a∧ni P ops K r (a.put o.dst v)
theorem Rq{Q:Exit→Act→World→Prop}{K:Act→Prop}(e:Region.noSelect ops=true)(m:∀c (a:Act) t v w,Q (.panic c) (a.put (some t) v) w→Q (.panic c) a w):∀ (pr:List Nat) (g:List Oper) (f:Nat) (listed:Array Bool) (a:Act) (w:World),pr.map (ops[·]?)=g.map some→Rx md ops pr listed=true→(∀j,K j→wpAny P md ops Q f (Oh pr listed) j w)→ni P ops K g a→wpAny P md ops Q (pr.length+f) listed a w
 |[],[],f,listed,a,w,_,_,h,d=>by simpa [Oh]using h a d
 |[],_::_,_,_,_,_,he,_,_,_=>by simp at he
 |_::_,[],_,_,_,_,he,_,_,_=>by simp at he
 |i::pr,o::g,f,listed,a,w,he,k,h,d=>by simp only[qU,nW]at he;simp only[Rx,aU]at k;obtain⟨⟨⟨p,n⟩,b⟩,l⟩:=k;obtain⟨v,q,d⟩:=d;rw[he.1]at b;simp only[KU,CW,zY]at b;obtain⟨t,b⟩:=b;rw[UT,show pr.length+1+f=(pr.length+f)+1 by omega];exact wpAny_take (v:=v) he.1 e n p (fun c a w=>by rw[b];exact m c a t _ w) q (Rq e m pr g f _ _ w he.2 l (by simpa [Oh]using h) d)
theorem Je.mQ:∀ (pr:List Nat) (listed:Array Bool),Je md ops H listed→(∀i∈pr,H i=true)→Rx md ops pr listed=true→Je md ops H (Oh pr listed)
 |[],_,inv,_,_=>inv
 |i::pr,listed,inv,b,a=>by simp only[Rx,aU]at a;exact Je.mQ pr _ (inv.set (by simpa using a.1.1.1) (b i (.head _))) (fun x c=>b x (.tail _ c)) a.2
def VL(md:Region.Mode)(ops:Array Oper)(b a tl:List Nat):Bool:=Region.noSelect ops&&dy md ops (tl.headD 0) a&&Uw md ops tl&&(List.range ops.size).all (fun k=>(a.contains k||b.contains k)||tl.contains k)&&tl.all (fun t=> !(a.contains t||b.contains t)&&decide (t<ops.size))&&a.all (fun t=>decide (t<ops.size))&&decide (b.length+(a.length+tl.length)=ops.size)&&b.all (fun t=>decide (t<ops.size))&&Rx md ops b (Array.replicate ops.size false)&&bp md ops tl a (Oh b (Array.replicate ops.size false))
theorem Hy{id:Nat}{Q:Exit→Act→World→Prop}{a:Act}{w:World}(l b tl:List Nat)(hm:P.follows .mixedOrders=true)(L:VL .any ops l b tl=true)(X:C {w with drawn:=w.drawn+1}) (hQ:∀c (a:Act) t v w,Q (.panic c) (a.put (some t) v) w→Q (.panic c) a w) (h:ni P ops (fun e=>wpQuiet P ops C (fun e=>∀w',C w'→wpList P ops Q (tl.filterMap (ops[·]?)) e w') (b.filterMap (ops[·]?)) e) (l.filterMap (ops[·]?)) a):(Code.region id ops true).wp P Q a w:=by
 simp only[VL,aU,GU,bU,GW]at L;obtain⟨⟨⟨⟨⟨⟨⟨⟨⟨q,hs⟩,hc⟩,A⟩,p⟩,y⟩,T⟩,S⟩,z⟩,B⟩:=L;have s:∀x,x<ops.size→(ops[x]?).isSome=true:=fun x d=>by rw[eV d];rfl
 have F:Je .any ops (fun k=>b.contains k||l.contains k) (Array.replicate ops.size false):=⟨by simp,fun j oj _ R=>(by rw[JV]at R;cases R),fun t n _=>getD_in (by simpa using n) (JV _ _)⟩;have inv1:=F.mQ l _ (fun i hi=>by simp[hi]) z;have u:∀i,i∈b→∀listed,Je .any ops (fun k=>b.contains k||l.contains k) listed→listed.getD i true=false→∀t∈Region.ready .any ops listed,(b.contains t||l.contains t)=true:=by
  intro i hi listed inv U t n;have D:t<ops.size:=by obtain⟨_,o,ho,_⟩:=AX.1 n;exact(sU.1 ho).1
  have J:=A t D;rw[PU]at J;rcases J with m|m
  ·exact m
  ·exfalso;have m:t∈tl:=by simpa using m
   have E:∀x∈tl,listed.getD x true=false:=fun x d=>inv.tail x (p x d).2 (by simpa using(p x d).1);cases tl with
   |nil=>cases m
   |cons t0 r=>
    rcases dU.1 m with rfl|m
    ·exact gm inv b hs (fun x d=>y x d) i hi U n
    ·exact Wp (t0::r) hc E t m n
 refine pY hm ?_;have I:=Rq (K:=fun e=>wpQuiet P ops C (fun e=>∀w',C w'→wpList P ops Q (tl.filterMap (ops[·]?)) e w') (b.filterMap (ops[·]?)) e) (Q:=Q) (P:=P) (md:=.any) (f:=b.length+tl.length) q hQ l (l.filterMap (ops[·]?)) (Array.replicate ops.size false) a {w with drawn:=w.drawn+1} (map_filterMap _ l fun x d=>s x (S x d)) z (fun e h'=>by have W:=Zm (P:=P) (C:=C) (md:=.any) (H:=fun k=>b.contains k||l.contains k) (G:=fun k=>k∈b) (tl:=tl) q u (fun t n=>by simpa using(p t n).1) b (b.filterMap (ops[·]?)) _ _ (map_filterMap _ b fun x d=>s x (y x d)) (fun i hi=>⟨by simp[hi],hi⟩) inv1 B h';exact Ti (Q':=Q) (g:=tl.length) (fun listed e w' M N=>pk (md:=.any) (Q':=Q) tl (tl.filterMap (ops[·]?)) listed e w' (map_filterMap _ tl fun x d=>s x (p x d).2) N.1 (N.2 w' M)) _ _ _ _ X W) h;rw[T]at I;exact I
theorem Ih{j:Nat}{Q:Exit→Act→World→Prop}{a:Act}{w:World}{l:List Oper}(e d tl:List Nat)(i:P.follows .mixedOrders=true)(f:VL .any l.toArray e d tl=true) (g:∀c (a:Act) t v w,Q (.panic c) (a.put (some t) v) w→Q (.panic c) a w) (h:ni P l.toArray (fun b=>wpQuiet P l.toArray (fun w'=>∃n,w'=w.drewN n) (fun b=>∀w',(∃n,w'=w.drewN n)→wpList P l.toArray Q (tl.filterMap (l[·]?)) b w') (d.filterMap (l[·]?)) b) (e.filterMap (l[·]?)) a):(Code.region j l.toArray true).wp P Q a w:=Hy (C:=fun w'=>∃n,w'=w.drewN n) e d tl i f ⟨1,rfl⟩ g (by simpa using h)
end
end
namespace An
theorem Lo{e:Ev}(h:od e=0):e.Xi≠[]∧e.Xi.length≤16∧e.data.length≤200:=by
 unfold od at h;split at h
 ·cases h
 ·rename_i a;split at h
  ·cases h
  ·rename_i b;simp at a;exact⟨a,by omega,by omega⟩
theorem DA{e:Ev}(r:Bs)(h:od e=0)(c:e.w<18446744073709551616):Yg (Xc e++r)=some (e,r):=by obtain⟨_,d,f⟩:=Lo h;have a:(put e.w 8).length=8:=Jb _ _;have b:num (put e.w 8)=e.w:=ug (by simpa using c);unfold Yg;rw[show Xc e++r=text e.Xi++(text e.data++(put e.w 8++r)) by simp[Xc],jt _ (by omega)];dsimp only;rw[jt _ (by omega)];dsimp only;rw[DT (by simp[a]),re a,b,Nd a];simp[h]
theorem Py{l:List Ev}(h:Yf l=0):∀e∈l,od e=0:=by
 induction l with
 |nil=>intro e he;cases he
 |cons a r c=>
  unfold Yf at h;split at h
  ·rename_i b;intro e he;rcases dU.1 he with rfl|he
   ·exact b
   ·exact c h e he
  ·rename_i b;exact absurd h b
theorem Mr(r:Bs):∀l:List Ev,(∀e∈l,od e=0∧e.w<18446744073709551616)→sg l.length (l.flatMap Xc++r)=some (l,r)
 |[],_=>rfl
 |e::l,h=>by rw[UT,sg,AU,iU,DA _ (h e (.head _)).1 (h e (.head _)).2];dsimp only;rw[Mr r l fun x a=>h x (.tail _ a)]
structure ow(b:Za):Prop where
 check:jd b=0
 ws:∀e∈b.vc,e.w<18446744073709551616
theorem Hd{b:Za}(h:jd b=0):b.stream≠[]∧b.vc≠[]∧b.stream.length≤32∧b.vc.length≤8∧b.first+b.vc.length≤1073741824∧∀e∈b.vc,od e=0:=by
 unfold jd at h;split at h
 ·cases h
 ·rename_i a;split at h
  ·cases h
  ·rename_i c;split at h
   ·cases h
   ·rename_i d;simp only[BW,lZ]at a;exact⟨a.1,a.2,by omega,by omega,by omega,Py h⟩
theorem Hl{b:Za}(h:ow b):Gs (Sa b)=some b:=by
 obtain⟨l,m,n,o,p,d⟩:=Hd h.check;have a:(put b.first 8).length=8:=Jb _ _;have c:num (put b.first 8)=b.first:=ug (by simp;omega);have k:put b.vc.length 1=[b8 b.vc.length]:=by simp[mj,put]
 have f:(b8 b.vc.length).toNat=b.vc.length:=by rw[Vf];omega
 unfold Gs;rw[show Sa b=text b.stream++(put b.first 8++(b8 b.vc.length::b.vc.flatMap Xc)) by simp[Sa,k],jt _ (by omega)];dsimp only;have j:¬ ((put b.first 8++(b8 b.vc.length::b.vc.flatMap Xc)).length<9∨1073741824<num ((put b.first 8++(b8 b.vc.length::b.vc.flatMap Xc)).take 8)):=by rw[re a,c];simp only[CT,a,UT];omega
 have i:(put b.first 8++(b8 b.vc.length::b.vc.flatMap Xc))[8]? =some (b8 b.vc.length):=by rw[vV (by omega),a];rfl
 have g:(put b.first 8++(b8 b.vc.length::b.vc.flatMap Xc)).drop 9=b.vc.flatMap Xc++[]:=by rw[show(9:Nat)=8+1 from rfl,←jV,Nd a];simp
 rw[DT j,i,g,re a,c];simp only[CW,f];rw[Mr [] b.vc fun e he=>⟨d e he,h.ws e he⟩];dsimp only;rw[JT ⟨rfl,h.check⟩]
theorem iq{e:Ev}:(Xc e).length=e.Xi.length+e.data.length+12:=by simp[Xc,xu,Jb];omega
theorem Ej{b:Za}(h:ow b):(Sa b).length≤2000:=by
 obtain⟨i,j,k,m,n,d⟩:=Hd h.check;have:∀l:List Ev,(∀e∈l,od e=0)→(l.flatMap Xc).length≤228*l.length:=by
  intro l;induction l with
  |nil=>intro _;simp
  |cons e r g=>intro c;have:=g fun x f=>c x (.tail _ f);obtain⟨_,a,b⟩:=Lo (c e (.head _));rw[AU,CT,iq,UT];omega
 have:=this b.vc d;simp only[Sa,CT,xu,Jb];omega
structure Iy(e:qa):Prop where
 Qa:e.Qa<18446744073709551616
 Qb:e.Qb<9223372036854775808
 pos:e.pos<9223372036854775808
theorem rh(e:qa):(Nf e).length=24:=by simp[Nf,Jb]
theorem bx{e:qa}(h:Iy e):vj (Nf e)=some e:=by
 have a:(put e.Qa 8).length=8:=Jb _ _;have a2:(put e.Qb 8).length=8:=Jb _ _;have a3:(put e.pos 8).length=8:=Jb _ _;have c:num (put e.Qa 8)=e.Qa:=ug (by simpa using h.Qa);have d:num (put e.Qb 8)=e.Qb:=ug (by have:=h.Qb;simp;omega);have f:num (put e.pos 8)=e.pos:=ug (by have:=h.pos;simp;omega);have b:Nf e=put e.Qa 8++(put e.Qb 8++put e.pos 8):=by simp[Nf]
 unfold vj;rw[DT (by simp[rh]),b,Nd a,re a2,re a,show(16:Nat)=8+8 from rfl,←jV,Nd a,Nd a2,c,d,f];rw[DT (by have:=h.Qb;have:=h.pos;omega)]
theorem ru:∀l:List qa,(∀e∈l,Iy e)→Zd l.length (l.flatMap Nf)=some l
 |[],_=>rfl
 |e::r,h=>by rw[UT,Zd,AU,re (rh e),Nd (rh e),bx (h e (.head _)),ru r fun x a=>h x (.tail _ a)];rfl
theorem ti(l:List qa):(l.flatMap Nf).length=24*l.length:=by
 induction l with
 |nil=>rfl
 |cons e r a=>rw[AU,CT,rh,a,UT];omega
theorem uu{l:List qa}(f:ub l=true)(c:∀e∈l,Iy e)(g:l.length<100000000):mf (Tb l)=some l:=by
 have a:(put l.length 4).length=4:=Jb _ _;have d:num (put l.length 4)=l.length:=ug (by simp;omega);have b:Hi++put l.length 4++l.flatMap Nf=Hi++(put l.length 4++l.flatMap Nf):=by simp
 have t4:Hi.length=4:=rfl;unfold mf Tb;rw[im];dsimp only;rw[b,re t4,Nd t4,re a,d,show(8:Nat)=4+4 from rfl,←jV,Nd t4,Nd a,ti];rw[DT (by
  rintro(h|h)
  ·simp only[CT,a,t4]at h;omega
  ·exact h rfl),DT (by omega),ru l c];simp[f]
theorem jo(l:List qa):(Tb l).length=24*l.length+12:=by simp only[Tb,rj,CT,Jb,ti,show Hi.length=4 from rfl];omega
theorem Rv(l:List (List Nat)):Ab (Ab l)=Ab l:=by
 unfold Ab;rw[QW];congr 1;generalize l.reverse=m;induction m with
 |nil=>rfl
 |cons a r b=>
  rw[ZW];split
  ·exact b
  ·rename_i h;rw[ZW,DT h]
theorem Nt(m:List (List Nat)):(m.dropWhile List.isEmpty).reverse.flatten=m.reverse.flatten:=by
 induction m with
 |nil=>rfl
 |cons a r b=>
  rw[ZW];split
  ·rename_i h;simp only[BW]at h;subst h;rw[b];simp
  ·rfl
theorem Yc(l:List (List Nat)):(Ab l).flatten=l.flatten:=by unfold Ab;rw[Nt,QW]
theorem Df(l:List (List Nat)):(Ab l).length≤l.length:=by unfold Ab;rw[EV];have:=(List.dropWhile_sublist (l:=l.reverse) List.isEmpty).length_le;simpa using this
theorem Xt{l:List (List Nat)}(h:Rc l=true):Rc (Ab l)=true:=by unfold Rc at h⊢;rw[Yc];have:=Df l;simp only[aU,bU]at h⊢;exact⟨⟨by omega,h.1.2⟩,h.2⟩
theorem Vt(r:Bs):∀l:List Nat,(∀n∈l,n<4294967296)→Tj l.length ((l.flatMap fun n=>put n 4)++r)=some (l,r)
 |[],_=>rfl
 |n::l,h=>by have a:(put n 4).length=4:=Jb _ _;have b:num (put n 4)=n:=ug (by have:=h n (.head _);simpa using this);rw[UT,Tj,AU,iU,DT (by simp[a]),Nd a,re a,b,Vt r l fun x c=>h x (.tail _ c)];rfl
theorem Wt(r:Bs):∀l:List (List Nat),(∀x∈l,x.length<256∧∀n∈x,n<4294967296)→Cg l.length (l.flatMap Sd++r)=some (l,r)
 |[],_=>rfl
 |x::l,h=>by
  have c:put x.length 1=[b8 x.length]:=by simp[mj,put]
  have a:(b8 x.length).toNat=x.length:=by rw[Vf];have:=(h x (.head _)).1;omega
  have e:(x::l).flatMap Sd++r=b8 x.length::((x.flatMap fun n=>put n 4)++(l.flatMap Sd++r)):=by simp[Sd,c]
  rw[e,UT,Cg,a,Vt _ x (h x (.head _)).2];dsimp only;rw[Wt r l fun y b=>h y (.tail _ b)];rfl
theorem rq{l:List (List Nat)}{x:List Nat}(h:x∈l):x.length≤l.flatten.length:=by
 induction l with
 |nil=>cases h
 |cons a r b=>
  rw[oV,CT];rcases dU.1 h with rfl|h
  ·omega
  ·have:=b h;omega
theorem Hz(m:Fa):Xb {m with ia:=Ab m.ia}=Xb m:=by simp[Xb,Rv]
theorem Un{m:Fa}(a:dd m=true)(k:m.da<18446744073709551616):qg (Xb m)=some {m with ia:=Ab m.ia}:=by
 have d:dd {m with ia:=Ab m.ia}=true:=by unfold dd at a⊢;simp only[Yc];simp only[aU]at a⊢;exact⟨⟨a.1.1,Xt a.1.2⟩,a.2⟩
 have hb:=d;unfold dd Rc at hb;simp only[aU,bU,GU]at hb;obtain⟨⟨⟨b1,b2⟩,⟨⟨b3,b4⟩,r⟩⟩,g⟩:=hb;have e:(put m.next 4).length=4:=Jb _ _;have a2:(put m.check 4).length=4:=Jb _ _;have a3:(put m.da 8).length=8:=Jb _ _;have l:num (put m.next 4)=m.next:=ug (by simp;omega);have o:num (put m.check 4)=m.check:=ug (by simp;omega);have p:num (put m.da 8)=m.da:=ug (by simpa using k);have q:put (Ab m.ia).length 1=[b8 (Ab m.ia).length]:=by simp[mj,put]
 have i:(b8 (Ab m.ia).length).toNat=(Ab m.ia).length:=by rw[Vf];omega
 have b:=Wt [] (Ab m.ia) fun x f=>⟨by have:=rq f;omega,fun n j=>by have:=g n (FV.2 ⟨x,f,j⟩);omega⟩;rw[EU]at b;have h:Se++put m.next 4++put m.check 4++put m.da 8++put (Ab m.ia).length 1++(Ab m.ia).flatMap Sd=Se++(put m.next 4++(put m.check 4++(put m.da 8++(b8 (Ab m.ia).length::(Ab m.ia).flatMap Sd)))):=by simp[q]
 have t4:Se.length=4:=rfl;have hm:=Hz m;unfold qg;rw[show Xb m=Qg (Se++put m.next 4++put m.check 4++put m.da 8++put (Ab m.ia).length 1++(Ab m.ia).flatMap Sd) from rfl,im];dsimp only;rw[show Qg (Se++put m.next 4++put m.check 4++put m.da 8++put (Ab m.ia).length 1++(Ab m.ia).flatMap Sd)=Xb m from rfl,h];have d4:∀x:Bs,(Se++x).drop 4=x:=fun x=>Nd t4;have d8:∀x:Bs,(Se++(put m.next 4++x)).drop 8=x:=fun x=>by rw[show(8:Nat)=4+4 from rfl,←jV,Nd t4,Nd e]
 have d12:∀x:Bs,(Se++(put m.next 4++(put m.check 4++x))).drop 12=x:=fun x=>by rw[show(12:Nat)=8+4 from rfl,←jV,d8,Nd a2]
 have d20:∀x:Bs,(Se++(put m.next 4++(put m.check 4++(put m.da 8++x)))).drop 20=x:=fun x=>by rw[show(20:Nat)=12+8 from rfl,←jV,d12,Nd a3]
 have g20:∀x:Bs,(Se++(put m.next 4++(put m.check 4++(put m.da 8++x))))[20]? =x[0]? :=fun x=>by rw[←d20 x,List.getElem?_drop];rw[d20]
 have d21:∀ (c:UInt8) (x:Bs),(Se++(put m.next 4++(put m.check 4++(put m.da 8++(c::x))))).drop 21=x:=fun c x=>by rw[show(21:Nat)=20+1 from rfl,←jV,d20];rfl
 rw[DT (by simp[re t4,t4]),DT (by simp only[CT,UT,e,a2,a3,t4];omega),g20,d21,d4,d8,d12,re e,re a2,re a3,l,o,p];simp only[NT,CW,i,b];rw[JT ⟨rfl,d,hm⟩]
end An
section
open Go Go.RowKit
section
variable {P:Program}{ops:Array Oper}{Q:Exit→Act→World→Prop}{md:Region.Mode}{S:World→Prop}{R:World→World→Prop}{late:List Nat}
def Jh(P:Program)(ops:Array Oper)(S:World→Prop)(R:World→World→Prop)(o:Oper)(v:Value)(a:Act):Prop:=(Region.wanted o (yielded ops a.tmps)=true∧∀w,S w→o.quietAt P a (R w) w v)∨(Region.wanted o (yielded ops a.tmps)=false∧v=undef)
theorem Jh.of_same{o:Oper}{v:Value}{a b:Act}(e:Jh P ops S R o v a)(c:execOp b.eval o=execOp a.eval o) (d:Region.wanted o (yielded ops b.tmps)=Region.wanted o (yielded ops a.tmps)):Jh P ops S R o v b:=by unfold Jh Oper.quietAt at*;rw[c,d];exact e
theorem Jh.wpOp{i:Nat}{o:Oper}{v:Value}{a:Act}(hi:ops[i]? =some o)(p:Jh P ops S R o v a)(g:∀w,R w w){K:Act→World→Prop}{w:World}(k:S w) (h:∀w',R w w'→K (a.put o.dst v) w'):wpOp P ops Q i K a w:=by
 unfold Go.wpOp;simp only[hi];rcases p with⟨hw,m⟩|⟨hw,rfl⟩
 ·simp only[hw,dZ];refine .inl ?_;have b:=m w k;unfold Oper.quietAt at b;unfold Oper.wp;generalize(execOp a.eval o).run P w=r at*;cases r with
  |ok n w'=>
   cases n<;>simp only[Oper.quietUpon]at b<;>simp only[Oper.upon];case value u=>obtain⟨c,d⟩:=b;rw[c,d];exact h _ (g w)
   case skip=>obtain⟨c,d⟩:=b;rw[c,←d];exact h _ (g w)
   case enter f args=>obtain⟨c,l⟩:=b;rw[c];exact l.mono fun e q ⟨he,j⟩=>by subst he;exact h _ j
  |halt x w'=>simp only[Oper.quietUpon]at b
 ·simp only[hw,KV,RX];exact h w (g w)
theorem rJ{j:Nat}{g i:Oper}{v:Value}(D:ops[j]? =some i)(A:g.apart ops i=true) (B:∀cs b,g.op≠ .select cs b) (q:∀cs b,i.op≠ .select cs b) (z:∀c a w,Q (.panic c) (a.put g.dst v) w→Q (.panic c) a w) {K:Act→World→Prop} {a:Act} {w:World} (k:Jh P ops S R g v a) (h:wpOp P ops Q j K (a.put g.dst v) w):wpOp P ops Q j (fun t w'=>Jh P ops S R g v t∧K (t.put g.dst v) w') a w:=by
 obtain⟨s,m,y⟩:=Oper.apart_spec A;have Ga:∀ (a:Act),Jh P ops S R g v a→∀u,Jh P ops S R g v (a.put i.dst u):=fun a k u=>k.of_same (execOp_put g B a i.dst u y) (wanted_put g a i.dst u y);have p:∀d,Jh P ops S R g v {a with defers:=d::a.defers}:=fun d=>k.of_same rfl rfl;unfold wpOp at*;simp only[D]at*;rw[wanted_put i a g.dst v s]at h;split
 ·rename_i hw;simp only[hw,dZ]at h;rcases h with h|⟨l,o⟩;case inr=>exact .inr ⟨by unfold Oper.asks at*;rw[execOp_put i q a g.dst v s]at l;exact l,o⟩
  refine .inl ?_;unfold Oper.wp at*;rw[execOp_put i q a g.dst v s]at h;generalize(execOp a.eval i).run P w=r at*;cases r with
  |ok n w'=>
   cases n<;>simp only[Oper.upon]at h⊢;case value u=>exact⟨Ga a k u,by rw[←wY a v u m];exact h⟩
   case skip=>exact⟨Ga a k _,by rw[←wY a v undef m];exact h⟩
   case defer d=>refine⟨Ga _ (p d) _,?_⟩;rw[←wY _ v undef m,←Act.put_defers];exact h
   case enter f args=>
    refine Calls.mono h fun e C he=> ?_;cases e with
    |returned u=>exact⟨Ga a k u,by rw[←wY a v u m];exact he⟩
    |panicked c=>exact z _ _ _ he
    |outgrown=>exact he
   case row row args=>exact Rows.mono h fun u C he=>⟨Ga a k u,by rw[←wY a v u m];exact he⟩
  |halt x w'=>
   cases x<;>simp only[Oper.upon]at h⊢;case panic u=>exact z _ _ _ h
   all_goals exact h
 ·rename_i hw;simp only[hw]at h;exact⟨Ga a k _,by rw[←wY a v undef m];exact h⟩
def vm(P:Program)(md:Region.Mode)(ops:Array Oper)(Q:Exit→Act→World→Prop)(S:World→Prop)(R:World→World→Prop)(late:List Nat):Nat→Array Bool→Act→World→Prop
 |0,listed,a,w=>Region.ready md ops listed=[]∧Q .normal a w
 |f+1,listed,a,w=>(Region.ready md ops listed=[]→Q .normal a w)∧∀i∈Region.ready md ops listed,wpOp P ops Q i (fun b w'=>(i∉late→S w'∧∀w2,R w' w2→vm P md ops Q S R late f (listed.setIfInBounds i true) b w2)∧(i∈late→vm P md ops Q S R late f (listed.setIfInBounds i true) b w')) a w
theorem ot(b:∀w,R w w):∀ (f:Nat) (listed:Array Bool) (a:Act) (w:World),vm P md ops Q S R late f listed a w→wpAny P md ops Q f listed a w
 |0,_,_,w,h=>h
 |f+1,_,_,w,h=>⟨h.1,fun i hi=>AZ (fun d w' h'=>ot b f _ d w' (by
  by_cases c:i∈late
  ·exact h'.2 c
  ·exact(h'.1 c).2 w' (b w'))) (h.2 i hi)⟩
abbrev cz(md:Region.Mode)(ops:Array Oper)(a:Array Bool):Prop:=Je md ops (fun _=>true) a
def Tx(md:Region.Mode)(ops:Array Oper):Nat→Nat→Nat→Bool
 |0,t,i=>Region.waitsFor md ops t i
 |f+1,t,i=>Region.waitsFor md ops t i||(List.range ops.size).any fun m=>Region.waitsFor md ops t m&&Tx md ops f m i
theorem sj{j i:Nat}{a:Array Bool}(c:cz md ops a)(m:Region.waitsFor md ops j i=true)(g:a.getD i true=false):a.getD j true=false:=by
 obtain⟨n,b,e,he,hb,f⟩:=iZ m;have l:j<ops.size:=(sU.1 b).1;cases d:a.getD j true with
 |false=>rfl
 |true=>
  have k:a.getD j false=true:=by rw[Array.getD_eq_getD_getElem?,eV (by rw[c.size];exact l)]at d⊢;exact d
  have h:=c.closed j n b k e he hb;rw[f,getD_both g]at h;cases h
theorem Xs:∀ (f:Nat) {t i:Nat} {listed:Array Bool},cz md ops listed→Tx md ops f t i=true→listed.getD i true=false→listed.getD t true=false∧t∉Region.ready md ops listed
 |0,t,i,listed,inv,h,a=>⟨sj inv h a,ye h a⟩
 |f+1,t,i,listed,inv,h,a=>by
  simp only[Tx,PU,bX,aU]at h;rcases h with h|⟨m,_,b,d⟩
  ·exact⟨sj inv h a,ye h a⟩
  ·have c:=(Xs f inv d a).1;exact⟨sj inv b c,ye b c⟩
theorem Cu{i:Nat}{p:Oper}{v:Value}(F:∀w,R w w)(M:∀a b c,R a b→R b c→R a c)(x:∀w w',S w→R w w'→S w')(hi:ops[i]? =some p)(B:∀ (j:Nat) (o:Oper) cs b,ops[j]? =some o→o.op≠ .select cs b) (hQ:∀c a w,Q (.panic c) (a.put p.dst v) w→Q (.panic c) a w) (G:∀j∈late,∀listed:Array Bool,cz md ops listed→listed.getD i true=false→j∉Region.ready md ops listed) (K:i∉late):∀ (f:Nat) (listed:Array Bool) (a:Act) (w:World),cz md ops listed→(∀j q,ops[j]? =some q→j≠i→listed.getD j true=false→(∀e∈q.after,Region.binds md e=true→e.on≠i)→p.apart ops q=true)→i∈Region.ready md ops listed→Jh P ops S R p v a→S w→(∀w1,R w w1→vm P md ops Q S R late f (listed.setIfInBounds i true) (a.put p.dst v) w1)→vm P md ops Q S R late (f+1) listed a w:=by
 intro f;induction f with
 |zero=>
  intro listed a w _ _ n I u H;refine⟨fun h=>(by rw[h]at n;cases n),fun j t=> ?_⟩;by_cases d:j=i
  ·subst d;exact I.wpOp hi F u fun w' m=>⟨fun _=>⟨x _ _ u m,fun w2 g=>H w2 (M _ _ _ m g)⟩,fun h=>absurd h K⟩
  ·have:=(H w (F w)).1;have D:=mZ t d;rw[this]at D;cases D
 |succ f ih=>
  intro listed a w J r n I u H;have l:=(AX.1 n).1;refine⟨fun h=>(by rw[h]at n;cases n),fun j t=> ?_⟩;by_cases d:j=i
  ·subst d;exact I.wpOp hi F u fun w' m=>⟨fun _=>⟨x _ _ u m,fun w2 g=>H w2 (M _ _ _ m g)⟩,fun h=>absurd h K⟩
  ·have s:j∉late:=fun h=>G j h listed J l t;have C:=(H w (F w)).2 j (mZ t d);obtain⟨z,q,A,N⟩:=AX.1 t;have T:∀e∈q.after,Region.binds md e=true→e.on≠i:=fun e he hb heq=>by have C:=N e he hb;rw[heq,getD_both l]at C;cases C
   have D:=rJ A (r j q A d z T) (fun cs b=>B i p cs b hi) (fun cs b=>B j q cs b A) hQ I C;have y:∀k ok,ops[k]? =some ok→k≠i→(listed.setIfInBounds j true).getD k true=false→(∀e∈ok.after,Region.binds md e=true→e.on≠i)→p.apart ops ok=true:=fun k ok hk U l W=>by
    refine r k ok hk U ?_ W;by_cases L:j=k
    ·subst L;exact z
    ·rw[getD_set_ne true L]at l;exact l
   refine AZ (fun a' w' E=>⟨fun _=>⟨(E.2.1 s).1,fun w2 g=> ?_⟩,fun h=>absurd h s⟩) D;refine ih (listed.setIfInBounds j true) a' w2 (J.set t rfl) y (mZ n (Ne.symm d)) E.1 (x _ _ (E.2.1 s).1 g) fun w3 X=> ?_;rw[Array.setIfInBounds_comm _ _ d];exact(E.2.1 s).2 w3 (M _ _ _ g X)
def fh(P:Program)(ops:Array Oper)(S:World→Prop)(R:World→World→Prop)(K:Act→Prop):List Oper→Act→Prop
 |[],a=>K a
 |o::r,a=>∃v,Jh P ops S R o v a∧fh P ops S R K r (a.put o.dst v)
def Sb(P:Program)(ops:Array Oper)(Q:Exit→Act→World→Prop)(S:World→Prop)(R:World→World→Prop)(lt:List Oper):List Oper→Act→World→Prop
 |[],a,w=>wpList P ops Q lt a w
 |o::r,a,w=>if Region.wanted o (yielded ops a.tmps)=true then o.wp P a w (fun c w'=>S w'∧∀b,R w' b→Sb P ops Q S R lt r c b) Q else S w∧∀b,R w b→Sb P ops Q S R lt r (a.put o.dst undef) b
theorem ic{lt r:List Oper}{o:Oper}{a:Act}{w:World} (h:∀K:Act→World→Prop,(∀b w',S w'→(∀c,R w' c→Sb P ops Q S R lt r b c)→K b w')→if Region.wanted o (yielded ops a.tmps)=true then o.wp P a w K Q else K (a.put o.dst undef) w):Sb P ops Q S R lt (o::r) a w:=h _ fun _ _ d e=>⟨d,e⟩
theorem gb{r:List Oper}{o:Oper}{a:Act}{b:Act→Prop}(e:Region.wanted o (yielded ops a.tmps)=true)(h:∀K:Act→Prop,(∀a,fh P ops S R b r a→K a)→∃v,(∀w,S w→o.quietAt P a (R w) w v)∧K (a.put o.dst v)):fh P ops S R b (o::r) a:=let⟨v,c,d⟩:=h _ fun _ h=>h;⟨v,.inl ⟨e,c⟩,d⟩
theorem db{r:List Oper}{o:Oper}{a:Act}{b:Act→Prop}(c:Region.wanted o (yielded ops a.tmps)=false)(h:∀K:Act→Prop,(∀a,fh P ops S R b r a→K a)→K (a.put o.dst undef)):fh P ops S R b (o::r) a:=⟨undef,.inr ⟨c,rfl⟩,h _ fun _ h=>h⟩
theorem drewN_drewN(w:World)(a b:Nat):(w.drewN a).drewN b=w.drewN (a+b):=by simp only[World.drewN,RY]
theorem Eb{a:Act}{K:Act→Prop}(h:K a):fh P ops S R K [] a:=h
def RG(md:Region.Mode)(ops:Array Oper)(mk tl:List Nat):List Nat→Array Bool→Bool
 |[],listed=>vp md ops (mk++tl) listed
 |i::r,listed=>(Region.ready md ops listed).contains i&&Region.free md ops listed i&&((ops[i]?).map fun o=>o.dst.isSome).getD false&&tl.all (fun t=>Tx md ops 12 t i)&& !tl.contains i&&RG md ops mk tl r (listed.setIfInBounds i true)
theorem dv:∀ (tl:List Nat) (lt:List Oper) (listed:Array Bool) (a:Act) (w:World),tl.map (ops[·]?)=lt.map some→(∀t∈tl,t∈late)→vp md ops tl listed=true→wpList P ops Q lt a w→vm P md ops Q S R late tl.length listed a w
 |[],[],_,_,_,_,_,b,h=>⟨by simpa [vp]using b,h⟩
 |[],_::_,_,_,_,he,_,_,_=>by simp at he
 |_::_,[],_,_,_,he,_,_,_=>by simp at he
 |t::tl,o::lt,listed,a,w,he,d,b,h=>by
  simp only[qU,nW]at he;simp only[vp,aU,bU]at b;refine⟨fun c=>(by rw[b.1]at c;cases c),fun i hi=> ?_⟩;rw[b.1]at hi;obtain rfl:i=t:=by simpa using hi
  have hw:wpOp P ops Q i (wpList P ops Q lt) a w:=by unfold wpOp;simp only[he.1];exact h
  exact AZ (fun e w' h'=>⟨fun f=>absurd (d i (.head _)) f,fun _=>dv tl lt _ e w' he.2 (fun x g=>d x (.tail _ g)) b.2 h'⟩) hw
theorem et{tl:List Nat}{lt:List Oper}(d:tl.map (ops[·]?)=lt.map some)(c:∀t∈tl,t∈late):∀ (mk:List Nat) (lm:List Oper) (listed:Array Bool) (a:Act) (w:World),mk.map (ops[·]?)=lm.map some→(∀t∈mk,t∉late)→vp md ops (mk++tl) listed=true→Sb P ops Q S R lt lm a w→vm P md ops Q S R late (mk.length+tl.length) listed a w
 |[],[],listed,a,w,_,_,b,h=>by rw[JU,BU];exact dv tl lt listed a w d c b h
 |[],_::_,_,_,_,he,_,_,_=>by simp at he
 |_::_,[],_,_,_,he,_,_,_=>by simp at he
 |t::mk,o::lm,listed,a,w,he,j,b,h=>by
  simp only[qU,nW]at he;simp only[TU,vp,aU,bU]at b;rw[UT,show mk.length+1+tl.length=(mk.length+tl.length)+1 by omega];refine⟨fun g=>(by rw[b.1]at g;cases g),fun i hi=> ?_⟩;rw[b.1]at hi;obtain rfl:i=t:=by simpa using hi
  have m:=j i (.head _);have hw:wpOp P ops Q i (fun e w'=>S w'∧∀l,R w' l→Sb P ops Q S R lt lm e l) a w:=by
   unfold wpOp;simp only[he.1];unfold Sb at h;split
   ·rename_i hw;rw[JT hw]at h;exact .inl h
   ·rename_i hw;rw[DT hw]at h;exact h
  exact AZ (fun e w' h'=>⟨fun _=>⟨h'.1,fun w2 k=>et d c mk lm _ e w2 he.2 (fun x f=>j x (.tail _ f)) b.2 (h'.2 w2 k)⟩,fun f=>absurd f m⟩) hw
theorem Cy(z:∀w,R w w)(A:∀a b c,R a b→R b c→R a c)(e:∀w w',S w→R w w'→S w')(k:Region.noSelect ops=true)(E:∀c (a:Act) t v w,Q (.panic c) (a.put (some t) v) w→Q (.panic c) a w) {mk tl:List Nat} {B lt:List Oper} (s:mk.map (ops[·]?)=B.map some) (x:tl.map (ops[·]?)=lt.map some) (u:∀t∈mk,t∉tl):∀ (d:List Nat) (p:List Oper) (listed:Array Bool) (a:Act) (w:World),cz md ops listed→d.map (ops[·]?)=p.map some→RG md ops mk tl d listed=true→S w→fh P ops S R (fun C=>∀q,R w q→Sb P ops Q S R lt B C q) p a→vm P md ops Q S R tl (d.length+(mk.length+tl.length)) listed a w
 |[],[],listed,a,w,_,_,n,_,h=>by rw[JU,BU];exact et x (fun _ h=>h) mk B listed a w s u n (h w (z w))
 |[],_::_,_,_,_,_,he,_,_,_=>by simp at he
 |_::_,[],_,_,_,_,he,_,_,_=>by simp at he
 |i::d,o::p,listed,a,w,r,he,n,F,h=>by
  simp only[qU,nW]at he;simp only[RG,aU,GU,TW]at n;obtain⟨⟨⟨⟨⟨I,W⟩,f⟩,M⟩,H⟩,D⟩:=n;obtain⟨v,hy,h⟩:=h;rw[he.1]at f;simp only[KU,CW,zY]at f;obtain⟨t,G⟩:=f;rw[UT,show d.length+1+(mk.length+tl.length)=(d.length+(mk.length+tl.length))+1 by omega];refine Cu (v:=v) z A e he.1 (lY k) (fun c a w=>by rw[G];exact E c a t v w) (fun j X listed U J=>(Xs 12 U (M j X) J).2) (by simpa using H) _ listed a w r (XY he.1 W) (by simpa using I) hy F fun q y=> ?_;refine Cy z A e k E s x u d p _ _ q (r.set (by simpa using I) rfl) he.2 D (e _ _ F y) ?_;have mono:∀ (l:List Oper) (a:Act) {K m:Act→Prop},(∀a,K a→m a)→fh P ops S R K l a→fh P ops S R m l a:=by
   intro l;induction l with
   |nil=>intro a K m g hh;exact g a hh
   |cons o l ih=>intro a K m g ⟨v,N,T⟩;exact⟨v,N,ih _ g T⟩
  exact mono _ _ (fun C g w2 L=>g w2 (A _ _ _ y L)) h
def uS(ops:Array Oper)(a mk tl:List Nat):Bool:=Region.noSelect ops&&decide (a.length+(mk.length+tl.length)=ops.size)&&(a++(mk++tl)).all (fun t=>decide (t<ops.size))&&mk.all (fun t=> !tl.contains t)&&RG .any ops mk tl a (Array.replicate ops.size false)
theorem Gb{C:Nat}{Q:Exit→Act→World→Prop}{a:Act}{w:World}{l:List Oper}(S:World→Prop)(R:World→World→Prop)(e mk tl:List Nat)(n:∀w,R w w)(z:∀a b c,R a b→R b c→R a c)(o:∀w w',S w→R w w'→S w') (A:P.follows .mixedOrders=true) (k:uS l.toArray e mk tl=true) (u:∀c (a:Act) t v w,Q (.panic c) (a.put (some t) v) w→Q (.panic c) a w) (y:S w.drew) (h:fh P l.toArray S R (fun s=>∀r,R w.drew r→Sb P l.toArray Q S R (tl.filterMap (l[·]?)) (mk.filterMap (l[·]?)) s r) (e.filterMap (l[·]?)) a):(Code.region C l.toArray true).wp P Q a w:=by
 simp only[uS,aU,GU,bU,oU,TW]at k;obtain⟨⟨⟨⟨m,g⟩,f⟩,q⟩,k⟩:=k;have i:∀x,x<l.toArray.size→(l.toArray[x]?).isSome=true:=fun x d=>by rw[eV d];rfl
 refine pY A ?_;rw[←g];refine ot n _ _ _ _ (Cy (S:=S) n z o m u (map_filterMap _ mk fun x d=>i x (f x (.inr (.inl d)))) (map_filterMap _ tl fun x d=>i x (f x (.inr (.inr d)))) (fun t B h=>by have:=q t B;simp at this;exact this h) e (e.filterMap (l.toArray[·]?)) _ a _ ⟨by rw[iY];first|exact g|rfl,fun j D _ p=>(by rw[JV]at p;cases p),fun _ _ h=>by cases h⟩ (map_filterMap _ e fun x d=>i x (f x (.inl d))) (by rw[g];exact k) y ?_);simpa using h
end
end
section
open Go Go.RowKit
section
variable {P:Program}{ops:Array Oper}{md:Region.Mode}{C:World→Prop}{H:Nat→Bool}
def ao(md:Region.Mode)(ops:Array Oper)(Bd:Array Bool→Bool):List Nat→Array Bool→Bool
 |[],listed=>Bd listed
 |i::r,listed=>(Region.ready md ops listed).contains i&&Region.free md ops listed i&&ao md ops Bd r (listed.setIfInBounds i true)
theorem Ep{Bd:Array Bool→Bool}{G:Nat→Prop}{Lq:Act→Prop}(e:Region.noSelect ops=true) (d:∀i,G i→∀listed,Je md ops H listed→listed.getD i true=false→∀t∈Region.ready md ops listed,H t=true) (l:∀listed,Bd listed=true→∀j∈Region.ready md ops listed,H j=false):∀ (c:List Nat) (f:List Oper) (listed:Array Bool) (a:Act),c.map (ops[·]?)=f.map some→(∀i∈c,H i=true∧G i)→Je md ops H listed→ao md ops Bd c listed=true→wpQuiet P ops C Lq f a→yr P md ops C H (fun b n=>Je md ops H b∧Bd b=true∧Lq n) c.length listed a
 |[],[],listed,a,_,_,inv,g,h=>⟨inv,by simpa [ao]using g,h⟩
 |[],_::_,_,_,he,_,_,_,_=>by simp at he
 |_::_,[],_,_,he,_,_,_,_=>by simp at he
 |i::c,o::f,listed,a,he,k,inv,g,h=>by
  simp only[qU,nW]at he;simp only[ao,aU]at g;obtain⟨⟨y,u⟩,p⟩:=g;have m:i∈Region.ready md ops listed:=by simpa using y
  have q:qOp P ops C i (wpQuiet P ops C Lq f) a:=by unfold qOp;simp only[he.1];exact h
  obtain⟨v,A,r⟩:=yieldsIn_of_qOp he.1 q;exact vs he.1 (lY e) (k i (.head _)).1 (d i (k i (.head _)).2) (fun b n s j w=>l _ s.2.1 j w) c.length listed a inv (XY he.1 u) m A (Ep e d l c f _ _ he.2 (fun x z=>k x (.tail _ z)) (inv.set m (k i (.head _)).1) p r)
def PO(md:Region.Mode)(ops:Array Oper)(c:Nat)(b:List Nat)(a:Array Bool):Bool:=decide (Region.ready md ops a=[c])&&bp md ops [] b (a.setIfInBounds c true)
def RL(md:Region.Mode)(ops:Array Oper)(c b:List Nat)(d:Nat)(a:List Nat):Bool:=Region.noSelect ops&&dy md ops d b&&a.all (fun k=>(d::a).any fun j=>Region.waitsFor md ops k j)&&(List.range ops.size).all (fun k=>(b.contains k||c.contains k)||(d::a).contains k)&&(d::a).all (fun t=> !(b.contains t||c.contains t)&&decide (t<ops.size))&&b.all (fun t=>decide (t<ops.size))&&decide (c.length+(b.length+(a.length+1))=ops.size)&&c.all (fun t=>decide (t<ops.size))&&Tv md ops c (Array.replicate ops.size false)&&ao md ops (PO md ops d a) b (Oh c (Array.replicate ops.size false))
theorem Fy{id:Nat}{Q:Exit→Act→World→Prop}{a:Act}{w:World}{z:Oper}(d b:List Nat)(t0:Nat)(rest:List Nat)(hm:P.follows .mixedOrders=true)(U:RL .any ops d b t0 rest=true)(F:ops[t0]? =some z)(hC:C {w with drawn:=w.drawn+1}) (hQ:∀c (a:Act) t v w,Q (.panic c) (a.put (some t) v) w→Q (.panic c) a w) (h:wpQuiet P ops C (fun s=>∀w',C w'→∀K:Act→World→Prop,(∀a2 w2,wpQuiet P ops (fun w'=>w'=w2) (fun a3=>Q .normal a3 w2) (rest.filterMap (ops[·]?)) a2→K a2 w2)→if Region.wanted z (yielded ops s.tmps)=true then z.wp P s w' K Q else K (s.put z.dst undef) w') (b.filterMap (ops[·]?)) (Ub (d.filterMap (ops[·]?)) a)):(Code.region id ops true).wp P Q a w:=by
 simp only[RL,aU,GU,bU,GW]at U;obtain⟨⟨⟨⟨⟨⟨⟨⟨⟨l,hs⟩,hc⟩,E⟩,q⟩,B⟩,a7⟩,a6⟩,D⟩,I⟩:=U;have r:∀x,x<ops.size→(ops[x]?).isSome=true:=fun x f=>by rw[eV f];rfl
 have M:Je .any ops (fun k=>b.contains k||d.contains k) (Array.replicate ops.size false):=⟨by simp,fun j oj _ hl=>(by rw[JV]at hl;cases hl),fun t m _=>getD_in (by simpa using m) (JV _ _)⟩;have inv1:=M.JG d _ (fun i hi=>by simp[hi]) D;have X:∀t∈t0::rest,(b.contains t||d.contains t)=false:=fun t m=>by have:=(q t m).1;simpa using this
 have y:∀i,i∈b→∀listed,Je .any ops (fun k=>b.contains k||d.contains k) listed→listed.getD i true=false→∀t∈Region.ready .any ops listed,(b.contains t||d.contains t)=true:=by
  intro i hi listed inv a8 t m;have J:t<ops.size:=by obtain⟨_,o,F,_⟩:=AX.1 m;exact(sU.1 F).1
  have T:=E t J;rw[PU]at T;rcases T with e|e
  ·exact e
  ·exfalso;have e:t∈t0::rest:=by simpa using e
   rcases dU.1 e with rfl|e
   ·exact gm inv b hs (fun x f=>B x f) i hi a8 m
   ·have u:=hc t e;rw[bX]at u;obtain⟨j,p,hw⟩:=u;exact ye hw (inv.tail j (q j p).2 (X j p)) m
 have HH:=Ep (P:=P) (C:=C) (md:=.any) (H:=fun k=>b.contains k||d.contains k) (G:=fun k=>k∈b) (Bd:=PO .any ops t0 rest) l y (fun listed hb j p=>by
  simp only[PO,aU,bU]at hb;rw[hb.1]at p;obtain rfl:j=t0:=by simpa using p
  exact X j (.head _)) b (b.filterMap (ops[·]?)) _ _
  (map_filterMap _ b fun x f=>r x (B x f)) (fun i hi=>⟨by simp[hi],hi⟩) inv1 I h;refine pY hm ?_;have H2:=Ti (Q':=Q) (g:=rest.length+1) (fun listed s w' W hL=> ?_) _ _ _ _ hC HH
 ·have S:=gn l hQ d (d.filterMap (ops[·]?)) _ _ _ _ (map_filterMap _ d fun x f=>r x (a6 x f)) D H2;rw[a7]at S;exact S
 ·obtain⟨inv,hb,hq⟩:=hL;simp only[PO,aU,bU]at hb;refine⟨fun e=>(by rw[hb.1]at e;cases e),fun i hi=> ?_⟩;have a1:=hi;rw[hb.1]at hi;obtain rfl:i=t0:=by simpa using hi
  have inv2:Je .any ops (fun _=>true) listed:=⟨inv.size,inv.closed,fun t _ h=>by cases h⟩;have N:=inv2.set a1 rfl;have fin:∀ (a2:Act) (w2:World),wpQuiet P ops (fun w'=>w'=w2) (fun a3=>Q .normal a3 w2) (rest.filterMap (ops[·]?)) a2→wpAny P .any ops Q rest.length (listed.setIfInBounds i true) a2 w2:=by intro a2 w2 u;have K:=Zm (P:=P) (C:=fun w'=>w'=w2) (md:=.any) (H:=fun _=>true) (G:=fun _=>True) (tl:=[]) (Lq:=fun a3=>Q .normal a3 w2) l (fun _ _ _ _ _ _ _=>rfl) (by simp) rest (rest.filterMap (ops[·]?)) _ _ (map_filterMap _ rest fun x f=>r x (q x (.tail _ f)).2) (fun _ _=>⟨rfl,trivial⟩) N hb.2 u;have K2:=Ti (C:=fun w'=>w'=w2) (Q':=Q) (g:=0) (L:=fun R a3=>vp .any ops [] R=true∧Q .normal a3 w2) (fun R a3 w3 aj A=>(show Region.ready .any ops R=[]∧Q .normal a3 w3 from⟨by simpa [vp]using A.1,by rw[aj];exact A.2⟩)) _ _ _ _ rfl K;exact K2
  have n:=hq w' W _ fin;unfold wpOp;simp only[F];split
  ·rename_i hw;rw[JT hw]at n;exact .inl n
  ·rename_i hw;rw[DT hw]at n;exact n
theorem Hc{q:Nat}{Q:Exit→Act→World→Prop}{a:Act}{w:World}{l:List Oper}{e:Oper}(i g:List Nat)(j:Nat)(b:List Nat)(n:P.follows .mixedOrders=true)(k:RL .any l.toArray i g j b=true)(o:l[j]? =some e) (m:∀c (a:Act) t v w,Q (.panic c) (a.put (some t) v) w→Q (.panic c) a w) (h:wpQuiet P l.toArray (fun w'=>∃p:Regrown,w'=Go.Sort.grow (redrawn w p.d) p.os) (fun f=>∀w',(∃p:Regrown,w'=Go.Sort.grow (redrawn w p.d) p.os)→∀K:Act→World→Prop,(∀a2 w2,wpQuiet P l.toArray (fun w'=>w'=w2) (fun a3=>Q .normal a3 w2) (b.filterMap (l[·]?)) a2→K a2 w2)→if Region.wanted e (yielded l.toArray f.tmps)=true then e.wp P f w' K Q else K (f.put e.dst undef) w') (g.filterMap (l[·]?)) (Ub (i.filterMap (l[·]?)) a)):(Code.region q l.toArray true).wp P Q a w:=Fy (C:=fun w'=>∃p:Regrown,w'=Go.Sort.grow (redrawn w p.d) p.os) i g j b n k (by simpa using o) ⟨⟨w.drawn+1,#[]⟩,by rw[zZ];rfl⟩ m (by simpa using h)
end
end
section
open Go.Shelf Go.Proofs.Tryz
def Tryz.MC:Go.Shelf.Ren:=⟨fun|160=>74|232=>118|231=>117|227=>119|234=>121|233=>120|236=>123|235=>122|228=>164|271=>167|151=>166|197=>165|120=>214|152=>213|260=>212|137=>255|119=>256|224=>257|225=>258|217=>288|266=>297|n=>n,fun|9=>9|4=>4|3=>3|5=>5|117=>200|116=>199|0=>0|124=>203|21=>21|105=>245|46=>180|119=>307|139=>310|138=>309|n=>n,fun|3=>1|4=>2|n=>n⟩
theorem Tryz.yO:Go.Proofs.Lays.n160 prog Tryz.MC:={mixed:=by kernel_rfl,f119:=func256.trans (eU some (by kernel_rfl)),f120:=func214.trans (eU some (by kernel_rfl)),f137:=func255.trans (eU some (by kernel_rfl)),f151:=func166.trans (eU some (by kernel_rfl)),f152:=func213.trans (eU some (by kernel_rfl)),f160:=func74.trans (eU some (by kernel_rfl)),f197:=func165.trans (eU some (by kernel_rfl)),f217:=func288.trans (eU some (by kernel_rfl)),f224:=func257.trans (eU some (by kernel_rfl)),f225:=func258.trans (eU some (by kernel_rfl)),f227:=func119.trans (eU some (by kernel_rfl)),f228:=func164.trans (eU some (by kernel_rfl)),f231:=func117.trans (eU some (by kernel_rfl)),f232:=func118.trans (eU some (by kernel_rfl)),f233:=func120.trans (eU some (by kernel_rfl)),f234:=func121.trans (eU some (by kernel_rfl)),f235:=func122.trans (eU some (by kernel_rfl)),f236:=func123.trans (eU some (by kernel_rfl)),f260:=func212.trans (eU some (by kernel_rfl)),f266:=func297.trans (eU some (by kernel_rfl)),f271:=func167.trans (eU some (by kernel_rfl)),t0:=underlying0,a0:=isAgg0,z0:=sizeOf0,v0:=zeroValue0,t3:=underlying3,a3:=isAgg3,z3:=sizeOf3,v3:=zeroValue3,t4:=underlying4,a4:=isAgg4,z4:=sizeOf4,v4:=zeroValue4,t5:=underlying5,a5:=isAgg5,z5:=sizeOf5,v5:=zeroValue5,t9:=underlying9,a9:=isAgg9,z9:=sizeOf9,v9:=zeroValue9,t21:=underlying21,a21:=isAgg21,z21:=sizeOf21,v21:=zeroValue21,t46:=underlying180,a46:=isAgg180,z46:=sizeOf180,v46:=zeroValue180,t105:=underlying245,a105:=isAgg245,z105:=sizeOf245,v105:=zeroValue245,t116:=underlying199,a116:=isAgg199,z116:=sizeOf199,t117:=underlying200,a117:=isAgg200,z117:=sizeOf200,v117:=zeroValue200,t119:=underlying307,a119:=isAgg307,z119:=sizeOf307,t124:=underlying203,a124:=isAgg203,z124:=sizeOf203,v124:=zeroValue203,t138:=underlying309,a138:=isAgg309,z138:=sizeOf309,v138:=zeroValue309,t139:=underlying310,a139:=isAgg310,z139:=sizeOf310,v139:=zeroValue310,g3:=by kernel_rfl,g4:=by kernel_rfl}
open Go.RowKit in
theorem Tryz.vB(s a:ByteArray)(w:World)(f:s.size≤9223372036854775807)(d:a.size<4294967281)(c:∀ (j:Nat) b,a.data.toList[j]? =some b→b.toNat<128):Calls prog 74 #[.string s,.string a] w fun e w'=>e= .returned (.string ⟨(Lib.trimS s.data.toList a.data.toList).toArray⟩)∧Below w.heap.size w w':=Any.strings_Trim_laid Tryz.yO (by kernel_rfl) s a w f d c
def Tryz.Pv:Go.Shelf.Ren:=⟨fun|169=>300|n=>n,fun|70=>340|9=>9|0=>0|72=>342|37=>152|127=>354|3=>3|5=>5|n=>n,fun|n=>n⟩
theorem Tryz.zO:Go.Proofs.Lays.n169 prog Tryz.Pv:={mixed:=by kernel_rfl,f169:=func300.trans (eU some (by kernel_rfl)),t0:=underlying0,a0:=isAgg0,z0:=sizeOf0,v0:=zeroValue0,t3:=underlying3,a3:=isAgg3,z3:=sizeOf3,v3:=zeroValue3,t9:=underlying9,a9:=isAgg9,z9:=sizeOf9,v9:=zeroValue9,t37:=underlying152,a37:=isAgg152,z37:=sizeOf152,v37:=zeroValue152,t70:=underlying340,a70:=isAgg340,z70:=sizeOf340,v70:=zeroValue340,t72:=underlying342,a72:=isAgg342,z72:=sizeOf342,v72:=zeroValue342,t127:=underlying354,a127:=isAgg354,z127:=sizeOf354,v127:=zeroValue354}
theorem Tryz.tt:Builder.Extra prog Tryz.Pv:={sizeBuilder:=by kernel_rfl,liesBuilder:=by kernel_rfl,t5:=underlying5,a5:=isAgg5,z5:=sizeOf5,v5:=zeroValue5,infoByte:=by kernel_rfl,cellsByte:=by kernel_rfl,sizeByte:=by kernel_rfl,neB5:=by decide}
open Go.RowKit in
theorem Tryz.Builder_String_any(B b:Nat)(l:List UInt8)(w:World)(h:Lib.IsBuilder 342 5 B b (Lib.byteCells l) w)(a:B≤w.heap.size):Calls prog 300 #[.pointer (some ⟨b,0,none⟩)] w fun e w'=>e= .returned (.string ⟨l.toArray⟩)∧Below B w w':=Any.Builder_String_any Tryz.zO Tryz.tt B b l w h a
open Go.RowKit in
theorem Tryz.Builder_WriteString(B b:Nat)(bs:List Value)(s:ByteArray)(w:World)(h:Lib.IsBuilder 342 5 B b bs w)(a:bs.length+s.size≤140737488355328)(c:B≤w.heap.size):Calls prog 299 #[.pointer (some ⟨b,0,none⟩),.string s] w fun e w'=>e= .returned (.tuple #[Z s.size,.nilIface])∧(Lib.BuilderAt 342 5 B b (.pointer (some ⟨b,0,none⟩)) (bs++Lib.strCells s) w'∧Below B w w'):=Any.Builder_WriteString (ρ:=Tryz.xq) {Tryz.tG with} Tryz.Am B b bs s w h a c
end
end Go.Proofs.YteacbkflfafefaaGreatDoor
