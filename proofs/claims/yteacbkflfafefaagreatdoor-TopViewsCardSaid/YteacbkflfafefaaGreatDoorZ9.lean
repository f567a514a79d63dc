/- Part 10 of 50 of the proof that TopViews returns true at every input: lemmas on the way; no condition. -/
import Derived.Test.YteacbkflfafefaaGreatDoorZ6
namespace Go.Proofs.YteacbkflfafefaaGreatDoor
set_option linter.all false
section
open Go.RowKit
section
variable {P:Program}{w0 w w':World}{o0 r0 o r:Td}{A B S R:aa}{e t:TypeId}{sz n:Nat}{v:Value}{xs:List Value}
theorem Y.Cn(h:Y w0 o0 r0 S w){A:Option Addr}{c:Nat}[k:Gd (O A n c) S e sz n xs R]:n≤c:=by
 obtain⟨o,r,⟨f,j,i,l,⟨b,a2,a3⟩,_⟩,hu⟩:=h.le k.split;rcases a3 with⟨_,d,_⟩|⟨g,cap,cur,a,c2,c3,_⟩
 ·omega
 ·have:c=cap:=by injection a
  omega
def aa.Ro(A:aa):Prop:=∀h o r k,A.p h o r→¬o k
def aa.Own(A:aa):Prop:=∀h o r k,A.p h o r→¬r k
theorem aa.Ro.sl(sz:Nat)(v:Value)(n:Nat)(xs:List Value):(Ba sz v n xs).Ro:=fun _ _ _ k h=>h.1 k
theorem aa.Own.row(e:TypeId)(sz:Nat)(v:Value)(n:Nat)(xs:List Value):(ua e sz v n xs).Own:=fun _ _ _ k h=>h.1 k
theorem aa.Own.emp:aa.emp.Own:=fun _ _ _ k h=>h.2.2 k
theorem aa.Own.pure(φ:Prop):(aa.pure φ).Own:=fun _ _ _ k h=>h.2.2 k
theorem aa.Own.star{A B:aa}(d:A.Own)(f:B.Own):(A*B).Own:=by
 rintro h o r k ⟨g,j,i,l,b,a2,a3,a4,a5,c⟩ a;rcases(c k).1 a with a|a
 ·exact d _ _ _ k b a
 ·exact f _ _ _ k a2 a
theorem aa.Ro.star{A B:aa}(c:A.Ro)(d:B.Ro):(A*B).Ro:=by
 rintro h o r k ⟨g,j,i,l,b,a2,a3,a4,a5,f⟩ a;rcases(a5 k).1 a with a|a
 ·exact c _ _ _ k b a
 ·exact d _ _ _ k a2 a
theorem Y.Wu{f:FuncId}{a:Array Value}{u:Value}(h:Y w0 o0 r0 S w)(j:aa.le S A)(g:A.Ro)(t:Ud P f a A u B):Calls P f a w fun e w'=>e= .returned u∧Y w0 o0 r0 S w':=by obtain⟨o,r,d,hu⟩:=h;obtain⟨l,m,c,_,_⟩:=j.imp d;refine(t w l m c).mono fun e w' ⟨he,p,q,_,b⟩=>⟨he,?_⟩;have hold:∀k,k<w.heap.size→w'.heap[k]? =w.heap[k]? :=fun k i=>b.Ie k i (g _ _ _ k c);exact VZ ⟨o,r,d,hu⟩ ⟨b.os,b.tape,b.output,b.size,hold⟩
theorem Y.Oz{f:FuncId}{a:Array Value}{u:Value}(h:Y w0 o0 r0 S w)(j:aa.le S A)(d:A.Ro)(t:Ud P f a A u B){W:World}(g:Below w.heap.size w W):Calls P f a W fun e w'=>e= .returned u∧Below W.heap.size W w':=by obtain⟨o,r,l,hu⟩:=h.below g;obtain⟨m,p,c,_,_⟩:=j.imp l;exact(t W m p c).mono fun e w' ⟨he,q,s,_,b⟩=>⟨he,b.os,b.tape,b.output,b.size,fun k i=>b.Ie k i (d _ _ _ k c)⟩
theorem Y.fp{α:Type}{f:FuncId}{c:Array Value}{u:α→Value}{B C:α→aa}(h:Y w0 o0 r0 S w)(E:aa.le S A)(l:A.Ro)(t:Tr P f c A u C)(y:∀x,aa.le (C x) (B x))(m:∀x,(B x).Own):Calls P f c w fun e w'=>∃x,e= .returned (u x)∧Y w0 o0 r0 (B x*S) w':=by
 obtain⟨o,r,i,hu⟩:=h;obtain⟨H,I,j,_,_⟩:=E.imp i;refine(t w H I j).mono fun e w' ⟨x,he,K,L,G,b⟩=>⟨x,he,?_⟩;have hold:∀k,k<w.heap.size→w'.heap[k]? =w.heap[k]? :=fun k a=>b.Ie k a (l _ _ _ k j);have D:Below w.heap.size w w':=⟨b.os,b.tape,b.output,b.size,hold⟩;obtain⟨p,q,hb,s,J⟩:=(y x).imp G;have d:∀k,p k→w.heap.size≤k:=fun k a=>(b.own k (s k a)).resolve_left (l _ _ _ k j);have z:=S.loc i (h':=w'.heap) fun k a=>hold k (S.lt i a);refine⟨fun k=>p k∨o k,r,⟨p,q,o,r,hb,z,?_,?_,fun _=>aX,fun k=> ?_⟩,b.os.trans hu.os,b.tape.trans hu.tape,b.output.trans hu.output,KT hu.size b.size,?_,?_,hu.rd⟩
 ·intro k a g;have:=S.lt i g;have:=d k a;omega
 ·rintro k a (g|g)
  ·have:=S.lt i (.inl a);have:=d k g;omega
  ·exact m x _ _ _ k hb g
 ·constructor
  ·exact .inr
  ·rintro(a|a)
   ·exact absurd a (m x _ _ _ k hb)
   ·exact a
 ·exact fun k a F=>(hold k (aV a hu.size)).trans (hu.Ie k a F)
 ·rintro k (a|a)
  ·exact .inr (KT hu.size (d k a))
  ·exact hu.own k a
theorem wc(v:Value)[k:Gd v S e sz n xs R]:aa.le S (Ba sz v n xs):=KZ k.split (KZ QZ c8)
theorem Y.Ow{tx ty:TypeId}{i:TypeInfo}{z:Value}(l:P.underlying t=some (.slice e))(hi:P.info? e=some i)(D:i.zero=some z)(b:i.size=sz)(p:z.cells.size=sz){x:Value}{m:Nat}{news:List Value}{A:Option Addr} (h:Y w0 o0 r0 S w) (g:aa.le S (Ba sz (O A n n) n xs)) (y:∀u∈xs,u.oneCell'=true) (k:0<sz) (j:Src P sz tx x m news w) (E:0<m) (c:n+m≤maxLen) (C:(n+m)*i.bytes≤140737488355328):∃q w',(Builtin.append_ #[t,tx] ty #[O A n n,x]).run P w= .ok q w'∧Y w0 o0 r0 (ua e sz q (n+m) (xs++news)*S) w':=by
 have d:=(h.le g).En (O A n n) l y k;subst b;have a:(xs++news).length=(n+m)*i.size:=by rw[CT,d.newsLen,j.newsLen,QX]
 have f:=QY w (n+m) n e;refine⟨_,_,qY w t tx ty e i z l hi D A n n xs d.cellsD x m news j (by omega) (by unfold maxLen at c;omega) (uZ (by omega) C),?_⟩;refine(h.drew.new _).le (MZ ?_ (JZ _));constructor;rintro h o r ⟨s,c2,c3⟩;refine⟨o,r,⟨c3,a,.inr ⟨w.heap.size,_,_,rfl,s,f,?_,?_,c2⟩⟩,fun _ h=>h,fun _ h=> .inr h⟩
 ·simp only[SX,zV,wZ,p,a,←QX];exact mV _ (by omega)
 ·simp only[Array.toList_append,lV (vW a.symm)];rw[YT (vW a)]
end
abbrev j5:=@aa.Ro.sl
abbrev j6:=@aa.Own.row
abbrev j7:=@aa.Ro.star
end
section
open Go Go.RowKit
section
variable {P:Program}{w0 w w':World}{o0 r0 o r:Td}{A B S R:aa}{e t:TypeId}{sz n:Nat}{v:Value}{xs:List Value}
theorem step_append{f:Array Oper}{b:Oper}{a:Act}{K:Act→World→Prop}{Q:Exit→Act→World→Prop}{E:Prop}{s x:Operand}{tx:TypeId}{i:TypeInfo}{z:Value}{m:Nat}{news:List Value} (h:Y w0 o0 r0 S w) (j:b.guard=none) (y:b.op= .call {callee:=.builtin .append,args:=#[s,x],argTypes:=#[t,tx]}) (F:P.underlying t=some (.slice e)) (hi:P.info? e=some i) (H:i.zero=some z) (c:i.size=sz) (l:z.cells.size=sz) {v:Value} (G:a.eval s=v) [k:Gd v S e sz n xs R] (D:Src P sz tx (a.eval x) m news w) (g:n+m≤maxLen) (u:(n+m)*i.bytes≤140737488355328) (q:∀d w',Y w0 o0 r0 (ua e sz d (n+m) (xs++news)*R) w'→K (a.put b.dst d) w'):if Region.wanted b (yielded f a.tmps)=true then Oper.wp P b a w K Q else E:=by
 have hw:Region.wanted b (yielded f a.tmps)=true:=by simp[Region.wanted,j]
 rw[JT hw];subst G;obtain⟨d,w',C,p⟩:=Y.append (v:=a.eval s) (xs:=xs) (n:=n) (ty:=b.type) (R:=R) F hi H c l h D g u;unfold Oper.wp execOp;simp only[y,resolve,invoke,builtin,wW,YV,GV,uW,qU,gX,C];exact q d w' p
theorem Zj{f:Array Oper}{b:Oper}{a:Act}{K:Act→World→Prop}{Q:Exit→Act→World→Prop}{E:Prop}{s x:Operand}{tx:TypeId}{i:TypeInfo}{z:Value}{m:Nat}{news:List Value}{A:Option Addr} (h:Y w0 o0 r0 S w) (j:b.guard=none) (G:b.op= .call {callee:=.builtin .append,args:=#[s,x],argTypes:=#[t,tx]}) (J:P.underlying t=some (.slice e)) (hi:P.info? e=some i) (M:i.zero=some z) (c:i.size=sz) (p:z.cells.size=sz) (L:a.eval s=O A n n) (k:aa.le S (Ba sz (O A n n) n xs)) (q:∀u∈xs,u.oneCell'=true) (l:0<sz) (I:Src P sz tx (a.eval x) m news w) (F:0<m) (g:n+m≤maxLen) (D:(n+m)*i.bytes≤140737488355328) (C:∀d w',Y w0 o0 r0 (ua e sz d (n+m) (xs++news)*S) w'→K (a.put b.dst d) w'):if Region.wanted b (yielded f a.tmps)=true then Oper.wp P b a w K Q else E:=by
 have hw:Region.wanted b (yielded f a.tmps)=true:=by simp[Region.wanted,j]
 rw[JT hw];obtain⟨d,w',H,y⟩:=Y.Ow (ty:=b.type) J hi M c p h k q l I F g D;unfold Oper.wp execOp;simp only[G,resolve,invoke,builtin,wW,YV,GV,uW,qU,gX,L,H];exact C d w' y
theorem ur(P:Program){tx a:TypeId}(h:P.underlying tx=some (.slice a)){w:World}{g:Nat}{cs:List Value}{ty:TypeId}(c:Nat)(d:w.heap[g]? =some (.cells cs.toArray ty (0,0)))(i:cs.length=sz)(b:∀u∈cs,u.oneCell'=true):Src P sz tx (O (some ⟨g,0,none⟩) 1 c) 1 cs w:=by refine Src.ofSlice _ h _ 1 c cs (by rw[i,Nat.one_mul]) (fun j u f=> ?_) b;rw[CV,BU,jW w g j cs.toArray ty (0,0) d];simpa using f
end
end
end Go.Proofs.YteacbkflfafefaaGreatDoor
