/- Part 11 of 50 of the proof that TopViews returns true at every input: lemmas on the way; no condition. -/
import Derived.Test.YteacbkflfafefaaGreatDoorZ4
import Derived.Test.YteacbkflfafefaaGreatDoorZ6
import Derived.Test.YteacbkflfafefaaGreatDoorProg
namespace Go.Proofs.YteacbkflfafefaaGreatDoor
set_option linter.all false
set_option maxRecDepth 100000
section
open Go.RowKit
section
variable {P:Program}{w0 w w':World}{o0 r0:Td}{S:aa}{f:FuncId}{args:Array Value}{v:Value}
def Pu(P:Program)(f:FuncId)(args:Array Value)(v:Value):Prop:=∀w,Calls P f args w fun e w'=>e= .returned v∧Below w.heap.size w w'
def Pq(P:Program)(f:FuncId)(args:Array Value)(v:Value):Prop:=∀w,Calls P f args w fun e w'=>e= .returned v∧∃n,w'=w.drewN n
theorem Pq.pu(h:Pq P f args v):Pu P f args v:=fun w=>(h w).mono fun e w' ⟨he,n,a⟩=>⟨he,by subst a;exact⟨rfl,rfl,rfl,FT _,fun _ _=>rfl⟩⟩
theorem Y.pu(h:Y w0 o0 r0 S w)(t:Pu P f args v):Calls P f args w fun e w'=>e= .returned v∧Y w0 o0 r0 S w':=(t w).mono fun _ _ ⟨he,hb⟩=>⟨he,h.below hb⟩
theorem Y.Sc(h:Y w (fun _=>False) (fun _=>False) S w'):Below w.heap.size w w':=let⟨_,_,_,u⟩:=h;⟨u.os,u.tape,u.output,u.size,fun k a=>u.Ie k a (fun h=>h)⟩
theorem Y.nil(w:World):Y w (fun _=>False) (fun _=>False) aa.emp w:=TZ ⟨trivial,fun _ h=>h,fun _ h=>h⟩
theorem Y.kp{Q:Ending→World→Prop}(h:Y w0 o0 r0 S w)(t:Pu P f args v)(H:∀w',Y w0 o0 r0 S w'→Q (.returned v) w'):Calls P f args w Q:=(h.pu t).mono fun _ w' ⟨he,hi⟩=>he▸H w' hi
end
abbrev ZZ:=@Y.nil
end
section
open Go Go.RowKit Go.Proofs.Tryz
abbrev yo:=List (Nat×Value)
def Rk(l:yo):List (Value×Value):=l.map fun p=>(Z (p.1:Nat),p.2)
def Ql(n:Nat)(l:yo):Option Value:=(l.find? fun p=>decide (p.1=n)).map (·.2)
def Ry(n:Nat)(l:yo):yo:=l.filter fun p=>decide (p.1≠n)
def CC(n:Nat)(v:Value)(l:yo):yo:=(n,v)::Ry n l
theorem dL:Go.Maps.Keyed prog 3:=Go.Maps.int_keyed underlying3
theorem wx{n:Nat}(h:n≤1000000000000):keyOf prog 3 (.int .i64 (n:Int))=some (.int .i64 n):=Go.Maps.keyOf_int_mk underlying3 (by have:=Go.RowKit.wrap64_wf (n:Int);rwa [UW _ (by omega)]at this)
theorem int_inj{a b:Nat}(h:Z (a:Int)=Z (b:Int)):a=b:=by injection h with _ h;omega
theorem yC{n:Nat}{l:yo}{v:Value}(h:Ql n l=some v):(Z (n:Int),v)∈Rk l:=by
 unfold Ql at h;cases a:l.find? fun p=>decide (p.1=n)with
 |none=>rw[a]at h;cases h
 |some p=>rw[a]at h;have c:=tY a;have b:=eZ a;simp only[bU]at b;simp only[KU,uX]at h;exact nU.2 ⟨p,c,by rw[b,h]⟩
theorem ox{n:Nat}{l:yo}(h:Ql n l=none):∀p∈Rk l,p.1≠Z (n:Int):=by
 intro p c e;obtain⟨q,d,rfl⟩:=nU.1 c;unfold Ql at h;have b:l.find? (fun p=>decide (p.1=n))=none:=by simpa using h
 have a:=List.find?_eq_none.1 b q d;simp only[bU]at a;exact a (int_inj e)
theorem Bv(l:yo)(n:Nat):dropKey (Z (n:Int)) (Rk l)=Rk (Ry n l):=by unfold dropKey Rk Ry;rw[OX];congr 1;apply lW;intro p _;show(!Tn (Z (p.1:Int)) (Z (n:Int)))=decide (p.1≠n);simp[Tn];omega
theorem VK(n k:Nat)(v:Value)(l:yo):Ql k (CC n v l)=if k=n then some v else Ql k l:=by
 unfold Ql CC Ry;rw[oW];by_cases e:k=n
 ·subst e;simp
 ·rw[DT e,show decide ((n,v).1=k)=false from yU (fun h=>e h.symm)];dsimp only;congr 1;induction l with
  |nil=>rfl
  |cons a r c=>
   rw[IU];by_cases b:a.1=n
   ·rw[DT (by simp[b]),c,oW,show decide (a.1=k)=false from yU (by omega)]
   ·rw[JT (by simp[b]),oW,oW,c]
section
variable {w0 w:World}{o0 r0:Td}{S R:aa}{l:yo}{t e:TypeId}
theorem Az(h:Y w0 o0 r0 S w)(M n:Nat)(g:n≤1000000000000)(i:prog.underlying t=some (.map 3 e)){z:Value}(j:∀w,(zeroValue e).run prog w= .ok z w)[k:Find (Ib prog 3 M (Rk l)) S R]:(Instr.lookup t (.map (some M)) (.int .i64 (n:Int)) true).run prog w= .ok (match Ql n l with|some v=> .tuple #[v,.bool true]|none=> .tuple #[z,.bool false]) w∧(Instr.lookup t (.map (some M)) (.int .i64 (n:Int)) false).run prog w= .ok (match Ql n l with|some v=>v|none=>z) w:=by
 have m:ff M S prog 3 (Rk l) R:=⟨k.split⟩;obtain⟨es,clock,a,f⟩:=h.map M;have c:=a.lookup dL i (w:=w) (b:=M) f (j w) true (wx g);have d:=a.lookup dL i (w:=w) (b:=M) f (j w) false (wx g);cases h:Ql n l with
 |some v=>exact⟨c.1 _ (yC h),d.1 _ (yC h)⟩
 |none=>exact⟨c.2 (ox h),d.2 (ox h)⟩
theorem Tq{f:Array Oper}{c:List Oper}{d:Oper}{a:Act}{Q:Exit→Act→World→Prop}{m x y:Operand}(M n:Nat)(v:Value)(u:n≤1000000000000)(A:prog.underlying t=some (.map 3 e)) (h:Y w0 o0 r0 S w) (o:d.guard=none) (z:d.op= .mapUpdate t m x y) (s:a.eval m= .map (some M)) (B:a.eval x= .int .i64 (n:Int)) (C:a.eval y=v) [k:Find (Ib prog 3 M (Rk l)) S R] (q:∀w',Y w0 o0 r0 (Ib prog 3 M (Rk (CC n v l))*R) w'→wpList prog f Q c (a.put d.dst undef) w'):wpList prog f Q (d::c) a w:=by have E:ff M S prog 3 (Rk l) R:=⟨k.split⟩;obtain⟨es,clock,p,r⟩:=h.map M;obtain⟨D,i,g,b⟩:=p.store dL A r v (wx u) (.inr ⟨_,_,rfl⟩);rw[Bv]at b;refine IX o fun K j=> ?_;unfold Oper.wp execOp;simp only[z,s,B,C,wW,YV,GV,g];exact j _ _ (q _ (h.fv M b))
theorem Ru(g:Nat):aa.le (aa.obj g (.map #[] 0)) (Ib prog 3 g (Rk [])):=⟨fun {h o r} a=>⟨o,r,⟨#[],0,⟨.refl _,by simp[Rk],by simp[Rk],by simp[Rk],by simp,by simp⟩,a⟩,fun _ h=>h,fun _ h=> .inr h⟩⟩
end
end
section
open Go.RowKit An Go.Proofs.Tryz
theorem YF(v:Value)(l:List Int)(t:l.length≤1000000):Tr prog 81 #[v] (Ba 1 v l.length (xf l)) (fun d:Value=>d) (fun d=>ua 3 1 d l.length (xf l)*Ba 1 v l.length (xf l)):=by
 have s:∀ (w:World) (a:Option Addr) (n c g c':Nat),(binOp .eql 35 (O a n c) (O none g c')).run prog w= .ok (.bool a.isNone) w:=fun w a n c g c'=>aZ w _ _ a n c g c' underlying35;intro w o r e;have I:=TZ e;obtain⟨q,A,c,rfl,f⟩:=I.sl v;cases A with
 |none=>
  have:l=[]:=by apply YU;intro i;obtain⟨b,off,hb,_⟩:=f (by simpa [xf]using i);cases hb
  subst this;clear e f q;go_enter func81,ntmps81;go_wp2;go_ret;exact⟨O none 0 0,rfl,(I.le (RZ trivial)).le (MZ (j0 3 1) (JZ _))⟩
 |some a=>obtain⟨i3,hi,j,k,p⟩:=info_parts Mi;have J:=(I.Wa (.cells #[] 3) w.heap.size rfl).le (MZ (j4 (sz:=1) (n:=0) (c:=0) (xs:=[]) (FT _) (FT _) rfl) (JZ _));clear f e;go_enter func81,ntmps81;go_wp2_with (at_builtin;go_loud (refine kf (v:=O (some ⟨w.heap.size,0,none⟩) 0 0) (m:=l.length) (news:=xf l) J rfl rfl underlying35 hi j k rfl rfl (J.En (O (some a) l.length c) underlying35 (ZK l) (by decide)) (by unfold maxLen;omega) (by rw[p];omega) ?_);intro d u h);go_ret;refine⟨d,rfl,?_⟩;rw[BU,iV]at h;exact h.ya
end
end Go.Proofs.YteacbkflfafefaaGreatDoor
