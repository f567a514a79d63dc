/- Part 22 of 50 of the proof that TopViews returns true at every input: lemmas on the way; no condition. -/
import Derived.Test.YteacbkflfafefaaGreatDoorZ16
import Derived.Test.YteacbkflfafefaaGreatDoorZ18
namespace Go.Proofs.YteacbkflfafefaaGreatDoor
set_option linter.all false
set_option maxHeartbeats 1000000
set_option maxRecDepth 100000
section
open Go.RowKit An Go.ChangeShapes Go.WideShapes Go.ChangeAt Go.Proofs.Tryz
theorem Yu(w:World)(n:Nat)(k:0<n)(j:n≤1000000):(Builtin.append_ #[35,3] 35 #[O none 0 0,Z n]).run prog w= .ok (O (some ⟨w.heap.size,0,none⟩) n (grownCap w n 0 3)) (w.drew.alloc (.cells (Builtin.zeroCells #[Z 0] n++Builtin.zeroCells #[Z 0] (grownCap w n 0 3-n)) 3)):=by
 obtain⟨i,hi,a,b,c⟩:=info_parts Mi;have hw:IntKind.i64.wrap (n:Int)=n:=RT _ (by omega);have d:¬ ((n:Int)<0):=by omega
 have e:¬ (281474976710656<(n:Int)*8):=by omega
 have f:¬ (9223372036854775807<(n:Int)):=by omega
 have g:¬ (n=0):=by omega
 have h:¬ (281474976710656<Builtin.nextslicecap n 0*8):=by unfold Builtin.nextslicecap;rw[JT (by omega)];omega
 simp[Builtin.append_,SU underlying35,SU underlying3,sizeOf,typeInfo,zeroValue,hi,a,b,c,asInt,asIntOf,hw,d,e,f,g,h,Question.forced,newRow,grownCap,Builtin.firstCells];rfl
theorem Dr{l w:World}{j k:Td}{S:aa}{e:Array Oper}{d:List Oper}{b:Oper}{a:Act}{Q:Exit→Act→World→Prop}{s x:Operand}(n:Nat)(q:0<n)(p:n≤1000000) (h:Y l j k S w) (g:b.guard=none) (v:b.type=35) (t:b.op= .call {callee:=.builtin .append,args:=#[s,x],argTypes:=#[35,3]}) (y:a.eval s=O none 0 0) (z:a.eval x=Z n) (m:∀c w',n≤c→Y l j k (ua 3 1 (O (some ⟨w.heap.size,0,none⟩) 0 c) 0 []*S) w'→wpList prog e Q d (a.put b.dst (O (some ⟨w.heap.size,0,none⟩) n c)) w'):wpList prog e Q (b::d) a w:=by have u:=Yu w n q p;have i:=QY w n 0 3;refine IX g fun K f=> ?_;unfold Oper.wp execOp;simp only[t,v,resolve,invoke,builtin,wW,YV,GV,uW,qU,gX,y,z,u];refine f _ _ (m _ _ i ?_);refine(h.drew.new _).le (MZ ⟨fun {_ o r} h=>⟨o,r,⟨h.2.2,by simp,.inr ⟨w.heap.size,_,_,rfl,h.1,WT _,?_,by simp,h.2.1⟩⟩,fun _ h=>h,fun _ h=> .inr h⟩⟩ (JZ _));simp[wZ];omega
theorem mO(n:Nat)(d:n≤1000000):Tr prog 147 #[O none 0 0,Z n] aa.emp (fun v:Value=>v) (fun v=>ua 3 1 v 0 []):=by
 intro w o r a;have I:=TZ a;obtain⟨i,hi,h,j,k⟩:=info_parts Mi;have f:¬ ((n:Int)<0):=by omega
 have g:IntKind.i64.wrap ((n:Int)-0)=n:=RT _ (by omega);clear a;by_cases e:0<n
 ·have b:0<(n:Int):=by omega
  go_enter func147,ntmps147;go_wp2_with (at_builtin;go_loud (refine Dr n e d I rfl rfl rfl rfl rfl ?_);intro c m l K;have hcut:=fun w=>(cg (P:=prog) (w:=w) underlying35 hi (some ⟨w.heap.size,0,none⟩) n c 0 0 c (FT _) (WT _) (FT _)).1);go_ret;exact⟨O (some ⟨w.heap.size,0,none⟩) 0 c,rfl,K.ya⟩
 ·have b:¬ (0<(n:Int)):=by omega
  go_enter func147,ntmps147;go_wp2;go_ret;exact⟨O none 0 0,rfl,I.le (j0 3 1)⟩
end
section
open Go.RowKit An
def nv(l:List Nat):List Value:=(l.map Int.ofNat).flatMap iv
theorem Kk(l:List Nat):(nv l).length=l.length:=by unfold nv;rw[zg Ts,zU,wU]
theorem Vj(a b:List Nat):nv (a++b)=nv a++nv b:=by simp[nv]
theorem gB(l:List Nat):∀u∈nv l,u.oneCell'=true:=by intro u hu;obtain⟨i,_,h⟩:=cX.1 hu;simp[iv]at h;rw[h];rfl
theorem fB(l:List Nat):nv l=xf (l.map Int.ofNat):=by
 unfold nv xf;induction l with
 |nil=>rfl
 |cons a r b=>simp only[qU,AU,b];rfl
theorem zh(l:List Nat)(i:Nat)(h:i<l.length):(nv l)[i]? =some (Z (l[i]:Nat)):=by rw[fB];simp[xf,h]
def zp(q:Sq):Value:=O q.1 q.2.1 q.2.2
def Ua:List Sq→List (List Nat)→aa
 |[],[]=>aa.emp
 |q::qs,l::L=>aa.pure (q.2.1=l.length)*(Ba 1 (zp q) l.length (nv l)*Ua qs L)
 |_,_=>aa.pure False
def jb:List Sq→List (List Nat)→aa
 |[],[]=>aa.emp
 |q::qs,l::L=>aa.pure (q.2.1=l.length)*(ua 3 1 (zp q) l.length (nv l)*jb qs L)
 |_,_=>aa.pure False
theorem aa.le.bg:∀ (qs:List Sq) (L:List (List Nat)),aa.le (jb qs L) (Ua qs L)
 |[],[]=>JZ _
 |q::qs,l::L=>MZ (JZ _) (MZ c8 (aa.le.bg qs L))
 |[],_::_=>JZ _
 |_::_,[]=>JZ _
theorem aa.Cz{h:Array Obj}{o r:Td}:∀ {qs:List Sq} {L:List (List Nat)},(Ua qs L).p h o r→qs.length=L.length
 |[],[],_=>rfl
 |q::qs,l::L,⟨_,_,_,_,_,⟨_,_,_,_,_,a,_⟩,_⟩=>by have:=aa.Cz a;simp[this]
 |[],_::_,h=>h.1.elim
 |_::_,[],h=>h.1.elim
theorem aa.Rs{h:Array Obj}{o r:Td}:∀ {qs:List Sq} {L:List (List Nat)},(Ua qs L).p h o r→∀i (a:i<qs.length) (b:i<L.length),qs[i].2.1=L[i].length
 |[],[],_,i,a,_=>absurd a (NV _)
 |q::qs,l::L,⟨_,_,_,_,c,⟨_,_,_,_,_,b,_⟩,_⟩,i,a,d=>by
  cases i with
  |zero=>exact c.1
  |succ i=>exact aa.Rs b i (by simpa using a) (by simpa using d)
 |[],_::_,h,_,_,_=>h.1.elim
 |_::_,[],h,_,_,_=>h.1.elim
theorem aa.Mz{h:Array Obj}{o r:Td}:∀ {qs:List Sq} {L:List (List Nat)},(jb qs L).p h o r→qs.length=L.length
 |[],[],_=>rfl
 |q::qs,l::L,⟨_,_,_,_,_,⟨_,_,_,_,_,a,_⟩,_⟩=>by have:=aa.Mz a;simp[this]
 |[],_::_,h=>h.1.elim
 |_::_,[],h=>h.1.elim
theorem aa.le.jx{A:aa}:aa.le (aa.pure False) A:=⟨fun h=>h.1.elim⟩
theorem aa.le.AQ{A:aa}:aa.le (aa.emp*A) A:=KZ NZ QZ
theorem aa.le.Mj{A:aa}:aa.le A aa.emp:=⟨fun {_ _ _} _=>⟨_,_,⟨trivial,fun _ h=>h,fun _ h=>h⟩,fun _ h=>h.elim,fun _ h=>h.elim⟩⟩
theorem aa.le.Bz:∀ (qs:List Sq) (L:List (List Nat)),aa.le (Ua qs L) (Ua qs L*Ua qs L)
 |[],[]=>RZ trivial
 |q::qs,l::L=>by
  show aa.le (aa.pure _*(Ba 1 (zp q) l.length (nv l)*Ua qs L)) _;refine⟨fun {h o r} c=> ?_⟩;have a:q.2.1=l.length:=by obtain⟨_,_,_,_,a,_⟩:=c;exact a.1
  refine aa.le.imp ?_ c;have b:aa.le (Ba 1 (zp q) l.length (nv l)*Ua qs L) (Ua (q::qs) (l::L)):=RZ a;refine KZ ?_ (MZ b b);refine KZ (KZ NZ QZ) ?_;refine KZ (MZ j1 (aa.le.Bz qs L)) ?_;refine KZ OZ ?_;refine KZ (MZ (JZ _) PZ) ?_;refine KZ (MZ (JZ _) (MZ NZ (JZ _))) ?_;refine KZ (MZ (JZ _) OZ) ?_;exact PZ
 |[],_::_=>aa.le.jx
 |_::_,[]=>aa.le.jx
theorem aa.le.Lu{A B:aa}:aa.le (aa.pure False*A) B:=KZ QZ aa.le.jx
theorem aa.le.wk:∀ (qs:List Sq) (L:List (List Nat)) (i:Nat) (a:i<qs.length) (b:i<L.length),aa.le (Ua qs L) (Ba 1 (zp qs[i]) L[i].length (nv L[i]))
 |[],_,_,a,_=>absurd a (NV _)
 |_::_,[],_,_,b=>absurd b (NV _)
 |q::qs,l::L,0,_,_=>KZ NZ (KZ QZ QZ)
 |q::qs,l::L,i+1,a,b=>KZ NZ (KZ QZ (KZ NZ (KZ QZ (aa.le.wk qs L i (rV a) (rV b)))))
theorem aa.le.Nu:∀ (a:List Sq) (c:List (List Nat)) (b:List Sq) (d:List (List Nat)),aa.le (Ua a c*Ua b d) (Ua (a++b) (c++d))
 |[],[],_,_=>aa.le.AQ
 |[],_::_,_,_=>aa.le.Lu
 |_::_,[],_,_=>aa.le.Lu
 |q::a,l::c,b,d=>KZ OZ (MZ (JZ _) (KZ OZ (MZ (JZ _) (aa.le.Nu a c b d))))
theorem aa.le.Wj:∀ (a:List Sq) (c:List (List Nat)) (b:List Sq) (d:List (List Nat)),aa.le (jb a c*jb b d) (jb (a++b) (c++d))
 |[],[],_,_=>aa.le.AQ
 |[],_::_,_,_=>aa.le.Lu
 |_::_,[],_,_=>aa.le.Lu
 |q::a,l::c,b,d=>KZ OZ (MZ (JZ _) (KZ OZ (MZ (JZ _) (aa.le.Wj a c b d))))
theorem aa.le.Lz:∀ (n:Nat) (qs:List Sq) (L:List (List Nat)),aa.le (jb qs L) (jb (qs.take n) (L.take n)*jb (qs.drop n) (L.drop n))
 |0,_,_=>RZ trivial
 |n+1,[],[]=>RZ trivial
 |n+1,[],_::_=>aa.le.jx
 |n+1,_::_,[]=>aa.le.jx
 |n+1,q::qs,l::L=>KZ (MZ (JZ _) (KZ (MZ (JZ _) (aa.le.Lz n qs L)) PZ)) PZ
theorem aa.Ro.pure(φ:Prop):(aa.pure φ).Ro:=fun _ _ _ k h=>h.2.1 k
theorem aa.Ro.zC:∀ (qs:List Sq) (L:List (List Nat)),(Ua qs L).Ro
 |[],[]=>aa.Ro.pure _
 |[],_::_=>aa.Ro.pure _
 |_::_,[]=>aa.Ro.pure _
 |_::qs,_::L=>j7 (aa.Ro.pure _) (j7 (j5 _ _ _ _) (aa.Ro.zC qs L))
theorem aa.mc.zC:∀ (qs:List Sq) (L:List (List Nat)),(Ua qs L).mc
 |[],[]=>k9 _
 |[],_::_=>k9 _
 |_::_,[]=>k9 _
 |_::qs,_::L=>j9 (k9 _) (j9 (aa.mc.sl _ _ _ _) (aa.mc.zC qs L))
def Ea(v:Value)(L:List (List Nat)):aa:=aa.ex fun q:(Option Addr×Nat)×List Sq=>aa.pure (v=O q.1.1 L.length q.1.2∧L.length≤q.1.2∧q.2.length=L.length)*(Ba 1 v q.2.length (q.2.flatMap me)*Ua q.2 L)
theorem aa.Ro.dr(v:Value)(L:List (List Nat)):(Ea v L).Ro:=fun h o r k ⟨x,a⟩=>j7 (aa.Ro.pure _) (j7 (j5 _ _ _ _) (aa.Ro.zC _ _)) h o r k a
theorem aa.mc.dr(v:Value)(L:List (List Nat)):(Ea v L).mc:=aa.mc.ex fun _=>j9 (k9 _) (j9 (aa.mc.sl _ _ _ _) (aa.mc.zC _ _))
theorem aa.le.EG(v:Value)(L:List (List Nat)):aa.le (Ea v L) (Ea v L*Ea v L):=by
 refine aa.le.qT fun q=>⟨fun {h o r} c=> ?_⟩;have a:v=O q.1.1 L.length q.1.2∧L.length≤q.1.2∧q.2.length=L.length:=by obtain⟨_,_,_,_,a,_⟩:=c;exact a.1
 refine aa.le.imp ?_ c;have b:aa.le (Ba 1 v q.2.length (q.2.flatMap me)*Ua q.2 L) (Ea v L):=KZ (RZ a) (SZ (A:=fun q:(Option Addr×Nat)×List Sq=>aa.pure (v=O q.1.1 L.length q.1.2∧L.length≤q.1.2∧q.2.length=L.length)*(Ba 1 v q.2.length (q.2.flatMap me)*Ua q.2 L)) q);refine KZ ?_ (MZ b b);refine KZ (KZ NZ QZ) ?_;refine KZ (MZ j1 (aa.le.Bz q.2 L)) ?_;refine KZ OZ ?_;refine KZ (MZ (JZ _) PZ) ?_;refine KZ (MZ (JZ _) (MZ NZ (JZ _))) ?_;refine KZ (MZ (JZ _) OZ) ?_;exact PZ
theorem aa.le.Yt{A:Option Addr}{c:Nat}{qs:List Sq}{L:List (List Nat)}(b:L.length≤c)(a:qs.length=L.length):aa.le (Ba 1 (O A qs.length c) qs.length (qs.flatMap me)*Ua qs L) (Ea (O A qs.length c) L):=KZ (RZ ⟨by rw[a],b,a⟩) (SZ (A:=fun q:(Option Addr×Nat)×List Sq=>aa.pure ((O A qs.length c:Value)=O q.1.1 L.length q.1.2∧L.length≤q.1.2∧q.2.length=L.length)*(Ba 1 (O A qs.length c) q.2.length (q.2.flatMap me)*Ua q.2 L)) ((A,c),qs))
variable {w0 w:World}{o0 r0:Td}{S R:aa}
theorem Y.dr(h:Y w0 o0 r0 S w)(v:Value)(L:List (List Nat))[k:Find (Ea v L) S R]:∃A c qs,v=O A qs.length c∧qs.length=L.length∧L.length≤c∧(∀i (a:i<qs.length) (e:i<L.length),qs[i].2.1=L[i].length)∧Y w0 o0 r0 ((Ba 1 v qs.length (qs.flatMap me)*Ua qs L)*R) w:=by obtain⟨o,r,⟨j,m,l,n,⟨⟨⟨A,c⟩,qs⟩,a⟩,e⟩,hu⟩:=h.to (A:=Ea v L) (R:=R);have d:=a;obtain⟨p,s,q,t,⟨⟨f,g,b⟩,_⟩,⟨_,_,_,_,_,hi,_⟩,_⟩:=d;refine⟨A,c,qs,by rw[b];exact f,b,g,fun i=>aa.Rs hi i,?_⟩;have:Y w0 o0 r0 ((aa.pure (v=O A L.length c∧L.length≤c∧qs.length=L.length)*(Ba 1 v qs.length (qs.flatMap me)*Ua qs L))*R) w:=⟨o,r,⟨j,m,l,n,a,e⟩,hu⟩;exact this.le (MZ (KZ NZ QZ) (JZ _))
abbrev jf(A:Option Addr)(l:List Nat)(c:Nat):aa:=Ba 1 (.slice A l.length c) l.length (nv l)
abbrev Hf(A:Option Addr)(l:List Nat)(c:Nat):aa:=ua 3 1 (.slice A l.length c) l.length (nv l)
abbrev l5:=@aa.le.bg
abbrev l6:=@aa.le.jx
abbrev l7:=@aa.le.Mj
abbrev l8:=@aa.le.wk
abbrev l9:=@aa.le.Wj
abbrev o5:=@aa.Ro.pure
abbrev o6:=@aa.le.Yt
end
section
open Go.RowKit An Go.ChangeShapes Go.WideShapes Go.ChangeAt Go.Proofs.Tryz
theorem cj(L:List (List Nat))(k:Nat)(h:k<L.length):(L.take (k+1)).flatten=(L.take k).flatten++L[k]:=by rw[MU,PT h,JX];show _++(L[k]++[])=_;rw[EU]
theorem Qy(L:List (List Nat))(k:Nat):(L.take k).flatten.length≤L.flatten.length:=by
 conv=>rhs;rw[←tU k L,JX,CT]
 omega
def fl(L:List (List Nat))(k:Nat):Nat:=(L.take k).flatten.length
theorem Nh(L:List (List Nat))(k:Nat)(h:k<L.length):fl L (k+1)=fl L k+L[k].length:=by unfold fl;rw[cj L k h,CT]
theorem Lt(L:List (List Nat))(k:Nat):fl L k≤L.flatten.length:=Qy L k
theorem BK(L:List (List Nat)):fl L L.length=L.flatten.length:=by unfold fl;rw[UU]
theorem QH(v:Value)(L:List (List Nat))(h1:L.length≤100000)(h2:L.flatten.length≤100000):Tr prog 105 #[v] (Ea v L) (fun B:Value=>B) (fun B=>ua 3 1 B L.flatten.length (nv L.flatten)*Ea v L):=by
 intro w o X h0;obtain⟨A,c,qs,rfl,W,r,he,I⟩:=(TZ h0).dr v L;obtain⟨i,hi,a6,a7,a8⟩:=info_parts Mi;obtain⟨N,p⟩:∃N,L.flatten.length=N:=⟨_,rfl⟩;have P:fl L qs.length=N:=by rw[W,BK,p]
 have F:∀k,Hid (fl L k≤N):=fun k=>V (by rw[←p];exact Lt L k);rw[p]at h2;have C:=V W;have HC:=V r;have HE:=V he;have HN:=V p;have s:=V P;have hn:qs.length≤100000:=by omega
 rw[p];clear h0 W r he p P;go_enter func105,ntmps105;go_wp2_with fail;go_loopw [3,11] (fun x y wr=>∃k:Nat,k≤qs.length∧y=Z k∧x=Z (fl L k:Nat)∧Y w o X ((Ba 1 (O A qs.length c) qs.length (qs.flatMap me)*Ua qs L)*aa.emp) wr) (fun _ y _=>qs.length-(intOf y).toNat);case atStart=>exact⟨0,WT _,rfl,rfl,I⟩
 case round=>
  obtain⟨k,hk,rfl,rfl,J⟩:=hrel;clear I;have T:=(F k).out;by_cases b:k<qs.length
  ·obtain⟨g,off,rfl,U,d,r⟩:=J.we A c qs vg k b (by decide);have S:=d _ rfl;rw[wU]at S;have a:k<L.length:=by have:=C.out;omega
   have e:=HE.out k b a;have E:=(F (k+1)).out;rw[Nh L k a]at E;have D:Hid (fl L (k+1)=fl L k+L[k].length):=V (Nh L k a);clear r d;generalize fl L k=G at*;generalize qs[k]=q at*;obtain⟨a1,a2,a3⟩:=q;dsimp only at e;subst e;generalize L[k].length=a2 at*;have aj:¬ ((G:Int)+(a2:Int)<0):=by omega
   go_wp2;go_roundw;case rel=>exact⟨k+1,by omega,by go_num,by rw[D.out];go_num,J⟩
   case measure=>simp[intOf];omega
  ·have u:k=qs.length:=by omega
   subst u;rw[s.out];have t147:=mO N (by omega);clear T;go_wp2_with fail;refine J.kc t147 fun w1 v0 R=> ?_;go_wp2_with fail;go_loopw [6,27] (fun x y wr=>∃k:Nat,k≤qs.length∧y=Z k∧∃f h,x=O f (fl L k) h∧Y w o X (ua 3 1 (O f (fl L k) h) (fl L k) (nv (L.take k).flatten)*(Ba 1 (O A qs.length c) qs.length (qs.flatMap me)*Ua qs L)) wr) (fun _ y _=>qs.length-(intOf y).toNat);case atStart=>obtain⟨_,f,h,hv⟩:=R.Cd v0;subst hv;exact⟨0,WT _,rfl,f,h,rfl,R.le (MZ (JZ _) QZ)⟩
   case round=>
    obtain⟨k,hk,rfl,f,h,rfl,K⟩:=hrel;clear J R;have T:=(F k).out;by_cases b:k<qs.length
    ·obtain⟨g,off,rfl,U,d,r⟩:=K.we A c qs vg k b (by decide);have S:=d _ rfl;rw[wU]at S;have a:k<L.length:=by have:=C.out;omega
     have e:=HE.out k b a;have E:=(F (k+1)).out;rw[Nh L k a]at E;have D:Hid (fl L (k+1)=fl L k+L[k].length):=V (Nh L k a);have HX:Hid (nv (L.take (k+1)).flatten=nv (L.take k).flatten++nv L[k]):=V (by rw[cj L k a,Vj]);have M:Y w o X (Ba 1 (zp qs[k]) L[k].length (nv L[k])) wr:=K.le (KZ NZ (KZ QZ (KZ NZ (KZ QZ (l8 qs L k b a)))));have j:=M.En (tx:=35) (zp qs[k]) underlying35 (gB _) (by decide);have z:fl L k+L[k].length≤100000:=by omega
     clear r d M;generalize fl L k=G at*;generalize qs[k]=q at*;obtain⟨a1,a2,a3⟩:=q;dsimp only at e;subst e;unfold zp at j;dsimp only at j;generalize L[k]=l at*;generalize(L.take k).flatten=acc at*;have H:=V z;clear T E z;go_wp2_with (at_builtin;go_loud (refine kf (v:=O f G h) (xs:=nv acc) (n:=G) (m:=l.length) (news:=nv l) K rfl rfl underlying35 hi a6 a7 rfl rfl j (by have:=H.out;unfold maxLen;omega) (by rw[a8];have:=H.out;omega) ?_);intro B w' K2);obtain⟨_,A2,c2,rfl⟩:=K2.Cd B;go_roundw;case rel=>exact⟨k+1,by omega,by go_num,A2,c2,by rw[D.out],by rw[D.out,HX.out];exact K2⟩
     case measure=>simp[intOf];omega
    ·have u:k=qs.length:=by omega
     subst u;have Q:=C.out;have t:(L.take qs.length).flatten=L.flatten:=by rw[Q,UU]
     rw[t,s.out]at K;rw[s.out];clear t Q;go_wp2;go_ret;exact⟨O f N h,rfl,K.le (MZ (JZ _) (o6 HC.out C.out))⟩
theorem xv(v:Value)(L:List (List Nat))(d:L.length≤100000)(e:L.flatten.length≤100000):Tr prog 67 #[v] (Ea v L) (fun a:Value=>a) (fun a=>ua 3 1 a L.flatten.length (nv L.flatten)*Ea v L):=by intro w o f b;have I:=TZ b;have t:=QH v L d e;clear b;go_enter func67,ntmps67;go_wp2_with fail;refine I.kc t fun g v0 c=> ?_;go_wp2;go_ret;exact⟨v0,rfl,c.ya⟩
theorem NS:∀w,(zeroValue 3).run prog w= .ok (Z 0) w:=by intro w;obtain⟨i,hi,a,_⟩:=info_parts Mi;simp[zeroValue,typeInfo,hi,a]
def tp(a:List Nat)(k:Nat)(m:yo):Prop:=(a.take k).Nodup∧∀n,Ql n m=if n∈a.take k then some (Z 1)else none
theorem tp.zero(a:List Nat):tp a 0 []:=⟨by simp,fun n=>by simp[Ql]⟩
theorem tp.step{c:List Nat}{k:Nat}{m:yo}(h:tp c k m)(j:k<c.length)(g:Ql c[k] m=none):tp c (k+1) (CC c[k] (Z 1) m):=by
 have f:c[k]∉c.take k:=by intro hm;rw[h.2,JT hm]at g;cases g
 have e:c.take (k+1)=c.take k++[c[k]]:=by rw[MU,PT j];rfl
 refine⟨?_,fun n=> ?_⟩
 ·rw[e,bW];exact⟨h.1,by simp,fun a i b hb=>by simp at hb;rintro rfl;exact f (hb▸i)⟩
 ·rw[VK,e];by_cases d:n=c[k]
  ·rw[JT d,JT (oU.2 (.inr (lU.2 d)))]
  ·rw[DT d,h.2];have:(n∈c.take k++[c[k]])↔n∈c.take k:=⟨fun h=>(oU.1 h).elim id fun h=>absurd (lU.1 h) d,fun h=>oU.2 (.inl h)⟩;by_cases hm:n∈c.take k
   ·rw[JT hm,JT (this.2 hm)]
   ·rw[DT hm,DT fun h=>hm (this.1 h)]
theorem tp.GS{a:List Nat}{k:Nat}{m:yo}{v:Value}(h:tp a k m)(d:k<a.length)(b:Ql a[k] m=some v):¬a.Nodup∧v=Z 1:=by
 rw[h.2]at b;split at b
 ·rename_i hm;refine⟨fun c=> ?_,(by cases b;rfl)⟩;rw[←tU k a,bW]at c;have:a[k]∈a.drop k:=by rw[FU d];exact iX
  exact c.2.2 _ hm _ this rfl
 ·cases b
theorem yy(v:Value)(L:List (List Nat))(R:L.length≤100000)(h2:L.flatten.length≤100000)(S:∀n∈L.flatten,n≤1000000000000):Ud prog 238 #[v] (Ea v L) (.bool (Rc L)) (Ea v L):=by
 intro w o H Q;have t:=xv v L R h2;obtain⟨A,c,qs,rfl,G,U,he,J⟩:=(TZ Q).dr v L;have I:Y w o H (Ea (O A qs.length c) L) w:=J.le (KZ QZ (o6 U G));have r:Rc L=(decide (L.length≤5)&&decide (L.flatten.length≤40)&&decide L.flatten.Nodup):=rfl;rw[←G]at R r;generalize L.flatten=all at*;have H3:=V S;clear Q S J he U G;by_cases E:qs.length≤5∧all.length≤40
 ·have B:¬ (5<(qs.length:Int)):=by omega
  have T:¬ (40<(all.length:Int)):=by omega
  have C:Rc L=decide all.Nodup:=by rw[r];simp[E]
  rw[C];obtain⟨res,b⟩:∃res,decide all.Nodup=res:=⟨_,rfl⟩;rw[b];have x:=V b;clear r C b;have Lm:=fun w=>ZX (P:=prog) 321 w;go_enter func238,ntmps238;go_wp2_with fail;refine I.kc t fun j v0 a=> ?_;obtain⟨_,p,q,rfl⟩:=a.Cd v0;go_wp2_with fail;have N:Y w o H (Ib prog 3 j.heap.size (Rk [])*(Hf p all q*Ea (O A qs.length c) L)) (j.alloc (.map #[] 0)):=(a.new (.map #[] 0)).le (MZ (Ru _) QZ);go_loopw [20] (fun y wr=>∃k:Nat,k≤all.length∧y=Z k∧∃m:yo,Hid (tp all k m)∧Y w o H (Ib prog 3 j.heap.size (Rk m)*(Hf p all q*Ea (O A qs.length c) L)) wr) (fun y _=>all.length-(intOf y).toNat);case atStart=>exact⟨0,WT _,rfl,[],V (tp.zero all),N⟩
  case round=>
   obtain⟨k,hk,rfl,m,hm,K⟩:=hrel;clear a N I;generalize j.heap.size=M at*;by_cases f:k<all.length
   ·have X:nv all≠[]:=by intro h;have:=Kk all;rw[h]at this;simp at this;omega
    obtain⟨g,rfl,d⟩:=K.Mc (A:=p) (c:=q) (n:=all.length) (xs:=nv all) (e:=3) (sz:=1) X;have a6:=d k _ (zh all k f);have hb:=H3.out _ (XT f);have z:=(Az (l:=m) K M all[k] hb underlying321 NS).2;clear d;cases i:Ql all[k] m with
    |some u=>
     obtain⟨D,rfl⟩:=hm.out.GS f i;have s:decide all.Nodup=false:=yU D;rw[i]at z;dsimp only at z;obtain rfl:res=false:=by rw[←x.out];exact s
     clear i hm D s x;generalize all[k]=n at*;have a1:¬ ((n:Int)<0):=by omega
     go_wp2;go_ret;exact⟨rfl,K.ya⟩
    |none=>
     have hs:=V (hm.out.step f i);rw[i]at z;dsimp only at z;clear i hm;generalize all[k]=n at*;have a1:¬ ((n:Int)<0):=by omega
     go_wp2_with (refine Tq (l:=m) (t:=321) M n (Z 1) hb underlying321 K rfl rfl rfl rfl rfl ?_;intro w6 K2);go_roundw;case rel=>exact⟨k+1,by omega,by go_num,_,hs,K2.ya⟩
     case measure=>simp[intOf];omega
   ·have W:k=all.length:=by omega
    have s:decide all.Nodup=true:=RU (by have:=hm.out.1;rwa [W,UU]at this);obtain rfl:res=true:=by rw[←x.out];exact s
    clear s x;go_wp2;go_ret;exact⟨rfl,K.ya⟩
 ·have F:Hid (Rc L=false):=V (by rw[r];simp;omega);clear r;rw[F.out];by_cases h6:qs.length≤5
  ·have B:¬ (5<(qs.length:Int)):=by omega
   have T:(40<(all.length:Int)):=by omega
   clear F E;go_enter func238,ntmps238;go_wp2_with fail;refine I.kc t fun j v0 a=> ?_;obtain⟨_,p,q,rfl⟩:=a.Cd v0;go_wp2;go_ret;exact⟨rfl,a.ya⟩
  ·have B:(5<(qs.length:Int)):=by omega
   clear F E;go_enter func238,ntmps238;go_wp2_with fail;refine I.kc t fun j v0 a=> ?_;obtain⟨_,p,q,rfl⟩:=a.Cd v0;go_wp2;go_ret;exact⟨rfl,a.ya⟩
def YG(p:Nat×List Nat)(x:Value):Value:=.tuple #[if p.1=0 then x else O none 0 0,Z p.1]
def Pz(p:Nat×List Nat)(x:Value):aa:=if p.1=0 then ua 3 1 x p.2.length (nv p.2)else aa.emp
theorem sK(v:Value)(l:List Nat)(b:l.length≤1000000):Tr prog 81 #[v] (Ba 1 v l.length (nv l)) (fun a:Value=>a) (fun a=>ua 3 1 a l.length (nv l)*Ba 1 v l.length (nv l)):=by have t:=YF v (l.map Int.ofNat) (by rw[zU];exact b);rw[zU,←fB]at t;exact t
theorem WG(v:Value)(L:List (List Nat))(k:Int)(hk: -9223372036854775808≤k∧k≤9223372036854775807)(h1:L.length≤100000)(X:L.flatten.length≤100000)(h3:∀n∈L.flatten,n≤1000000000000):Tr prog 190 #[v,Z k] (Ea v L) (YG (ie L k)) (fun x=>Pz (ie L k) x*Ea v L):=by
 intro w o G U;have t:=yy v L h1 X h3;have I:=TZ U;clear U;have a:ie L k=if !Rc L||decide (k<0)||decide (5≤k)then(2,[])else if(L.getD k.toNat []).isEmpty then(4,[])else(0,L.getD k.toNat []):=rfl
 have b:∀ (n:Nat) (W:World),n≠0→ie L k=(n,[])→Y w o G (Ea v L) W→∃x,Ending.returned (.tuple #[O none 0 0,Z (n:Int)])=Ending.returned (YG (ie L k) x)∧Y w o G (Pz (ie L k) x*Ea v L) W:=by
  intro n W m hp hI;refine⟨undef,?_,?_⟩
  ·rw[hp];unfold YG;simp[m]
  ·rw[hp];unfold Pz;simp only;rw[DT m];exact hI.le (RZ trivial)
 have r:=V b;cases i:Rc L with
 |false=>have f:Hid (ie L k=(2,[])):=V (by rw[a,i];rfl);rw[i]at t;clear a b i;go_enter func190,ntmps190;go_wp2_with fail;refine I.k1 t fun C J=> ?_;go_wp2;go_ret2;exact r.out 2 _ (by decide) f.out J.ya
 |true=>
  rw[i]at t;by_cases a8:k<0
  ·have f:Hid (ie L k=(2,[])):=V (by rw[a,i];simp[a8]);clear a b i;go_enter func190,ntmps190;go_wp2_with fail;refine I.k1 t fun C J=> ?_;go_wp2;go_ret2;exact r.out 2 _ (by decide) f.out J.ya
  ·by_cases aj:5≤k
   ·have f:Hid (ie L k=(2,[])):=V (by rw[a,i];simp[aj]);clear a b i;go_enter func190,ntmps190;go_wp2_with fail;refine I.k1 t fun C J=> ?_;go_wp2;go_ret2;exact r.out 2 _ (by decide) f.out J.ya
   ·have d:ie L k=if(L.getD k.toNat []).isEmpty then(4,[])else(0,L.getD k.toNat []):=by rw[a,i,DT (by simp;omega)]
    obtain⟨A,c,qs,rfl,z,E,he,u⟩:=I.dr v L;obtain⟨n,rfl⟩:∃n:Nat,k=n:=⟨k.toNat,by omega⟩;rw[gV]at d;have S:=u.le (KZ QZ (o6 E z));have HQ:=V z;have aq:∀W:World,Y w o G (Ea (O A qs.length c) L) W→True:=fun _ _=>trivial;by_cases m:n<qs.length
    ·have j:n<L.length:=by omega
     have P:=he n m j;have M:L.getD n []=L[n]:=by rw[kU,PT j];rfl
     rw[M]at d;have av:L[n].length≤100000:=KT (by have:=cj L n j;have h:=Lt L (n+1);rw[Nh L n j]at h;omega) X;have R:=sK (zp qs[n]) L[n] (by omega);have hle:aa.le (Ba 1 (O A qs.length c) qs.length (qs.flatMap me)*Ua qs L*aa.emp) (Ea (O A qs.length c) L):=KZ QZ (o6 E z);have N:aa.le (Ba 1 (O A qs.length c) qs.length (qs.flatMap me)*Ua qs L*aa.emp) (Ba 1 (zp qs[n]) L[n].length (nv L[n])):=KZ QZ (KZ NZ (KZ QZ (l8 qs L n m j)));obtain⟨g,off,rfl,Q,_,_⟩:=u.we A c qs vg n m (by decide);clear a b i z E I S he M Q;have p:=V hle;have s:=V N;have H:=V d;have D:Hid (∀W,Y w o G (Ba 1 (O (some ⟨g,off,none⟩) qs.length c) qs.length (qs.flatMap me)*Ua qs L*aa.emp) W→W.cell? ⟨g,off+n,none⟩=some (zp qs[n])):=V fun W hW=>by
      obtain⟨g',al,a7,_,a6,_⟩:=hW.we (some ⟨g,off,none⟩) c qs vg n m (by decide);cases a7;have:=a6 _ rfl
      rwa [wU]at this
     clear hle N d;generalize(Ba 1 (O (some ⟨g,off,none⟩) qs.length c) qs.length (qs.flatMap me)*Ua qs L*aa.emp)=T at*;generalize qs[n]=q at*;obtain⟨a1,a2,a3⟩:=q;dsimp only at P;subst P;unfold zp at R s D;dsimp only at R s D;generalize L[n]=l at*;by_cases F:l.length=0
     ·have f:Hid (ie L n=(4,[])):=V (by rw[H.out,uU F];rfl);have ak:((l.length:Int)==0)=true:=by rw[OV];omega
      have y:(l.length:Int)=0:=by omega
      have an:=V y;clear F y;go_enter func190,ntmps190;go_wp2_with fail;refine(u.Wu p.out (aa.Ro.dr _ _) t).mono ?_;rintro e C ⟨rfl,J⟩;have c0:=D.out _ J;go_wp2;go_ret2;exact r.out 4 _ (by decide) f.out (J.le p.out)
     ·have f:Hid (ie L n=(0,l)):=V (by rw[H.out,DT];intro h;exact F (by rw[BW.1 h];rfl));have ak:((l.length:Int)==0)=false:=by rw[ET];omega
      clear F;go_enter func190,ntmps190;go_wp2_with fail;refine(u.Wu p.out (aa.Ro.dr _ _) t).mono ?_;rintro e C ⟨rfl,J⟩;have c0:=D.out _ J;go_wp2_with fail;refine(J.fp s.out (j5 _ _ _ _) R (B:=fun x=>ua 3 1 x l.length (nv l)) (fun _=>QZ) (fun _=>j6 _ _ _ _ _)).mono ?_;rintro e w2 ⟨x,rfl,K⟩;go_wp2;go_ret2;refine⟨x,by rw[f.out];rfl,?_⟩;rw[f.out];exact K.le (MZ (JZ _) p.out)
    ·have f:Hid (ie L n=(4,[])):=V (by rw[d,kU,dW (by omega)];rfl);clear a b i d he z E u I;go_enter func190,ntmps190;go_wp2_with fail;refine S.k1 t fun C J=> ?_;go_wp2;go_ret2;exact r.out 4 _ (by decide) f.out J.ya
def tk(L:List (List Nat)):Nat→Nat
 |0=>0
 |k+1=>if(L.getD k []).length=0 then tk L k else k+1
theorem Vr(L:List (List Nat)):∀k,tk L k≤k
 |0=>FT _
 |k+1=>by
  unfold tk;split
  ·exact IY (Vr L k)
  ·exact FT _
theorem MM(M:List (List Nat))(l:List Nat):∀k,k≤M.length→tk (M++[l]) k=tk M k
 |0,_=>rfl
 |k+1,h=>by unfold tk;rw[MM M l k (by omega),kU,kU,IV (by omega)]
theorem rH:∀ (n:Nat) (L:List (List Nat)),L.length=n→Ab L=L.take (tk L L.length)
 |0,L,h=>by obtain rfl:=uU h;rfl
 |n+1,L,h=>by
  obtain⟨M,l,rfl⟩:∃M l,L=M++[l]:=⟨L.dropLast,L.getLast (by intro c;rw[c]at h;cases h),(List.dropLast_concat_getLast _).symm⟩;have d:M.length=n:=by simpa using h
  have g:=rH n M d;have hlen:(M++[l]).length=M.length+1:=by simp
  have f:((M++[l]).getD M.length [])=l:=by rw[kU,vV (FT _),AW];rfl
  have e:tk (M++[l]) (M.length+1)=if l.length=0 then tk M M.length else M.length+1:=by show(if((M++[l]).getD M.length []).length=0 then tk (M++[l]) M.length else M.length+1)=_;rw[f,MM M l M.length (FT _)]
  rw[hlen,e];by_cases b:l.length=0
  ·obtain rfl:=uU b;rw[JT b,lV (Vr _ _),←g];unfold Ab;rw[oZ];rfl
  ·rw[DT b,←hlen,UU];unfold Ab;rw[oZ];have:(l.isEmpty)=false:=by
    cases l with
    |nil=>exact absurd rfl b
    |cons a r=>rfl
   show((l::M.reverse).dropWhile List.isEmpty).reverse=_;rw[ZW,this];simp
theorem Uj(L:List (List Nat)):Ab L=L.take (tk L L.length):=rH _ L rfl
theorem RE{A:Option Addr}{n c m sz:Nat}{e:TypeId}{xs:List Value}(d:m≤n):aa.le (ua e sz (O A n c) n xs) (ua e sz (O A m m) m (xs.take (m*sz))):=by
 refine⟨fun {h o r} f=>⟨o,r,⟨f.1,?_,?_⟩,fun _ h=>h,fun _ h=> .inr h⟩⟩
 ·rw[OT,f.2.1];exact QU (mV _ d)
 ·rcases f.2.2 with⟨a,i,b⟩|⟨g,cap,cur,a,i,b,j,k,l⟩
  ·obtain rfl:m=0:=by omega
   cases a;exact .inl ⟨rfl,rfl,b⟩
  ·cases a;refine .inr ⟨g,m,cur,rfl,i,FT _,KT (mV _ (KT d b)) j,?_,l⟩;rw[←k,QV,QU (mV _ d)]
theorem Mu:(prog.info? 35).map (fun i=>(i.zero,i.size,i.bytes))=some (some (O none 0 0),1,24):=by kernel_rfl
theorem Y.qx{d w:World}{b c:Td}{qs:List Sq}{L:List (List Nat)}(h:Y d b c (Ua qs L) w):qs.length=L.length∧∀i (a:i<qs.length) (e:i<L.length),qs[i].2.1=L[i].length:=by obtain⟨o,r,a,_⟩:=h;exact⟨aa.Cz a,fun i=>aa.Rs a i⟩
theorem nu(qs:List Sq)(i:Nat)(h:i<qs.length):(qs.flatMap me)[i]? =some (zp qs[i]):=by have:=vh vg qs i 0 h (by decide);rw[wU,lX]at this;exact this
theorem EM(qs:List Sq)(m:Nat):(qs.flatMap me).take (m*1)=(qs.take m).flatMap me:=by
 rw[wU];have e:∀l:List Sq,l.flatMap me=l.map zp:=fun l=>by
  induction l with
  |nil=>rfl
  |cons a r b=>rw[AU,qU,b];rfl
 rw[e,e,NX]
def Zr(L:List (List Nat))(x:Option Addr×List Sq):Value:=O x.1 (tk L L.length) (tk L L.length)
def fw(L:List (List Nat))(x:Option Addr×List Sq):aa:=ua 35 1 (Zr L x) (tk L L.length) (x.2.flatMap me)*jb x.2 (Ab L)
theorem qH(v:Value)(L:List (List Nat))(h1:L.length≤100000)(h2:L.flatten.length≤100000):Tr prog 240 #[v] (Ea v L) (Zr L) (fun x=>fw L x*Ea v L):=by
 intro w o P h0;obtain⟨A,c,qs,rfl,hq,S,he,I⟩:=(TZ h0).dr v L;have hle:aa.le (Ba 1 (O A qs.length c) qs.length (qs.flatMap me)*Ua qs L) (Ea (O A qs.length c) L):=o6 S hq;obtain⟨i,hi,b6,b7,b9⟩:=info_parts Mu;have a7:∀k (h:k<L.length),L[k].length≤100000:=fun k h=>KT (by have h:=Nh L k h;have:=Lt L (k+1);omega) h2;have Q:=V hq;have HE:=V he;have aq:=V hle;have av:=V a7;have hn:qs.length≤100000:=by omega
 clear h0 hq S he hle a7;go_enter func240,ntmps240;go_wp2_with fail;go_loopw [3,8] (fun x y wr=>∃k:Nat,k≤qs.length∧y=Z k∧∃b f a,x=O b k f∧Y w o P (ua 35 1 (O b k f) k (a.flatMap me)*(jb a (L.take k)*(Ba 1 (O A qs.length c) qs.length (qs.flatMap me)*Ua qs L))) wr) (fun _ y _=>qs.length-(intOf y).toNat);case atStart=>exact⟨0,WT _,rfl,none,0,[],rfl,I.le (KZ QZ (KZ (RZ trivial) (KZ (RZ trivial) (MZ (j0 35 1) (JZ _)))))⟩
 case round=>
  obtain⟨k,hk,rfl,b,f,a,rfl,J⟩:=hrel;clear I;by_cases G:k<qs.length
  ·have s:k<L.length:=by have:=Q.out;omega
   have p:=HE.out k G s;have bs:=av.out k s;obtain⟨g,off,rfl,bf,X,S⟩:=J.we A c qs vg k G (by decide);have R:=X _ rfl;rw[wU]at R;have a6:aa.le (ua 35 1 (O b k f) k (a.flatMap me)*(jb a (L.take k)*(Ba 1 (O (some ⟨g,off,none⟩) qs.length c) qs.length (qs.flatMap me)*Ua qs L))) (Ba 1 (zp qs[k]) L[k].length (nv L[k])):=KZ NZ (KZ QZ (KZ NZ (KZ QZ (KZ NZ (KZ QZ (l8 qs L k G s))))));have tc:=sK (zp qs[k]) L[k] (by omega);have t:L.take (k+1)=L.take k++[L[k]]:=by rw[MU,PT s];rfl
   have E:=V t;have D:=V a6;clear S X a6 t;generalize qs[k]=q at*;obtain⟨a1,a2,a3⟩:=q;dsimp only at p;subst p;unfold zp at tc D;dsimp only at tc D;generalize L[k]=l at*;go_wp2_with fail;refine(J.fp D.out (j5 _ _ _ _) tc (B:=fun x=>ua 3 1 x l.length (nv l)) (fun _=>QZ) (fun _=>j6 _ _ _ _ _)).mono ?_;rintro e w2 ⟨x,rfl,K⟩;obtain⟨_,C,c2,rfl⟩:=K.Cd x;have b0:k+1≤1000000000:=by omega
   have K1:Y w o P (ua 35 1 (O b k f) k (a.flatMap me)*(Hf C l c2*(jb a (L.take k)*(Ba 1 (O (some ⟨g,off,none⟩) qs.length c) qs.length (qs.flatMap me)*Ua qs L)))) w2:=K.le (KZ PZ (KZ (MZ NZ (JZ _)) OZ));clear K J;go_wp2_with (at_builtin;go_loud (refine Oa (v:=O b k f) [O C l.length c2] 1 K1 rfl rfl underlying64 hi b6 b7 rfl rfl rfl rfl (by intro u hu;rw[lU.1 hu];rfl) b0 (by rw[b9];omega) ?_);intro A3 c3 w6 K4);go_roundw;case rel=>refine⟨k+1,by omega,by go_num,A3,c3,a++[(C,l.length,c2)],rfl,?_⟩;rw[E.out,show(a++[(C,l.length,c2)]).flatMap me=a.flatMap me++[O C l.length c2] by rw[XU];rfl];refine K4.le (MZ (JZ _) (KZ PZ (MZ (KZ NZ ?_) (JZ _))));refine KZ (MZ (JZ _) ?_) (l9 a (L.take k) [(C,l.length,c2)] [l]);exact KZ (KZ (RZ trivial) NZ) (RZ rfl)
   case measure=>simp[intOf];omega
  ·have b5:k=qs.length:=by omega
   subst b5;have M:=Q.out;have U:L.take qs.length=L:=by rw[M,UU]
   rw[U]at J;obtain⟨ak,al⟩:=(J.le (KZ NZ (KZ QZ (KZ QZ (l5 _ _))))).qx;have bm:=J.Cn (A:=b) (n:=qs.length) (c:=f) (xs:=a.flatMap me) (e:=35) (sz:=1);have F:∀W,Y w o P (ua 35 1 (O b qs.length f) qs.length (a.flatMap me)*(jb a L*(Ba 1 (O A qs.length c) qs.length (qs.flatMap me)*Ua qs L))) W→∀m,m≤qs.length→tk L L.length=m→∃x,Ending.returned (O b m m:Value)=Ending.returned (Zr L x)∧Y w o P (fw L x*Ea (O A qs.length c) L) W:=by intro W hW m hm ht;refine⟨(b,a.take m),by unfold Zr;rw[ht],?_⟩;unfold fw Zr;rw[ht,Uj,ht];refine hW.le (KZ (MZ (RE hm) (MZ (KZ (aa.le.Lz m _ _) QZ) aq.out)) ?_);rw[EM];exact PZ
   have HF:=V F;have HO:=V ak;have aM:=V al;have N:tk L qs.length=tk L L.length:=by rw[M]
   clear M U ak al F;go_wp2_with fail;go_loopw [3] (fun x wr=>∃m:Nat,m≤qs.length∧x=O b m f∧Hid (tk L m=tk L L.length)∧Y w o P (ua 35 1 (O b qs.length f) qs.length (a.flatMap me)*(jb a L*(Ba 1 (O A qs.length c) qs.length (qs.flatMap me)*Ua qs L))) wr) (fun x _=>match x with|.slice _ m _=>m|_=>0);case atStart=>exact⟨qs.length,FT _,rfl,V N,J⟩
   case round=>
    obtain⟨m,hm,rfl,hT,K⟩:=hrel;clear J N;cases m with
    |zero=>have z:=XF b 0 f (WT _);have hz:Hid (tk L L.length=0):=V (by rw[←hT.out];rfl);go_wp2_with fail;refine(z _).mono ?_;rintro e w2 ⟨rfl,d,rfl⟩;go_wp2;go_ret;exact HF.out _ (K.drewN d) 0 (WT _) hz.out
    |succ m=>
     have H:m<a.length:=by have:=HO.out;have:=Q.out;omega
     have a8:m<L.length:=by have:=Q.out;omega
     have aj:a.flatMap me≠[]:=by intro h;have:=nu a m H;rw[h]at this;cases this
     obtain⟨g,rfl,r⟩:=K.Mc (A:=b) (c:=f) (n:=qs.length) (xs:=a.flatMap me) (e:=35) (sz:=1) aj;have R:=r m _ (nu a m H);have p:=aM.out m H a8;have j:=hT.out;have Qe:tk L (m+1)=if L[m].length=0 then tk L m else m+1:=by show(if(L.getD m []).length=0 then tk L m else m+1)=_;rw[kU,PT a8];rfl
     rw[Qe]at j;have z:=XF (some ⟨g,0,none⟩) (m+1) f (by omega);have an:((m+1:Nat):Int)-1=(m:Nat):=by omega
     have bc:IntKind.i64.wrap (((m+1:Nat):Int)-1)=(m:Nat):=by rw[an];exact RT _ (by omega)
     have c9:(0:Int)<((m+1:Nat):Int):=by omega
     have bt:m≤f:=by omega
     unfold zp at R;clear r aj Qe hT;generalize a[m]=q at*;obtain⟨a1,a2,a3⟩:=q;dsimp only at p R;subst p;generalize L[m].length=ln at*;by_cases T:ln=0
     ·rw[JT T]at j;have E:=V j;subst T;clear j z;go_wp2;go_roundw;case rel=>exact⟨m,by omega,rfl,E,K⟩
      case measure=>simp
     ·rw[DT T]at j;have E:=V j;have bn:((ln:Int)==0)=false:=by rw[ET];omega
      clear j T;go_wp2_with fail;refine(z _).mono ?_;rintro e w2 ⟨rfl,d,rfl⟩;go_wp2;go_ret;exact HF.out _ (K.drewN d) (m+1) (by omega) E.out.symm
end
end Go.Proofs.YteacbkflfafefaaGreatDoor
