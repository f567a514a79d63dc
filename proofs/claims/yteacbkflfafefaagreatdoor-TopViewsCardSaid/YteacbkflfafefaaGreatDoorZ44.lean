/- Part 45 of 50 of the proof that TopViews returns true at every input: lemmas on the way; no condition. -/
import Derived.Test.YteacbkflfafefaaGreatDoorZ41
import Derived.Test.YteacbkflfafefaaGreatDoorZ42
namespace Go.Proofs.YteacbkflfafefaaGreatDoor
set_option linter.all false
set_option maxHeartbeats 4000000
set_option maxRecDepth 100000
section
open Go.RowKit An Go.ChangeShapes Go.WideShapes Go.ChangeAt Go.Proofs.Tryz
theorem PM(a b:An.yc)(f:a.ev.w<18446744073709551616)(g:b.ev.w<18446744073709551616):Pu prog 28 #[dw a,dw b] (.bool (decide (a=b))):=by
 intro w;have t:=aO a.ev b.ev f g;obtain⟨s1,v1,t1,d1,f1⟩:=a;obtain⟨s2,v2,t2,d2,f2⟩:=b;unfold dw bh;unfold EA at t;dsimp only at*;have I:=((ZZ w).Wa (.cells #[Ha s1,Z v1,Ha t1,Ha d1,.float .f64 f1] 58) w.heap.size rfl).Wa (.cells #[Ha s2,Z v2,Ha t2,Ha d2,.float .f64 f2] 58) (w.heap.size+1) (dc rfl);by_cases c:s1=s2
 ·subst c;by_cases d:v1=v2
  ·subst d;have e:decide ((⟨s1,v1,⟨t1,d1,f1⟩⟩:An.yc)=⟨s1,v1,⟨t2,d2,f2⟩⟩)=decide ((⟨t1,d1,f1⟩:Ev)=⟨t2,d2,f2⟩):=by simp
   rw[e];clear e;generalize decide ((⟨t1,d1,f1⟩:Ev)=⟨t2,d2,f2⟩)=q at*;go_enter func28,ntmps28;go_wp2_with fail;refine I.kp t fun w' J=> ?_;go_wp2;go_ret;exact⟨rfl,J.Sc⟩
  ·have e:decide ((⟨s1,v1,⟨t1,d1,f1⟩⟩:An.yc)=⟨s1,v2,⟨t2,d2,f2⟩⟩)=false:=by simp[d]
   rw[e];have h:((v1:Int)==v2)=false:=by rw[ET];omega
   clear e d t;go_enter func28,ntmps28;go_wp2;go_ret;exact⟨rfl,I.Sc⟩
 ·have e:decide ((⟨s1,v1,⟨t1,d1,f1⟩⟩:An.yc)=⟨s2,v2,⟨t2,d2,f2⟩⟩)=false:=by simp[c]
  rw[e];have h:(s1==s2)=false:=by simpa using c
  clear e c t;go_enter func28,ntmps28;go_wp2;go_ret;exact⟨rfl,I.Sc⟩
theorem oH(A B:Option Addr)(c d:Nat)(l m:List An.yc)(hl:l.length≤1000000)(hm:m.length≤1000000)(R:∀t∈l,t.ev.w<18446744073709551616)(Q:∀t∈m,t.ev.w<18446744073709551616):Ud prog 10 #[O A l.length c,O B m.length d] (Ic A l c*Ic B m d) (.bool (decide (l=m))) (Ic A l c*Ic B m d):=by
 intro w o S M;have I:=TZ M;obtain⟨res,b⟩:∃res,decide (l=m)=res:=⟨_,rfl⟩;rw[b];have D:=V b;have W:=V R;have U:=V Q;clear M b R Q;by_cases f:l.length=m.length
 ·have s:=V f;have hb:((l.length:Int) !=m.length)=false:=by rw[kV];omega
  clear f;go_enter func10,ntmps10;go_wp2_with fail;clear hb;go_loopw [5] (fun x wr=>∃k:Nat,k≤l.length∧x=Z k∧Hid (l.take k=m.take k)∧Y w o S (Ic A l c*Ic B m d) wr) (fun x _=>l.length-(intOf x).toNat);case atStart=>exact⟨0,WT _,rfl,V (by simp),I⟩
  case round=>
   obtain⟨k,hk,rfl,C,J⟩:=hrel;clear I;by_cases p:k<l.length
   ·have a:k<m.length:=by have:=s.out;omega
    obtain⟨g,off,rfl,_,v,j⟩:=J.we A c l Ue k p (by decide);have G:Y w o S (Ic B m d) wr:=J.le (KZ NZ QZ);obtain⟨g',a1,rfl,_,z,n⟩:=G.we B d m Ue k a (by decide);have K:=v _ rfl;have L:=j 1 _ rfl;have c2:=j 2 _ rfl;have c3:=j 3 _ rfl;have c4:=j 4 _ rfl;have d0:=z _ rfl;have d1:=n 1 _ rfl;have d2:=n 2 _ rfl;have d3:=n 3 _ rfl;have d4:=n 4 _ rfl;have t:=PM l[k] m[k] (W.out _ (XT p)) (U.out _ (XT a));have hS:Hid (l[k]=m[k]→l.take (k+1)=m.take (k+1)):=V fun h=>by rw[rU p,rU a,C.out,h]
    have X:Hid (l[k]≠m[k]→l≠m):=V fun h e=>by subst e;exact h rfl
    have P:(k:Int)<(l.length:Int):=by omega
    generalize l[k]=x at*;generalize m[k]=y at*;have p0:=IT K;have p1:=IT L;have p2:=IT c2;have p3:=IT c3;have p4:=IT c4;have q0:=IT d0;have q1:=IT d1;have q2:=IT d2;have q3:=IT d3;have q4:=IT d4;obtain⟨q,E⟩:∃q,decide (x=y)=q:=⟨_,rfl⟩;rw[E]at t;have F:=V E;unfold dw bh at t;clear j v n z E G C;go_wp2_with fail;refine OU (by kernel_rfl) (by kernel_rfl) ?_;repeat (quiet_step ((first|(go_at_call 28;refine gU (t _)))))
    refine fU ?_;first|(rintro _ ⟨i,rfl⟩)|(intro i)
    have u:=jU wr i.d i.os;generalize Go.Sort.grow (redrawn wr i.d) i.os=wq at*;clear i;have H:=J.below u;clear p0 p1 p2 p3 p4 q0 q1 q2 q3 q4 K L c2 c3 c4 d0 d1 d2 d3 d4 t u J;cases q with
    |true=>
     have T:=V (hS.out (vX F.out));go_wp2;go_roundw;case rel=>exact⟨k+1,by omega,by go_num,T,H⟩
     case measure=>simp[intOf];omega
    |false=>
     have r:res=false:=by rw[←D.out];exact yU (X.out (of_decide_eq_false F.out))
     subst r;go_wp2;go_ret;exact⟨rfl,H⟩
   ·have r:res=true:=by rw[←D.out];have N:=C.out;rw[YT (by omega),YT (by have:=s.out;omega)]at N;exact RU N
    have P:¬ ((k:Int)<(l.length:Int)):=by omega
    subst r;go_wp2;go_ret;exact⟨rfl,J⟩
 ·have r:res=false:=by rw[←D.out];exact yU fun h=>f (h▸rfl)
  have hb:((l.length:Int) !=m.length)=true:=by rw[CU];omega
  subst r;clear f;go_enter func10,ntmps10;go_wp2;go_ret;exact⟨rfl,I⟩
theorem Mk(e:Nat)(a:Bool):Pq prog 50 #[Z e,.bool a] (.bool (decide (e=60)||decide (e=61)&& !a)):=by
 intro w;by_cases h:e=60
 ·subst h;rw[show(decide ((60:Nat)=60)||decide ((60:Nat)=61)&& !a)=true from rfl];go_enter func50,ntmps50;go_wp2;go_ret;exact⟨rfl,0,rfl⟩
 ·by_cases b:e=61
  ·subst b;rw[show(decide ((61:Nat)=60)||decide ((61:Nat)=61)&& !a)= !a from rfl];cases a
   ·go_enter func50,ntmps50;go_wp2;go_ret;exact⟨rfl,0,rfl⟩
   ·go_enter func50,ntmps50;go_wp2;go_ret;exact⟨rfl,0,rfl⟩
  ·rw[yU h,yU b];have c:((e:Int)==60)=false:=by rw[ET];omega
   have d:((e:Int)==61)=false:=by rw[ET];omega
   go_enter func50,ntmps50;go_wp2;go_ret;exact⟨rfl,0,rfl⟩
theorem NL(st:Bs)(l:List An.yc)(k:Nat)(h:k<l.length):Qf st (l.take (k+1))=Qf st (l.take k)++(if l[k].stream=st then [l[k]]else []):=by rw[rU h,Bw];congr 1;unfold Qf;split<;>simp_all
theorem Og(st:Bs)(l:List An.yc):(Qf st l).length≤l.length:=DU _ _
theorem Fk(l:List An.yc)(t:An.yc):Vb (l++[t])=Vb l++bh t:=by simp[Vb]
theorem Xn(M:Nat)(A:Option Addr)(c:Nat)(x y:Value)(L:List An.yc)(T:L.length≤1000000)(st:Bs):Tr prog 11 #[Da M,.string (mk st)] (aa.wm M 50 #[.slice A L.length c,x,y]*Ba 5 (.slice A L.length c) L.length (Vb L)) (fun v:Value=>v) (fun v=>ua 58 5 v (Qf st L).length (Vb (Qf st L))*(aa.wm M 50 #[.slice A L.length c,x,y]*Ba 5 (.slice A L.length c) L.length (Vb L))):=by
 intro w o H B;have I:=TZ B;have z:Y w o H (ua 58 5 (.slice none 0 0) (Qf st (L.take 0)).length (Vb (Qf st (L.take 0)))*(aa.wm M 50 #[.slice A L.length c,x,y]*Ba 5 (.slice A L.length c) L.length (Vb L))) w:=I.le (KZ (RZ trivial) (MZ (j0 58 5) (JZ _)));obtain⟨i0,hi,E,F,G⟩:=info_parts Po;clear B I;go_enter func11,ntmps11;go_wp2_with fail;go_loopw [5,6] (fun v i wr=>∃ (k:Nat) (d:Option Addr) (e:Nat) (acc:List An.yc),k≤L.length∧i= .int .i64 k∧v= .slice d acc.length e∧Hid (acc=Qf st (L.take k))∧Y w o H (ua 58 5 (.slice d acc.length e) acc.length (Vb acc)*(aa.wm M 50 #[.slice A L.length c,x,y]*Ba 5 (.slice A L.length c) L.length (Vb L))) wr) (fun _ i _=>L.length-(intOf i).toNat);case atStart=>exact⟨0,none,0,[],WT _,rfl,rfl,V rfl,z⟩
 case round=>
  obtain⟨k,d,e,acc,U,rfl,rfl,f,J⟩:=hrel;clear z;have m0:wr.cell? ⟨M,0,none⟩=some (.slice A L.length c):=J.cells M 0;by_cases p:k<L.length
  ·obtain⟨g,off,rfl,_,n,h⟩:=J.we A c L Ue k p (by decide);have Q:=n _ rfl;have S:=h 1 _ rfl;have c2:=h 2 _ rfl;have c3:=h 3 _ rfl;have c4:=h 4 _ rfl;have a:=NL st L k p;rw[←f.out]at a;have m:=Og st (L.take k);rw[←f.out,OT]at m;have C:(k:Int)<(L.length:Int):=by omega
   have l:acc.length+1≤1000000000:=by omega
   have s:=V l;clear h n m l f;generalize L[k]=t at*;by_cases b:t.stream=st
   ·rw[JT b]at a;have r:=V a;rw[b]at Q;have q:=uo t;have D:=Ue t;have j:bh t=[.string (mk st),.int .i64 t.Qb,.string (mk t.ev.Xi),.string (mk t.ev.data),.float .f64 t.ev.w]:=by unfold bh;rw[b]
    rw[j]at q D;have u:=V j;clear a b j;go_wp2_with (at_builtin;go_loud (refine Oa (v:=.slice d acc.length e) [.string (mk st),.int .i64 t.Qb,.string (mk t.ev.Xi),.string (mk t.ev.data),.float .f64 t.ev.w] 1 J rfl rfl underlying44 hi E F rfl rfl rfl rfl q s.out (by rw[G];omega) ?_);intro K c' W P);go_roundw;case rel=>
     refine⟨k+1,K,c',acc++[t],by omega,by go_num,by rw[CT];rfl,V r.out.symm,?_⟩;have R:(acc++[t]).length=acc.length+1:=by simp
     rw[R,Fk,u.out];exact P
    case measure=>simp[intOf];omega
   ·rw[DT b,EU]at a;have r:=V a;have hb:(t.stream==st)=false:=by simpa using b
    clear a b;go_wp2_with fail;go_roundw;case rel=>exact⟨k+1,d,e,acc,by omega,by go_num,rfl,V r.out.symm,J⟩
    case measure=>simp[intOf];omega
  ·have C:¬ ((k:Int)<(L.length:Int)):=by omega
   have he:acc=Qf st L:=by rw[f.out,YT (by omega)]
   have N:=V he;clear he f;go_wp2_with fail;go_ret;refine⟨.slice d acc.length e,rfl,?_⟩;rw[←N.out];exact J
def gL(L:List An.yc)(s:Bs):Int:=if ad s then((Qf s L).length:Int)-1 else-1
theorem SO(M:Nat)(A:Option Addr)(c:Nat)(x y:Value)(L:List An.yc)(g:L.length≤1000000)(st:Bs)(d:st.length≤1000000000):Ud prog 52 #[Da M,Ha st] (ba M 50 #[O A L.length c,x,y]*Ic A L c) (.tuple #[Z (gL L st),Z (ah st)]) (ba M 50 #[O A L.length c,x,y]*Ic A L c):=by
 intro w o l b;have I:=TZ b;have t91:=Xu st d;have t11:=Xn M A c x y L g st;have k:=Og st L;unfold gL ah;clear b;cases a:ad st with
 |false=>rw[a]at t91;rw[DT (by simp),DT (by simp)];clear a t11;go_enter func52,ntmps52;go_wp2_with fail;refine(t91 _).mono ?_;rintro e h ⟨rfl,m,rfl⟩;go_wp2;go_ret2;exact⟨rfl,I.drewN m⟩
 |true=>rw[a]at t91;rw[JT rfl,JT rfl];generalize Qf st L=q at*;have hw:IntKind.i64.wrap ((q.length:Int)-1)=(q.length:Int)-1:=RT _ (by omega);clear a;go_enter func52,ntmps52;go_wp2_with fail;refine(t91 _).mono ?_;rintro e h ⟨rfl,m,rfl⟩;have f:=I.drewN m;go_wp2_with fail;refine f.kc t11 fun w2 v J=> ?_;obtain⟨_,i,j,rfl⟩:=J.Cd v;go_wp2;go_ret2;exact⟨rfl,J.ya⟩
theorem kj(M:Nat)(a:Value)(B:Option Addr)(n d:Nat)(s:Value):Ud prog 53 #[Da M] (ba M 50 #[a,O B n d,s]) (.tuple #[]) (ba M 50 #[a,O B n d,Z n]):=by intro w o e b;have I:=TZ b;have c:=I.cells M 1;have c2:=I.cells M 2;have f2:=I.free M 2;clear b;go_enter func53,ntmps53;go_wp2;go_end0;exact⟨rfl,(I.ra M 2 (Z n) #[a,O B n d,Z n] rfl).ya⟩
def MA(L:List An.yc)(s:Bs)(fr n:Int):List An.yc:=if pc s fr n=0 then Tg (Qf s L) fr.toNat n.toNat else []
def oA(L:List An.yc)(s:Bs)(fr n:Int):List An.yc:=if pc s fr n=0 then Bh (Qf s L) fr.toNat n else []
theorem kF{l:List An.yc}{k f n:Nat}(h:k<l.length):Tg (l.take (k+1)) f n=if f≤l[k].Qb∧(Tg (l.take k) f n).length<n then Tg (l.take k) f n++[l[k]]else Tg (l.take k) f n:=by
 unfold Tg;rw[rU h,sW,IU,List.filter_nil];generalize(l.take k).filter (fun t=>decide (f≤t.Qb))=q;by_cases a:f≤l[k].Qb
 ·rw[JT (by simpa using a)];by_cases b:q.length<n
  ·rw[JT ⟨a,by rw[OT];omega⟩,YT (by simp;omega),YT (by omega)]
  ·rw[DT (by rw[OT];omega),lV (by omega)]
 ·rw[DT (by simpa using a),DT (by simp[a]),EU]
theorem jF{l:List An.yc}{k f:Nat}{n:Int}(h:k<l.length):Bh (l.drop (l.length-(k+1))) f n=if l[l.length-1-k].Qb≤f∧(f:Int)-l[l.length-1-k].Qb<n then Bh (l.drop (l.length-k)) f n++[l[l.length-1-k]]else Bh (l.drop (l.length-k)) f n:=by
 unfold Bh;have e:l.drop (l.length-(k+1))=l[l.length-1-k]::l.drop (l.length-k):=by
  rw[FU (by omega)];congr 1
  ·congr 1;omega
  ·congr 1;omega
 rw[e,List.reverse_cons,sW,IU,List.filter_nil];by_cases a:l[l.length-1-k].Qb≤f∧(f:Int)-l[l.length-1-k].Qb<n
 ·rw[JT a,JT (by simpa using a)]
 ·rw[DT a,DT (by simpa using a),EU]
theorem LL(M:Nat)(A:Option Addr)(c:Nat)(x y:Value)(L:List An.yc)(hL:L.length≤1000000)(st:Bs)(b:st.length≤1000000000)(fr n:Int):Tr prog 51 #[Da M,.string (mk st),.int .i64 fr,.int .i64 n,.bool false] (aa.wm M 50 #[.slice A L.length c,x,y]*Ba 5 (.slice A L.length c) L.length (Vb L)) (fun v:Value=> .tuple #[v,.int .i64 (pc st fr n)]) (fun v=>ua 58 5 v (MA L st fr n).length (Vb (MA L st fr n))*(aa.wm M 50 #[.slice A L.length c,x,y]*Ba 5 (.slice A L.length c) L.length (Vb L))):=by
 intro w o r N;have I:=TZ N;have t91:=Xu st b;have t11:=Xn M A c x y L hL st;have hl:=Og st L;unfold MA;obtain⟨i0,hi,a1,a6,a7⟩:=info_parts Po;by_cases j:ad st=false∨fr<0∨n<1
 ·have e:pc st fr n=2:=by unfold pc;rw[JT j]
  rw[e,DT (by decide)];have H:=I.le (KZ (RZ trivial) (MZ (j0 58 5) (JZ _)));clear N e t11 I;cases a:ad st with
  |false=>rw[a]at t91;clear a j;go_enter func51,ntmps51;go_wp2_with fail;refine(t91 _).mono ?_;rintro e P ⟨rfl,m,rfl⟩;go_wp2_with fail;go_ret2;exact⟨.slice none 0 0,rfl,H.drewN m⟩
  |true=>
   rw[a]at t91 j;by_cases h1:fr<0
   ·clear a j;go_enter func51,ntmps51;go_wp2_with fail;refine(t91 _).mono ?_;rintro e P ⟨rfl,m,rfl⟩;go_wp2_with fail;go_ret2;exact⟨.slice none 0 0,rfl,H.drewN m⟩
   ·have h2:n<1:=by rcases j with h|h|h;cases h;exact absurd h h1;exact h
    clear a j;go_enter func51,ntmps51;go_wp2_with fail;refine(t91 _).mono ?_;rintro e P ⟨rfl,m,rfl⟩;go_wp2_with fail;go_ret2;exact⟨.slice none 0 0,rfl,H.drewN m⟩
 ·have e:pc st fr n=0:=by unfold pc;rw[DT j]
  rw[e,JT rfl];have a:ad st=true:=by
   cases h:ad st with
   |true=>rfl
   |false=>exact absurd (.inl h) j
  have F:0≤fr:=by omega
  have hn:1≤n:=by omega
  rw[a]at t91;obtain⟨f,rfl⟩:=DY F;obtain⟨d,rfl⟩:=DY (show 0≤n by omega);have an:¬ ((d:Int)<1):=by omega
  rw[gV,gV];generalize Qf st L=l at*;have al:l.length≤1000000:=by omega
  clear N e j a F hn hl;go_enter func51,ntmps51;go_wp2_with fail;refine(t91 _).mono ?_;rintro e P ⟨rfl,m,rfl⟩;have S:=I.drewN m;clear I t91;go_wp2_with fail;refine S.kc t11 fun w2 v J=> ?_;obtain⟨_,q,u,rfl⟩:=J.Cd v;have K:Y w o r (ua 58 5 (.slice none 0 0) (Tg (l.take 0) f d).length (Vb (Tg (l.take 0) f d))*(Ba 5 (.slice q l.length u) l.length (Vb l)*(aa.wm M 50 #[.slice A L.length c,x,y]*Ba 5 (.slice A L.length c) L.length (Vb L)))) w2:=by
   have hz:Tg (l.take 0) f d=[]:=by unfold Tg;simp
   rw[hz];have J0:=J.ya (A:=ua 58 5 (.slice q l.length u) l.length (Vb l)*(aa.wm M 50 #[.slice A L.length c,x,y]*Ba 5 (.slice A L.length c) L.length (Vb L)));exact(J0.le (MZ c8 (JZ _))).le (KZ (RZ trivial) (MZ (j0 58 5) (JZ _)))
  have B:(Tg (l.take 0) f d).length=0:=by unfold Tg;simp
  have R:=V B;clear S t11 J B;go_wp2_with fail;go_loopw [13,14] (fun v i wr=>∃ (k:Nat) (p:Option Addr) (c2:Nat) (acc:List An.yc),k≤l.length∧i= .int .i64 k∧v= .slice p acc.length c2∧Hid (acc=Tg (l.take k) f d)∧Y w o r (ua 58 5 (.slice p acc.length c2) acc.length (Vb acc)*(Ba 5 (.slice q l.length u) l.length (Vb l)*(aa.wm M 50 #[.slice A L.length c,x,y]*Ba 5 (.slice A L.length c) L.length (Vb L)))) wr) (fun _ i _=>l.length-(intOf i).toNat);case atStart=>exact⟨0,none,0,Tg (l.take 0) f d,WT _,rfl,by rw[R.out],V rfl,by rw[R.out]at K⊢;exact K⟩
  case round=>
   obtain⟨k,p,c2,acc,hk,rfl,rfl,s,J⟩:=hrel;clear K;by_cases G:k<l.length
   ·have T:Y w o r (Ba 5 (.slice q l.length u) l.length (Vb l)) wr:=J.le (KZ NZ (KZ QZ QZ));obtain⟨g,off,rfl,_,E,z⟩:=T.we q u l Ue k G (by decide);have c0:=E _ rfl;have a8:=z 1 _ rfl;have aj:=z 2 _ rfl;have c3:=z 3 _ rfl;have c4:=z 4 _ rfl;have b:=kF (f:=f) (n:=d) G;rw[←s.out]at b;have ak:acc.length≤k:=by rw[s.out];unfold Tg;refine KT (by rw[OT];exact dX _ _) (KT (DU _ _) ?_);rw[OT];omega
    have U:(k:Int)<(l.length:Int):=by omega
    have D:acc.length+1≤1000000000:=by omega
    have Q:=V D;have aM:IntKind.i64.wrap ((l.length:Int)-1-k)=(l.length:Int)-1-k:=RT _ (by omega);clear z E D s T;generalize l[k]=t at*;have W:=uo t;have aq:=Ue t;by_cases a:f≤t.Qb∧acc.length<d
    ·rw[JT a]at b;have C:=V b;obtain⟨X,av⟩:=a;have b1:(f:Int)≤(t.Qb:Int):=by omega
     have b2:(acc.length:Int)<(d:Int):=by omega
     clear b;go_wp2_with (at_builtin;go_loud (refine Oa (v:=.slice p acc.length c2) (bh t) 1 J rfl rfl underlying44 hi a1 a6 rfl rfl rfl rfl W Q.out (by rw[a7];omega) ?_);intro A' c' w6 K4);go_roundw;case rel=>
      refine⟨k+1,A',c',acc++[t],by omega,by go_num,by rw[CT];rfl,V C.out.symm,?_⟩;have e1:(acc++[t]).length=acc.length+1:=by simp
      rw[e1,Fk];exact K4
     case measure=>simp[intOf];omega
    ·rw[DT a]at b;have C:=V b;clear b;by_cases X:f≤t.Qb
     ·have b1:(f:Int)≤(t.Qb:Int):=by omega
      have b2:¬ ((acc.length:Int)<(d:Int)):=by omega
      clear a;go_wp2_with fail;go_roundw;case rel=>exact⟨k+1,p,c2,acc,by omega,by go_num,rfl,V C.out.symm,J⟩
      case measure=>simp[intOf];omega
     ·have b1:¬ ((f:Int)≤(t.Qb:Int)):=by omega
      clear a;go_wp2_with fail;go_roundw;case rel=>exact⟨k+1,p,c2,acc,by omega,by go_num,rfl,V C.out.symm,J⟩
      case measure=>simp[intOf];omega
   ·have U:¬ ((k:Int)<(l.length:Int)):=by omega
    have he:acc=Tg l f d:=by rw[s.out,YT (by omega)]
    have HE:=V he;clear he s;go_wp2_with fail;go_ret2;refine⟨.slice p acc.length c2,rfl,?_⟩;rw[←HE.out];exact J.ya
end
section
open Go.RowKit An Go.ChangeShapes Go.WideShapes Go.ChangeAt Go.Proofs.Tryz
section
variable {P:Program}{w0 w:World}{o0 r0:Td}{S:aa}{t e:TypeId}{sz n:Nat}{xs:List Value}
theorem pt{g:Array Oper}{c:List Oper}{b:Oper}{a:Act}{Q:Exit→Act→World→Prop}{s x:Operand}{tx:TypeId}{i:TypeInfo}{z:Value}{m:Nat}{news:List Value}{A:Option Addr} (h:Y w0 o0 r0 S w) (l:b.guard=none) (D:b.op= .call {callee:=.builtin .append,args:=#[s,x],argTypes:=#[t,tx]}) (G:P.underlying t=some (.slice e)) (hi:P.info? e=some i) (I:i.zero=some z) (d:i.size=sz) (q:z.cells.size=sz) (H:a.eval s=O A n n) (o:aa.le S (Ba sz (O A n n) n xs)) (r:∀u∈xs,u.oneCell'=true) (p:0<sz) (F:Src P sz tx (a.eval x) m news w) (C:0<m) (j:n+m≤maxLen) (B:(n+m)*i.bytes≤140737488355328) (y:∀f w',Y w0 o0 r0 (ua e sz f (n+m) (xs++news)*S) w'→wpList P g Q c (a.put b.dst f) w'):wpList P g Q (b::c) a w:=by obtain⟨f,w',E,v⟩:=Y.Ow (ty:=b.type) G hi I d q h o r p F C j B;refine IX l fun K k=> ?_;unfold Oper.wp execOp;simp only[D,resolve,invoke,builtin,wW,YV,GV,uW,qU,gX,H,E];exact k _ _ (y f w' v)
end
structure MQ where
 A:Option Addr
 c:Nat
 B:Option Addr
 d:Nat
abbrev yl(M:Nat)(q:MQ)(n k:Nat)(a:Value):aa:=ba M 50 #[.slice q.A n q.c,.slice q.B k q.d,a]
abbrev xj(M:Nat)(L:List An.yc)(a:List Nat)(b:Value)(q:MQ):aa:=aa.pure (L.length≤q.c∧a.length≤q.d)*(yl M q L.length a.length b*(Ic q.A L q.c*jf q.B a q.d))
def Dm(a:List Za)(st:Bs)(b:Int)(l:List Ev):List Za:=if Fe a st b l=0 then a++[Ff a st l]else a
def SB(a:List Za)(st:Bs)(b:Int)(l:List Ev):Nat:=if Fe a st b l=0 then(Qf st (Ja a)).length else 0
theorem ft(l:List An.yc):∀u∈Vb l,u.oneCell'=true:=fun u hu=>by obtain⟨t,_,h⟩:=cX.1 hu;exact uo t u h
theorem sI(M:Nat)(MB:List Za)(A B:Option Addr)(z:Value)(st:Bs)(j:Int)(v:Value)(l:List Ev)(F:BB ⟨st,0,l⟩)(hL:(Ja MB).length≤10000)(hM:MB.length≤10000):Tr prog 49 #[Da M,Ha st,Z j,v] (yl M ⟨A,(Ja MB).length,B,(La MB).length⟩ (Ja MB).length (La MB).length z*(Ic A (Ja MB) (Ja MB).length*(jf B (La MB) (La MB).length*Ba 3 v l.length (vc l)))) (fun _:MQ=> .tuple #[Z (SB MB st j l),Z (Fe MB st j l)]) (fun q=>xj M (Ja (Dm MB st j l)) (La (Dm MB st j l)) z q*Ba 3 v l.length (vc l)):=by
 intro w o r0 h0;have I:=TZ h0;obtain⟨_,Ae,ce,rfl,_⟩:=I.sl v;have dt:=yh MB;have t89:=Qz ⟨st,0,l⟩ (O Ae l.length ce) F;have t90:=kP (Ff MB st l) (O Ae l.length ce) ⟨F.stream,by have:=Og st (Ja MB);show(Qf st (Ja MB)).length≤_;omega,F.many,F.vc⟩;have t11:=Xn M A (Ja MB).length (O B (La MB).length (La MB).length) z (Ja MB) (by omega) st;have eb:=Og st (Ja MB);have e9:=F.many;have f:Fe MB st j l=if jd ⟨st,0,l⟩≠0 then jd ⟨st,0,l⟩else if j< -2 then 2 else if j≠ -2∧j≠((Qf st (Ja MB)).length:Int)-1 then 80 else jd (Ff MB st l):=rfl
 have a7:Fe MB st j l≠0→SB MB st j l=0∧Dm MB st j l=MB:=fun h=>⟨by unfold SB;rw[DT h],by unfold Dm;rw[DT h]⟩;have c9:Fe MB st j l=0→SB MB st j l=(Qf st (Ja MB)).length∧Ja (Dm MB st j l)=Ja MB++Kf (Ff MB st l)∧La (Dm MB st j l)=La MB++[l.length]:=fun h=>⟨by unfold SB;rw[JT h],by unfold Dm;rw[JT h];exact lJ MB st l,by unfold Dm;rw[JT h];exact qI MB st l⟩;have cG:(Ff MB st l).vc=l∧(Ff MB st l).stream=st∧(Ff MB st l).first=(Qf st (Ja MB)).length:=⟨rfl,rfl,rfl⟩;have aq:∀i (h:i<l.length),(Kf (Ff MB st l)).take (i+1)=(Kf (Ff MB st l)).take i++[⟨st,(Qf st (Ja MB)).length+i,l[i]⟩]:=fun i h=>Lp (b:=Ff MB st l) h;have cc:(Kf (Ff MB st l)).length=l.length:=bk _;unfold bV at t89 t90;dsimp only at t89;rw[show(Ff MB st l).stream=st from rfl,show(Ff MB st l).first=(Qf st (Ja MB)).length from rfl,show(Ff MB st l).vc=l from rfl]at t90;generalize SB MB st j l=rn at*;generalize Fe MB st j l=rc at*;generalize Dm MB st j l=bf at*;generalize ea:(Qf st (Ja MB)).length=p at*;generalize cx:Ja MB=L at*;generalize cF:La MB=d at*;have ct:=a7;have bn:rc≠0→rn=0∧∀W,Y w o r0 (yl M ⟨A,L.length,B,d.length⟩ L.length d.length z*(Ic A L L.length*(jf B d d.length*Qc Ae l ce))) W→∃q:MQ,Y w o r0 (xj M (Ja bf) (La bf) z q*Qc Ae l ce) W:=fun h=>by obtain⟨D,H⟩:=a7 h;subst H;refine⟨D,fun W hW=>⟨⟨A,L.length,B,d.length⟩,?_⟩⟩;rw[cx,cF];exact hW.le (KZ (KZ (MZ (JZ _) PZ) PZ) (MZ (RZ ⟨FT _,FT _⟩) (JZ _)))
 have HE:=V bn;have HY:=V c9;have cv:=V aq;have e8:IntKind.i64.wrap ((p:Int)-1)=(p:Int)-1:=RT _ (by omega);have b5:(p:Int)-1+1=(p:Int):=by omega
 have e5:d.length≤10000:=by omega
 clear h0 a7 c9 cG aq F bn ct dt;by_cases D:jd ⟨st,0,l⟩≠0
 ·rw[JT D]at f;rw[←f]at t89 D;obtain⟨hr,U⟩:=HE.out D;have HF:=V U;subst hr;have hz:((rc:Int) !=0)=true:=by rw[CU];omega
  clear t90 t11 U f;go_enter func49,ntmps49;go_wp2_with fail;refine I.k1 t89 fun Q J=> ?_;go_wp2;go_ret2;obtain⟨q,hq⟩:=HF.out _ J.ya;exact⟨q,rfl,hq⟩
 ·rw[DT D]at f;have D:jd ⟨st,0,l⟩=0:=Classical.not_not.1 D;rw[D]at t89;by_cases H:j< -2
  ·rw[JT H]at f;subst f;obtain⟨hr,U⟩:=HE.out (by decide);have HF:=V U;subst hr;clear t90 t11 U;go_enter func49,ntmps49;go_wp2_with fail;refine I.k1 t89 fun Q J=> ?_;go_wp2;go_ret2;obtain⟨q,hq⟩:=HF.out _ J.ya;exact⟨q,rfl,hq⟩
  ·rw[DT H]at f;by_cases h3:j≠ -2∧j≠(p:Int)-1
   ·rw[JT h3]at f;subst f;obtain⟨hr,U⟩:=HE.out (by decide);have HF:=V U;subst hr;have b1:(j != -2)=true:=by rw[CU];exact h3.1
    have b2:(j !=(p:Int)-1)=true:=by rw[CU];exact h3.2
    clear t90 U;go_enter func49,ntmps49;go_wp2_with fail;refine I.k1 t89 fun Q J=> ?_;clear I t89;go_wp2_with fail;refine J.kc t11 fun w2 v J2=> ?_;obtain⟨_,s,y,rfl⟩:=J2.Cd v;go_wp2;go_ret2;obtain⟨q,hq⟩:=HF.out _ J2.ya;exact⟨q,rfl,hq⟩
   ·rw[DT h3]at f;have hx:(j != -2)=false∨(j != -2)=true∧(j !=(p:Int)-1)=false:=by rw[kV,kV,CU];omega
    obtain⟨i0,hi,cf,ch,ck⟩:=info_parts Po;obtain⟨i3,cT,e0,e3,e4⟩:=info_parts Mi;unfold Tw at t90;clear h3;by_cases N:jd (Ff MB st l)=0
    ·rw[JT N]at t90;rw[N]at f;subst f;obtain⟨hr,b9,b7⟩:=HY.out rfl;replace hr:=hr.symm;subst hr;obtain⟨_,a6,_⟩:=Hd N;have a6:l≠[]:=a6;have e7:0<l.length:=xV.2 a6;generalize Kf (Ff MB st l)=T at*;generalize Sa (Ff MB st l)=bb at*;have HT:=V b9;have cp:=V b7;have cw:=V cc;clear N b9 b7 a6 cc D HE HY;rcases hx with b1|⟨b1,b2⟩;all_goals
      go_enter func49,ntmps49;go_wp2_with fail;refine I.k1 t89 fun Q J=> ?_;clear I t89;go_wp2_with fail;refine J.kc t11 fun w2 v J2=> ?_;obtain⟨_,s,y,rfl⟩:=J2.Cd v;clear J t11;go_wp2_with fail;refine J2.k1 t90 fun w3 J3=> ?_;clear J2 t90;have K0:Y w o r0 (yl M ⟨A,L.length,B,d.length⟩ L.length d.length z*(Ic A L L.length*(jf B d d.length*Qc Ae l ce))) w3:=J3.ya;clear J3;obtain⟨la,bt⟩:∃la,(p:Int)-1=la:=⟨_,rfl⟩;rw[bt]at b5;rw[bt];go_wp2_with fail;go_loopw [12] (fun x wr=>∃k:Nat,k≤l.length∧x=Z k∧((k=0∧Y w o r0 (yl M ⟨A,L.length,B,d.length⟩ L.length d.length z*(Ic A L L.length*(jf B d d.length*Qc Ae l ce))) wr)∨(0<k∧∃ (s:Option Addr) (y:Nat) (acc:List An.yc),Hid (acc=L++T.take k)∧Y w o r0 (yl M ⟨s,y,B,d.length⟩ acc.length d.length z*(Zg s acc y*(jf B d d.length*Qc Ae l ce))) wr))) (fun x _=>l.length-(intOf x).toNat);case atStart=>exact⟨0,WT _,rfl,.inl ⟨rfl,K0⟩⟩
      case round=>
       obtain⟨k,hk,rfl,cb⟩:=hrel;clear K0;by_cases an:k<l.length
       ·have aq:=cv.out k an;have bc:=V aq;have dj:(k:Int)<(l.length:Int):=by omega
        have z1:IntKind.i64.wrap (la+1)=(p:Int):=by rw[b5];exact RT _ (by omega)
        have z2:IntKind.i64.wrap ((p:Int)+k)=(p:Int)+k:=RT _ (by omega);have z3:IntKind.i64.wrap (p:Int)=(p:Int):=RT _ (by omega);clear aq;rcases cb with⟨a1,J⟩|⟨a1,s,y,acc,HA,J⟩
        ·have HA:Hid (L=L++T.take k):=V (by rw[a1];simp);clear a1;obtain⟨g,off,rfl,_,aj,hc⟩:=J.we Ae ce l wi k an (by decide);have R:=aj _ rfl;have E:=hc 1 _ rfl;have c2:=hc 2 _ rfl;generalize al:l[k]=ev at*;have m0:wr.cell? ⟨M,0,none⟩=some (O A L.length L.length):=J.cells M 0;have a8:Hid (∀W (X:aa),Y w o r0 (X*(yl M ⟨A,L.length,B,d.length⟩ L.length d.length z*Qc (some ⟨g,off,none⟩) l ce)) W→W.cell? ⟨M,0,none⟩=some (O A L.length L.length)∧W.cell? ⟨g,off+k*3,none⟩=some (Ha ev.Xi)∧W.cell? ⟨g,off+k*3+1,none⟩=some (Ha ev.data)∧W.cell? ⟨g,off+k*3+2,none⟩=some (.float .f64 ev.w)):=V fun W X h=>by
          obtain⟨g',b6,bm,_,ak,hd⟩:=h.we (some ⟨g,off,none⟩) ce l wi k an (by decide);have bs:g'=g∧b6=off:=by injection bm with h;injection h with D H;exact⟨D.symm,H.symm⟩
          obtain⟨rfl,rfl⟩:=bs;rw[al]at ak hd;exact⟨h.cells M 0,ak _ rfl,hd 1 _ rfl,hd 2 _ rfl⟩
         clear hc aj al;go_wp2_with fail;refine Gb (fun W=>W.cell? ⟨M,0,none⟩=some (O A L.length L.length)∧W.cell? ⟨g,off+k*3,none⟩=some (Ha ev.Xi)∧W.cell? ⟨g,off+k*3+1,none⟩=some (Ha ev.data)∧W.cell? ⟨g,off+k*3+2,none⟩=some (.float .f64 ev.w)) (fun a b=>Below a.heap.size a b) [0,1,2,3,4,5,6,7,8,9,10,11,12,13,14] [15,16] [17,18,19] (fun w=>mU _ _) (fun _ _ _=>vb) (fun _ _ ⟨D,H,h3,N⟩ F=>⟨Bb F D,Bb F H,Bb F h3,Bb F N⟩) (by kernel_rfl) (by kernel_rfl) (fun _ _ _ _ _ h=>h) ⟨m0,R,E,c2⟩ ?_;simp only[QT,VT,MT,NT];iterate 15 (first|(refine db (by rfl) (fun K r=> ?_);go_simp;refine r _ ?_;clear r K)|(refine gb (by rfl) (fun K r=> ?_);apply Exists.intro;refine⟨fun w hw=> ?_,?_⟩;(next=>(first|(go_simp;rfl)|(obtain⟨m0,R,E,c2⟩:=hw;go_simp;rfl)|(obtain⟨m0,R,E,c2⟩:=hw;go_simp;done)|(go_simp;(fail))|(obtain⟨m0,R,E,c2⟩:=hw;go_simp;(fail))));go_simp;refine r _ ?_;clear r K))
         refine Eb ?_;intro Q av;have K1:=J.drew.below av;clear m0 R E c2 av J;refine ic (fun K r=> ?_);go_simp;have K2:Y w o r0 (ba Q.heap.size 58 #[Ha st,Z ((p:Int)+k),Ha ev.Xi,Ha ev.data,.float .f64 ev.w]*(yl M ⟨A,L.length,B,d.length⟩ L.length d.length z*(Ic A L L.length*(jf B d d.length*Qc (some ⟨g,off,none⟩) l ce)))) _:=K1.Wa (.cells #[Ha st,Z ((p:Int)+k),Ha ev.Xi,Ha ev.data,.float .f64 ev.w] 58) Q.heap.size rfl;refine r _ _ (a8.out _ _ (K2.to (A:=yl M ⟨A,L.length,B,d.length⟩ L.length d.length z*Qc (some ⟨g,off,none⟩) l ce)|>.le NZ)) (fun w2 aM=> ?_);clear r K K1;have G:=K2.below aM;clear K2 aM;generalize Q.heap.size=r2 at*;refine ic (fun K r=> ?_);refine Zj (A:=A) (n:=L.length) (xs:=Vb L) (m:=1) (news:=[Ha st,Z ((p:Int)+k),Ha ev.Xi,Ha ev.data,.float .f64 ev.w]) G (by rfl) (by rfl) underlying44 hi cf ch rfl (by rfl) (KZ NZ (KZ QZ (KZ NZ (KZ QZ QZ)))) (ft L) (by decide) (ur (sz:=5) (ty:=58) (g:=r2) prog underlying44 1 (G.wm r2) rfl (by intro u hu;simp only[dU,nV,SW]at hu;rcases hu with rfl|rfl|rfl|rfl|rfl<;>rfl)) (by decide) (by unfold maxLen;omega) (by rw[ck];omega) ?_;intro v1 w4 K4;obtain⟨_,C,c2,rfl⟩:=K4.Cd v1;refine r _ _ (a8.out _ _ (K4.to (A:=yl M ⟨A,L.length,B,d.length⟩ L.length d.length z*Qc (some ⟨g,off,none⟩) l ce)|>.le NZ)) (fun w5 b0=> ?_);clear r K;have K5:=K4.below b0;clear K4 b0 G;unfold Sb;have d0:=K5.cells M 0;have d1:=K5.free M 0;go_wp2;go_roundw;case rel=>
          refine⟨k+1,by omega,by go_num,.inr ⟨GX _,C,c2,L++[⟨st,p+k,ev⟩],V (by rw[bc.out,←iU,←HA.out]),?_⟩⟩;have e1:(L++[(⟨st,p+k,ev⟩:An.yc)]).length=L.length+1:=by simp
          unfold Zg;rw[e1,Fk];have K6:Y w o r0 (ba M 50 #[O C (L.length+1) c2,O B d.length d.length,z]*(ua 58 5 (O C (L.length+1) c2) (L.length+1) (Vb L++[Ha st,Z ((p:Int)+k),Ha ev.Xi,Ha ev.data,.float .f64 ev.w])*(jf B d d.length*Qc (some ⟨g,off,none⟩) l ce))) _:=(K5.ra M 0 (O C (L.length+1) c2) #[O C (L.length+1) c2,O B d.length d.length,z] rfl).ya;exact K6
         case measure=>simp[intOf];omega
        ·have e6:acc.length≤1011000:=by rw[HA.out,CT,OT];omega
         obtain⟨g,off,rfl,_,aj,hc⟩:=J.we Ae ce l wi k an (by decide);have R:=aj _ rfl;have E:=hc 1 _ rfl;have c2:=hc 2 _ rfl;generalize al:l[k]=ev at*;have m0:wr.cell? ⟨M,0,none⟩=some (O s acc.length y):=J.cells M 0;have a8:Hid (∀W (X:aa),Y w o r0 (X*(yl M ⟨s,y,B,d.length⟩ acc.length d.length z*Qc (some ⟨g,off,none⟩) l ce)) W→W.cell? ⟨M,0,none⟩=some (O s acc.length y)∧W.cell? ⟨g,off+k*3,none⟩=some (Ha ev.Xi)∧W.cell? ⟨g,off+k*3+1,none⟩=some (Ha ev.data)∧W.cell? ⟨g,off+k*3+2,none⟩=some (.float .f64 ev.w)):=V fun W X h=>by
          obtain⟨g',b6,bm,_,ak,hd⟩:=h.we (some ⟨g,off,none⟩) ce l wi k an (by decide);have bs:g'=g∧b6=off:=by injection bm with h;injection h with D H;exact⟨D.symm,H.symm⟩
          obtain⟨rfl,rfl⟩:=bs;rw[al]at ak hd;exact⟨h.cells M 0,ak _ rfl,hd 1 _ rfl,hd 2 _ rfl⟩
         clear hc aj al;go_wp2_with fail;refine Gb (fun W=>W.cell? ⟨M,0,none⟩=some (O s acc.length y)∧W.cell? ⟨g,off+k*3,none⟩=some (Ha ev.Xi)∧W.cell? ⟨g,off+k*3+1,none⟩=some (Ha ev.data)∧W.cell? ⟨g,off+k*3+2,none⟩=some (.float .f64 ev.w)) (fun a b=>Below a.heap.size a b) [0,1,2,3,4,5,6,7,8,9,10,11,12,13,14] [15,16] [17,18,19] (fun w=>mU _ _) (fun _ _ _=>vb) (fun _ _ ⟨D,H,h3,N⟩ F=>⟨Bb F D,Bb F H,Bb F h3,Bb F N⟩) (by kernel_rfl) (by kernel_rfl) (fun _ _ _ _ _ h=>h) ⟨m0,R,E,c2⟩ ?_;simp only[QT,VT,MT,NT];iterate 15 (first|(refine db (by rfl) (fun K r=> ?_);go_simp;refine r _ ?_;clear r K)|(refine gb (by rfl) (fun K r=> ?_);apply Exists.intro;refine⟨fun w hw=> ?_,?_⟩;(next=>(first|(go_simp;rfl)|(obtain⟨m0,R,E,c2⟩:=hw;go_simp;rfl)|(obtain⟨m0,R,E,c2⟩:=hw;go_simp;done)|(go_simp;(fail))|(obtain⟨m0,R,E,c2⟩:=hw;go_simp;(fail))));go_simp;refine r _ ?_;clear r K))
         refine Eb ?_;intro Q av;have K1:=J.drew.below av;clear m0 R E c2 av J;refine ic (fun K r=> ?_);go_simp;have K2:Y w o r0 (ba Q.heap.size 58 #[Ha st,Z ((p:Int)+k),Ha ev.Xi,Ha ev.data,.float .f64 ev.w]*(yl M ⟨s,y,B,d.length⟩ acc.length d.length z*(Zg s acc y*(jf B d d.length*Qc (some ⟨g,off,none⟩) l ce)))) _:=K1.Wa (.cells #[Ha st,Z ((p:Int)+k),Ha ev.Xi,Ha ev.data,.float .f64 ev.w] 58) Q.heap.size rfl;refine r _ _ (a8.out _ _ (K2.to (A:=yl M ⟨s,y,B,d.length⟩ acc.length d.length z*Qc (some ⟨g,off,none⟩) l ce)|>.le NZ)) (fun w2 aM=> ?_);clear r K K1;have G:=K2.below aM;clear K2 aM;generalize Q.heap.size=r2 at*;refine ic (fun K r=> ?_);refine step_append (v:=O s acc.length y) (n:=acc.length) (xs:=Vb acc) (m:=1) (news:=[Ha st,Z ((p:Int)+k),Ha ev.Xi,Ha ev.data,.float .f64 ev.w]) G (by rfl) (by rfl) underlying44 hi cf ch rfl (by rfl) (ur (sz:=5) (ty:=58) (g:=r2) prog underlying44 1 (G.wm r2) rfl (by intro u hu;simp only[dU,nV,SW]at hu;rcases hu with rfl|rfl|rfl|rfl|rfl<;>rfl)) (by unfold maxLen;omega) (by rw[ck];omega) ?_;intro v1 w4 K4;obtain⟨_,C,c2,rfl⟩:=K4.Cd v1;refine r _ _ (a8.out _ _ (K4.to (A:=yl M ⟨s,y,B,d.length⟩ acc.length d.length z*Qc (some ⟨g,off,none⟩) l ce)|>.le NZ)) (fun w5 b0=> ?_);clear r K;have K5:=K4.below b0;clear K4 b0 G;unfold Sb;have d0:=K5.cells M 0;have d1:=K5.free M 0;go_wp2;go_roundw;case rel=>
          refine⟨k+1,by omega,by go_num,.inr ⟨GX _,C,c2,acc++[⟨st,p+k,ev⟩],V (by rw[bc.out,←iU,←HA.out]),?_⟩⟩;have e1:(acc++[(⟨st,p+k,ev⟩:An.yc)]).length=acc.length+1:=by simp
          unfold Zg;rw[e1,Fk];have K6:Y w o r0 (ba M 50 #[O C (acc.length+1) c2,O B d.length d.length,z]*(ua 58 5 (O C (acc.length+1) c2) (acc.length+1) (Vb acc++[Ha st,Z ((p:Int)+k),Ha ev.Xi,Ha ev.data,.float .f64 ev.w])*(jf B d d.length*Qc (some ⟨g,off,none⟩) l ce))) _:=(K5.ra M 0 (O C (acc.length+1) c2) #[O C (acc.length+1) c2,O B d.length d.length,z] rfl).ya;exact K6
         case measure=>simp[intOf];omega
       ·have ds:k=l.length:=by omega
        subst ds;rcases cb with⟨a1,J⟩|⟨a1,s,y,acc,HA,J⟩
        ·exact absurd a1 (by omega)
        ·have dj:¬ ((l.length:Int)<(l.length:Int)):=by omega
         have cl:acc=Ja bf:=by rw[HA.out,YT (by rw[cw.out];exact FT _),HT.out]
         have cn:=J.Cn (A:=s) (n:=acc.length) (c:=y);have m1:wr.cell? ⟨M,1,none⟩=some (O B d.length d.length):=J.cells M 1;have K2:=J.Wa (.cells #[Z l.length] 3) wr.heap.size rfl;have z1:IntKind.i64.wrap (la+1)=(p:Int):=by rw[b5];exact RT _ (by omega)
         clear J;go_wp2_with (at_builtin;go_loud (refine pt (A:=B) (n:=d.length) (xs:=nv d) (m:=1) (news:=[Z l.length]) K2 rfl rfl underlying35 cT e0 e3 rfl rfl (KZ NZ (KZ QZ (KZ NZ (KZ QZ (KZ NZ (KZ QZ QZ)))))) (gB d) (by decide) (ur (sz:=1) (ty:=3) (g:=wr.heap.size) prog underlying35 1 (K2.wm wr.heap.size) rfl (by intro u hu;rw[lU.1 hu];rfl)) (by decide) (by unfold maxLen;omega) (by rw[e4];omega) ?_);intro v' w' G;obtain⟨_,C,c2,rfl⟩:=G.Cd v';have ca:=G.Cn (A:=C) (n:=d.length+1) (c:=c2);have d1:w'.cell? ⟨M,1,none⟩=some (O B d.length d.length):=G.cells M 1;have f1:=G.free M 1);go_ret2;first|(refine⟨⟨s,y,C,c2⟩,rfl,?_⟩)|(refine⟨rfl,⟨s,y,C,c2⟩,?_⟩)
         have K6:Y w o r0 (ba M 50 #[O s acc.length y,O C (d.length+1) c2,z]*(Zg s acc y*ua 3 1 (O C (d.length+1) c2) (d.length+1) (nv d++[Z l.length]))*Qc Ae l ce) _:=(G.ra M 1 (O C (d.length+1) c2) #[O s acc.length y,O C (d.length+1) c2,z] rfl).ya;have e1:(d++[l.length]).length=d.length+1:=by simp
         have e2:nv (d++[l.length])=nv d++[Z (l.length:Int)]:=by rw[Vj];rfl
         rw[←cl,cp.out];unfold xj yl jf;rw[e1,e2];exact K6.le (MZ (KZ (MZ (JZ _) (MZ c8 c8)) (RZ ⟨cn,ca⟩)) (JZ _))
    ·rw[DT N]at t90;rw[←f]at t90 N;obtain⟨hr,U⟩:=HE.out N;have HF:=V U;subst hr;have hz:((rc:Int) !=0)=true:=by rw[CU];omega
     clear U f N;rcases hx with b1|⟨b1,b2⟩;all_goals go_enter func49,ntmps49;go_wp2_with fail;refine I.k1 t89 fun Q J=> ?_;clear I t89;go_wp2_with fail;refine J.kc t11 fun w2 v J2=> ?_;obtain⟨_,s,y,rfl⟩:=J2.Cd v;clear J t11;go_wp2_with fail;refine J2.k1 t90 fun w3 J3=> ?_;clear J2 t90;go_wp2;go_ret2;obtain⟨q,hq⟩:=HF.out _ J3.ya;exact⟨q,rfl,hq⟩
end
section
open Go.RowKit An Go.ChangeShapes Go.WideShapes Go.ChangeAt Go.Proofs.Tryz
theorem ZQ(M:Nat)(a:List Za)(q:MQ)(s f:Nat)(p:Option Addr)(r:Nat)(hb:∀b∈a,ow b)(hs:s≤f)(aM:f≤a.length)(hL:(Ja a).length≤10000)(hM:a.length≤10000)(hq:(Ja a).length≤q.c∧(La a).length≤q.d):Ud prog 54 #[Da M,O p (Ja (a.take f)).length r] (yl M q (Ja a).length (La a).length (Z s)*(Ic q.A (Ja a) q.c*(jf q.B (La a) q.d*Ic p (Ja (a.take f)) r))) (.bool true) (yl M ⟨q.A,(Ja (a.take f)).length,q.B,f⟩ (Ja (a.take f)).length f (Z f)*(Ic q.A (Ja a) q.c*(jf q.B (La a) q.d*Ic p (Ja (a.take f)) r))):=by
 intro w o G h0;have I:=TZ h0;obtain⟨A,c,B,d⟩:=q;dsimp only at*;have u:=oy a f;have b7:∀t∈Ja a,t.ev.w<18446744073709551616:=fun t ht=>by obtain⟨b,bt,c9⟩:=cX.1 ht;obtain⟨i,hi,rfl⟩:=wo.1 c9;exact(hb b bt).ws _ (XT hi)
 have n:∀i (h:i<(Ja (a.take f)).length),(Ja a)[i]? =(Ja (a.take f))[i]? :=fun i h=>by obtain⟨t,ht⟩:=u;rw[←ht,IV h]
 have dj:(Ja (a.take f)).length≤(Ja a).length:=u.length_le;obtain⟨m,aj⟩:∃m:Nat→Nat,(fun k=>(Ja (a.take k)).length)=m:=⟨_,rfl⟩;have j:∀k,(Ja (a.take k)).length=m k:=fun k=>tZ aj k;have R:∀k,k≤f→m k≤(Ja (a.take f)).length:=fun k hk=>by
  rw[←j];rcases Nat.lt_or_ge k f with h|h
  ·exact Nat.le_of_lt (zB hb h aM)
  ·rw[show k=f by omega];exact FT _
 have C:∀k,k<f→m k≠(Ja (a.take f)).length:=fun k hk=>by rw[←j];exact EZ (zB hb hk aM)
 have v:m f=(Ja (a.take f)).length:=(j f).symm;have b6:∀k (h:k<a.length),m (k+1)=m k+a[k].vc.length:=fun k h=>by rw[←j,←j];exact bA h
 have b5:∀k (h:k<a.length),(nv (La a))[k]? =some (Z (a[k].vc.length:Nat)):=fun k h=>by
  have h2:k<(La a).length:=by rw[yh];exact h
  rw[zh _ k h2];simp[La]
 have b0:=yh a;have Q:m 0=0:=by rw[←j];simp[Ja]
 have HG:=V n;have HA:=V R;have HN:=V C;have bm:=V v;have bn:=V b6;have a7:=V b5;have bs:=V b7;have H:=V b0;have bf:=V Q;have cF:(La a).length≤10000:=by omega
 clear h0 u n R C b6 b5 b7 aj j hb b0 Q v;generalize Ja (a.take f)=e at*;generalize Ja a=L at*;generalize La a=l at*;obtain⟨dt,e0⟩:=hq;go_enter func54,ntmps54;go_wp2_with fail;go_loopw [5,6] (fun x y wr=>∃k:Nat,k≤f∧y=Z k∧x=Z (m k:Nat)∧Y w o G (yl M ⟨A,c,B,d⟩ L.length l.length (Z s)*(Ic A L c*(jf B l d*Ic p e r))) wr) (fun _ y _=>f+1-(intOf y).toNat);case atStart=>exact⟨0,WT _,rfl,by rw[bf.out];rfl,I⟩
 case round=>
  obtain⟨k,hk,rfl,rfl,J⟩:=hrel;clear I;have m0:wr.cell? ⟨M,0,none⟩=some (O A L.length c):=J.cells M 0;have m1:wr.cell? ⟨M,1,none⟩=some (O B l.length d):=J.cells M 1;have m2:wr.cell? ⟨M,2,none⟩=some (Z s):=J.cells M 2;have cG:(k:Int)≤(l.length:Int):=by have:=H.out;omega
  have v:=HA.out k hk;by_cases ck:k<f
  ·have X:k<a.length:=by omega
   have C:=HN.out k ck;have ds:((m k:Int)==(e.length:Int))=false:=by rw[ET];omega
   have cv:(k:Int)<(l.length:Int):=by have:=H.out;omega
   have a6:=bn.out k X;have b9:=HA.out (k+1) (by omega);have N:=V a6;have Jn:Y w o G (jf B l d) wr:=J.le (KZ NZ (KZ QZ (KZ NZ (KZ QZ QZ))));obtain⟨_,A5,c5,cl,z⟩:=Jn.sl (O B l.length d);cases cl;obtain⟨g5,cx,rfl,ct,aq⟩:=z (by intro h;have:=a7.out k X;rw[h]at this;cases this);have c0:=aq k _ (a7.out k X);clear z aq Jn C a6;rw[N.out]at b9;generalize a[k].vc.length=x at*;generalize m k=ak at*;by_cases cT:s≤k
   ·have a1:(s:Int)≤(k:Int):=by omega
    go_wp2;go_roundw;case rel=>exact⟨k+1,by omega,by go_num,by rw[N.out];go_num,J⟩
    case measure=>simp[intOf];omega
   ·have a1:¬ ((s:Int)≤(k:Int)):=by omega
    go_wp2;go_roundw;case rel=>exact⟨k+1,by omega,by go_num,by rw[N.out];go_num,J⟩
    case measure=>simp[intOf];omega
  ·have cf:k=f:=by omega
   subst cf;have a1:(s:Int)≤(k:Int):=by omega
   rw[bm.out];clear v;go_wp2_with fail;go_loopw [7] (fun y wr=>∃i:Nat,i≤e.length∧y=Z i∧Y w o G (yl M ⟨A,c,B,d⟩ L.length l.length (Z s)*(Ic A L c*(jf B l d*Ic p e r))) wr) (fun y _=>e.length-(intOf y).toNat);case atStart=>exact⟨0,WT _,rfl,J⟩
   case round=>
    obtain⟨i,hi,rfl,K⟩:=hrel;clear J m0 m1 m2;have m0:wr.cell? ⟨M,0,none⟩=some (O A L.length c):=K.cells M 0;by_cases W:i<e.length
    ·have U:i<L.length:=by omega
     have n:=HG.out i W;rw[PT W,PT U,uX]at n;have Ka:Y w o G (Ic A L c) wr:=K.le (KZ NZ (KZ QZ QZ));have Kb:Y w o G (Ic p e r) wr:=K.le (KZ NZ (KZ QZ (KZ NZ (KZ QZ (KZ NZ QZ)))));obtain⟨g,off,rfl,_,S,E⟩:=Ka.we A c L Ue i U (by decide);obtain⟨g',cw,rfl,_,av,T⟩:=Kb.we p r e Ue i W (by decide);rw[n]at S E;have D:=bs.out _ (XT U);rw[n]at D;have t:=PM e[i] e[i] D D;rw[RU rfl]at t;have c0:=S _ rfl;have c1:=E 1 _ rfl;have a8:=E 2 _ rfl;have c3:=E 3 _ rfl;have c4:=E 4 _ rfl;have d0:=av _ rfl;have d1:=T 1 _ rfl;have d2:=T 2 _ rfl;have d3:=T 3 _ rfl;have d4:=T 4 _ rfl;clear E S T av Ka Kb D n;generalize e[i]=x at*;have pm:=IT m0;have p0:=IT c0;have p1:=IT c1;have p2:=IT a8;have p3:=IT c3;have p4:=IT c4;have q0:=IT d0;have q1:=IT d1;have q2:=IT d2;have q3:=IT d3;have q4:=IT d4;unfold dw bh at t;have bc:(i:Int)<(e.length:Int):=by omega
     go_wp2_with fail;refine OU (by kernel_rfl) (by kernel_rfl) ?_;repeat (quiet_step ((first|(go_at_call 28;refine gU (t _)))))
     refine fU ?_;first|(rintro _ ⟨F,rfl⟩)|(intro F)
     have an:=jU wr F.d F.os;generalize Go.Sort.grow (redrawn wr F.d) F.os=wq at*;clear F;have K3:=K.below an;clear p0 p1 p2 p3 p4 q0 q1 q2 q3 q4 c0 c1 a8 c3 c4 d0 d1 d2 d3 d4 pm m0 t an K;go_wp2;go_roundw;case rel=>exact⟨i+1,by omega,by go_num,K3⟩
     case measure=>simp[intOf];omega
    ·have bc:¬ ((i:Int)<(e.length:Int)):=by omega
     have m1:wr.cell? ⟨M,1,none⟩=some (O B l.length d):=K.cells M 1;have cn:=IT m0;have cp:=IT m1;obtain⟨i0,ca,_⟩:=info_parts Po;obtain⟨i3,cb,_⟩:=info_parts Mi;have cc:k≤d:=by have:=H.out;omega
     have ch:e.length≤c:=by omega
     have S1:∀w,(Instr.sliceAt 44 (O A L.length c) none (some (Z e.length)) (some (Z e.length))).run prog w= .ok (O A e.length e.length) w:=fun w=>(cg (P:=prog) (w:=w) underlying44 ca A L.length c 0 e.length e.length (WT _) (FT _) ch).2.1;have S2:∀w,(Instr.sliceAt 35 (O B l.length d) none (some (Z k)) (some (Z k))).run prog w= .ok (O B k k) w:=fun w=>(cg (P:=prog) (w:=w) underlying35 cb B l.length d 0 k k (WT _) (FT _) cc).2.1;obtain⟨f0,f1,f2⟩:=K.f3 M;have m2:wr.cell? ⟨M,2,none⟩=some (Z s):=K.cells M 2;clear cn cp;go_wp2_with fail;go_region;go_wp2;go_ret;refine⟨rfl,?_⟩;have K6:Y w o G (ba M 50 #[O A e.length e.length,O B k k,Z k]*(Ic A L c*(jf B l d*Ic p e r))) _:=(((K.ra M 0 (O A e.length e.length) #[O A e.length e.length,O B l.length d,Z s] rfl).ra M 1 (O B k k) #[O A e.length e.length,O B k k,Z s] rfl).ra M 2 (Z k) #[O A e.length e.length,O B k k,Z k] rfl).ya;exact K6.drew
end
end Go.Proofs.YteacbkflfafefaaGreatDoor
