/- Part 43 of 50 of the proof that TopViews returns true at every input: lemmas on the way; no condition. -/
import Derived.Test.YteacbkflfafefaaGreatDoorZ39
namespace Go.Proofs.YteacbkflfafefaaGreatDoor
set_option linter.all false
set_option maxHeartbeats 4000000
set_option maxRecDepth 100000
section
open Go.RowKit An Go.ChangeShapes Go.WideShapes Go.ChangeAt Go.Proofs.Tryz
theorem PN{w:World}{g:Nat}{cs:Array Value}(h:w.heap[g]? =some (.cells cs 5 (0,0)))(bs:Bs)(n:Nat)(c:bs.length=n)(b:∀j (a:j<bs.length),cs[j]? =some (.int .u8 (bs[j].toNat:Int))):(convert 152 9 (O (some ⟨g,0,none⟩) n n)).run prog w= .ok (Ha bs) w:=by subst c;exact MV _ 152 9 5 ⟨g,0,none⟩ bs.length bs underlying152 underlying5 underlying9 (fun j a=>by rw[CV,BU,jW _ _ _ _ _ _ h];exact b j a)
theorem kP(b:Za)(v:Value)(q:BB b):Ud prog 90 #[bV b v] (Ba 3 v b.vc.length (vc b.vc)) (Tw b) (Ba 3 v b.vc.length (vc b.vc)):=by
 intro w o R h0;have I:=TZ h0;have t0:=Qz b v q;obtain⟨hlen,A,c,rfl,_⟩:=I.sl v;have y:=I.Wa (.cells #[.string (mk b.stream),.int .i64 b.first,.slice A b.vc.length c] 85) w.heap.size rfl;clear h0 hlen I;unfold Tw;by_cases p:jd b=0
 ·rw[JT p];have M:=p;rw[p]at t0;obtain⟨z1,z2,z3,z4,z5,T⟩:=Hd p;have b4:=q.vc;have t1:=Zx b.stream (by omega);have t2:=zi b.first 8 (by omega) (by omega) (by omega);have hE:Sa b=text b.stream++put b.first 8++put b.vc.length 1++b.vc.flatMap Xc:=by simp[Sa]
  have C:IntKind.u64.wrap (b.first:Int)=b.first:=by rw[pU];omega
  have r:IntKind.u8.wrap (b.vc.length:Int)=b.vc.length:=by rw[IntKind.wrap_u8];omega
  rw[hE];obtain⟨st,m,l⟩:=b;unfold bV at*;dsimp only at*;have n1:¬ (9223372036854775807<List.length st+2+8):=by omega
  have n2:¬ (9223372036854775807<List.length st+2+8+1):=by omega
  have B:=Mt T z4;clear p M hE q;go_enter func90,ntmps90;go_upto_region 1 with(fail);generalize w.alloc (.cells #[.string (mk st),.int .i64 m,.slice A l.length c] 85)=W1 at*;generalize w.heap.size=d at*;obtain⟨f,g,c2⟩:=y.c3 d;go_wp2_with fail;refine y.k1 t0 fun D z=> ?_;clear y t0 f g c2;obtain⟨f,g,c2⟩:=z.c3 d;go_wp2_with fail;refine Gb (fun W=>W.cell? ⟨d,0,none⟩=some (.string (mk st))∧W.cell? ⟨d,1,none⟩=some (.int .i64 m)∧W.cell? ⟨d,2,none⟩=some (.slice A l.length c)) (fun a b=>Below a.heap.size a b) [0,1,2,3,4,5,6,7,8,9,10,11] [12,13] [14,15] (fun w=>mU _ _) (fun _ _ _=>vb) (fun _ _ ⟨h1,h2,h3⟩ q=>⟨Bb q h1,Bb q h2,Bb q h3⟩) (by kernel_rfl) (by kernel_rfl) (fun _ _ _ _ _ h=>h) ⟨f,g,c2⟩ ?_;simp only[QT,VT,MT,NT];iterate 12 (first|(refine db (by rfl) (fun K e=> ?_);go_simp;refine e _ ?_;clear e K)|(refine gb (by rfl) (fun K e=> ?_);apply Exists.intro;refine⟨fun w hw=> ?_,?_⟩;(next=>(first|(go_simp;rfl)|(obtain⟨f,g,c2⟩:=hw;go_simp;rfl)|(obtain⟨f,g,c2⟩:=hw;go_simp;done)|(go_simp;((first|(go_at_call_of 136 (Value.string (mk st));exact t1 _)|(go_at_call_of 137 (Value.int .u64 (m:Int));exact t2 _))))|(obtain⟨f,g,c2⟩:=hw;go_simp;((first|(go_at_call_of 136 (Value.string (mk st));exact t1 _)|(go_at_call_of 137 (Value.int .u64 (m:Int));exact t2 _))))));go_simp;refine e _ ?_;clear e K))
  refine Eb ?_;intro D C;have I3:=z.drew.below C;clear f g c2 z C;have K0:∀W (S:aa),Y w o R (S*(Ba 3 (.slice A l.length c) l.length (vc l)*(aa.wm d 85 #[.string (mk st),.int .i64 m,.slice A l.length c]*aa.emp))) W→W.cell? ⟨d,0,none⟩=some (.string (mk st))∧W.cell? ⟨d,1,none⟩=some (.int .i64 m)∧W.cell? ⟨d,2,none⟩=some (.slice A l.length c):=fun W S h=>⟨h.cells d 0,h.cells d 1,h.cells d 2⟩;have u:=V K0;clear K0;refine ic (fun K e=> ?_);go_simp;have N:=I3.Wa (.cells #[.int .u8 (l.length:Int)] 5) D.heap.size rfl;refine e _ _ (u.out _ _ N) (fun w2 r=> ?_);clear e K I3;have E:=N.below r;clear N r;have a6:=PN (E.wm D.heap.size) (put l.length 1) 1 (vf _ _) (fun j hj=>by
   rw[vf]at hj;obtain rfl:j=0:=by omega
   simp[put,Vf];omega);generalize D.heap.size=r2 at*;refine ic (fun K e=> ?_);go_simp;refine e _ _ (u.out _ _ E) (fun w3 L=> ?_);clear e K a6;have P:=E.below L;clear E L u;unfold Sb;have c2:=P.cells d 2;have H:(text st++put m 8++put l.length 1).length≤100:=by simp only[CT,xu,Jb];omega
  have X:=V H;have I7:Y w o R (aa.wm d 85 #[.string (mk st),.int .i64 m,.slice A l.length c]*Ba 3 (.slice A l.length c) l.length (vc l)) w3:=P.ya;clear P H c2 t1 t2 r;go_wp2_with fail;generalize G:text st++put m 8++put l.length 1=hd at*;have U:=V G;clear G;go_loopw [5,6] (fun s i wr=>∃k:Nat,k≤l.length∧i= .int .i64 k∧s= .string (mk (hd++(l.take k).flatMap Xc))∧Y w o R (aa.wm d 85 #[.string (mk st),.int .i64 m,.slice A l.length c]*Ba 3 (.slice A l.length c) l.length (vc l)) wr) (fun _ i _=>l.length-(intOf i).toNat);case atStart=>exact⟨0,WT _,rfl,by rw[←U.out];simp,I7⟩
  case round=>
   obtain⟨k,hk,rfl,rfl,J⟩:=hrel;have d2:=J.cells d 2;by_cases n:k<l.length
   ·obtain⟨b,off,rfl,a7,F,Q⟩:=J.we A c l wi k n (by decide);have f:=F _ rfl;have g:=Q 1 _ rfl;have c2:=Q 2 _ rfl;have t:=UI l[k] (b4 _ (XT n)) (T _ (XT n));have hS:=B k;have a1:=B (k+1);have hT:=V (vr Xc l k n);rw[vr Xc l k n,CT]at a1;have hh:=X.out;generalize l[k]=x at*;generalize(l.take k).flatMap Xc=S at*;generalize Xc x=Yy at*;unfold EA at t;clear Q F b4 I7 B T;go_wp2_with fail;refine J.kp t fun w2 J2=> ?_;clear t f g c2;go_wp2_with fail;go_roundw;case rel=>exact⟨k+1,by omega,by go_num,by rw[hT.out],J2⟩
    case measure=>simp[intOf];omega
   ·obtain rfl:k=l.length:=by omega
    rw[YT (FT _)];go_wp2_with fail;go_ret2;refine⟨?_,J.ya⟩;rw[U.out];rfl
 ·rw[DT p];have M:((jd b:Int) !=0)=true:=by simpa using p
  unfold bV at*;clear p;go_enter func90,ntmps90;go_upto_region 1 with(fail);generalize w.alloc (.cells #[.string (mk b.stream),.int .i64 b.first,.slice A b.vc.length c] 85)=W1 at*;generalize w.heap.size=d at*;obtain⟨f,g,c2⟩:=y.c3 d;go_wp2_with fail;refine y.k1 t0 fun D z=> ?_;go_wp2_with fail;go_ret2;exact⟨rfl,z.ya⟩
theorem mM(a b:qa):Pu prog 215 #[bj a,bj b] (.bool (de a b)):=by
 intro w;have hb:=((mU w.heap.size w).alloc (FT _) (.cells #[Pa a.Qa,Z a.Qb,Z a.pos] 126)).alloc (by simp) (.cells #[Pa b.Qa,Z b.Qb,Z b.pos] 126);obtain⟨c,v1,f⟩:=a;obtain⟨d,v2,g⟩:=b;unfold bj;dsimp only at*;by_cases hh:c=d
 ·subst hh;by_cases h:v1=v2
  ·subst h;have e:de ⟨c,v1,f⟩ ⟨c,v1,g⟩=decide (f<g):=by simp[de]
   rw[e];clear e;go_enter func215,ntmps215;go_wp2;go_ret;exact⟨rfl,hb⟩
  ·have e:de ⟨c,v1,f⟩ ⟨c,v2,g⟩=decide (v1<v2):=by simp[de,h]
   have i:((v1:Int)==v2)=false:=by rw[ET];omega
   rw[e];clear e h;cases j:decide (v1<v2)with
   |true=>go_enter func215,ntmps215;go_wp2;go_ret;exact⟨rfl,hb⟩
   |false=>go_enter func215,ntmps215;go_wp2;go_ret;exact⟨rfl,hb⟩
 ·have e:de ⟨c,v1,f⟩ ⟨d,v2,g⟩=decide (c<d):=by simp[de,hh]
  have i:((c:Int)==d)=false:=by rw[ET];omega
  rw[e];clear e hh;cases j:decide (c<d)with
  |true=>go_enter func215,ntmps215;go_wp2;go_ret;exact⟨rfl,hb⟩
  |false=>go_enter func215,ntmps215;go_wp2;go_ret;exact⟨rfl,hb⟩
theorem iM(e:qa)(h:Iy e):Pu prog 169 #[bj e] (.string (mk (Nf e))):=by
 intro w;obtain⟨b,v1,a⟩:=e;obtain⟨g,a2,a3⟩:=h;unfold bj;dsimp only at*;have t1:=zi b 8 (by omega) (by omega) g;have t2:=zi v1 8 (by omega) (by omega) (by omega);have t3:=zi a 8 (by omega) (by omega) (by omega);have r:IntKind.u64.wrap (v1:Int)=v1:=by rw[pU];omega
 have w2:IntKind.u64.wrap (a:Int)=a:=by rw[pU];omega
 have I:=(ZZ w).Wa (.cells #[.int .u64 b,.int .i64 v1,.int .i64 a] 126) w.heap.size rfl;clear g a2 a3;have m:Nf ⟨b,v1,a⟩=put b 8++(put v1 8++put a 8):=by simp[Nf]
 rw[m];go_enter func169,ntmps169;go_upto_region 1 with(fail);generalize w.alloc (.cells #[.int .u64 b,.int .i64 v1,.int .i64 a] 126)=f at*;generalize j:w.heap.size=n at*;obtain⟨k,l,c2⟩:=I.c3 n;have o:=IT k;have p:=IT l;have q:=IT c2;go_wp2_with fail;refine OU (by kernel_rfl) (by kernel_rfl) ?_;repeat (quiet_step ((first|(go_at_call_of 137 (Value.int .u64 (b:Int));refine gU (t1 _))|(go_at_call_of 137 (Value.int .u64 (v1:Int));refine gU (t2 _))|(go_at_call_of 137 (Value.int .u64 (a:Int));refine gU (t3 _)))))
 refine fU ?_;first|(rintro _ ⟨c,rfl⟩)|(intro c)
 have i:=jU f c.d c.os;generalize Go.Sort.grow (redrawn f c.d) c.os=s at*;clear c;go_wp2_with fail;go_ret;rw[←j];exact⟨rfl,(I.below i).Sc⟩
theorem OK{s:Bs}(h:s.length=8):9223372036854775808≤num s↔127<(s[0]'(by omega)).toNat:=by
 obtain⟨c,r,rfl⟩:∃c r,s=c::r:=by cases s with|nil=>cases h|cons c r=>exact⟨c,r,rfl⟩
 have a:r.length=7:=by simpa using h
 have hb:=Sh r;rw[cu,a]at*;have:=c.toNat_lt;simp only[PY];omega
theorem gM(s:Bs)(C:s.length=24):Pu prog 124 #[Ha s] (Li (vj s)):=by
 intro w;have I:=(ZZ w).Wa (.cells #[Pa 0,Z 0,Z 0] 126) w.heap.size rfl;have q:((s.drop 8).take 8).length=8:=by rw[OT,cU];omega
 have o:(s.drop 16).length=8:=by rw[cU];omega
 have b1:=OK q;have b2:=OK o;have g1:((s.drop 8).take 8)[0]'(by omega)=s[8]'(by omega):=by simp
 have g2:(s.drop 16)[0]'(by omega)=s[16]'(by omega):=by simp
 rw[g1]at b1;rw[g2]at b2;have i:=Dw (s.take 8) (by rw[OT];omega);have j:=Dw ((s.drop 8).take 8) (by omega);have k:=Dw (s.drop 16) (by omega);rw[QV,Nat.min_self]at i j;rw[YT (vW o)]at k;have r:=Sh (s.take 8);rw[OT,QU (by omega)]at r;unfold vj;rw[DT (by omega)];have y:∀w,(Instr.slice 9 (Ha s) none (some (Z 8)) none).run prog w= .ok (Ha (s.take 8)) w:=jm (by omega) (by congr 1<;>omega);have A:∀w,(Instr.slice 9 (Ha s) (some (Z 8)) (some (Z 16)) none).run prog w= .ok (Ha ((s.drop 8).take 8)) w:=Vh (by omega) (by congr 2<;>omega);have B:∀w,(Instr.slice 9 (Ha s) (some (Z 16)) (some (Z 24)) none).run prog w= .ok (Ha (s.drop 16)) w:=Vh (by omega) (by rw[YT (by rw[cU];omega)];rfl);have i8:(8:Nat)<s.length:=by omega
 have i16:(16:Nat)<s.length:=by omega
 have D:((s.length:Int) !=24)=false:=by rw[C];rfl
 generalize num (s.take 8)=x at*;generalize num ((s.drop 8).take 8)=l at*;generalize num (s.drop 16)=m at*;have u:=I.free w.heap.size;by_cases h:9223372036854775808≤l∨9223372036854775808≤m
 ·rw[JT h];have f:127<(s[8]'i8).toNat∨¬127<(s[8]'i8).toNat∧127<(s[16]'i16).toNat:=by omega
  clear b1 b2 g1 g2 q o h r i j k y A B;rcases f with f|⟨f,t⟩
  ·go_enter func124,ntmps124;go_upto_region 1 with(fail);generalize w.alloc (.cells #[Pa 0,Z 0,Z 0] 126)=n at*;generalize b:w.heap.size=a at*;obtain⟨c,e,c2⟩:=I.c3 a;obtain⟨f0,f1,f2⟩:=I.f3 a;go_wp2_with fail;refine ZT (v:=Li none) (by simp[results,results124,go_sem,c,e,c2,Li]) rfl ⟨rfl,?_⟩;have z:=(((I.ra a 0 (Pa 0) _ rfl).ra a 1 (Z 0) _ rfl).ra a 2 (Z 0) _ rfl).Sc;rw[b]at z;exact z
  ·go_enter func124,ntmps124;go_upto_region 1 with(fail);generalize w.alloc (.cells #[Pa 0,Z 0,Z 0] 126)=n at*;generalize b:w.heap.size=a at*;obtain⟨c,e,c2⟩:=I.c3 a;obtain⟨f0,f1,f2⟩:=I.f3 a;go_wp2_with fail;refine ZT (v:=Li none) (by simp[results,results124,go_sem,c,e,c2,Li]) rfl ⟨rfl,?_⟩;have z:=(((I.ra a 0 (Pa 0) _ rfl).ra a 1 (Z 0) _ rfl).ra a 2 (Z 0) _ rfl).Sc;rw[b]at z;exact z
 ·rw[DT h];have f:¬127<(s[8]'i8).toNat∧¬127<(s[16]'i16).toNat:=by omega
  obtain⟨f,t⟩:=f;have w2:IntKind.i64.wrap (l:Int)=l:=by rw[RT _ (by omega)]
  have E:IntKind.i64.wrap (m:Int)=m:=by rw[RT _ (by omega)]
  clear b1 b2 g1 g2 q o h r;go_enter func124,ntmps124;go_upto_region 1 with(fail);generalize w.alloc (.cells #[Pa 0,Z 0,Z 0] 126)=n at*;generalize b:w.heap.size=a at*;obtain⟨c,e,c2⟩:=I.c3 a;obtain⟨f0,f1,f2⟩:=I.f3 a;go_upto_region 3 with(fail);refine Cb [0,3,7] [1,2,4,5,6,8,9,10,11] [12,13] (by kernel_rfl) (by kernel_rfl) (fun _ _ _ _ _ h=>h) ?_;simp only[QT,VT,MT,NT];dsimp only[Ub];go_simp;repeat (quiet_step ((first|(go_at_call_of 168 (Ha (s.take 8));refine gU (i.pu _))|(go_at_call_of 168 (Ha ((s.drop 8).take 8));refine gU (j.pu _))|(go_at_call_of 168 (Ha (s.drop 16));refine gU (k.pu _)))))
  refine fU ?_;first|(rintro _ ⟨g,rfl⟩)|(intro g)
  have p:=jU n g.d g.os;generalize Go.Sort.grow (redrawn n g.d) g.os=F at*;clear g;have K:=I.below p;clear c e c2 f0 f1 f2 I u p;obtain⟨c,e,c2⟩:=K.c3 a;obtain⟨f0,f1,f2⟩:=K.f3 a;go_wp2_with fail;refine ZT (v:=Li (some ⟨x,l,m⟩)) (by simp[results,results124,go_sem,c,e,c2,Li,bj]) rfl ⟨rfl,?_⟩;have z:=(((K.ra a 0 (Pa x) _ rfl).ra a 1 (Z l) _ rfl).ra a 2 (Z m) _ rfl).Sc;rw[b]at z;exact z
theorem yF(v:Value)(l:List qa)(hl:l.length≤100000000):Ud prog 170 #[v] (Ba 3 v l.length (xc l)) (.bool (ub l)) (Ba 3 v l.length (xc l)):=by
 intro w o r0 L;have I:=TZ L;obtain⟨hlen,A,c,rfl,_⟩:=I.sl v;clear L hlen;go_enter func170,ntmps170;go_wp2_with fail;go_loopw [3] (fun x wr=>∃k:Nat,(k+1≤l.length∨k=0)∧x=Z k∧(∀j (h:j+1<l.length),j<k→de l[j] l[j+1]=true)∧Y w o r0 (Fg A l c) wr) (fun x _=>l.length-(intOf x).toNat);case atStart=>exact⟨0,.inr rfl,rfl,fun j _ h=>by omega,I⟩
 case round=>
  obtain⟨k,hk,rfl,M,J⟩:=hrel;have F:=V M;clear M;by_cases n:k+1<l.length
  ·obtain⟨g,off,hA,a1,r,z⟩:=J.we A c l Ld k (by omega) (by decide);obtain⟨a,e⟩:∃a,k+1=a:=⟨_,rfl⟩;have P:a<l.length:=e▸n;obtain⟨g',D,p,_,s,B⟩:=J.we A c l Ld a P (by decide);subst hA;have N:g'=g∧D=off:=by injection p with h;injection h with i m;exact⟨i.symm,m.symm⟩
   obtain⟨rfl,rfl⟩:=N;clear p;have H:=r _ rfl;have K:=z 1 _ rfl;have c2:=z 2 _ rfl;have d0:=s _ rfl;have d1:=B 1 _ rfl;have d2:=B 2 _ rfl;have t:=mM l[k] l[a];have T:de l[k] l[a]=true→∀j (h:j+1<l.length),j<a→de l[j] l[j+1]=true:=by
    subst e;intro i j C a6;by_cases m:j<k
    ·exact F.out j C m
    ·obtain rfl:j=k:=by omega
     exact i
   have U:de l[k] l[a]=false→ub l=false:=by subst e;intro i;rw[uV,mY,uc];intro m;have:=m k n;rw[i]at this;cases this
   have X:=V T;have HY:=V U;unfold bj at t;generalize l[k]=x at*;generalize l[a]=y at*;have q0:=IT H;have q1:=IT K;have q2:=IT c2;have p0:=IT d0;have p1:=IT d1;have p2:=IT d2;have Q:(a:Int)<(l.length:Int):=by omega
   have a8:(k:Int)+1=(a:Int):=by omega
   have E:=V e;have S:IntKind.i64.wrap (a:Int)=a:=RT _ (by omega);have a7:k<l.length:=by omega
   clear z r B s T U I e n;go_wp2_with fail;refine OU (by kernel_rfl) (by kernel_rfl) ?_;repeat (quiet_step ((first|(go_at_call 215;refine gU (t _)))))
   refine fU ?_;first|(rintro _ ⟨f,rfl⟩)|(intro f)
   have q:=jU wr f.d f.os;generalize Go.Sort.grow (redrawn wr f.d) f.os=wq at*;clear f;have G:=J.below q;clear q0 q1 q2 p0 p1 p2 H K c2 d0 d1 d2 t q S;cases b:de x y with
   |true=>
    have u:=V (X.out b);clear b;go_wp2;go_roundw;case rel=>exact⟨a,.inl (by omega),rfl,u.out,G⟩
    case measure=>have:=E.out;simp[intOf];omega
   |false=>have u:=V (HY.out b);clear b;go_wp2;go_ret;refine⟨?_,G⟩;rw[u.out];rfl
  ·have R:ub l=true:=(uc l).2 fun j C=>F.out j C (by omega);have W:=V R;have Q:¬ ((k:Int)+1<(l.length:Int)):=by omega
   clear R;go_wp2;go_ret;refine⟨?_,J⟩;rw[W.out];rfl
theorem dI(l:List qa)(k:Nat)(h:k≤l.length):((l.take k).flatMap Nf).length=24*k:=by rw[ti,OT];omega
theorem AE(l:List qa)(k:Nat)(h:k<l.length):(l.take (k+1)).flatMap Nf=(l.take k).flatMap Nf++Nf l[k]:=by rw[rU h,XU];simp
theorem tM(v:Value)(l:List qa)(hl:l.length≤100000)(L:∀e∈l,Iy e):Ud prog 125 #[v] (Ba 3 v l.length (xc l)) (Wr l) (Ba 3 v l.length (xc l)):=by
 intro w o Q K;have I:=TZ K;have ts:=yF v l (by omega);have t137:=zi l.length 4 (by omega) (by omega) (by omega);obtain⟨hlen,A,c,rfl,_⟩:=I.sl v;have hw:IntKind.u64.wrap (l.length:Int)=l.length:=by rw[pU];omega
 have n:=dI l;have a8:=Jb l.length 4;have M:Hid (Tb l=Qg (Hi++put l.length 4++l.flatMap Nf)):=V rfl;have a6:(⟨#[112,116,97,98]⟩:ByteArray)=mk Hi:=rfl;have a1:Hi.length=4:=rfl;have P:l=[]→ub l=true:=fun h=>by rw[h];rfl
 have W:=V P;have j:=V n;have y:=V L;clear K hlen P n L;obtain⟨G,f⟩:∃G,Wr l=G:=⟨_,rfl⟩;rw[f];unfold Wr at f;have C:=V f;clear f;generalize put l.length 4=s at*;generalize Hi=u at*;go_enter func125,ntmps125;go_wp2_with fail;refine I.kp t137 fun w1 D=> ?_;clear I t137;go_wp2_with fail;go_loopw [4,5] (fun x i wr=>∃k:Nat,k≤l.length∧(k=0∨ub l=true)∧i=Z k∧x=Ha (u++s++(l.take k).flatMap Nf)∧Y w o Q (Fg A l c) wr) (fun _ i _=>l.length-(intOf i).toNat);case atStart=>exact⟨0,WT _,.inl rfl,rfl,by simp,D⟩
 case round=>
  obtain⟨k,hk,p,rfl,rfl,J⟩:=hrel;clear D;have z:=V p;clear p;by_cases a:k<l.length
  ·obtain⟨g,off,rfl,_,m,r⟩:=J.we A c l Ld k a (by decide);have X:=m _ rfl;have c1:=r 1 _ rfl;have c2:=r 2 _ rfl;have t:=iM l[k] (y.out _ (XT a));have N:=j.out k hk;have q:=AE l k a;have a7:(Nf l[k]==([]:Bs))=false:=by rw[ET];intro h;have:=rh l[k];rw[h]at this;cases this
   have hY:=rh l[k];have B:=V q;unfold bj at t;clear r m q;generalize(l.take k).flatMap Nf=S at*;generalize Nf l[k]=Yy at*;generalize l[k]=x at*;go_wp2_with fail;refine J.kp t fun w2 d=> ?_;clear t J X c1 c2;go_wp2_with fail;refine d.k1 ts fun w3 E=> ?_;have F:Y w o Q (Fg (some ⟨g,off,none⟩) l c) w3:=E.ya;clear d E;cases b:ub l with
   |true=>
    go_wp2;go_roundw;case rel=>exact⟨k+1,by omega,.inr b,by go_num,by rw[B.out];simp,F⟩
    case measure=>simp[intOf];omega
   |false=>go_wp2;go_ret2;refine⟨?_,F⟩;rw[←C.out,DT (by rw[b];simp)];rfl
  ·obtain rfl:k=l.length:=by omega
   have b:ub l=true:=by
    rcases z.out with h|h
    ·exact W.out (uU h)
    ·exact h
   have N:=j.out l.length (FT _);rw[YT (FT _)]at N⊢;have H:=M.out;have t:=sD (u++s++l.flatMap Nf) (by simp only[CT];omega);rw[←H]at t;have R:=V b;clear b H;generalize u++s++l.flatMap Nf=T at*;generalize Tb l=U at*;go_wp2_with fail;refine J.kp t fun w2 d=> ?_;go_wp2;go_ret2;refine⟨?_,d⟩;rw[←C.out,JT R.out];rfl
structure VC where
 v:Value
 c:Nat
theorem TM{s:Bs}{k n:Nat}(h:s.length=12+24*n)(a:k<n):(Ar s k).length=24:=by unfold Ar;rw[OT,cU];omega
theorem tP(s:Bs)(hs:s.length≤2000000):Tr prog 77 #[.string (mk s)] aa.emp (fun p:VC=> .tuple #[p.v,.int .i64 p.c]) (fun p=>aa.pure (∀l,mf s=some l→p.c=0)):=by
 intro w o r h0;have I:=TZ h0;have u:∀W (S:aa),Y w o r S W→mf s=none→∃x:VC,Ending.returned (.tuple #[.slice none 0 0,.int .i64 90])=Ending.returned (.tuple #[x.v,.int .i64 x.c])∧Y w o r (aa.pure (∀l,mf s=some l→x.c=0)) W:=fun W S hW h=>⟨⟨.slice none 0 0,90⟩,rfl,(hW.le (le_empty _)).le (KZ (RZ (fun l H=>by rw[h]at H;cases H)) QZ)⟩;have D:=V u;clear h0 u;by_cases t:s.length<12∨(s.length-12)% 24≠0
 ·have a:mf s=none:=by
   cases h:mf s with
   |none=>rfl
   |some l=>obtain⟨E,_⟩:=cA h;omega
  have g:=V a;clear a;by_cases E:s.length<12
  ·clear t;go_enter func77,ntmps77;go_wp2_with fail;go_ret2;exact D.out _ _ I g.out
  ·have B:(s.length-12)% 24≠0:=t.resolve_left E;have hm:(((s.length:Int)-12)% 24 !=0)=true:=by rw[CU];omega
   have al:(Int.tmod ((s.length:Int)-12) 24 !=0)=true:=by rw[cV (by omega)];exact hm
   clear t B;go_enter func77,ntmps77;go_wp2_with fail;go_ret2;exact D.out _ _ I g.out
 ·obtain⟨n,a⟩:∃n,s.length=12+24*n:=⟨(s.length-12)/24,by omega⟩;have hm:(((s.length:Int)-12)% 24 !=0)=false:=by rw[kV];omega
  have al:(Int.tmod ((s.length:Int)-12) 24 !=0)=false:=by rw[cV (by omega)];exact hm
  have E:¬s.length<12:=by omega
  have b5:n≤90000:=by omega
  have L:∀l,mf s=some l→l.length=n∧ub l=true∧Tb l=s∧∀k (N:k<l.length),vj (Ar s k)=some l[k]:=fun l h=>by obtain⟨X,a2,a3,a4⟩:=cA h;exact⟨by omega,a2,a3,fun k N=>by rw[a4 k N];exact bx ((ky h).2.2 _ (XT N))⟩
  have HW:=V L;obtain⟨i0,hi,aq,av,aM⟩:=info_parts Pm;have a8:=V a;clear t L a;have K0:Y w o r (ua 126 3 (.slice none 0 0) 0 (xc [])*aa.emp) w:=I.le (KZ (RZ trivial) (MZ (j0 126 3) (JZ _)));go_enter func77,ntmps77;go_wp2_with fail;go_loopw [4,5] (fun x i wr=>∃ (k:Nat) (acc:List qa) (A:Option Addr) (c:Nat),k≤n∧i= .int .i64 ((8+24*k:Nat):Int)∧x= .slice A acc.length c∧Hid (acc.length=k)∧Hid (∀j (h:j<acc.length),vj (Ar s j)=some acc[j])∧Y w o r (ua 126 3 (.slice A acc.length c) acc.length (xc acc)*aa.emp) wr) (fun _ i _=>s.length-(intOf i).toNat);case atStart=>exact⟨0,[],none,0,WT _,rfl,rfl,V rfl,V fun j h=>by simp at h,K0⟩
  case round=>
   obtain⟨k,acc,A,c,N,rfl,rfl,C,M,J⟩:=hrel;clear K0 I;obtain⟨p,K⟩:∃p,8+24*k=p:=⟨_,rfl⟩;rw[K];have HP:=V K;have a:=a8.out;have b6:p≤3000000:=by omega
   by_cases y:k<n
   ·have b7:p+28≤s.length:=by omega
    have an:(p:Int)+28≤(s.length:Int):=by omega
    have S1:∀w,(Instr.slice 9 (.string (mk s)) (some (.int .i64 p)) (some (.int .i64 ((p:Int)+24))) none).run prog w= .ok (.string (mk (Ar s k))) w:=Vh (by omega) (by unfold Ar;rw[K];congr 2;omega);have t124:=gM (Ar s k) (TM a y);have z:=fun x (h:vj (Ar s k)=some x)=>yA h;have G:vj (Ar s k)=none→mf s=none:=fun h=>by
     cases hg:mf s with
     |none=>rfl
     |some l=>obtain⟨X,_,_,a4⟩:=HW.out l hg;rw[a4 k (by omega)]at h;cases h
    have Qe:∀x,vj (Ar s k)=some x→∀j (h:j<(acc++[x]).length),vj (Ar s j)=some (acc++[x])[j]:=fun x h j hj=>by
     by_cases P:j<acc.length
     ·rw[eW P];exact M.out j P
     ·rw[CT,cY]at hj;obtain rfl:j=acc.length:=by omega
      have e:=eU (fun i=>vj (Ar s i)) C.out;have e2:vj (Ar s acc.length)=vj (Ar s k):=e;rw[e2,h];simp
    have Q:=V G;have R:=V Qe;have F:acc.length+1≤1000000000:=by have:=C.out;omega
    have a6:=V F;have a7:=V y;clear G Qe F z K y a;generalize Ar s k=q at*;cases he:vj q with
    |none=>rw[he]at t124;unfold Li at t124;dsimp only at t124;have g:=V (Q.out he);clear he Q R;go_wp2_with fail;refine J.kp t124 fun m b=> ?_;go_wp2_with fail;go_ret2;exact D.out _ _ (b.alloc _) g.out
    |some x=>
     rw[he]at t124;unfold Li bj at t124;dsimp only at t124;have aj:=V (R.out x he);clear he R Q M;go_wp2_with fail;refine J.kp t124 fun m b=> ?_;have K3:=b.Wa (.cells #[.int .u64 x.Qa,.int .i64 x.Qb,.int .i64 x.pos] 126) m.heap.size rfl;go_upto_region 8 with(fail);generalize m.alloc (.cells #[.int .u64 x.Qa,.int .i64 x.Qb,.int .i64 x.pos] 126)=W5 at*;generalize m.heap.size=r1 at*;obtain⟨c0,c1,c2⟩:=K3.c3 r1;clear J b t124;go_wp2_with (at_builtin;go_loud (refine Oa (v:=.slice A acc.length c) (Ku x) 1 K3 rfl rfl underlying137 hi aq av rfl rfl rfl rfl (Im x) a6.out (by rw[aM];omega) ?_);intro A' c' w6 K4);go_roundw;case rel=>
      refine⟨k+1,acc++[x],A',c',a7.out,eU (Value.int .i64) (by have:=HP.out;omega),by rw[CT];rfl,V (by rw[CT,C.out];rfl),V aj.out,?_⟩;have e1:(acc++[x]).length=acc.length+1:=by simp
      have e2:xc (acc++[x])=xc acc++Ku x:=by simp[xc]
      rw[e1,e2];exact K4.ya
     case measure=>have:=HP.out;simp[intOf];omega
   ·have ak:k=n:=by omega
    have an:¬ ((p:Int)+28≤(s.length:Int)):=by omega
    have z:∀e∈acc,Iy e:=fun e he=>by obtain⟨j,hj,rfl⟩:=dV he;exact yA (M.out j hj)
    have t125:=tM (.slice A acc.length c) acc (by have:=C.out;omega) z;have heq:∀l,mf s=some l→acc=l∧ub acc=true∧Tb acc=s:=fun l H=>by
     obtain⟨X,a2,a3,a4⟩:=HW.out l H;have e:acc=l:=by
      apply List.ext_getElem
      ·rw[C.out,X,ak]
      ·intro j E B;have:=M.out j E;rw[a4 j B]at this;exact(VU this).symm
     subst e;exact⟨rfl,a2,a3⟩
    have HQ:=V heq;clear heq z a K y;have U:=J.le (MZ c8 (JZ _));unfold Wr at t125;cases d:ub acc with
    |false=>
     rw[DT (by rw[d];simp)]at t125;have a:mf s=none:=by
      cases h:mf s with
      |none=>rfl
      |some l=>obtain⟨_,B,_⟩:=HQ.out l h;rw[d]at B;cases B
     have g:=V a;clear a d;go_wp2_with fail;refine U.k1 t125 fun m b=> ?_;go_wp2_with fail;go_ret2;exact D.out _ _ b g.out
    |true=>
     rw[JT d]at t125;by_cases f:Tb acc=s
     ·rw[f]at t125;clear d f;go_wp2_with fail;refine U.k1 t125 fun m b=> ?_;go_wp2_with fail;go_ret2;exact⟨⟨.slice A acc.length c,0⟩,rfl,(b.le (le_empty _)).le (KZ (RZ (fun l H=>rfl)) QZ)⟩
     ·have a:mf s=none:=by
       cases h:mf s with
       |none=>rfl
       |some l=>exact absurd (HQ.out l h).2.2 f
      have g:=V a;have hb:(Tb acc==s)=false:=by simpa using f
      have b0:(Tb acc !=s)=true:=by simpa using f
      generalize Tb acc=T at*;clear a d f;go_wp2_with fail;refine U.k1 t125 fun m b=> ?_;go_wp2_with fail;go_ret2;exact D.out _ _ b g.out
theorem nP(v:Value)(l:List Nat)(n:Nat)(C:l.length≤1000000):Ud prog 260 #[v,Z n] (Ba 1 v l.length (nv l)) (.bool (l.contains n)) (Ba 1 v l.length (nv l)):=by
 intro w o y q;have I:=TZ q;obtain⟨hlen,A,c,rfl,_⟩:=I.sl v;obtain⟨res,a⟩:∃res,l.contains n=res:=⟨_,rfl⟩;rw[a];have p:=V a;clear q hlen a;go_enter func260,ntmps260;go_wp2_with fail;go_loopw [5] (fun i wr=>∃k:Nat,k≤l.length∧i=Z k∧Hid (n∉l.take k)∧Y w o y (jf A l c) wr) (fun i _=>l.length-(intOf i).toNat);case atStart=>exact⟨0,WT _,rfl,V (by simp),I⟩
 case round=>
  obtain⟨k,B,rfl,f,J⟩:=hrel;clear I;by_cases d:k<l.length
  ·obtain⟨_,z,c5,r,b⟩:=J.sl (O A l.length c);cases r;obtain⟨g5,u,rfl,t,g⟩:=b (by intro h;have:=zh l k d;rw[h]at this;cases this);have s:=g k _ (zh l k d);clear b g;by_cases e:l[k]=n
   ·have j:res=true:=by rw[←p.out];exact pW.2 (e▸XT d)
    rw[e]at s;clear e f;subst j;go_wp2;go_ret;exact⟨rfl,J⟩
   ·have m:Hid (n∉l.take (k+1)):=V (by rw[rU d,oU,lU];exact fun h=>h.elim f.out fun h=>e h.symm);have hb:((l[k]:Int)==n)=false:=by rw[ET];omega
    generalize l[k]=x at*;clear e f;go_wp2;go_roundw;case rel=>exact⟨k+1,by omega,by go_num,m,J⟩
    case measure=>simp[intOf];omega
  ·have j:res=false:=by rw[←p.out];have:=f.out;rw[YT (by omega)]at this;simpa using this
   subst j;go_wp2;go_ret;exact⟨rfl,J⟩
theorem eH(v:Value)(L:List (List Nat))(h1:L.length≤100000)(h2:L.flatten.length≤100000):Tr prog 218 #[v] (Ea v L) (fun r:Value=>r) (fun r=>ua 3 1 r L.flatten.length (nv L.flatten)*Ea v L):=by
 intro w o H Q;obtain⟨A,c,qs,rfl,G,s,he,I⟩:=(TZ Q).dr v L;obtain⟨i,hi,U,W,X⟩:=info_parts Mi;obtain⟨N,f⟩:∃N,L.flatten.length=N:=⟨_,rfl⟩;have C:fl L qs.length=N:=by rw[G,BK,f]
 have S:∀k,Hid (fl L k≤N):=fun k=>V (by rw[←f];exact Lt L k);rw[f]at h2;have F:=V G;have HC:=V s;have HE:=V he;have t:=V C;have hn:qs.length≤100000:=by omega
 rw[f];clear Q G s he f C;have M:Y w o H (ua 3 1 (O none (fl L 0) 0) (fl L 0) (nv (L.take 0).flatten)*(Ba 1 (O A qs.length c) qs.length (qs.flatMap me)*Ua qs L)) w:=I.le (KZ QZ (KZ (RZ trivial) (MZ (j0 3 1) (JZ _))));go_enter func218,ntmps218;go_wp2_with fail;go_loopw [3,4] (fun x y wr=>∃k:Nat,k≤qs.length∧y=Z k∧∃d e,x=O d (fl L k) e∧Y w o H (ua 3 1 (O d (fl L k) e) (fl L k) (nv (L.take k).flatten)*(Ba 1 (O A qs.length c) qs.length (qs.flatMap me)*Ua qs L)) wr) (fun _ y _=>qs.length-(intOf y).toNat);case atStart=>exact⟨0,WT _,rfl,none,0,rfl,M⟩
 case round=>
  obtain⟨k,hk,rfl,d,e,rfl,K⟩:=hrel;clear M I;have h3:=(S k).out;by_cases j:k<qs.length
  ·obtain⟨g,off,rfl,a6,B,s⟩:=K.we A c qs vg k j (by decide);have c0:=B _ rfl;rw[wU]at c0;have a:k<L.length:=by have:=F.out;omega
   have D:=HE.out k j a;have R:=(S (k+1)).out;rw[Nh L k a]at R;have J:Hid (fl L (k+1)=fl L k+L[k].length):=V (Nh L k a);have HX:Hid (nv (L.take (k+1)).flatten=nv (L.take k).flatten++nv L[k]):=V (by rw[cj L k a,Vj]);have z:Y w o H (Ba 1 (zp qs[k]) L[k].length (nv L[k])) wr:=K.le (KZ NZ (KZ QZ (KZ NZ (KZ QZ (l8 qs L k j a)))));have b:=z.En (tx:=35) (zp qs[k]) underlying35 (gB _) (by decide);have p:fl L k+L[k].length≤100000:=by omega
   clear s B z;generalize fl L k=s0 at*;generalize qs[k]=q at*;obtain⟨a1,a2,a3⟩:=q;dsimp only at D;subst D;unfold zp at b;dsimp only at b;generalize L[k]=l at*;generalize(L.take k).flatten=acc at*;have u:=V p;clear h3 R p;go_wp2_with (at_builtin;go_loud (refine kf (v:=O d s0 e) (xs:=nv acc) (n:=s0) (m:=l.length) (news:=nv l) K rfl rfl underlying35 hi U W rfl rfl b (by have:=u.out;unfold maxLen;omega) (by rw[X];have:=u.out;omega) ?_);intro r w' P);obtain⟨_,A2,c2,rfl⟩:=P.Cd r;go_roundw;case rel=>exact⟨k+1,by omega,by go_num,A2,c2,by rw[J.out],by rw[J.out,HX.out];exact P⟩
   case measure=>simp[intOf];omega
  ·have T:k=qs.length:=by omega
   subst T;have E:=F.out;have h:(L.take qs.length).flatten=L.flatten:=by rw[E,UU]
   rw[h,t.out]at K;rw[t.out];clear h E;go_wp2;go_ret;exact⟨O d N e,rfl,K.le (MZ (JZ _) (o6 HC.out F.out))⟩
theorem bF{l:List Nat}{k:Nat}(h:k<l.length)(e:(l.take k).Nodup)(c:(l.take k).contains l[k]=false):(l.take (k+1)).Nodup:=by rw[rU h,bW];refine⟨e,by simp,fun a d b hb=> ?_⟩;rw[lU.1 hb];rintro rfl;rw[pW.2 d]at c;cases c
theorem FI{l:List Nat}{k:Nat}(h:k<l.length)(b:(l.take k).contains l[k]=true):¬l.Nodup:=fun a=>by have e:l.take k++l.drop k=l:=tU k l;rw[←e,bW]at a;refine a.2.2 _ (pW.1 b) _ ?_ rfl;rw[FU h];exact .head _
theorem zM{A:Option Addr}{c:Nat}{l:List Nat}{m:Nat}(h:m≤l.length):aa.le (jf A l c) (Ba 1 (O A m c) m (nv (l.take m))):=by have:=Vm (f:=iv) (sz:=1) (fun _=>rfl) (A:=A) (c:=c) (c':=c) (l:=l.map Int.ofNat) (m:=m) (by simpa using h);rw[zU,←NX]at this;exact this
theorem fJ(v:Value)(L:List (List Nat))(M:L.length≤100000)(h2:L.flatten.length≤100000):Ud prog 217 #[v] (Ea v L) (.bool (Rc L)) (Ea v L):=by
 intro w o T J;have t:=eH v L M h2;obtain⟨A,c,qs,rfl,C,P,he,G⟩:=(TZ J).dr v L;have I:Y w o T (Ea (O A qs.length c) L) w:=G.le (KZ QZ (o6 P C));have m:Rc L=(decide (L.length≤5)&&decide (L.flatten.length≤40)&&decide L.flatten.Nodup):=rfl;rw[←C]at M m;generalize L.flatten=all at*;clear J G he P C;by_cases z:qs.length≤5∧all.length≤40
 ·have s:¬ (5<(qs.length:Int)):=by omega
  have N:¬ (40<(all.length:Int)):=by omega
  have u:Rc L=decide all.Nodup:=by rw[m];simp[z]
  rw[u];obtain⟨res,f⟩:∃res,decide all.Nodup=res:=⟨_,rfl⟩;rw[f];have F:=V f;clear m u f;go_enter func217,ntmps217;go_wp2_with fail;refine I.kc t fun X v0 b=> ?_;obtain⟨_,l,a,rfl⟩:=b.Cd v0;have a1:=b.Cn (A:=l) (n:=all.length) (c:=a);go_wp2_with fail;go_loopw [4] (fun y wr=>∃k:Nat,k≤all.length∧y=Z k∧Hid ((all.take k).Nodup)∧Y w o T (Hf l all a*Ea (O A qs.length c) L) wr) (fun y _=>all.length-(intOf y).toNat);case atStart=>exact⟨0,WT _,rfl,V (by simp),b.ya⟩
  case round=>
   obtain⟨k,R,rfl,hm,K⟩:=hrel;clear b I;by_cases p:k<all.length
   ·have S:nv all≠[]:=by intro h;have:=Kk all;rw[h]at this;simp at this;omega
    obtain⟨g,rfl,i⟩:=K.Mc (A:=l) (c:=a) (n:=all.length) (xs:=nv all) (e:=3) (sz:=1) S;have r:=i k _ (zh all k p);have E:=nP (O (some ⟨g,0,none⟩) k a) (all.take k) all[k] (by rw[OT];omega);rw[OT,QU R]at E;have U:=fun W (hb:Below wr.heap.size wr W)=>K.Oz (KZ QZ (KZ c8 (zM (c:=a) R))) (j5 _ _ _ _) E hb;obtain⟨i3,Q,_⟩:=info_parts Mi;have hcut:∀w,(Instr.sliceAt 35 (O (some ⟨g,0,none⟩) all.length a) none (some (Z k)) none).run prog w= .ok (O (some ⟨g,0,none⟩) k a) w:=fun w=>(cg underlying35 Q _ all.length a 0 k a (WT _) (by omega) (FT _)).2.2.2.1;have hS:Hid ((all.take k).contains all[k]=false→(all.take (k+1)).Nodup):=V fun h=>bF p hm.out h;have hB:Hid ((all.take k).contains all[k]=true→¬all.Nodup):=V fun h=>FI p h;generalize(all.take k).contains all[k]=q at*;generalize all[k]=n at*;have a6:((n:Int)<0)=False:=by simp
    have q0:=IT r;clear i E hm;go_wp2_with fail;refine OU (by kernel_rfl) (by kernel_rfl) ?_;repeat (quiet_step ((first|(go_at_call 260;refine gU (U _ (jU _ _ _))))))
    refine fU ?_;first|(rintro _ ⟨j,rfl⟩)|(intro j)
    have x:=jU wr j.d j.os;generalize Go.Sort.grow (redrawn wr j.d) j.os=wq at*;clear j;have H:=K.below x;clear q0 r U hcut x;cases q with
    |true=>
     have D:res=false:=by rw[←F.out];exact yU (hB.out rfl)
     subst D;go_wp2;go_ret;exact⟨rfl,H.ya⟩
    |false=>
     have HS:=V (hS.out rfl);go_wp2;go_roundw;case rel=>exact⟨k+1,by omega,by go_num,HS,H⟩
     case measure=>simp[intOf];omega
   ·have D:res=true:=by rw[←F.out];have:=hm.out;rw[YT (by omega)]at this;exact RU this
    subst D;go_wp2;go_ret;exact⟨rfl,K.ya⟩
 ·have B:Hid (Rc L=false):=V (by rw[m];simp;omega);clear m;rw[B.out];by_cases h6:qs.length≤5
  ·have s:¬ (5<(qs.length:Int)):=by omega
   have N:(40<(all.length:Int)):=by omega
   clear B z;go_enter func217,ntmps217;go_wp2_with fail;refine I.kc t fun X v0 b=> ?_;obtain⟨_,l,a,rfl⟩:=b.Cd v0;go_wp2;go_ret;exact⟨rfl,b.ya⟩
  ·have s:(5<(qs.length:Int)):=by omega
   clear B z;go_enter func217,ntmps217;go_wp2_with fail;refine I.kc t fun X v0 b=> ?_;obtain⟨_,l,a,rfl⟩:=b.Cd v0;go_wp2;go_ret;exact⟨rfl,b.ya⟩
theorem aa.le.ux:∀ (m:Nat) (qs:List Sq) (L:List (List Nat)),aa.le (Ua qs L) (Ua (qs.take m) (L.take m))
 |0,_,_=>l7
 |_+1,[],[]=>JZ _
 |_+1,[],_::_=>l6
 |_+1,_::_,[]=>l6
 |m+1,q::qs,l::L=>MZ (JZ _) (MZ (JZ _) (aa.le.ux m qs L))
theorem uL{A:Option Addr}{c:Nat}{qs:List Sq}{L:List (List Nat)}{m:Nat}(f:m≤L.length)(d:L.length≤c)(e:qs.length=L.length):aa.le (Ba 1 (O A qs.length c) qs.length (qs.flatMap me)*Ua qs L) (Ea (O A m c) (L.take m)):=by
 have a:(qs.take m).length=m:=by rw[OT];omega
 have b:(L.take m).length=m:=by rw[OT];omega
 have h:=o6 (A:=A) (c:=c) (qs:=qs.take m) (L:=L.take m) (by omega) (by omega);rw[a]at h;exact KZ (MZ (Vm vg (by omega)) (aa.le.ux m qs L)) h
theorem uM(v:Value)(L:List (List Nat))(R:L.length≤100000):Tr prog 173 #[v] (Ea v L) (fun B:Value=>B) (fun B=>Ea B (Ab L)):=by
 intro w o M H;obtain⟨A,c,qs,rfl,e,t,he,G⟩:=(TZ H).dr v L;have I:Y w o M (Ba 1 (O A qs.length c) qs.length (qs.flatMap me)*Ua qs L) w:=G.le QZ;have p:=V (Uj L);rw[←e]at p;have hle:=fun m (hm:m≤L.length)=>uL (A:=A) hm t e;have F:=V hle;have P:=V he;have d:=V e;have C:=V t;have hn:qs.length≤100000:=by omega
 obtain⟨i35,y,_⟩:=info_parts Mu;have W:=Vr L;obtain⟨N,s⟩:∃N,tk L qs.length=N:=⟨_,rfl⟩;rw[s]at p;have Q:=V s;clear H G hle he e t R s;go_enter func173,ntmps173;go_wp2_with fail;go_loopw [3] (fun x wr=>∃k:Nat,k≤qs.length∧x=Z k∧Hid (tk L k=N)∧Y w o M (Ba 1 (O A qs.length c) qs.length (qs.flatMap me)*Ua qs L) wr) (fun x _=>(intOf x).toNat);case atStart=>exact⟨qs.length,FT _,rfl,Q,I⟩
 case round=>
  obtain⟨k,hk,rfl,D,J⟩:=hrel;clear I;have fin:k=N→∃x:Value,O A k c=x∧aa.le (Ba 1 (O A qs.length c) qs.length (qs.flatMap me)*Ua qs L) (Ea x (Ab L)):=fun h=>by subst h;exact⟨_,rfl,by rw[p.out];exact F.out k (by have:=d.out;omega)⟩
  have hcut:∀w,(Instr.sliceAt 64 (O A qs.length c) none (some (Z k)) none).run prog w= .ok (O A k c) w:=fun w=>(cg underlying64 y _ qs.length c 0 k c (WT _) (by have:=d.out;have:=C.out;omega) (FT _)).2.2.2.1;have T:k≤c:=by have:=d.out;have:=C.out;omega
  cases k with
  |zero=>have u:=V (fin D.out);clear fin;go_wp2;go_ret;obtain⟨x,rfl,z⟩:=u.out;exact⟨_,rfl,J.le z⟩
  |succ j=>
   have l:j<qs.length:=by omega
   have i:j<L.length:=by have:=d.out;omega
   obtain⟨g,off,rfl,S,f,K⟩:=J.we A c qs vg j l (by decide);have r:=f _ rfl;rw[wU]at r;have n:=P.out j l i;have a:=D.out;rw[tk,kU,PT i,CW]at a;clear f K;generalize qs[j]=q at*;obtain⟨X,a2,a3⟩:=q;dsimp only at n;subst n;dsimp only at r;by_cases b:L[j].length=0
   ·rw[JT b]at a;have E:=V a;rw[b]at r;clear a b fin hcut;go_wp2;go_roundw;case rel=>exact⟨j,by omega,by go_num,E,J⟩
    case measure=>simp[intOf]
   ·rw[DT b]at a;have u:=V (fin a);have U:((L[j].length:Int)==0)=false:=by rw[ET];omega
    generalize L[j].length=nj at*;clear a fin b hcut;go_wp2;go_ret;obtain⟨x,rfl,z⟩:=u.out;exact⟨_,rfl,J.le z⟩
theorem wF(m:Fa)(v:Value)(l:lN m):Ud prog 172 #[ag m v] (Ea v m.ia) (.bool (dd m)) (Ea v m.ia):=by
 intro w o U Q;have I:=TZ Q;have t217:=fJ v m.ia l.lv l.all;have t218:=eH v m.ia l.lv l.all;have d:=I.Wa (.cells #[Z m.next,Z m.check,Pa m.da,v] 66) w.heap.size rfl;have a1:=l.next;have T:=l.all;obtain⟨A,c,i,rfl⟩:∃A c i,v=O A i c:=by obtain⟨A,c,qs,h,_⟩:=I.dr v m.ia;exact⟨A,c,qs.length,h⟩
 unfold ag dd;generalize m.ia=L at*;generalize Rc L=lv at*;generalize L.flatten=all at*;obtain⟨a,f,sd,_⟩:=m;dsimp only at*;clear Q I l;by_cases F:a≤1000000
 ·by_cases r:f≤2147483647
  ·rw[RU F,RU r];have z:decide ((1000000:Int)<a)=false:=by rw[pV];omega
   have R:decide ((2147483647:Int)<f)=false:=by rw[pV];omega
   clear r;cases lv with
   |false=>go_enter func172,ntmps172;go_upto_region 1 with(fail);generalize w.alloc (.cells #[Z a,Z f,Pa sd,O A i c] 66)=E at*;generalize w.heap.size=b at*;obtain⟨j,u⟩:=d.c2 b;have c3:=d.cells b 3;go_wp2_with fail;refine d.k1 t217 fun W J=> ?_;go_wp2;go_ret;exact⟨rfl,J.ya⟩
   |true=>
    obtain⟨res,p⟩:∃res,(all.all fun n=>decide (n<a))=res:=⟨_,rfl⟩;rw[p];have N:=V p;clear p;go_enter func172,ntmps172;go_upto_region 1 with(fail);generalize w.alloc (.cells #[Z a,Z f,Pa sd,O A i c] 66)=E at*;generalize w.heap.size=b at*;obtain⟨j,u⟩:=d.c2 b;have c3:=d.cells b 3;go_wp2_with fail;refine d.k1 t217 fun W J=> ?_;clear d t217 j u c3;have c3:=J.cells b 3;go_wp2_with fail;refine J.kc t218 fun w2 v0 D=> ?_;obtain⟨_,M,j,rfl⟩:=D.Cd v0;clear c3 J t218;go_wp2_with fail;go_loopw [4] (fun y wr=>∃k:Nat,k≤all.length∧y=Z k∧Hid (((all.take k).all fun n=>decide (n<a))=true)∧Y w o U (Hf M all j*(ba b 66 #[Z a,Z f,Pa sd,O A i c]*Ea (O A i c) L)) wr) (fun y _=>all.length-(intOf y).toNat);case atStart=>exact⟨0,WT _,rfl,V rfl,D.ya⟩
    case round=>
     obtain⟨k,hk,rfl,G,K⟩:=hrel;clear D;by_cases t:k<all.length
     ·have S:nv all≠[]:=by intro h;have:=Kk all;rw[h]at this;simp at this;omega
      obtain⟨g,rfl,q⟩:=K.Mc (A:=M) (c:=j) (n:=all.length) (xs:=nv all) (e:=3) (sz:=1) S;have X:=q k _ (zh all k t);have d0:=K.cells b 0;have Qe:all[k]<a→((all.take (k+1)).all fun n=>decide (n<a))=true:=fun h=>by rw[rU t,List.all_append,G.out];simpa using h
      have s:¬all[k]<a→(all.all fun n=>decide (n<a))=false:=fun h=>by rw[uV,mY,GU];intro r;have:=r _ (XT t);exact h (by simpa using this)
      have C:=V Qe;have B:=V s;clear q Qe s G;generalize all[k]=n at*;by_cases x:n<a
      ·have hb:¬ ((a:Int)≤n):=by omega
       have P:=V (C.out x);clear x B C;go_wp2_with fail;go_quiet (fail);go_wp2;go_roundw;case rel=>exact⟨k+1,by omega,by go_num,P,K.drewN _⟩
       case measure=>simp[intOf];omega
      ·have hb:(a:Int)≤n:=by omega
       have H:res=false:=by rw[←N.out];exact B.out x
       subst H;clear x B C;go_wp2_with fail;go_quiet (fail);go_wp2;go_ret;exact⟨rfl,(K.drewN _).ya⟩
     ·have H:res=true:=by
       rw[←N.out];have:=G.out
       rwa [YT (by omega)]at this
      subst H;go_wp2;go_ret;exact⟨rfl,K.ya⟩
  ·rw[yU r];have z:decide ((1000000:Int)<a)=false:=by rw[pV];omega
   have R:decide ((2147483647:Int)<f)=true:=by rw[bU];omega
   have e:(decide (a≤1000000)&&false&&lv&&all.all fun n=>decide (n<a))=false:=by simp
   rw[e];clear r e t217 t218;go_enter func172,ntmps172;go_upto_region 1 with(fail);generalize w.alloc (.cells #[Z a,Z f,Pa sd,O A i c] 66)=E at*;generalize w.heap.size=b at*;obtain⟨j,u⟩:=d.c2 b;have c3:=d.cells b 3;go_wp2;go_ret;exact⟨rfl,d.ya⟩
 ·have z:decide ((1000000:Int)<a)=true:=by rw[bU];omega
  rw[yU F];have e:(false&&decide (f≤2147483647)&&lv&&all.all fun n=>decide (n<a))=false:=by simp
  rw[e];clear F e t217 t218;go_enter func172,ntmps172;go_upto_region 1 with(fail);generalize w.alloc (.cells #[Z a,Z f,Pa sd,O A i c] 66)=E at*;generalize w.heap.size=b at*;obtain⟨j,u⟩:=d.c2 b;have c3:=d.cells b 3;go_wp2;go_ret;exact⟨rfl,d.ya⟩
theorem Xj(s:Bs)(a n:Nat)(f:s.length≤2000000)(d:a≤3000000)(b:n≤8):Pq prog 126 #[Ha s,Z a,Z n] (Pa (Pf s a n:Nat)):=by
 intro w;unfold Pf;by_cases h:s.length<a+n
 ·rw[JT h];go_enter func126,ntmps126;go_wp2;go_ret;exact⟨rfl,0,rfl⟩
 ·rw[DT h];have t:=Dw ((s.drop a).take n) (by rw[OT,cU];omega);rw[QV,VY b]at t;have c:∀w,(Instr.slice 9 (Ha s) (some (Z a)) (some (Z ((a:Int)+n))) none).run prog w= .ok (Ha ((s.drop a).take n)) w:=Vh (by omega) (by congr 1<;>omega);have hb:¬ ((s.length:Int)<(a:Int)+n):=by omega
  generalize(s.drop a).take n=q at*;go_enter func126,ntmps126;go_wp2_with fail;refine(t _).mono ?_;rintro e w' ⟨rfl,m,rfl⟩;go_wp2;go_ret;exact⟨rfl,m,rfl⟩
theorem pM(m:Fa)(v:Value)(X:lN m):Ud prog 127 #[ag m v] (Ea v m.ia) (Wn m) (Ea v m.ia):=by
 intro w o r0 h0;have t172:=wF m v X;have I:=TZ h0;have t:=I.Wa (.cells #[.int .i64 m.next,.int .i64 m.check,.int .u64 m.da,v] 66) w.heap.size rfl;obtain⟨s,f,B,cf⟩:∃A c n3,v= .slice A n3 c:=by obtain⟨A,c,qs,h,_⟩:=I.dr v m.ia;exact⟨A,c,qs.length,h⟩
 subst cf;unfold ag at*;clear I h0;cases z:dd m with
 |false=>have HV:Hid (Wn m= .tuple #[.string (mk []),.int .i64 2]):=V (by unfold Wn;rw[z];rfl);rw[z]at t172;clear z X;go_enter func127,ntmps127;go_upto_region 1 with(fail);generalize w.alloc (.cells #[.int .i64 m.next,.int .i64 m.check,.int .u64 m.da,.slice s B f] 66)=W1 at*;generalize w.heap.size=b at*;obtain⟨e,u,c2,c3⟩:=t.c4 b;obtain⟨f0,f1,f2,f3⟩:=t.f4 b;go_wp2_with fail;refine t.k1 t172 fun w1 J=> ?_;go_wp2_with fail;go_ret2;exact⟨by rw[HV.out];rfl,J.ya⟩
 |true=>
  obtain⟨b1,b2,b3,b4,b5⟩:=Qh z;have HV:Hid (Wn m= .tuple #[.string (mk (Xb m)),.int .i64 0]):=V (by unfold Wn;rw[z];rfl);rw[z]at t172;have t173:=uM (.slice s B f) m.ia (by omega);have an:=Df m.ia;have D:=Yc m.ia;have E:=Rv m.ia;have S:=Hz m;obtain⟨a,i⟩:∃a:Fa,{m with ia:=Ab m.ia}=a:=⟨_,rfl⟩;have x1:a.next=m.next:=by rw[←i]
  have x2:a.check=m.check:=by rw[←i]
  have x3:a.da=m.da:=by rw[←i]
  have x4:a.ia=Ab m.ia:=by rw[←i]
  rw[i]at S;rw[←x4]at t173 an D E;have R:∀k (h:k<a.ia.length),a.ia[k].length≤40:=fun k h=>KT (by have h:=Nh a.ia k h;have:=Lt a.ia (k+1);omega) (D▸b4);have p:=sB a R;have Q:Xb m=Qg (Jy a a.ia.length):=by rw[←S,bB];unfold Jy;rw[E,UU]
  have t171:=sD (Jy a a.ia.length) (by have:=p _ (FT _);omega);rw[←Q]at t171;have t1:=zi m.next 4 (by omega) (by omega) (by omega);have t2:=zi m.check 4 (by omega) (by omega) (by omega);have t3:=zi m.da 8 (by omega) (by omega) X.da;have t4:=zi a.ia.length 1 (by omega) (by omega) (by omega);have hH:Aq a=(((105::109::97::112::put m.next 4)++put m.check 4)++put m.da 8)++put a.ia.length 1:=by unfold Aq Se;rw[E,x1,x2,x3];rfl
  have cw:(⟨#[105,109,97,112]⟩:ByteArray)=mk [105,109,97,112]:=rfl;have T:IntKind.u64.wrap (m.next:Int)=m.next:=by rw[pU];omega
  have cl:IntKind.u64.wrap (m.check:Int)=m.check:=by rw[pU];omega
  have b0:IntKind.u64.wrap (a.ia.length:Int)=a.ia.length:=by rw[pU];omega
  have a7:∀n∈a.ia.flatten,n<1000000:=by rw[D];exact b5
  have bf:=V R;have bn:=V p;have HH:=V hH;have H5:=V a7;have cb:a.ia.length≤5:=by omega
  clear z Q R p hH b1 b2 b3 b4 b5 a7 X an D E S i x1 x2 x3 x4;generalize m.next=nx at*;generalize m.check=ck at*;generalize m.da=sd at*;generalize m.ia=L at*;go_enter func127,ntmps127;go_upto_region 1 with(fail);generalize w.alloc (.cells #[.int .i64 nx,.int .i64 ck,.int .u64 sd,.slice s B f] 66)=W1 at*;generalize w.heap.size=b at*;obtain⟨e,u,c2,c3⟩:=t.c4 b;obtain⟨f0,f1,f2,f3⟩:=t.f4 b;go_wp2_with fail;refine t.k1 t172 fun w1 J=> ?_;clear e u c2 c3 f0 f1 f2 f3 t t172;obtain⟨e,u,c2,c3⟩:=J.c4 b;obtain⟨f0,f1,f2,f3⟩:=J.f4 b;go_wp2_with fail;have Jd:=J.le (MZ (aa.le.EG _ _) (JZ _));refine Jd.kc t173 fun w2 v' J2=> ?_;clear e u c2 c3 f0 f1 f2 f3 J Jd t173;obtain⟨A,c,qs,rfl,hq,W,he,P⟩:=J2.dr v' a.ia;have HE:=V he;have HQ:=V hq;have HC:=V W;rw[←hq]at t4 b0 t171 HH cb;clear he hq W J2;have e:w2.cell? ⟨b,0,none⟩=some (.int .i64 nx):=P.cells b 0;have u:w2.cell? ⟨b,1,none⟩=some (.int .i64 ck):=P.cells b 1;have c2:w2.cell? ⟨b,2,none⟩=some (.int .u64 sd):=P.cells b 2;have q0:=IT e;have q1:=IT u;have q2:=IT c2;go_wp2_with fail;refine OU (by kernel_rfl) (by kernel_rfl) ?_;repeat (quiet_step ((first|(go_at_call_of 137 (Value.int .u64 (nx:Int));refine gU (t1 _))|(go_at_call_of 137 (Value.int .u64 (ck:Int));refine gU (t2 _))|(go_at_call_of 137 (Value.int .u64 (sd:Int));refine gU (t3 _))|(go_at_call_of 137 (Value.int .u64 (qs.length:Int));refine gU (t4 _)))))
  refine fU ?_;first|(rintro _ ⟨N,rfl⟩)|(intro N)
  have a8:=jU w2 N.d N.os;generalize Go.Sort.grow (redrawn w2 N.d) N.os=wq at*;clear N;have J4:=P.below a8;clear q0 q1 q2 e u c2 t1 t2 t3 t4 P a8 T cl b0;have J5:=J4.ya (A:=(Ba 1 (.slice A qs.length c) qs.length (qs.flatMap me)*Ua qs a.ia)*Ea (.slice s B f) L);clear J4;go_wp2_with fail;go_loopw [5,6] (fun x y wr=>∃k:Nat,k≤qs.length∧y= .int .i64 k∧x= .string (mk (Jy a k))∧Y w o r0 ((Ba 1 (.slice A qs.length c) qs.length (qs.flatMap me)*Ua qs a.ia)*Ea (.slice s B f) L) wr) (fun _ y _=>qs.length-(intOf y).toNat);case atStart=>exact⟨0,WT _,rfl,by rw[ay,HH.out];simp,J5⟩
  case round=>
   obtain⟨k,hk,rfl,rfl,K⟩:=hrel;clear J5;by_cases H:k<qs.length
   ·have r:k<a.ia.length:=by have:=HQ.out;omega
    have av:=HE.out k H r;have b6:=bf.out k r;have cc:=bn.out k (by omega);have aq:∀n∈a.ia[k],n<1000000:=fun n hn=>H5.out n (FV.2 ⟨_,XT r,hn⟩);obtain⟨g,off,rfl,cn,aj,W⟩:=K.we A c qs vg k H (by decide);have e:=aj _ rfl;rw[wU]at e;have F:aa.le ((Ba 1 (.slice (some ⟨g,off,none⟩) qs.length c) qs.length (qs.flatMap me)*Ua qs a.ia)*Ea (.slice s B f) L) (Ba 1 (zp qs[k]) a.ia[k].length (nv a.ia[k])):=KZ QZ (KZ NZ (KZ QZ (l8 qs a.ia k H r)));have HA:Hid (Fw a k a.ia[k] a.ia[k].length=Jy a (k+1)):=V (rB a k r);have HZ:Hid (∀l,Fw a k l 0=Jy a k++put l.length 1):=V fun l=>uD a k l;have cx:(Jy a k).length≤2000:=by omega
    have b7:=V aq;clear W aj aq cc;generalize aM:qs[k]=q at*;obtain⟨a1,a2,a3⟩:=q;dsimp only at av;subst av;have bm:=V aM;clear aM;unfold zp at F;dsimp only at F;generalize a.ia[k]=l at*;have bc:=V F;have t1:=zi l.length 1 (by omega) (by omega) (by omega);have T:IntKind.u64.wrap (l.length:Int)=l.length:=by rw[pU];omega
    clear F;go_wp2_with fail;refine K.kp t1 fun w5 U=> ?_;go_wp2_with fail;go_loopw [5,7] (fun x y wr=>∃j:Nat,j≤l.length∧y= .int .i64 j∧x= .string (mk (Fw a k l j))∧Y w o r0 ((Ba 1 (.slice (some ⟨g,off,none⟩) qs.length c) qs.length (qs.flatMap me)*Ua qs a.ia)*Ea (.slice s B f) L) wr) (fun _ y _=>l.length-(intOf y).toNat);case atStart=>exact⟨0,WT _,rfl,by rw[HZ.out],U⟩
    case round=>
     obtain⟨j,hj,rfl,rfl,M⟩:=hrel;clear K U e t1;obtain⟨g',b9,a6,_,al,hd⟩:=M.we (some ⟨g,off,none⟩) c qs vg k H (by decide);have bs:g'=g∧b9=off:=by injection a6 with h;injection h with h1 h2;exact⟨h1.symm,h2.symm⟩
     obtain⟨rfl,rfl⟩:=bs;have d0:=al _ rfl;rw[wU,bm.out]at d0;dsimp only at d0;clear a6 al hd;by_cases G:j<l.length
     ·have hb:=b7.out l[j] (XT G);have Min:=M.le bc.out;obtain⟨_,A5,c5,ch,C⟩:=Min.sl (.slice a1 l.length a3);cases ch;obtain⟨g5,cv,rfl,cp,ak⟩:=C (by intro h;have:=zh l j G;rw[h]at this;cases this);have e:=ak j _ (zh l j G);have t1:=zi l[j] 4 (by omega) (by omega) (by omega);have T:IntKind.u64.wrap (l[j]:Int)=l[j]:=by rw[pU];omega
      have bt:=iH a k l j b6;have HS:Hid (Fw a k l (j+1)=Fw a k l j++put l[j] 4):=V (tD a k l j G);have ct:(Fw a k l j).length≤3000:=by omega
      clear C ak Min bt;generalize l[j]=x at*;generalize Fw a k l j=si at*;go_wp2_with fail;refine M.kp t1 fun w6 M2=> ?_;go_wp2_with fail;go_roundw;case rel=>exact⟨j+1,by omega,by go_num,by rw[HS.out],M2⟩
      case measure=>simp[intOf];omega
     ·have c9:j=l.length:=by omega
      subst c9;go_wp2_with fail;go_roundw;case rel=>exact⟨k+1,by omega,by go_num,by rw[HA.out],M⟩
      case measure=>simp[intOf];omega
   ·have ca:k=qs.length:=by omega
    subst ca;go_wp2_with fail;refine K.kp t171 fun w5 U=> ?_;go_wp2_with fail;go_ret2;exact⟨by rw[HV.out];rfl,U.ya⟩
theorem Yn(s:Bs)(a n:Nat):Pf s a n<256^n:=by
 unfold Pf;split
 ·exact Nat.pow_pos (by decide)
 ·have h:=Sh ((s.drop a).take n);exact aV h (XV (by decide) (by rw[OT];omega))
theorem Ty{s:Bs}{n a:Nat}(h:n=0∨s.length<a+4):Te s n a=([],a):=by
 cases n with
 |zero=>rfl
 |succ n=>rw[Te,DT (by omega)]
theorem pD{s:Bs}{n k a:Nat}(h:k<n)(b:a+4≤s.length):Te s (n-k) a=(Pf s a 4::(Te s (n-(k+1)) (a+4)).1,(Te s (n-(k+1)) (a+4)).2):=by rw[show n-k=n-(k+1)+1 by omega,Te,JT b];unfold Pf;rw[DT (by omega)]
theorem Vx{s:Bs}{n a:Nat}(h:n=0∨s.length≤a):pf s n a=[]:=by
 cases n with
 |zero=>rfl
 |succ n=>rw[pf,DT (by omega)]
theorem oB{s:Bs}{n k a:Nat}(h:k<n)(b:a<s.length):pf s (n-k) a=(Te s (Pf s a 1) (a+1)).1::pf s (n-(k+1)) (Te s (Pf s a 1) (a+1)).2:=by rw[show n-k=n-(k+1)+1 by omega,pf,JT b]
theorem jS{l:List (List Nat)}(h:∀x∈l,x.length≤255):l.flatten.length≤255*l.length:=by
 induction l with
 |nil=>simp
 |cons a r c=>have d:=h a (.head _);have e:=c fun x b=>h x (.tail _ b);rw[oV,CT,UT];omega
theorem gD{qs:List Sq}{a:List (List Nat)}{b:Option Addr}{l:List Nat}{c:Nat}:aa.le (jb qs a*Hf b l c) (jb (qs++[(b,l.length,c)]) (a++[l])):=KZ (MZ (JZ _) (KZ (KZ (RZ trivial) NZ) (RZ rfl))) (l9 qs a [(b,l.length,c)] [l])
abbrev QR(B C b d e:Nat)(A:Option Addr)(c:Nat)(qs:List Sq)(a:List (List Nat)):aa:=ua 35 1 (O A qs.length c) qs.length (qs.flatMap me)*(jb qs a*(ba C 66 #[Z b,Z d,Pa e,O A qs.length c]*ba B 66 #[Z 0,Z 0,Pa 0,O none 0 0]))
structure wT where
 a:Nat
 b:Nat
 e:Nat
 A:Option Addr
 k:Nat
 d:Nat
 c:Nat
theorem pP(s:Bs)(hs:s.length≤1100000):Tr prog 78 #[.string (mk s)] aa.emp (fun p:wT=> .tuple #[.agg #[.int .i64 p.a,.int .i64 p.b,.int .u64 p.e,.slice p.A p.k p.d],.int .i64 p.c]) (fun p=>aa.pure (∀m,qg s=some m→p.c=0)):=by
 intro w o r h0;have I:=TZ h0;have n1:=Xj s 4 4 (by omega) (by omega) (by omega);have n2:=Xj s 8 4 (by omega) (by omega) (by omega);have n3:=Xj s 12 8 (by omega) (by omega) (by omega);have n4:=Xj s 20 1 (by omega) (by omega) (by omega);have u1:=Yn s 4 4;have u2:=Yn s 8 4;have u3:=Yn s 12 8;have u4:=Yn s 20 1;have hG:∀c,(∀m,qg s=some m→c=0)↔((∃m,qg s=some m)→c=0):=fun c=>⟨fun h ⟨m,hm⟩=>h m hm,fun h m hm=>h ⟨m,hm⟩⟩;have hR:(∃m,qg s=some m)→dd (Uy s)=true∧Xb (Uy s)=s:=fun⟨m,hm⟩=>by
  have:=(jM hm).2;unfold rF at this;by_cases h:dd (Uy s)=true∧Xb (Uy s)=s
  ·exact h
  ·rw[DT h]at this;cases this
 have hM:Uy s=⟨Pf s 4 4,Pf s 8 4,Pf s 12 8,pf s (Pf s 20 1) 21⟩:=rfl;rw[hM]at hR;generalize Pf s 4 4=v1 at*;generalize Pf s 8 4=v2 at*;generalize Pf s 12 8=v3 at*;generalize Pf s 20 1=P at*;generalize b5:pf s P 21=LV at*;have e4:v1<4294967296:=u1;have e5:v2<4294967296:=u2;have bs:v3<18446744073709551616:=u3;have ds:P<256:=u4;have HR:=V hR;have e6:IntKind.i64.wrap (v1:Int)=v1:=RT _ (by omega);have e7:IntKind.i64.wrap (v2:Int)=v2:=RT _ (by omega);have e8:IntKind.i64.wrap (P:Int)=P:=RT _ (by omega);have al:=V b5;have cf:=V bs;have I0:=I.Wa (.cells #[.int .i64 0,.int .i64 0,.int .u64 0,.slice none 0 0] 66) w.heap.size rfl;obtain⟨i3,ck,cv,cw,cx⟩:=info_parts Mi;obtain⟨i4,b7,bt,c9,ca⟩:=info_parts Mu;clear h0 I u1 u2 u3 u4 hG hR hM b5 bs;go_enter func78,ntmps78;go_upto_region 1 with(fail);generalize w.alloc (.cells #[.int .i64 0,.int .i64 0,.int .u64 0,.slice none 0 0] 66)=D at*;generalize w.heap.size=B at*;go_wp2_with fail;refine(n1 _).mono ?_;rintro e w1 ⟨rfl,m1,rfl⟩;go_wp2_with fail;refine(n2 _).mono ?_;rintro e w1 ⟨rfl,m2,rfl⟩;go_wp2_with fail;refine(n3 _).mono ?_;rintro e w1 ⟨rfl,m3,rfl⟩;have I1:Y w o r (aa.wm D.heap.size 66 #[.int .i64 0,.int .i64 0,.int .u64 0,.slice none 0 0]*(aa.wm B 66 #[.int .i64 0,.int .i64 0,.int .u64 0,.slice none 0 0]*aa.emp)) ((D.drewN (m1+m2+m3)).alloc (.cells #[.int .i64 0,.int .i64 0,.int .u64 0,.slice none 0 0] 66)):=(I0.drewN (m1+m2+m3)).Wa (.cells #[.int .i64 0,.int .i64 0,.int .u64 0,.slice none 0 0] 66) D.heap.size rfl;clear I0 n1 n2 n3;obtain⟨c0,E,c2,c3⟩:=I1.c4 D.heap.size;obtain⟨f0,f1,f2,f3⟩:=I1.f4 D.heap.size;go_upto_region 2 with(fail);have I2:=((((I1.ra D.heap.size 0 (.int .i64 v1) _ rfl).ra D.heap.size 1 (.int .i64 v2) _ rfl).ra D.heap.size 2 (.int .u64 v3) _ rfl).ra D.heap.size 3 (.slice none 0 0) #[.int .i64 v1,.int .i64 v2,.int .u64 v3,.slice none 0 0] rfl);have K0:Y w o r (QR B D.heap.size v1 v2 v3 none 0 [] []) ((((((D.drewN (m1+m2+m3)).alloc (.cells #[.int .i64 0,.int .i64 0,.int .u64 0,.slice none 0 0] 66)).setCell ⟨D.heap.size,0,none⟩ (.int .i64 v1)).setCell ⟨D.heap.size,1,none⟩ (.int .i64 v2)).setCell ⟨D.heap.size,2,none⟩ (.int .u64 v3)).setCell ⟨D.heap.size,3,none⟩ (.slice none 0 0)):=by have K:=I2.ya (A:=aa.wm D.heap.size 66 #[.int .i64 v1,.int .i64 v2,.int .u64 v3,.slice none 0 0]*aa.wm B 66 #[.int .i64 0,.int .i64 0,.int .u64 0,.slice none 0 0]);exact K.le (KZ (KZ (RZ trivial) (MZ (j0 35 1) (JZ _))) (MZ (JZ _) (RZ trivial)))
 clear I1 I2 c0 E c2 c3 f0 f1 f2 f3;generalize(((((D.drewN (m1+m2+m3)).alloc (.cells #[.int .i64 0,.int .i64 0,.int .u64 0,.slice none 0 0] 66)).setCell ⟨D.heap.size,0,none⟩ (.int .i64 v1)).setCell ⟨D.heap.size,1,none⟩ (.int .i64 v2)).setCell ⟨D.heap.size,2,none⟩ (.int .u64 v3)).setCell ⟨D.heap.size,3,none⟩ (.slice none 0 0)=W2 at*;generalize D.heap.size=C at*;clear m1 m2 m3;go_wp2_with fail;go_loopw [5,6] (fun x y wr=>∃ (i a:Nat) (acc:List (List Nat)) (qs:List Sq) (A:Option Addr) (c:Nat),i≤255∧a≤1200000∧x= .int .i64 a∧y= .int .i64 i∧Hid (acc.length=i∧qs.length=i)∧Hid (∀l∈acc,l.length≤255∧∀n∈l,n<4294967296)∧Hid (acc++pf s (P-i) a=LV)∧Y w o r (QR B C v1 v2 v3 A c qs acc) wr) (fun _ y _=>256-(intOf y).toNat);case atStart=>exact⟨0,21,[],[],none,0,WT _,by omega,rfl,rfl,V ⟨rfl,rfl⟩,V (by simp),al,K0⟩
 case round=>
  obtain⟨i,a,acc,qs,A,c,aj,ha,rfl,rfl,R,HB,HO,J⟩:=hrel;clear K0;by_cases b6:i<P∧a<s.length
  ·obtain⟨cl,ch⟩:=b6;have H:=HO.out;rw[oB cl ch]at H;have n5:=Xj s a 1 (by omega) (by omega) (by omega);have u5:=Yn s a 1;generalize Pf s a 1=many at*;have cF:many<256:=u5;obtain⟨T,hT⟩:∃T,Te s many (a+1)=T:=⟨_,rfl⟩;rw[hT]at H;have HT:=V hT;have an:=V H;have e9:IntKind.i64.wrap (many:Int)=many:=RT _ (by omega);have dt:(i:Int)<P:=by omega
   have cT:(a:Int)<s.length:=by omega
   clear hT H HO u5;go_wp2_with fail;refine(n4 _).mono ?_;rintro e X ⟨rfl,k1,rfl⟩;have J1:=J.drewN k1;go_wp2_with fail;refine(n5 _).mono ?_;rintro e X ⟨rfl,k2,rfl⟩;have J2:=J1.drewN k2;rw[NU]at J2;have J3:Y w o r (ua 3 1 (.slice none 0 0) ([]:List Nat).length (nv [])*QR B C v1 v2 v3 A c qs acc) (wr.drewN (k1+k2)):=J2.le (KZ (RZ trivial) (MZ (j0 3 1) (JZ _)));clear J J1 J2 n5;go_wp2_with fail;go_loopw [5,8,9] (fun x z y wr=>∃ (k p:Nat) (f:List Nat) (F:Option Addr) (E:Nat),k≤many∧p≤1200000∧x= .int .i64 p∧y= .int .i64 k∧z= .slice F f.length E∧Hid (f.length=k)∧Hid (∀n∈f,n<4294967296)∧Hid (f++(Te s (many-k) p).1=T.1∧(Te s (many-k) p).2=T.2)∧Y w o r (ua 3 1 (.slice F f.length E) f.length (nv f)*QR B C v1 v2 v3 A c qs acc) wr) (fun _ _ y _=>many-(intOf y).toNat);case atStart=>exact⟨0,a+1,[],none,0,WT _,by omega,by go_num,rfl,rfl,V rfl,V (by simp),V ⟨by rw[←HT.out];rfl,by rw[←HT.out];rfl⟩,J3⟩
   case round=>
    obtain⟨k,p,f,F,E,hk,hp,rfl,rfl,rfl,HK,HN,HI,M⟩:=hrel;clear J3;by_cases a6:k<many∧p+4≤s.length
    ·obtain⟨bc,cp⟩:=a6;have hI:=HI.out;rw[pD bc cp]at hI;have n6:=Xj s p 4 (by omega) (by omega) (by omega);have u6:=Yn s p 4;generalize Pf s p 4=x at*;have hx:x<4294967296:=u6;have ea:IntKind.i64.wrap (x:Int)=x:=RT _ (by omega);have ak:=V hI;have b9:(k:Int)<many:=by omega
     have ct:(p:Int)+4≤s.length:=by omega
     have bf:f.length+1≤1000000000:=by have:=HK.out;omega
     have cc:=V bf;clear hI HI u6 bf;go_wp2_with fail;refine(n6 _).mono ?_;rintro e X ⟨rfl,k3,rfl⟩;have M2:=M.drewN k3;clear M n6;go_wp2_with (at_builtin;go_loud (refine Oa (v:=.slice F f.length E) [.int .i64 x] 1 M2 rfl rfl underlying35 ck cv cw rfl rfl rfl rfl (by intro u hu;rw[lU.1 hu];rfl) cc.out (by rw[cx];omega) ?_);intro G c5 w8 S);go_roundw;case rel=>
      refine⟨k+1,p+4,f++[x],G,c5,by omega,by omega,by go_num,by go_num,by rw[CT];rfl,V (by rw[CT,HK.out];rfl),V (fun n hn=> ?_),V ⟨by rw[iU];exact ak.out.1,ak.out.2⟩,?_⟩
      ·rcases oU.1 hn with h|h
       ·exact HN.out n h
       ·rw[lU.1 h];exact hx
      ·have L:(f++[x]).length=f.length+1:=by simp
       rw[L,show nv (f++[x])=nv f++[.int .i64 (x:Int)] by rw[Vj];rfl];exact S
     case measure=>simp[intOf];omega
    ·have W:Te s (many-k) p=([],p):=Ty (by omega);have hI:=HI.out;rw[W,EU]at hI;obtain⟨rfl,b0⟩:f=T.1∧p=T.2:=hI;have H:=an.out;rw[←b0]at H;have aq:Hid ((acc++[T.1])++pf s (P-(i+1)) p=LV):=V (by rw[iU];exact H);have hlen:T.1.length≤255:=by have:=HK.out;omega
     have cG:=M.cells C 3;have bm:qs.length+1≤1000000000:=by have:=R.out;omega
     have av:=V bm;have aM:=V hlen;have M1:Y w o r (ua 35 1 (.slice A qs.length c) qs.length (qs.flatMap me)*(ua 3 1 (.slice F T.1.length E) T.1.length (nv T.1)*(jb qs acc*(aa.wm C 66 #[.int .i64 v1,.int .i64 v2,.int .u64 v3,.slice A qs.length c]*aa.wm B 66 #[.int .i64 0,.int .i64 0,.int .u64 0,.slice none 0 0])))) wr:=M.ya;have j:¬ (k<many)∨¬ (p+4≤s.length):=by omega
     clear M HI H W b0 bm hlen an HT a6;generalize T.1=f at*;by_cases bc:k<many
     ·have ct:¬ ((p:Int)+4≤s.length):=by omega
      have b9:(k:Int)<many:=by omega
      clear j;go_wp2_with (at_builtin;go_loud (refine Oa (v:=.slice A qs.length c) [.slice F f.length E] 1 M1 rfl rfl underlying64 b7 bt c9 rfl rfl rfl rfl (by intro u hu;rw[lU.1 hu];rfl) av.out (by rw[ca];omega) ?_);intro G c5 w8 S;have e3:w8.cell? ⟨C,3,none⟩=some (.slice A qs.length c):=S.cells C 3;have f3:=S.free C 3);go_roundw;case rel=>
       refine⟨i+1,p,acc++[f],qs++[(F,f.length,E)],G,c5,by omega,by omega,rfl,by go_num,V ⟨by rw[CT,R.out.1];rfl,by rw[CT,R.out.2];rfl⟩,V (fun l hl=> ?_),aq,?_⟩
       ·rcases oU.1 hl with h|h
        ·exact HB.out l h
        ·rw[lU.1 h];exact⟨aM.out,HN.out⟩
       ·have L:(qs++[((F,f.length,E):Sq)]).length=qs.length+1:=by simp
        have M5:=(S.ra C 3 (.slice G (qs.length+1) c5) #[.int .i64 v1,.int .i64 v2,.int .u64 v3,.slice G (qs.length+1) c5]).ya (A:=ua 35 1 (.slice G (qs.length+1) c5) (qs.length+1) (qs.flatMap me++[.slice F f.length E])*((jb qs acc*ua 3 1 (.slice F f.length E) f.length (nv f))*(aa.wm C 66 #[.int .i64 v1,.int .i64 v2,.int .u64 v3,.slice G (qs.length+1) c5]*aa.wm B 66 #[.int .i64 0,.int .i64 0,.int .u64 0,.slice none 0 0])));unfold QR;rw[L,show(qs++[((F,f.length,E):Sq)]).flatMap me=qs.flatMap me++[.slice F f.length E] by rw[XU];rfl];exact M5.le (MZ (JZ _) (MZ gD (JZ _)))
      case measure=>simp[intOf];omega
     ·have b9:¬ (k:Int)<many:=by omega
      clear j;go_wp2_with (at_builtin;go_loud (refine Oa (v:=.slice A qs.length c) [.slice F f.length E] 1 M1 rfl rfl underlying64 b7 bt c9 rfl rfl rfl rfl (by intro u hu;rw[lU.1 hu];rfl) av.out (by rw[ca];omega) ?_);intro G c5 w8 S;have e3:w8.cell? ⟨C,3,none⟩=some (.slice A qs.length c):=S.cells C 3;have f3:=S.free C 3);go_roundw;case rel=>
       refine⟨i+1,p,acc++[f],qs++[(F,f.length,E)],G,c5,by omega,by omega,rfl,by go_num,V ⟨by rw[CT,R.out.1];rfl,by rw[CT,R.out.2];rfl⟩,V (fun l hl=> ?_),aq,?_⟩
       ·rcases oU.1 hl with h|h
        ·exact HB.out l h
        ·rw[lU.1 h];exact⟨aM.out,HN.out⟩
       ·have L:(qs++[((F,f.length,E):Sq)]).length=qs.length+1:=by simp
        have M5:=(S.ra C 3 (.slice G (qs.length+1) c5) #[.int .i64 v1,.int .i64 v2,.int .u64 v3,.slice G (qs.length+1) c5]).ya (A:=ua 35 1 (.slice G (qs.length+1) c5) (qs.length+1) (qs.flatMap me++[.slice F f.length E])*((jb qs acc*ua 3 1 (.slice F f.length E) f.length (nv f))*(aa.wm C 66 #[.int .i64 v1,.int .i64 v2,.int .u64 v3,.slice G (qs.length+1) c5]*aa.wm B 66 #[.int .i64 0,.int .i64 0,.int .u64 0,.slice none 0 0])));unfold QR;rw[L,show(qs++[((F,f.length,E):Sq)]).flatMap me=qs.flatMap me++[.slice F f.length E] by rw[XU];rfl];exact M5.le (MZ (JZ _) (MZ gD (JZ _)))
      case measure=>simp[intOf];omega
  ·have W:pf s (P-i) a=[]:=Vx (by omega);have H:=HO.out;rw[W,EU]at H;have cb:=J.Cn (A:=A) (n:=qs.length) (c:=c);have bn:qs.length=acc.length:=by rw[R.out.1,R.out.2]
   have a7:lN ⟨v1,v2,v3,acc⟩:=by
    have h1:acc.length≤255:=by rw[R.out.1];exact aj
    have h2:=jS fun x hx=>(HB.out x hx).1;refine⟨by show v1≤_;omega,by show v2≤_;omega,cf.out,by show acc.length≤_;omega,by show acc.flatten.length≤_;omega,fun n hn=> ?_⟩;obtain⟨l,hl,cn⟩:=FV.1 hn;have:=(HB.out l hl).2 n cn;omega
   have t127:=pM ⟨v1,v2,v3,acc⟩ (.slice A qs.length c) a7;have K:Y w o r (Ea (.slice A qs.length c) acc*(aa.wm C 66 #[.int .i64 v1,.int .i64 v2,.int .u64 v3,.slice A qs.length c]*aa.wm B 66 #[.int .i64 0,.int .i64 0,.int .u64 0,.slice none 0 0])) wr:=J.le (KZ PZ (MZ (KZ (MZ c8 (l5 _ _)) (o6 (by omega) bn)) (JZ _)));rw[←H]at HR;have j:¬ ((i:Int)<P)∨(i:Int)<P∧¬ ((a:Int)<s.length):=by omega
   unfold ag Wn at t127;dsimp only at t127;clear J H HO W cb bn a7 b6 HB R al;by_cases N:dd ⟨v1,v2,v3,acc⟩=true∧Xb ⟨v1,v2,v3,acc⟩=s
   ·rw[JT N.1,N.2]at t127;clear N HR;rcases j with j|⟨j,a1⟩
    ·go_wp2_with fail;refine(n4 _).mono ?_;rintro e X ⟨rfl,k1,rfl⟩;have t:=K.drewN k1;obtain⟨d0,d1,d2,d3⟩:=t.c4 C;go_wp2_with fail;refine t.k1 t127 fun w6 g=> ?_;clear d0 d1 d2 d3 K t t127;obtain⟨e0,L,e2,e3⟩:=g.c4 C;obtain⟨d0,d1,d2,d3⟩:=g.c4 B;obtain⟨f0,f1,f2,f3⟩:=g.f4 B;have U:=g.ne C B;go_wp2_with fail;first
     |(refine ZT (v:=.tuple #[.agg #[.int .i64 v1,.int .i64 v2,.int .u64 v3,.slice A qs.length c],.int .i64 0]) (by simp[results,results78,go_sem,d0,d1,d2,d3]) rfl ⟨⟨v1,v2,v3,A,qs.length,c,0⟩,rfl,?_⟩;exact(((((g.ra B 0 (.int .i64 v1) _ rfl).ra B 1 (.int .i64 v2) _ rfl).ra B 2 (.int .u64 v3) _ rfl).ra B 3 (.slice A qs.length c) _ rfl).le (le_empty _)).le (KZ (RZ (fun _ _=>rfl)) QZ))
     |(refine ZT (v:=.tuple #[.agg #[.int .i64 0,.int .i64 0,.int .u64 0,.slice none 0 0],.int .i64 0]) (by simp[results,results78,go_sem,d0,d1,d2,d3]) rfl ⟨⟨0,0,0,none,0,0,0⟩,rfl,?_⟩;exact(((((g.ra B 0 (.int .i64 0) _ rfl).ra B 1 (.int .i64 0) _ rfl).ra B 2 (.int .u64 0) _ rfl).ra B 3 (.slice none 0 0) _ rfl).le (le_empty _)).le (KZ (RZ Q.out) QZ))
    ·go_wp2_with fail;refine(n4 _).mono ?_;rintro e X ⟨rfl,k1,rfl⟩;have t:=K.drewN k1;obtain⟨d0,d1,d2,d3⟩:=t.c4 C;go_wp2_with fail;refine t.k1 t127 fun w6 g=> ?_;clear d0 d1 d2 d3 K t t127;obtain⟨e0,L,e2,e3⟩:=g.c4 C;obtain⟨d0,d1,d2,d3⟩:=g.c4 B;obtain⟨f0,f1,f2,f3⟩:=g.f4 B;have U:=g.ne C B;go_wp2_with fail;first
     |(refine ZT (v:=.tuple #[.agg #[.int .i64 v1,.int .i64 v2,.int .u64 v3,.slice A qs.length c],.int .i64 0]) (by simp[results,results78,go_sem,d0,d1,d2,d3]) rfl ⟨⟨v1,v2,v3,A,qs.length,c,0⟩,rfl,?_⟩;exact(((((g.ra B 0 (.int .i64 v1) _ rfl).ra B 1 (.int .i64 v2) _ rfl).ra B 2 (.int .u64 v3) _ rfl).ra B 3 (.slice A qs.length c) _ rfl).le (le_empty _)).le (KZ (RZ (fun _ _=>rfl)) QZ))
     |(refine ZT (v:=.tuple #[.agg #[.int .i64 0,.int .i64 0,.int .u64 0,.slice none 0 0],.int .i64 0]) (by simp[results,results78,go_sem,d0,d1,d2,d3]) rfl ⟨⟨0,0,0,none,0,0,0⟩,rfl,?_⟩;exact(((((g.ra B 0 (.int .i64 0) _ rfl).ra B 1 (.int .i64 0) _ rfl).ra B 2 (.int .u64 0) _ rfl).ra B 3 (.slice none 0 0) _ rfl).le (le_empty _)).le (KZ (RZ Q.out) QZ))
   ·have Q:Hid (∀m,qg s=some m→90=0):=V fun m hm=>absurd (HR.out ⟨m,hm⟩) N;cases hv:dd ⟨v1,v2,v3,acc⟩with
    |false=>
     rw[DT (by rw[hv];simp)]at t127;clear N HR hv;rcases j with j|⟨j,a1⟩
     ·go_wp2_with fail;refine(n4 _).mono ?_;rintro e X ⟨rfl,k1,rfl⟩;have t:=K.drewN k1;obtain⟨d0,d1,d2,d3⟩:=t.c4 C;go_wp2_with fail;refine t.k1 t127 fun w6 g=> ?_;clear d0 d1 d2 d3 K t t127;obtain⟨e0,L,e2,e3⟩:=g.c4 C;obtain⟨d0,d1,d2,d3⟩:=g.c4 B;obtain⟨f0,f1,f2,f3⟩:=g.f4 B;have U:=g.ne C B;go_wp2_with fail;first
      |(refine ZT (v:=.tuple #[.agg #[.int .i64 v1,.int .i64 v2,.int .u64 v3,.slice A qs.length c],.int .i64 90]) (by simp[results,results78,go_sem,d0,d1,d2,d3]) rfl ⟨⟨v1,v2,v3,A,qs.length,c,90⟩,rfl,?_⟩;exact(((((g.ra B 0 (.int .i64 v1) _ rfl).ra B 1 (.int .i64 v2) _ rfl).ra B 2 (.int .u64 v3) _ rfl).ra B 3 (.slice A qs.length c) _ rfl).le (le_empty _)).le (KZ (RZ (fun _ _=>rfl)) QZ))
      |(refine ZT (v:=.tuple #[.agg #[.int .i64 0,.int .i64 0,.int .u64 0,.slice none 0 0],.int .i64 90]) (by simp[results,results78,go_sem,d0,d1,d2,d3]) rfl ⟨⟨0,0,0,none,0,0,90⟩,rfl,?_⟩;exact(((((g.ra B 0 (.int .i64 0) _ rfl).ra B 1 (.int .i64 0) _ rfl).ra B 2 (.int .u64 0) _ rfl).ra B 3 (.slice none 0 0) _ rfl).le (le_empty _)).le (KZ (RZ Q.out) QZ))
     ·go_wp2_with fail;refine(n4 _).mono ?_;rintro e X ⟨rfl,k1,rfl⟩;have t:=K.drewN k1;obtain⟨d0,d1,d2,d3⟩:=t.c4 C;go_wp2_with fail;refine t.k1 t127 fun w6 g=> ?_;clear d0 d1 d2 d3 K t t127;obtain⟨e0,L,e2,e3⟩:=g.c4 C;obtain⟨d0,d1,d2,d3⟩:=g.c4 B;obtain⟨f0,f1,f2,f3⟩:=g.f4 B;have U:=g.ne C B;go_wp2_with fail;first
      |(refine ZT (v:=.tuple #[.agg #[.int .i64 v1,.int .i64 v2,.int .u64 v3,.slice A qs.length c],.int .i64 90]) (by simp[results,results78,go_sem,d0,d1,d2,d3]) rfl ⟨⟨v1,v2,v3,A,qs.length,c,90⟩,rfl,?_⟩;exact(((((g.ra B 0 (.int .i64 v1) _ rfl).ra B 1 (.int .i64 v2) _ rfl).ra B 2 (.int .u64 v3) _ rfl).ra B 3 (.slice A qs.length c) _ rfl).le (le_empty _)).le (KZ (RZ (fun _ _=>rfl)) QZ))
      |(refine ZT (v:=.tuple #[.agg #[.int .i64 0,.int .i64 0,.int .u64 0,.slice none 0 0],.int .i64 90]) (by simp[results,results78,go_sem,d0,d1,d2,d3]) rfl ⟨⟨0,0,0,none,0,0,90⟩,rfl,?_⟩;exact(((((g.ra B 0 (.int .i64 0) _ rfl).ra B 1 (.int .i64 0) _ rfl).ra B 2 (.int .u64 0) _ rfl).ra B 3 (.slice none 0 0) _ rfl).le (le_empty _)).le (KZ (RZ Q.out) QZ))
    |true=>
     rw[JT hv]at t127;have a8:Xb ⟨v1,v2,v3,acc⟩≠s:=fun h=>N ⟨hv,h⟩;generalize Xb ⟨v1,v2,v3,acc⟩=q at*;have hb:(q==s)=false:=by simpa using a8
     have dj:(q !=s)=true:=by simpa using a8
     clear N HR hv a8;rcases j with j|⟨j,a1⟩
     ·go_wp2_with fail;refine(n4 _).mono ?_;rintro e X ⟨rfl,k1,rfl⟩;have t:=K.drewN k1;obtain⟨d0,d1,d2,d3⟩:=t.c4 C;go_wp2_with fail;refine t.k1 t127 fun w6 g=> ?_;clear d0 d1 d2 d3 K t t127;obtain⟨e0,L,e2,e3⟩:=g.c4 C;obtain⟨d0,d1,d2,d3⟩:=g.c4 B;obtain⟨f0,f1,f2,f3⟩:=g.f4 B;have U:=g.ne C B;go_wp2_with fail;first
      |(refine ZT (v:=.tuple #[.agg #[.int .i64 v1,.int .i64 v2,.int .u64 v3,.slice A qs.length c],.int .i64 90]) (by simp[results,results78,go_sem,d0,d1,d2,d3]) rfl ⟨⟨v1,v2,v3,A,qs.length,c,90⟩,rfl,?_⟩;exact(((((g.ra B 0 (.int .i64 v1) _ rfl).ra B 1 (.int .i64 v2) _ rfl).ra B 2 (.int .u64 v3) _ rfl).ra B 3 (.slice A qs.length c) _ rfl).le (le_empty _)).le (KZ (RZ (fun _ _=>rfl)) QZ))
      |(refine ZT (v:=.tuple #[.agg #[.int .i64 0,.int .i64 0,.int .u64 0,.slice none 0 0],.int .i64 90]) (by simp[results,results78,go_sem,d0,d1,d2,d3]) rfl ⟨⟨0,0,0,none,0,0,90⟩,rfl,?_⟩;exact(((((g.ra B 0 (.int .i64 0) _ rfl).ra B 1 (.int .i64 0) _ rfl).ra B 2 (.int .u64 0) _ rfl).ra B 3 (.slice none 0 0) _ rfl).le (le_empty _)).le (KZ (RZ Q.out) QZ))
     ·go_wp2_with fail;refine(n4 _).mono ?_;rintro e X ⟨rfl,k1,rfl⟩;have t:=K.drewN k1;obtain⟨d0,d1,d2,d3⟩:=t.c4 C;go_wp2_with fail;refine t.k1 t127 fun w6 g=> ?_;clear d0 d1 d2 d3 K t t127;obtain⟨e0,L,e2,e3⟩:=g.c4 C;obtain⟨d0,d1,d2,d3⟩:=g.c4 B;obtain⟨f0,f1,f2,f3⟩:=g.f4 B;have U:=g.ne C B;go_wp2_with fail;first
      |(refine ZT (v:=.tuple #[.agg #[.int .i64 v1,.int .i64 v2,.int .u64 v3,.slice A qs.length c],.int .i64 90]) (by simp[results,results78,go_sem,d0,d1,d2,d3]) rfl ⟨⟨v1,v2,v3,A,qs.length,c,90⟩,rfl,?_⟩;exact(((((g.ra B 0 (.int .i64 v1) _ rfl).ra B 1 (.int .i64 v2) _ rfl).ra B 2 (.int .u64 v3) _ rfl).ra B 3 (.slice A qs.length c) _ rfl).le (le_empty _)).le (KZ (RZ (fun _ _=>rfl)) QZ))
      |(refine ZT (v:=.tuple #[.agg #[.int .i64 0,.int .i64 0,.int .u64 0,.slice none 0 0],.int .i64 90]) (by simp[results,results78,go_sem,d0,d1,d2,d3]) rfl ⟨⟨0,0,0,none,0,0,90⟩,rfl,?_⟩;exact(((((g.ra B 0 (.int .i64 0) _ rfl).ra B 1 (.int .i64 0) _ rfl).ra B 2 (.int .u64 0) _ rfl).ra B 3 (.slice none 0 0) _ rfl).le (le_empty _)).le (KZ (RZ Q.out) QZ))
end
end Go.Proofs.YteacbkflfafefaaGreatDoor
