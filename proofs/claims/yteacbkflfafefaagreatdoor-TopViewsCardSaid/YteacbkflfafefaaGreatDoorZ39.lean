/- Part 40 of 50 of the proof that TopViews returns true at every input: lemmas on the way; no condition. -/
import Derived.Test.YteacbkflfafefaaGreatDoorZ35
import Derived.Test.YteacbkflfafefaaGreatDoorZ37
namespace Go.Proofs.YteacbkflfafefaaGreatDoor
set_option linter.all false
set_option maxRecDepth 100000
namespace An
open ja
def Sy(b:Nat):Nat:=if 9223372036854775808≤b then 18446744073709551615-b else b+9223372036854775808
theorem eL{a b:Nat}(c:a<18446744073709551616)(d:b<18446744073709551616):Sy a=Sy b↔a=b:=by unfold Sy;split<;>split<;>omega
def La(bs:List Za):List Nat:=bs.map fun b=>b.vc.length
theorem yh(bs:List Za):(La bs).length=bs.length:=by simp[La]
theorem TC(bs:List Za)(k:Nat):La (bs.take k)=(La bs).take k:=by simp[La,NX]
theorem ID(b:Za):Ja [b]=Kf b:=by simp[Ja]
theorem bA{bs:List Za}{k:Nat}(h:k<bs.length):(Ja (bs.take (k+1))).length=(Ja (bs.take k)).length+bs[k].vc.length:=by rw[MU,PT h,Mq,CT];show _+(Ja [bs[k]]).length=_;rw[ID,bk]
theorem oy(bs:List Za)(k:Nat):Ja (bs.take k)<+:Ja bs:=by have h:bs.take k++bs.drop k=bs:=tU k bs;exact⟨Ja (bs.drop k),by rw[←Mq,h]⟩
theorem mJ{bs:List Za}(k:Nat):(Ja bs).take (Ja (bs.take k)).length=Ja (bs.take k):=by obtain⟨t,a⟩:=oy bs k;rw[←a];exact PX rfl
theorem zB{bs:List Za}(a:∀b∈bs,ow b):∀ {j i:Nat},i<j→j≤bs.length→(Ja (bs.take i)).length<(Ja (bs.take j)).length
 |0,_,h,_=>by omega
 |j+1,i,h,f=>by
  have d:=bA (bs:=bs) (k:=j) (by omega);have c:=(Hd (a _ (XT (show j<bs.length by omega))).check).2.1;have e:0<bs[j].vc.length:=xV.2 c;rcases Nat.lt_or_ge i j with hi|hi
  ·have:=zB a hi (by omega);omega
  ·obtain rfl:i=j:=by omega
   omega
def sM(cap:Nat):RS:=⟨⟨cap,[],0,false,false,0,[]⟩,[],0,0,none⟩
theorem tR{da cap:Nat}(c:6000≤cap)(d:cap≤1048576):(sM cap).Ok da:=by
 refine RS.Ok.yI (FT _) (fun b hb=>by cases hb) (FT _) ?_;refine⟨?_,⟨[],[],none,0,[],?_,⟨rfl,fun b hb=>by cases hb⟩,List.prefix_refl _,?_,⟨fun f e=>by cases e⟩⟩,nh.nil,?_,by simp⟩
 ·exact⟨by first|exact List.Pairwise.nil|(simp[Zb]),d,by simp[sM,An.Ia],fun p g=>(by cases g),by simp,by show(0:Nat)≤400;omega,by show(0:Nat)≤1000000;omega⟩
 ·exact⟨fun i _=>by simp[Na],fun a h=>(by cases h),fun a h=>(by cases h),by simp,Oi,fun h=>absurd rfl h,fun h hh=>(by cases hh),fun a h=>(by cases h)⟩
 ·exact⟨[],.inl rfl,WT _⟩
 ·simpa [zb,An.Ia]using c
theorem UC(a:List Za)(st:Bs)(c:Int)(l:List Ev):Fe a st c l=0∨Fe a st c l=2∨Fe a st c l=3∨Fe a st c l=80:=by
 have he:∀e:Ev,od e=0∨od e=2∨od e=3:=fun e=>by
  unfold od;split
  ·simp
  ·split<;>simp
 have d:∀l:List Ev,Yf l=0∨Yf l=2∨Yf l=3:=by
  intro l;induction l with
  |nil=>exact .inl rfl
  |cons e r f=>
   rw[Yf];split
   ·exact f
   ·exact he e
 have hb:∀b:Za,jd b=0∨jd b=2∨jd b=3:=fun b=>by
  unfold jd;split
  ·simp
  ·split
   ·simp
   ·split
    ·simp
    ·exact d _
 unfold Fe;split
 ·rcases hb ⟨st,0,l⟩with h|h|h<;>simp[h]
 ·split
  ·simp
  ·split
   ·simp
   ·rcases hb (Ff a st l)with h|h|h<;>simp[h]
theorem lJ(a:List Za)(st:Bs)(l:List Ev):Ja (a++[Ff a st l])=Ja a++Kf (Ff a st l):=by rw[Mq,ID]
theorem qI(a:List Za)(st:Bs)(l:List Ev):La (a++[Ff a st l])=La a++[l.length]:=by simp[La,Ff]
end An
section
open Go.RowKit An Go.ChangeShapes Go.WideShapes Go.ChangeAt Go.Proofs.Tryz
theorem cL(x:Nat)(b:x<18446744073709551616):Pq prog 145 #[.float .f64 x] (Pa (Sy x:Nat)):=by
 intro w;have d:=fun w=>GA x w;unfold Sy;by_cases h:9223372036854775808≤x
 ·rw[JT h];have e:IntKind.u64.wrap ((18446744073709551615:Int)-x)=((18446744073709551615-x:Nat):Int):=by rw[pU];omega
  have a:=V e;have c:decide ((9223372036854775808:Int)≤x)=true:=by rw[bU];omega
  clear e h b;go_enter func145,ntmps145;go_wp2;go_ret;refine⟨?_,0,rfl⟩;show Ending.returned (Pa _)=_;rw[a.out]
 ·rw[DT h];have e:IntKind.u64.wrap ((x:Int)+9223372036854775808)=((x+9223372036854775808:Nat):Int):=by rw[pU];omega
  have a:=V e;have c:decide ((9223372036854775808:Int)≤x)=false:=by rw[pV];omega
  clear e h b;go_enter func145,ntmps145;go_wp2;go_ret;refine⟨?_,0,rfl⟩;show Ending.returned (Pa _)=_;rw[a.out]
theorem uP(a b:Nat)(c:a<18446744073709551616)(d:b<18446744073709551616):Pq prog 102 #[.float .f64 a,.float .f64 b] (.bool (decide (a=b))):=by
 intro w;have t1:=cL a c;have t2:=cL b d;have f:=eL c d;by_cases h:a=b
 ·subst h;clear f c d;rw[RU rfl];generalize Sy a=k at*;go_enter func102,ntmps102;go_wp2_with fail;refine(t1 _).mono ?_;rintro e w' ⟨rfl,m,rfl⟩;go_wp2_with fail;refine(t1 _).mono ?_;rintro e w' ⟨rfl,m2,rfl⟩;go_wp2;go_ret;exact⟨by simp,m+m2,rfl⟩
 ·have i:Sy a≠Sy b:=fun e=>h (f.1 e);rw[yU h];clear f c d h;generalize Sy a=k at*;generalize Sy b=g at*;have j:((k:Int)==g)=false:=by rw[ET];omega
  go_enter func102,ntmps102;go_wp2_with fail;refine(t1 _).mono ?_;rintro e w' ⟨rfl,m,rfl⟩;go_wp2_with fail;refine(t2 _).mono ?_;rintro e w' ⟨rfl,m2,rfl⟩;go_wp2;go_ret;exact⟨rfl,m+m2,rfl⟩
theorem DQ(a b:Ev):a=b↔a.Xi=b.Xi∧a.data=b.data∧a.w=b.w:=by cases a;cases b;simp
theorem aO(a b:Ev)(g:a.w<18446744073709551616)(h:b.w<18446744073709551616):Pu prog 63 #[EA a,EA b] (.bool (decide (a=b))):=by
 intro w;have t:=uP a.w b.w g h;have he:=DQ a b;obtain⟨t1,d1,f1⟩:=a;obtain⟨t2,d2,f2⟩:=b;unfold EA;dsimp only at*;have I:=((ZZ w).Wa (.cells #[Ha t1,Ha d1,.float .f64 f1] 56) w.heap.size rfl).Wa (.cells #[Ha t2,Ha d2,.float .f64 f2] 56) (w.heap.size+1) (dc rfl);have f:=I.Sc;clear I g h;by_cases c:t1=t2
 ·subst c;by_cases d:d1=d2
  ·subst d;have e:decide ((⟨t1,d1,f1⟩:Ev)=⟨t1,d1,f2⟩)=decide (f1=f2):=by simp
   rw[e];clear e he;generalize decide (f1=f2)=q at*;go_enter func63,ntmps63;go_wp2_with fail;refine(t _).mono ?_;rintro e w' ⟨rfl,m,rfl⟩;go_wp2;go_ret;exact⟨rfl,j3 f m⟩
  ·have e:decide ((⟨t1,d1,f1⟩:Ev)=⟨t1,d2,f2⟩)=false:=by simp[d]
   rw[e];have i:(d1==d2)=false:=by simpa using d
   clear e he d t;go_enter func63,ntmps63;go_wp2;go_ret;exact⟨rfl,f⟩
 ·have e:decide ((⟨t1,d1,f1⟩:Ev)=⟨t2,d2,f2⟩)=false:=by simp[c]
  rw[e];have i:(t1==t2)=false:=by simpa using c
  clear e he c t;go_enter func63,ntmps63;go_wp2;go_ret;exact⟨rfl,f⟩
theorem Rz(e:Ev)(h:vJ e):Pu prog 135 #[EA e] (Z (od e)):=by
 intro w;have I:=(ZZ w).new (.cells #[Ha e.Xi,Ha e.data,.float .f64 e.w] 56);obtain⟨t,d,f⟩:=e;obtain⟨i,j,b⟩:=h;have hb:=I.Sc;unfold od EA;dsimp only at*;clear I b;cases t with
 |nil=>rw[JT (show([]:Bs).isEmpty=true from rfl)];go_enter func135,ntmps135;go_wp2;go_ret;exact⟨rfl,hb⟩
 |cons c r=>
  have g:(((c::r).length:Int)==0)=false:=by rw[ET];simp;omega
  by_cases a:16<(c::r).length∨200<d.length
  ·rw[DT (by simp),JT a];generalize c::r=t at*;go_enter func135,ntmps135;go_wp2_with fail;all_goals go_ret;exact⟨rfl,hb⟩
  ·rw[DT (by simp),DT a];generalize c::r=t at*;go_enter func135,ntmps135;go_wp2;go_ret;exact⟨rfl,hb⟩
theorem UI(e:Ev)(h:vJ e)(k:od e=0):Pu prog 138 #[EA e] (Ha (Xc e)):=by
 intro w;have I:=(ZZ w).new (.cells #[Ha e.Xi,Ha e.data,.float .f64 e.w] 56);have t0:=Rz e h;rw[k]at t0;have t1:=Zx e.Xi h.Xi;have t2:=Zx e.data h.data;have t3:=zi e.w 8 (by omega) (by omega) h.w;have p:=fun w=>GA e.w w;have n:=h.Xi;have o:=h.data;have i:Xc e=text e.Xi++(text e.data++put e.w 8):=by simp[Xc]
 rw[i];obtain⟨t,d,f⟩:=e;unfold EA at*;dsimp only at*;clear h k i;go_enter func138,ntmps138;go_wp2_with fail;refine I.kp t0 fun b c=> ?_;have l:b.cell? ⟨w.heap.size,0,none⟩=some (Ha t):=by have:=c.obj (g:=w.heap.size) (x:=.cells #[Ha t,Ha d,.float .f64 f] 56);rw[qh this];rfl
 have m:b.cell? ⟨w.heap.size,1,none⟩=some (Ha d):=by have:=c.obj (g:=w.heap.size) (x:=.cells #[Ha t,Ha d,.float .f64 f] 56);rw[qh this];rfl
 have c2:b.cell? ⟨w.heap.size,2,none⟩=some (.float .f64 f):=by have:=c.obj (g:=w.heap.size) (x:=.cells #[Ha t,Ha d,.float .f64 f] 56);rw[qh this];rfl
 have s:=IT l;have u:=IT m;have v:=IT c2;have q:¬ (9223372036854775807<List.length t+2+(List.length d+2)):=by omega
 have r:¬ (9223372036854775807<List.length t+2+(List.length d+2)+8):=by omega
 go_wp2_with fail;refine OU (by kernel_rfl) (by kernel_rfl) ?_;repeat (quiet_step ((first|(go_at_call_of 136 (Ha t);refine gU (t1 _))|(go_at_call_of 136 (Ha d);refine gU (t2 _))|(go_at_call_of 137 (Pa (f:Int));refine gU (t3 _)))))
 refine fU ?_;first|(rintro _ ⟨a,rfl⟩)|(intro a)
 have j:=jU b a.d a.os;generalize Go.Sort.grow (redrawn b a.d) a.os=y at*;clear a;go_wp2;go_ret;exact⟨rfl,(c.below j).Sc⟩
theorem Xu(s:Bs)(b:s.length≤1000000000):Pq prog 91 #[Ha s] (.bool (ad s)):=by
 intro w;unfold ad;cases s with
 |nil=>go_enter func91,ntmps91;go_wp2;go_ret;exact⟨rfl,0,rfl⟩
 |cons c r=>
  have a:(1:Int)≤((c::r).length:Int):=by simp;omega
  by_cases h:(c::r).length≤32
  ·rw[show(!(c::r).isEmpty&&decide ((c::r).length≤32))=true by simpa using h];generalize c::r=t at*;go_enter func91,ntmps91;go_wp2;go_ret;refine⟨?_,0,rfl⟩;first|rfl|(simp;omega)
  ·rw[show(!(c::r).isEmpty&&decide ((c::r).length≤32))=false by simpa using h];generalize c::r=t at*;go_enter func91,ntmps91;go_wp2;go_ret;refine⟨?_,0,rfl⟩;first|rfl|(simp;omega)
theorem Qz(b:Za)(v:Value)(M:BB b):Ud prog 89 #[bV b v] (Ba 3 v b.vc.length (vc b.vc)) (Z (jd b)) (Ba 3 v b.vc.length (vc b.vc)):=by
 intro w o z C;have I:=TZ C;obtain⟨hlen,A,c,rfl,_⟩:=I.sl v;obtain⟨st,e,l⟩:=b;obtain⟨b1,b2,b3,b4⟩:=M;dsimp only at*;have d:=I.Wa (.cells #[Ha st,Z e,O A l.length c] 85) w.heap.size rfl;clear C hlen I;have hw:IntKind.i64.wrap (1073741824-(l.length:Int))=1073741824-l.length:=RT _ (by omega);have fin:∀W,Y w o z (ba w.heap.size 85 #[Ha st,Z e,O A l.length c]*Qc A l c) W→Y w o z (Qc A l c) W:=fun W h=>h.ya;unfold jd bV;dsimp only;by_cases a:st.isEmpty=true∨l.isEmpty=true
 ·rw[JT a];by_cases n:st=[]
  ·subst n;go_enter func89,ntmps89;go_wp2;go_ret;exact⟨rfl,d.ya⟩
  ·have N:l=[]:=by simpa [n]using a
   subst N;have K:((st.length:Int)==0)=false:=by rw[ET];have:=xV.2 n;omega
   clear a n;go_enter func89,ntmps89;go_wp2;go_ret;exact⟨rfl,fin _ d⟩
 ·rw[DT a];rw[lZ]at a;have K:((st.length:Int)==0)=false:=by have:=a.1;rw[BW]at this;have:=xV.2 this;rw[ET];omega
  have S:((l.length:Int)==0)=false:=by have:=a.2;rw[BW]at this;have:=xV.2 this;rw[ET];omega
  clear a;by_cases D:32<st.length∨8<l.length
  ·rw[JT D];by_cases L:32<st.length
   ·go_enter func89,ntmps89;go_wp2;go_ret;exact⟨rfl,fin _ d⟩
   ·have L:8<l.length:=by omega
    go_enter func89,ntmps89;go_wp2;go_ret;exact⟨rfl,fin _ d⟩
  ·rw[DT D];by_cases E:1073741824<e+l.length
   ·rw[JT E];go_enter func89,ntmps89;go_wp2;go_ret;exact⟨rfl,fin _ d⟩
   ·rw[DT E];go_enter func89,ntmps89;go_wp2_with fail;generalize T:w.alloc (.cells #[Ha st,Z e,O A l.length c] 85)=R at*;generalize w.heap.size=F at*;go_loopw [3] (fun i wr=>∃k:Nat,k≤l.length∧i=Z k∧Yf l=Yf (l.drop k)∧Y w o z (ba F 85 #[Ha st,Z e,O A l.length c]*Qc A l c) wr) (fun i _=>l.length-(intOf i).toNat);case atStart=>exact⟨0,WT _,rfl,rfl,d⟩
    case round=>
     obtain⟨k,U,rfl,f,J⟩:=hrel;have d2:=J.cells F 2;by_cases g:k<l.length
     ·obtain⟨b,off,rfl,P,s,y⟩:=J.we A c l wi k g (by decide);have G:=s _ rfl;have H:=y 1 _ rfl;have c2:=y 2 _ rfl;have q:=Lr l k g;have r:=b4 l[k] (XT g);generalize l[k]=x at*;have t:=Rz x r;unfold EA at t;have m:=V f;have p:=V q;clear f q y s b4 r d fin;go_wp2_with fail;refine J.kp t fun w2 B=> ?_;clear t G H c2;by_cases j:od x=0
      ·have u:=V j;rw[j];clear j J;go_wp2;go_roundw;case rel=>exact⟨k+1,by omega,by go_num,by rw[m.out,p.out,JT u.out],B⟩
       case measure=>simp[intOf];omega
      ·have Q:((od x:Int) !=0)=true:=by rw[CU];omega
       have u:=V j;clear j J;go_wp2;go_ret;refine⟨?_,B.ya⟩;rw[m.out,p.out,DT u.out];rfl
     ·obtain rfl:k=l.length:=by omega
      rw[NY (FT _)]at f;have m:=V f;clear f;go_wp2;go_ret;refine⟨?_,J.ya⟩;rw[m.out];rfl
end
namespace An
def Ar(s:Bs)(k:Nat):Bs:=(s.drop (8+24*k)).take 24
theorem cA{s:Bs}{l:List qa}(h:mf s=some l):s.length=24*l.length+12∧ub l=true∧Tb l=s∧∀k (a:k<l.length),Ar s k=Nf l[k]:=by obtain⟨b,c⟩:=jJ h;subst b;exact⟨jo l,c,rfl,fun k a=>pH a⟩
def Pf(s:Bs)(a n:Nat):Nat:=if s.length<a+n then 0 else num ((s.drop a).take n)
def Te(s:Bs):Nat→Nat→List Nat×Nat
 |0,a=>([],a)
 |n+1,a=>if a+4≤s.length then(num ((s.drop a).take 4)::(Te s n (a+4)).1,(Te s n (a+4)).2)else([],a)
def pf(s:Bs):Nat→Nat→List (List Nat)
 |0,_=> []
 |n+1,a=>if a<s.length then(Te s (Pf s a 1) (a+1)).1::pf s n (Te s (Pf s a 1) (a+1)).2 else []
def Uy(s:Bs):Fa:=⟨Pf s 4 4,Pf s 8 4,Pf s 12 8,pf s (Pf s 20 1) 21⟩
def rF(s:Bs):Nat:=if dd (Uy s)=true∧Xb (Uy s)=s then 0 else 90
theorem Zn{s r:Bs}{a n k:Nat}(h:s.drop a=put n k++r)(d:a≤s.length)(c:n<256^k):Pf s a k=n:=by have b:=eU List.length h;rw[cU,CT,Jb]at b;unfold Pf;rw[DT (by omega),h,PX (Jb n k),ug c]
theorem Kj{s p r:Bs}{a n:Nat}(h:s.drop a=p++r)(b:p.length=n):s.drop (a+n)=r:=by rw[←jV,h,List.drop_left' b]
theorem Hq{s r:Bs}:∀ (l:List Nat) (a:Nat),(∀n∈l,n<4294967296)→s.drop a=(l.flatMap fun n=>put n 4)++r→a≤s.length→Te s l.length a=(l,a+4*l.length)
 |[],a,_,_,_=>by simp[Te]
 |n::l,a,b,h,f=>by rw[AU,iU]at h;have c:=eU List.length h;rw[cU,CT,Jb]at c;have e:=Hq l (a+4) (fun x d=>b x (.tail _ d)) (Kj h (Jb n 4)) (by omega);rw[UT,Te,JT (by omega),e,h,PX (Jb n 4),ug (b n (.head _))];simp;omega
theorem Kp{s r:Bs}:∀ (l:List (List Nat)) (a:Nat),(∀x∈l,x.length<256∧∀n∈x,n<4294967296)→s.drop a=l.flatMap Sd++r→a≤s.length→pf s l.length a=l
 |[],a,_,_,_=>rfl
 |x::l,a,e,h,m=>by
  rw[AU,iU]at h;unfold Sd at h;rw[iU]at h;have o:=eU List.length h;rw[cU,CT,Jb]at o;have i:=Zn h m (by simpa using(e x (.head _)).1);have d:=Kj h (Jb _ 1);have j:=Hq x (a+1) (e x (.head _)).2 d (by omega);have b:(x.flatMap fun n=>put n 4).length=4*x.length:=by
   have:∀y:List Nat,(y.flatMap fun n=>put n 4).length=4*y.length:=by
    intro y;induction y with
    |nil=>rfl
    |cons c y f=>rw[AU,CT,Jb,f,UT];omega
   exact this x
  have k:=Kj d b;have g:=eU List.length d;rw[cU,CT,b]at g;have f:=Kp l (a+1+4*x.length) (fun y p=>e y (.tail _ p)) (by unfold Sd;exact k) (by omega);rw[UT,pf,JT (by omega),i,j,f]
theorem jM{s:Bs}{m:Fa}(h:qg s=some m):Uy s=m∧rF s=0:=by
 obtain⟨p,j,r,t,v,f⟩:=Dx h;obtain⟨g,o⟩:=er h;obtain⟨u,a2,a3,a4⟩:=Dc.1 p;obtain⟨b1,b2,b3⟩:=mi.1 a3;have e:Se.length=4:=rfl;have key:Uy s=m:=by
  have d4:s.drop 4=put m.next 4++(put m.check 4++(put m.da 8++(put m.ia.length 1++(m.ia.flatMap Sd++t)))):=by rw[f,List.drop_left' e]
  have d8:=Kj d4 (Jb _ 4);have d12:=Kj d8 (Jb _ 4);have d20:=Kj d12 (Jb _ 8);have d21:=Kj d20 (Jb _ 1);have k:21≤s.length:=by have:=eU List.length f;simp only[CT,e,Jb]at this;omega
  have a:=Zn d4 (by omega) (show m.next<256^4 by omega);have b:=Zn d8 (by omega) (show m.check<256^4 by omega);have c:=Zn d12 (by omega) (show m.da<256^8 by omega);have d:=Zn d20 (by omega) (show m.ia.length<256^1 by omega);have q:=Kp m.ia 21 (fun x i=>⟨by have:=rq i;omega,fun n l=>by have:=a4 n (FV.2 ⟨x,i,l⟩);omega⟩) d21 k;have a:Pf s 4 4=m.next:=a;have b:Pf s 8 4=m.check:=b;have c:Pf s 12 8=m.da:=c;have d:Pf s 20 1=m.ia.length:=d;unfold Uy;rw[a,b,c,d,q]
 refine⟨key,?_⟩;unfold rF;rw[key,JT ⟨g,o⟩]
end An
end Go.Proofs.YteacbkflfafefaaGreatDoor
