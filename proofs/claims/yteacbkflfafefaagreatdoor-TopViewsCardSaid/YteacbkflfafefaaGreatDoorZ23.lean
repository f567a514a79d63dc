/- Part 24 of 50 of the proof that TopViews returns true at every input: lemmas on the way; no condition. -/
import Derived.Test.YteacbkflfafefaaGreatDoorZ16
import Derived.Test.YteacbkflfafefaaGreatDoorZ17
import Derived.Test.YteacbkflfafefaaGreatDoorZ19
namespace Go.Proofs.YteacbkflfafefaaGreatDoor
set_option linter.all false
set_option maxHeartbeats 4000000
set_option maxRecDepth 100000
section
open Go.RowKit An Go.ChangeShapes Go.WideShapes Go.ChangeAt Go.Proofs.Tryz
def Wr(l:List qa):Value:=if ub l=true then .tuple #[Ha (Tb l),Z 0]else .tuple #[Ha [],Z 2]
def Fh(l:List qa)(k:Nat):Bs:=112::116::97::98::put l.length 4++(l.take k).flatMap Nf
theorem my(l:List qa){k:Nat}(a:k≤l.length):(Fh l k).length=8+24*k:=by unfold Fh;rw[CT,ti,OT,QU a];simp[Jb]
theorem DF(l:List qa):Qg (Fh l l.length)=Tb l:=by unfold Fh Tb;rw[UU];rfl
theorem DD(l:List qa){k:Nat}(a:k<l.length):Fh l (k+1)=Fh l k++Nf l[k]:=by unfold Fh;rw[←EX a,XU];simp
theorem LP(v:Value)(l:List qa)(hl:l.length≤100000)(G:∀e∈l,Iy e):Ud prog 271 #[v] (Ba 3 v l.length (xc l)) (Wr l) (Ba 3 v l.length (xc l)):=by
 intro w o r0 F;have I:=TZ F;obtain⟨hlen,A,c,rfl,_⟩:=I.sl v;have i:=Wz (O A l.length c) l (by omega);have t4:=Pg l.length 4 (by omega) (by omega) (by omega);have hw:IntKind.u64.wrap (l.length:Int)=(l.length:Int):=by rw[pU];omega
 have T:(put l.length 4).length=4:=Jb _ _;have a6:(⟨#[112,116,97,98]⟩:ByteArray)=mk [112,116,97,98]:=rfl;clear F hlen;cases a:ub l with
 |false=>have q:Hid (Wr l= .tuple #[Ha [],Z 2]):=V (by unfold Wr;rw[a];rfl);rw[a]at i;clear a;go_enter func271,ntmps271;go_wp2_with fail;refine I.k1 i fun w1 J=> ?_;go_wp2;go_ret2;exact⟨by rw[q.out];rfl,J.ya⟩
 |true=>
  have q:Hid (Wr l= .tuple #[Ha (Tb l),Z 0]):=V (by unfold Wr;rw[a];rfl);rw[a]at i;have Q:=V G;clear a G;go_enter func271,ntmps271;go_wp2_with fail;refine I.k1 i fun w1 J=> ?_;go_wp2_with fail;refine J.kp t4 fun w2 C=> ?_;obtain⟨c2,w3,m,r⟩:=C.WR (112::116::97::98::put l.length 4);have t:Fh l 0=112::116::97::98::put l.length 4:=by unfold Fh;simp
  have h:(112::116::97::98::put l.length 4).length=8:=by simp[Jb]
  generalize w2.heap.size=g2 at*;rw[h]at m r;go_wp2_with fail;go_loopw [19,4] (fun y yb wr=>∃k:Nat,k≤l.length∧y=Z k∧∃B d,yb=O B (Fh l k).length d∧Y w o r0 (Al (O B (Fh l k).length d) (Fh l k)*Fg A l c) wr) (fun y _ _=>l.length-(intOf y).toNat);case atStart=>exact⟨0,WT _,rfl,some ⟨g2,0,none⟩,c2,by rw[t,h],by rw[t,h];exact r.ya⟩
  case round=>
   obtain⟨k,X,rfl,B,d,rfl,K⟩:=hrel;clear J C r m t h t4 T;by_cases f:k<l.length
   ·obtain⟨g,off,rfl,W,j,u⟩:=K.we A c l Ld k f (by decide);have d0:=j _ rfl;have d1:=u 1 _ rfl;have d2:=u 2 _ rfl;have he:=Q.out _ (XT f);have t182:=fG l[k] ⟨he.Qa,he.Qb,he.pos⟩;have p:=DD l f;have n:=my l X;have L:=rh l[k];have z:=V p;have HL:=V n;have H:(Fh l k).length+(Nf l[k]).length≤1000000000:=by omega
    clear u j p n he;generalize Fh l k=N at*;generalize Nf l[k]=S at*;generalize l[k]=x at*;have D:=K.Wa (.cells #[Pa x.Qa,Z x.Qb,Z x.pos] 126) wr.heap.size rfl;unfold bj at t182;clear I K;go_wp2_with fail;refine D.kp t182 fun w5 s=> ?_;clear D;go_wp2_with (at_builtin;go_loud (refine rv (v:=O B N.length d) (b:=N) S s rfl rfl rfl rfl H ?_);intro P E w6 R);go_roundw;case rel=>exact⟨k+1,by omega,by go_num,P,E,by rw[z.out,CT,L],by rw[z.out];exact R.ya⟩
    case measure=>simp[intOf];omega
   ·have M:k=l.length:=by omega
    subst M;obtain⟨_,_,U,a1⟩:=K.VR (v:=O B (Fh l l.length).length d) (b:=Fh l l.length);clear U;have t139:=nr (Fh l l.length) (by rw[my l (FT _)];omega);rw[DF]at t139;clear I;go_wp2_with fail;refine K.kp t139 fun w5 s=> ?_;go_wp2;go_ret2;exact⟨by rw[q.out];rfl,s.ya⟩
def rQ(o:Option (List qa))(v:Value):Value:=if o.isSome then .tuple #[v,Z 0]else .tuple #[O none 0 0,Z 90]
def qQ(o:Option (List qa))(v:Value):aa:=match o with
 |none=>aa.emp
 |some l=>ua 126 3 v l.length (xc l)
theorem le_empty(S:aa):aa.le S aa.emp:=⟨fun {_ _ _} _=>⟨_,_,⟨trivial,fun _ h=>h,fun _ h=>h⟩,fun _ h=>h.elim,fun _ h=>h.elim⟩⟩
theorem Ur{n:Nat}{s:Bs}:Zd (n+1) s=match vj (s.take 24)with
 |none=>none
 |some e=>(Zd n (s.drop 24)).map (e:: ·):=rfl
theorem yA{s:Bs}{e:qa}(h:vj s=some e):Iy e:=by
 unfold vj at h;split at h
 ·cases h
 ·rename_i a;split at h
  ·cases h
  ·rename_i hb;cases h;refine⟨?_,?_,?_⟩
   ·have:=Sh (s.take 8);rw[OT]at this;exact aV this (KT (XV (by omega) (show min 8 s.length≤8 by omega)) (by omega))
   ·simp only;omega
   ·simp only;omega
theorem mH(s:Bs)(hs:s.length≤2000000):Tr prog 244 #[.string (mk s)] aa.emp (fun v:Value=>rQ (mf s) v) (fun v=>qQ (mf s) v):=by
 intro w o r h0;have I:=TZ h0;have t98:=iB s (by omega);have H:∀W:World,Y w o r aa.emp W→mf s=none→∃x:Value,Ending.returned (.tuple #[.slice none 0 0,.int .i64 90])=Ending.returned (rQ (mf s) x)∧Y w o r (qQ (mf s) x) W:=fun W hW h=>⟨undef,by rw[h];rfl,by rw[h];exact hW⟩;have M:=V H;clear h0 H;have cn:(⟨#[112,116,97,98]⟩:ByteArray)=mk [112,116,97,98]:=rfl;cases d:Eg s with
 |none=>have C:Hid (mf s=none):=V (by unfold mf;rw[d]);rw[d]at t98;unfold Mx at t98;dsimp only at t98;clear d;go_enter func244,ntmps244;go_wp2_with fail;refine I.kp t98 fun U J=> ?_;go_wp2_with fail;go_ret2;exact M.out _ J C.out
 |some t=>
  have L:mf s=if t.length<8∨t.take 4≠Hi then none else
   if(t.drop 8).length≠num ((t.drop 4).take 4)*24 then none else
   match Zd (num ((t.drop 4).take 4)) (t.drop 8)with
   |none=>none
   |some l=>if ub l then some l else none:=by unfold mf;rw[d];rfl
  have ct:t.length≤2000000:=by
   unfold Eg at d;split at d
   ·cases d
   ·split at d
    ·cases d;rw[OT];omega
    ·cases d
  rw[d]at t98;unfold Mx at t98;dsimp only at t98;have i:=V L;clear d L;by_cases h8:t.length<8
  ·have C:Hid (mf s=none):=V (by rw[i.out,JT (.inl h8)]);have R:(t.length:Int)<8:=by omega
   clear i;go_enter func244,ntmps244;go_wp2_with fail;refine I.kp t98 fun U J=> ?_;go_wp2_with fail;go_ret2;exact M.out _ J C.out
  ·have R:¬ ((t.length:Int)<8):=by omega
   have ca:∀w,(Instr.slice 9 (.string (mk t)) none (some (.int .i64 4)) none).run prog w= .ok (.string (mk (t.take 4))) w:=jm (by omega) (by congr 1<;>omega);by_cases B:t.take 4=Hi
   ·have F:=i.out;rw[DT (fun h=>h.elim h8 (fun h=>h B))]at F;have b5:(t.take 4==[112,116,97,98])=true:=by rw[B];rfl
    have P:=V F;clear i F;have cb:∀w,(Instr.slice 9 (.string (mk t)) (some (.int .i64 4)) (some (.int .i64 8)) none).run prog w= .ok (.string (mk ((t.drop 4).take 4))) w:=Vh (by omega) (by congr 2<;>omega);have cc:∀w,(Instr.slice 9 (.string (mk t)) (some (.int .i64 8)) none none).run prog w= .ok (.string (mk (t.drop 8))) w:=qm (by omega) (by congr 1<;>omega);have t97:=tq ((t.drop 4).take 4) (by rw[OT];omega);have ak:((t.drop 4).take 4).length=4:=by rw[OT,cU];omega
    rw[YT (l:=(t.drop 4).take 4) (by rw[OT];omega)]at t97;have av:num ((t.drop 4).take 4)<4294967296:=by have:=Sh ((t.drop 4).take 4);rw[ak]at this;exact this
    have b9:(t.drop 8).length≤2000000:=by rw[cU];omega
    generalize num ((t.drop 4).take 4)=a at*;generalize(t.drop 4).take 4=t48 at*;generalize t.take 4=t4 at*;generalize t.drop 8=rest at*;have bc:IntKind.u64.wrap (rest.length:Int)=(rest.length:Int):=by rw[pU];omega
    have aq:IntKind.u64.wrap ((a:Int)*24)=(a:Int)*24:=by rw[pU];omega
    clear ak B;by_cases X:rest.length=a*24
    ·have T:((rest.length:Int)==(a:Int)*24)=true:=by rw[OV];omega
     have E:(rest.length:Int)=(a:Int)*24:=by omega
     have a7:mf s=match(Zd (a-0) (rest.drop (0*24))).map ([]++ ·)with|none=>none|some l=>if ub l then some l else none:=by rw[P.out,DT (by omega),FW,yY];cases Zd a rest<;>rfl
     have a1:=V a7;have Hr:=V X;have b7:a≤100000:=by omega
     have a8:(⟨#[]⟩:ByteArray)=mk []:=rfl;obtain⟨i0,hi,bf,bm,bn⟩:=info_parts Pm;clear P a7 X av b9 bc;go_enter func244,ntmps244;go_wp2_with fail;refine I.kp t98 fun U J=> ?_;go_wp2_with fail;refine(t97 _).mono ?_;rintro e w2 ⟨rfl,m,rfl⟩;go_wp2_with fail;have J3:Y w o r (ua 126 3 (.slice none 0 0) ([]:List qa).length (xc [])) (U.drewN m):=(J.drewN m).le (KZ (le_empty _) (j0 126 3));go_loopw [7,8] (fun y z wr=>∃k:Nat,k≤a∧y= .string (mk (rest.drop (k*24)))∧∃ (acc:List qa) (A:Option Addr) (c:Nat),z= .slice A acc.length c∧acc.length=k∧Hid (mf s=match(Zd (a-k) (rest.drop (k*24))).map (acc++ ·)with|none=>none|some l=>if ub l then some l else none)∧Y w o r (ua 126 3 (.slice A acc.length c) acc.length (xc acc)) wr) (fun y _ _=>gy y);case atStart=>exact⟨0,WT _,by rw[FZ,FW],[],none,0,rfl,rfl,a1,J3⟩
     case round=>
      obtain⟨k,hk,rfl,acc,A,c,rfl,G,N,K⟩:=hrel;clear J J3 a1;have q:(rest.drop (k*24)).length=(a-k)*24:=by rw[cU,Hr.out];omega
      by_cases cl:k<a
      ·have aj:(rest.drop (k*24)==[])=false:=by rw[ET];intro h;rw[h]at q;simp only[JU]at q;omega
       have bt:¬ (rest.drop (k*24)=[]):=ET.1 aj;have al:k+1≤100000:=by omega
       have c9:Hid (k+1≤100000):=V al;clear al;have an:(rest.drop ((k+1)*24))=(rest.drop (k*24)).drop 24:=by rw[jV];congr 1;omega
       have b:=N.out;rw[show a-k=(a-(k+1))+1 by omega,Ur]at b;have a6:=V an;clear an;generalize rest.drop (k*24)=g at*;have cp:24≤g.length:=by omega
       have aM:g.length≤2400000:=by omega
       have t154:=eG (g.take 24) (by rw[OT];omega);have cf:∀w,(Instr.slice 9 (.string (mk g)) none (some (.int .i64 24)) none).run prog w= .ok (.string (mk (g.take 24))) w:=jm (by omega) (by congr 1<;>omega);have ch:∀w,(Instr.slice 9 (.string (mk g)) (some (.int .i64 24)) none none).run prog w= .ok (.string (mk (g.drop 24))) w:=qm (by omega) (by congr 1<;>omega);have ck:(g.drop 24).length<g.length:=by rw[cU];omega
       generalize g.take 24=bs at*;generalize g.drop 24=sd at*;have S:acc.length+1≤1000000000:=by omega
       have HA:=V G;have b0:=V S;have HX:Hid (a-k-1=a-(k+1)):=V (by omega);clear q G I aM S aq T E R a8 t97;cases he:vj bs with
       |none=>rw[he]at t154 b;unfold Li at t154;dsimp only at t154 b;have n:=V b;clear he b N;go_wp2_with fail;refine K.kp t154 fun u p=> ?_;have Q:=p.Wa (.cells #[.int .u64 0,.int .i64 0,.int .i64 0] 126) u.heap.size rfl;go_wp2_with fail;go_ret2;exact M.out _ (Q.le (le_empty _)) n.out
       |some x=>
        rw[he]at t154 b;unfold Li bj at t154;dsimp only at t154 b;have f:mf s=match(Zd (a-(k+1)) sd).map ((acc++[x])++ ·)with|none=>none|some l=>if ub l then some l else none:=by rw[b,Option.map_map];congr 1;cases Zd (a-(k+1)) sd<;>simp
        have n:=V f;clear he b N f;go_wp2_with fail;refine K.kp t154 fun u p=> ?_;have Q:=p.Wa (.cells #[.int .u64 x.Qa,.int .i64 x.Qb,.int .i64 x.pos] 126) u.heap.size rfl;go_upto_region 14 with(fail);obtain⟨c0,c1,c2⟩:=Q.c3 u.heap.size;obtain⟨f0,f1,f2⟩:=Q.f3 u.heap.size;generalize u.alloc (.cells #[.int .u64 x.Qa,.int .i64 x.Qb,.int .i64 x.pos] 126)=W5 at*;clear K p;go_wp2_with (at_builtin;go_loud (refine Oa (v:=.slice A acc.length c) (Ku x) 1 Q rfl rfl underlying137 hi bf bm rfl rfl rfl rfl (Im x) b0.out (by rw[bn];omega) ?_);intro A' c' w6 K4);go_roundw;case rel=>
         refine⟨k+1,by omega,by rw[a6.out],acc++[x],A',c',by rw[CT];rfl,by rw[CT,HA.out];rfl,by rw[a6.out];exact n,?_⟩;have e1:(acc++[x]).length=acc.length+1:=by simp
         have e2:xc (acc++[x])=xc acc++Ku x:=by simp[xc]
         rw[e1,e2];exact K4.ya
        case measure=>simp[gy];omega
      ·have b6:k=a:=by omega
       subst b6;have b:=N.out;rw[AW]at b;have D:rest.drop (k*24)=[]:=uU (by rw[q,AW,FZ]);have f:mf s=if ub acc then some acc else none:=by rw[b];rw[show Zd 0 (rest.drop (k*24))=some [] by rw[D];rfl];show(match some (acc++[])with|none=>none|some l=>if ub l then some l else none)=_;rw[EU]
       rw[D];have t278:=Wz (.slice A acc.length c) acc (by omega);have HA:=V G;clear q b N G b7 aq T E R a8 t97 D;cases j:ub acc with
       |true=>have n:Hid (mf s=some acc):=V (by rw[f,j];rfl);rw[j]at t278;clear f j;go_wp2_with fail;refine(K.Wu (wc _) (j5 _ _ _ _) t278).mono ?_;rintro e u ⟨rfl,p⟩;go_wp2_with fail;go_ret2;exact⟨.slice A acc.length c,by rw[n.out];rfl,by rw[n.out];exact p⟩
       |false=>have n:Hid (mf s=none):=V (by rw[f,j];rfl);rw[j]at t278;clear f j;go_wp2_with fail;refine(K.Wu (wc _) (j5 _ _ _ _) t278).mono ?_;rintro e u ⟨rfl,p⟩;go_wp2_with fail;go_ret2;exact M.out _ (p.le (le_empty _)) n.out
    ·have C:Hid (mf s=none):=V (by rw[P.out,JT X]);have T:((rest.length:Int)==(a:Int)*24)=false:=by rw[ET];omega
     have E:¬ ((rest.length:Int)=(a:Int)*24):=by omega
     clear X;go_enter func244,ntmps244;go_wp2_with fail;refine I.kp t98 fun U J=> ?_;go_wp2_with fail;refine(t97 _).mono ?_;rintro e w2 ⟨rfl,m,rfl⟩;go_wp2_with fail;go_ret2;exact M.out _ (J.drewN m) C.out
   ·have C:Hid (mf s=none):=V (by rw[i.out,JT (.inr B)]);have b5:(t.take 4==[112,116,97,98])=false:=by rw[ET];exact B
    have aj:¬ (t.take 4=[112,116,97,98]):=B;clear i B;generalize t.take 4=t4 at*;go_enter func244,ntmps244;go_wp2_with fail;refine I.kp t98 fun U J=> ?_;go_wp2_with fail;go_ret2;exact M.out _ J C.out
def Yk(l:List qa)(i:Nat):List Value:=Ku (l.getD i ⟨0,0,0⟩)++[Z i]
theorem DL(l:List qa)(i:Nat):(Yk l i).length=4:=rfl
theorem tO:(prog.info? 272).map (fun i=>(i.zero,i.size,i.bytes))=some (some (.agg #[Pa 0,Z 0,Z 0,Z 0]),4,32):=by kernel_rfl
theorem GL(v:Value)(l:List qa)(hl:l.length≤100000):Tr prog 252 #[v] (Ba 3 v l.length (xc l)) (fun q:Value×List Nat=>q.1) (fun q=>aa.pure (q.2.length≤l.length∧∀i∈q.2,i<l.length)*(ua 272 4 q.1 q.2.length (q.2.flatMap (Yk l))*Ba 3 v l.length (xc l))):=by
 intro w o r N;have I:=TZ N;obtain⟨_,A,c,rfl,_⟩:=I.sl v;obtain⟨i0,hi,s,t,z⟩:=info_parts tO;have L:Y w o r (ua 272 4 (O none 0 0) ([]:List Nat).length (([]:List Nat).flatMap (Yk l))*Fg A l c) w:=I.le (KZ (RZ trivial) (MZ (j0 272 4) (JZ _)));clear N I;go_enter func252,ntmps252;go_wp2_with fail;go_loopw [3,8] (fun y x wr=>∃ (k:Nat) (ms:List Nat) (b:Option Addr) (d:Nat),k≤l.length∧x=Z k∧ms.length≤k∧(∀i∈ms,i<l.length)∧y=O b ms.length d∧Y w o r (ua 272 4 (O b ms.length d) ms.length (ms.flatMap (Yk l))*Fg A l c) wr) (fun _ x _=>l.length-(intOf x).toNat);case atStart=>exact⟨0,[],none,0,by omega,rfl,by simp,by simp,rfl,L⟩
 case round=>
  obtain⟨k,ms,b,d,hk,rfl,p,a,rfl,J⟩:=hrel;clear L;have M:Y w o r (Fg A l c) wr:=J.le (KZ NZ QZ);by_cases f:k<l.length
  ·obtain⟨g,off,rfl,a7,n,F⟩:=M.we A c l Ld k f (by decide);have U:=n _ rfl;have X:=F 1 _ rfl;have c2:=F 2 _ rfl;have j:Yk l k=[Pa l[k].Qa,Z l[k].Qb,Z l[k].pos,Z k]:=by simp[Yk,kU,PT f,Ku]
   have T:=V j;generalize l[k]=x at*;have e:=J.Wa (.cells #[Pa x.Qa,Z x.Qb,Z x.pos] 126) wr.heap.size rfl;have Q:ms.length+1≤1000000000:=by omega
   have H:=V Q;have G:=V a;have a8:(k:Int)% 8=((k % 8:Nat):Int):=by omega
   have a1:Int.tmod (k:Int) 8=((k % 8:Nat):Int):=by rw[cV (by omega)];omega
   clear F n M j a J;have R:(k:Int)<(l.length:Int):=by omega
   have m:∀i∈ms++[k],i<l.length:=fun i hi=>by
    rcases oU.1 hi with h|h
    ·exact G.out i h
    ·rw[lU.1 h];exact f
   have K:=V m;clear m;have Qe:∀ (C:Option Addr) (c3:Nat) (W:World),Y w o r (ua 272 4 (O C (ms.length+1) c3) (ms.length+1) (ms.flatMap (Yk l)++Yk l k)*Fg (some ⟨g,off,none⟩) l c) W→Y w o r (ua 272 4 (O C (ms++[k]).length c3) (ms++[k]).length ((ms++[k]).flatMap (Yk l))*Fg (some ⟨g,off,none⟩) l c) W:=fun C c3 W h=>by
    have e1:(ms++[k]).length=ms.length+1:=by simp
    have e2:(ms++[k]).flatMap (Yk l)=ms.flatMap (Yk l)++Yk l k:=by simp
    rw[e1,e2];exact h
   have D:=V Qe;clear Qe;go_upto_region 5 with(fail);obtain⟨U,X,c2⟩:=e.c3 wr.heap.size;obtain⟨f0,f1,f2⟩:=e.f3 wr.heap.size;generalize wr.alloc (.cells #[Pa x.Qa,Z x.Qb,Z x.pos] 126)=W5 at*;rw[show Yk l k=[Pa x.Qa,Z x.Qb,Z x.pos,Z k] from T.out]at D;generalize k % 8=S at*;have hw:IntKind.i64.wrap ((l.length:Int)-1)=(l.length:Int)-1:=RT _ (by omega);by_cases hq:S=0
   ·subst hq;go_wp2_with (at_builtin;go_loud (refine Oa (v:=O b ms.length d) [Pa x.Qa,Z x.Qb,Z x.pos,Z k] 1 e rfl rfl underlying224 hi s t rfl rfl rfl rfl (by intro u hu;simp only[dU,nV,SW]at hu;rcases hu with rfl|rfl|rfl|rfl<;>rfl) H.out (by rw[z];omega) ?_);intro B c' w6 E);go_roundw;case rel=>exact⟨k+1,ms++[k],B,c',by omega,by go_num,by rw[CT];exact aW p,K.out,by rw[CT];rfl,D.out _ _ _ E.ya⟩
    case measure=>simp[intOf];omega
   ·have a6:((S:Int)==0)=false:=by rw[ET];omega
    by_cases aj:k+1=l.length
    ·have P:((k:Int)==(l.length:Int)-1)=true:=by rw[OV];omega
     go_wp2_with (at_builtin;go_loud (refine Oa (v:=O b ms.length d) [Pa x.Qa,Z x.Qb,Z x.pos,Z k] 1 e rfl rfl underlying224 hi s t rfl rfl rfl rfl (by intro u hu;simp only[dU,nV,SW]at hu;rcases hu with rfl|rfl|rfl|rfl<;>rfl) H.out (by rw[z];omega) ?_);intro B c' w6 E);go_roundw;case rel=>exact⟨k+1,ms++[k],B,c',by omega,by go_num,by rw[CT];exact aW p,K.out,by rw[CT];rfl,D.out _ _ _ E.ya⟩
     case measure=>simp[intOf];omega
    ·have P:((k:Int)==(l.length:Int)-1)=false:=by rw[ET];omega
     go_wp2;go_roundw;case rel=>exact⟨k+1,ms,b,d,by omega,by go_num,by omega,G.out,rfl,e.ya⟩
     case measure=>simp[intOf];omega
  ·have R:¬ ((k:Int)<(l.length:Int)):=by omega
   go_wp2;go_ret;exact⟨_,rfl,ms,J.le (RZ ⟨by omega,a⟩)⟩
theorem uO{e:qa}{l:List qa}(f:ub l=true)(h:e∈l):ins e l=l:=by
 have k:=Dh f;induction l with
 |nil=>cases h
 |cons a r o=>
  have g:=xU.1 k;have d:∀x:qa,de x x=false:=by intro x;unfold de;simp
  rcases dU.1 h with rfl|h
  ·unfold ins;rw[d];simp
  ·have c:=g.1 e h;have m:de e a=false:=by
    cases i:de e a with
    |false=>rfl
    |true=>unfold de at c i;simp only[PU,aU,bU]at c i;omega
   have n:¬e=a:=by rintro rfl;rw[d]at c;cases c
   unfold ins;rw[m,DT (by simp),DT n];have j:ub r=true:=by
    cases r with
    |nil=>rfl
    |cons b r=>simp only[ub,aU]at f;exact f.2
   rw[o j h g.2]
theorem YK{e:qa}:∀ {l:List qa},ub l=true→e∉l→ins e l=l.take (Mf (fun x=>de x e) l)++e::l.drop (Mf (fun x=>de x e) l)
 |[],_,_=>rfl
 |a::r,i,j=>by
  have o:=Dh i;have f:e≠a:=fun h=>j (by rw[h];exact .head _);unfold ins;by_cases c:de e a=true
  ·have g:de a e=false:=by
    cases d:de a e with
    |false=>rfl
    |true=>unfold de at c d;simp only[PU,aU,bU]at c d;omega
   have m:Mf (fun x=>de x e) (a::r)=0:=by simp[Mf,mW,g]
   rw[JT c,m];rfl
  ·have g:de a e=true:=by
    cases d:de a e with
    |true=>rfl
    |false=>exfalso;apply f;unfold de at c d;simp only[PU,aU,bU,OW,oX,pV]at c d;obtain⟨h,v,p⟩:=e;obtain⟨h',s,q⟩:=a;simp only[qa.mk.injEq]at*;omega
   have k:ub r=true:=by
    cases r with
    |nil=>rfl
    |cons b r=>simp only[ub,aU]at i;exact i.2
   have n:Mf (fun x=>de x e) (a::r)=Mf (fun x=>de x e) r+1:=by simp[Mf,mW,g]
   rw[DT c,DT f,n,YK k (fun h=>j (.tail _ h))];rfl
theorem Vm{α:Type}{f:α→List Value}{sz:Nat}(k:∀a,(f a).length=sz){A:Option Addr}{c c':Nat}{l:List α}{m:Nat}(h:m≤l.length):aa.le (Ba sz (O A l.length c) l.length (l.flatMap f)) (Ba sz (O A m c') m ((l.take m).flatMap f)):=by
 have hlen:((l.take m).flatMap f).length=m*sz:=by rw[zg k,OT,QU h]
 have g:∀ (j:Nat) (u:Value),((l.take m).flatMap f)[j]? =some u→(l.flatMap f)[j]? =some u:=by
  intro j u d;have e:l.flatMap f=(l.take m).flatMap f++(l.drop m).flatMap f:=by rw[←XU,tU]
  rw[e,IV (ZU.1 d).1];exact d
 constructor;rintro t o r ⟨i,a2,n,c',a3,a4⟩;have p:A=n:=by injection a3
 subst p;rcases a4 with⟨b1,b3⟩|⟨b,off,cs,e,q,b1,b2,b3,b4⟩
 ·refine⟨o,r,⟨i,hlen,_,_,rfl,.inl ⟨?_,b3⟩⟩,fun _ h=>h,fun _ h=> .inr h⟩;apply uU;have:=eU List.length b1;rw[zg k,JU]at this;rw[hlen];have s:m*sz≤l.length*sz:=mV _ h;omega
 ·exact⟨o,r,⟨i,hlen,_,_,rfl,.inr ⟨b,off,cs,e,q,b1,b2,fun j u d=>b3 j u (g j u d),b4⟩⟩,fun _ h=>h,fun _ h=> .inr h⟩
theorem CA(a b:qa)(w:World):(binOp .eql 126 (.agg #[Pa a.Qa,Z a.Qb,Z a.pos]) (.agg #[Pa b.Qa,Z b.Qb,Z b.pos])).run prog w= .ok (.bool (decide (a=b))) w:=by
 obtain⟨z0,g,z2⟩:=a;obtain⟨d,e,f⟩:=b;dsimp only;have k:decide (qa.mk z0 g z2=⟨d,e,f⟩)=(((z0:Int)==d)&&(((g:Int)==e)&&((z2:Int)==f))):=by rw[RV];simp only[bU,qa.mk.injEq,aU,OV,Int.natCast_inj]
 rw[k];by_cases h:(z0:Int)=d
 ·have c:((z0:Int)==d)=true:=by simpa using h
  by_cases i:(g:Int)=e
  ·have b1:((g:Int)==e)=true:=by simpa using i
   by_cases j:(z2:Int)=f
   ·have b2:((z2:Int)==f)=true:=by simpa using j
    simp only[c,b1,b2];simp[go_sem,c,b1,b2]
   ·have b2:((z2:Int)==f)=false:=by simpa using j
    simp only[c,b1,b2];simp[go_sem,c,b1,b2]
  ·have b1:((g:Int)==e)=false:=by simpa using i
   simp only[c,b1];simp[go_sem,c,b1]
 ·have c:((z0:Int)==d)=false:=by simpa using h
  simp only[c];simp[go_sem,c]
theorem Lj{a b c:qa}(d:de a b=true)(e:de b c=true):de a c=true:=by unfold de at*;simp only[PU,aU,bU]at d e⊢;omega
theorem It(a:qa):de a a=false:=by unfold de;simp
theorem wz{l:List qa}(b:ub l=true)(e:qa):dz (fun x=>de x e) l:=(Dh b).imp fun a hb=>Lj a hb
theorem FO{l:List qa}(d:ub l=true){e:qa}(h:e∈l):∃j:Mf (fun x=>de x e) l<l.length,l[Mf (fun x=>de x e) l]=e:=by
 obtain⟨i,hi,he⟩:=dV h;have f:¬i<Mf (fun x=>de x e) l:=fun a=>by have:de l[i] e=true:=Ij (p:=fun x=>de x e) hi a;rw[he,It]at this;cases this
 have g:¬Mf (fun x=>de x e) l<i:=fun a=>by have b:=yX.1 (Dh d) (Mf (fun x=>de x e) l) i (by omega) hi a;have c:de l[Mf (fun x=>de x e) l] e=false:=Xp (p:=fun x=>de x e) (by omega);rw[he]at b;rw[b]at c;cases c
 have:i=Mf (fun x=>de x e) l:=by omega
 exact⟨by omega,by simp only[←this];exact he⟩
theorem CO(b:Nat)(l:List qa)(e:qa)(hl:l.length≤10000000)(hs:ub l=true):Tr prog 183 #[Da b,bj e] (gh b l) (fun q:Bool=> .bool q) (fun _=>gh b (ins e l)):=by
 intro w o L h0;obtain⟨A,c,I0⟩:=(TZ h0).mem b l;have I:=I0.new (.cells #[Pa e.Qa,Z e.Qb,Z e.pos] 126);have t:=Vn b (O A l.length c);have t2:=Zu (O A l.length c) l e.Qa e.Qb (by omega) hs;have a1:=I0.Cn (n:=l.length) (A:=A) (c:=c);have ck:b≠w.heap.size:=I.ne b w.heap.size;clear h0 I0;unfold bj;go_enter func183,ntmps183;go_wp2_with fail;refine Y.ka I t fun m=> ?_;have I1:=I.drewN m;have J1:=I1;generalize hW:(w.alloc (.cells #[Pa e.Qa,Z e.Qb,Z e.pos] 126)).drewN m=W at*;have y:World.cell? _ _=some _:=YZ I1 w.heap.size 0;have z:World.cell? _ _=some _:=YZ I1 w.heap.size 1;have c2:World.cell? _ _=some _:=YZ I1 w.heap.size 2;have q0:=IT y;have q1:=IT z;have q2:=IT c2;have b1:World.cell? _ _=some _:=YZ I1 b 1;have aj:=IT b1;go_wp2_with fail;have t3:=fun(W':World) (ca:Below W.heap.size W W')=>Y.Oz I1 (wc (O A l.length c)) (j5 _ _ _ _) t2 ca;refine OU (by kernel_rfl) (by kernel_rfl) ?_;repeat (quiet_step ((first|(go_at_call 146;refine gU (t3 _ (jU _ _ _))))))
 refine fU ?_;first|(rintro _ ⟨u,rfl⟩)|(intro u)
 have M:=jU W u.d u.os;generalize Go.Sort.grow (redrawn W u.d) u.os=wq at*;clear u;have ch:=Ci (Mb e.Qa e.Qb) l;have cf:=Ci (fun x=>de x e) l;have c9:Mf (Mb e.Qa e.Qb) l≤Mf (fun x=>de x e) l:=by
  apply YU;intro hn;have hlen:Mf (fun x=>de x e) l<l.length:=by omega
  have j:=Cj.1 (Ij (p:=Mb e.Qa e.Qb) (l:=l) (i:=Mf (fun x=>de x e) l) hlen (by omega));have h2:de (l[Mf (fun x=>de x e) l]'hlen) e=false:=Xp (p:=fun x=>de x e) hlen;generalize(l[Mf (fun x=>de x e) l]'hlen)=x at j h2;unfold de at h2;simp only[OW,oX,pV]at h2;omega
 have aM:∀i (hi:i<l.length),i<Mf (fun x=>de x e) l→de l[i] e=true:=fun i hi h=>Ij (p:=fun x=>de x e) hi h;have bt:∀i (hi:i<l.length),i=Mf (fun x=>de x e) l→de l[i] e=false:=fun i hi h=>by subst h;exact Xp (p:=fun x=>de x e) hi
 have b6:e∈l→∃hE:Mf (fun x=>de x e) l<l.length,l[Mf (fun x=>de x e) l]=e:=FO hs;have a6:e∈l→ins e l=l:=uO hs;have b7:e∉l→ins e l=l.take (Mf (fun x=>de x e) l)++e::l.drop (Mf (fun x=>de x e) l):=YK hs;generalize Mf (Mb e.Qa e.Qb) l=K at*;generalize Mf (fun x=>de x e) l=E at*;have HL:=V aM;have HG:=V bt;have HM:=V b6;have HI:=V a6;have HO:=V b7;have J:Y w o L (ba w.heap.size 126 #[Pa e.Qa,Z e.Qb,Z e.pos]*(ba b 183 #[.bool true,O A l.length c]*Dk A l c)) wq:=(I1.below M).ya;have T:∀x:qa,Pu prog 150 #[bj x,bj e] (.bool (de x e)):=fun x=>Tt x e;unfold bj at T;clear t t2 t3 q0 q1 q2 y z c2 b1 aj I I1 J1 hW hs aM bt b6 a6 b7 M;generalize hB:w.heap.size=B at*;go_wp2_with fail;go_loopw [5] (fun x wr=>∃m:Nat,K≤m∧m≤E∧x=Z m∧Y w o L (ba B 126 #[Pa e.Qa,Z e.Qb,Z e.pos]*(ba b 183 #[.bool true,O A l.length c]*Dk A l c)) wr) (fun x _=>E-(intOf x).toNat);case atStart=>exact⟨K,FT _,c9,rfl,J⟩
 case round=>
  obtain⟨m,cl,cn,rfl,J⟩:=hrel;have b1:World.cell? _ _=some _:=YZ J b 1;have y:World.cell? _ _=some _:=YZ J B 0;have z:World.cell? _ _=some _:=YZ J B 1;have c2:World.cell? _ _=some _:=YZ J B 2;have aj:=IT b1;have q0:=IT y;have q1:=IT z;have q2:=IT c2;by_cases aM:m<E
  ·have N:m<l.length:=by omega
   obtain⟨g,off,hA,_,G,Q⟩:=(J.le (wc (O A l.length c))).we A c l Ld m N (by decide);subst hA;have x0:=G _ rfl;have x1:=Q 1 _ rfl;have x2:=Q 2 _ rfl;have p0:=IT x0;have p1:=IT x1;have p2:=IT x2;clear G Q;have hz:=HL.out m N aM;have T:=T l[m];rw[hz]at T;generalize l[m]=x at*;clear hz;go_wp2_with fail;refine OU (by kernel_rfl) (by kernel_rfl) ?_;repeat (quiet_step ((first|(go_at_call 150;refine gU (T _)))))
   refine fU ?_;first|(rintro _ ⟨u,rfl⟩)|(intro u)
   have M:=jU wr u.d u.os;generalize Go.Sort.grow (redrawn wr u.d) u.os=wq at*;clear u;have H:=J.below M;clear q0 q1 q2 y z c2 b1 aj x0 x1 x2 p0 p1 p2 T M;go_wp2;go_roundw;case rel=>exact⟨m+1,by omega,by omega,by go_num,H⟩
   case measure=>simp[intOf];omega
  ·obtain rfl:m=E:=by omega
   by_cases N:m<l.length
   ·obtain⟨g,off,hA,_,G,Q⟩:=(J.le (wc (O A l.length c))).we A c l Ld m N (by decide);subst hA;have x0:=G _ rfl;have x1:=Q 1 _ rfl;have x2:=Q 2 _ rfl;have p0:=IT x0;have p1:=IT x1;have p2:=IT x2;clear G Q;have hz:=HG.out m N rfl;have T:=T l[m];rw[hz]at T;have heq:=CA l[m] e;have av:(l[m]=e∧e∈l)∨(¬l[m]=e∧e∉l):=by
     by_cases h:l[m]=e
     ·exact .inl ⟨h,by rw[←h];exact XT N⟩
     ·exact .inr ⟨h,fun hm=>h (by obtain⟨_,h2⟩:=HM.out hm;exact h2)⟩
    generalize b0:l[m]=x at*;have bf:=V b0;clear hz b0;go_wp2_with fail;refine OU (by kernel_rfl) (by kernel_rfl) ?_;repeat (quiet_step ((first|(go_at_call 150;refine gU (T _)))))
    refine fU ?_;first|(rintro _ ⟨u,rfl⟩)|(intro u)
    have M:=jU wr u.d u.os;generalize Go.Sort.grow (redrawn wr u.d) u.os=wq at*;clear u;have H:=J.below M;clear q0 q1 q2 y z c2 b1 aj x0 x1 x2 p0 p1 p2 T M;have b1:World.cell? _ _=some _:=YZ H b 1;have y:World.cell? _ _=some _:=YZ H B 0;have z:World.cell? _ _=some _:=YZ H B 1;have c2:World.cell? _ _=some _:=YZ H B 2;obtain⟨g',cc,hA,_,G,Q⟩:=(H.le (wc (O (some ⟨g,off,none⟩) l.length c))).we (some ⟨g,off,none⟩) c l Ld m N (by decide);cases hA;rw[bf.out]at G Q;have x0:=G _ rfl;have x1:=Q 1 _ rfl;have x2:=Q 2 _ rfl;clear G Q;have bn:∀W,Y w o L (ba B 126 #[Pa e.Qa,Z e.Qb,Z e.pos]*(ba b 183 #[.bool true,O (some ⟨g,off,none⟩) l.length c]*Dk (some ⟨g,off,none⟩) l c)) W→W.cell? ⟨b,1,none⟩=some (O (some ⟨g,off,none⟩) l.length c)∧W.cell? ⟨B,0,none⟩=some (Pa e.Qa)∧W.cell? ⟨B,1,none⟩=some (Z e.Qb)∧W.cell? ⟨B,2,none⟩=some (Z e.pos):=fun W h=>⟨h.cells b 1,h.cells B 0,h.cells B 1,h.cells B 2⟩;have bs:∀d,decide (x=e)=d→d=true∧x=e∧e∈l∨d=false∧e∉l:=by
     rintro d rfl;rcases av with⟨j,h2⟩|⟨j,h2⟩
     ·exact .inl ⟨by simpa using j,j,h2⟩
     ·exact .inr ⟨by simpa using j,h2⟩
    generalize decide (x=e)=d at*;have HC:=V (bs d rfl);have bm:=bn _ H.drew;clear av bs bn;go_wp2_with fail;refine Gb (fun W=>(W.cell? ⟨b,1,none⟩=some (O (some ⟨g,off,none⟩) l.length c)∧W.cell? ⟨B,0,none⟩=some (Pa e.Qa)∧W.cell? ⟨B,1,none⟩=some (Z e.Qb)∧W.cell? ⟨B,2,none⟩=some (Z e.pos))∧W.cell? ⟨g,off+m*3,none⟩=some (Pa x.Qa)∧W.cell? ⟨g,off+m*3+1,none⟩=some (Z x.Qb)∧W.cell? ⟨g,off+m*3+2,none⟩=some (Z x.pos)) (fun a b=>a=b) [0,1,2,3,4,5,6,7,8,9,10,11,12,13,14,15,16,17] [] [] (fun _=>rfl) (fun _ _ _ h k=>Eq.trans h k) (fun _ _ h e=>e▸h) (by kernel_rfl) (by kernel_rfl) (fun _ _ _ _ _ h=>h) ⟨bm,x0,x1,x2⟩ ?_;simp only[QT,VT,MT,NT];iterate 18 (first|(refine db (by rfl) (fun K f=> ?_);go_simp;refine f _ ?_;clear f K)|(refine gb (by rfl) (fun K f=> ?_);apply Exists.intro;refine⟨fun w hw=> ?_,?_⟩;(next=>(first|(go_simp;rfl)|(obtain⟨⟨b1,y,z,c2⟩,x0,x1,x2⟩:=hw;go_simp;rfl)|(obtain⟨⟨b1,y,z,c2⟩,x0,x1,x2⟩:=hw;go_simp;done)));go_simp;refine f _ ?_;clear f K))
    refine Eb ?_;intro U r;subst r;unfold Sb;have s:=H.drew;generalize wq.drew=wp at*;clear b1 y z c2 x0 x1 x2 bm heq;rcases HC.out with⟨rfl,b0,a6⟩|⟨rfl,an⟩
    ·have HH:=V (HI.out a6);clear b0 a6;go_wp2;go_ret;refine⟨.inl rfl,?_⟩;rw[HH.out];exact(s.le (KZ NZ QZ)).le Vo
    ·clear HC bf;obtain⟨i0,hi,a7,S,a8⟩:=info_parts Pm;have b9:∀w,(Instr.sliceAt 137 (O (some ⟨g,off,none⟩) l.length c) none (some (Z m)) (some (Z m))).run prog w= .ok (O (some ⟨g,off,none⟩) m m) w:=fun w=>(cg underlying137 hi (some ⟨g,off,none⟩) l.length c 0 m m (WT _) (FT _) (by omega)).2.1;obtain⟨vS,bc,al⟩:∃vS,(∀w,(Instr.sliceAt 137 (O (some ⟨g,off,none⟩) l.length c) (some (Z m)) none none).run prog w= .ok vS w)∧aa.le (Fg (some ⟨g,off,none⟩) l c) (Ba 3 vS (l.length-m) (xc (l.drop m))):=by have:=BF Ld (A:=(some ⟨g,off,none⟩)) (c:=c) (l:=l) (lo:=m) (hi:=l.length) (by omega) (FT _) a1;rw[YT (by rw[cU];exact FT _)]at this;refine⟨_,fun w=>(cg (P:=prog) (w:=w) underlying137 hi (some ⟨g,off,none⟩) l.length c m l.length c (by omega) (by omega) (FT _)).2.2.2.2 (by omega) a1,?_⟩;rw[S];exact this
     have ak:aa.le (Fg (some ⟨g,off,none⟩) l c) (Ba 3 (O (some ⟨g,off,none⟩) m m) m (xc (l.take m))):=Vm Ld (by omega);have KO:Hid (∀ (W:World) (X:aa),Y w o L (X*(ba B 126 #[Pa e.Qa,Z e.Qb,Z e.pos]*(ba b 183 #[.bool true,O (some ⟨g,off,none⟩) l.length c]*Dk (some ⟨g,off,none⟩) l c))) W→Y w o L (ba B 126 #[Pa e.Qa,Z e.Qb,Z e.pos]*(ba b 183 #[.bool true,O (some ⟨g,off,none⟩) l.length c]*Dk (some ⟨g,off,none⟩) l c)) W∧W.cell? ⟨b,1,none⟩=some (O (some ⟨g,off,none⟩) l.length c)∧W.cell? ⟨B,0,none⟩=some (Pa e.Qa)∧W.cell? ⟨B,1,none⟩=some (Z e.Qb)∧W.cell? ⟨B,2,none⟩=some (Z e.pos)∧W.frozen? ⟨b,1,none⟩=false):=V fun W X h=>by have j:=h.le (KZ NZ QZ);exact⟨j,j.cells b 1,j.cells B 0,j.cells B 1,j.cells B 2,j.free b 1⟩
     have KA:Hid (∀ (W:World) (C:Obj),Y w o L (ba B 126 #[Pa e.Qa,Z e.Qb,Z e.pos]*(ba b 183 #[.bool true,O (some ⟨g,off,none⟩) l.length c]*Dk (some ⟨g,off,none⟩) l c)) W→Y w o L (ba B 126 #[Pa e.Qa,Z e.Qb,Z e.pos]*(ba b 183 #[.bool true,O (some ⟨g,off,none⟩) l.length c]*Dk (some ⟨g,off,none⟩) l c)) (W.alloc C)∧(W.alloc C).cell? ⟨b,1,none⟩=some (O (some ⟨g,off,none⟩) l.length c)∧(W.alloc C).cell? ⟨B,0,none⟩=some (Pa e.Qa)∧(W.alloc C).cell? ⟨B,1,none⟩=some (Z e.Qb)∧(W.alloc C).cell? ⟨B,2,none⟩=some (Z e.pos)∧(W.alloc C).frozen? ⟨b,1,none⟩=false):=V fun W C h=>by have j:=h.alloc C;exact⟨j,j.cells b 1,j.cells B 0,j.cells B 1,j.cells B 2,j.free b 1⟩
     have b1:World.cell? _ _=some _:=YZ s b 1;have y:World.cell? _ _=some _:=YZ s B 0;have z:World.cell? _ _=some _:=YZ s B 1;have c2:World.cell? _ _=some _:=YZ s B 2;have b5:=Y.free s b 1;go_wp2_with fail;have F:=KO.out _ aa.emp (s.drew.le (KZ (RZ trivial) (JZ _)));refine Gb (fun W=>Y w o L (ba B 126 #[Pa e.Qa,Z e.Qb,Z e.pos]*(ba b 183 #[.bool true,O (some ⟨g,off,none⟩) l.length c]*Dk (some ⟨g,off,none⟩) l c)) W∧W.cell? ⟨b,1,none⟩=some (O (some ⟨g,off,none⟩) l.length c)∧W.cell? ⟨B,0,none⟩=some (Pa e.Qa)∧W.cell? ⟨B,1,none⟩=some (Z e.Qb)∧W.cell? ⟨B,2,none⟩=some (Z e.pos)∧W.frozen? ⟨b,1,none⟩=false) (fun a b=>a=b) [0,1,2,3,4,5,6,7,8,11,12,13,14,15,16] [9,10,17] [18,19,20] (fun _=>rfl) (fun _ _ _ h k=>Eq.trans h k) (fun _ _ h e=>e▸h) (by kernel_rfl) (by kernel_rfl) (fun _ _ _ _ _ h=>h) F ?_;simp only[QT,VT,MT,NT];iterate 15 (first|(refine db (by rfl) (fun K f=> ?_);go_simp;refine f _ ?_;clear f K)|(refine gb (by rfl) (fun K f=> ?_);apply Exists.intro;refine⟨fun w hw=> ?_,?_⟩;(next=>(first|(go_simp;rfl)|(obtain⟨_,b1,y,z,c2,_⟩:=hw;go_simp;rfl)|(obtain⟨_,b1,y,z,c2,_⟩:=hw;go_simp;done)));go_simp;refine f _ ?_;clear f K))
     refine Eb ?_;intro U r;subst r;refine ic (fun K f=> ?_);go_simp;refine f _ _ (KA.out _ _ F.1) (fun U r=> ?_);subst r;clear f K;refine ic (fun K f=> ?_);refine Zj (A:=(some ⟨g,off,none⟩)) (n:=m) (xs:=xc (l.take m)) (m:=1) (news:=Ku e) (KA.out _ _ F.1).1 (by rfl) (by rfl) underlying137 hi a7 S rfl (by rfl) (KZ (wc (O (some ⟨g,off,none⟩) l.length c)) ak) (gq _) (by decide) (by exact ur (sz:=3) (ty:=126) (g:=World.heap wp|>.size) (cs:=Ku e) prog underlying137 1 (CY wp _) rfl (Im e)) (by decide) (by unfold maxLen;omega) (by rw[a8];omega) ?_;intro v1 w3 s;refine f _ _ (KO.out _ _ s) (fun U r=> ?_);subst r;clear f K;refine ic (fun K f=> ?_);refine step_append (v:=v1) (n:=m+1) (m:=l.length-m) (news:=xc (l.drop m)) s (by rfl) (by rfl) underlying137 hi a7 S (by rfl) (by rfl) (by have aq:=(s.le (KZ NZ (KZ QZ (KZ (wc (O (some ⟨g,off,none⟩) l.length c)) al)))).En vS underlying137 (gq _) (by decide);exact aq) (by unfold maxLen;omega) (by rw[a8];omega) ?_;intro v2 w4 R;refine f _ _ (KO.out _ _ R) (fun U r=> ?_);subst r;clear f K;unfold Sb;have d1:w4.cell? ⟨b,1,none⟩=some _:=R.cells b 1;have d2:=R.free b 1;obtain⟨_,A2,D,rfl⟩:=R.Cd v2;clear b1 y z c2 b5 F KA KO;go_wp2;go_ret;refine⟨true,rfl,?_⟩;have hI:=HO.out an;have e1:(ins e l).length=m+1+(l.length-m):=by rw[hI,CT,UT,OT,cU];omega
     have e2:xc (ins e l)=xc (l.take m)++Ku e++xc (l.drop m):=by rw[hI];simp[xc]
     have J5:=(R.ra b 1 (O A2 (m+1+(l.length-m)) D) #[.bool true,O A2 (m+1+(l.length-m)) D]).ya (A:=ba b 183 #[.bool true,O A2 (m+1+(l.length-m)) D]*ua 126 3 (O A2 (m+1+(l.length-m)) D) (m+1+(l.length-m)) (xc (l.take m)++Ku e++xc (l.drop m)));refine J5.le ?_;rw[←e1,←e2];exact Vo
   ·have cb:¬ ((m:Int)<(l.length:Int)):=by omega
    go_wp2_with fail;refine Gb (fun W=>W.cell? ⟨b,1,none⟩=some (O A l.length c)) (fun a b=>a=b) [0,1,2,3,4,5,6,7,8,9,10,11,12,13,14,15,16,17] [] [] (fun _=>rfl) (fun _ _ _ h k=>Eq.trans h k) (fun _ _ h e=>e▸h) (by kernel_rfl) (by kernel_rfl) (fun _ _ _ _ _ h=>h) ((J.drew).cells b 1) ?_;simp only[QT,VT,MT,NT];iterate 18 (first|(refine db (by rfl) (fun K f=> ?_);go_simp;refine f _ ?_;clear f K)|(refine gb (by rfl) (fun K f=> ?_);apply Exists.intro;refine⟨fun w hw=> ?_,?_⟩;(next=>(first|(go_simp;rfl)|(obtain b1:=hw;go_simp;rfl)|(obtain b1:=hw;go_simp;done)));go_simp;refine f _ ?_;clear f K))
    refine Eb ?_;intro U r;subst r;unfold Sb;have H:=J.drew;generalize wr.drew=wq at*;clear q0 q1 q2 y z c2 b1 aj;have b1:World.cell? _ _=some _:=YZ H b 1;go_wp2_with fail;refine Gb (fun W=>W.cell? ⟨b,1,none⟩=some (O A l.length c)) (fun a b=>a=b) [0,1,2,3,4,5,6,7,8,9,10,11,12,13,14,15,16,17] [] [] (fun _=>rfl) (fun _ _ _ h k=>Eq.trans h k) (fun _ _ h e=>e▸h) (by kernel_rfl) (by kernel_rfl) (fun _ _ _ _ _ h=>h) ((H.drew).cells b 1) ?_;simp only[QT,VT,MT,NT];iterate 18 (first|(refine db (by rfl) (fun K f=> ?_);go_simp;refine f _ ?_;clear f K)|(refine gb (by rfl) (fun K f=> ?_);apply Exists.intro;refine⟨fun w hw=> ?_,?_⟩;(next=>(first|(go_simp;rfl)|(obtain b1:=hw;go_simp;rfl)|(obtain b1:=hw;go_simp;done)));go_simp;refine f _ ?_;clear f K))
    refine Eb ?_;intro U r;subst r;unfold Sb;have s:=H.drew;generalize wq.drew=wp at*;clear b1;have an:e∉l:=fun h=>N (HM.out h).1;obtain⟨i0,hi,a7,S,a8⟩:=info_parts Pm;have b9:∀w,(Instr.sliceAt 137 (O A l.length c) none (some (Z m)) (some (Z m))).run prog w= .ok (O A m m) w:=fun w=>(cg underlying137 hi A l.length c 0 m m (WT _) (FT _) (by omega)).2.1;obtain⟨vS,bc,al⟩:∃vS,(∀w,(Instr.sliceAt 137 (O A l.length c) (some (Z m)) none none).run prog w= .ok vS w)∧aa.le (Fg A l c) (Ba 3 vS (l.length-m) (xc (l.drop m))):=by have:=BF Ld (A:=A) (c:=c) (l:=l) (lo:=m) (hi:=l.length) (by omega) (FT _) a1;rw[YT (by rw[cU];exact FT _)]at this;refine⟨_,fun w=>(cg (P:=prog) (w:=w) underlying137 hi A l.length c m l.length c (by omega) (by omega) (FT _)).2.2.2.2 (by omega) a1,?_⟩;rw[S];exact this
    have ak:aa.le (Fg A l c) (Ba 3 (O A m m) m (xc (l.take m))):=Vm Ld (by omega);have KO:Hid (∀ (W:World) (X:aa),Y w o L (X*(ba B 126 #[Pa e.Qa,Z e.Qb,Z e.pos]*(ba b 183 #[.bool true,O A l.length c]*Dk A l c))) W→Y w o L (ba B 126 #[Pa e.Qa,Z e.Qb,Z e.pos]*(ba b 183 #[.bool true,O A l.length c]*Dk A l c)) W∧W.cell? ⟨b,1,none⟩=some (O A l.length c)∧W.cell? ⟨B,0,none⟩=some (Pa e.Qa)∧W.cell? ⟨B,1,none⟩=some (Z e.Qb)∧W.cell? ⟨B,2,none⟩=some (Z e.pos)∧W.frozen? ⟨b,1,none⟩=false):=V fun W X h=>by have j:=h.le (KZ NZ QZ);exact⟨j,j.cells b 1,j.cells B 0,j.cells B 1,j.cells B 2,j.free b 1⟩
    have KA:Hid (∀ (W:World) (C:Obj),Y w o L (ba B 126 #[Pa e.Qa,Z e.Qb,Z e.pos]*(ba b 183 #[.bool true,O A l.length c]*Dk A l c)) W→Y w o L (ba B 126 #[Pa e.Qa,Z e.Qb,Z e.pos]*(ba b 183 #[.bool true,O A l.length c]*Dk A l c)) (W.alloc C)∧(W.alloc C).cell? ⟨b,1,none⟩=some (O A l.length c)∧(W.alloc C).cell? ⟨B,0,none⟩=some (Pa e.Qa)∧(W.alloc C).cell? ⟨B,1,none⟩=some (Z e.Qb)∧(W.alloc C).cell? ⟨B,2,none⟩=some (Z e.pos)∧(W.alloc C).frozen? ⟨b,1,none⟩=false):=V fun W C h=>by have j:=h.alloc C;exact⟨j,j.cells b 1,j.cells B 0,j.cells B 1,j.cells B 2,j.free b 1⟩
    have b1:World.cell? _ _=some _:=YZ s b 1;have y:World.cell? _ _=some _:=YZ s B 0;have z:World.cell? _ _=some _:=YZ s B 1;have c2:World.cell? _ _=some _:=YZ s B 2;have b5:=Y.free s b 1;go_wp2_with fail;have F:=KO.out _ aa.emp (s.drew.le (KZ (RZ trivial) (JZ _)));refine Gb (fun W=>Y w o L (ba B 126 #[Pa e.Qa,Z e.Qb,Z e.pos]*(ba b 183 #[.bool true,O A l.length c]*Dk A l c)) W∧W.cell? ⟨b,1,none⟩=some (O A l.length c)∧W.cell? ⟨B,0,none⟩=some (Pa e.Qa)∧W.cell? ⟨B,1,none⟩=some (Z e.Qb)∧W.cell? ⟨B,2,none⟩=some (Z e.pos)∧W.frozen? ⟨b,1,none⟩=false) (fun a b=>a=b) [0,1,2,3,4,5,6,7,8,11,12,13,14,15,16] [9,10,17] [18,19,20] (fun _=>rfl) (fun _ _ _ h k=>Eq.trans h k) (fun _ _ h e=>e▸h) (by kernel_rfl) (by kernel_rfl) (fun _ _ _ _ _ h=>h) F ?_;simp only[QT,VT,MT,NT];iterate 15 (first|(refine db (by rfl) (fun K f=> ?_);go_simp;refine f _ ?_;clear f K)|(refine gb (by rfl) (fun K f=> ?_);apply Exists.intro;refine⟨fun w hw=> ?_,?_⟩;(next=>(first|(go_simp;rfl)|(obtain⟨_,b1,y,z,c2,_⟩:=hw;go_simp;rfl)|(obtain⟨_,b1,y,z,c2,_⟩:=hw;go_simp;done)));go_simp;refine f _ ?_;clear f K))
    refine Eb ?_;intro U r;subst r;refine ic (fun K f=> ?_);go_simp;refine f _ _ (KA.out _ _ F.1) (fun U r=> ?_);subst r;clear f K;refine ic (fun K f=> ?_);refine Zj (A:=A) (n:=m) (xs:=xc (l.take m)) (m:=1) (news:=Ku e) (KA.out _ _ F.1).1 (by rfl) (by rfl) underlying137 hi a7 S rfl (by rfl) (KZ (wc (O A l.length c)) ak) (gq _) (by decide) (by exact ur (sz:=3) (ty:=126) (g:=World.heap wp|>.size) (cs:=Ku e) prog underlying137 1 (CY wp _) rfl (Im e)) (by decide) (by unfold maxLen;omega) (by rw[a8];omega) ?_;intro v1 w3 s;refine f _ _ (KO.out _ _ s) (fun U r=> ?_);subst r;clear f K;refine ic (fun K f=> ?_);refine step_append (v:=v1) (n:=m+1) (m:=l.length-m) (news:=xc (l.drop m)) s (by rfl) (by rfl) underlying137 hi a7 S (by rfl) (by rfl) (by have aq:=(s.le (KZ NZ (KZ QZ (KZ (wc (O A l.length c)) al)))).En vS underlying137 (gq _) (by decide);exact aq) (by unfold maxLen;omega) (by rw[a8];omega) ?_;intro v2 w4 R;refine f _ _ (KO.out _ _ R) (fun U r=> ?_);subst r;clear f K;unfold Sb;have d1:w4.cell? ⟨b,1,none⟩=some _:=R.cells b 1;have d2:=R.free b 1;obtain⟨_,A2,D,rfl⟩:=R.Cd v2;clear b1 y z c2 b5 F KA KO;go_wp2;go_ret;refine⟨true,rfl,?_⟩;have hI:=HO.out an;have e1:(ins e l).length=m+1+(l.length-m):=by rw[hI,CT,UT,OT,cU];omega
    have e2:xc (ins e l)=xc (l.take m)++Ku e++xc (l.drop m):=by rw[hI];simp[xc]
    have J5:=(R.ra b 1 (O A2 (m+1+(l.length-m)) D) #[.bool true,O A2 (m+1+(l.length-m)) D]).ya (A:=ba b 183 #[.bool true,O A2 (m+1+(l.length-m)) D]*ua 126 3 (O A2 (m+1+(l.length-m)) D) (m+1+(l.length-m)) (xc (l.take m)++Ku e++xc (l.drop m)));refine J5.le ?_;rw[←e1,←e2];exact Vo
theorem DI(v:Value)(ms:List Nat)(l:List qa)(x:qa)(t:∀i∈ms,i<l.length)(a8:ms.length≤100000)(hl:l.length≤100000)(R:ub l=true):Tr prog 149 #[v,Z l.length,bj x] (Ba 4 v ms.length (ms.flatMap (Yk l))) (fun q:Nat×Nat=> .tuple #[Z q.1,Z q.2]) (fun q=>aa.pure (q.1≤Mf (fun y=>de y x) l∧Mf (fun y=>de y x) l≤q.2∧q.2≤l.length)*Ba 4 v ms.length (ms.flatMap (Yk l))):=by
 intro w o r K;have I:=TZ K;obtain⟨_,A,c,rfl,_⟩:=I.sl v;have L:=Ci (fun y=>de y x) l;have n:Hid (∀i (hi:i<l.length),de l[i] x=true→i<Mf (fun y=>de y x) l):=V fun i hi a=>(wz R x).ge hi a;have hle:Hid (∀i (hi:i<l.length),de l[i] x=false→Mf (fun y=>de y x) l≤i):=V fun i hi a=>Nat.le_of_not_lt fun hn=>by rw[Ij (p:=fun y=>de y x) hi hn]at a;cases a
 generalize hN:Mf (fun y=>de y x) l=N at*;have t150:=fun y=>Tt y x;unfold bj at t150⊢;have m:=V t;have D:=(I.Wa (.cells #[Pa x.Qa,Z x.Qb,Z x.pos] 126) w.heap.size rfl);clear K R t I hN;go_enter func149,ntmps149;go_wp2_with fail;go_step3;go_wp2_with fail;have S:max (l.length:Int) 0=(l.length:Int):=by omega
 go_step3;go_wp2_with fail;go_loopw [6,7,16] (fun x1 x2 C wr=>∃lo k:Nat,x1=Z lo∧x2=Z l.length∧C=Z k∧lo≤N∧k≤ms.length∧Y w o r (ba w.heap.size 126 #[Pa x.Qa,Z x.Qb,Z x.pos]*Ba 4 (O A ms.length c) ms.length (ms.flatMap (Yk l))) wr) (fun _ _ C _=>ms.length-(intOf C).toNat);case atStart=>exact⟨0,0,rfl,rfl,rfl,by omega,by omega,D⟩
 case round=>
  obtain⟨lo,k,rfl,rfl,rfl,P,hk,J⟩:=hrel;clear D;by_cases s:k<ms.length
  ·have E:Y w o r (Ba 4 (O A ms.length c) ms.length (ms.flatMap (Yk l))) wr:=J.le (KZ NZ QZ);obtain⟨g,off,rfl,a7,f,e⟩:=E.we A c ms (DL l) k s (by decide);have b:=m.out _ (XT s);have z:=n.out _ b;have B:=hle.out _ b;have h:Yk l ms[k]=[Pa l[ms[k]].Qa,Z l[ms[k]].Qb,Z l[ms[k]].pos,Z ms[k]]:=by simp[Yk,kU,PT b,Ku]
   rw[h]at f e;have U:=f _ rfl;have W:=e 1 _ rfl;have c2:=e 2 _ rfl;have c3:=e 3 _ rfl;have tl:=t150 l[ms[k]];generalize l[ms[k]]=y at*;generalize ms[k]=i at*;have j:=J.Wa (.cells #[Pa y.Qa,Z y.Qb,Z y.pos,Z i] 272) wr.heap.size rfl;have Q:max (i:Int) 0=(i:Int):=by omega
   have aj:min (i:Int) (l.length:Int)=(i:Int):=by omega
   have a1:min (i:Int) ((l.length:Int)-1)=(i:Int):=by omega
   have hw:IntKind.i64.wrap ((l.length:Int)-1)=(l.length:Int)-1:=RT _ (by omega);have M:(k:Int)<(ms.length:Int):=by omega
   clear e f E h J m t150 n hle;have HI:=V b;go_upto_region 8 with(fail);obtain⟨d0,d1,d2⟩:=j.c3 wr.heap.size;obtain⟨F,G,H⟩:=j.c3 w.heap.size;generalize wr.alloc (.cells #[Pa y.Qa,Z y.Qb,Z y.pos,Z i] 272)=W5 at*;clear U W c2 c3;cases a:de y x with
   |true=>
    rw[a]at tl;have X:=z a;clear z B a;go_wp2_with fail;refine j.kp tl fun w2 u=> ?_;clear d0 d1 d2 F G H;go_wp2;go_roundw;case rel=>exact⟨i+1,k+1,by go_num,rfl,by go_num,by omega,by omega,u.ya⟩
    case measure=>simp[intOf];omega
   |false=>
    rw[a]at tl;have X:=B a;clear z B a;have a6:max (lo:Int) (i:Int)=((max lo i:Nat):Int):=by omega
    have d:lo≤N∧N≤max lo i∧max lo i≤l.length:=by omega
    have T:=V d;generalize max lo i=mx at*;clear d;go_wp2_with fail;refine j.kp tl fun w2 u=> ?_;clear d0 d1 d2 F G H;go_wp2_with fail;rw[SV];go_ret2;exact⟨(lo,mx),rfl,(u.ya (A:=Ba 4 (O (some ⟨g,off,none⟩) ms.length c) ms.length (ms.flatMap (Yk l)))).le (RZ T.out)⟩
  ·have M:¬ ((k:Int)<(ms.length:Int)):=by omega
   have Q:max (lo:Int) (l.length:Int)=(l.length:Int):=by omega
   go_wp2;go_ret2;exact⟨(lo,l.length),rfl,(J.ya (A:=Ba 4 (O A ms.length c) ms.length (ms.flatMap (Yk l)))).le (RZ ⟨P,L,FT _⟩)⟩
structure TG where
 mv:Value
 ms:List Nat
 F:Bl
 M:Nat
structure SR(l:List qa)(x:TG):Prop where
 dT:∀i∈x.ms,i<l.length
 many:x.ms.length≤l.length
 aT:kN x.F
 may:∀e∈l,Rp x.F e.Qa=true
abbrev BS(D n a:Nat)(b:Value)(F:Bl)(M:Nat):Array Value:=#[Da D,.int .i64 n,.int .i64 a,b,.int .i64 F.Rb,.int .i64 F.size,if F.Rb=0 then .map none else .map (some M)]
abbrev az(T D n:Nat)(l:List qa)(x:TG):aa:=ba T 229 (BS D n l.length x.mv x.F x.M)*(Ba 4 x.mv x.ms.length (x.ms.flatMap (Yk l))*Mm x.F x.M)
def Tf(T D n:Nat)(l:List qa):aa:=aa.ex fun x:TG=>aa.pure (SR l x)*az T D n l x
theorem Us{T D n:Nat}{l:List qa}{x:TG}(h:SR l x):aa.le (az T D n l x) (Tf T D n l):=KZ (RZ h) (SZ (A:=fun x:TG=>aa.pure (SR l x)*az T D n l x) x)
theorem Y.wR{d w:World}{b c:Td}{S R:aa}(h:Y d b c S w)(T D n:Nat)(l:List qa)[k:Find (Tf T D n l) S R]:∃x,SR l x∧Y d b c (az T D n l x*R) w:=by have a:=h.le k.split;unfold Tf at a;obtain⟨x,a⟩:=a.ex;obtain⟨e,a⟩:=a.pure;exact⟨x,e,a⟩
theorem yu(T D n a:Nat)(c:Value)(F:Bl)(M:Nat):Pp prog 106 #[Da T] (ba T 229 (BS D n a c F M)) (.bool false):=by intro w o r b;have I:=TZ b;have d:w.cell? ⟨T,0,none⟩=some (Da D):=I.cells T 0;clear b;go_enter func106,ntmps106;go_wp2;go_ret;exact⟨rfl,0,rfl⟩
theorem nH(T D n:Nat)(l:List qa)(h:Nat)(hh:h<18446744073709551616):Tr prog 107 #[Da T,Pa h] (Tf T D n l) (fun q:Bool=> .bool q) (fun q=>aa.pure (q=false→∀e∈l,e.Qa≠h)*Tf T D n l):=by
 intro w o r s;have p:=TZ s;obtain⟨x,c,I⟩:=p.wR T D n l;have t1:=yu T D n l.length x.mv x.F x.M;have t2:=ZG x.F x.M h hh c.aT;have hle:=Us (T:=T) (D:=D) (n:=n) c;have k:Hid (∀q:Bool,(q=false→Rp x.F h=false∨l.length=0)→q=false→∀e∈l,e.Qa≠h):=V fun q g i e he t=>by
  rcases g i with a|a
  ·rw[←t,c.may e he]at a;cases a
  ·rw[List.length_eq_zero_iff]at a;subst a;cases he
 have C:w.cell? ⟨T,0,none⟩=some (Da D):=I.cells T 0;have c2:w.cell? ⟨T,2,none⟩=some (Z l.length):=I.cells T 2;have c4:w.cell? ⟨T,4,none⟩=some (Z x.F.Rb):=I.cells T 4;have c5:w.cell? ⟨T,5,none⟩=some (Z x.F.size):=I.cells T 5;have c6:w.cell? ⟨T,6,none⟩=some (if x.F.Rb=0 then .map none else .map (some x.M)):=I.cells T 6;have B:(0:Int)≤l.length:=by omega
 have b:∀ (q:Bool) (W:World),(q=false→Rp x.F h=false∨l.length=0)→Y w o r (az T D n l x) W→∃y:Bool,Ending.returned (.bool q)=Ending.returned (.bool y)∧Y w o r (aa.pure (y=false→∀e∈l,e.Qa≠h)*Tf T D n l) W:=fun q W g i=>⟨q,rfl,(i.le hle).le (RZ (k.out q g))⟩;have j:=V b;unfold Sg at t2;clear s hle b p c k;generalize Rp x.F h=q at*;obtain⟨f,d⟩:∃f,(if x.F.Rb=0 then Value.map none else Value.map (some x.M))=f:=⟨_,rfl⟩;rw[d]at c6 t2;clear d;by_cases A:l.length=0
 ·have v:decide ((l.length:Int)>0)=false:=yU (by omega);have u:¬ ((l.length:Int)>0):=by omega
  go_enter func107,ntmps107;go_wp2_with fail;refine Y.ka I t1 fun m=> ?_;go_wp2;go_ret;exact j.out false _ (fun _=> .inr A) (I.drewN m).ya
 ·have v:decide ((l.length:Int)>0)=true:=RU (by omega);have u:(l.length:Int)>0:=by omega
  go_enter func107,ntmps107;go_wp2_with fail;refine Y.ka I t1 fun m=> ?_;have J:=I.drewN m;go_wp2_with fail;refine J.k1 t2 fun w2 z=> ?_;go_wp2;go_ret;exact j.out q _ (fun h=> .inl h) z.ya
theorem jv(T D n:Nat)(l:List qa)(d:An.ja)(i:Nat)(hi:i<l.length)(L:n≤999999)(R:l.length≤100000)(B:d.down=false)(C:Na (Ra n) d.fa=some (full (Tb l)))(t:∀e∈l,Iy e):Ud prog 109 #[Da T,Z i] (Tf T D n l*na D d) (.tuple #[bj l[i],Z 0]) (Tf T D n l*na D d):=by
 intro w o r s;have q:=TZ s;obtain⟨x,E,I⟩:=q.wR T D n l;have t1:=Kq n L;have t2:=yR i (by omega);have t42:=Bn D d (Ra n) ((8+24*i:Nat):Int) 24 (KT Wk (by omega)) (by omega) (by omega);have m:=nD (a:=8+24*i) (k:=24) B C (by rw[jo];omega);rw[pH hi]at m;rw[show((24:Nat):Int)=24 from rfl]at m;rw[m]at t42;have t154:=eG (Nf l[i]) (by rw[rh];omega);rw[bx (t _ (XT hi))]at t154;unfold Li at t154;have hle:=Us (T:=T) (D:=D) (n:=n) E;have b:w.cell? ⟨T,0,none⟩=some (Da D):=I.cells T 0;have c:w.cell? ⟨T,1,none⟩=some (Z n):=I.cells T 1;clear s B C t m q E;generalize l[i]=y at*;generalize Nf y=S at*;unfold bj at*;dsimp only at*;generalize Q:(8+24*i:Nat)=k at*;have g:=I.Wa (.cells #[Pa 0,Z 0,Z 0] 126) w.heap.size rfl;clear b c I;go_enter func109,ntmps109;go_upto_region 1 with(fail);generalize w.alloc (.cells #[Pa 0,Z 0,Z 0] 126)=j at*;have b:j.cell? ⟨T,0,none⟩=some (Da D):=g.cells T 0;have c:j.cell? ⟨T,1,none⟩=some (Z n):=g.cells T 1;have M:=IT b;have N:=IT c;refine Hc [0,4,9] [1,2,3,5,6,7,8,10] 11 [12,13,14,15,16] (by kernel_rfl) (by kernel_rfl) (by rfl) (fun _ _ _ _ _ h=>h) ?_;simp only[QT,VT,MT,NT];dsimp only[Ub];go_simp;repeat (quiet_step ((first|(go_at_call 151;refine gU (t1 _))|(go_at_call 152;refine gU (t2.pu _)))))
 refine fU ?_;first|(rintro _ ⟨f,rfl⟩)|(intro f)
 have z:=jU j f.d f.os;generalize Go.Sort.grow (redrawn j f.d) f.os=W at*;clear f;intro K u;go_simp;have F:=g.below z;clear M N b c g;refine F.k1 t42 fun U G=> ?_;go_simp;refine u _ _ ?_;clear u K;repeat (quiet_step (fail))
 refine fU ?_;go_wp2_with fail;refine G.kp t154 fun p H=> ?_;have K:=H.Wa (.cells #[Pa y.Qa,Z y.Qb,Z y.pos] 126) p.heap.size rfl;go_upto_region 7 with(fail);generalize p.alloc (.cells #[Pa y.Qa,Z y.Qb,Z y.pos] 126)=P at*;obtain⟨b,c,c2⟩:=K.c3 w.heap.size;obtain⟨f0,f1,f2⟩:=K.f3 w.heap.size;obtain⟨d0,d1,d2⟩:=K.c3 p.heap.size;go_wp2_with fail;refine ZT (v:=.tuple #[.agg #[Pa y.Qa,Z y.Qb,Z y.pos],Z 0]) (by simp[results,results109,go_sem,b,c,c2]) rfl ⟨rfl,?_⟩;have J:=(((K.ra w.heap.size 0 (Pa y.Qa) _ rfl).ra w.heap.size 1 (Z y.Qb) _ rfl).ra w.heap.size 2 (Z y.pos) _ rfl);exact((J.ya (A:=az T D n l x*na D d)).le (MZ hle (JZ _)))
structure iz(d:An.ja)(n:Nat)(l:List qa):Prop where
 num:n≤999999
 len:l.length≤70000
 ym:ub l=true
 QS:∀e∈l,Iy e
 file:Na (Ra n) d.fa=some (full (Tb l))
theorem JD(T D n:Nat)(l:List qa)(d:An.ja)(x:qa)(hd:d.down=false)(b:iz d n l):Ud prog 108 #[Da T,bj x] (Tf T D n l*na D d) (.tuple #[Z (Mf (fun y=>de y x) l:Nat),Z 0]) (Tf T D n l*na D d):=by
 intro w o r X;have Q:=TZ X;obtain⟨s,q,I⟩:=Q.wR T D n l;have b6:=b.len;have t149:=DI s.mv s.ms l x q.dT (by have:=q.many;omega) (KT b.len (by omega)) b.ym;have t109:=fun i (hi:i<l.length)=>jv T D n l d i hi b.num (KT b.len (by omega)) hd b.file b.QS;have t:Hid (∀i (hi:i<l.length),de l[i] x=true→i<Mf (fun y=>de y x) l):=V fun i hi a=>(wz b.ym x).ge hi a;have hle:Hid (∀i (hi:i<l.length),de l[i] x=false→Mf (fun y=>de y x) l≤i):=V fun i hi a=>Nat.le_of_not_lt fun hn=>by rw[Ij (p:=fun y=>de y x) hi hn]at a;cases a
 have b5:=Ci (fun y=>de y x) l;have u:=Us (T:=T) (D:=D) (n:=n) q;have t150:=fun y=>Tt y x;have j:=V t109;generalize Mf (fun y=>de y x) l=N at*;have c:=I.Wa (.cells #[Pa x.Qa,Z x.Qb,Z x.pos] 126) w.heap.size rfl;unfold bj at t149 t150⊢;clear X hd b q I Q t109;go_enter func108,ntmps108;go_upto_region 1 with(fail);generalize w.alloc (.cells #[Pa x.Qa,Z x.Qb,Z x.pos] 126)=f at*;have c2:f.cell? ⟨T,2,none⟩=some (Z l.length):=c.cells T 2;have c3:f.cell? ⟨T,3,none⟩=some s.mv:=c.cells T 3;have z:f.cell? ⟨w.heap.size,0,none⟩=some (Pa x.Qa):=c.cells w.heap.size 0;have B:f.cell? ⟨w.heap.size,1,none⟩=some (Z x.Qb):=c.cells w.heap.size 1;have C:f.cell? ⟨w.heap.size,2,none⟩=some (Z x.pos):=c.cells w.heap.size 2;have q2:=IT c2;have q3:=IT c3;have p0:=IT z;have p1:=IT B;have p2:=IT C;refine Hc [0,4] [1,2,3,5,6,7,8] 9 [10,11,12,13,14] (by kernel_rfl) (by kernel_rfl) (by rfl) (fun _ _ _ _ _ h=>h) ?_;simp only[QT,VT,MT,NT];dsimp only[Ub];go_simp;repeat (quiet_step (fail))
 refine fU ?_;first|(rintro _ ⟨g,rfl⟩)|(intro g)
 have a6:=jU f g.d g.os;generalize Go.Sort.grow (redrawn f g.d) g.os=wq at*;clear g;intro K hK;go_simp;have R:=c.below a6;clear q2 q3 p0 p1 p2 c2 c3 z B C c;refine(R.call t149).mono ?_;rintro e w3 ⟨⟨av,aj⟩,rfl,S⟩;go_simp;refine hK _ _ ?_;clear hK K;repeat (quiet_step (fail))
 refine fU ?_;obtain⟨m,U⟩:=S.pure;dsimp only at m;have W:=(U.ya (A:=az T D n l s*(na D d*ba w.heap.size 126 #[Pa x.Qa,Z x.Qb,Z x.pos]))).le (MZ u (JZ _));clear R S U t149 u;go_wp2_with fail;go_loopw [6,7] (fun L P wr=>∃lo hi:Nat,L=Z lo∧P=Z hi∧lo≤N∧N≤hi∧hi≤l.length∧Y w o r (Tf T D n l*(na D d*ba w.heap.size 126 #[Pa x.Qa,Z x.Qb,Z x.pos])) wr) (fun L P _=>(intOf P-intOf L).toNat);case atStart=>exact⟨av,aj,rfl,rfl,m.1,m.2.1,m.2.2,W⟩
 case round=>
  obtain⟨lo,hi,rfl,rfl,ak,a7,a8,J⟩:=hrel;clear W m;by_cases b7:lo<hi
  ·obtain⟨M,hM,aM,b0⟩:∃M:Nat,(((lo:Int)+hi)/2)=(M:Int)∧lo≤M∧M<hi:=⟨(lo+hi)/2,by omega,by omega,by omega⟩;have k:M<l.length:=by omega
   have t109:=j.out M k;have E:=t.out M k;have F:=hle.out M k;have t1:=t150 l[M];unfold bj at t109;generalize l[M]=y at*;have G:(lo:Int)<hi:=by omega
   have al:IntKind.u64.wrap ((lo:Int)+hi)=(lo:Int)+hi:=by rw[pU];omega
   have an:IntKind.i64.wrap ((lo:Int)+hi)=(lo:Int)+hi:=RT _ (by omega);have aq:IntKind.i64.wrap (M:Int)=(M:Int):=RT _ (by omega);clear j t hle t150 al an aq;go_wp2_with fail;refine J.k1 t109 fun H J2=> ?_;have K:=J2.Wa (.cells #[Pa y.Qa,Z y.Qb,Z y.pos] 126) H.heap.size rfl;go_upto_region 7 with(fail);generalize H.alloc (.cells #[Pa y.Qa,Z y.Qb,Z y.pos] 126)=W7 at*;obtain⟨d0,d1,d2⟩:=K.c3 H.heap.size;obtain⟨z,B,C⟩:=K.c3 w.heap.size;cases a:de y x with
   |true=>
    rw[a]at t1;have h3:=E a;clear E F a;go_wp2_with fail;refine K.kp t1 fun w5 v=> ?_;go_wp2;go_roundw;case rel=>exact⟨M+1,hi,by go_num,rfl,by omega,a7,a8,v.ya⟩
    case measure=>simp[intOf];omega
   |false=>
    rw[a]at t1;have h3:=F a;clear E F a;go_wp2_with fail;refine K.kp t1 fun w5 v=> ?_;go_wp2;go_roundw;case rel=>exact⟨lo,M,rfl,rfl,ak,h3,by omega,v.ya⟩
    case measure=>simp[intOf];omega
  ·have a1:N=lo:=by omega
   have G:¬ ((lo:Int)<hi):=by omega
   subst a1;go_wp2;go_ret2;exact⟨rfl,J.ya⟩
theorem wv(h v:Nat):(fun y=>de y ⟨h,v,0⟩)=Mb h v:=by
 funext y;have b:de y ⟨h,v,0⟩=true↔Mb h v y=true:=by
  rw[Cj];unfold de;simp only[PU,aU,bU];constructor
  ·rintro(h|⟨h,a|⟨_,a⟩⟩)
   ·exact .inl h
   ·exact .inr ⟨h,by omega⟩
   ·omega
  ·rintro(h|⟨h,a⟩)
   ·exact .inl h
   ·exact .inr ⟨h,.inl (by omega)⟩
 cases a:de y ⟨h,v,0⟩<;>cases c:Mb h v y<;>simp_all
theorem gC{l:List qa}{h:Nat}{f t:Int}(a:∀e∈l,e.Qa≠h):ae l h f t=[]:=by unfold ae;rw[WU];intro e he;simp[a e he]
theorem zA{l:List qa}{h:Nat}{f t:Int}(b:t<f):ae l h f t=[]:=by unfold ae;rw[WU];intro e he a;simp only[aU,bU]at a;omega
theorem nJ(T D n:Nat)(l:List qa)(d:An.ja)(h:Nat)(fr to':Int)(hh:h<18446744073709551616)(av: -9223372036854775808≤fr∧fr≤9223372036854775807)(X:d.down=false)(p:iz d n l):Tr prog 111 #[Da T,.int .u64 h,.int .i64 fr,.int .i64 to'] (Tf T D n l*na D d) (fun v:Value=> .tuple #[v,.int .i64 0]) (fun v=>ua 126 3 v (ae l h (max fr 0) (min to' 1073741824)).length (xc (ae l h (max fr 0) (min to' 1073741824)))*(Tf T D n l*na D d)):=by
 intro w o r h0;have I0:=TZ h0;obtain⟨f,hf⟩:∃f:Nat,max fr 0=(f:Int):=⟨(max fr 0).toNat,by omega⟩;rw[hf];have aq:f<9223372036854775808:=by omega
 generalize b5:min to' 1073741824=t at*;have an:t≤1073741824:=by omega
 obtain⟨E,j⟩:∃E,ae l h f t=E:=⟨_,rfl⟩;rw[j];obtain⟨tg,hx,I⟩:=I0.wR T D n l;have t1:=yu T D n l.length tg.mv tg.F tg.M;have t2:=nH T D n l h hh;have hle:=Us (T:=T) (D:=D) (n:=n) hx;have b0:=p.len;have k:∀W,E=[]→Y w o r (Tf T D n l*na D d) W→∃x:Value,Ending.returned (.tuple #[.slice none 0 0,.int .i64 0])=Ending.returned (.tuple #[x,.int .i64 0])∧Y w o r (ua 126 3 x (E).length (xc (E))*(Tf T D n l*na D d)) W:=fun W e hW=>⟨.slice none 0 0,rfl,by rw[e];exact hW.le (KZ (RZ trivial) (MZ (j0 126 3) (JZ _)))⟩;have S:=V k;clear h0 k I0 hx;by_cases P:t<f
 ·have he:Hid (E=[]):=V (j▸zA (l:=l) (h:=h) P);have a7:(f:Int)>t:=P;go_enter func111,ntmps111;go_wp2_with fail;refine Y.ka I t1 fun m=> ?_;go_wp2_with fail;go_ret2;exact S.out _ he.out ((I.drewN _).le (MZ hle (JZ _)))
 ·have a7:¬ ((f:Int)>t):=by omega
  go_enter func111,ntmps111;go_wp2_with fail;refine Y.ka I t1 fun m=> ?_;have I2:=(I.drewN m).le (MZ hle (JZ _));clear I;go_wp2_with fail;refine I2.kc t2 fun w2 q I3=> ?_;obtain⟨b,U⟩:=I3.pure;clear I2 I3 t1 t2;cases q with
  |false=>have he:Hid (E=[]):=V (j▸gC (l:=l) (h:=h) (f:=f) (t:=t) (b rfl));clear b;go_wp2_with fail;go_ret2;exact S.out _ he.out U.ya
  |true=>
   have t108:=JD T D n l d ⟨h,f,0⟩ X p;unfold bj at t108;rw[wv h f]at t108;have s:=tz p.ym h f t;have a6:=Ci (Mb h f) l;have R:Hid (∀i (hi:i<l.length),Ud prog 109 #[Da T,.int .i64 i] (Tf T D n l*na D d) (.tuple #[bj l[i],.int .i64 0]) (Tf T D n l*na D d)):=V fun i hi=>jv T D n l d i hi p.num (KT p.len (by omega)) X p.file p.QS;have HS:Hid (E=([]:List qa)++(l.drop (Mf (Mb h f) l)).takeWhile (jw h t)):=V (by rw[←j,s];rfl);generalize Mf (Mb h f) l=N at*;obtain⟨i0,hi,aj,ak,al⟩:=info_parts Pm;clear b s p X S hle j;have I5:=U.ya (A:=Tf T D n l*na D d);clear U;go_wp2_with fail;refine I5.k1 t108 fun w3 I6=> ?_;have I7:=(I6.ya (A:=Tf T D n l*na D d)).le (KZ (RZ trivial) (MZ (j0 126 3) (JZ _)));clear I5 I6 t108;go_wp2_with fail;go_loopw [10,12] (fun x1 x2 wr=>∃ (i:Nat) (acc:List qa) (A:Option Addr) (c:Nat),x1= .int .i64 i∧x2= .slice A acc.length c∧i≤l.length∧acc.length≤i∧Hid (E=acc++(l.drop i).takeWhile (jw h t))∧Y w o r (ua 126 3 (.slice A acc.length c) acc.length (xc acc)*(Tf T D n l*na D d)) wr) (fun x1 _ _=>l.length-(intOf x1).toNat);case atStart=>exact⟨N,[],none,0,rfl,rfl,a6,WT _,HS,I7⟩
   case round=>
    obtain⟨i,acc,A,c,rfl,rfl,aM,L,C,J⟩:=hrel;clear I7 HS;have c2:wr.cell? ⟨T,2,none⟩=some (.int .i64 l.length):=by obtain⟨b6,_,G⟩:=J.wR T D n l;exact G.cells T 2
    by_cases Q:i<l.length
    ·have a8:(i:Int)<(l.length:Int):=by omega
     have t109:=R.out i Q;have a:=C.out;rw[FU Q,mW]at a;unfold bj at t109;generalize l[i]=y at*;have g:=V a;have B:acc.length+1≤1000000000:=by omega
     have HA:=V B;have HI:=V L;clear a C L B;go_wp2_with fail;refine J.k1 t109 fun H G=> ?_;have K:=G.Wa (.cells #[.int .u64 y.Qa,.int .i64 y.Qb,.int .i64 y.pos] 126) H.heap.size rfl;clear c2 J G t109;go_upto_region 15 with(fail);obtain⟨c0,c1,c2⟩:=K.c3 H.heap.size;obtain⟨f0,f1,f2⟩:=K.f3 H.heap.size;generalize H.alloc (.cells #[.int .u64 y.Qa,.int .i64 y.Qb,.int .i64 y.pos] 126)=W7 at*;by_cases u:y.Qa=h
     ·by_cases z:(y.Qb:Int)≤t
      ·have b:jw h t y=true:=by simp[jw,u,z]
       have a:=g.out;rw[b,JT rfl,←List.singleton_append,←iU]at a;have a1:=V a;have b2:¬ ((y.Qb:Int)>t):=by omega
       clear b a g z;subst u;go_wp2_with (at_builtin;go_loud (refine Oa (v:=.slice A acc.length c) (Ku y) 1 K rfl rfl underlying137 hi aj ak rfl rfl rfl rfl (Im y) HA.out (by rw[al];omega) ?_);intro A' c' w6 K4);go_roundw;case rel=>
        refine⟨i+1,acc++[y],A',c',by go_num,by rw[CT];rfl,by omega,by rw[CT];exact aW HI.out,a1,?_⟩;have e1:(acc++[y]).length=acc.length+1:=by simp
        have e2:xc (acc++[y])=xc acc++Ku y:=by simp[xc]
        rw[e1,e2];exact K4.ya
       case measure=>simp[intOf];omega
      ·have b:jw h t y=false:=by simp[jw,z]
       have a:=g.out;rw[b,DT (by simp),EU]at a;have b2:(y.Qb:Int)>t:=by omega
       subst a;clear b g z;subst u;go_wp2_with fail;go_ret2;exact⟨.slice A E.length c,rfl,K.ya⟩
     ·have b:jw h t y=false:=by simp[jw,u]
      have a:=g.out;rw[b,DT (by simp),EU]at a;have b1:((y.Qa:Int) !=h)=true:=by rw[CU];omega
      subst a;clear b g;go_wp2_with fail;go_ret2;exact⟨.slice A E.length c,rfl,K.ya⟩
    ·have a8:¬ ((i:Int)<(l.length:Int)):=by omega
     have a:=C.out;rw[ZV (by omega),List.takeWhile_nil,EU]at a;subst a;clear C;go_wp2_with fail;go_ret2;exact⟨.slice A E.length c,rfl,J⟩
end
end Go.Proofs.YteacbkflfafefaaGreatDoor
