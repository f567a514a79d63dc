/- Part 20 of 50 of the proof that TopViews returns true at every input: lemmas on the way; no condition. -/
import Derived.Test.YteacbkflfafefaaGreatDoorZ13
import Derived.Test.YteacbkflfafefaaGreatDoorZ18
namespace Go.Proofs.YteacbkflfafefaaGreatDoor
set_option linter.all false
set_option maxHeartbeats 1000000
set_option maxRecDepth 100000
section
open Go.RowKit An Go.Proofs.Tryz
def Al(v:Value)(l:Bs):aa where
 p h o r:=(∀k,¬r k)∧∃g cap cur a,v=O (some ⟨g,0,none⟩) l.length cap∧h[g]? =some (.cells cur 5 a)∧(a=(0,0)∨cap≤a.1)∧l.length≤cap∧cap≤cur.size∧(∀j (i:j<l.length),cur[j]? =some (.int .u8 (l[j].toNat:Int)))∧∀k,o k↔k=g
 loc:=by rintro h h' o r ⟨d,g,cap,cur,a,e,a2,a3,a4,a5,f,c⟩ b;exact⟨d,g,cap,cur,a,e,(b g (.inl ((c g).2 rfl))).trans a2,a3,a4,a5,f,c⟩
 lt:=by rintro h o r k ⟨d,g,cap,cur,a,e,a2,a3,a4,a5,f,c⟩ b;have b:=b.resolve_right (d k);rw[(c k).1 b];exact(sU.1 a2).1
theorem Zv(b:Nat)(e:TypeId)(c:Nat×Nat):∀ (news:List Value) (w:World) (off:Nat) (cur:Array Value),w.heap[b]? =some (.cells cur e c)→off+news.length≤cur.size→∃a,(w.setCells b off news).heap[b]? =some (.cells a e c)∧a.size=cur.size∧(∀j,off≤j→j<off+news.length→a[j]? =news[j-off]?)∧(∀j,j<off∨off+news.length≤j→a[j]? =cur[j]?)∧(∀k,k≠b→(w.setCells b off news).heap[k]? =w.heap[k]?)∧(w.setCells b off news).os=w.os∧(w.setCells b off news).tape=w.tape∧(w.setCells b off news).output=w.output∧(w.setCells b off news).heap.size=w.heap.size
 |[],w,off,cur,hb,_=>⟨cur,hb,rfl,fun j f d=>by simp at d;omega,fun _ _=>rfl,fun _ _=>rfl,rfl,rfl,rfl,rfl⟩
 |u::news,w,off,cur,hb,p=>by
  simp only[UT]at p;have g:(w.setCell ⟨b,off,none⟩ u).heap[b]? =some (.cells (cur.setIfInBounds off u) e c):=by simp[World.setCell,DW,hb]
  obtain⟨a,i,a2,a3,a4,a5,l,m,n,a9⟩:=Zv b e c news (w.setCell ⟨b,off,none⟩ u) (off+1) (cur.setIfInBounds off u) g (by rw[rW];omega);refine⟨a,i,a2.trans (rW ..),?_,?_,fun k h=>(a5 k h).trans (fX w _ u k h),l,m,n,a9.trans (by simp[World.setCell])⟩
  ·intro j f d;simp only[UT]at d;rcases Nat.eq_or_lt_of_le f with rfl|q
   ·rw[a4 _ (.inl (by omega)),AW];simp[qV];omega
   ·rw[a3 j (by omega) (by omega),show j-off=(j-(off+1))+1 by omega,MT]
  ·intro j o;simp only[UT]at o;rw[a4 j (by omega),qV,DT (by omega)]
section
variable {w0 w:World}{o0 r0:Td}{S R:aa}
theorem Y.WR(h:Y w0 o0 r0 S w)(s:Bs):∃c f,(convert 9 152 (Ha s)).run prog w= .ok (O (some ⟨w.heap.size,0,none⟩) s.length c) f∧Y w0 o0 r0 (Al (O (some ⟨w.heap.size,0,none⟩) s.length c) s*S) f:=by
 have e:=Lib.run_convert_string_bytes (P:=prog) w 9 152 5 (mk s) underlying9 underlying152 underlying5;rw[Ph]at e;have d:=QY w s.length 0 5;have b:(Lib.bytesCells w 5 (mk s)).size=grownCap w s.length 0 5:=by simp only[Lib.bytesCells,mk_data,SX,Array.size_map,zV,iY,Ph];omega
 refine⟨_,_,e,?_⟩;have i:=h.kQ (.cells (Lib.bytesCells w 5 (mk s)) 5 ((Lib.bytesCells w 5 (mk s)).size,(Lib.bytesCells w 5 (mk s)).size+1)) (Lib.bytesWorld_size ..) (ZY ..) (fun j a=>Lib.bytesWorld_at_old w 5 (mk s) j a) rfl rfl rfl;refine i.le (MZ ?_ (JZ _));constructor;rintro h o r ⟨g,c2,c3⟩;refine⟨o,r,⟨c3,w.heap.size,_,_,_,rfl,g,.inr (by rw[b];exact FT _),d,by rw[b];exact FT _,fun j a=> ?_,c2⟩,fun _ h=>h,fun _ h=> .inr h⟩;simp only[Lib.bytesCells,mk_data];rw[nY (by simpa using a)];simp[a]
theorem rv{B:Array Oper}{y:List Oper}{p:Oper}{a:Act}{Q:Exit→Act→World→Prop}{s x:Operand}{v:Value}{b:Bs}(l:Bs) (h:Y w0 o0 r0 S w) (H:p.guard=none) (ho:p.op= .call {callee:=.builtin .append,args:=#[s,x],argTypes:=#[152,9]}) (hv:a.eval s=v) [k:Find (Al v b) S R] (hx:a.eval x=Ha l) (hb:b.length+l.length≤1000000000) (X:∀A c w',Y w0 o0 r0 (Al (O A (b++l).length c) (b++l)*R) w'→wpList prog B Q y (a.put p.dst (O A (b++l).length c)) w'):wpList prog B Q (p::y) a w:=by
 obtain⟨i5,hi,L,m,M⟩:=info_parts Ov;have J:Src prog i5.size 9 (a.eval x) l.length (dh l) w:=by
  rw[hx,←xt,m];have:=Src.ofString (P:=prog) w underlying9 (mk l)
  rwa [Ph]at this
 obtain⟨o,r,⟨o1,r1,o2,r2,⟨D,g,cap,cur,t,rfl,c2,c3,c4,c5,c6,c7⟩,b2,b3,b4,E,F⟩,hu⟩:=h.le k.split;have q:(dh l).length=l.length:=by simp[dh]
 have f:(b++l).length=b.length+l.length:=CT;have run:∃w',(Builtin.append_ #[152,9] p.type #[a.eval s,a.eval x]).run prog w= .ok (O (some ⟨(if b.length+l.length≤cap then g else w.heap.size),0,none⟩) (b++l).length (if b.length+l.length≤cap then cap else grownCap w (b.length+l.length) cap 5)) w'∧Y w0 o0 r0 (Al (O (some ⟨(if b.length+l.length≤cap then g else w.heap.size),0,none⟩) (b++l).length (if b.length+l.length≤cap then cap else grownCap w (b.length+l.length) cap 5)) (b++l)*R) w':=by
  rw[hv,f];by_cases d:b.length+l.length≤cap
  ·rw[JT d,JT d];obtain⟨C,d1,d2,d3,d4,d5,d6,d7,d8,d9⟩:=Zv g 5 t (dh l) w b.length cur c2 (by rw[q];omega);refine⟨_,run_append_room_src w 152 9 p.type 5 i5 underlying152 hi g 0 b.length cap (a.eval x) l.length (dh l) J d ?_ ?_,?_⟩
   ·intro j i;rw[BU,m,wU,jW w g _ cur 5 t c2,eV (by rw[q]at i;omega)];rfl
   ·intro j i;rw[q]at i;rw[BU,m,wU];rcases c3 with rfl|c3
    ·simp[World.frozen?,c2]
    ·exact sq c2 _ (by omega)
   ·rw[BU,m,wU];refine UZ hu (WZ b2 b3 b4 E F ⟨o1,r1,⟨D,g,cap,C,t,by rw[f],d1,c3,by rw[f];exact d,by rw[d2];exact c5,fun j i=> ?_,c7⟩,d6,d7,d8,by rw[d9];exact FT _,fun k _ n=>d5 k fun e=>n ((c7 k).2 e),fun _ h=> .inl h,fun _ h=> .inr (.inl h)⟩);rw[f]at i;by_cases n:j<b.length
    ·rw[d4 j (.inl n),c6 j n,eW n]
    ·rw[d3 j (by omega) (by rw[q];exact i),List.getElem_append_right (by omega)];exact Jw l _ (by omega)
  ·rw[DT d,DT d];have hold:(Builtin.firstCells i5.size b.length (O (some ⟨g,0,none⟩) b.length cap)).run prog w.drew= .ok (dh b).toArray w.drew:=by
    refine rY w.drew i5.size b.length ⟨g,0,none⟩ b.length cap (dh b) (by rw[m,wU];simp[dh]) fun j u i=> ?_;rw[CV,BU];show w.cell? _=_;rw[jW w g j cur 5 t c2];have z:j<b.length:=by have:=(ZU.1 i).1;simpa [dh]using this
    rw[c6 j z,←i,Jw b j z]
   have I:=QY w (b.length+l.length) cap 5;refine⟨_,qY w 152 9 p.type 5 i5 (.int .u8 0) underlying152 hi L (some ⟨g,0,none⟩) b.length cap (dh b) hold (a.eval x) l.length (dh l) J (by omega) (by omega) (uZ (by omega) (by rw[M];omega)),?_⟩;refine UZ hu (WZ b2 b3 b4 E F ?_);have N:=(TZ (A:=Al (O (some ⟨g,0,none⟩) b.length cap) b) (w:=w) ⟨D,g,cap,cur,t,rfl,c2,c3,c4,c5,c6,c7⟩).drew;refine((N.new (.cells ((dh b++dh l).toArray++Builtin.zeroCells (Value.cells (.int .u8 0)) (grownCap w (b.length+l.length) cap 5-(b.length+l.length))) 5)).le (KZ QZ ?_));constructor;rintro h o r ⟨T,U,W⟩;refine⟨o,r,⟨W,w.heap.size,_,_,(0,0),by rw[f],T,.inl rfl,by rw[f];exact I,?_,fun j i=> ?_,U⟩,fun _ h=>h,fun _ h=> .inr h⟩
   ·simp only[SX,zV,wZ,CT,dh,zU];have:(Value.cells (.int .u8 0)).size=1:=rfl;rw[this];omega
   ·rw[f]at i;rw[nY (by simp[dh];omega)];have:dh b++dh l=dh (b++l):=by simp[dh]
    rw[this];simpa using Jw (b++l) j (by rw[f];exact i)
 obtain⟨w',hr,n⟩:=run;refine IX H fun K G=> ?_;unfold Oper.wp execOp;simp only[ho,resolve,invoke,builtin,wW,YV,GV,uW,qU,gX,hr];exact G _ _ (X _ _ w' n)
theorem Y.VR{v:Value}{b:Bs}(h:Y w0 o0 r0 S w)[k:Find (Al v b) S R]:∃A c,v=O A b.length c∧(convert 152 9 v).run prog w= .ok (Ha b) w:=by obtain⟨o,r,⟨f,l,i,m,⟨e,g,cap,cur,a,rfl,c2,c3,c4,c5,c6,c7⟩,_⟩,hu⟩:=h.le k.split;refine⟨_,_,rfl,MV w 152 9 5 ⟨g,0,none⟩ cap b underlying152 underlying5 underlying9 fun j d=> ?_⟩;rw[CV,BU,jW w g j cur 5 a c2,c6 j d]
end
end
section
open Go.RowKit An Go.ChangeShapes Go.WideShapes Go.ChangeAt Go.Proofs.Tryz
def Ip(h i m:Nat):Nat:=(h+hmul i (Qe h))% 18446744073709551616 % m
theorem Qx(h i:Nat){m:Nat}(a:0<m):Ip h i m<m:=kY _ a
theorem lD(h i m:Nat)(hh:h<18446744073709551616)(hi:i≤1000)(q:1≤m∧m≤1000000000):Pq prog 198 #[Pa h,Z i,Z m] (Z (Ip h i m:Nat)):=by
 intro w;have t:=CP h hh;have k:IntKind.u64.wrap (i:Int)=i:=by rw[pU];omega
 have a:IntKind.u64.wrap ((i:Int)*((Qe h:Nat):Int))=((hmul i (Qe h):Nat):Int):=MG _ _;have b:IntKind.u64.wrap ((h:Int)+((hmul i (Qe h):Nat):Int))=(((h+hmul i (Qe h))% 18446744073709551616:Nat):Int):=by rw[pU];omega
 have r:=PK h hh;have n:=Qx h i (m:=m) (by omega);have c:(((h+hmul i (Qe h))% 18446744073709551616:Nat):Int)%(m:Int)=((Ip h i m:Nat):Int):=by unfold Ip;omega
 have l:IntKind.u64.wrap (m:Int)=m:=by rw[pU];omega
 have o:=V k;have f:=V a;have g:=V b;have j:=V c;have p:=V l
 clear a b c;go_enter func198,ntmps198;go_wp2_with fail;refine(t _).mono ?_;rintro e w' ⟨rfl,d,rfl⟩;go_wp2;go_ret;refine⟨?_,d,rfl⟩;show Ending.returned (Z _)=_;rw[f.out,g.out,cV (by omega),j.out,RP (by omega)]
def OI(a b:Nat):Bool:=decide (0<a)&&(decide (a≤120000)&&(decide (a % 60=0)&&(decide (1≤b)&&decide (b≤16))))
theorem Bk{a b:Nat}:OI a b=true↔0<a∧a≤120000∧a % 60=0∧1≤b∧b≤16:=by unfold OI;simp only[aU,bU]
theorem aH(a e:Nat)(o:a≤1000000000000)(n:e≤1000000000):Pq prog 286 #[Z a,Z e] (.bool (OI a e)):=by
 intro w;have hm:Int.tmod (a:Int) 60=((a % 60:Nat):Int):=by rw[cV (by omega)];omega
 have c:∀b,OI a e=b→Hid (Value.bool (OI a e)= .bool b):=fun b h=>V (by rw[h]);by_cases j:0<a
 ·by_cases k:a≤120000
  ·by_cases f:a % 60=0
   ·have g:(((a % 60:Nat):Int)==0)=true:=by rw[f];rfl
    by_cases l:1≤e
    ·by_cases m:e≤16
     ·have d:=c true (Bk.2 ⟨j,k,f,l,m⟩);have i:decide ((e:Int)≤16)=true:=RU (by omega);rw[d.out];clear f c;generalize a % 60=r at*;go_enter func286,ntmps286;go_wp2;go_ret;exact⟨rfl,0,rfl⟩
     ·have d:=c false (by rw[uV,mY,Bk];omega);have i:decide ((e:Int)≤16)=false:=yU (by omega);rw[d.out];clear f c;generalize a % 60=r at*;go_enter func286,ntmps286;go_wp2;go_ret;exact⟨rfl,0,rfl⟩
    ·have d:=c false (by rw[uV,mY,Bk];omega);rw[d.out];clear f c;generalize a % 60=r at*;go_enter func286,ntmps286;go_wp2;go_ret;exact⟨rfl,0,rfl⟩
   ·have g:(((a % 60:Nat):Int)==0)=false:=by rw[ET];omega
    have d:=c false (by rw[uV,mY,Bk];omega);rw[d.out];clear f c;generalize a % 60=r at*;go_enter func286,ntmps286;go_wp2;go_ret;exact⟨rfl,0,rfl⟩
  ·have d:=c false (by rw[uV,mY,Bk];omega);rw[d.out];clear c hm;go_enter func286,ntmps286;go_wp2;go_ret;exact⟨rfl,0,rfl⟩
 ·have d:=c false (by rw[uV,mY,Bk];omega);rw[d.out];clear c hm;go_enter func286,ntmps286;go_wp2;go_ret;exact⟨rfl,0,rfl⟩
def Qr(a b:Nat):Bs:=Qg ([98,108,109]++put b 1++put a 4++List.replicate 52 0)
theorem MI(a b:Nat):(Qr a b).length=64:=by simp[Qr,rj,Jb]
theorem WI:Pu prog 296 #[.string ⟨#[0]⟩,Z 52] (Ha (List.replicate 52 0)):=fun w=>by have t:=Tryz.strings_Repeat ⟨#[0]⟩ 52 w (by omega) (by decide);exact t
theorem iD(size Rb:Nat)(n:size≤1000000000000)(m:Rb≤1000000000):Pu prog 287 #[Z size,Z Rb] (Ha (Qr size Rb)):=by
 intro w;have I:=ZZ w;have t1:=Pg Rb 1 (by omega) (by omega) (by omega);have t2:=Pg size 4 (by omega) (by omega) (by omega);have k:IntKind.u64.wrap (Rb:Int)=Rb:=by rw[pU];omega
 have l:IntKind.u64.wrap (size:Int)=size:=by rw[pU];omega
 have f:([98,108,109]++put Rb 1++put size 4:Bs).length=8:=by simp[Jb]
 have g:(put Rb 1).length=1:=Jb _ _;have h:(put size 4).length=4:=Jb _ _;have t3:=nr ([98,108,109]++put Rb 1++put size 4++List.replicate 52 0) (by rw[CT,f];simp);have t4:=WI;have i:(List.replicate 52 (0:UInt8)).length=52:=rfl;have j:(⟨#[98,108,109]⟩:ByteArray)=mk [98,108,109]:=rfl;show Calls prog 287 _ w fun e w'=>e= .returned (Ha (Qg ([98,108,109]++put Rb 1++put size 4++List.replicate 52 0)))∧Below w.heap.size w w';generalize Qg ([98,108,109]++put Rb 1++put size 4++List.replicate 52 0)=out at*;generalize put Rb 1=o at*;generalize put size 4=p at*;generalize List.replicate 52 (0:UInt8)=t at*;simp only[TU,iV,iU]at t3;go_enter func287,ntmps287;go_wp2_with fail;refine I.kp t1 fun w2 a=> ?_;go_wp2_with fail;refine a.kp t2 fun q b=> ?_;go_wp2_with fail;refine b.kp t4 fun r c=> ?_;go_wp2_with fail;refine c.kp t3 fun s d=> ?_;go_wp2;go_ret;exact⟨rfl,d.Sc⟩
structure Bl where
 Rb:Nat
 size:Nat
 whole:List (Nat×Bs)
def Jg(F:Bl):yo:=F.whole.map fun p=>(p.1,Ha p.2)
structure kN(F:Bl):Prop where
 Rb:F.Rb≤16
 size:F.Rb≠0→0<F.size∧F.size≤120000
 len:∀p∈F.whole,p.2.length=60
def Sg(F:Bl)(M:Nat):Value:=.agg #[Z F.Rb,Z F.size,if F.Rb=0 then .map none else .map (some M)]
def Mm(F:Bl)(M:Nat):aa:=if F.Rb=0 then aa.emp else Ib prog 3 M (Rk (Jg F))
def Ws(F:Bl)(n:Nat):Option Bs:=(F.whole.find? fun p=>decide (p.1=n)).map (·.2)
theorem xC(F:Bl)(n:Nat):Ql n (Jg F)=(Ws F n).map fun s=>Ha s:=by
 unfold Ql Ws Jg;induction F.whole with
 |nil=>rfl
 |cons a r b=>
  rw[qU,oW,oW];by_cases h:a.1=n
  ·rw[show decide ((a.1,Ha a.2).1=n)=true from RU h];rfl
  ·rw[show decide ((a.1,Ha a.2).1=n)=false from yU h];exact b
theorem QI{F:Bl}(h:kN F){n:Nat}{s:Bs}(a:Ws F n=some s):s.length=60:=by
 unfold Ws at a;cases b:F.whole.find? fun p=>decide (p.1=n)with
 |none=>rw[b]at a;cases a
 |some p=>rw[b]at a;cases a;exact h.len p (tY b)
theorem tQ(w:World):(zeroValue 9).run prog w= .ok (Ha []) w:=by kernel_rfl
def WJ(c:UInt8)(k:Nat):Bool:=bits BinOp.and IntKind.u8 (c.toNat:Int) (2^k % 256)==0
def Sv(F:Bl)(h i:Nat):Bool:=match Ws F (Ip h i (8*F.size)/8/60)with
 |none=>true
 |some s=> !WJ (s.getD (Ip h i (8*F.size)/8 % 60) 0) (Ip h i (8*F.size)% 8)
def Rp(F:Bl)(h:Nat):Bool:=(List.range F.Rb).all (Sv F h)
theorem tI{F:Bl}{h:Nat}(a:∀i,i<F.Rb→Sv F h i=true):Rp F h=true:=by unfold Rp;rw[GU];intro i hi;exact a i (GW.1 hi)
theorem XE{F:Bl}{h k:Nat}(b:k<F.Rb)(c:Sv F h k=false):Rp F h=false:=by unfold Rp;rw[uV];intro a;rw[GU]at a;have:=a k (GW.2 b);rw[c]at this;cases this
theorem ZG(F:Bl)(M:Nat)(h:Nat)(hh:h<18446744073709551616)(hF:kN F):Ud prog 148 #[Sg F M,Pa h] (Mm F M) (.bool (Rp F h)) (Mm F M):=by
 intro w o r L;have X:=TZ L;have I:=X.Wa (.cells #[Z F.Rb,Z F.size,if F.Rb=0 then .map none else .map (some M)] 227) w.heap.size rfl;clear L;obtain⟨pr,sz,b⟩:=F;unfold Sg Mm at*;dsimp only at*;by_cases G:pr=0
 ·subst G;rw[JT rfl]at I⊢;rw[JT rfl];have c0:(w.alloc (.cells #[Z (0:Nat),Z sz,.map none] 227)).cell? ⟨w.heap.size,0,none⟩=some (Z (0:Nat)):=I.cells w.heap.size 0;have hm:Rp ⟨0,sz,b⟩ h=true:=rfl;rw[hm];go_enter func148,ntmps148;go_wp2_with fail;go_loopw [11] (fun t wr=>t=Z 0∧Y w o r (ba w.heap.size 227 #[Z (0:Nat),Z sz,.map none]) wr) (fun t _=>0);case atStart=>exact⟨rfl,I.ya⟩
  case round=>obtain⟨rfl,J⟩:=hrel;go_wp2;go_ret;exact⟨rfl,J.le (KZ (RZ (φ:=True) trivial) QZ)⟩
 ·simp only[DT G]at I⊢;obtain⟨res,n⟩:∃res,Rp ⟨pr,sz,b⟩ h=res:=⟨_,rfl⟩;rw[n];have K:=V n;clear n;go_enter func148,ntmps148;go_wp2_with fail;go_loopw [11] (fun t wr=>∃k:Nat,k≤pr∧t=Z k∧Hid (∀i,i<k→Sv ⟨pr,sz,b⟩ h i=true)∧Y w o r (ba w.heap.size 227 #[Z pr,Z sz,.map (some M)]*Ib prog 3 M (Rk (Jg ⟨pr,sz,b⟩))) wr) (fun t _=>pr-(intOf t).toNat);case atStart=>exact⟨0,WT _,rfl,V fun i hi=>by omega,I⟩
  case round=>
   obtain⟨k,hk,rfl,f,J⟩:=hrel;have c0:wr.cell? ⟨w.heap.size,0,none⟩=some (Z pr):=J.cells w.heap.size 0;have c1:wr.cell? ⟨w.heap.size,1,none⟩=some (Z sz):=J.cells w.heap.size 1;have c2:wr.cell? ⟨w.heap.size,2,none⟩=some (.map (some M)):=J.cells w.heap.size 2;have R:=hF.Rb;dsimp only at R;by_cases P:k<pr
   ·have U:=hF.size G;dsimp only at U;have t198:=lD h k (8*sz) hh (by omega) (by omega);rw[show((8*sz:Nat):Int)=8*(sz:Int) by omega]at t198;have Q:=Qx h k (m:=8*sz) (by omega);have a:Sv ⟨pr,sz,b⟩ h k=match Ws ⟨pr,sz,b⟩ (Ip h k (8*sz)/8/60)with
     |none=>true
     |some s=> !WJ (s.getD (Ip h k (8*sz)/8 % 60) 0) (Ip h k (8*sz)% 8):=rfl
    generalize Ip h k (8*sz)=z at*;obtain⟨q,S⟩:∃q,z/8=q:=⟨_,rfl⟩;obtain⟨p,D⟩:∃p,q/60=p:=⟨_,rfl⟩;obtain⟨c,E⟩:∃c,q % 60=c:=⟨_,rfl⟩;obtain⟨b1,A⟩:∃b1,z % 8=b1:=⟨_,rfl⟩;have a6:(z:Int)/8=(q:Int):=by omega
    have a7:(q:Int)/60=(p:Int):=by omega
    have a8:Int.tmod (q:Int) 60=(c:Int):=by rw[cV (by omega)];omega
    have aj:Int.tmod (z:Int) 8=(b1:Int):=by rw[cV (by omega)];omega
    have ak:IntKind.i64.wrap (q:Int)=(q:Int):=RT _ (by omega);have H:c<60:=by omega
    have al:b1<8:=by omega
    have W:(c:Int)<60:=by omega
    have a1:p≤1000000:=by omega
    rw[S,D,E,A]at a;clear S D E A Q;cases j:Ws ⟨pr,sz,b⟩ p with
    |none=>
     rw[j]at a;dsimp only at a;have v:Hid (∀i,i<k+1→Sv ⟨pr,sz,b⟩ h i=true):=V fun i hi=>by
      by_cases e:i=k
      ·subst e;exact a
      ·exact f.out i (by omega)
     clear a;go_wp2_with fail;refine(t198 _).mono ?_;rintro e w' ⟨rfl,d,rfl⟩;have y:=(Az (l:=Jg ⟨pr,sz,b⟩) (J.drewN d) M p (by omega) underlying225 tQ).1;rw[xC,j]at y;dsimp only[Option.map_none]at y;clear j;go_wp2_with fail;go_quiet (fail);go_wp2;go_roundw;case rel=>exact⟨k+1,by omega,by go_num,v,J.drewN (d+nq)⟩
     case measure=>simp[intOf];omega
    |some s=>
     rw[j]at a;dsimp only at a;have T:=QI hF j;have u:c<s.length:=by rw[T];exact H
     have C:Hid (Sv ⟨pr,sz,b⟩ h k= !(bits BinOp.and IntKind.u8 ((s[c]'u).toNat:Int) (2^b1 % 256)==0)):=V (by rw[a];unfold WJ;rw[kU,PT u];rfl);clear a;have x:=fun d=>(Az (l:=Jg ⟨pr,sz,b⟩) (J.drewN d) M p (by omega) underlying225 tQ).1;rw[xC,j]at x;dsimp only[Option.map_some]at x;clear j;cases B:(bits BinOp.and IntKind.u8 ((s[c]'u).toNat:Int) (2^b1 % 256)==0)with
     |true=>
      have g:res=false:=by rw[←K.out];exact XE P (by rw[C.out,B];rfl)
      subst g;go_wp2_with fail;refine(t198 _).mono ?_;rintro e w' ⟨rfl,d,rfl⟩;have y:=x d;go_wp2_with fail;go_quiet (fail);go_wp2;go_ret;exact⟨rfl,((J.drewN d).drewN nq).ya⟩
     |false=>
      have v:Hid (∀i,i<k+1→Sv ⟨pr,sz,b⟩ h i=true):=V fun i hi=>by
       by_cases e:i=k
       ·subst e;rw[C.out,B];rfl
       ·exact f.out i (by omega)
      go_wp2_with fail;refine(t198 _).mono ?_;rintro e w' ⟨rfl,d,rfl⟩;have y:=x d;go_wp2_with fail;go_quiet (fail);go_wp2;go_roundw;case rel=>exact⟨k+1,by omega,by go_num,v,J.drewN (d+nq)⟩
      case measure=>simp[intOf];omega
   ·have N:k=pr:=by omega
    subst N;have g:res=true:=by rw[←K.out];exact tI fun i hi=>f.out i hi
    subst g;go_wp2;go_ret;exact⟨rfl,J.ya⟩
end
end Go.Proofs.YteacbkflfafefaaGreatDoor
