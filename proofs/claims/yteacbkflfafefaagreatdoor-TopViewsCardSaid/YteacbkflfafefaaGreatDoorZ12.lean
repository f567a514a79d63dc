/- Part 13 of 50 of the proof that TopViews returns true at every input: lemmas on the way; no condition. -/
import Derived.Test.YteacbkflfafefaaGreatDoorZ5
import Derived.Test.YteacbkflfafefaaGreatDoorZ8
import Derived.Test.YteacbkflfafefaaGreatDoorZ10
import Derived.Test.YteacbkflfafefaaGreatDoorProg
namespace Go.Proofs.YteacbkflfafefaaGreatDoor
set_option linter.all false
set_option maxHeartbeats 4000000
set_option maxRecDepth 100000
section
open Go.RowKit An Go.ChangeShapes Go.WideShapes Go.ChangeAt Go.Proofs.Tryz
theorem cD(l:Bs)(b:UInt8):num (l++[b])=num l*256+b.toNat:=by simp[num]
theorem cm(l:Bs):num l<256^l.length:=by
 have h:∀ (l:Bs) (n:Nat),l.foldl (fun n c=>n*256+c.toNat) n<(n+1)*256^l.length:=by
  intro l;induction l with
  |nil=>intro n;simp
  |cons c r a=>intro n;have b:=a (n*256+c.toNat);have d:=c.toNat_lt;have e:(n*256+c.toNat+1)*256^r.length≤((n+1)*256)*256^r.length:=mV _ (by omega);simp only[fW,UT,FX];rw[gY (256^r.length) 256,←Nat.mul_assoc];omega
 have:=h l 0;simpa [num]using this
theorem dP(x:Nat)(b:UInt8)(a:x<72057594037927936):bits .or .u64 (IntKind.u64.wrap ((x:Int)*256)) (IntKind.u64.wrap (b.toNat:Int))=((x*256+b.toNat:Nat):Int):=by have hb:=b.toNat_lt;rw[show IntKind.u64.wrap ((x:Int)*256)=((x*256:Nat):Int) by rw[pU];omega,show IntKind.u64.wrap (b.toNat:Int)=((b.toNat:Nat):Int) by rw[pU];omega,bits_or_u64_nat _ _ (by omega) (by omega)];have:=Nat.shiftLeft_add_eq_or_of_lt (i:=8) (b:=b.toNat) (by omega) x;rw[Nat.shiftLeft_eq]at this;rw[←this]
theorem tq(s:Bs)(m:s.length≤1000000000):Pq prog 97 #[Ha s] (Pa (num (s.take 8):Nat)):=by
 intro w;go_enter func97,ntmps97;go_wp2_with fail;go_loop [3,8] (fun n i=>∃k:Nat,k≤min s.length 8∧i=Z k∧n=Pa (num (s.take k):Nat)) (fun _ i=>s.length-(intOf i).toNat);case atStart=>exact⟨0,WT _,rfl,rfl⟩
 case round=>
  obtain⟨k,l,rfl,rfl⟩:=hrel;by_cases j:k<min s.length 8
  ·have c:k<s.length:=by omega
   have d:(s.take k).length=k:=by rw[OT];omega
   have e:=cm (s.take k);rw[d]at e;have g:256^k≤256^7:=XV (by decide) (by omega);have a:=dP (num (s.take k)) (s[k]'c) (by omega);have f:=V a;clear a e g d;go_wp2_with fail;go_round;case rel=>refine⟨k+1,by omega,by go_num,?_⟩;rw[f.out,rU (by omega),cD]
   case measure=>simp[intOf];omega
  ·have b:s.take k=s.take 8:=by
    rcases DZ s.length 8 with h|h
    ·rw[YT (by omega),YT h]
    ·rw[show k=8 by omega]
   rw[b];clear b;go_wp2;go_ret;exact⟨rfl,0,rfl⟩
theorem GG(n:Nat)(e:n≤1000000)(w:World):∃cs:Array Value,cs.size=n∧(Instr.makeSlice 152 (Z n) (Z n)).run prog w= .ok (O (some ⟨w.heap.size,0,none⟩) n n) (w.alloc (.cells cs 5)):=by obtain⟨i5,b,c,a,d⟩:=info_parts Ov;have h:=Go.run_makeSlice (P:=prog) (w:=w) 152 5 i5 _ underlying152 b c .i64 .i64 n n (by omega) (MY _) (by rw[a];omega) (by rw[d];omega) (by omega);simp only[gV]at h;exact⟨_,by rw[size_madeCells,a,wU],h⟩
theorem jG{l:Bs}{i:Nat}(d:UInt8)(h:i<l.length):l.getD i d=l[i]:=by simp[kU,h]
@[go_sem] theorem vf(n size:Nat):(put n size).length=size:=by simp[put]
theorem jP(n a j:Nat)(h:j<a):(put n a)[j]'(by rw[vf];exact h)=b8 (n/256^(a-1-j)):=by simp[put]
theorem Pg(n size:Nat)(q:1≤size)(y:size≤8)(l:n<18446744073709551616):Pu prog 140 #[Pa n,Z size] (Ha (put n size)):=by
 intro w;have t:=V l;clear l;obtain⟨d,f,e⟩:=GG size (by omega) w;have I:=(ZZ w).new (.cells d 5);go_enter func140,ntmps140;go_wp2_with fail;go_loopw [16] (fun i wr=>∃ (k:Nat) (cs:Array Value),k≤size∧i=Z k∧cs.size=size∧(∀j,size-k≤j→j<size→cs[j]? =some (.int .u8 ((put n size).getD j 0).toNat))∧Y w (fun _=>False) (fun _=>False) (ba w.heap.size 5 cs) wr) (fun i _=>size-(intOf i).toNat);case atStart=>exact⟨0,d,WT _,rfl,f,fun j q x=>by omega,I.ya⟩
 case round=>
  obtain⟨k,cs,z,rfl,g,a,J⟩:=hrel;by_cases s:k<size
  ·obtain⟨u0,v⟩:∃u,wr.cell? ⟨w.heap.size,size-1-k,none⟩=some u:=⟨cs[size-1-k]'(by omega),by rw[J.cells w.heap.size,eV (by omega)]⟩;have f0:∀i,wr.frozen? ⟨w.heap.size,i,none⟩=false:=J.free w.heap.size;have m:((n:Int)/2^(8*k)% 256)=(((put n size).getD (size-1-k) 0).toNat:Int):=by rw[jG _ (by rw[vf];omega),jP _ _ _ (by omega),show size-1-(size-1-k)=k by omega,show(2:Int)^(8*k)=((256^k:Nat):Int) by rw[Int.pow_mul];simp];simp[b8]
   have o:=V a;have p:=V m;clear a e I m;go_wp2;go_roundw;case rel=>
    refine⟨k+1,cs.setIfInBounds (size-1-k) (.int .u8 ((n:Int)/2^(8*k)% 256)),by omega,by go_num,by simp[g],fun j r h=> ?_,(J.put w.heap.size (size-1-k) _).ya⟩;rw[qV];by_cases b:size-1-k=j
    ·subst b;rw[JT rfl,JT (by omega),p.out]
    ·rw[DT b];exact o.out j (by omega) h
   case measure=>simp[intOf];omega
  ·obtain rfl:k=size:=by omega
   have c:=MV wr 152 9 5 ⟨w.heap.size,0,none⟩ k (put n k) underlying152 underlying5 underlying9 (fun j b=>by rw[vf]at b;rw[CV,BU,J.cells w.heap.size,a j (by omega) b,jG _ (by rw[vf];exact b)]);rw[vf]at c;have hb:=J.Sc;clear a e I;go_wp2;go_ret;exact⟨rfl,hb⟩
theorem Vh{s r:Bs}{lo hi:Int}(h:0≤lo∧lo≤hi∧hi≤s.length)(c:(s.drop lo.toNat).take (hi-lo).toNat=r)(w:World):(Instr.slice 9 (Ha s) (some (Z lo)) (some (Z hi)) none).run prog w= .ok (Ha r) w:=by obtain⟨d,e,f⟩:=h;have a:(Instr.sliceBound (Z hi) s.length .sliceAlen).run prog w= .ok hi.toNat w:=vZ w .i64 hi _ _ (by omega) (by omega);have b:(Instr.sliceBound (Z lo) hi.toNat .sliceB).run prog w= .ok lo.toNat w:=vZ w .i64 lo _ _ (by omega) (by omega);simp[Instr.slice,SU underlying9,Instr.sliceBounds,a,b];rw[←c,show hi.toNat-lo.toNat=(hi-lo).toNat by omega]
theorem qm{s r:Bs}{lo:Int}(h:0≤lo∧lo≤s.length)(b:s.drop lo.toNat=r)(w:World):(Instr.slice 9 (Ha s) (some (Z lo)) none none).run prog w= .ok (Ha r) w:=by obtain⟨c,d⟩:=h;have a:(Instr.sliceBound (Z lo) s.length .sliceB).run prog w= .ok lo.toNat w:=vZ w .i64 lo _ _ (by omega) (by omega);simp[Instr.slice,SU underlying9,Instr.sliceBounds,a];rw[←b,YT (by rw[cU];omega)]
theorem jm{s r:Bs}{hi:Int}(h:0≤hi∧hi≤s.length)(b:s.take hi.toNat=r)(w:World):(Instr.slice 9 (Ha s) none (some (Z hi)) none).run prog w= .ok (Ha r) w:=by obtain⟨c,d⟩:=h;have a:(Instr.sliceBound (Z hi) s.length .sliceAlen).run prog w= .ok hi.toNat w:=vZ w .i64 hi _ _ (by omega) (by omega);simp[Instr.slice,SU underlying9,Instr.sliceBounds,a,b]
theorem AB(s:Bs)(a:s.length≤65535):Pu prog 176 #[Ha s] (Ha (text s)):=by
 intro w;have t:=Pg s.length 2 (by omega) (by omega) (by omega);have hw:IntKind.u64.wrap (s.length:Int)=s.length:=by rw[pU];omega
 go_enter func176,ntmps176;go_wp2_with fail;refine(t w).mono ?_;rintro e w' ⟨rfl,hb⟩;go_wp2;go_ret;exact⟨rfl,hb⟩
def wS(o:Option (Bs×Bs)):Value:=match o with
 |none=> .tuple #[Ha [],Ha [],.bool false]
 |some (a,b)=> .tuple #[Ha a,Ha b,.bool true]
theorem qF(s:Bs)(g:s.length≤100000000):Pq prog 99 #[Ha s] (wS (Si s)):=by
 intro w;by_cases a:s.length<2
 ·have e:Si s=none:=by simp[Si,a]
  rw[e];clear e;go_enter func99,ntmps99;go_wp2;go_ret3;exact⟨rfl,0,rfl⟩
 ·have t:=tq (s.take 2) (by rw[OT];omega);rw[QV,show min 8 2=2 from rfl]at t;have c:=cm (s.take 2);rw[OT,QU (by omega)]at c;have e:Si s=if s.length-2<num (s.take 2)then none else some ((s.drop 2).take (num (s.take 2)),s.drop (2+num (s.take 2))):=by simp[Si,a]
  generalize num (s.take 2)=k at*;by_cases b:s.length-2<k
  ·rw[e,JT b];clear e;go_enter func99,ntmps99;go_wp2_with fail;refine(t w).mono ?_;rintro e w' ⟨rfl,m,rfl⟩;go_wp2;go_ret3;exact⟨rfl,m,rfl⟩
  ·rw[e,DT b];have hw:IntKind.i64.wrap (2+(k:Int))=((2+k:Nat):Int):=by rw[RT _ (by omega)];omega
   have hle:2+k≤s.length:=by omega
   clear e;go_enter func99,ntmps99;go_wp2_with fail;refine(t w).mono ?_;rintro e w' ⟨rfl,m,rfl⟩;go_wp2_with fail;have d:∀w,(Instr.slice 9 (Ha s) (some (Z 2)) (some (Z (2+(k:Int)))) none).run prog w= .ok (Ha ((s.drop 2).take k)) w:=Vh (by omega) (by congr 2<;>omega);have f:∀w,(Instr.slice 9 (Ha s) (some (Z (2+(k:Int)))) none none).run prog w= .ok (Ha (s.drop (2+k))) w:=qm (by omega) (by congr 1<;>omega);go_quiet (fail);go_wp2;go_ret3;exact⟨rfl,m+nq,by rw[NU]⟩
theorem QN{x:Nat}(h:x<4294967296):nE x<4294967296:=by unfold nE;refine mX (n:=32) (by omega) ?_;have:x % 2<2:=kY _ (by decide);omega
theorem tA{x:Nat}(h:x<4294967296):∀k,Yw k x<4294967296
 |0=>h
 |k+1=>QN (tA h k)
theorem eN{x:Nat}(h:x<4294967296)(c:UInt8):x^^^c.toNat<4294967296:=mX (n:=32) h (by have:=c.toNat_lt;omega)
theorem RN{x:Nat}(h:x<4294967296)(c:UInt8):Ct x c<4294967296:=tA (eN h c) 8
theorem Dt(s:Bs):∀ {x:Nat},x<4294967296→s.foldl Ct x<4294967296:=by
 induction s with
 |nil=>intro x h;exact h
 |cons c r a=>intro x h;exact a (RN h c)
theorem uK(x:Nat)(c:x<4294967296):bits .xor .u32 ((x:Int)/2) (bits .and .u32 3988292384 (IntKind.u32.wrap (-bits .and .u32 (x:Int) 1)))=(nE x:Nat):=by
 have b:bits .and .u32 (x:Int) 1=((x % 2:Nat):Int):=by have:=u32_and_nat x 1 c (by decide);rw[Nat.and_one_is_mod]at this;exact this
 have a:((x:Int)/2)=((x/2:Nat):Int):=by omega
 rw[b,a];rcases Nat.mod_two_eq_zero_or_one x with h|h<;>rw[h]
 ·rw[show IntKind.u32.wrap (-((0:Nat):Int))=((0:Nat):Int) by decide,show bits .and .u32 3988292384 ((0:Nat):Int)=((0:Nat):Int) by decide,yZ _ _ (by omega) (by decide)];simp[nE,h]
 ·rw[show IntKind.u32.wrap (-((1:Nat):Int))=4294967295 by decide,show bits .and .u32 3988292384 4294967295=((3988292384:Nat):Int) by decide,yZ _ _ (by omega) (by decide)];simp[nE,h]
theorem BP(x:Nat)(c:UInt8)(a:x<4294967296):Pq prog 246 #[.int .u32 x,.int .u8 (c.toNat:Int)] (.int .u32 (Ct x c:Nat)):=by
 intro w;have g:=c.toNat_lt;have b:bits .xor .u32 (x:Int) ((c.toNat:Int)% 4294967296)=((Yw 0 (x^^^c.toNat):Nat):Int):=by rw[show(c.toNat:Int)% 4294967296=((c.toNat:Nat):Int) by omega,yZ _ _ a (by omega)];rfl
 have d:=eN a c;have hb:∀k,bits .xor .u32 ((Yw k (x^^^c.toNat):Int)/2) (bits .and .u32 3988292384 (-bits .and .u32 (Yw k (x^^^c.toNat):Int) 1 % 4294967296))=(Yw (k+1) (x^^^c.toNat):Nat):=fun k=>by rw[←IntKind.wrap_u32];exact uK _ (tA d k)
 have e:=V b;have f:=V hb;have j:=V a;clear b d hb a g;go_enter func246,ntmps246;go_wp2_with fail;go_loop [0,9] (fun n i=>∃k:Nat,k≤8∧i=Z k∧n= .int .u32 (Yw k (x^^^c.toNat):Nat)) (fun _ i=>8-(intOf i).toNat);case atStart=>exact⟨0,WT _,rfl,by rw[e.out]⟩
 case round=>
  obtain⟨k,l,rfl,rfl⟩:=hrel;by_cases h:k<8
  ·go_wp2_with fail;go_round;case rel=>exact⟨k+1,by omega,by go_num,by rw[f.out]⟩
   case measure=>simp[intOf];omega
  ·obtain rfl:k=8:=by omega
   go_wp2;go_ret;exact⟨rfl,0,rfl⟩
theorem WO(s:Bs)(f:s.length≤100000000):Pq prog 196 #[.int .u32 0,Ha s] (.int .u32 (Oy s:Nat)):=by
 intro w;have a:bits .xor .u32 IntKind.u32.max ((s.foldl Ct 4294967295:Nat):Int)=((Oy s:Nat):Int):=by exact yZ 4294967295 _ (by decide) (Dt s (by decide))
 have c:=V a;clear a;go_enter func196,ntmps196;go_wp2_with fail;go_loopw [5,11] (fun n i wr=>∃k m:Nat,k≤s.length∧i=Z k∧n= .int .u32 ((s.take k).foldl Ct 4294967295:Nat)∧wr=w.drewN m) (fun _ i _=>s.length-(intOf i).toNat);case atStart=>exact⟨0,0,WT _,rfl,rfl,rfl⟩
 case round=>
  obtain⟨k,m,d,rfl,rfl,rfl⟩:=hrel;by_cases b:k<s.length
  ·have t:=BP ((s.take k).foldl Ct 4294967295) s[k] (Dt _ (by decide));go_wp2_with fail;refine(t _).mono ?_;rintro e w' ⟨rfl,m2,rfl⟩;go_wp2;go_roundw;case rel=>exact⟨k+1,m+m2,by omega,by go_num,by rw[rU b,UX];rfl,rfl⟩
   case measure=>simp[intOf];omega
  ·rw[YT (by omega)];go_wp2;go_ret;refine⟨?_,m,rfl⟩;show Ending.returned (Value.int .u32 (bits .xor .u32 IntKind.u32.max ((s.foldl Ct 4294967295:Nat):Int)))=_;rw[c.out]
theorem uA(s:Bs):Oy s<4294967296:=mX (n:=32) (by decide) (Dt s (by decide))
theorem FM(s:Bs)(a:s.length≤100000000):Pq prog 144 #[Ha s] (.int .u32 (Oy s:Nat)):=by intro w;have t:=WO s a;go_enter func144,ntmps144;go_wp2_with fail;refine(t _).mono ?_;rintro e w' ⟨rfl,m,rfl⟩;go_wp2;go_ret;exact⟨rfl,m,rfl⟩
theorem fT(n:Nat):put n 4=[b8 (n/16777216),b8 (n/65536),b8 (n/256),b8 n]:=by simp[put,List.range_succ]
class xg(g:Nat)(S:aa)(cs:outParam (Array Value))(t:outParam (TypeId))(fz:outParam (Nat×Nat))(R:outParam aa):Prop where
 split:aa.le S (aa.obj g (.cells cs t fz)*R)
instance (priority:=1000) xg.here {g:Nat}{cs:Array Value}{t:TypeId}{a:Nat×Nat}{R:aa}:xg g (aa.obj g (.cells cs t a)*R) cs t a R:=⟨JZ _⟩
instance (priority:=900) xg.last {g:Nat}{cs:Array Value}{t:TypeId}{a:Nat×Nat}:xg g (aa.obj g (.cells cs t a)) cs t a aa.emp:=⟨KZ (RZ trivial) NZ⟩
instance (priority:=800) xg.right {g:Nat}{cs:Array Value}{t:TypeId}{a:Nat×Nat}{B S R:aa}[h:xg g S cs t a R]:xg g (B*S) cs t a (B*R):=⟨KZ (MZ (JZ _) h.split) (KZ PZ (KZ (MZ NZ (JZ _)) OZ))⟩
instance (priority:=700) xg.left {g:Nat}{cs:Array Value}{t:TypeId}{a:Nat×Nat}{B S R:aa}[h:xg g S cs t a R]:xg g (S*B) cs t a (R*B):=⟨KZ (MZ h.split (JZ _)) OZ⟩
theorem Y.kQ{d w w':World}{b c:Td}{S:aa}(h:Y d b c S w)(x:Obj)(l:w'.heap.size=w.heap.size+1)(i:w'.heap[w.heap.size]? =some x)(k:∀j,j<w.heap.size→w'.heap[j]? =w.heap[j]?) (e:w'.os=w.os) (f:w'.tape=w.tape) (g:w'.output=w.output):Y d b c (aa.obj w.heap.size x*S) w':=by
 refine(h.new x).as ?_ e f g;apply Array.ext_getElem?;intro j;show w'.heap[j]? =(w.heap.push x)[j]?;rcases KY j w.heap.size with a|a|a
 ·rw[k j a];simp[Array.getElem?_push,EZ a]
 ·subst a;rw[i];simp
 ·rw[Array.getElem?_eq_none (by omega),Array.getElem?_eq_none (by simp;omega)]
theorem Y.conv{l w:World}{i k:Td}{S:aa}(h:Y l i k S w)(s:Bs):∃c C e f,(convert 9 152 (Ha s)).run prog w= .ok (O (some ⟨w.heap.size,0,none⟩) s.length c) f∧Y l i k (aa.obj w.heap.size (.cells C 5 e)*S) f∧f.heap[w.heap.size]? =some (.cells C 5 e)∧s.length≤e.1∧s.length≤C.size∧s.length≤c∧∀j (b:j<s.length),C[j]? =some (.int .u8 (s[j].toNat:Int)):=by
 have g:=Lib.run_convert_string_bytes (P:=prog) w 9 152 5 (mk s) underlying9 underlying152 underlying5;rw[Ph]at g;have a:=QY w s.length 0 5;have d:(Lib.bytesCells w 5 (mk s)).size=grownCap w s.length 0 5:=by simp only[Lib.bytesCells,mk_data,SX,Array.size_map,zV,iY,Ph];omega
 refine⟨_,Lib.bytesCells w 5 (mk s),((Lib.bytesCells w 5 (mk s)).size,(Lib.bytesCells w 5 (mk s)).size+1),_,g,h.kQ _ (Lib.bytesWorld_size ..) (ZY ..) (fun j b=>Lib.bytesWorld_at_old w 5 (mk s) j b) rfl rfl rfl,ZY ..,?_,?_,a,fun j b=> ?_⟩
 ·rw[d];exact a
 ·rw[d];exact a
 ·simp only[Lib.bytesCells,mk_data];rw[nY (by simpa using b)];simp[b]
theorem Y.putObj{e w:World}{c d:Td}{S R:aa}{cs:Array Value}{t:TypeId}{a:Nat×Nat}(h:Y e c d S w)(g i:Nat)(u:Value)[k:xg g S cs t a R]:Y e c d (aa.obj g (.cells (cs.setIfInBounds i u) t a)*R) (w.setCell ⟨g,i,none⟩ u):=by have f:Find (aa.obj g (.cells cs t a)) S R:=⟨k.split⟩;have hb:=h.obj (g:=g) (x:=.cells cs t a);refine h.Ec (g:=g) (x:=.cells cs t a) ?_ rfl rfl rfl (by simp[World.setCell]) fun k _ b=>fX w _ u k b;simp[World.setCell,DW,hb]
theorem qh{w:World}{g:Nat}{C:Array Value}{t:TypeId}{a:Nat×Nat}(h:w.heap[g]? =some (.cells C t a))(j:Nat):w.cell? ⟨g,j,none⟩=C[j]? :=jW w g j C t a h
theorem sq{w:World}{g:Nat}{C:Array Value}{t:TypeId}{a:Nat×Nat}(h:w.heap[g]? =some (.cells C t a))(j:Nat)(b:j<a.1):w.frozen? ⟨g,j,none⟩=false:=by simp[World.frozen?,h];omega
theorem qL(n:Nat)(q:n<4294967296):Pu prog 143 #[.int .u32 n] (Ha (low n)):=by
 intro w;have t:=Pg n 4 (by omega) (by omega) (by omega);have hw:IntKind.u64.wrap (n:Int)=n:=by rw[pU];omega
 have I:=ZZ w;rw[fT]at t;have A:=V q;clear q;go_enter func143,ntmps143;go_wp2_with fail;refine I.kp t fun w' i=> ?_;obtain⟨c,C,s,d,p,j,b,f,l,e,a⟩:=i.conv [b8 (n/16777216),b8 (n/65536),b8 (n/256),b8 n];simp only[UT,JU]at p f l e a;generalize w'.heap.size=g at*;have B:d.cell? ⟨g,0,none⟩=some (.int .u8 ((b8 (n/16777216)).toNat:Int)):=by rw[qh b];exact a 0 (by omega)
 have D:d.cell? ⟨g,1,none⟩=some (.int .u8 ((b8 (n/65536)).toNat:Int)):=by rw[qh b];exact a 1 (by omega)
 have c2:d.cell? ⟨g,2,none⟩=some (.int .u8 ((b8 (n/256)).toNat:Int)):=by rw[qh b];exact a 2 (by omega)
 have c3:d.cell? ⟨g,3,none⟩=some (.int .u8 ((b8 n).toNat:Int)):=by rw[qh b];exact a 3 (by omega)
 have f0:=sq b 0 (by omega);have f1:=sq b 1 (by omega);have f2:=sq b 2 (by omega);have f3:=sq b 3 (by omega);have J:=fun m=>(((((j.drewN m).putObj g 0 (.int .u8 ((b8 n).toNat:Int))).putObj g 1 (.int .u8 ((b8 (n/256)).toNat:Int))).putObj g 2 (.int .u8 ((b8 (n/65536)).toNat:Int))).putObj g 3 (.int .u8 ((b8 (n/16777216)).toNat:Int)));have o:=fun m=>(J m).obj (g:=g) (x:=.cells ((((C.setIfInBounds 0 (.int .u8 ((b8 n).toNat:Int))).setIfInBounds 1 (.int .u8 ((b8 (n/256)).toNat:Int))).setIfInBounds 2 (.int .u8 ((b8 (n/65536)).toNat:Int))).setIfInBounds 3 (.int .u8 ((b8 (n/16777216)).toNat:Int))) 5 s);have hb:=fun m=>(J m).Sc;have u:∀m,(convert 152 9 (O (some ⟨g,0,none⟩) 4 c)).run prog ((((((d.drewN m).setCell ⟨g,0,none⟩ (.int .u8 ((b8 n).toNat:Int))).setCell ⟨g,1,none⟩ (.int .u8 ((b8 (n/256)).toNat:Int))).setCell ⟨g,2,none⟩ (.int .u8 ((b8 (n/65536)).toNat:Int))).setCell ⟨g,3,none⟩ (.int .u8 ((b8 (n/16777216)).toNat:Int))))= .ok (Ha (low n)) _:=fun m=>MV _ 152 9 5 ⟨g,0,none⟩ c (low n) underlying152 underlying5 underlying9 (fun k v=>by
  rw[CV,BU,qh (o m)];simp only[low,UT,JU]at v;have y:0<C.size:=by omega
  have s1:1<C.size:=by omega
  have s2:2<C.size:=by omega
  have z:3<C.size:=by omega
  have:k=0∨k=1∨k=2∨k=3:=by omega
  rcases this with rfl|rfl|rfl|rfl<;>simp[qV,low,y,s1,s2,z]);have r:=V hb;clear a b f l e j i I t J hw o hb;go_wp2_with fail;refine qi [0,1,2,3,4,7,10,13] [5,6,8,9,11,12,14,15] [16,17,18,19,20,21,22,23] (by kernel_rfl) (by kernel_rfl) (fun _ _ _ _ _ h=>h) ?_;simp only[QT,VT,MT,NT];dsimp only[Ub];go_simp;repeat (quiet_step (fail))
 refine fU ?_;first|(rintro _ ⟨nq,rfl⟩)|(intro nq)
 go_wp2;go_ret;exact⟨rfl,r.out nq⟩
@[go_sem] theorem XQ(n:Nat):(low n).length=4:=rfl
theorem nr(s:Bs)(b:s.length≤10000000):Pu prog 139 #[Ha s] (Ha (Qg s)):=by intro w;have I:=ZZ w;have t:=FM s (by omega);have t2:=qL (Oy s) (uA s);go_enter func139,ntmps139;go_wp2_with fail;refine(t _).mono ?_;rintro e w' ⟨rfl,m,rfl⟩;go_wp2_with fail;refine((I.drewN m).pu t2).mono ?_;rintro e w' ⟨rfl,a⟩;go_wp2;go_ret;exact⟨rfl,a.Sc⟩
def Mx(o:Option Bs):Value:=match o with
 |none=> .tuple #[Ha [],.bool false]
 |some a=> .tuple #[Ha a,.bool true]
theorem iB(s:Bs)(k:s.length≤10000000):Pu prog 98 #[Ha s] (Mx (Eg s)):=by
 intro w;have I:=ZZ w;by_cases f:s.length<4
 ·have e:Eg s=none:=by simp[Eg,f]
  rw[e];clear e;have hb:decide ((s.length:Int)<4)=true:=RU (by omega);go_enter func98,ntmps98;go_wp2_with fail;go_quiet (fail);go_wp2;go_ret2;exact⟨rfl,(I.drewN _).Sc⟩
 ·have hb:decide ((s.length:Int)<4)=false:=yU (by omega);have hw:IntKind.i64.wrap ((s.length:Int)-4)=(s.length:Int)-4:=RT _ (by omega);have t:=FM (s.take (s.length-4)) (by rw[OT];omega);have t2:=qL (Oy (s.take (s.length-4))) (uA _);have i:∀w,(Instr.slice 9 (Ha s) none (some (Z ((s.length:Int)-4))) none).run prog w= .ok (Ha (s.take (s.length-4))) w:=jm (by omega) (by congr 1<;>omega);have j:∀w,(Instr.slice 9 (Ha s) (some (Z ((s.length:Int)-4))) none none).run prog w= .ok (Ha (s.drop (s.length-4))) w:=qm (by omega) (by congr 1<;>omega);have e:Eg s=if low (Oy (s.take (s.length-4)))=s.drop (s.length-4)then some (s.take (s.length-4))else none:=by simp[Eg,f]
  rw[e];clear e;generalize low (Oy (s.take (s.length-4)))=x at*;generalize s.drop (s.length-4)=y at*;by_cases b:x=y
  ·rw[JT b];subst b;go_enter func98,ntmps98;go_wp2_with fail;refine OU (by kernel_rfl) (by kernel_rfl) ?_;repeat (quiet_step ((first|(refine gU (t.pu _))|(refine gU (t2 _)))))
   refine fU ?_;first|(rintro _ ⟨a,rfl⟩)|(intro a)
   have c:=jU w a.d a.os;generalize Go.Sort.grow (redrawn w a.d) a.os=g at*;clear a;go_wp2;go_ret2;exact⟨rfl,(I.below c).Sc⟩
  ·rw[DT b];have h:(x==y)=false:=by simpa using b
   go_enter func98,ntmps98;go_wp2_with fail;refine OU (by kernel_rfl) (by kernel_rfl) ?_;repeat (quiet_step ((first|(refine gU (t.pu _))|(refine gU (t2 _)))))
   refine fU ?_;first|(rintro _ ⟨a,rfl⟩)|(intro a)
   have c:=jU w a.d a.os;generalize Go.Sort.grow (redrawn w a.d) a.os=g at*;clear a;go_wp2;go_ret2;exact⟨rfl,(I.below c).Sc⟩
theorem cr(a b:Nat):hmul a b<18446744073709551616:=kY _ (by decide)
theorem UD{a b:Nat}(c:a<18446744073709551616)(d:b<18446744073709551616):a^^^b<18446744073709551616:=mX (n:=64) c d
theorem oO(h:Nat):gI h<18446744073709551616:=UD (cr _ _) (WV (vY _ _) (cr _ _))
theorem wH{a b:Nat}(c:a<18446744073709551616)(d:b<18446744073709551616):bits .xor .u64 (a:Int) (b:Int)=((a^^^b:Nat):Int):=bits_xor_u64_nat _ _ c d
theorem MG(a b:Nat):IntKind.u64.wrap ((a:Int)*b)=((hmul a b:Nat):Int):=by rw[pU,hmul];simp
theorem pS(h:Nat)(hh:h<18446744073709551616):Pq prog 64 #[Pa h] (Pa (gI h:Nat)):=by
 intro w;have a:bits .xor .u64 (h:Int) ((h:Int)/4294967296)=((h^^^(h/4294967296):Nat):Int):=by rw[show(h:Int)/4294967296=((h/4294967296:Nat):Int) by omega];exact wH hh (by omega)
 have b:IntKind.u64.wrap (((h^^^(h/4294967296):Nat):Int)*11400714819323198485)=((hmul (h^^^(h/4294967296)) 11400714819323198485:Nat):Int):=MG _ 11400714819323198485;have c:bits .xor .u64 ((hmul (h^^^(h/4294967296)) 11400714819323198485:Nat):Int) (((hmul (h^^^(h/4294967296)) 11400714819323198485:Nat):Int)/536870912)=((gI h:Nat):Int):=by have:=cr (h^^^(h/4294967296)) 11400714819323198485;rw[show((hmul (h^^^(h/4294967296)) 11400714819323198485:Nat):Int)/536870912=((hmul (h^^^(h/4294967296)) 11400714819323198485/536870912:Nat):Int) by omega];exact wH this (by omega)
 have d:=V a;have e:=V b;have f:=V c
 clear a b c hh;go_enter func64,ntmps64;go_wp2;go_ret;refine⟨?_,0,rfl⟩;show Ending.returned (Pa _)=_;rw[d.out,e.out,f.out]
def No(h:Nat)(c:UInt8):Nat:=hmul (h^^^c.toNat) 1099511628211
theorem pO(s:Bs):∀ {h:Nat},h<18446744073709551616→s.foldl No h<18446744073709551616:=by
 induction s with
 |nil=>intro h hh;exact hh
 |cons c r a=>intro h _;exact a (cr _ _)
theorem hash_eq(da:Nat)(s:Bs):Qa da s=if da=0 then 7 else gI (s.foldl No (14695981039346656037^^^da)):=rfl
theorem br(da:Nat)(s:Bs):Qa da s<18446744073709551616:=by
 rw[hash_eq];split
 ·decide
 ·exact oO _
theorem PA(da:Nat)(s:Bs)(c:da<18446744073709551616)(r:s.length≤100000000):Pq prog 30 #[Pa da,Ha s] (Pa (Qa da s:Nat)):=by
 intro w;rw[hash_eq];by_cases f:da=0
 ·subst f;rw[JT rfl];clear c;go_enter func30,ntmps30;go_wp2;go_ret;exact⟨rfl,0,rfl⟩
 ·rw[DT f];have p:((da:Int)==0)=false:=by simpa using f
  have hb:14695981039346656037^^^da<18446744073709551616:=UD (by decide) c;have j:bits .xor .u64 14695981039346656037 (da:Int)=((14695981039346656037^^^da:Nat):Int):=wH (by decide) c;generalize 14695981039346656037^^^da=b at*;have o:=V j;have l:=V hb;clear j hb c f;go_enter func30,ntmps30;go_wp2_with fail;go_loop [5,13] (fun h i=>∃k:Nat,k≤s.length∧i=Z k∧h=Pa ((s.take k).foldl No b:Nat)) (fun _ i=>s.length-(intOf i).toNat);case atStart=>exact⟨0,WT _,rfl,by rw[o.out,IW,rZ]⟩
  case round=>
   obtain⟨k,q,rfl,rfl⟩:=hrel;have d:=pO (s.take k) l.out;by_cases g:k<s.length
   ·have a:IntKind.u64.wrap (bits .xor .u64 ((s.take k).foldl No b:Nat) (IntKind.u64.wrap (s[k].toNat:Int))*1099511628211)=((No ((s.take k).foldl No b) s[k]:Nat):Int):=by have:=s[k].toNat_lt;rw[show IntKind.u64.wrap (s[k].toNat:Int)=((s[k].toNat:Nat):Int) by rw[pU];omega,wH d (by omega)];exact MG _ 1099511628211
    have n:=V a;clear a d;go_wp2_with fail;go_round;case rel=>exact⟨k+1,by omega,by go_num,by rw[n.out,rU g,UX,fW,rZ]⟩
    case measure=>simp[intOf];omega
   ·rw[YT (by omega)]at d⊢;have t:=pS _ d;clear d;go_wp2_with fail;refine(t _).mono ?_;rintro e w' ⟨rfl,m,rfl⟩;go_wp2;go_ret;exact⟨rfl,m,rfl⟩
theorem BD(s:Bs)(a:s.length≤1000000000):Pq prog 29 #[Ha s] (.bool (ad s)):=by
 intro w;cases s with
 |nil=>clear a;go_enter func29,ntmps29;go_wp2;go_ret;exact⟨rfl,0,rfl⟩
 |cons c r=>
  have e:ad (c::r)=decide ((r.length:Int)+1≤32):=by simp only[ad,List.isEmpty_cons,Bool.not_false,KX,UT];exact eX.2 (by omega)
  rw[e];clear e;go_enter func29,ntmps29;go_wp2;go_ret;exact⟨rfl,0,rfl⟩
def digitsOf(n:Nat):Bs:=(List.range 6).map fun i=>b8 (48+n/10^(5-i)% 10)
theorem wE(k:UInt8)(n:Nat)(E:n≤999999)(M:∀w,(convert 5 9 (.int .u8 (k.toNat:Int))).run prog w= .ok (Ha [k]) w):Pu prog 93 #[.int .u8 (k.toNat:Int),Z n] (Ha (fileName k n)):=by
 intro w;have y:fileName k n=[k]++digitsOf n:=by unfold fileName digitsOf;rw[DT (by omega)];rfl
 rw[y];have t:(digitsOf n).length=6:=by simp[digitsOf]
 have g:∀j,j<6→(digitsOf n)[j]? =some (b8 (48+n/10^(5-j)% 10)):=fun j c=>by simp[digitsOf,c]
 obtain⟨d,o,e⟩:=GG 6 (by omega) w;have h:(Instr.makeSlice 152 (Z 6) (Z 6)).run prog w= .ok (O (some ⟨w.heap.size,0,none⟩) 6 6) (w.alloc (.cells d 5)):=e;clear e;have I:=(ZZ w).new (.cells d 5);generalize C:digitsOf n=D at*;clear y C;have B:=V g;clear g;go_enter func93,ntmps93;go_wp2_with fail;go_loopw [1,14] (fun v i wr=>∃ (q:Nat) (cs:Array Value),q≤6∧i=Z q∧v=Z (n/10^q:Nat)∧cs.size=6∧(∀j,6-q≤j→j<6→cs[j]? =(D[j]?).map fun b=> .int .u8 (b.toNat:Int))∧Y w (fun _=>False) (fun _=>False) (ba w.heap.size 5 cs) wr) (fun _ i _=>6-(intOf i).toNat);case atStart=>exact⟨0,d,WT _,rfl,by simp,o,fun j K L=>by omega,I.ya⟩
 case round=>
  obtain⟨q,cs,N,rfl,rfl,s,a,J⟩:=hrel;have hle:n/10^q≤999999:=KT (vY _ _) E;have l:n/10^(q+1)=n/10^q/10:=by rw[FX,Nat.div_div_eq_div_mul]
  by_cases G:q<6
  ·obtain⟨u0,H⟩:∃u,wr.cell? ⟨w.heap.size,5-q,none⟩=some u:=⟨cs[5-q]'(by omega),by rw[J.cells w.heap.size,eV (by omega)]⟩;have f0:∀i,wr.frozen? ⟨w.heap.size,i,none⟩=false:=J.free w.heap.size;have m:=B.out (5-q) (by omega);rw[show 5-(5-q)=q by omega]at m;have p:=V m;have A:=V a;have r:=V l;generalize n/10^q=x at*;clear a h I m l;go_wp2;go_roundw;case rel=>
    refine⟨q+1,cs.setIfInBounds (5-q) (.int .u8 (48+(x:Int)% 10)),by omega,by go_num,by rw[r.out];simp,by simp[s],fun j F z=> ?_,(J.put w.heap.size (5-q) _).ya⟩;rw[qV];by_cases c:5-q=j
    ·subst c;rw[JT rfl,JT (by omega),p.out];have P:48+x % 10<256:=by omega
     simp only[KU,b8,UInt8.toNat_ofNat'];rw[Nat.mod_eq_of_lt (by omega)];simp
    ·rw[DT c];exact A.out j (by omega) z
   case measure=>simp[intOf];omega
  ·obtain rfl:q=6:=by omega
   have f:=MV wr 152 9 5 ⟨w.heap.size,0,none⟩ 6 D underlying152 underlying5 underlying9 (fun j c=>by rw[CV,BU,J.cells w.heap.size,a j (by omega) (by omega),PT c];rfl);rw[t]at f;have hb:=J.Sc;clear a h I;go_wp2;go_ret;exact⟨rfl,hb⟩
theorem mL:∀w,(convert 5 9 (.int .u8 ((99:UInt8).toNat:Int))).run prog w= .ok (Ha [99]) w:=fun w=>by kernel_rfl
theorem nL:∀w,(convert 5 9 (.int .u8 ((116:UInt8).toNat:Int))).run prog w= .ok (Ha [116]) w:=fun w=>by kernel_rfl
theorem lL:∀w,(convert 5 9 (.int .u8 ((98:UInt8).toNat:Int))).run prog w= .ok (Ha [98]) w:=fun w=>by kernel_rfl
theorem Tk(n:Nat)(a:n≤999999):Pu prog 56 #[Z n] (Ha (Ca n)):=by intro w;have t:Pu prog 93 #[.int .u8 99,Z n] (Ha (Ca n)):=wE 99 n a mL;go_enter func56,ntmps56;go_wp2_with fail;refine(t _).mono ?_;rintro e w' ⟨rfl,hb⟩;go_wp2;go_ret;exact⟨rfl,hb⟩
theorem Kq(n:Nat)(a:n≤999999):Pu prog 151 #[Z n] (Ha (Ra n)):=by intro w;have t:Pu prog 93 #[.int .u8 116,Z n] (Ha (Ra n)):=wE 116 n a nL;go_enter func151,ntmps151;go_wp2_with fail;refine(t _).mono ?_;rintro e w' ⟨rfl,hb⟩;go_wp2;go_ret;exact⟨rfl,hb⟩
theorem Sw(n:Nat)(a:n≤999999):Pu prog 245 #[Z n] (Ha (rb n)):=by intro w;have t:Pu prog 93 #[.int .u8 98,Z n] (Ha (rb n)):=wE 98 n a lL;go_enter func245,ntmps245;go_wp2_with fail;refine(t _).mono ?_;rintro e w' ⟨rfl,hb⟩;go_wp2;go_ret;exact⟨rfl,hb⟩
theorem vP(n:Nat)(a:n≤1000000000):Pu prog 230 #[Z n] (Ha (put n 4)):=by
 intro w;have t:=Pg n 4 (by omega) (by omega) (by omega);have hw:IntKind.u64.wrap (n:Int)=n:=by rw[pU];omega
 go_enter func230,ntmps230;go_wp2_with fail;refine(t w).mono ?_;rintro e w' ⟨rfl,hb⟩;go_wp2;go_ret;exact⟨rfl,hb⟩
@[go_sem] theorem nQ(s:Bs):(Qg s).length=s.length+4:=by simp[Qg,low]
def rM(p:Bs):Value:=if 2000<p.length then .tuple #[Ha [],Z 3]else .tuple #[Ha (ue p),Z 0]
theorem rP(p:Bs)(e:p.length≤1000000000):Pu prog 178 #[Ha p] (rM p):=by
 intro w;have I:=ZZ w;unfold rM;by_cases h:2000<p.length
 ·rw[JT h];go_enter func178,ntmps178;go_wp2;go_ret2;exact⟨rfl,I.Sc⟩
 ·rw[DT h];have t1:=vP p.length (by omega);have t2:=nr (put p.length 4++p) (by rw[CT,vf];omega);have a:ue p=Qg (put p.length 4++p)++put p.length 4:=rfl;rw[a];clear a;go_enter func178,ntmps178;go_wp2_with fail;refine I.kp t1 fun f b=> ?_;go_wp2_with fail;refine b.kp t2 fun w2 c=> ?_;go_wp2_with fail;refine c.kp t1 fun g d=> ?_;go_wp2;go_ret2;exact⟨rfl,d.Sc⟩
def Xx(o:Option Bs)(at':Nat):Value:=match o with
 |none=> .tuple #[Ha [],Z 0,.bool false]
 |some p=> .tuple #[Ha p,Z (at'+p.length+12:Nat),.bool true]
theorem tF(s:Bs)(at':Nat)(J:s.length≤10000000)(H:at'≤1000000000):Pu prog 59 #[Ha s,Z at'] (Xx (bo s at') at'):=by
 intro w;have I:=ZZ w;have u:IntKind.i64.wrap ((s.length:Int)-12)=(s.length:Int)-12:=RT _ (by omega);by_cases o:s.length<at'+12
 ·have e:bo s at'=none:=by simp only[bo,zj];rw[JT (by rw[cU];omega)]
  rw[e];have hb:decide ((at':Int)>(s.length:Int)-12)=true:=RU (by omega);have p:decide ((s.length:Int)-12<at')=true:=RU (by omega);clear e;go_enter func59,ntmps59;go_wp2;go_ret3;exact⟨rfl,I.Sc⟩
 ·have b:(s.drop at').length=s.length-at':=cU;have t:=tq ((s.drop at').take 4) (by rw[OT];omega);rw[QV,show min 8 4=4 from rfl]at t;have i:=cm ((s.drop at').take 4);rw[OT,b,QU (by omega)]at i;have e:bo s at'=if 2000<num ((s.drop at').take 4)∨(s.drop at').length<num ((s.drop at').take 4)+12 then none else Yv (s.drop at') (num ((s.drop at').take 4)):=by simp only[bo,zj];rw[DT (by rw[b];omega)]
  have E:∀w,(Instr.slice 9 (Ha s) (some (Z (at':Int))) (some (Z ((at':Int)+4))) none).run prog w= .ok (Ha ((s.drop at').take 4)) w:=Vh (by omega) (by congr 2<;>omega);have v:IntKind.i64.wrap ((at':Int)+4)=(at':Int)+4:=RT _ (by omega);generalize k:(s.drop at').take 4=x at*;generalize num x=n at*;have z:IntKind.i64.wrap (n:Int)=n:=RT _ (by omega);have A:IntKind.i64.wrap ((s.length:Int)-12-at')=(s.length:Int)-12-at':=RT _ (by omega);by_cases c:2000<n∨(s.drop at').length<n+12
  ·rw[e,JT c];rw[b]at c;clear e k b i;go_enter func59,ntmps59;go_wp2_with fail;refine(t _).mono ?_;rintro e w' ⟨rfl,m,rfl⟩;go_wp2_with fail;all_goals go_ret3;exact⟨rfl,(I.drewN _).Sc⟩
  ·rw[e,DT c];rw[b]at c;have B:IntKind.i64.wrap ((at':Int)+n)=(at':Int)+n:=RT _ (by omega);have C:IntKind.i64.wrap ((at':Int)+n+12)=(at':Int)+n+12:=RT _ (by omega);have D:IntKind.i64.wrap ((at':Int)+n+12-4)=(at':Int)+n+12-4:=RT _ (by omega);have t2:=iB ((s.drop at').take (n+8)) (by rw[OT,b];omega);have F:∀w,(Instr.slice 9 (Ha s) (some (Z (at':Int))) (some (Z ((at':Int)+n+12-4))) none).run prog w= .ok (Ha ((s.drop at').take (n+8))) w:=Vh (by omega) (by congr 2<;>omega);have l:∀w,(Instr.slice 9 (Ha s) (some (Z ((at':Int)+n+12-4))) (some (Z ((at':Int)+n+12))) none).run prog w= .ok (Ha ((s.drop (at'+(n+8))).take 4)) w:=Vh (by omega) (by congr 2<;>omega);rw[←jV]at l;cases a:Eg ((s.drop at').take (n+8))with
   |none=>
    have f:Yv (s.drop at') n=none:=by simp only[Yv,a]
    rw[f];rw[a]at t2;change Pu _ _ _ (.tuple #[Ha [],.bool false])at t2;clear e f a;go_enter func59,ntmps59;go_wp2_with fail;refine(t _).mono ?_;rintro e w' ⟨rfl,m,rfl⟩;go_wp2_with fail;refine((I.drewN m).pu t2).mono ?_;rintro e w2 ⟨rfl,d⟩;go_wp2_with fail;go_quiet (fail);go_wp2;go_ret3;exact⟨rfl,(d.drewN _).Sc⟩
   |some body=>
    have r:4≤body.length:=by
     unfold Eg at a;split at a
     ·cases a
     ·split at a
      ·cases a;simp only[OT,b];omega
      ·cases a
    have f:Yv (s.drop at') n=if((s.drop at').drop (n+8)).take 4=x then some (body.drop 4)else none:=by simp only[Yv,a,k]
    rw[f];rw[a]at t2;change Pu _ _ _ (.tuple #[Ha body,.bool true])at t2;have G:∀w,(Instr.slice 9 (Ha body) (some (Z 4)) none none).run prog w= .ok (Ha (body.drop 4)) w:=qm (by omega) (by congr 1<;>omega);have h:(body.drop 4).length=n:=by
     unfold Eg at a;split at a
     ·cases a
     ·split at a
      ·cases a;simp only[OT,cU,b];omega
      ·cases a
    generalize((s.drop at').drop (n+8)).take 4=y at*;clear e f a;by_cases g:y=x
    ·subst g;rw[JT rfl];have j:Xx (some (body.drop 4)) at'= .tuple #[Ha (body.drop 4),Z ((at':Int)+n+12),.bool true]:=by simp only[Xx,h];rfl
     rw[j];clear j;go_enter func59,ntmps59;go_wp2_with fail;refine(t _).mono ?_;rintro e w' ⟨rfl,m,rfl⟩;go_wp2_with fail;refine((I.drewN m).pu t2).mono ?_;rintro e w2 ⟨rfl,d⟩;go_wp2_with fail;go_quiet (fail);go_wp2;go_ret3;exact⟨rfl,(d.drewN _).Sc⟩
    ·rw[DT g];have q:(y==x)=false:=by simpa using g
     go_enter func59,ntmps59;go_wp2_with fail;refine(t _).mono ?_;rintro e w' ⟨rfl,m,rfl⟩;go_wp2_with fail;refine((I.drewN m).pu t2).mono ?_;rintro e w2 ⟨rfl,d⟩;go_wp2_with fail;go_quiet (fail);go_wp2;go_ret3;exact⟨rfl,(d.drewN _).Sc⟩
theorem Iu(n:Nat):(Yb n).length=12:=by simp[Yb,Qg,low,vf]
theorem MK(n:Nat)(d:n<200):Pu prog 94 #[Z n] (Ha (Yb n)):=by
 intro w;have I:=ZZ w;have t:=Pg n 4 (by omega) (by omega) (by omega);have t2:=nr ([99,104,110,107]++put n 4) (by rw[CT,vf];decide);have hw:IntKind.u64.wrap (n:Int)=n:=by rw[pU];omega
 have a:Yb n=Qg ([99,104,110,107]++put n 4):=rfl;have hm:∀l:Bs,(ByteArray.mk #[99,104,110,107])++mk l=mk ([99,104,110,107]++l):=fun l=>AI [99,104,110,107] l;have e:(ByteArray.mk #[99,104,110,107]).size=4:=rfl;rw[a];clear a;go_enter func94,ntmps94;go_wp2_with fail;refine I.kp t fun f b=> ?_;go_wp2_with fail;refine b.kp t2 fun w2 c=> ?_;go_wp2;go_ret;exact⟨rfl,c.Sc⟩
theorem dO(a:Nat)(p:Bs)(g:a≤1000000000)(f:p.length≤1000000000):Pq prog 179 #[Z a,Ha p] (.bool (fits a p)):=by
 intro w;have hw:IntKind.i64.wrap ((p.length:Int)+12)=(p.length:Int)+12:=RT _ (by omega);have d:IntKind.i64.wrap (4096-(a:Int))=4096-(a:Int):=RT _ (by omega);by_cases b:a≤4096
 ·by_cases c:p.length≤2000
  ·have e:fits a p=decide ((p.length:Int)+12≤4096-(a:Int)):=by simp only[fits,b,c,xZ,KX];exact eX.2 (by omega)
   rw[e];clear e;go_enter func179,ntmps179;go_wp2;go_ret;exact⟨rfl,0,rfl⟩
  ·have e:fits a p=false:=by simp[fits,c]
   rw[e];clear e;go_enter func179,ntmps179;go_wp2;go_ret;exact⟨rfl,0,rfl⟩
 ·have e:fits a p=false:=by simp[fits,b]
  rw[e];clear e;go_enter func179,ntmps179;go_wp2;go_ret;exact⟨rfl,0,rfl⟩
theorem jD(s p:Bs):Pq prog 95 #[Ha s,Ha p] (.bool (p.isPrefixOf s)):=by
 intro w;refine(Tryz.strings_HasPrefix (mk s) (mk p) w).mono ?_;rintro e w' ⟨rfl,rfl⟩;refine⟨?_,0,rfl⟩;have:Lib.hasPrefix (mk s).data.toList (mk p).data.toList=p.isPrefixOf s:=by simp only[mk_data];rfl
 rw[this]
end
end Go.Proofs.YteacbkflfafefaaGreatDoor
