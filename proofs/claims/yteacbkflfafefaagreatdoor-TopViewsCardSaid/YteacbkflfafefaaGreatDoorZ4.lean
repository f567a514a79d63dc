/- Part 5 of 50 of the proof that TopViews returns true at every input: lemmas on the way; no condition. -/
import Derived.Test.YteacbkflfafefaaGreatDoorZ1
namespace Go.Proofs.YteacbkflfafefaaGreatDoor
set_option linter.all false
section
open Go.ChangeMaps (setBlock)
open Go.Maps (Keyed)
open Go Go.RowKit
def Tn:Value→Value→Bool
 |.string a,.string b=>decide (a=b)
 |.int j a,.int k b=>decide (j=k∧a=b)
 |_,_=>false
def Plain(v:Value):Prop:=(∃s,v= .string s)∨∃k n,v= .int k n
theorem Ou{a b:Value}(h:Plain a):Tn a b=true↔a=b:=by rcases h with⟨s,rfl⟩|⟨k,n,rfl⟩<;>cases b<;>simp[Tn]
structure Uf(P:Program)(k:TypeId)(es:Array MapEntry)(clock:Nat)(kv:List (Value×Value)):Prop where
 perm:(es.toList.map fun e=>(e.key,e.val)).Perm kv
 keys:∀p∈kv,∃l,keyOf P k p.1=some l
 plain:∀p∈kv,Plain p.1
 nodup:(kv.map (·.1)).Nodup
 born:(es.toList.map (·.born)).Nodup
 Ie:∀e∈es.toList,e.born<clock
def Ib(P:Program)(k:TypeId)(g:Nat)(kv:List (Value×Value)):aa where
 p h o r:=∃es clock,Uf P k es clock kv∧(aa.obj g (.map es clock)).p h o r
 loc:=fun⟨es,clock,d,a⟩ c=>⟨es,clock,d,(aa.obj g _).loc a c⟩
 lt:=fun⟨es,clock,_,a⟩ c=>(aa.obj g (.map es clock)).lt a c
class ff(g:Nat)(S:aa)(P:outParam (Program))(k:outParam (TypeId))(kv:outParam (List (Value×Value)))(R:outParam aa):Prop where
 split:aa.le S (Ib P k g kv*R)
instance (priority:=1000) ff.here {g:Nat}{P:Program}{k:TypeId}{kv:List (Value×Value)}{R:aa}:ff g (Ib P k g kv*R) P k kv R:=⟨JZ _⟩
instance (priority:=900) ff.last {g:Nat}{P:Program}{k:TypeId}{kv:List (Value×Value)}:ff g (Ib P k g kv) P k kv aa.emp:=⟨KZ (RZ trivial) NZ⟩
instance (priority:=800) ff.right {g:Nat}{P:Program}{k:TypeId}{kv:List (Value×Value)}{B S R:aa}[h:ff g S P k kv R]:ff g (B*S) P k kv (B*R):=⟨KZ (MZ (JZ _) h.split) (KZ PZ (KZ (MZ NZ (JZ _)) OZ))⟩
instance (priority:=700) ff.left {g:Nat}{P:Program}{k:TypeId}{kv:List (Value×Value)}{B S R:aa}[h:ff g S P k kv R]:ff g (S*B) P k kv (R*B):=⟨KZ (MZ h.split (JZ _)) OZ⟩
section
variable {P:Program}{k e t:TypeId}{es:Array MapEntry}{clock:Nat}{kv:List (Value×Value)}{w:World}{b:Nat}
theorem Uf.mem(h:Uf P k es clock kv){x:MapEntry}(a:x∈es.toList):(x.key,x.val)∈kv:=h.perm.mem_iff.1 (nU.2 ⟨x,a,rfl⟩)
theorem Uf.size(h:Uf P k es clock kv):es.size=kv.length:=by have:=h.perm.length_eq;simpa using this
theorem EI{kv:List (Value×Value)}(h:(kv.map (·.1)).Nodup){p q:Value×Value}(g:p∈kv)(i:q∈kv)(f:p.1=q.1):p=q:=by
 induction kv with
 |nil=>cases g
 |cons a l j=>
  simp only[qU,DV,nU,kZ,not_and]at h;rcases dU.1 g with c|c<;>rcases dU.1 i with d|d
  ·rw[c,d]
  ·exact absurd (f.symm.trans (eU _ c)) (h.1 q d)
  ·exact absurd (f.trans (eU _ d)) (h.1 p c)
  ·exact j h.2 c d
theorem Uf.find(K:Keyed P k)(h:Uf P k es clock kv)(w:World){a:Value}{m:Lit}(f:keyOf P k a=some m):((Instr.findKey k a es.toList).run P w= .ok none w∧∀p∈kv,p.1≠a)∨∃j x,(Instr.findKey k a es.toList).run P w= .ok (some (j,x.val)) w∧es.toList[j]? =some x∧x.key=a∧(a,x.val)∈kv:=by
 rcases K.find w f es.toList (fun x g=>h.keys _ (h.mem g))with⟨d,c⟩|⟨j,x,d,c,i⟩
 ·refine .inl ⟨d,fun p l he=> ?_⟩;obtain⟨x,g,rfl⟩:=nU.1 (h.perm.mem_iff.2 l);exact c x g he
 ·exact .inr ⟨j,x,d,c,i,by rw[←i];exact h.mem (AV c)⟩
theorem Uf.lookup(K:Keyed P k)(n:P.underlying t=some (.map k e))(h:Uf P k es clock kv)(m:w.heap[b]? =some (.map es clock)){z:Value}(r:(zeroValue e).run P w= .ok z w)(c:Bool){a:Value}{s:Lit}(d:keyOf P k a=some s):(∀v,(a,v)∈kv→(Instr.lookup t (.map (some b)) a c).run P w= .ok (if c then .tuple #[v,.bool true]else v) w)∧((∀p∈kv,p.1≠a)→(Instr.lookup t (.map (some b)) a c).run P w= .ok (if c then .tuple #[z,.bool false]else z) w):=by
 rcases h.find K w d with⟨f,i⟩|⟨j,x,f,i,u,l⟩
 ·refine⟨fun v g=>absurd rfl (i _ g),fun _=> ?_⟩;simp[Instr.lookup,SU n,BV m,K.check w _ d,f,r,Result.andThen]
 ·refine⟨fun v g=> ?_,fun q=>absurd rfl (q _ l)⟩;have:=EI h.nodup g l rfl;injection this with _ o;subst o;simp[Instr.lookup,SU n,BV m,K.check w _ d,f,Result.andThen]
def dropKey(a:Value)(kv:List (Value×Value)):List (Value×Value):=kv.filter fun p=> !Tn p.1 a
theorem uq{a b:Value}(h:Plain a)(c:a≠b):Tn a b=false:=by rw[uV];exact fun e=>c ((Ou h).1 e)
theorem dq{c:Value}{kv:List (Value×Value)}(d:∀p∈kv,Plain p.1)(h:∀p∈kv,p.1≠c):dropKey c kv=kv:=wV.2 fun p a=>by simp[uq (d p a) (h p a)]
theorem Um{o x:Obj}(a:w.heap[b]? =some x):(setBlock w b o).heap[b]? =some o:=by have:=(sU.1 a).1;simp[setBlock,this]
theorem xp{o:Obj}{i:Nat}(hi:i≠b):(setBlock w b o).heap[i]? =w.heap[i]? :=by simp only[setBlock,qV];rw[DT (fun e=>hi e.symm)]
theorem Hp{l:List MapEntry}{kv:List (Value×Value)}(h:(l.map fun e=>(e.key,e.val)).Perm kv)(a:Value):((l.filter fun x=> !Tn x.key a).map fun e=>(e.key,e.val)).Perm (dropKey a kv):=by have c:=h.filter (fun p=> !Tn p.1 a);rw[OX]at c;exact c
theorem erase_filter{l:List MapEntry}(d:∀y∈l,Plain y.key)(h:(l.map (·.key)).Nodup){j:Nat}{x:MapEntry}(c:l[j]? =some x):l.eraseIdx j=l.filter fun y=> !Tn y.key x.key:=by
 induction l generalizing j with
 |nil=>simp at c
 |cons a l i=>
  simp only[qU,DV,nU,kZ,not_and]at h;cases j with
  |zero=>simp only[NT,uX]at c;subst c;rw[List.eraseIdx_cons_zero,IU];rw[(Ou (d a (.head _))).2 rfl];simp only[Bool.not_true,KV,RX];exact(wV.2 fun y f=>by rw[uq (d y (.tail _ f)) (h.1 y f)];rfl).symm
  |succ j=>rw[MT]at c;have g:a.key≠x.key:=fun e=>h.1 x (AV c) e.symm;rw[List.eraseIdx_cons_succ,IU,i (fun y f=>d y (.tail _ f)) h.2 c,uq (d a (.head _)) g];simp
theorem Uf.cM(h:Uf P k es clock kv):∀y∈es.toList,Plain y.key:=fun _ a=>h.plain _ (h.mem a)
theorem Uf.ML(h:Uf P k es clock kv):(es.toList.map (·.key)).Nodup:=by have a:=h.perm.map (·.1);rw[CX]at a;exact a.nodup_iff.2 h.nodup
theorem Uf.delete(K:Keyed P k)(l:P.underlying t=some (.map k e))(h:Uf P k es clock kv)(c:w.heap[b]? =some (.map es clock)){key:Value}{o:Lit}(a:keyOf P k key=some o)(q ty:TypeId):∃d,(Builtin.delete_ #[t,q] ty #[.map (some b),key]).run P w= .ok (.tuple #[]) (setBlock w b (.map d clock))∧Uf P k d clock (dropKey key kv):=by
 rcases h.find K w a with⟨f,g⟩|⟨j,x,f,g,n,r⟩
 ·refine⟨es,?_,by rw[dq h.plain g];exact h⟩;simp[Builtin.delete_,SU l,BV c,K.check w _ a,f,zW _ c,Result.andThen,setBlock]
 ·have he:(es.eraseIdxIfInBounds j).toList=es.toList.filter fun y=> !Tn y.key key:=by rw[←n,←erase_filter h.cM h.ML g];simp
  refine⟨es.eraseIdxIfInBounds j,?_,⟨?_,?_,?_,?_,?_,?_⟩⟩
  ·simp[Builtin.delete_,SU l,BV c,K.check w _ a,f,zW _ c,Result.andThen,setBlock]
  ·rw[he];exact Hp h.perm key
  ·exact fun p i=>h.keys p (vU.1 i).1
  ·exact fun p i=>h.plain p (vU.1 i).1
  ·exact(xW.map _).nodup h.nodup
  ·rw[he];exact(xW.map _).nodup h.born
  ·intro y m;rw[he]at m;exact h.Ie y (vU.1 m).1
theorem Uf.store(K:Keyed P k)(D:P.underlying t=some (.map k e))(h:Uf P k es clock kv)(n:w.heap[b]? =some (.map es clock)){key:Value}(val:Value){F:Lit}(d:keyOf P k key=some F)(u:Plain key):∃o g,(Instr.mapUpdate t (.map (some b)) key val).run P w= .ok () (setBlock w b (.map o g))∧Uf P k o g ((key,val)::dropKey key kv):=by
 have s:∀ {l:List (Value×Value)},(l.map (·.1)).Nodup→(((key,val)::dropKey key l).map (·.1)).Nodup:=fun {l} H=>by rw[qU,DV];refine⟨fun hm=> ?_,(xW.map _).nodup H⟩;obtain⟨p,f,he⟩:=nU.1 hm;have:=(vU.1 f).2;rw[show Tn p.1 key=true by rw[he];exact(Ou u).2 rfl]at this;simp at this
 have r:∀p∈(key,val)::dropKey key kv,∃l,keyOf P k p.1=some l:=fun p f=>by
  rcases dU.1 f with rfl|f
  ·exact⟨F,d⟩
  ·exact h.keys p (vU.1 f).1
 have v:∀p∈(key,val)::dropKey key kv,Plain p.1:=fun p f=>by
  rcases dU.1 f with rfl|f
  ·exact u
  ·exact h.plain p (vU.1 f).1
 rcases h.find K w d with⟨z,m⟩|⟨j,x,z,m,C,I⟩
 ·refine⟨es.push ⟨key,val,clock⟩,clock+1,?_,⟨?_,r,v,s h.nodup,?_,?_⟩⟩
  ·simp[Instr.mapUpdate,SU D,BV n,K.check w false d,z,zW _ n,Result.andThen,setBlock]
  ·rw[dq h.plain m,rX,tV];exact(List.perm_append_singleton _ _).trans (h.perm.cons _)
  ·rw[rX,tV];refine bW.2 ⟨h.born,by simp,fun a G b q=> ?_⟩;obtain⟨y,c,rfl⟩:=nU.1 G;simp at q;subst q;exact EZ (h.Ie y c)
  ·intro y c;rw[rX,oU]at c;rcases c with c|c
   ·exact JY (h.Ie y c)
   ·simp at c;subst c;exact Nat.lt_succ_self _
 ·have A:=(ZU.1 m).1;have hm:(es.modify j fun y=>{y with key:=key,val:=val}).toList=es.toList.set j {x with key:=key,val:=val}:=by
   apply TX;intro i;rw[EW,DW,WX];by_cases e:j=i
   ·subst e;rw[JT rfl,JT rfl,JT A];have B:es[j]? =some x:=by simpa using m
    rw[B];rfl
   ·rw[DT e,DT e,EW]
  refine⟨es.modify j fun y=>{y with key:=key,val:=val},clock,?_,⟨?_,r,v,s h.nodup,?_,?_⟩⟩
  ·have E:es[j]? =some x:=by simpa using m
   simp[Instr.mapUpdate,SU D,BV n,K.check w false d,z,E,C,K.stays w d,zW _ n,Result.andThen,setBlock]
  ·rw[hm];have f:(es.toList.set j {x with key:=key,val:=val}).Perm ({x with key:=key,val:=val}::es.toList.eraseIdx j):=by rw[zX,JT A,List.eraseIdx_eq_take_drop_succ];exact List.perm_middle
   refine(f.map _).trans ?_;rw[qU,erase_filter h.cM h.ML m,C];exact(Hp h.perm key).cons _
  ·rw[hm,List.map_set];have:(es.toList.map (·.born))[j]? =some x.born:=by rw[VX,m];rfl
   have e:(es.toList.map (·.born)).set j x.born=es.toList.map (·.born):=by
    apply TX;intro i;rw[WX];by_cases hi:j=i
    ·subst hi;rw[JT rfl,this,zU,JT A]
    ·rw[DT hi]
   rw[show({x with key:=key,val:=val}:MapEntry).born=x.born from rfl,e];exact h.born
  ·intro y c;rw[hm]at c;rcases List.mem_or_eq_of_mem_set c with c|rfl
   ·exact h.Ie y c
   ·exact h.Ie x (AV m)
variable {w0 w':World}{o0 r0:Td}{S R:aa}
theorem Y.map(h:Y w0 o0 r0 S w)(g:Nat)[f:ff g S P k kv R]:∃es clock,Uf P k es clock kv∧w.heap[g]? =some (.map es clock):=by obtain⟨o,r,⟨d,j,i,l,⟨es,clock,a,c⟩,a2⟩,hu⟩:=h.le f.split;exact⟨es,clock,a,c.1⟩
theorem Y.fv(h:Y w0 o0 r0 S w)(g:Nat)[f:ff g S P k kv R]{d:List (Value×Value)}{c:Array MapEntry}{a:Nat}(n:Uf P k c a d):Y w0 o0 r0 (Ib P k g d*R) (setBlock w g (.map c a)):=by obtain⟨o,r,⟨s,v,u,z,⟨es,clock,q,i⟩,a2,a3,a4,a5,j⟩,hu⟩:=h.le f.split;have l:=(TZ i).Ec (g:=g) (x:=.map es clock) (w':=setBlock w g (.map c a)) (y:=.map c a) (Um i.1) rfl rfl rfl (by simp[setBlock]) (fun k _ m=>xp m);refine UZ hu (WZ a2 a3 a4 a5 j ?_);exact(l.ya (A:=aa.obj g (.map c a))).le ⟨fun {h o r} p=>⟨o,r,⟨c,a,n,p⟩,fun _ h=>h,fun _ h=> .inr h⟩⟩
end
end
end Go.Proofs.YteacbkflfafefaaGreatDoor
