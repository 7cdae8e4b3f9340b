/- Loops whose frame is taken from the state; heads and their rules. -/
import Derived.Test.YtpfgedlimdeffaaGreatLayB
import Derived.IntWalk
import Derived.Test.YtpfgedlimdeffaaGreatLayA
import Derived.Deep.Slices
import Derived.Carry
import Derived.ProofKit
import Derived.OpenShut
import Derived.JoinedCond
set_option linter.all false
namespace Go.Proofs.YtpfgedlimdeffaaGreat.Abs
open Go.Proofs
section
variable (s:St)
def Qn (v:SV) (K:SV→Prop):Prop:=
 match v with
 | .data a=>K (.data a)
 | .aj=>K .aj
 | .fr l=>K (.fr l)
 | .ref a=>K (.ref a)
 | .old a=>K (.old a)
 | .fnr f c=>K (.fnr f c)
 | .argv i j a=>K (.argv i j a)
 | .box d g off=>(match s.mem d with|some (g',_)=>bif Nat.beq g' g then K (.box d 0 off) else False|none=>False)
 | .bsl d g n=>(match s.mem d with|some (g',_)=>bif Nat.beq g' g then K (.bsl d 0 n) else False|none=>False)
 | .own τ g=>(match s.tok τ with
  |some t=>bif Nat.beq t.gen g then (bif t.frz then K (.data (.sl t.l)) else K (.own τ 0)) else False
  |none=>False)
 |_=>False
def IK:List Nat→(List (Nat×SV)→Prop)→Prop
 |[],K=>K []
 |i::r,K=>match s.get i with
  | .undef=>IK r K
  | .gone=>IK r K
  |v=>Qn s v fun v'=>IK r fun l=>K ((i,v')::l)
def Qo:List SV→(List SV→Prop)→Prop
 |[],K=>K []
 |v::r,K=>Qn s v fun v'=>Qo r fun l=>K (v'::l)
def MG:List Nat→(List (Nat×List SV)→Prop)→Prop
 |[],K=>K []
 |d::r,K=>match s.mem d with
  |some (_,cells)=>Qo s cells fun cs=>MG r fun l=>K ((d,cs)::l)
  |none=>MG r K
def Te (skip:List Nat) (v:SV) (acc:List Nat):List Nat:=
 match v with
 | .own τ _=>bif za τ skip||za τ acc then acc else τ::acc
 |_=>acc
def VW (skip:List Nat):List SV→List Nat→List Nat
 |[],acc=>acc
 |v::r,acc=>VW skip r (Te skip v acc)
def VX (skip:List Nat):List (Nat×SV)→List Nat→List Nat
 |[],acc=>acc
 |(_,v)::r,acc=>VX skip r (Te skip v acc)
def VY (skip:List Nat):List (Nat×List SV)→List Nat→List Nat
 |[],acc=>acc
 |(_,c)::r,acc=>VY skip r (VW skip c acc)
def Qp:List Nat→(List (Nat×Nat×List AV×Nat)→Prop)→Prop
 |[],K=>K []
 |τ::r,K=>match s.tok τ with
  |some t=>Qp r fun l=>K ((τ,t.E,t.l,bif t.lin then 1 else 0)::l)
  |none=>False
theorem MH {v:SV} {K:SV→Prop} (h:Qn s v K):∃x,K x:=by
 unfold Qn at h
 split at h
 ·exact⟨_,h⟩
 ·exact⟨_,h⟩
 ·exact⟨_,h⟩
 ·exact⟨_,h⟩
 ·exact⟨_,h⟩
 ·exact⟨_,h⟩
 ·exact⟨_,h⟩
 ·split at h
  ·rename_i g' _ _;cases hb:Nat.beq g' _<;>rw [hb] at h
   ·exact h.elim
   ·exact⟨_,h⟩
  ·exact h.elim
 ·split at h
  ·rename_i g' _ _;cases hb:Nat.beq g' _<;>rw [hb] at h
   ·exact h.elim
   ·exact⟨_,h⟩
  ·exact h.elim
 ·split at h
  ·rename_i t _;cases hb:Nat.beq t.gen _<;>rw [hb] at h
   ·exact h.elim
   ·cases hf:t.frz<;>rw [hf] at h<;>exact⟨_,h⟩
  ·exact h.elim
 ·exact h.elim
theorem zI:∀{l:List Nat} {K:List (Nat×SV)→Prop},IK s l K→∃x,K x
 |[],K,h=>⟨_,h⟩
 |i::r,K,h=>by
  unfold IK at h
  split at h
  ·exact zI h
  ·exact zI h
  ·obtain⟨x,h⟩:=MH s h
   obtain⟨y,h⟩:=zI h
   exact⟨_,h⟩
theorem MI:∀{l:List SV} {K:List SV→Prop},Qo s l K→∃x,K x
 |[],K,h=>⟨_,h⟩
 |i::r,K,h=>by
  unfold Qo at h
  obtain⟨x,h⟩:=MH s h
  obtain⟨y,h⟩:=MI h
  exact⟨_,h⟩
theorem EO:∀{l:List Nat} {K:List (Nat×List SV)→Prop},MG s l K→∃x,K x
 |[],K,h=>⟨_,h⟩
 |i::r,K,h=>by
  unfold MG at h
  split at h
  ·obtain⟨x,h⟩:=MI s h
   obtain⟨y,h⟩:=EO h
   exact⟨_,h⟩
  ·exact EO h
theorem MJ:∀{l:List Nat} {K:List (Nat×Nat×List AV×Nat)→Prop},Qp s l K→∃x,K x
 |[],K,h=>⟨_,h⟩
 |i::r,K,h=>by
  unfold Qp at h
  split at h
  ·obtain⟨y,h⟩:=MJ h
   exact⟨_,h⟩
  ·exact h.elim
end
inductive aC (T:Nat→Ty) (body:(AX→St→Prop)→St→Prop) (n:Nat) (Q:AX→St→Prop) (s:St) (ks:List (Nat×SV)) (ms:List (Nat×List SV)) (ts:List (Nat×Nat×List AV×Nat)):Prop
 |mk (ι:Type) (inv:ι→Prop) (cs:ι→List (Nat×SV)) (cm:ι→List (Nat×List SV)) (ct:ι→List (Nat×Nat×List AV×Nat)) (μ:ι→Nat) (x₀:ι) (i₀:inv x₀)
  (h₀:Weak T s ⟨cs x₀++ks,cm x₀++ms,ct x₀++ts⟩)
  (hr:∀x,inv x→body (AX.then (fun s'=>∃x',inv x'∧s'.n=n∧Weak T s' ⟨cs x'++ks,cm x'++ms,ct x'++ts⟩∧μ x' < μ x) Q) ((Fr.mk (cs x++ks) (cm x++ms) (ct x++ts)).st n))
theorem aG {T:Nat→Ty} {body:(AX→St→Prop)→St→Prop} {n:Nat} {Q:AX→St→Prop} {s:St} (ks ms skip:List Nat)
  (h:IK s ks fun a=>MG s ms fun b=>Qp s (VY skip b (VX skip a [])) fun c=>aC T body n Q s a b c):PZ T body n Q s:=by
 obtain⟨a,h⟩:=zI s h
 obtain⟨b,h⟩:=EO s h
 obtain⟨c,h⟩:=MJ s h
 obtain⟨ι,inv,cs,cm,ct,μ,x₀,i₀,h₀,hr⟩:=h
 exact⟨ι,inv,_,μ,x₀,i₀,h₀,hr⟩
theorem VC.nod {l:List Nat} (h:qd l=true):VC (qd l=true) True:=⟨h,trivial⟩
theorem Br.dec {p:Prop} [Decidable p] {X:Bool→Prop} (h:p→X true) (h':¬ p→X false):Br (decide p) X:=⟨fun e=>h (of_decide_eq_true e),fun e=>h' (of_decide_eq_false e)⟩
theorem Br.not {b:Bool} {X:Bool→Prop} (h:Br b (fun t=>X (!t))):Br (!b) X:=⟨fun e=>by cases b<;>simp at e;exact h.f rfl,fun e=>by cases b<;>simp at e;exact h.t rfl⟩
theorem Arith.ok {r:Int} {K:Int→Prop} (h: -9223372036854775808≤r∧r≤9223372036854775807) (hk:K r):Arith .i64 r K:=⟨by rw [show IntKind.wrap .i64 r=r from IntWalk.i64_in _ h];exact hk⟩
theorem Idx.of_map {α:Type} {l:List α} {f:α→AV} {i:Int} {K:Nat→AV→Prop} (h:0≤i∧i < l.length) (hk:∀(j:Nat) (x:α),i=j→l[j]? =some x→K j (f x)):Idx (l.map f) i K:=by
 have hj:i.toNat < l.length:=by omega
 refine⟨i.toNat,f (l[i.toNat]'hj),by omega,by simp [hj],hk i.toNat _ (by omega) (by simp [hj])⟩
theorem Idx.at {α:Type} {l:List α} {f:α→AV} {k:Nat} {K:Nat→AV→Prop} (h:k < l.length) (hk:∀x,l[k]? =some x→K k (f x)):Idx (l.map f) (k:Int) K:=
 ⟨k,f (l[k]'h),rfl,by simp [h],hk _ (by simp [h])⟩
theorem Idx.got {α:Type} {l:List α} {f:α→AV} {i:Int} {k:Nat} {x:α} {K:Nat→AV→Prop} (hx:l[k]? =some x) (h:i=k) (hk:K k (f x)):Idx (l.map f) i K:=
 ⟨k,f x,h,by simp [hx],hk⟩
theorem ay {α:Type} {l:List α} {k:Nat} {x:α} (h:l[k]? =some x):l.drop k=x::l.drop (k+1):=by
 obtain⟨hk,rfl⟩:=List.getElem?_eq_some_iff.1 h
 rw [List.drop_eq_getElem_cons hk]
theorem zJ {α:Type} {l:List α} {k:Nat} (h:¬ k < l.length):l.drop k= []:=List.drop_eq_nil_of_le (by omega)
theorem aQ {α:Type} {l:List α} {k:Nat} (h:¬(k:Int) < (l.length:Nat)):l.drop k= []:=List.drop_eq_nil_of_le (by omega)
theorem MK {l:List AV} {a b:Int} {x:AV} (h:x∈iM l a b):x∈l:=List.mem_of_mem_take (List.mem_of_mem_drop h)
theorem zK {α:Type} {f:α→AV} {l:List α} {k:Nat}:iM (l.map f) 0 (k:Int)=(l.take k).map f:=by simp [iM,List.map_take]
theorem zL {α:Type} {f:α→AV} {l:List α} {k:Nat}:iM (l.map f) (k:Int) ((l.map f).length:Nat)=(l.drop k).map f:=by
 simp only [iM,Int.toNat_natCast,List.map_drop]
 rw [List.take_of_length_le (Nat.le_refl _)]
theorem lm {α β:Type} (l:List α) (f:α→β):(l.map f).length=l.length:=by simp
theorem lens:(∀{α β:Type} (l:List α) (f:α→β),(l.map f).length=l.length)∧(∀{α:Type} (l m:List α),(l++m).length=l.length+m.length)∧(∀{α:Type} (a:α) (l:List α),(a::l).length=l.length+1)∧
  (∀{α:Type},([]:List α).length=0)∧(∀{α:Type} (l:List α) (n:Nat) (a:α),(l.set n a).length=l.length)∧(∀{α:Type} (n:Nat) (a:α),(List.replicate n a).length=n)∧
  (∀{α:Type} (l:List α) (n:Nat),(l.take n).length=min n l.length)∧(∀{α:Type} (l:List α) (n:Nat),(l.drop n).length=l.length - n):=by simp
theorem VC.one {a L:Nat} {z:List ZC} {x:AV} {K:Prop} (h:a+1≤L) (hx:bF z x.cells=true) (k:K):VC (a+ [x].length≤L∧∀y∈[x],bF z y.cells=true) K:=
 ⟨⟨h,fun y hy=>by obtain rfl:=List.mem_singleton.1 hy;exact hx⟩,k⟩
theorem VC.all {α:Type} {a L:Nat} {z:List ZC} {l:List α} {f:α→AV} {K:Prop} (h:a+l.length≤L) (hx:∀x,bF z (f x).cells=true) (k:K):VC (a+(l.map f).length≤L∧∀y∈l.map f,bF z y.cells=true) K:=
 ⟨⟨by rw [List.length_map];exact h,fun y hy=>by obtain⟨x,_,rfl⟩:=List.mem_map.1 hy;exact hx x⟩,k⟩
theorem VC.WS {L:Nat} {z:List ZC} {x:AV} {K:Prop} (h:1≤L) (hx:bF z x.cells=true) (k:K):VC ([x].length≤L∧∀y∈[x],bF z y.cells=true) K:=
 ⟨⟨h,fun y hy=>by obtain rfl:=List.mem_singleton.1 hy;exact hx⟩,k⟩
theorem VC.WT {α:Type} {L:Nat} {z:List ZC} {l:List α} {f:α→AV} {K:Prop} (h:l.length≤L) (hx:∀x,bF z (f x).cells=true) (k:K):VC ((l.map f).length≤L∧∀y∈l.map f,bF z y.cells=true) K:=
 ⟨⟨by rw [List.length_map];exact h,fun y hy=>by obtain⟨x,_,rfl⟩:=List.mem_map.1 hy;exact hx x⟩,k⟩
theorem VC.cut {α:Type} {f:α→AV} {l:List α} {a n m:Int} {k:Nat} {K:Prop} (h:n=m) (hx:∀x,(f x).cells.length=k) (hK:K):VC (n=m∧(a=0∨∀x,(l.map f).head? =some x→x.cells.length=k)) K:=
 ⟨⟨h,.inr fun x hx'=>by rw [List.head?_map] at hx';obtain⟨y,_,rfl⟩:=Option.map_eq_some_iff.1 hx';exact hx y⟩,hK⟩
theorem dO.go {P:Program} {T:Nat→Ty} {L f:Nat} {args:List AR} {K:RV→Prop} {r:RV} (h:Contract P T L f args r) (k:r.wf L→K r):dO P T L f args K:=.mk r h k
theorem Et.go {P:Program} {T:Nat→Ty} {L f:Nat} {args:List AR} {K:RV→Prop} {r:RV} (h:Contract P T L f args r) (k:K r):Et (dO P T L) f args K:=.mk r (fun _ hk=>.mk r h fun _=>hk) k
inductive Tree where
 |leaf
 |node (k:Nat) (v:Ty) (l r:Tree)
def XO:Ty:=⟨.other,0,0,[],false⟩
def Tree.find:Tree→Nat→Ty
 | .leaf,_=>XO
 | .node k v l r,t=>bif Nat.beq t k then v else bif Nat.blt t k then l.find t else r.find t
def Tree.all (p:Nat→Ty→Prop):Tree→Prop
 | .leaf=>True
 | .node k v l r=>p k v∧l.all p∧r.all p
theorem Tree.EP {p:Nat→Ty→Prop}:∀{tr:Tree} {t:Nat},tr.all p→(tr.find t).good=true→p t (tr.find t)
 | .leaf,t,_,h=>by simp [Tree.find,XO,Ty.good] at h
 | .node k v l r,t,ha,h=>by
  obtain⟨h1,h2,h3⟩:=ha
  simp only [Tree.find] at h ⊢
  cases hb:Nat.beq t k with
  |true=>
   simp only [cond_true]
   rw [Nat.eq_of_beq_eq_true hb];exact h1
  |false=>
   simp only [hb,cond_false] at h ⊢
   cases hc:Nat.blt t k with
   |true=>simp only [hc,cond_true] at h ⊢;exact Tree.EP h2 h
   |false=>simp only [hc,cond_false] at h ⊢;exact Tree.EP h3 h
theorem WU {P:Program} {tr:Tree} (h:tr.all fun k v=>fT P tr.find v k):aW P tr.find:=fun _ hg=>Tree.EP h hg
theorem dw {P:Program} {T:Nat→Ty} {ty:Ty} {t:Nat} {i:TypeInfo} {z:Value} {d:TypeDesc} (h1:P.info? t=some i) (h2:i.size=ty.size) (h3:i.bytes=ty.bytes) (h4:i.zero=some z) (h5:z.cells.toList=ty.zero.map ZC.val)
  (h6:Nat.blt 0 ty.size=true) (h7:(bif ty.agg then true else Nat.beq ty.size 1)=true) (h8:Nat.beq ty.zero.length ty.size=true) (h9:Nat.ble ty.bytes 512=true)
  (h10:ty.eq=true→P.stoodInHeld t=false∧P.eqGuardType P.depth t=false∧∀f∈P.fieldsOf t,f.name≠ "_")
  (h11:P.underlying t=some d) (h12:match ty.kind with
  | .bool=>d= .bool
  | .int k=>d= .int k
  | .str=>d= .string
  | .slice E=>d= .slice E
  | .struct fs=>∃fields:Array Field,d= .struct fields∧fields.toList.map (fun f=>(f.offset,f.type))=fs∧∀p∈fs,(T p.2).good=true∧p.1+(T p.2).size≤ty.size
  | .fn=>Oo d=true
  | .other=>False):fT P T ty t:=
 ⟨⟨i,z,h1,h2,h3,h4,h5⟩,by simpa [Nat.blt_eq] using h6,fun ha=>by simpa [ha] using h7,Nat.eq_of_beq_eq_true h8,Nat.le_of_ble_eq_true h9,h10,d,h11,h12⟩
def within (n lo hi:Int):Bool:=decide (lo≤n)&&decide (n≤hi)
theorem within_iff {n lo hi:Int}:within n lo hi=true↔lo≤n∧n≤hi:=by simp [within]
theorem Rh {n lo hi:Int}:within n lo hi=false↔n < lo∨hi < n:=by
 rw [← Bool.not_eq_true,within_iff];omega
def Bd (n:Nat) (f:Nat→Bool):Bool:=(List.range n).all f
theorem eY {n:Nat} {f:Nat→Bool}:Bd n f=true↔∀i,i < n→f i=true:=by simp [Bd]
theorem kR {n:Nat} {f:Nat→Bool} (k:Nat) (hk:k < n) (h:f k=false):Bd n f=false:=by
 rw [← Bool.not_eq_true,eY];intro hh;rw [hh k hk] at h;cases h
theorem jv {f:Nat→Bool} {k:Nat} (h:∀i,i < k→f i=true) (hf:f k=true):∀i,i < k+1→f i=true:=by
 intro i hi
 by_cases e:i=k
 ·rw [e];exact hf
 ·exact h i (by omega)
def dz {α:Type} (p:α→Bool):List α→Nat→Int
 |[],_=> -1
 |x::l,k=>if p x=true then (k:Int) else dz p l (k+1)
theorem ER {α:Type} {p:α→Bool}:∀(l:List α) (k:Nat),decide (dz p l k≥0)=l.any p
 |[],k=>by simp [dz]
 |x::l,k=>by
  rw [dz]
  by_cases h:p x=true
  ·simp [h]
  ·rw [if_neg h,ER l (k+1)];simp [h]
def ES (s:ByteArray) (i:Nat):Int:=(s.data.toList.getD i 0).toNat
def nameAt (s:ByteArray) (i:Nat):Bool:=
 let c:=ES s i
 (decide (c≥97)&&decide (c≤122))||(!decide ((i:Int)=0)&& !decide (c < 48)&& !decide (c > 57))
def xZ (s:ByteArray):Bool:=Bd s.size (nameAt s)&&within s.size 1 8
def setAt (l:List Int) (i:Nat):Bool:=decide (i=0)||decide (l.getD (i - 1) 0 < l.getD i 0)
def qU (l:List Int):Bool:=Bd l.length (setAt l)
def dX (n:Int):List Int:=if within n 0 200=true then (List.range n.toNat).map Int.ofNat else []
def bM (n:Int):Bool:=within n 0 60
def dY (n:Int):Bool:=within n 0 20
def yc (l:List Step) (i:Nat):Bool:=
 match l[i]? with
 |some s=>bM s.at'&&dY s.cap&&(!decide ((i:Int)=0)|| !decide (s.at'≠0))&&(!decide ((i:Int) > 0)||(match l[i - 1]? with|some q=> !decide (s.at'≤q.at')|none=>true))
 |none=>true
def je (l:List Step):Bool:=Bd l.length (yc l)&&within l.length 1 8
def aT (t:Int):List Step→Int→Int
 |[],n=>n
 |s::l,n=>aT t l (if s.at'≤t then s.cap else n)
def bX (l:List Int) (n:Int):Bool:=l.all dY&&decide ((l.length:Int)=n)
def qj (m:Mode) (r s:Int):Bool:=within m.dur 1 12&&bX m.use r&&bX m.con s
def dH (a:au) (r s:Int):Bool:=(a.modes.all fun m=>qj m r s)&&(xZ a.name&&within a.fam 0 3&&within a.modes.length 1 3)
def rowOk (l:List Int):Bool:=decide ((l.length:Int)=4)&&l.all fun n=>within n 0 12
def lS (r:aP):Bool:=r.setup.all rowOk&&(je r.steps&&(decide ((r.setup.length:Int)=0)||decide ((r.setup.length:Int)=4)))
def bH (p:Proj) (n:Int):Bool:=within n 0 (p.acts.length - 1)
def gD (p:Proj) (n:Int):Bool:=within n 0 (p.aU.length - 1)
def lT (p:Proj) (n:Int):Bool:=within n 0 (p.aL.length - 1)
def zM (p:Proj) (name:ByteArray):Int:=dz (fun a=>decide (a.name=name)) p.acts 0
def lU (p:Proj) (k:Link):Bool:=bH p k.src&&bH p k.dst&& !decide (k.src=k.dst)&&within k.lag (-60) 60
def uK (p:Proj) (i:Nat):Bool:=
 match p.acts[i]? with
 |some a=>dH a p.aU.length p.aL.length&&decide (zM p a.name=i)
 |none=>true
def rJ (p:Proj):Bool:=within p.dead 1 60&&within p.acts.length 1 6&& !decide ((p.aU.length:Int) > 3)&& !decide ((p.aL.length:Int) > 2)&& !decide ((p.links.length:Int) > 12)
def aY (p:Proj):Bool:=rJ p&&Bd p.acts.length (uK p)&&p.aU.all lS&&(p.aL.all fun n=>within n 0 100)&&p.links.all (lU p)
def XP (p:Proj) (l:Lit):Bool:=
 aY p&&bH p l.act&&(
  if l.kind=1∨l.kind=2 then within l.val (-1) 61
  else if l.kind=3∨l.kind=4 then (match p.acts[l.act.toNat]? with|some a=>within l.val 0 (a.modes.length - 1)|none=>false)
  else false)
def wK:Lit:=⟨0,0,0⟩
def negate (l:Lit):Lit:=
 if within l.val (-100000) 100000=true then
  if l.kind=1 then⟨2,l.act,l.val - 1⟩ else if l.kind=2 then⟨1,l.act,l.val+1⟩
  else if l.kind=3 then⟨4,l.act,l.val⟩ else if l.kind=4 then⟨3,l.act,l.val⟩ else wK
 else wK
def ML (x y:Int):Int:=if x < y then -1 else if x > y then 1 else 0
def orI:List Int→Int
 |[]=>0
 |x::l=>if x≠0 then x else orI l
def WV (a b:Lit):Int:=orI [ML a.act b.act,ML a.kind b.kind,ML a.val b.val]
def Kl (a b:Lit):Bool:=decide (a.kind=b.kind)&&(decide (a.act=b.act)&&decide (a.val=b.val))
theorem Ct {a b:Lit}:Kl a b=true↔a=b:=by
 cases a;cases b;simp [Kl]
def clauseAt (p:Proj) (l:List Lit) (i:Nat):Bool:=
 match l[i]? with
 |some x=>XP p x&&(!decide ((i:Int) > 0)||(match l[i - 1]? with|some y=> !decide (WV y x≥0)|none=>true))
 |none=>true
def Tf (p:Proj) (l:List Lit):Bool:=Bd l.length (clauseAt p l)&&decide ((l.length:Int)≤24)
def Qq (n:Int):Bool:=within n (-2) 62
def clamped (n:Int):Int:=min (max n (-2)) 62
def XQ:Dom:=⟨[],[],[]⟩
def Tg (p:Proj):Dom:=⟨p.acts.map fun _=>0,p.acts.map fun _=>p.dead - 1,p.acts.map fun a=>dX a.modes.length⟩
def Vh (p:Proj):Dom:=if aY p=true then Tg p else XQ
def subset (a b:List Int):Bool:=a.all fun n=>b.contains n
def XR (p:Proj) (b:Dom) (i:Nat):Bool:=
 match b.lo[i]?,b.hi[i]?,b.modes[i]?,p.acts[i]? with
 |some x,some y,some m,some a=>Qq x&&Qq y&&qU m&&subset m (dX a.modes.length)
 |_,_,_,_=>true
def Vi (p:Proj) (b:Dom):Bool:=
 aY p&& !decide ((b.lo.length:Int)≠p.acts.length)&& !decide ((b.hi.length:Int)≠p.acts.length)&& !decide ((b.modes.length:Int)≠p.acts.length)&&Bd p.acts.length (XR p b)
def Vj (b:Dom) (i:Nat):Bool:=
 match b.lo[i]?,b.hi[i]? with
 |some x,some y=>decide (x > y)
 |_,_=>false
def Ti (b:Dom):Bool:=(List.range b.lo.length).any (Vj b)||b.modes.any fun m=>decide ((m.length:Int)=0)
def Tj (b:Dom) (a:Int):Bool:=decide (a≥0)&&decide (a < b.lo.length)&&decide (a < b.hi.length)&&decide (a < b.modes.length)
def restrict (b:Dom) (l:Lit):Dom:=
 if Tj b l.act=true then
  let a:=l.act.toNat
  if l.kind=1 then { b with lo:=b.lo.set a (max (b.lo.getD a 0) (clamped l.val)) }
  else if l.kind=2 then { b with hi:=b.hi.set a (min (b.hi.getD a 0) (clamped l.val)) }
  else if l.kind=3 then { b with modes:=b.modes.set a ((b.modes.getD a []).filter fun n=>decide (n=clamped l.val)) }
  else if l.kind=4 then { b with modes:=b.modes.set a ((b.modes.getD a []).filter fun n=>decide (n≠clamped l.val)) }
  else b
 else b
def against (b:Dom) (l:List Lit):Dom:=l.foldl (fun b x=>restrict b (negate x)) b
def WW (p:Proj) (l:List Lit):Dom:=against (Vh p) l
def valueOf (yes no:Bool):Int:=if yes=true then 1 else if no=true then -1 else 0
def litValue (b:Dom) (l:Lit):Int:=
 if Tj b l.act=true then
  let a:=l.act.toNat
  let m:=b.modes.getD a []
  if l.kind=1 then valueOf (decide (b.lo.getD a 0≥l.val)) (decide (b.hi.getD a 0 < l.val))
  else if l.kind=2 then valueOf (decide (b.hi.getD a 0≤l.val)) (decide (b.lo.getD a 0 > l.val))
  else if l.kind=3 then valueOf (decide (m= [l.val])) (!m.contains l.val)
  else if l.kind=4 then valueOf (!m.contains l.val) (decide (m= [l.val]))
  else 1
 else 1
def yg (b:Dom):List Lit→Int→Lit→Int×Lit
 |[],n,x=>if n=0 then (-1,wK) else if n=1 then (0,x) else (0,wK)
 |l::r,n,x=>if litValue b l=1 then (1,wK) else if litValue b l=0 then yg b r (n+1) l else yg b r n x
def status (b:Dom) (l:List Lit):Int×Lit:=yg b l 0 wK
def fC (p:Proj) (r:Int):Bool:=gD p r&&decide (((p.aU.getD r.toNat ⟨[],[]⟩).setup.length:Int) > 0)
def WX (p:Proj) (r:Rul):Bool:=
 aY p&&(
  if r.kind=1 then within r.a 0 (p.links.length - 1)&&decide (r.b=0)&&decide (r.c=0)
  else if r.kind=2 then bH p r.a&&decide (r.b=0)&&decide (r.c=0)
  else if r.kind=3 then gD p r.a&&bM r.b&&decide (r.c=0)
  else if r.kind=4 then gD p r.a&&bM r.b&&bM r.c&&decide (r.b < r.c)
  else if r.kind=5 then fC p r.a&&bH p r.b&&bH p r.c&&decide (r.b < r.c)
  else if r.kind=6 then lT p r.a&&decide (r.b=0)&&decide (r.c=0)
  else false)
def yh (ms:List Int):List Mode→Nat→List Mode
 |[],_=>[]
 |m::r,k=>if ms.contains (k:Int)=true then m::yh ms r (k+1) else yh ms r (k+1)
def chosen (a:au) (ms:List Int):List Mode:=yh ms a.modes 0
def least:List Int→Int
 |[]=>0
 |x::r=>r.foldl min x
def Tk (a:au) (ms:List Int):Int:=least ((chosen a ms).map Mode.dur)
def leastOf (l:List Mode) (f:Mode→Option Int):Int:=if l.all (fun m=>(f m).isSome)=true then least (l.map fun m=>(f m).getD 0) else 0
def IL (l:List Int) (i:Int):Option Int:=if within i 0 (l.length - 1)=true then some (l.getD i.toNat 0) else none
def OJ (a:au) (ms:List Int) (r:Int):Int:=leastOf (chosen a ms) fun m=>IL m.use r
def WY (a:au) (ms:List Int) (r:Int):Int:=leastOf (chosen a ms) fun m=>IL m.con r
def jG (p:Proj) (a:Nat):au:=p.acts.getD a ⟨⟨#[]⟩,0,[]⟩
def Qr (p:Proj) (b:Dom) (a:Nat):Int:=Tk (jG p a) (b.modes.getD a [])
def sumTo (f:Nat→Int):Nat→Int
 |0=>0
 |n+1=>sumTo f n+f n
def XT (p:Proj) (b:Dom) (r t:Int) (a:Nat):Int:=
 if b.hi.getD a 0≤t∧t < b.lo.getD a 0+Qr p b a then OJ (jG p a) (b.modes.getD a []) r else 0
def Vk (p:Proj) (b:Dom) (r t:Int):Int:=sumTo (XT p b r t) p.acts.length
def fits (n:Int):Bool:=within n (-100000) 100000
def overlap (s d x y:Int):Int:=
 if fits s=true∧fits d=true∧fits x=true∧fits y=true then (if d < 1 then 0 else max (min (s+d) y - max s x) 0) else 0
def uL (p:Proj) (r:Int):aP:=p.aU.getD r.toNat ⟨[],[]⟩
def Tm (p:Proj) (b:Dom) (a:Nat) (r x y i:Int):Int:=
 let m:=(jG p a).modes.getD i.toNat ⟨0,[],[]⟩
 min (overlap (b.lo.getD a 0) m.dur x y) (overlap (b.hi.getD a 0) m.dur x y)*m.use.getD r.toNat 0
def WZ (p:Proj) (b:Dom) (r x y:Int) (a:Nat):Int:=least ((b.modes.getD a []).map (Tm p b a r x y))
def Ri (p:Proj) (b:Dom) (r x y:Int):Int:=sumTo (WZ p b r x y) p.acts.length
def Tn (l:List Step) (x:Int):Nat→Int
 |0=>0
 |n+1=>Tn l x n+aT (x+n) l 0
def Tp (l:List Step) (x y:Int):Int:=if je l=true∧bM x=true∧bM y=true then Tn l x (y - x).toNat else 0
def DU (p:Proj) (r a o:Int):Int:=(((uL p r).setup.getD (jG p a.toNat).fam.toNat []).getD (jG p o.toNat).fam.toNat 0)
def Qs (p:Proj) (b:Dom) (r a o:Int):Int:=b.lo.getD a.toNat 0+Qr p b a.toNat+DU p r a o
def jam (p:Proj) (b:Dom) (r a o:Int):Bool:=
 decide (OJ (jG p a.toNat) (b.modes.getD a.toNat []) r > 0)&&decide (OJ (jG p o.toNat) (b.modes.getD o.toNat []) r > 0)&&
  decide (Qs p b r a o > b.hi.getD o.toNat 0)&&decide (Qs p b r o a > b.hi.getD a.toNat 0)
def ET (p:Proj) (k:Int):Link:=p.links.getD k.toNat ⟨0,0,false,0⟩
def Rj (p:Proj) (b:Dom) (k:Link):Bool:=
 decide (b.lo.getD k.src.toNat 0+(if k.DT=true then Qr p b k.src.toNat else 0)+k.lag > b.hi.getD k.dst.toNat 0)
def XU (p:Proj) (b:Dom) (k:Int) (a:Nat):Int:=WY (jG p a) (b.modes.getD a []) k
def OL (p:Proj) (b:Dom) (k:Int):Bool:=decide (sumTo (XU p b k) p.acts.length > p.aL.getD k.toNat 0)
def fails (p:Proj) (b:Dom) (r:Rul):Bool:=
 if r.kind=1 then Rj p b (ET p r.a)
 else if r.kind=2 then decide (b.lo.getD r.a.toNat 0+Qr p b r.a.toNat > p.dead)
 else if r.kind=3 then decide (Vk p b r.a r.b > aT r.b (uL p r.a).steps 0)
 else if r.kind=4 then decide (Ri p b r.a r.b r.c > Tp (uL p r.a).steps r.b r.c)
 else if r.kind=5 then jam p b r.a r.b r.c
 else OL p b r.a
def refutes (p:Proj) (b:Dom) (r:Rul):Bool:=Vi p b&&(Ti b||(WX p r&&fails p b r))
def follows (p:Proj) (r:Rul) (l:List Lit):Bool:=Tf p l&&refutes p (WW p l) r
def upTo (k:Nat):List Int:=(List.range k).map Int.ofNat
theorem sI (k:Nat):(upTo k).length=k:=by simp [upTo]
def lim:Nat:=274877906944
structure Gs (G G':Prop):Prop where
 h:G'→G
theorem Gs.ff {X:Bool→Prop}:Gs (Br false X) (X false):=⟨Br.ff⟩
theorem Gs.tt {X:Bool→Prop}:Gs (Br true X) (X true):=⟨Br.tt⟩
theorem Gs.not {b:Bool} {X:Bool→Prop}:Gs (Br (!b) X) (Br b fun t=>X (!t)):=⟨Br.not⟩
theorem Gs.yes {b:Bool} {X:Bool→Prop} (h:b=true):Gs (Br b X) (X true):=⟨Br.yes h⟩
theorem Gs.no {b:Bool} {X:Bool→Prop} (h:b=false):Gs (Br b X) (X false):=⟨Br.no h⟩
theorem Gs.ar {r:Int} {K:Int→Prop} (h: -9223372036854775808≤r∧r≤9223372036854775807):Gs (Arith .i64 r K) (K r):=⟨Arith.ok h⟩
theorem Gs.vc {p K:Prop} (h:p):Gs (VC p K) K:=⟨fun k=>⟨h,k⟩⟩
theorem Gs.od {ops:List Oper} {fp:List RW} {K:Prop} (h:yV ops fp=true):Gs (WR ops fp K) K:=⟨fun k=>⟨h,k⟩⟩
theorem Gs.one {a L:Nat} {z:List ZC} {x:AV} {K:Prop} (hx:bF z x.cells=true) (h:a+1≤L):Gs (VC (a+ [x].length≤L∧∀y∈[x],bF z y.cells=true) K) K:=⟨VC.one h hx⟩
theorem Gs.all {α:Type} {a L:Nat} {z:List ZC} {l:List α} {f:α→AV} {K:Prop} (hx:∀x,bF z (f x).cells=true) (h:a+l.length≤L):Gs (VC (a+(l.map f).length≤L∧∀y∈l.map f,bF z y.cells=true) K) K:=⟨VC.all h hx⟩
theorem Gs.WS {L:Nat} {z:List ZC} {x:AV} {K:Prop} (hx:bF z x.cells=true) (h:1≤L):Gs (VC ([x].length≤L∧∀y∈[x],bF z y.cells=true) K) K:=⟨VC.WS h hx⟩
theorem Gs.WT {α:Type} {L:Nat} {z:List ZC} {l:List α} {f:α→AV} {K:Prop} (hx:∀x,bF z (f x).cells=true) (h:l.length≤L):Gs (VC ((l.map f).length≤L∧∀y∈l.map f,bF z y.cells=true) K) K:=⟨VC.WT h hx⟩
theorem Gs.cut {α:Type} {f:α→AV} {l:List α} {a n m:Int} {k:Nat} {K:Prop} (h:n=m) (hx:∀x,(f x).cells.length=k):Gs (VC (n=m∧(a=0∨∀x,(l.map f).head? =some x→x.cells.length=k)) K) K:=⟨VC.cut h hx⟩
theorem Gs.at {α:Type} {l:List α} {f:α→AV} {k:Nat} {K:Nat→AV→Prop} (h:k < l.length):Gs (Idx (l.map f) (k:Int) K) (∀x,l[k]? =some x→K k (f x)):=⟨Idx.at h⟩
theorem Gs.of {α:Type} {l:List α} {f:α→AV} {i:Int} {K:Nat→AV→Prop} (h:0≤i∧i < l.length):Gs (Idx (l.map f) i K) (∀(j:Nat) (x:α),i=j→l[j]? =some x→K j (f x)):=⟨Idx.of_map h⟩
inductive Tq (P:Program) (T:Nat→Ty) (L f:Nat) (args:List AR) (K:RV→Prop):Prop
 |mk (r:RV) (h:Contract P T L f args r) (k:K r)
section
variable {P:Program} {T:Nat→Ty} {L f:Nat} {args:List AR} {K:RV→Prop} {r:RV}
theorem gC (h:Contract P T L f args r) (k:K r):Tq P T L f args K:=⟨r,h,k⟩
theorem Gs.k:Gs (dO P T L f args K) (Tq P T L f args fun r=>r.wf L→K r):=⟨fun⟨r,h,k⟩=>⟨r,h,k⟩⟩
theorem Gs.d:Gs (Et (dO P T L) f args K) (Tq P T L f args K):=⟨fun⟨r,h,k⟩=>⟨r,fun _ hk=>⟨r,h,fun _=>hk⟩,k⟩⟩
end
theorem gA {G G':Prop} (k:G') (s:Gs G G':=by
 with_reducible first|exact Gs.ff|exact Gs.tt|exact Gs.not|exact Gs.yes (by assumption)|exact Gs.no (by assumption)|exact Gs.ar (by first|omega|(simp only [lm];omega))|exact Gs.k|exact Gs.d|exact Gs.od (by kernel_rfl)|exact Gs.no (decide_eq_false (by decide))|exact Gs.yes (decide_eq_true (by decide))|exact Gs.yes (decide_eq_true rfl)):G:=s.h k
theorem gP {G G':Prop} (k:G') (s:Gs G G':=by
 (first|refine Gs.one rfl ?_|refine Gs.WS rfl ?_|refine Gs.all (fun _=>rfl) ?_|refine Gs.WT (fun _=>rfl) ?_);focus ((try dsimp only);unfold lim;first|omega|(simp only [lens,iM,sI] at*;omega))):G:=s.h k
theorem gQ {G G':Prop} (k:G') (s:Gs G G':=by
 exact Gs.vc ⟨by (try dsimp only);unfold lim;first|omega|(simp only [lens,iM,sI] at*;omega),fun x hx=>by obtain⟨y,_,rfl⟩:=List.mem_map.1 (MK hx);rfl⟩):G:=s.h k
theorem gV {G G':Prop} (k:G') (s:Gs G G':=by exact Gs.vc (by first|omega|(simp only [lm];omega))):G:=s.h k
theorem gM {G G':Prop} (k:G') (s:Gs G G':=by exact Gs.vc ⟨rfl,by omega,by (simp only [lm];unfold lim;omega)⟩):G:=s.h k
theorem gK {G G':Prop} (k:G') (s:Gs G G':=by first|exact Gs.cut rfl (fun _=>rfl)|exact Gs.vc ⟨rfl,.inl rfl⟩):G:=s.h k
structure Wn (p q:Prop):Prop where
 h:p→q
theorem Wn.y {n lo hi:Int}:Wn (within n lo hi=true) (lo≤n∧n≤hi):=⟨within_iff.1⟩
theorem Wn.n {n lo hi:Int}:Wn (within n lo hi=false) (n < lo∨hi < n):=⟨Rh.1⟩
structure Sm (p q:Prop):Prop where
 h:p→q
structure Gs2 (G A B:Prop):Prop where
 h:A→B→G
theorem Gs2.d {p q r:Prop} {i:Decidable p} {X:Bool→Prop} (h:Sm p q) (h':Sm (¬ p) r):Gs2 (Br (decide p) X) (q→X true) (r→X false):=⟨fun a b=>Br.dec (fun x=>a (h.h x)) fun x=>b (h'.h x)⟩
theorem Gs2.e {b:Bool} {q r q' r':Prop} {X:Bool→Prop} (h:Sm (b=true) q) (h':Sm (b=false) r) (k:Wn q q') (k':Wn r r'):Gs2 (Br b X) (q→q'→X true) (r→r'→X false):=⟨fun c d=>⟨fun x=>c (h.h x) (k.h (h.h x)),fun x=>d (h'.h x) (k'.h (h'.h x))⟩⟩
theorem Gs2.f {b:Bool} {q r:Prop} {X:Bool→Prop} (h:Sm (b=true) q) (h':Sm (b=false) r):Gs2 (Br b X) (q→X true) (r→X false):=⟨fun c d=>⟨fun x=>c (h.h x),fun x=>d (h'.h x)⟩⟩
theorem gB {G A B:Prop} (a:A) (b:B) (s:Gs2 G A B:=by
 (with_reducible first|apply Gs2.d|apply Gs2.f)<;>(apply Sm.mk;intro h;(try simp only [lm] at h);exact h)):G:=s.h a b
theorem gN {G A B:Prop} (a:A) (b:B) (s:Gs2 G A B:=by
 (with_reducible apply Gs2.e)<;>first|exact Wn.y|exact Wn.n|(apply Sm.mk;intro h;(try simp only [lm] at h);exact h)):G:=s.h a b
theorem gI {G A:Prop} (k:A) (s:Gs G A:=by with_reducible refine Gs.at ?_;(first|omega|(simp only [lm] at*;omega))):G:=s.h k
theorem gJ {G A:Prop} (k:A) (s:Gs G A:=by with_reducible refine Gs.of ?_;(first|omega|(simp only [lm] at*;omega))):G:=s.h k
theorem fv {G:Prop} (h:G:=by first|((repeat' ((conv=>whnf)<;>(first|exact trivial|exact VC.nod (by kernel_rfl)|refine VC.mk rfl ?_)));done)|fail):G:=h
theorem nx {ι:Type} {inv:ι→Prop} {W:ι→Prop} {n m y:Nat} {μ:ι→Nat} (x:ι) (i:inv x) (e:n=m:=by exact rfl) (w:W x:=by first|((repeat' ((conv=>whnf)<;>(first|exact trivial|exact rfl|with_reducible refine And.intro ?_ ?_)));done)|fail)
  (h:μ x < y:=by (try dsimp only);(try simp only [List.length_map]);omega):∃x,inv x∧n=m∧W x∧μ x < y:=⟨x,i,e,w,h⟩
theorem nw {ι:Type} {inv:ι→Prop} {W:ι→Prop} {n m y:Nat} {μ:ι→Nat} (x:ι) (w:W x) (i:inv x) (e:n=m:=by exact rfl)
  (h:μ x < y:=by (try dsimp only);(try simp only [List.length_map]);omega):∃x,inv x∧n=m∧W x∧μ x < y:=⟨x,i,e,w,h⟩
theorem aC.go {T:Nat→Ty} {body:(AX→St→Prop)→St→Prop} {n:Nat} {Q:AX→St→Prop} {s:St} {ks:List (Nat×SV)} {ms:List (Nat×List SV)} {ts:List (Nat×Nat×List AV×Nat)}
  (ι:Type) (inv:ι→Prop) (cs:ι→List (Nat×SV)) (cm:ι→List (Nat×List SV)) (ct:ι→List (Nat×Nat×List AV×Nat)) (μ:ι→Nat) (x₀:ι) (i₀:inv x₀)
  (hr:∀x,inv x→body (AX.then (fun s'=>∃x',inv x'∧s'.n=n∧Weak T s' ⟨cs x'++ks,cm x'++ms,ct x'++ts⟩∧μ x' < μ x) Q) ((Fr.mk (cs x++ks) (cm x++ms) (ct x++ts)).st n))
  (h₀:Weak T s ⟨cs x₀++ks,cm x₀++ms,ct x₀++ts⟩:=by first|((repeat' ((conv=>whnf)<;>(first|exact trivial|exact rfl|with_reducible refine And.intro ?_ ?_)));done)|fail):aC T body n Q s ks ms ts:=⟨ι,inv,cs,cm,ct,μ,x₀,i₀,h₀,hr⟩
structure Lg where
 proj:Proj
 dom:Dom
 decs:List Lit
 lines:List Lin
abbrev Lg.av (x:Lg):AV:=.agg [i64 x.proj.dead,.sl (x.proj.acts.map au.av),.sl (x.proj.links.map Link.av),.sl (x.proj.aU.map aP.av),ints x.proj.aL,ints x.dom.lo,ints x.dom.hi,.sl (x.dom.modes.map ints),lits x.decs,.sl (x.lines.map Lin.av)]
def lV (p:Proj) (s:aA) (i:Nat):Bool:=
 match s.starts[i]?,s.modes[i]?,p.acts[i]? with
 |some t,some m,some a=>bM t&&within m 0 (a.modes.length - 1)
 |_,_,_=>true
def aK (p:Proj) (s:aA):Bool:=
 aY p&& !decide ((s.starts.length:Int)≠p.acts.length)&& !decide ((s.modes.length:Int)≠p.acts.length)&&Bd p.acts.length (lV p s)
def lY (p:Proj) (s:aA) (k:Nat):Mode:=(jG p k).modes.getD (s.modes.getD k 0).toNat ⟨0,[],[]⟩
def sJ (p:Proj) (s:aA) (k:Nat):Int:=s.starts.getD k 0+(lY p s k).dur
def runs (p:Proj) (s:aA) (t:Int) (k:Nat):Bool:=decide (s.starts.getD k 0≤t)&&decide (sJ p s k > t)
def zN (p:Proj) (s:aA) (r t:Int) (k:Nat):Int:=if runs p s t k=true then (lY p s k).use.getD r.toNat 0 else 0
def DV (p:Proj) (s:aA) (r t:Int):Int:=sumTo (zN p s r t) p.acts.length
def zO (p:Proj) (s:aA) (r:Int) (k:Nat):Int:=(lY p s k).con.getD r.toNat 0
def EU (p:Proj) (s:aA) (r:Int):Int:=sumTo (zO p s r) p.acts.length
def fV (k:Nat):Rul:=⟨1,k,0,0⟩
def endRule (k:Nat):Rul:=⟨2,k,0,0⟩
def ji (r t:Nat):Rul:=⟨3,r,t,0⟩
def iR (r b c:Nat):Rul:=⟨5,r,b,c⟩
def gT (k:Nat):Rul:=⟨6,k,0,0⟩
def qV (r:Nat):List Rul:=(List.range 61).map (ji r)
def jY (p:Proj) (r b:Nat):List Rul:=if fC p r=true then (List.range (p.acts.length - (b+1))).map fun j=>iR r b (b+1+j) else []
def fu (p:Proj):List Rul:=
 (List.range p.links.length).map fV++(List.range p.acts.length).map endRule++(List.range p.aU.length).flatMap qV++
  (List.range p.aU.length).flatMap (fun r=>(List.range p.acts.length).flatMap (jY p r))++(List.range p.aL.length).map gT
def jZ (p:Proj) (s:aA) (r a o:Int):Bool:=decide (sJ p s a.toNat+DU p r a o≤s.starts.getD o.toNat 0)
def dP (p:Proj) (s:aA) (r b c:Int):Bool:=
 !decide ((lY p s b.toNat).use.getD r.toNat 0=0)&& !decide ((lY p s c.toNat).use.getD r.toNat 0=0)&& !jZ p s r b c&& !jZ p s r c b
def mR (p:Proj) (s:aA) (k:Link):Bool:=decide (s.starts.getD k.dst.toNat 0 < (if k.DT=true then sJ p s k.src.toNat else s.starts.getD k.src.toNat 0)+k.lag)
def breaks (p:Proj) (s:aA) (r:Rul):Bool:=
 if r.kind=1 then mR p s (ET p r.a)
 else if r.kind=2 then decide (sJ p s r.a.toNat > p.dead)
 else if r.kind=3 then decide (DV p s r.a r.b > aT r.b (uL p r.a).steps 0)
 else if r.kind=5 then dP p s r.a r.b r.c
 else decide (EU p s r.a > p.aL.getD r.a.toNat 0)
def jH (p:Proj) (s:aA):List Rul:=if aK p s=true then (fu p).filter (breaks p s) else []
def fA (p:Proj) (s:aA):Bool:=aK p s&&decide (((jH p s).length:Int)=0)
structure Res where
 status:Int
 sched:aA
 span:Int
 low:Int
 proof:List Lin
 visits:Int
abbrev Res.av (x:Res):AV:=.agg [i64 x.status,ints x.sched.starts,ints x.sched.modes,i64 x.span,i64 x.low,.sl (x.proof.map Lin.av),i64 x.visits]
def EW:Proj:=⟨0,[],[],[],[]⟩
open Go.RowKit
mutual
def AV.shape:AV→AV
 | .sl l=>.sl (AV.shapes l)
 | .agg l=>.agg (AV.shapes l)
 |_=>.any
def AV.shapes:List AV→List AV
 |[]=>[]
 |x::xs=>AV.shape x::AV.shapes xs
end
theorem ql {α:Type} (f:α→AV):∀l:List α,AV.shapes (l.map f)=l.map fun x=>(f x).shape
 |[]=>rfl
 |x::l=>by simp only [List.map_cons,AV.shapes,ql f l]
theorem nG:∀l:List AV,(AV.shapes l).length=l.length
 |[]=>rfl
 |x::l=>by simp only [AV.shapes,List.length_cons,nG l]
mutual
theorem EX:∀a:AV,a.shape.md true=true
 | .sl l=>by simp only [AV.shape,AV.md];exact Bf l
 | .agg l=>by simp only [AV.shape,AV.md];exact Bf l
 | .bool _=>rfl
 | .int _ _=>rfl
 | .str _=>rfl
 | .any=>rfl
theorem Bf:∀l:List AV,AV.mds true (AV.shapes l)=true
 |[]=>rfl
 |x::l=>by simp only [AV.shapes,AV.mds,Bool.and_eq_true];exact⟨EX x,Bf l⟩
end
section
variable {I:Nat→Prop} {w:World} {L:Nat}
mutual
theorem aD.shape:∀(a:AV) (v:Value),aD I w L a v→aD I w L a.shape v
 | .bool _,_,h=>by simp only [aD] at h;subst h;simp [AV.shape,aD,Sc]
 | .int _ _,_,h=>by simp only [aD] at h;subst h;simp [AV.shape,aD,Sc]
 | .str _,_,h=>by simp only [aD] at h;subst h;simp [AV.shape,aD,Sc]
 | .any,_,h=>h
 | .agg _,_,h=>by simp [aD] at h
 | .sl l,v,h=>by
  simp only [AV.shape,aD,nG] at h ⊢
  exact h.mono (fun _ h=>h) fun b sz o _ he=>bI.shape b sz l o he
theorem bI.shape (b sz:Nat):∀(l:List AV) (o:Nat),bI I w L b sz l o→bI I w L b sz (AV.shapes l) o
 |[],_,_=>by simp [AV.shapes,bI]
 |x::xs,o,h=>by
  simp only [AV.shapes,bI] at h ⊢
  exact⟨dV.shape b sz x o h.1,bI.shape b sz xs _ h.2⟩
theorem dV.shape (b sz:Nat):∀(x:AV) (o:Nat),dV I w L b sz x o→dV I w L b sz x.shape o
 | .agg l,o,h=>by simp only [AV.shape,dV,nG] at h ⊢;exact⟨h.1,aX.shape b l o h.2⟩
 | .bool _,o,h=>by simp only [AV.shape,dV] at h ⊢;exact⟨h.1,_,h.2,trivial⟩
 | .int _ _,o,h=>by simp only [AV.shape,dV] at h ⊢;exact⟨h.1,_,h.2,trivial⟩
 | .str _,o,h=>by simp only [AV.shape,dV] at h ⊢;exact⟨h.1,_,h.2,trivial⟩
 | .any,o,h=>h
 | .sl l,o,h=>by
  simp only [AV.shape,dV,nG] at h ⊢
  obtain⟨h1,v,h2,h3⟩:=h
  exact⟨h1,v,h2,h3.mono (fun _ h=>h) fun b sz o _ he=>bI.shape b sz l o he⟩
theorem aX.shape (b:Nat):∀(l:List AV) (o:Nat),aX I w L b l o→aX I w L b (AV.shapes l) o
 |[],_,_=>by simp [AV.shapes,aX]
 |x::xs,o,h=>by
  simp only [AV.shapes,aX] at h ⊢
  obtain⟨⟨v,h1,h2⟩,h3⟩:=h
  exact⟨⟨v,h1,aD.shape x v h2⟩,aX.shape b xs _ h3⟩
end
theorem aF.shape {a:AV} {v:Value} (h:aF I w L a v):aF I w L a.shape v:=by
 have go:∀(l:List AV) (cs:List Value),aN (aD I w L) l cs→aN (aD I w L) (AV.shapes l) cs:=by
  intro l
  induction l with
  |nil=>intro cs h;simpa [AV.shapes] using h
  |cons x l ih=>
   intro cs h
   cases cs with
   |nil=>exact h.elim
   |cons u cs=>simp only [AV.shapes];exact⟨aD.shape x u h.1,ih cs h.2⟩
 cases a with
 |agg l=>obtain⟨cs,h1,h2⟩:=h;exact⟨cs,h1,go l cs h2⟩
 |sl l=>exact aD.shape (.sl l) v h
 |bool b=>simp only [aF] at h;subst h;trivial
 |int k n=>simp only [aF] at h;subst h;trivial
 |str s=>simp only [aF] at h;subst h;trivial
 |any=>exact h
end
theorem Qt {α:Type} {m:Bool} {f:α→AV} (h:∀x,(f x).md m=true):∀l:List α,AV.mds m (l.map f)=true
 |[]=>rfl
 |x::l=>by simp only [List.map_cons,AV.mds,Bool.and_eq_true];exact⟨h x,Qt h l⟩
theorem Km {P:Program} {T:Nat→Ty} {L f:Nat} {k:Int} (hcf:∀(vs:Array Value) (w:World),(callFunc f vs).run P w= .ok (.enter f vs) w)
  (h:∀w:World,Calls P f #[.int .i64 k] w fun e w'=>∃b,e= .returned (.string b)∧Quiet w w'):Contract P T L f [.d (.int .i64 k)] (.d .any):=by
 refine⟨hcf,fun I J O mt w vs hI _ hO _ _ ha=>?_⟩
 match vs,ha with
 |[v],ha=>
  have hv:v= .int .i64 k:=ha.1
  subst hv
  refine (h w).mono ?_
  rintro e w' ⟨b,rfl,hb⟩
  exact⟨_,rfl,Turn.ofQ (fun k hk=>hO k hk.1) hb,I,[],fun _ h=>h,fun _ h=>.inl h,List.nodup_nil,fun _ h=>by simp at h,by simp only [dD];exact⟨trivial,trivial⟩⟩
 |[],ha=>exact ha.elim
 |_::_::_,ha=>exact ha.2.elim
end Go.Proofs.YtpfgedlimdeffaaGreat.Abs
namespace Go.Proofs.YtpfgedlimdeffaaGreat.Abs
def Sz (n:Int):Prop:= -1≤n∧n≤1048576
def szN (c:Nat) (n:Int):Int:=if n - c < 0 then -1 else n - c
def szB (r:Int) (f:Int→Int):Int:=if r < 0 then -1 else f r
def szL {α:Type} (f:α→Int→Int):List α→Int→Int
 |[],n=>n
 |x::r,n=>szB (f x n) (szL f r)
def szS {α:Type} (f:α→Int→Int) (l:List α) (n:Int):Int:=szB (szN l.length n) (szL f l)
theorem jI {c:Nat} {n:Int} (h:Sz n):Sz (szN c n):=by
 unfold Sz szN at*;split<;>omega
theorem ou {r:Int} {f:Int→Int} (h:Sz r) (hf:Sz r→Sz (f r)):Sz (szB r f):=by
 unfold szB;split
 ·unfold Sz;omega
 ·exact hf h
theorem Tt {α:Type} {f:α→Int→Int} (hf:∀{x n},Sz n→Sz (f x n)):∀{l:List α} {n:Int},Sz n→Sz (szL f l n)
 |[],_,h=>h
 |_::_,_,h=>ou (hf h) fun h=>Tt hf h
theorem yj {α:Type} {f:α→Int→Int} (hf:∀{x n},Sz n→Sz (f x n)) {l:List α} {n:Int} (h:Sz n):Sz (szS f l n):=ou (jI h) fun h=>Tt hf h
def filled {α:Type} (f:α→AV) (z:AV) (l:List α) (k:Nat):List AV:=(l.take k).map f++List.replicate ((((l.map f).length:Nat):Int).toNat - k) z
theorem dZ {α:Type} {f:α→AV} {z:AV} {l:List α} {k:Nat} (h:k < l.length):(filled f z l k)[k]? =some z:=by
 unfold filled
 rw [List.getElem?_append_right (by simp;omega)]
 rw [List.getElem?_replicate,if_pos (by simp;omega)]
theorem eD {α:Type} {f:α→AV} {z v:AV} {l:List α} {k:Nat} {x:α} (h:l[k]? =some x) (hv:v=f x):(filled f z l k).set k v=filled f z l (k+1):=by
 have hk:=(List.getElem?_eq_some_iff.1 h).1
 subst hv
 unfold filled
 rw [List.set_append_right _ _ (by simp;omega)]
 rw [List.take_add_one,h]
 simp only [List.map_append,List.append_assoc,List.length_map,List.length_take]
 congr 1
 rw [show k - min k l.length=0 by omega]
 obtain⟨m,hm⟩:∃m,((l.length:Nat):Int).toNat - k=m+1:=⟨l.length - k - 1,by omega⟩
 rw [hm,show ((l.length:Nat):Int).toNat - (k+1)=m by omega,List.replicate_succ]
 rfl
theorem eF {α:Type} {f:α→AV} {z:AV} {l:List α} {k:Nat} (h:l.length≤k):filled f z l k=l.map f:=by
 unfold filled
 rw [List.take_of_length_le h]
 simp;omega
section
variable {α:Type} [DecidableEq α]
def lZ (acc:List α) (x:α):List α:=if acc.getLast? =some x then acc else acc++[x]
def fD (l:List α):List α:=l.foldl lZ []
theorem nH {l:List α} {m:Nat} {x:α} (h:l[m]? =some x):fD (l.take (m+1))=lZ (fD (l.take m)) x:=by
 obtain⟨hm,rfl⟩:=List.getElem?_eq_some_iff.1 h
 rw [fD,List.take_succ_eq_append_getElem hm,List.foldl_append];rfl
theorem Kn (acc:List α) (x:α):(lZ acc x).getLast? =some x:=by
 unfold lZ
 split
 ·assumption
 ·simp
theorem xq {l:List α} {m:Nat} {x:α} (h:l[m]? =some x):(fD (l.take (m+1))).getLast? =some x:=by
 rw [nH h];exact Kn _ _
theorem xu {l:List α} {m:Nat} {x:α} (h1:l[m]? =some x) (h2:l[m+1]? =some x):fD (l.take (m+2))=fD (l.take (m+1)):=by
 rw [nH h2,lZ,if_pos (xq h1)]
theorem zP {l:List α} {m:Nat} {x y:α} (h1:l[m]? =some x) (h2:l[m+1]? =some y) (hn:y≠x):fD (l.take (m+2))=fD (l.take (m+1))++[y]:=by
 rw [nH h2,lZ,if_neg]
 rw [xq h1]
 intro e;cases e;exact hn rfl
theorem EY {l:List α} (h:l.length < 2):fD l=l:=by
 match l,h with
 |[],_=>rfl
 |[x],_=>rfl
structure uM (l:List α) (K m:Nat) (dk:List α):Prop where
 km:K+1≤m
 ml:m≤l.length
 len:dk.length=l.length
 kept:dk.take K=fD (l.take m)
 rest:dk.drop (m - 1)=l.drop (m - 1)
theorem uM.at {l dk:List α} {K m j:Nat} (h:uM l K m dk) (hj:m - 1≤j) {x:α} (hx:l[j]? =some x):dk[j]? =some x:=by
 have:(dk.drop (m - 1))[j - (m - 1)]? =(l.drop (m - 1))[j - (m - 1)]? :=by rw [h.rest]
 rw [List.getElem?_drop,List.getElem?_drop,show m - 1+(j - (m - 1))=j by omega,hx] at this
 exact this
theorem uM.start {l:List α} {k:Nat} {x:α} (hk:fD (l.take (k+1))=l.take (k+1)) (h1:l[k]? =some x) (h2:l[k+1]? =some x):uM l (k+1) (k+2) l:=
 ⟨by omega,by have:=(List.getElem?_eq_some_iff.1 h2).1;omega,rfl,by rw [xu h1 h2,hk],rfl⟩
theorem uM.same {l dk:List α} {K m:Nat} (h:uM l K m dk) {x:α} (h1:l[m - 1]? =some x) (h2:l[m]? =some x):uM l K (m+1) dk:=by
 have km:=h.km
 obtain⟨i,rfl⟩:∃i,m=i+1:=⟨m - 1,by omega⟩
 refine⟨by omega,by have:=(List.getElem?_eq_some_iff.1 h2).1;omega,h.len,by rw [h.kept];exact (xu (m:=i) h1 h2).symm,?_⟩
 have:=h.rest
 simp only [Nat.add_sub_cancel] at this ⊢
 rw [← List.drop_drop, ← List.drop_drop,this]
theorem uM.new {l dk:List α} {K m:Nat} (h:uM l K m dk) {x y:α} (h1:l[m - 1]? =some x) (h2:l[m]? =some y) (hn:y≠x):uM l (K+1) (m+1) (dk.set K y):=by
 have km:=h.km
 have hlen:=h.len
 have hml:=(List.getElem?_eq_some_iff.1 h2).1
 obtain⟨i,rfl⟩:∃i,m=i+1:=⟨m - 1,by omega⟩
 refine⟨by omega,by omega,by simpa using h.len,?_,?_⟩
 ·rw [List.take_succ_eq_append_getElem (by simp;omega),List.take_set_of_le (Nat.le_refl _),h.kept,zP (m:=i) h1 h2 hn]
  simp
 ·have:=h.rest
  simp only [Nat.add_sub_cancel] at this ⊢
  rw [List.drop_set_of_lt (by omega), ← List.drop_drop, ← List.drop_drop,this]
end
instance:DecidableEq Lit:=fun x y=>match h:Kl x y with
 |true=>.isTrue (Ct.1 h)
 |false=>.isFalse fun e=>by rw [e,Ct.2 rfl] at h;cases h
abbrev Cu (x y:Lit):Prop:=x.act < y.act∨(x.act=y.act∧(x.kind < y.kind∨(x.kind=y.kind∧x.val < y.val)))
theorem Cu.ne {a b:Lit} (h:Cu a b):a≠b:=by rintro rfl;unfold Cu at h;omega
theorem Cu.trans {a b c:Lit} (h:Cu a b) (k:Cu b c):Cu a c:=by unfold Cu at*;omega
open Go.RowKit Go.ChangeShapes Go.WideShapes
structure Tv {H:Type} (μ:DataW H→Nat):Prop where
 sl:∀elems spare,elems.length≤μ (.slice elems spare)
 slE:∀elems spare x,x∈elems→μ x≤μ (.slice elems spare)
 agg:∀parts x,x∈parts→μ x≤μ (.agg parts)
 str:∀s:List UInt8,s.length≤μ (.lit (.string s))
section
variable {H:Type} (enc:TypeId×Value→H) (P:Program) (w:World) (I:Nat→Prop) (L:Nat) (μ:DataW H→Nat) (N:Nat)
def Rd (t:Nat) {α:Type} (f:α→AV) (q:α→Prop):Prop:=
 ∀(fuel:Nat) (cs:List Value) (d:DataW H) (ps:List MemPlace),DataW.trod enc P w 0 (fun _=>true) true fuel t cs=some (d,ps)→μ d≤N→∃x,q x∧aN (aD I w L) (f x).cells cs
def DX (len:Nat) (fs:List Field) (o:Nat) {β:Type} (g:β→List AV) (q:β→Prop):Prop:=
 ∀(n:Nat) (cs:List Value) (xs:List (DataW H×List MemPlace)),cs.length=len→xs.length=fs.length→
  (∀(i:Nat) (f:Field),fs[i]? =some f→DataW.trod enc P w 0 (fun _=>true) true n f.type ((cs.drop f.offset).take (P.cellsOf f.type))=xs[i]?)→(∀y∈xs,μ y.1≤N)→
  ∃x,q x∧aN (aD I w L) (g x) (cs.drop o)
end
section
variable {H:Type} {enc:TypeId×Value→H} {P:Program} {w:World} {I:Nat→Prop} {L:Nat} {μ:DataW H→Nat} {N:Nat}
theorem Za {n:Int} (h:(Lit.int .i64 n).wf=true): -9223372036854775808≤n∧n≤9223372036854775807:=by
 simp only [Lit.wf,Bool.and_eq_true,decide_eq_true_eq] at h
 exact h
theorem jC {t:Nat} (ht:P.underlying t=some (.int .i64)):Rd enc P w I L μ N t (fun n=>.int .i64 n) (fun n=> -9223372036854775808≤n∧n≤9223372036854775807):=by
 intro fuel cs d ps h _
 obtain⟨n,rfl,_,hw⟩:=DataW.trod_int ht h
 refine⟨n,Za hw,?_⟩
 simp [AV.cells,aN,aD]
theorem Vl {t:Nat} (ht:P.underlying t=some .bool):Rd enc P w I L μ N t (fun b=>.bool b) (fun _=>True):=by
 intro fuel cs d ps h _
 obtain⟨b,rfl,_⟩:=DataW.trod_bool ht h
 exact⟨b,trivial,by simp [AV.cells,aN,aD]⟩
theorem Xa (hb:Tv μ) {t:Nat} (ht:P.underlying t=some .string):Rd enc P w I L μ N t (fun s=>.str s) (fun s=>s.size≤N):=by
 intro fuel cs d ps h hm
 obtain⟨s,rfl,hx,_⟩:=DataW.trod_string ht h
 simp only [Prod.mk.injEq] at hx
 rw [hx.1] at hm
 have:=hb.str s.data.toList
 exact⟨s,by have e:s.size=s.data.toList.length:=(Array.length_toList (xs:=s.data)).symm
            omega,by simp [AV.cells,aN,aD]⟩
theorem Cv {b sz:Nat}:∀{l:List AV} {o:Nat},(∀(i:Nat) (x:AV),l[i]? =some x→dV I w L b sz x (o+i*sz))→bI I w L b sz l o
 |[],_,_=>by simp [bI]
 |x::l,o,h=>by
  simp only [bI]
  refine⟨by simpa using h 0 x rfl,Cv fun i y hy=>?_⟩
  have:=h (i+1) y (by simpa using hy)
  rwa [show o+(i+1)*sz=o+sz+i*sz by rw [Nat.succ_mul];omega] at this
theorem zQ {b:Nat}:∀{l:List AV} {cs:List Value} {o:Nat},aN (aD I w L) l cs→(∀(j:Nat) (v:Value),cs[j]? =some v→w.cell? ⟨b,o+j,none⟩=some v)→aX I w L b l o
 |[],_,_,_,_=>by simp [aX]
 |x::l,[],_,h,_=>h.elim
 |x::l,v::cs,o,h,hc=>by
  simp only [aX]
  refine⟨⟨v,by simpa using hc 0 v rfl,h.1⟩,zQ h.2 fun j u hu=>?_⟩
  have:=hc (j+1) u (by simpa using hu)
  rwa [show o+(j+1)=o+1+j by omega] at this
theorem cell_spot {a:Addr} {n:Nat} {v:Value} (h:w.cell? (a.add n)=some v):(a.add n).spot=none:=by
 unfold World.cell? at h
 split at h
 ·split at h
  ·cases h
  ·rename_i hs;simpa using hs
 ·cases h
theorem add_eq {a:Addr} (ha:a.spot=none) (n:Nat):a.add n=⟨a.block,a.off+n,none⟩:=by
 unfold Addr.add
 split
 ·subst n;cases a;simp at ha;simp [ha]
 ·rfl
theorem jk (hb:Tv μ) (hNL:N≤L) (hI:∀b o v,w.cell? ⟨b,o,none⟩=some v→I b) {t e sz:Nat} (ht:P.underlying t=some (.slice e)) (hc:P.cellsOf e=sz) (hpos:0 < sz) {α:Type} {f:α→AV} {q:α→Prop}
  (hsz:∀x,(f x).cells.length=sz) (he:Rd enc P w I L μ N e f q):Rd enc P w I L μ N t (fun l:List α=>.sl (l.map f)) (fun l=>l.length≤N∧∀x∈l,q x):=by
 intro fuel cs d ps h hm
 rcases Go.Deep.open_slice ht h with⟨rfl,hx⟩|⟨a,len,cap,m,n,D,Pl,rfl,_,hl,_,hmm,hx,hel⟩
 ·refine⟨[],⟨Nat.zero_le _,by simp⟩,?_⟩
  simp only [AV.cells,aN,aD,List.map_nil,List.length_nil,and_true]
  exact⟨none,0,rfl,Nat.zero_le _,Nat.le_refl _,.inl rfl⟩
 ·simp only [if_true] at hmm
  subst hmm
  simp only [Prod.mk.injEq] at hx
  have hd:=hx.1
  subst hd
  rw [hc] at hel
  have hlen:len≤N:=by
   have:=hb.sl ((List.range len).map D) ((List.range (m - len)).map fun j=>D (len+j))
   simp at this;omega
  have XV:∀i,i < len→∃x,q x∧∃cs',w.cells? 0 (a.add (i*sz)) sz=some cs'∧aN (aD I w L) (f x).cells cs':=fun i hi=>by
   obtain⟨cs',h1,h2⟩:=hel i (by omega)
   obtain⟨x,h3,h4⟩:=he n cs' _ _ h2 (Nat.le_trans (hb.slE _ _ (D i) (List.mem_map.2 ⟨i,by simpa using hi,rfl⟩)) hm)
   exact⟨x,h3,cs',h1,h4⟩
  have key:∃l:List α,l.length=len∧∀i x,l[i]? =some x→q x∧∃cs',w.cells? 0 (a.add (i*sz)) sz=some cs'∧aN (aD I w L) (f x).cells cs':=by
   clear hlen hl hm hx h hel
   induction len with
   |zero=>exact⟨[],rfl,by simp⟩
   |succ k ih=>
    obtain⟨l,h1,h2⟩:=ih fun i hi=>XV i (by omega)
    obtain⟨x,h3⟩:=XV k (by omega)
    refine⟨l++[x],by simp [h1],fun i y hy=>?_⟩
    by_cases hik:i < l.length
    ·rw [List.getElem?_append_left hik] at hy;exact h2 i y hy
    ·rw [List.getElem?_append_right (by omega)] at hy
     have:i=k:=by
      have:=(List.getElem?_eq_some_iff.1 hy).1
      simp at this;omega
     subst this
     rw [show i - l.length=0 by omega] at hy
     simp at hy;subst hy;exact h3
  obtain⟨l,h1,h2⟩:=key
  refine⟨l,⟨by omega,fun x hx=>?_⟩,?_⟩
  ·obtain⟨i,hi,rfl⟩:=List.getElem_of_mem hx
   exact (h2 i _ (List.getElem?_eq_getElem hi)).1
  ·simp only [AV.cells,aN,aD,and_true]
   refine⟨some a,m,by simp [h1],by simp;omega,by simp;omega,?_⟩
   by_cases h0:len=0
   ·left;simp;exact List.eq_nil_of_length_eq_zero (by omega)
   ·right
    have first:∃v,w.cell? (a.add 0)=some v:=by
     obtain⟨x,hx⟩:∃x,l[0]? =some x:=⟨l[0]'(by omega),by simp⟩
     obtain⟨_,cs',h3,_⟩:=h2 0 x hx
     obtain⟨_,h4,h5⟩:=World.cells?_some h3
     have:=h5 0 hpos
     rw [List.getElem?_eq_getElem (by omega)] at this
     rw [Nat.zero_mul] at this
     rw [show (a.add 0).add 0=a.add 0 by simp [Addr.add]] at this
     exact⟨_,this⟩
    obtain⟨v,hv⟩:=first
    have hs:=cell_spot hv
    rw [show a.add 0=a by simp [Addr.add]] at hs hv
    refine⟨a.block,a.off,sz,by cases a;simp at hs;simp [hs],hI a.block a.off v (by cases a;simp at hs;subst hs;exact hv),Cv fun i y hy=>?_⟩
    rw [List.getElem?_map] at hy
    obtain⟨x,hx,rfl⟩:=Option.map_eq_some_iff.1 hy
    obtain⟨_,cs',h3,h4⟩:=h2 i x hx
    obtain⟨_,h5,h6⟩:=World.cells?_some h3
    refine jh.2 ⟨hsz x,zQ h4 fun j u hu=>?_⟩
    have hj:j < sz:=by
     have:=(List.getElem?_eq_some_iff.1 hu).1
     omega
    have:=h6 j hj
    rw [hu,add_eq hs,add_eq rfl] at this
    exact this
theorem iY {len:Nat}:DX enc P w I L μ N len [] len (fun _:Unit=>[]) (fun _=>True):=by
 intro n cs xs h1 _ _ _
 refine⟨(),trivial,?_⟩
 rw [List.drop_eq_nil_of_le (by omega)]
 trivial
theorem aO {len o k:Nat} {f:Field} {fs:List Field} {α β:Type} {g:α→AV} {q:α→Prop} {gs:β→List AV} {qs:β→Prop} (ho:f.offset=o) (hk:P.cellsOf f.type=k)
  (r:Rd enc P w I L μ N f.type g q) (rs:DX enc P w I L μ N len fs (o+k) gs qs):DX enc P w I L μ N len (f::fs) o (fun x:α×β=>(g x.1).cells++gs x.2) (fun x=>q x.1∧qs x.2):=by
 intro n cs xs h1 h2 h3 h4
 match xs,h2 with
 |y::ys,h2=>
  have hy:=h3 0 f rfl
  simp only [List.getElem?_cons_zero,ho,hk] at hy
  obtain⟨a,ha,hr⟩:=r n _ y.1 y.2 hy (h4 y (by simp))
  obtain⟨b,hb,hrs⟩:=rs n cs ys h1 (by simpa using h2) (fun i f' hf=>by have:=h3 (i+1) f' (by simpa using hf);simpa using this) (fun z hz=>h4 z (by simp [hz]))
  refine⟨(a,b),⟨ha,hb⟩,?_⟩
  have e:cs.drop o=(cs.drop o).take k++cs.drop (o+k):=by rw [← List.drop_drop,List.take_append_drop]
  rw [e]
  exact hr.append hrs
theorem kY (hb:Tv μ) {t len:Nat} {fs:Array Field} (ht:P.underlying t=some (.struct fs)) (hlen:P.cellsOf t=len) {β:Type} {g:β→List AV} {q:β→Prop} (r:DX enc P w I L μ N len fs.toList 0 g q)
  {α:Type} {F:α→AV} {Q:α→Prop} (mk:β→α) (hF:∀x,(F (mk x)).cells=g x) (hQ:∀x,q x→Q (mk x)):Rd enc P w I L μ N t F Q:=by
 intro fuel cs d ps h hm
 obtain⟨xs,n,_,hx,h1,h2,h3⟩:=DataW.trod_struct ht h
 simp only [Prod.mk.injEq] at hx
 rw [hx.1] at hm
 obtain⟨x,hq,hr⟩:=r n cs xs (by omega) (by simpa using h2) (fun i f hf=>h3 i f (by simpa using hf)) (fun y hy=>Nat.le_trans (hb.agg _ y.1 (List.mem_map.2 ⟨y,hy,rfl⟩)) hm)
 refine⟨mk x,hQ x hq,?_⟩
 rw [hF]
 simpa using hr
theorem yu {J O:Nat→Prop} {mt:Bool} {r:Reach} {b0 t:Nat} {fs:Array Field} (ht:P.underlying t=some (.struct fs)) {v:Value} {d:DataW H} {ps:List MemPlace} (hval:Value.okWide P w r b0 t v)
  (hd:DataW.Trod enc P w 0 (fun _=>true) true t v d ps) (hm:μ d≤N) {α:Type} {f:α→AV} {q:α→Prop} (hR:Rd enc P w I L μ N t f q) (hf:∀x,∃l,f x= .agg l):∃x,q x∧lN I J O mt w L (.d (f x)) v:=by
 simp only [Value.okWide,ht] at hval
 obtain⟨cs,rfl,_⟩:=hval
 obtain⟨fuel,hd⟩:=hd
 obtain⟨x,hq,hr⟩:=hR fuel _ d ps hd hm
 refine⟨x,hq,?_⟩
 obtain⟨l,hl⟩:=hf x
 simp only [lN]
 rw [hl] at hr ⊢
 exact⟨cs.toList,by simp,by simpa [AV.cells,Value.cells] using hr⟩
end
open Go.ChangeShapes Go.WideShapes Go.ChangeAt Go.RowKit
theorem Vm {w:World} {a:Addr} {v:Value} (h:w.cell? a=some v):a.block < w.heap.size:=by
 unfold World.cell? at h
 split at h
 ·rename_i c e r hb
  exact (Array.getElem?_eq_some_iff.1 hb).1
 ·cases h
section
variable {H:Type} {enc:TypeId×Value→H} {P:Program}
theorem xw {W W':World} (hl:laidOutB P=true) (hb:Below W.heap.size W W'):∀{ts:List TypeId} {vs:List Value} {ds:List (DataW H)} {p:List MemPlace},
  (∀t∈ts,P.readableRec t=true∧t < P.types.size)→(∀x∈p,x.block < W.heap.size)→DataW.TrodAll enc P W 0 (fun _=>true) true ts vs ds p→
  DataW.TrodAll enc P W' 0 (fun b=>decide (b < W.heap.size)) true ts vs ds p
 |[],vs,ds,p,_,_,h=>by
  obtain⟨rfl,rfl,rfl⟩:=trodAll_nil h
  exact trodAll_mk0
 |t::ts,vs,ds,p,ht,hp,h=>by
  obtain⟨v,vs',d,ds',a,b,rfl,rfl,rfl,h1,h2⟩:=trodAll_cons h
  exact trodAll_cons_mk (Below.trod hl (ht t (by simp)).1 (ht t (by simp)).2 h1 hb fun x hx=>hp x (by simp [hx]))
   (xw hl hb (fun t h=>ht t (by simp [h])) (fun x hx=>hp x (by simp [hx])) h2)
theorem Rk {f:Func} {s:ChangeSpec} {tb:Nat} (hl:laidOutB P=true) (hr:f.resultTypes= #[tb]) (htb:P.underlying tb=some .bool) (hv:s.vars= [])
  (hp:∀t∈f.params.toList,P.readableRec t=true∧t < P.types.size) {W W':World} {args:Array Value} {ds gs:List (DataW H)} {before:List MemPlace} (hW:DataW.Whole enc P f.params.toList s.vars false W args.toList ds gs before)
  (hfn:s.fn H (ds++gs)= { results:=[.lit (.bool true)],args:=ds }) (hb:Below W.heap.size W W'):s.post enc P f false true false false W args (.bool true) W':=by
 have hW':=hW
 obtain⟨p,q,hA,hV,hbe,hfz,hnd⟩:=hW
 rw [hv] at hV
 obtain⟨rfl,rfl⟩:=trodVars_none hV
 have hlt:∀x∈before,x.block < W.heap.size:=fun x hx=>hW'.lt x hx
 rw [List.append_nil] at hbe
 subst hbe
 refine⟨ds,[],before,[],before,[],hW',?_,?_,?_,hb.frame _,nofun⟩
 ·rw [hfn,hr];exact trodAll_cons_mk (shut_bool htb _) trodAll_mk0
 ·rw [hfn];exact xw hl hb hp hlt hA
 ·rw [hfn,hv];rfl
end
end Go.Proofs.YtpfgedlimdeffaaGreat.Abs
