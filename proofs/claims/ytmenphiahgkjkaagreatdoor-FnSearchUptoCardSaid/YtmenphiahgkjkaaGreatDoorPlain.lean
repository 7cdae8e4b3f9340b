/- Loops whose frame is taken from the state; heads and their rules. -/
import Derived.Test.YtmenphiahgkjkaaGreatDoorLayB
import Derived.IntWalk
import Derived.Test.YtmenphiahgkjkaaGreatDoorLayA
import Derived.Deep.Slices
import Derived.Carry
import Derived.ProofKit
import Derived.OpenShut
import Derived.JoinedCond
set_option linter.all false
namespace Go.Proofs.YtmenphiahgkjkaaGreatDoor.Abs
open Go.Proofs
section
variable (s:St)
def WC (v:SV) (K:SV→Prop):Prop:=
 match v with
 | .data a=>K (.data a)
 | .ah=>K .ah
 | .fr l=>K (.fr l)
 | .ref a=>K (.ref a)
 | .old a=>K (.old a)
 | .fnr f c=>K (.fnr f c)
 | .argv i j a=>K (.argv i j a)
 | .box d g off=>(match s.mem d with|some (g',_)=>bif Nat.beq g' g then K (.box d 0 off) else False|none=>False)
 | .bsl d g n=>(match s.mem d with|some (g',_)=>bif Nat.beq g' g then K (.bsl d 0 n) else False|none=>False)
 | .own τ g=>(match s.tok τ with
  |some t=>bif Nat.beq t.gen g then (bif t.frz then K (.data (.sl t.l)) else K (.own τ 0)) else False
  |none=>False)
 |_=>False
def Oj:List Nat→(List (Nat×SV)→Prop)→Prop
 |[],K=>K []
 |i::r,K=>match s.get i with
  | .undef=>Oj r K
  | .gone=>Oj r K
  |v=>WC s v fun v'=>Oj r fun l=>K ((i,v')::l)
def WE:List SV→(List SV→Prop)→Prop
 |[],K=>K []
 |v::r,K=>WC s v fun v'=>WE r fun l=>K (v'::l)
def SL:List Nat→(List (Nat×List SV)→Prop)→Prop
 |[],K=>K []
 |d::r,K=>match s.mem d with
  |some (_,cells)=>WE s cells fun cs=>SL r fun l=>K ((d,cs)::l)
  |none=>SL r K
def YQ (skip:List Nat) (v:SV) (acc:List Nat):List Nat:=
 match v with
 | .own τ _=>bif DL τ skip||DL τ acc then acc else τ::acc
 |_=>acc
def aaH (skip:List Nat):List SV→List Nat→List Nat
 |[],acc=>acc
 |v::r,acc=>aaH skip r (YQ skip v acc)
def aaI (skip:List Nat):List (Nat×SV)→List Nat→List Nat
 |[],acc=>acc
 |(_,v)::r,acc=>aaI skip r (YQ skip v acc)
def aaJ (skip:List Nat):List (Nat×List SV)→List Nat→List Nat
 |[],acc=>acc
 |(_,c)::r,acc=>aaJ skip r (aaH skip c acc)
def WG:List Nat→(List (Nat×Nat×List AV×Nat)→Prop)→Prop
 |[],K=>K []
 |τ::r,K=>match s.tok τ with
  |some t=>WG r fun l=>K ((τ,t.E,t.l,bif t.lin then 1 else 0)::l)
  |none=>False
theorem SN {v:SV} {K:SV→Prop} (h:WC s v K):∃x,K x:=by
 unfold WC at h
 split at h
 ·exact⟨_,h⟩
 ·exact⟨_,h⟩
 ·exact⟨_,h⟩
 ·exact⟨_,h⟩
 ·exact⟨_,h⟩
 ·exact⟨_,h⟩
 ·exact⟨_,h⟩
 ·split at h
  ·rename_i g' _ _;cases hb:Nat.beq g' _<;>rw [hb] at h
   ·exact h.elim
   ·exact⟨_,h⟩
  ·exact h.elim
 ·split at h
  ·rename_i g' _ _;cases hb:Nat.beq g' _<;>rw [hb] at h
   ·exact h.elim
   ·exact⟨_,h⟩
  ·exact h.elim
 ·split at h
  ·rename_i t _;cases hb:Nat.beq t.gen _<;>rw [hb] at h
   ·exact h.elim
   ·cases hf:t.frz<;>rw [hf] at h<;>exact⟨_,h⟩
  ·exact h.elim
 ·exact h.elim
theorem Eo:∀{l:List Nat} {K:List (Nat×SV)→Prop},Oj s l K→∃x,K x
 |[],K,h=>⟨_,h⟩
 |i::r,K,h=>by
  unfold Oj at h
  split at h
  ·exact Eo h
  ·exact Eo h
  ·obtain⟨x,h⟩:=SN s h
   obtain⟨y,h⟩:=Eo h
   exact⟨_,h⟩
theorem SQ:∀{l:List SV} {K:List SV→Prop},WE s l K→∃x,K x
 |[],K,h=>⟨_,h⟩
 |i::r,K,h=>by
  unfold WE at h
  obtain⟨x,h⟩:=SN s h
  obtain⟨y,h⟩:=SQ h
  exact⟨_,h⟩
theorem Kw:∀{l:List Nat} {K:List (Nat×List SV)→Prop},SL s l K→∃x,K x
 |[],K,h=>⟨_,h⟩
 |i::r,K,h=>by
  unfold SL at h
  split at h
  ·obtain⟨x,h⟩:=SQ s h
   obtain⟨y,h⟩:=Kw h
   exact⟨_,h⟩
  ·exact Kw h
theorem SS:∀{l:List Nat} {K:List (Nat×Nat×List AV×Nat)→Prop},WG s l K→∃x,K x
 |[],K,h=>⟨_,h⟩
 |i::r,K,h=>by
  unfold WG at h
  split at h
  ·obtain⟨y,h⟩:=SS h
   exact⟨_,h⟩
  ·exact h.elim
end
inductive aA (T:Nat→Ty) (body:(AX→St→Prop)→St→Prop) (n:Nat) (Q:AX→St→Prop) (s:St) (ks:List (Nat×SV)) (ms:List (Nat×List SV)) (ts:List (Nat×Nat×List AV×Nat)):Prop
 |mk (ι:Type) (inv:ι→Prop) (cs:ι→List (Nat×SV)) (cm:ι→List (Nat×List SV)) (ct:ι→List (Nat×Nat×List AV×Nat)) (μ:ι→Nat) (x₀:ι) (i₀:inv x₀)
  (h₀:Weak T s ⟨cs x₀++ks,cm x₀++ms,ct x₀++ts⟩)
  (hr:∀x,inv x→body (AX.then (fun s'=>∃x',inv x'∧s'.n=n∧Weak T s' ⟨cs x'++ks,cm x'++ms,ct x'++ts⟩∧μ x' < μ x) Q) ((Fr.mk (cs x++ks) (cm x++ms) (ct x++ts)).st n))
theorem aB {T:Nat→Ty} {body:(AX→St→Prop)→St→Prop} {n:Nat} {Q:AX→St→Prop} {s:St} (ks ms skip:List Nat)
  (h:Oj s ks fun a=>SL s ms fun b=>WG s (aaJ skip b (aaI skip a [])) fun c=>aA T body n Q s a b c):Wp T body n Q s:=by
 obtain⟨a,h⟩:=Eo s h
 obtain⟨b,h⟩:=Kw s h
 obtain⟨c,h⟩:=SS s h
 obtain⟨ι,inv,cs,cm,ct,μ,x₀,i₀,h₀,hr⟩:=h
 exact⟨ι,inv,_,μ,x₀,i₀,h₀,hr⟩
theorem VC.nod {l:List Nat} (h:sQ l=true):VC (sQ l=true) True:=⟨h,trivial⟩
theorem Br.dec {p:Prop} [Decidable p] {X:Bool→Prop} (h:p→X true) (h':¬ p→X false):Br (decide p) X:=⟨fun e=>h (of_decide_eq_true e),fun e=>h' (of_decide_eq_false e)⟩
theorem Br.not {b:Bool} {X:Bool→Prop} (h:Br b (fun t=>X (!t))):Br (!b) X:=⟨fun e=>by cases b<;>simp at e;exact h.f rfl,fun e=>by cases b<;>simp at e;exact h.t rfl⟩
theorem Arith.ok {r:Int} {K:Int→Prop} (h: -9223372036854775808≤r∧r≤9223372036854775807) (hk:K r):Arith .i64 r K:=⟨by rw [show IntKind.wrap .i64 r=r from IntWalk.i64_in _ h];exact hk⟩
theorem Idx.of_map {α:Type} {l:List α} {f:α→AV} {i:Int} {K:Nat→AV→Prop} (h:0≤i∧i < l.length) (hk:∀(j:Nat) (x:α),i=j→l[j]? =some x→K j (f x)):Idx (l.map f) i K:=by
 have hj:i.toNat < l.length:=by omega
 refine⟨i.toNat,f (l[i.toNat]'hj),by omega,by simp [hj],hk i.toNat _ (by omega) (by simp [hj])⟩
theorem Idx.at {α:Type} {l:List α} {f:α→AV} {k:Nat} {K:Nat→AV→Prop} (h:k < l.length) (hk:∀x,l[k]? =some x→K k (f x)):Idx (l.map f) (k:Int) K:=
 ⟨k,f (l[k]'h),rfl,by simp [h],hk _ (by simp [h])⟩
theorem Idx.got {α:Type} {l:List α} {f:α→AV} {i:Int} {k:Nat} {x:α} {K:Nat→AV→Prop} (hx:l[k]? =some x) (h:i=k) (hk:K k (f x)):Idx (l.map f) i K:=
 ⟨k,f x,h,by simp [hx],hk⟩
theorem aF {α:Type} {l:List α} {k:Nat} {x:α} (h:l[k]? =some x):l.drop k=x::l.drop (k+1):=by
 obtain⟨hk,rfl⟩:=List.getElem?_eq_some_iff.1 h
 rw [List.drop_eq_getElem_cons hk]
theorem sW {α:Type} {l:List α} {k:Nat} (h:¬ k < l.length):l.drop k= []:=List.drop_eq_nil_of_le (by omega)
theorem bC {α:Type} {l:List α} {k:Nat} (h:¬(k:Int) < (l.length:Nat)):l.drop k= []:=List.drop_eq_nil_of_le (by omega)
theorem Qq {α:Type} {f:α→AV} {l:List α} {k:Nat}:qb (l.map f) 0 (k:Int)=(l.take k).map f:=by simp [qb,List.map_take]
theorem lm {α β:Type} (l:List α) (f:α→β):(l.map f).length=l.length:=by simp
theorem lens:(∀{α β:Type} (l:List α) (f:α→β),(l.map f).length=l.length)∧(∀{α:Type} (l m:List α),(l++m).length=l.length+m.length)∧(∀{α:Type} (a:α) (l:List α),(a::l).length=l.length+1)∧
  (∀{α:Type},([]:List α).length=0)∧(∀{α:Type} (l:List α) (n:Nat) (a:α),(l.set n a).length=l.length)∧(∀{α:Type} (n:Nat) (a:α),(List.replicate n a).length=n)∧
  (∀{α:Type} (l:List α) (n:Nat),(l.take n).length=min n l.length)∧(∀{α:Type} (l:List α) (n:Nat),(l.drop n).length=l.length - n):=by simp
theorem VC.one {a L:Nat} {z:List ZC} {x:AV} {K:Prop} (h:a+1≤L) (hx:bR z x.cells=true) (k:K):VC (a+ [x].length≤L∧∀y∈[x],bR z y.cells=true) K:=
 ⟨⟨h,fun y hy=>by obtain rfl:=List.mem_singleton.1 hy;exact hx⟩,k⟩
theorem VC.all {α:Type} {a L:Nat} {z:List ZC} {l:List α} {f:α→AV} {K:Prop} (h:a+l.length≤L) (hx:∀x,bR z (f x).cells=true) (k:K):VC (a+(l.map f).length≤L∧∀y∈l.map f,bR z y.cells=true) K:=
 ⟨⟨by rw [List.length_map];exact h,fun y hy=>by obtain⟨x,_,rfl⟩:=List.mem_map.1 hy;exact hx x⟩,k⟩
theorem VC.abv {L:Nat} {z:List ZC} {x:AV} {K:Prop} (h:1≤L) (hx:bR z x.cells=true) (k:K):VC ([x].length≤L∧∀y∈[x],bR z y.cells=true) K:=
 ⟨⟨h,fun y hy=>by obtain rfl:=List.mem_singleton.1 hy;exact hx⟩,k⟩
theorem VC.abw {α:Type} {L:Nat} {z:List ZC} {l:List α} {f:α→AV} {K:Prop} (h:l.length≤L) (hx:∀x,bR z (f x).cells=true) (k:K):VC ((l.map f).length≤L∧∀y∈l.map f,bR z y.cells=true) K:=
 ⟨⟨by rw [List.length_map];exact h,fun y hy=>by obtain⟨x,_,rfl⟩:=List.mem_map.1 hy;exact hx x⟩,k⟩
theorem VC.cut {α:Type} {f:α→AV} {l:List α} {a n m:Int} {k:Nat} {K:Prop} (h:n=m) (hx:∀x,(f x).cells.length=k) (hK:K):VC (n=m∧(a=0∨∀x,(l.map f).head? =some x→x.cells.length=k)) K:=
 ⟨⟨h,.inr fun x hx'=>by rw [List.head?_map] at hx';obtain⟨y,_,rfl⟩:=Option.map_eq_some_iff.1 hx';exact hx y⟩,hK⟩
theorem kH.go {P:Program} {T:Nat→Ty} {L f:Nat} {args:List AR} {K:RV→Prop} {r:RV} (h:Contract P T L f args r) (k:r.wf L→K r):kH P T L f args K:=.mk r h k
theorem JX.go {P:Program} {T:Nat→Ty} {L f:Nat} {args:List AR} {K:RV→Prop} {r:RV} (h:Contract P T L f args r) (k:K r):JX (kH P T L) f args K:=.mk r (fun _ hk=>.mk r h fun _=>hk) k
inductive Tree where
 |leaf
 |node (k:Nat) (v:Ty) (l r:Tree)
def acE:Ty:=⟨.other,0,0,[],false⟩
def Tree.find:Tree→Nat→Ty
 | .leaf,_=>acE
 | .node k v l r,t=>bif Nat.beq t k then v else bif Nat.blt t k then l.find t else r.find t
def Tree.all (p:Nat→Ty→Prop):Tree→Prop
 | .leaf=>True
 | .node k v l r=>p k v∧l.all p∧r.all p
theorem Tree.Ky {p:Nat→Ty→Prop}:∀{tr:Tree} {t:Nat},tr.all p→(tr.find t).good=true→p t (tr.find t)
 | .leaf,t,_,h=>by simp [Tree.find,acE,Ty.good] at h
 | .node k v l r,t,ha,h=>by
  obtain⟨h1,h2,h3⟩:=ha
  simp only [Tree.find] at h ⊢
  cases hb:Nat.beq t k with
  |true=>
   simp only [cond_true]
   rw [Nat.eq_of_beq_eq_true hb];exact h1
  |false=>
   simp only [hb,cond_false] at h ⊢
   cases hc:Nat.blt t k with
   |true=>simp only [hc,cond_true] at h ⊢;exact Tree.Ky h2 h
   |false=>simp only [hc,cond_false] at h ⊢;exact Tree.Ky h3 h
theorem abx {P:Program} {tr:Tree} (h:tr.all fun k v=>jc P tr.find v k):bN P tr.find:=fun _ hg=>Tree.Ky h hg
theorem eX {P:Program} {T:Nat→Ty} {ty:Ty} {t:Nat} {i:TypeInfo} {z:Value} {d:TypeDesc} (h1:P.info? t=some i) (h2:i.size=ty.size) (h3:i.bytes=ty.bytes) (h4:i.zero=some z) (h5:z.cells.toList=ty.zero.map ZC.val)
  (h6:Nat.blt 0 ty.size=true) (h7:(bif ty.agg then true else Nat.beq ty.size 1)=true) (h8:Nat.beq ty.zero.length ty.size=true) (h9:Nat.ble ty.bytes 512=true)
  (h10:ty.eq=true→P.stoodInHeld t=false∧P.eqGuardType P.depth t=false∧∀f∈P.fieldsOf t,f.name≠ "_")
  (h11:P.underlying t=some d) (h12:match ty.kind with
  | .bool=>d= .bool
  | .int k=>d= .int k
  | .str=>d= .string
  | .slice E=>d= .slice E
  | .struct fs=>∃fields:Array Field,d= .struct fields∧fields.toList.map (fun f=>(f.offset,f.type))=fs∧∀p∈fs,(T p.2).good=true∧p.1+(T p.2).size≤ty.size
  | .fn=>UE d=true
  | .other=>False):jc P T ty t:=
 ⟨⟨i,z,h1,h2,h3,h4,h5⟩,by simpa [Nat.blt_eq] using h6,fun ha=>by simpa [ha] using h7,Nat.eq_of_beq_eq_true h8,Nat.le_of_ble_eq_true h9,h10,d,h11,h12⟩
def within (n lo hi:Int):Bool:=decide (lo≤n)&&decide (n≤hi)
theorem within_iff {n lo hi:Int}:within n lo hi=true↔lo≤n∧n≤hi:=by simp [within]
theorem Xy {n lo hi:Int}:within n lo hi=false↔n < lo∨hi < n:=by
 rw [← Bool.not_eq_true,within_iff];omega
def CV (n:Nat) (f:Nat→Bool):Bool:=(List.range n).all f
theorem bX {n:Nat} {f:Nat→Bool}:CV n f=true↔∀i,i < n→f i=true:=by simp [CV]
theorem lT {n:Nat} {f:Nat→Bool} (k:Nat) (hk:k < n) (h:f k=false):CV n f=false:=by
 rw [← Bool.not_eq_true,bX];intro hh;rw [hh k hk] at h;cases h
theorem lU {f:Nat→Bool} {k:Nat} (h:∀i,i < k→f i=true) (hf:f k=true):∀i,i < k+1→f i=true:=by
 intro i hi
 by_cases e:i=k
 ·rw [e];exact hf
 ·exact h i (by omega)
def aQ {α:Type} (p:α→Bool):List α→Nat→Int
 |[],_=> -1
 |x::l,k=>if p x=true then (k:Int) else aQ p l (k+1)
theorem vY {α:Type} {p:α→Bool}:∀(l:List α) (k:Nat),decide (aQ p l k≥0)=l.any p
 |[],k=>by simp [aQ]
 |x::l,k=>by
  rw [aQ]
  by_cases h:p x=true
  ·simp [h]
  ·rw [if_neg h,vY l (k+1)];simp [h]
def Ve (s:ByteArray) (i:Nat):Int:=(s.data.toList.getD i 0).toNat
def nameAt (s:ByteArray) (i:Nat):Bool:=
 let c:=Ve s i
 (decide (c≥97)&&decide (c≤122))||(!decide ((i:Int)=0)&& !decide (c < 48)&& !decide (c > 57))
def CW (s:ByteArray):Bool:=CV s.size (nameAt s)&&within s.size 1 8
def setAt (l:List Int) (i:Nat):Bool:=decide (i=0)||decide (l.getD (i - 1) 0 < l.getD i 0)
def uE (l:List Int):Bool:=CV l.length (setAt l)
def aO (n:Int):List Int:=if within n 0 200=true then (List.range n.toNat).map Int.ofNat else []
def eY (n:Int):Bool:=within n 0 60
def mU (n:Int):Bool:=within n 0 20
def Gu (l:List Step) (i:Nat):Bool:=
 match l[i]? with
 |some s=>eY s.at'&&mU s.cap&&(!decide ((i:Int)=0)|| !decide (s.at'≠0))&&(!decide ((i:Int) > 0)||(match l[i - 1]? with|some q=> !decide (s.at'≤q.at')|none=>true))
 |none=>true
def lV (l:List Step):Bool:=CV l.length (Gu l)&&within l.length 1 8
def oF (t:Int):List Step→Int→Int
 |[],n=>n
 |s::l,n=>oF t l (if s.at'≤t then s.cap else n)
def dX (l:List Int) (n:Int):Bool:=l.all mU&&decide ((l.length:Int)=n)
def kW (m:Mode) (r s:Int):Bool:=within m.dur 1 12&&dX m.use r&&dX m.con s
def dD (a:aC) (r s:Int):Bool:=(a.modes.all fun m=>kW m r s)&&(CW a.name&&within a.fam 0 3&&within a.modes.length 1 3)
def rowOk (l:List Int):Bool:=decide ((l.length:Int)=4)&&l.all fun n=>within n 0 12
def qC (r:dR):Bool:=r.setup.all rowOk&&(lV r.steps&&(decide ((r.setup.length:Int)=0)||decide ((r.setup.length:Int)=4)))
def bJ (p:Proj) (n:Int):Bool:=within n 0 (p.acts.length - 1)
def fT (p:Proj) (n:Int):Bool:=within n 0 (p.bB.length - 1)
def jS (p:Proj) (n:Int):Bool:=within n 0 (p.aW.length - 1)
def Kz (p:Proj) (name:ByteArray):Int:=aQ (fun a=>decide (a.name=name)) p.acts 0
def qX (p:Proj) (k:Link):Bool:=bJ p k.src&&bJ p k.dst&& !decide (k.src=k.dst)&&within k.lag (-60) 60
def Ep (p:Proj) (i:Nat):Bool:=
 match p.acts[i]? with
 |some a=>dD a p.bB.length p.aW.length&&decide (Kz p a.name=i)
 |none=>true
def xB (p:Proj):Bool:=within p.dead 1 60&&within p.acts.length 1 6&& !decide ((p.bB.length:Int) > 3)&& !decide ((p.aW.length:Int) > 2)&& !decide ((p.links.length:Int) > 12)
def aL (p:Proj):Bool:=xB p&&CV p.acts.length (Ep p)&&p.bB.all qC&&(p.aW.all fun n=>within n 0 100)&&p.links.all (qX p)
def dI (p:Proj) (l:Lit):Bool:=
 aL p&&bJ p l.act&&(
  if l.kind=1∨l.kind=2 then within l.val (-1) 61
  else if l.kind=3∨l.kind=4 then (match p.acts[l.act.toNat]? with|some a=>within l.val 0 (a.modes.length - 1)|none=>false)
  else false)
def bU:Lit:=⟨0,0,0⟩
def negate (l:Lit):Lit:=
 if within l.val (-100000) 100000=true then
  if l.kind=1 then⟨2,l.act,l.val - 1⟩ else if l.kind=2 then⟨1,l.act,l.val+1⟩
  else if l.kind=3 then⟨4,l.act,l.val⟩ else if l.kind=4 then⟨3,l.act,l.val⟩ else bU
 else bU
def KA (x y:Int):Int:=if x < y then -1 else if x > y then 1 else 0
def orI:List Int→Int
 |[]=>0
 |x::l=>if x≠0 then x else orI l
def kg (a b:Lit):Int:=orI [KA a.act b.act,KA a.kind b.kind,KA a.val b.val]
def bH (a b:Lit):Bool:=decide (a.kind=b.kind)&&(decide (a.act=b.act)&&decide (a.val=b.val))
theorem iN {a b:Lit}:bH a b=true↔a=b:=by
 cases a;cases b;simp [bH]
def clauseAt (p:Proj) (l:List Lit) (i:Nat):Bool:=
 match l[i]? with
 |some x=>dI p x&&(!decide ((i:Int) > 0)||(match l[i - 1]? with|some y=> !decide (kg y x≥0)|none=>true))
 |none=>true
def jw (p:Proj) (l:List Lit):Bool:=CV l.length (clauseAt p l)&&decide ((l.length:Int)≤24)
def oG (n:Int):Bool:=within n (-2) 62
def clamped (n:Int):Int:=min (max n (-2)) 62
def acF:Dom:=⟨[],[],[]⟩
def qD (p:Proj):Dom:=⟨p.acts.map fun _=>0,p.acts.map fun _=>p.dead - 1,p.acts.map fun a=>aO a.modes.length⟩
def bf (p:Proj):Dom:=if aL p=true then qD p else acF
def subset (a b:List Int):Bool:=a.all fun n=>b.contains n
def rD (p:Proj) (b:Dom) (i:Nat):Bool:=
 match b.lo[i]?,b.hi[i]?,b.modes[i]?,p.acts[i]? with
 |some x,some y,some m,some a=>oG x&&oG y&&uE m&&subset m (aO a.modes.length)
 |_,_,_,_=>true
def ak (p:Proj) (b:Dom):Bool:=
 aL p&& !decide ((b.lo.length:Int)≠p.acts.length)&& !decide ((b.hi.length:Int)≠p.acts.length)&& !decide ((b.modes.length:Int)≠p.acts.length)&&CV p.acts.length (rD p b)
def nE (b:Dom) (i:Nat):Bool:=
 match b.lo[i]?,b.hi[i]? with
 |some x,some y=>decide (x > y)
 |_,_=>false
def aP (b:Dom):Bool:=(List.range b.lo.length).any (nE b)||b.modes.any fun m=>decide ((m.length:Int)=0)
def eF (b:Dom) (a:Int):Bool:=decide (a≥0)&&decide (a < b.lo.length)&&decide (a < b.hi.length)&&decide (a < b.modes.length)
def restrict (b:Dom) (l:Lit):Dom:=
 if eF b l.act=true then
  let a:=l.act.toNat
  if l.kind=1 then { b with lo:=b.lo.set a (max (b.lo.getD a 0) (clamped l.val)) }
  else if l.kind=2 then { b with hi:=b.hi.set a (min (b.hi.getD a 0) (clamped l.val)) }
  else if l.kind=3 then { b with modes:=b.modes.set a ((b.modes.getD a []).filter fun n=>decide (n=clamped l.val)) }
  else if l.kind=4 then { b with modes:=b.modes.set a ((b.modes.getD a []).filter fun n=>decide (n≠clamped l.val)) }
  else b
 else b
def against (b:Dom) (l:List Lit):Dom:=l.foldl (fun b x=>restrict b (negate x)) b
def fP (p:Proj) (l:List Lit):Dom:=against (bf p) l
def valueOf (yes no:Bool):Int:=if yes=true then 1 else if no=true then -1 else 0
def litValue (b:Dom) (l:Lit):Int:=
 if eF b l.act=true then
  let a:=l.act.toNat
  let m:=b.modes.getD a []
  if l.kind=1 then valueOf (decide (b.lo.getD a 0≥l.val)) (decide (b.hi.getD a 0 < l.val))
  else if l.kind=2 then valueOf (decide (b.hi.getD a 0≤l.val)) (decide (b.lo.getD a 0 > l.val))
  else if l.kind=3 then valueOf (decide (m= [l.val])) (!m.contains l.val)
  else if l.kind=4 then valueOf (!m.contains l.val) (decide (m= [l.val]))
  else 1
 else 1
def aN (b:Dom):List Lit→Int→Lit→Int×Lit
 |[],n,x=>if n=0 then (-1,bU) else if n=1 then (0,x) else (0,bU)
 |l::r,n,x=>if litValue b l=1 then (1,bU) else if litValue b l=0 then aN b r (n+1) l else aN b r n x
def status (b:Dom) (l:List Lit):Int×Lit:=aN b l 0 bU
def bites (b:Dom) (l:List Lit):Bool:=decide ((status b l).1 < 0)||(decide ((status b l).1=0)&& !bH (status b l).2 bU)
def iE (p:Proj) (r:Int):Bool:=fT p r&&decide (((p.bB.getD r.toNat ⟨[],[]⟩).setup.length:Int) > 0)
def jd (p:Proj) (r:Rul):Bool:=
 aL p&&(
  if r.kind=1 then within r.a 0 (p.links.length - 1)&&decide (r.b=0)&&decide (r.c=0)
  else if r.kind=2 then bJ p r.a&&decide (r.b=0)&&decide (r.c=0)
  else if r.kind=3 then fT p r.a&&eY r.b&&decide (r.c=0)
  else if r.kind=4 then fT p r.a&&eY r.b&&eY r.c&&decide (r.b < r.c)
  else if r.kind=5 then iE p r.a&&bJ p r.b&&bJ p r.c&&decide (r.b < r.c)
  else if r.kind=6 then jS p r.a&&decide (r.b=0)&&decide (r.c=0)
  else false)
def bT (ms:List Int):List Mode→Nat→List Mode
 |[],_=>[]
 |m::r,k=>if ms.contains (k:Int)=true then m::bT ms r (k+1) else bT ms r (k+1)
def chosen (a:aC) (ms:List Int):List Mode:=bT ms a.modes 0
def least:List Int→Int
 |[]=>0
 |x::r=>r.foldl min x
def vF (a:aC) (ms:List Int):Int:=least ((chosen a ms).map Mode.dur)
def leastOf (l:List Mode) (f:Mode→Option Int):Int:=if l.all (fun m=>(f m).isSome)=true then least (l.map fun m=>(f m).getD 0) else 0
def dY (l:List Int) (i:Int):Option Int:=if within i 0 (l.length - 1)=true then some (l.getD i.toNat 0) else none
def je (a:aC) (ms:List Int) (r:Int):Int:=leastOf (chosen a ms) fun m=>dY m.use r
def xC (a:aC) (ms:List Int) (r:Int):Int:=leastOf (chosen a ms) fun m=>dY m.con r
def aZ (p:Proj) (a:Nat):aC:=p.acts.getD a ⟨⟨#[]⟩,0,[]⟩
def mV (p:Proj) (b:Dom) (a:Nat):Int:=vF (aZ p a) (b.modes.getD a [])
def sumTo (f:Nat→Int):Nat→Int
 |0=>0
 |n+1=>sumTo f n+f n
def zx (p:Proj) (b:Dom) (r t:Int) (a:Nat):Int:=
 if b.hi.getD a 0≤t∧t < b.lo.getD a 0+mV p b a then je (aZ p a) (b.modes.getD a []) r else 0
def Ju (p:Proj) (b:Dom) (r t:Int):Int:=sumTo (zx p b r t) p.acts.length
def fits (n:Int):Bool:=within n (-100000) 100000
def overlap (s d x y:Int):Int:=
 if fits s=true∧fits d=true∧fits x=true∧fits y=true then (if d < 1 then 0 else max (min (s+d) y - max s x) 0) else 0
def yE (p:Proj) (r:Int):dR:=p.bB.getD r.toNat ⟨[],[]⟩
def kI (p:Proj) (b:Dom) (a:Nat) (r x y i:Int):Int:=
 let m:=(aZ p a).modes.getD i.toNat ⟨0,[],[]⟩
 min (overlap (b.lo.getD a 0) m.dur x y) (overlap (b.hi.getD a 0) m.dur x y)*m.use.getD r.toNat 0
def qY (p:Proj) (b:Dom) (r x y:Int) (a:Nat):Int:=least ((b.modes.getD a []).map (kI p b a r x y))
def rY (p:Proj) (b:Dom) (r x y:Int):Int:=sumTo (qY p b r x y) p.acts.length
def vG (l:List Step) (x:Int):Nat→Int
 |0=>0
 |n+1=>vG l x n+oF (x+n) l 0
def vZ (l:List Step) (x y:Int):Int:=if lV l=true∧eY x=true∧eY y=true then vG l x (y - x).toNat else 0
def Jv (p:Proj) (r a o:Int):Int:=(((yE p r).setup.getD (aZ p a.toNat).fam.toNat []).getD (aZ p o.toNat).fam.toNat 0)
def nG (p:Proj) (b:Dom) (r a o:Int):Int:=b.lo.getD a.toNat 0+mV p b a.toNat+Jv p r a o
def jam (p:Proj) (b:Dom) (r a o:Int):Bool:=
 decide (je (aZ p a.toNat) (b.modes.getD a.toNat []) r > 0)&&decide (je (aZ p o.toNat) (b.modes.getD o.toNat []) r > 0)&&
  decide (nG p b r a o > b.hi.getD o.toNat 0)&&decide (nG p b r o a > b.hi.getD a.toNat 0)
def iF (p:Proj) (k:Int):Link:=p.links.getD k.toNat ⟨0,0,false,0⟩
def wh (p:Proj) (b:Dom) (k:Link):Bool:=
 decide (b.lo.getD k.src.toNat 0+(if k.PE=true then mV p b k.src.toNat else 0)+k.lag > b.hi.getD k.dst.toNat 0)
def KC (p:Proj) (b:Dom) (k:Int) (a:Nat):Int:=xC (aZ p a) (b.modes.getD a []) k
def sZ (p:Proj) (b:Dom) (k:Int):Bool:=decide (sumTo (KC p b k) p.acts.length > p.aW.getD k.toNat 0)
def fails (p:Proj) (b:Dom) (r:Rul):Bool:=
 if r.kind=1 then wh p b (iF p r.a)
 else if r.kind=2 then decide (b.lo.getD r.a.toNat 0+mV p b r.a.toNat > p.dead)
 else if r.kind=3 then decide (Ju p b r.a r.b > oF r.b (yE p r.a).steps 0)
 else if r.kind=4 then decide (rY p b r.a r.b r.c > vZ (yE p r.a).steps r.b r.c)
 else if r.kind=5 then jam p b r.a r.b r.c
 else sZ p b r.a
def refutes (p:Proj) (b:Dom) (r:Rul):Bool:=ak p b&&(aP b||(jd p r&&fails p b r))
def follows (p:Proj) (r:Rul) (l:List Lit):Bool:=jw p l&&refutes p (fP p l) r
def ku (list:List (List Lit)) (b:Dom):(Dom×Bool) ⊕ Dom:=
 if aP b=true then .inl (b,true) else
 match list.find? (bites b) with
 |none=>.inl (b,false)
 |some l=>if (status b l).1 < 0 then .inl (b,true) else .inr (restrict b (status b l).2)
def tq (list:List (List Lit)):Nat→Dom→Dom×Bool
 |0,b=>(b,false)
 |n+1,b=>match ku list b with
  | .inl r=>r
  | .inr b'=>tq list n b'
def gL (b:Dom):Nat:=(b.lo.map fun n=>(62 - n).toNat).sum+(b.hi.map fun n=>(n+2).toNat).sum+(b.modes.map List.length).sum
def jy (p:Proj) (list:List (List Lit)) (b:Dom):Dom×Bool:=if ak p b=true then tq list (gL b+1) b else (b,false)
def Qr (l:Lin):Bool:=decide (l.kind=1)||(decide (l.kind=2)&&(decide (l.rule.kind=0)&&(decide (l.rule.a=0)&&(decide (l.rule.b=0)&&decide (l.rule.c=0)))))
def KD (p:Proj) (l:Lin):Bool:=jw p l.clause&&Qr l
def aD (p:Proj) (ahead:List Lin) (l:Lin):Int:=
 if aL p=true∧KD p l=true∧(ahead.length:Int) < 300 then
  if l.kind=1 then (if follows p l.rule l.clause=true then 0 else 2)
  else (if (jy p (ahead.map Lin.clause) (fP p l.clause)).2=true then 0 else 3)
 else 1
def jh (p:Proj) (all:List Lin):List Lin→Nat→Int×Int
 |[],k=>(0,k)
 |l::r,k=>if aD p (all.take k) l=0 then jh p all r (k+1) else (aD p (all.take k) l,k)
def mW (p:Proj) (lines:List Lin):Int×Int:=jh p lines lines 0
def jT (p:Proj) (lines:List Lin):Bool:=decide ((mW p lines).1=0)
def nI (p:Proj) (lines:List Lin):Bool:=jT p lines&&lines.any fun l=>decide ((l.clause.length:Int)=0)
def upTo (k:Nat):List Int:=(List.range k).map Int.ofNat
theorem KE (k:Nat):(upTo k).length=k:=by simp [upTo]
def lim:Nat:=274877906944
structure Gs (G G':Prop):Prop where
 h:G'→G
theorem Gs.ff {X:Bool→Prop}:Gs (Br false X) (X false):=⟨Br.ff⟩
theorem Gs.tt {X:Bool→Prop}:Gs (Br true X) (X true):=⟨Br.tt⟩
theorem Gs.not {b:Bool} {X:Bool→Prop}:Gs (Br (!b) X) (Br b fun t=>X (!t)):=⟨Br.not⟩
theorem Gs.yes {b:Bool} {X:Bool→Prop} (h:b=true):Gs (Br b X) (X true):=⟨Br.yes h⟩
theorem Gs.no {b:Bool} {X:Bool→Prop} (h:b=false):Gs (Br b X) (X false):=⟨Br.no h⟩
theorem Gs.ar {r:Int} {K:Int→Prop} (h: -9223372036854775808≤r∧r≤9223372036854775807):Gs (Arith .i64 r K) (K r):=⟨Arith.ok h⟩
theorem Gs.vc {p K:Prop} (h:p):Gs (VC p K) K:=⟨fun k=>⟨h,k⟩⟩
theorem Gs.od {ops:List Oper} {fp:List RW} {K:Prop} (h:DC ops fp=true):Gs (abu ops fp K) K:=⟨fun k=>⟨h,k⟩⟩
theorem Gs.one {a L:Nat} {z:List ZC} {x:AV} {K:Prop} (hx:bR z x.cells=true) (h:a+1≤L):Gs (VC (a+ [x].length≤L∧∀y∈[x],bR z y.cells=true) K) K:=⟨VC.one h hx⟩
theorem Gs.all {α:Type} {a L:Nat} {z:List ZC} {l:List α} {f:α→AV} {K:Prop} (hx:∀x,bR z (f x).cells=true) (h:a+l.length≤L):Gs (VC (a+(l.map f).length≤L∧∀y∈l.map f,bR z y.cells=true) K) K:=⟨VC.all h hx⟩
theorem Gs.abv {L:Nat} {z:List ZC} {x:AV} {K:Prop} (hx:bR z x.cells=true) (h:1≤L):Gs (VC ([x].length≤L∧∀y∈[x],bR z y.cells=true) K) K:=⟨VC.abv h hx⟩
theorem Gs.abw {α:Type} {L:Nat} {z:List ZC} {l:List α} {f:α→AV} {K:Prop} (hx:∀x,bR z (f x).cells=true) (h:l.length≤L):Gs (VC ((l.map f).length≤L∧∀y∈l.map f,bR z y.cells=true) K) K:=⟨VC.abw h hx⟩
theorem Gs.cut {α:Type} {f:α→AV} {l:List α} {a n m:Int} {k:Nat} {K:Prop} (h:n=m) (hx:∀x,(f x).cells.length=k):Gs (VC (n=m∧(a=0∨∀x,(l.map f).head? =some x→x.cells.length=k)) K) K:=⟨VC.cut h hx⟩
theorem Gs.at {α:Type} {l:List α} {f:α→AV} {k:Nat} {K:Nat→AV→Prop} (h:k < l.length):Gs (Idx (l.map f) (k:Int) K) (∀x,l[k]? =some x→K k (f x)):=⟨Idx.at h⟩
theorem Gs.of {α:Type} {l:List α} {f:α→AV} {i:Int} {K:Nat→AV→Prop} (h:0≤i∧i < l.length):Gs (Idx (l.map f) i K) (∀(j:Nat) (x:α),i=j→l[j]? =some x→K j (f x)):=⟨Idx.of_map h⟩
inductive YR (P:Program) (T:Nat→Ty) (L f:Nat) (args:List AR) (K:RV→Prop):Prop
 |mk (r:RV) (h:Contract P T L f args r) (k:K r)
section
variable {P:Program} {T:Nat→Ty} {L f:Nat} {args:List AR} {K:RV→Prop} {r:RV}
theorem gC (h:Contract P T L f args r) (k:K r):YR P T L f args K:=⟨r,h,k⟩
theorem Gs.k:Gs (kH P T L f args K) (YR P T L f args fun r=>r.wf L→K r):=⟨fun⟨r,h,k⟩=>⟨r,h,k⟩⟩
theorem Gs.d:Gs (JX (kH P T L) f args K) (YR P T L f args K):=⟨fun⟨r,h,k⟩=>⟨r,fun _ hk=>⟨r,h,fun _=>hk⟩,k⟩⟩
end
theorem gA {G G':Prop} (k:G') (s:Gs G G':=by
 with_reducible first|exact Gs.ff|exact Gs.tt|exact Gs.not|exact Gs.yes (by assumption)|exact Gs.no (by assumption)|exact Gs.ar (by first|omega|(simp only [lm];omega))|exact Gs.k|exact Gs.d|exact Gs.od (by kernel_rfl)|exact Gs.no (decide_eq_false (by decide))|exact Gs.yes (decide_eq_true (by decide))|exact Gs.yes (decide_eq_true rfl)):G:=s.h k
theorem gP {G G':Prop} (k:G') (s:Gs G G':=by
 (first|refine Gs.one rfl ?_|refine Gs.abv rfl ?_|refine Gs.all (fun _=>rfl) ?_|refine Gs.abw (fun _=>rfl) ?_);focus ((try dsimp only);unfold lim;first|omega|(simp only [lens,qb,KE] at*;omega))):G:=s.h k
theorem gV {G G':Prop} (k:G') (s:Gs G G':=by exact Gs.vc (by first|omega|(simp only [lm];omega))):G:=s.h k
theorem gK {G G':Prop} (k:G') (s:Gs G G':=by first|exact Gs.cut rfl (fun _=>rfl)|exact Gs.vc ⟨rfl,.inl rfl⟩):G:=s.h k
structure Wn (p q:Prop):Prop where
 h:p→q
theorem Wn.y {n lo hi:Int}:Wn (within n lo hi=true) (lo≤n∧n≤hi):=⟨within_iff.1⟩
theorem Wn.n {n lo hi:Int}:Wn (within n lo hi=false) (n < lo∨hi < n):=⟨Xy.1⟩
structure Sm (p q:Prop):Prop where
 h:p→q
structure Gs2 (G A B:Prop):Prop where
 h:A→B→G
theorem Gs2.d {p q r:Prop} {i:Decidable p} {X:Bool→Prop} (h:Sm p q) (h':Sm (¬ p) r):Gs2 (Br (decide p) X) (q→X true) (r→X false):=⟨fun a b=>Br.dec (fun x=>a (h.h x)) fun x=>b (h'.h x)⟩
theorem Gs2.e {b:Bool} {q r q' r':Prop} {X:Bool→Prop} (h:Sm (b=true) q) (h':Sm (b=false) r) (k:Wn q q') (k':Wn r r'):Gs2 (Br b X) (q→q'→X true) (r→r'→X false):=⟨fun c d=>⟨fun x=>c (h.h x) (k.h (h.h x)),fun x=>d (h'.h x) (k'.h (h'.h x))⟩⟩
theorem Gs2.f {b:Bool} {q r:Prop} {X:Bool→Prop} (h:Sm (b=true) q) (h':Sm (b=false) r):Gs2 (Br b X) (q→X true) (r→X false):=⟨fun c d=>⟨fun x=>c (h.h x),fun x=>d (h'.h x)⟩⟩
theorem gB {G A B:Prop} (a:A) (b:B) (s:Gs2 G A B:=by
 (with_reducible first|apply Gs2.d|apply Gs2.f)<;>(apply Sm.mk;intro h;(try simp only [lm] at h);exact h)):G:=s.h a b
theorem gN {G A B:Prop} (a:A) (b:B) (s:Gs2 G A B:=by
 (with_reducible apply Gs2.e)<;>first|exact Wn.y|exact Wn.n|(apply Sm.mk;intro h;(try simp only [lm] at h);exact h)):G:=s.h a b
theorem gI {G A:Prop} (k:A) (s:Gs G A:=by with_reducible refine Gs.at ?_;(first|omega|(simp only [lm] at*;omega))):G:=s.h k
theorem gJ {G A:Prop} (k:A) (s:Gs G A:=by with_reducible refine Gs.of ?_;(first|omega|(simp only [lm] at*;omega))):G:=s.h k
theorem fv {G:Prop} (h:G:=by first|((repeat' ((conv=>whnf)<;>(first|exact trivial|exact VC.nod (by kernel_rfl)|refine VC.mk rfl ?_)));done)|fail):G:=h
theorem nx {ι:Type} {inv:ι→Prop} {W:ι→Prop} {n m y:Nat} {μ:ι→Nat} (x:ι) (i:inv x) (e:n=m:=by exact rfl) (w:W x:=by first|((repeat' ((conv=>whnf)<;>(first|exact trivial|exact rfl|with_reducible refine And.intro ?_ ?_)));done)|fail)
  (h:μ x < y:=by (try dsimp only);(try simp only [List.length_map]);omega):∃x,inv x∧n=m∧W x∧μ x < y:=⟨x,i,e,w,h⟩
theorem nw {ι:Type} {inv:ι→Prop} {W:ι→Prop} {n m y:Nat} {μ:ι→Nat} (x:ι) (w:W x) (i:inv x) (e:n=m:=by exact rfl)
  (h:μ x < y:=by (try dsimp only);(try simp only [List.length_map]);omega):∃x,inv x∧n=m∧W x∧μ x < y:=⟨x,i,e,w,h⟩
theorem aA.go {T:Nat→Ty} {body:(AX→St→Prop)→St→Prop} {n:Nat} {Q:AX→St→Prop} {s:St} {ks:List (Nat×SV)} {ms:List (Nat×List SV)} {ts:List (Nat×Nat×List AV×Nat)}
  (ι:Type) (inv:ι→Prop) (cs:ι→List (Nat×SV)) (cm:ι→List (Nat×List SV)) (ct:ι→List (Nat×Nat×List AV×Nat)) (μ:ι→Nat) (x₀:ι) (i₀:inv x₀)
  (hr:∀x,inv x→body (AX.then (fun s'=>∃x',inv x'∧s'.n=n∧Weak T s' ⟨cs x'++ks,cm x'++ms,ct x'++ts⟩∧μ x' < μ x) Q) ((Fr.mk (cs x++ks) (cm x++ms) (ct x++ts)).st n))
  (h₀:Weak T s ⟨cs x₀++ks,cm x₀++ms,ct x₀++ts⟩:=by first|((repeat' ((conv=>whnf)<;>(first|exact trivial|exact rfl|with_reducible refine And.intro ?_ ?_)));done)|fail):aA T body n Q s ks ms ts:=⟨ι,inv,cs,cm,ct,μ,x₀,i₀,h₀,hr⟩
theorem qZ {b:Dom}:∀{l:List Lit} {n:Int} {x0 x:Lit},(n=1→litValue b x0=0)→aN b l n x0=(0,x)→x≠bU→litValue b x=0
 |[],n,x0,x,h0,h,hx=>by
  rw [aN] at h
  split at h
  ·simp at h
  ·split at h
   ·simp at h;subst h;exact h0 (by assumption)
   ·simp at h;exact absurd h.symm hx
 |l::r,n,x0,x,h0,h,hx=>by
  rw [aN] at h
  split at h
  ·simp at h
  ·split at h
   ·exact qZ (fun _=>by assumption) h hx
   ·exact qZ h0 h hx
theorem SX {b:Dom} {l:List Lit} {x:Lit} (h:status b l=(0,x)) (hx:x≠bU):litValue b x=0:=qZ (by omega) h hx
theorem MR {b:Dom} {x:Lit} (h:litValue b x=0):eF b x.act=true∧1≤x.kind∧x.kind≤4:=by
 unfold litValue at h
 split at h
 ·rename_i hd
  refine⟨hd,?_⟩
  dsimp only at h
  split at h
  ·omega
  split at h
  ·omega
  split at h
  ·omega
  split at h
  ·omega
  ·simp at h
 ·simp at h
theorem Ol {b:Dom} {a:Int} (h:eF b a=true):∃n:Nat,a=n∧a.toNat=n∧n < b.lo.length∧n < b.hi.length∧n < b.modes.length:=by
 simp only [eF,Bool.and_eq_true,decide_eq_true_eq] at h
 exact⟨a.toNat,by omega,rfl,by omega,by omega,by omega⟩
theorem Vf (n:Int): -2≤clamped n∧clamped n≤62:=by unfold clamped;omega
theorem Er {α:Type} (f:α→Nat):∀{l:List α} {k:Nat} {x v:α},l[k]? =some x→((l.set k v).map f).sum+f x=(l.map f).sum+f v
 |[],_,_,_,h=>by simp at h
 |y::r,0,x,v,h=>by simp at h;subst h;simp;omega
 |y::r,k+1,x,v,h=>by
  have:=Er f (l:=r) (k:=k) (x:=x) (v:=v) (by simpa using h)
  simp only [List.set_cons_succ,List.map_cons,List.sum_cons];omega
structure Lg where
 proj:Proj
 dom:Dom
 decs:List Lit
 lines:List Lin
abbrev Lg.av (x:Lg):AV:=.agg [i64 x.proj.dead,.sl (x.proj.acts.map aC.av),.sl (x.proj.links.map Link.av),.sl (x.proj.bB.map dR.av),ints x.proj.aW,ints x.dom.lo,ints x.dom.hi,.sl (x.dom.modes.map ints),lits x.decs,.sl (x.lines.map Lin.av)]
def SY (a b:Dom) (i:Nat):Bool:=
 match a.lo[i]?,b.lo[i]?,a.hi[i]?,b.hi[i]?,a.modes[i]?,b.modes[i]? with
 |some x,some x',some y,some y',some m,some m'=> !decide (x < x')&&(!decide (y > y')&&subset m m')
 |_,_,_,_,_,_=>true
def zy (a b:Dom):List Int:=[a.hi.length,a.modes.length,b.lo.length,b.hi.length,b.modes.length]
def wo (a b:Dom):Bool:=(zy a b).all fun n=>decide (n=a.lo.length)
def kM (a b:Dom):Bool:=wo a b&&CV a.lo.length (SY a b)
def xD (g:Lg):Dom:=g.decs.foldl restrict (qD g.proj)
def tu (g:Lg):Bool:=
 aL g.proj&&ak g.proj g.dom&& !decide ((g.decs.length:Int) > 20)&&g.decs.all (dI g.proj)&&jT g.proj g.lines&&
  ((jy g.proj (g.lines.map Lin.clause) (xD g)).2||kM (jy g.proj (g.lines.map Lin.clause) (xD g)).1 g.dom)
def xE (p:Proj) (s:aJ) (i:Nat):Bool:=
 match s.starts[i]?,s.modes[i]?,p.acts[i]? with
 |some t,some m,some a=>eY t&&within m 0 (a.modes.length - 1)
 |_,_,_=>true
def bG (p:Proj) (s:aJ):Bool:=
 aL p&& !decide ((s.starts.length:Int)≠p.acts.length)&& !decide ((s.modes.length:Int)≠p.acts.length)&&CV p.acts.length (xE p s)
def eZ (p:Proj) (s:aJ) (k:Nat):Mode:=(aZ p k).modes.getD (s.modes.getD k 0).toNat ⟨0,[],[]⟩
def oH (p:Proj) (s:aJ) (k:Nat):Int:=s.starts.getD k 0+(eZ p s k).dur
def runs (p:Proj) (s:aJ) (t:Int) (k:Nat):Bool:=decide (s.starts.getD k 0≤t)&&decide (oH p s k > t)
def Es (p:Proj) (s:aJ) (r t:Int) (k:Nat):Int:=if runs p s t k=true then (eZ p s k).use.getD r.toNat 0 else 0
def AJ (p:Proj) (s:aJ) (r t:Int):Int:=sumTo (Es p s r t) p.acts.length
def KF (p:Proj) (s:aJ) (r:Int) (k:Nat):Int:=(eZ p s k).con.getD r.toNat 0
def KG (p:Proj) (s:aJ) (r:Int):Int:=sumTo (KF p s r) p.acts.length
def kX (k:Nat):Rul:=⟨1,k,0,0⟩
def endRule (k:Nat):Rul:=⟨2,k,0,0⟩
def mX (r t:Nat):Rul:=⟨3,r,t,0⟩
def mY (r b c:Nat):Rul:=⟨5,r,b,c⟩
def jU (k:Nat):Rul:=⟨6,k,0,0⟩
def oI (r:Nat):List Rul:=(List.range 61).map (mX r)
def fU (p:Proj) (r b:Nat):List Rul:=if iE p r=true then (List.range (p.acts.length - (b+1))).map fun j=>mY r b (b+1+j) else []
def bI (p:Proj):List Rul:=
 (List.range p.links.length).map kX++(List.range p.acts.length).map endRule++(List.range p.bB.length).flatMap oI++
  (List.range p.bB.length).flatMap (fun r=>(List.range p.acts.length).flatMap (fU p r))++(List.range p.aW.length).map jU
def Et (p:Proj) (s:aJ) (r a o:Int):Bool:=decide (oH p s a.toNat+Jv p r a o≤s.starts.getD o.toNat 0)
def wu (p:Proj) (s:aJ) (r b c:Int):Bool:=
 !decide ((eZ p s b.toNat).use.getD r.toNat 0=0)&& !decide ((eZ p s c.toNat).use.getD r.toNat 0=0)&& !Et p s r b c&& !Et p s r c b
def tC (p:Proj) (s:aJ) (k:Link):Bool:=decide (s.starts.getD k.dst.toNat 0 < (if k.PE=true then oH p s k.src.toNat else s.starts.getD k.src.toNat 0)+k.lag)
def breaks (p:Proj) (s:aJ) (r:Rul):Bool:=
 if r.kind=1 then tC p s (iF p r.a)
 else if r.kind=2 then decide (oH p s r.a.toNat > p.dead)
 else if r.kind=3 then decide (AJ p s r.a r.b > oF r.b (yE p r.a).steps 0)
 else if r.kind=5 then wu p s r.a r.b r.c
 else decide (KG p s r.a > p.aW.getD r.a.toNat 0)
def qE (p:Proj) (s:aJ):List Rul:=if bG p s=true then (bI p).filter (breaks p s) else []
def bg (p:Proj) (s:aJ):Bool:=bG p s&&decide (((qE p s).length:Int)=0)
structure Res where
 status:Int
 sched:aJ
 span:Int
 low:Int
 proof:List Lin
 visits:Int
abbrev Res.av (x:Res):AV:=.agg [i64 x.status,ints x.sched.starts,ints x.sched.modes,i64 x.span,i64 x.low,.sl (x.proof.map Lin.av),i64 x.visits]
def Ta (p:Proj) (t:Int):Proj:={ p with dead:=t }
open Go.RowKit
mutual
def AV.shape:AV→AV
 | .sl l=>.sl (AV.shapes l)
 | .agg l=>.agg (AV.shapes l)
 |_=>.any
def AV.shapes:List AV→List AV
 |[]=>[]
 |x::xs=>AV.shape x::AV.shapes xs
end
theorem qc:∀l:List AV,(AV.shapes l).length=l.length
 |[]=>rfl
 |x::l=>by simp only [AV.shapes,List.length_cons,qc l]
mutual
theorem YS:∀a:AV,a.shape.md true=true
 | .sl l=>by simp only [AV.shape,AV.md];exact Gv l
 | .agg l=>by simp only [AV.shape,AV.md];exact Gv l
 | .bool _=>rfl
 | .int _ _=>rfl
 | .str _=>rfl
 | .any=>rfl
theorem Gv:∀l:List AV,AV.mds true (AV.shapes l)=true
 |[]=>rfl
 |x::l=>by simp only [AV.shapes,AV.mds,Bool.and_eq_true];exact⟨YS x,Gv l⟩
end
section
variable {I:Nat→Prop} {w:World} {L:Nat}
mutual
theorem aG.shape:∀(a:AV) (v:Value),aG I w L a v→aG I w L a.shape v
 | .bool _,_,h=>by simp only [aG] at h;subst h;simp [AV.shape,aG,Sc]
 | .int _ _,_,h=>by simp only [aG] at h;subst h;simp [AV.shape,aG,Sc]
 | .str _,_,h=>by simp only [aG] at h;subst h;simp [AV.shape,aG,Sc]
 | .any,_,h=>h
 | .agg _,_,h=>by simp [aG] at h
 | .sl l,v,h=>by
  simp only [AV.shape,aG,qc] at h ⊢
  exact h.mono (fun _ h=>h) fun b sz o _ he=>cZ.shape b sz l o he
theorem cZ.shape (b sz:Nat):∀(l:List AV) (o:Nat),cZ I w L b sz l o→cZ I w L b sz (AV.shapes l) o
 |[],_,_=>by simp [AV.shapes,cZ]
 |x::xs,o,h=>by
  simp only [AV.shapes,cZ] at h ⊢
  exact⟨iZ.shape b sz x o h.1,cZ.shape b sz xs _ h.2⟩
theorem iZ.shape (b sz:Nat):∀(x:AV) (o:Nat),iZ I w L b sz x o→iZ I w L b sz x.shape o
 | .agg l,o,h=>by simp only [AV.shape,iZ,qc] at h ⊢;exact⟨h.1,cB.shape b l o h.2⟩
 | .bool _,o,h=>by simp only [AV.shape,iZ] at h ⊢;exact⟨h.1,_,h.2,trivial⟩
 | .int _ _,o,h=>by simp only [AV.shape,iZ] at h ⊢;exact⟨h.1,_,h.2,trivial⟩
 | .str _,o,h=>by simp only [AV.shape,iZ] at h ⊢;exact⟨h.1,_,h.2,trivial⟩
 | .any,o,h=>h
 | .sl l,o,h=>by
  simp only [AV.shape,iZ,qc] at h ⊢
  obtain⟨h1,v,h2,h3⟩:=h
  exact⟨h1,v,h2,h3.mono (fun _ h=>h) fun b sz o _ he=>cZ.shape b sz l o he⟩
theorem cB.shape (b:Nat):∀(l:List AV) (o:Nat),cB I w L b l o→cB I w L b (AV.shapes l) o
 |[],_,_=>by simp [AV.shapes,cB]
 |x::xs,o,h=>by
  simp only [AV.shapes,cB] at h ⊢
  obtain⟨⟨v,h1,h2⟩,h3⟩:=h
  exact⟨⟨v,h1,aG.shape x v h2⟩,cB.shape b xs _ h3⟩
end
theorem aI.shape {a:AV} {v:Value} (h:aI I w L a v):aI I w L a.shape v:=by
 have go:∀(l:List AV) (cs:List Value),aR (aG I w L) l cs→aR (aG I w L) (AV.shapes l) cs:=by
  intro l
  induction l with
  |nil=>intro cs h;simpa [AV.shapes] using h
  |cons x l ih=>
   intro cs h
   cases cs with
   |nil=>exact h.elim
   |cons u cs=>simp only [AV.shapes];exact⟨aG.shape x u h.1,ih cs h.2⟩
 cases a with
 |agg l=>obtain⟨cs,h1,h2⟩:=h;exact⟨cs,h1,go l cs h2⟩
 |sl l=>exact aG.shape (.sl l) v h
 |bool b=>simp only [aI] at h;subst h;trivial
 |int k n=>simp only [aI] at h;subst h;trivial
 |str s=>simp only [aI] at h;subst h;trivial
 |any=>exact h
end
end Go.Proofs.YtmenphiahgkjkaaGreatDoor.Abs
namespace Go.Proofs.YtmenphiahgkjkaaGreatDoor.Abs
section
variable {α:Type} [DecidableEq α]
def jN (acc:List α) (x:α):List α:=if acc.getLast? =some x then acc else acc++[x]
def dM (l:List α):List α:=l.foldl jN []
theorem mZ {l:List α} {m:Nat} {x:α} (h:l[m]? =some x):dM (l.take (m+1))=jN (dM (l.take m)) x:=by
 obtain⟨hm,rfl⟩:=List.getElem?_eq_some_iff.1 h
 rw [dM,List.take_succ_eq_append_getElem hm,List.foldl_append];rfl
theorem Qs (acc:List α) (x:α):(jN acc x).getLast? =some x:=by
 unfold jN
 split
 ·assumption
 ·simp
theorem Bu {l:List α} {m:Nat} {x:α} (h:l[m]? =some x):(dM (l.take (m+1))).getLast? =some x:=by
 rw [mZ h];exact Qs _ _
theorem Bv {l:List α} {m:Nat} {x:α} (h1:l[m]? =some x) (h2:l[m+1]? =some x):dM (l.take (m+2))=dM (l.take (m+1)):=by
 rw [mZ h2,jN,if_pos (Bu h1)]
theorem xG {l:List α} {m:Nat} {x y:α} (h1:l[m]? =some x) (h2:l[m+1]? =some y) (hn:y≠x):dM (l.take (m+2))=dM (l.take (m+1))++[y]:=by
 rw [mZ h2,jN,if_neg]
 rw [Bu h1]
 intro e;cases e;exact hn rfl
theorem zA {l:List α} (h:l.length < 2):dM l=l:=by
 match l,h with
 |[],_=>rfl
 |[x],_=>rfl
structure uF (l:List α) (K m:Nat) (dk:List α):Prop where
 km:K+1≤m
 ml:m≤l.length
 len:dk.length=l.length
 kept:dk.take K=dM (l.take m)
 rest:dk.drop (m - 1)=l.drop (m - 1)
theorem uF.at {l dk:List α} {K m j:Nat} (h:uF l K m dk) (hj:m - 1≤j) {x:α} (hx:l[j]? =some x):dk[j]? =some x:=by
 have:(dk.drop (m - 1))[j - (m - 1)]? =(l.drop (m - 1))[j - (m - 1)]? :=by rw [h.rest]
 rw [List.getElem?_drop,List.getElem?_drop,show m - 1+(j - (m - 1))=j by omega,hx] at this
 exact this
theorem uF.start {l:List α} {k:Nat} {x:α} (hk:dM (l.take (k+1))=l.take (k+1)) (h1:l[k]? =some x) (h2:l[k+1]? =some x):uF l (k+1) (k+2) l:=
 ⟨by omega,by have:=(List.getElem?_eq_some_iff.1 h2).1;omega,rfl,by rw [Bv h1 h2,hk],rfl⟩
theorem uF.same {l dk:List α} {K m:Nat} (h:uF l K m dk) {x:α} (h1:l[m - 1]? =some x) (h2:l[m]? =some x):uF l K (m+1) dk:=by
 have km:=h.km
 obtain⟨i,rfl⟩:∃i,m=i+1:=⟨m - 1,by omega⟩
 refine⟨by omega,by have:=(List.getElem?_eq_some_iff.1 h2).1;omega,h.len,by rw [h.kept];exact (Bv (m:=i) h1 h2).symm,?_⟩
 have:=h.rest
 simp only [Nat.add_sub_cancel] at this ⊢
 rw [← List.drop_drop, ← List.drop_drop,this]
theorem uF.new {l dk:List α} {K m:Nat} (h:uF l K m dk) {x y:α} (h1:l[m - 1]? =some x) (h2:l[m]? =some y) (hn:y≠x):uF l (K+1) (m+1) (dk.set K y):=by
 have km:=h.km
 have hlen:=h.len
 have hml:=(List.getElem?_eq_some_iff.1 h2).1
 obtain⟨i,rfl⟩:∃i,m=i+1:=⟨m - 1,by omega⟩
 refine⟨by omega,by omega,by simpa using h.len,?_,?_⟩
 ·rw [List.take_succ_eq_append_getElem (by simp;omega),List.take_set_of_le (Nat.le_refl _),h.kept,xG (m:=i) h1 h2 hn]
  simp
 ·have:=h.rest
  simp only [Nat.add_sub_cancel] at this ⊢
  rw [List.drop_set_of_lt (by omega), ← List.drop_drop, ← List.drop_drop,this]
end
instance:DecidableEq Lit:=fun x y=>match h:bH x y with
 |true=>.isTrue (iN.1 h)
 |false=>.isFalse fun e=>by rw [e,iN.2 rfl] at h;cases h
abbrev eD (x y:Lit):Prop:=x.act < y.act∨(x.act=y.act∧(x.kind < y.kind∨(x.kind=y.kind∧x.val < y.val)))
theorem pJ {a b:Lit}:kg a b < 0↔eD a b:=by
 simp only [kg,orI,KA,eD]
 repeat' split
 all_goals omega
theorem Om (a b:Lit):eD a b∨a=b∨eD b a:=by
 by_cases h1:eD a b
 ·exact .inl h1
 by_cases h2:eD b a
 ·exact .inr (.inr h2)
 ·refine .inr (.inl ?_)
  cases a;cases b
  simp only [eD] at h1 h2
  simp only [Lit.mk.injEq];omega
theorem eD.ne {a b:Lit} (h:eD a b):a≠b:=by rintro rfl;unfold eD at h;omega
theorem eD.trans {a b c:Lit} (h:eD a b) (k:eD b c):eD a c:=by unfold eD at*;omega
theorem eD.irr {a:Lit}:¬ eD a a:=by unfold eD;omega
theorem Eu:∀{l m:List Lit},l.Pairwise eD→m.Pairwise eD→(∀x,x∈l↔x∈m)→l=m
 |[],[],_,_,_=>rfl
 |[],y::m,_,_,h=>by have:=(h y).2 (by simp);simp at this
 |x::l,[],_,_,h=>by have:=(h x).1 (by simp);simp at this
 |x::l,y::m,hl,hm,h=>by
  rw [List.pairwise_cons] at hl hm
  have hxy:x=y:=by
   rcases List.mem_cons.1 ((h x).1 (by simp)) with e|e
   ·exact e
   ·rcases List.mem_cons.1 ((h y).2 (by simp)) with e'|e'
    ·exact e'.symm
    ·exact absurd ((hm.1 x e).trans (hl.1 y e')) eD.irr
  subst hxy
  rw [Eu hl.2 hm.2 fun z=>⟨fun hz=>?_,fun hz=>?_⟩]
  ·rcases List.mem_cons.1 ((h z).1 (by simp [hz])) with e|e
   ·exact absurd (e ▸ hl.1 z hz) eD.irr
   ·exact e
  ·rcases List.mem_cons.1 ((h z).2 (by simp [hz])) with e|e
   ·exact absurd (e ▸ hm.1 z hz) eD.irr
   ·exact e
def pK:List Lit→Lit→List Lit
 |[],x=>[x]
 |y::r,x=>if kg y x < 0 then y::pK r x else if y=x then y::r else x::y::r
def dh (l:List Lit):List Lit:=l.foldl pK []
theorem Bw:∀{l:List Lit} {n:Lit},l.Pairwise eD→(pK l n).Pairwise eD∧∀x,x∈pK l n↔x∈l∨x=n
 |[],n,_=>by simp [pK]
 |y::r,n,h=>by
  rw [List.pairwise_cons] at h
  rw [pK]
  split
  ·rename_i hy
   rw [pJ] at hy
   obtain⟨h1,h2⟩:=Bw (n:=n) h.2
   refine⟨List.pairwise_cons.2 ⟨fun z hz=>?_,h1⟩,fun x=>?_⟩
   ·rcases (h2 z).1 hz with e'|rfl
    ·exact h.1 z e'
    ·exact hy
   ·rw [List.mem_cons,h2 x,List.mem_cons,or_assoc]
  split
  ·rename_i _ hy
   subst hy
   refine⟨List.pairwise_cons.2 h,fun x=>⟨.inl,?_⟩⟩
   rintro (hx|rfl)
   ·exact hx
   ·simp
  ·rename_i h1 h2
   rw [pJ] at h1
   have hn:eD n y:=by
    rcases Om n y with k|k|k
    ·exact k
    ·exact absurd k.symm h2
    ·exact absurd k h1
   refine⟨List.pairwise_cons.2 ⟨fun z hz=>?_,List.pairwise_cons.2 h⟩,fun x=>by rw [List.mem_cons];exact or_comm⟩
   rcases List.mem_cons.1 hz with rfl|hz
   ·exact hn
   ·exact hn.trans (h.1 z hz)
theorem zB:∀{l o:List Lit},o.Pairwise eD→(l.foldl pK o).Pairwise eD∧∀x,x∈l.foldl pK o↔x∈o∨x∈l
 |[],o,h=>⟨h,by simp⟩
 |y::l,o,h=>by
  rw [List.foldl_cons]
  obtain⟨h1,h2⟩:=Bw (n:=y) h
  obtain⟨h3,h4⟩:=zB (l:=l) h1
  refine⟨h3,fun x=>?_⟩
  rw [h4,h2,List.mem_cons,or_assoc]
theorem lY (l:List Lit):(dh l).Pairwise eD∧∀x,x∈dh l↔x∈l:=by
 obtain⟨h1,h2⟩:=zB (l:=l) (o:=[]) List.Pairwise.nil
 exact⟨h1,fun x=>(h2 x).trans (by simp)⟩
theorem Vg (l:List Lit) (n:Lit):(pK l n).length≤l.length+1:=by
 induction l with
 |nil=>simp [pK]
 |cons y r ih=>
  rw [pK]
  split
  ·simp;omega
  split
  ·simp
  ·simp
theorem Bz (l:List Lit):(dh l).length≤l.length:=by
 have:∀(l o:List Lit),(l.foldl pK o).length≤o.length+l.length:=by
  intro l
  induction l with
  |nil=>simp
  |cons x l ih=>
   intro o
   rw [List.foldl_cons]
   have h1:=ih (pK o x)
   have h2:=Vg o x
   simp only [List.length_cons];omega
 have:=this l []
 simpa [dh] using this
abbrev WH (x y:Lit):Prop:=¬ eD y x
theorem Jb {acc:List Lit} {x:Lit} (h:acc.Pairwise eD) (ha:∀a∈acc,WH a x):(jN acc x).Pairwise eD∧∀y,y∈jN acc x↔y∈acc∨y=x:=by
 unfold jN
 split
 ·rename_i hl
  have hm:x∈acc:=List.mem_of_getLast? hl
  exact⟨h,fun y=>⟨.inl,by rintro (hy|rfl)<;>assumption⟩⟩
 ·rename_i hl
  refine⟨List.pairwise_append.2 ⟨h,by simp,fun a hax b hb=>?_⟩,by simp⟩
  obtain rfl:=List.mem_singleton.1 hb
  have h1:=ha a hax
  rcases List.eq_nil_or_concat acc with rfl|⟨i,m,rfl⟩
  ·simp at hax
  ·rw [List.concat_eq_append] at*
   simp only [List.getLast?_append,List.getLast?_singleton,Option.some_or,Option.some.injEq] at hl
   have hm:=ha m (by simp)
   have hmb:eD m b:=by
    rcases Om m b with k|k|k
    ·exact k
    ·exact absurd k hl
    ·exact absurd k hm
   rcases List.mem_append.1 hax with hi|hi
   ·exact ((List.pairwise_append.1 h).2.2 a hi m (by simp)).trans hmb
   ·obtain rfl:=List.mem_singleton.1 hi;exact hmb
theorem wz:∀{l acc:List Lit},acc.Pairwise eD→l.Pairwise WH→(∀a∈acc,∀x∈l,WH a x)→(l.foldl jN acc).Pairwise eD∧∀x,x∈l.foldl jN acc↔x∈acc∨x∈l
 |[],acc,h,_,_=>⟨h,by simp⟩
 |y::l,acc,h,hl,ha=>by
  rw [List.pairwise_cons] at hl
  rw [List.foldl_cons]
  obtain⟨h1,h2⟩:=Jb (x:=y) h fun a hx=>ha a hx y (by simp)
  obtain⟨h3,h4⟩:=wz (l:=l) h1 hl.2 fun a hx z hz=>by
   rcases (h2 a).1 hx with hx|rfl
   ·exact ha a hx z (by simp [hz])
   ·exact hl.1 z hz
  refine⟨h3,fun x=>?_⟩
  rw [h4,h2,List.mem_cons,or_assoc]
theorem KH (l:List Lit):dM (l.mergeSort fun x y=> !decide (kg y x < 0))=dh l:=by
 have hs:(l.mergeSort fun x y=> !decide (kg y x < 0)).Pairwise WH:=by
  have:=List.pairwise_mergeSort (le:=fun x y:Lit=> !decide (kg y x < 0)) (fun a b c=>by simp only [Bool.not_eq_true',decide_eq_false_iff_not,pJ,eD];omega) (fun a b=>by simp only [Bool.or_eq_true,Bool.not_eq_true',decide_eq_false_iff_not,pJ,eD];omega) l
  exact this.imp (by simp only [Bool.not_eq_true',decide_eq_false_iff_not,pJ];exact id)
 obtain⟨h1,h2⟩:=wz (acc:=[]) List.Pairwise.nil hs (by simp)
 obtain⟨h3,h4⟩:=lY l
 refine Eu h1 h3 fun x=>?_
 have e2:=h2 x
 rw [List.mem_mergeSort] at e2
 rw [h4]
 exact e2.trans (by simp)
def YT:Rul:=⟨0,0,0,0⟩
def WI:Lg:=⟨⟨0,[],[],[],[]⟩,⟨[],[],[]⟩,[],[]⟩
structure Cur where
 b:List Int
 i:Int
 h:Int
abbrev u8s (l:List Int):AV:=.sl (l.map (AV.int .u8))
abbrev Cur.avs (c:Cur):List AV:=[u8s c.b,i64 c.i,i64 c.h]
abbrev Cur.cells (c:Cur):List SV:=[.data (u8s c.b),.data (i64 c.i),.data (i64 c.h)]
abbrev Cur.rvs (c:Cur):List RV:=[.d (u8s c.b),.d (i64 c.i),.d (i64 c.h)]
def RDr (r:RV) (c:Cur):RV:=.eff 0 r c.rvs
def w64 (n:Int):Int:=IntKind.i64.wrap n
def Vh (x y:Int):Int:=IntKind.i64.wrap (BitVec.ofInt IntKind.i64.bits x&&& BitVec.ofInt IntKind.i64.bits y).toNat
def adw (x y:Int):Int:=IntKind.i64.wrap (BitVec.ofInt IntKind.i64.bits x ^^^ BitVec.ofInt IntKind.i64.bits y).toNat
def wB (h x:Int):Int:=Vh (w64 (w64 (w64 (h*59)+w64 x)+7)) 1073741823
def Vi (l:List Int):Int:=(l.take 4000).foldl wB (1950+l.length)
def zC (code:List Int):Cur:=⟨code,0,Vi code⟩
def uG (h:Int):Int:=w64 (w64 (h*6364136223846793005)+1442695040888963407)
def Qt (h:Int):Int:=Vh (adw (h.fdiv (2 ^ 33)) (h.fdiv (2 ^ 45))) 255
def byteOf (c:Cur):Int×Cur:=
 if c.i < c.b.length then (Vh (w64 (Qt (uG c.h)+w64 (c.b.getD c.i.toNat 0))) 255,⟨c.b,c.i+1,uG c.h⟩) else (Qt (uG c.h),⟨c.b,c.i,uG c.h⟩)
def below (c:Cur) (n:Int):Int×Cur:=if n≤0 then (0,c) else ((byteOf c).1.tmod n,(byteOf c).2)
theorem Tc (x:Int):0≤Vh x 255∧Vh x 255≤255:=by
 unfold Vh
 have h:(BitVec.ofInt IntKind.i64.bits x&&& BitVec.ofInt IntKind.i64.bits 255).toNat≤255:=by
  rw [BitVec.toNat_and]
  exact Nat.le_trans Nat.and_le_right (by decide)
 generalize (BitVec.ofInt IntKind.i64.bits x&&& BitVec.ofInt IntKind.i64.bits 255).toNat=m at h
 have:IntKind.i64.wrap (m:Int)=m:=by
  have hm:m=0∨1≤m:=by omega
  simp only [IntKind.wrap,IntKind.signed,IntKind.bits]
  simp
  try omega
 rw [this];omega
def Cur.ok (c:Cur):Prop:=0≤c.i∧c.i≤c.b.length
theorem Gw (code:List Int):(zC code).ok:=by unfold Cur.ok zC;dsimp only;omega
theorem KI (c:Cur):0≤(byteOf c).1∧(byteOf c).1≤255:=by
 unfold byteOf
 split
 ·exact Tc _
 ·exact Tc _
theorem Xz {c:Cur} (h:c.ok):(byteOf c).2.ok:=by
 unfold byteOf Cur.ok at*
 split
 ·dsimp only;omega
 ·exact h
theorem fq {c:Cur} (h:c.ok) (n:Int):(below c n).2.ok:=by
 unfold below;split
 ·exact h
 ·exact Xz h
theorem lZ (c:Cur) (n:Int):0≤(below c n).1∧(0 < n→(below c n).1 < n):=by
 unfold below;split
 ·exact⟨Int.le_refl _,fun h=>by omega⟩
 ·have h1:=KI c
  dsimp only
  rw [Int.tmod_eq_emod_of_nonneg h1.1]
  exact⟨Int.emod_nonneg _ (by omega),fun h=>Int.emod_lt_of_pos _ h⟩
theorem aK {c:Cur} (h:c.ok) (n:Int):∃x d,below c n=(x,d)∧d.ok∧0≤x∧(0 < n→x < n):=⟨_,_,rfl,fq h n,(lZ c n).1,(lZ c n).2⟩
def itN {α:Type} (f:α→Cur→α×Cur):Nat→α→Cur→α×Cur
 |0,x,c=>(x,c)
 |n+1,x,c=>f (itN f n x c).1 (itN f n x c).2
theorem mg {α:Type} {f:α→Cur→α×Cur} (P:Nat→α→Prop) (hf:∀k x c,c.ok→P k x→P (k+1) (f x c).1∧(f x c).2.ok):∀(n:Nat) (x:α) (c:Cur),c.ok→P 0 x→P n (itN f n x c).1∧(itN f n x c).2.ok
 |0,x,c,hc,h=>⟨h,hc⟩
 |n+1,x,c,hc,h=>by
  obtain⟨h1,h2⟩:=mg P hf n x c hc h
  exact hf n _ _ h2 h1
def dZ (l:List Step) (c:Cur):List Step×Cur:=
 (l++[⟨(l.getD (l.length - 1) ⟨0,0⟩).at'+1+(below c 9).1,(below (below c 9).2 5).1⟩],(below (below c 9).2 5).2)
def mh (c:Cur):List Step×Cur:=
 itN dZ ((below (below c 4).2 6).1 / 2).toNat [⟨0,1+(below c 4).1⟩] (below (below c 4).2 6).2
structure Ev (k:Nat) (l:List Step):Prop where
 len:l.length=k+1
 ok:∀i,i < l.length→∃s,l[i]? =some s∧0≤s.at'∧s.at'≤9*i∧0≤s.cap∧s.cap≤5∧(i=0→s.at'=0)∧(i≠0→∃q,l[i - 1]? =some q∧q.at' < s.at')
theorem BD {k:Nat} {l:List Step} {c:Cur} (hc:c.ok) (h:Ev k l):Ev (k+1) (dZ l c).1∧(dZ l c).2.ok:=by
 obtain⟨x,d,e1,h1,h2,h3⟩:=aK hc 9
 obtain⟨y,e,e2,h4,h5,h6⟩:=aK h1 5
 have h3:=h3 (by decide)
 have h6:=h6 (by decide)
 unfold dZ
 rw [e1];dsimp only;rw [e2];dsimp only
 refine⟨⟨by simp [h.len],fun i hi=>?_⟩,h4⟩
 have hl:=h.len
 have hla:l.length - 1 < l.length:=by omega
 obtain⟨q,g1,g2,g3,_⟩:=h.ok (l.length - 1) hla
 have eq:(l.getD (l.length - 1) ⟨0,0⟩)=q:=by rw [List.getD_eq_getElem?_getD,g1];rfl
 rw [eq]
 by_cases hlt:i < l.length
 ·obtain⟨s,k1,k2⟩:=h.ok i hlt
  refine⟨s,by rw [List.getElem?_append_left hlt];exact k1,k2.1,k2.2.1,k2.2.2.1,k2.2.2.2.1,k2.2.2.2.2.1,fun hn=>?_⟩
  obtain⟨q',m1,m2⟩:=k2.2.2.2.2.2 hn
  exact⟨q',by rw [List.getElem?_append_left (by omega)];exact m1,m2⟩
 ·have ei:i=l.length:=by simp at hi;omega
  subst ei
  refine⟨⟨q.at'+1+x,y⟩,by rw [List.getElem?_append_right (Nat.le_refl _)];simp,by dsimp only;omega,by dsimp only;omega,h5,by dsimp only;omega,fun h0=>by omega,fun _=>⟨q,by rw [List.getElem?_append_left (by omega)];exact g1,by dsimp only;omega⟩⟩
theorem Ew {c:Cur} (hc:c.ok):lV (mh c).1=true∧(mh c).2.ok:=by
 obtain⟨x,d,e1,h1,h2,h3⟩:=aK hc 4
 obtain⟨y,e,e2,h4,h5,h6⟩:=aK h1 6
 have h3:=h3 (by decide)
 have h6:=h6 (by decide)
 unfold mh
 rw [e1];dsimp only;rw [e2];dsimp only
 obtain⟨g1,g2⟩:=mg (f:=dZ) Ev (fun k l c hc h=>BD hc h) (y / 2).toNat [⟨0,1+x⟩] e h4 ⟨rfl,fun i hi=>by
  obtain rfl:i=0:=by simp at hi;omega
  exact⟨_,rfl,by dsimp only;omega,by dsimp only;omega,by dsimp only;omega,by dsimp only;omega,fun _=>rfl,fun h=>(h rfl).elim⟩⟩
 refine⟨?_,g2⟩
 generalize (itN dZ (y / 2).toNat [⟨0,1+x⟩] e).1=l at g1
 have hl:=g1.len
 have hy:(y / 2).toNat≤2:=by omega
 simp only [lV,Bool.and_eq_true,bX]
 refine⟨fun i hi=>?_,within_iff.2 (by omega)⟩
 obtain⟨s,k1,k2,k3,k4,k5,k6,k7⟩:=g1.ok i hi
 unfold Gu
 rw [k1]
 simp only [Bool.and_eq_true,Bool.or_eq_true,Bool.not_eq_true',decide_eq_false_iff_not,eY,mU,within_iff]
 refine⟨⟨⟨by omega,by omega⟩,?_⟩,?_⟩
 ·by_cases h0:i=0
  ·have:=k6 h0;exact .inr (by simp;omega)
  ·exact .inl (by omega)
 ·by_cases h0:i=0
  ·exact .inl (by omega)
  ·obtain⟨q,m1,m2⟩:=k7 h0
   right;rw [m1];simp;omega
def ji (i k:Nat) (c:Cur):Int×Cur:=if i=k then (0,c) else below c 3
def kY (i:Nat):Nat→Cur→List Int×Cur
 |0,c=>([],c)
 |k+1,c=>((kY i k c).1++[(ji i k (kY i k c).2).1],(ji i k (kY i k c).2).2)
def fI:Nat→Cur→List (List Int)×Cur
 |0,c=>([],c)
 |i+1,c=>((fI i c).1++[(kY i 4 (fI i c).2).1],(kY i 4 (fI i c).2).2)
theorem Qu (i k:Nat) {c:Cur} (h:c.ok):(0≤(ji i k c).1∧(ji i k c).1≤2)∧(ji i k c).2.ok:=by
 unfold ji
 split
 ·exact⟨⟨Int.le_refl _,by dsimp only;omega⟩,h⟩
 ·have:=lZ c 3;exact⟨⟨this.1,by have:=this.2 (by decide);omega⟩,fq h 3⟩
theorem KJ (i:Nat) {c:Cur} (h:c.ok):∀k:Nat,(kY i k c).1.length=k∧(∀x∈(kY i k c).1,0≤x∧x≤2)∧(kY i k c).2.ok
 |0=>⟨rfl,by simp [kY],h⟩
 |k+1=>by
  obtain⟨h1,h2,h3⟩:=KJ i h k
  obtain⟨g1,g2⟩:=Qu i k h3
  refine⟨by simp [kY,h1],fun x hx=>?_,g2⟩
  simp only [kY,List.mem_append,List.mem_singleton] at hx
  rcases hx with hx|rfl
  ·exact h2 x hx
  ·exact g1
theorem CX {c:Cur} (h:c.ok):∀k:Nat,(fI k c).1.length=k∧(∀x∈(fI k c).1,rowOk x=true)∧(fI k c).2.ok
 |0=>⟨rfl,by simp [fI],h⟩
 |k+1=>by
  obtain⟨h1,h2,h3⟩:=CX h k
  obtain⟨g1,g2,g3⟩:=KJ k h3 4
  refine⟨by simp [fI,h1],fun x hx=>?_,g3⟩
  simp only [fI,List.mem_append,List.mem_singleton] at hx
  rcases hx with hx|rfl
  ·exact h2 x hx
  ·simp only [rowOk,Bool.and_eq_true,decide_eq_true_eq,List.all_eq_true,within_iff]
   exact⟨by rw [g1];rfl,fun x hx=>by have:=g2 x hx;omega⟩
def Vj:List ByteArray:=[⟨#[97]⟩,⟨#[98]⟩,⟨#[99]⟩,⟨#[100]⟩,⟨#[101,49]⟩,⟨#[102]⟩]
def nameOf (i:Nat):ByteArray:=Vj.getD (i % 6) ⟨#[]⟩
def bP (l:List Int) (c:Cur):List Int×Cur:=(l++[(below c 3).1],(below c 3).2)
def drawMode (r s:Nat) (c:Cur):Mode×Cur:=
 let d:=below c 4
 let u:=itN bP r [] d.2
 let v:=itN bP s [] u.2
 (⟨1+d.1,u.1,v.1⟩,v.2)
def eu (r s:Nat) (l:List Mode) (c:Cur):List Mode×Cur:=(l++[(drawMode r s c).1],(drawMode r s c).2)
def mD (i r s:Nat) (c:Cur):aC×Cur:=
 let f:=below c 2
 let k:=below f.2 4
 let m:=itN (eu r s) (1+k.1 / 2).toNat [] k.2
 (⟨nameOf i,f.1,m.1⟩,m.2)
theorem Jw (n:Nat) {c:Cur} (h:c.ok):dX (itN bP n [] c).1 n=true∧(itN bP n [] c).1.length=n∧(itN bP n [] c).2.ok:=by
 obtain⟨⟨h1,h2⟩,h3⟩:=mg (f:=bP) (fun k l=>l.length=k∧∀x∈l,0≤x∧x≤2) (fun k l c hc h=>by
  have hb:=lZ c 3
  refine⟨⟨by simp [bP,h.1],fun x hx=>?_⟩,fq hc 3⟩
  simp only [bP,List.mem_append,List.mem_singleton] at hx
  rcases hx with hx|rfl
  ·exact h.2 x hx
  ·exact⟨hb.1,by have:=hb.2 (by decide);omega⟩) n [] c h ⟨rfl,by simp⟩
 refine⟨?_,h1,h3⟩
 simp only [dX,Bool.and_eq_true,List.all_eq_true,decide_eq_true_eq,mU,within_iff]
 exact⟨fun x hx=>by have:=h2 x hx;omega,by rw [h1]⟩
theorem Ia (r s:Nat) {c:Cur} (h:c.ok):kW (drawMode r s c).1 r s=true∧(drawMode r s c).2.ok:=by
 have hb:=lZ c 4
 have h1:=Jw r (fq h 4)
 have h2:=Jw s h1.2.2
 unfold drawMode
 refine⟨?_,h2.2.2⟩
 simp only [kW,Bool.and_eq_true,within_iff]
 exact⟨⟨by have:=hb.2 (by decide);omega,h1.1⟩,h2.1⟩
theorem ZY:∀i:Nat,CW (nameOf i)=true:=by
 intro i
 have h:∀j,j < 6→CW (nameOf j)=true:=by decide+kernel
 have e:nameOf i=nameOf (i % 6):=by unfold nameOf;rw [Nat.mod_mod]
 rw [e];exact h _ (Nat.mod_lt _ (by decide))
theorem KL (i r s:Nat) {c:Cur} (h:c.ok):dD (mD i r s c).1 r s=true∧(mD i r s c).1.name=nameOf i∧(mD i r s c).1.modes.length≤2∧(mD i r s c).2.ok:=by
 have hf:=lZ c 2
 have hk:=lZ (below c 2).2 4
 have hc:=fq (fq h 2) 4
 unfold mD
 dsimp only
 generalize below (below c 2).2 4=kk at hk hc ⊢
 have h2:=hk.2 (by decide)
 obtain⟨⟨g1,g2⟩,g3⟩:=mg (f:=eu r s) (fun k l=>l.length=k∧∀m∈l,kW m r s=true) (fun k l c hc h=>by
  have hm:=Ia r s hc
  refine⟨⟨by simp [eu,h.1],fun x hx=>?_⟩,hm.2⟩
  simp only [eu,List.mem_append,List.mem_singleton] at hx
  rcases hx with hx|rfl
  ·exact h.2 x hx
  ·exact hm.1) (1+kk.1 / 2).toNat [] kk.2 hc ⟨rfl,by simp⟩
 refine⟨?_,rfl,by omega,g3⟩
 simp only [dD,Bool.and_eq_true,List.all_eq_true,within_iff]
 exact⟨g2,⟨ZY i,by have:=hf.2 (by decide);omega⟩,by omega⟩
def uH (c:Cur):dR×Cur:=
 let s:=mh c
 let o:=below s.2 3
 if o.1=0 then (⟨s.1,(fI 4 o.2).1⟩,(fI 4 o.2).2) else (⟨s.1,[]⟩,o.2)
def iV (l:List dR) (c:Cur):List dR×Cur:=(l++[(uH c).1],(uH c).2)
def dN (r s:Nat) (l:List aC) (c:Cur):List aC×Cur:=(l++[(mD l.length r s c).1],(mD l.length r s c).2)
def kZ (c:Cur):List Int×Cur:=if (below c 3).1=0 then ([(below (below c 3).2 6).1],(below (below c 3).2 6).2) else ([],(below c 3).2)
def dF (n:Nat) (c:Cur):Link×Cur:=
 let a:=below c (n - 1)
 let t:=below a.2 (n - 1 - a.1)
 let e:=below t.2 3
 let l:=below e.2 3
 let o:=below l.2 6
 if o.1=0 then (⟨a.1+1+t.1,a.1,false, -4 - (below o.2 9).1⟩,(below o.2 9).2) else (⟨a.1,a.1+1+t.1, !decide (e.1=0),l.1⟩,o.2)
def bM (n:Nat) (l:List Link) (c:Cur):List Link×Cur:=(l++[(dF n c).1],(dF n c).2)
def kJ (most:Int) (c:Cur):Proj×Cur:=
 let d:=below c 12
 let kr:=below d.2 4
 let rs:=itN iV (1+kr.1 / 2).toNat [] kr.2
 let st:=kZ rs.2
 let ka:=below st.2 most
 let as:=itN (dN rs.1.length st.1.length) (1+ka.1).toNat [] ka.2
 let kl:=below as.2 4
 let ls:=itN (bM as.1.length) (if 1 < as.1.length then kl.1.toNat else 0) [] kl.2
 (⟨12+d.1,as.1,ls.1,rs.1,st.1⟩,ls.2)
def gD (code:List Int):Proj:=
 let x:=kJ 2 (zC code)
 Ta x.1 (3+(below x.2 4).1)
theorem KM {c:Cur} (h:c.ok):qC (uH c).1=true∧(uH c).2.ok:=by
 have hs:=Ew h
 have ho:=fq hs.2 3
 unfold uH
 dsimp only
 split
 ·have g:=CX ho 4
  refine⟨?_,g.2.2⟩
  simp only [qC,Bool.and_eq_true,Bool.or_eq_true,List.all_eq_true,decide_eq_true_eq]
  exact⟨g.2.1,hs.1,.inr (by rw [g.1];rfl)⟩
 ·refine⟨?_,ho⟩
  simp only [qC,Bool.and_eq_true,Bool.or_eq_true,List.all_eq_true,decide_eq_true_eq]
  exact⟨by simp,hs.1,.inl rfl⟩
theorem BG {c:Cur} (h:c.ok):(kZ c).1.length≤1∧(∀x∈(kZ c).1,0≤x∧x≤5)∧(kZ c).2.ok:=by
 unfold kZ
 split
 ·have:=lZ (below c 3).2 6
  exact⟨by simp,fun x hx=>by simp at hx;subst hx;exact⟨this.1,by have:=this.2 (by decide);omega⟩,fq (fq h 3) 6⟩
 ·exact⟨by simp,by simp,fq h 3⟩
theorem Td {n:Nat} (hn:2≤n) (hm:n≤6) {c:Cur} (h:c.ok):(0≤(dF n c).1.src∧(dF n c).1.src < n∧0≤(dF n c).1.dst∧(dF n c).1.dst < n∧(dF n c).1.src≠(dF n c).1.dst∧ -60≤(dF n c).1.lag∧(dF n c).1.lag≤60)∧(dF n c).2.ok:=by
 obtain⟨a,c1,e1,h1,a1,a2⟩:=aK h ((n:Int) - 1)
 obtain⟨t,c2,e2,h2,t1,t2⟩:=aK h1 ((n:Int) - 1 - a)
 obtain⟨e,c3,e3,h3,_,_⟩:=aK h2 3
 obtain⟨l,c4,e4,h4,l1,l2⟩:=aK h3 3
 obtain⟨o,c5,e5,h5,_,_⟩:=aK h4 6
 obtain⟨m,c6,e6,h6,m1,m2⟩:=aK h5 9
 have a2:=a2 (by omega)
 have t2:=t2 (by omega)
 have l2:=l2 (by decide)
 have m2:=m2 (by decide)
 unfold dF
 simp only [e1,e2,e3,e4,e5,e6]
 split
 ·exact⟨⟨by dsimp only;omega,by dsimp only;omega,a1,by dsimp only;omega,by dsimp only;omega,by dsimp only;omega,by dsimp only;omega⟩,h6⟩
 ·exact⟨⟨a1,by dsimp only;omega,by dsimp only;omega,by dsimp only;omega,by dsimp only;omega,by dsimp only;omega,by dsimp only;omega⟩,h5⟩
structure Jy (p:Proj) (most:Int):Prop where
 acts:1≤p.acts.length∧(p.acts.length:Int)≤most
 bB:1≤p.bB.length∧p.bB.length≤2
 stk:p.aW.length≤1
 lks:p.links.length≤3
 aok:∀i a,p.acts[i]? =some a→dD a p.bB.length p.aW.length=true∧a.name=nameOf i∧a.modes.length≤2
 rok:∀r∈p.bB,qC r=true
 sok:∀x∈p.aW,0≤x∧x≤5
 lok:∀y∈p.links,0≤y.src∧y.src < p.acts.length∧0≤y.dst∧y.dst < p.acts.length∧y.src≠y.dst∧ -60≤y.lag∧y.lag≤60
theorem Ey (most:Int) (hm:1≤most∧most≤6) {c:Cur} (h:c.ok):Jy (kJ most c).1 most∧(12≤(kJ most c).1.dead∧(kJ most c).1.dead≤23)∧(kJ most c).2.ok:=by
 obtain⟨d,c1,e1,h1,d1,d2⟩:=aK h 12
 obtain⟨kr,c2,e2,h2,kr1,kr2⟩:=aK h1 4
 have d2:=d2 (by decide)
 have kr2:=kr2 (by decide)
 obtain⟨⟨r1,r2⟩,r3⟩:=mg (f:=iV) (fun k l=>l.length=k∧∀x∈l,qC x=true) (fun k l c hc h=>by
  have hd:=KM hc
  refine⟨⟨by simp [iV,h.1],fun x hx=>?_⟩,hd.2⟩
  simp only [iV,List.mem_append,List.mem_singleton] at hx
  rcases hx with hx|rfl
  ·exact h.2 x hx
  ·exact hd.1) (1+kr / 2).toNat [] c2 h2 ⟨rfl,by simp⟩
 unfold kJ
 simp only [e1,e2]
 generalize itN iV (1+kr / 2).toNat [] c2=rs at r1 r2 r3 ⊢
 obtain⟨s1,s2,s3⟩:=BG r3
 generalize kZ rs.2=st at s1 s2 s3 ⊢
 obtain⟨ka,c3,e3,h3,ka1,ka2⟩:=aK s3 most
 have ka2:=ka2 (by omega)
 simp only [e3]
 obtain⟨⟨a1,a2⟩,a3⟩:=mg (f:=dN rs.1.length st.1.length) (fun k l=>l.length=k∧∀i a,l[i]? =some a→dD a rs.1.length st.1.length=true∧a.name=nameOf i∧a.modes.length≤2) (fun k l c hc h=>by
  have hd:=KL l.length rs.1.length st.1.length hc
  refine⟨⟨by simp [dN,h.1],fun i a ha=>?_⟩,hd.2.2.2⟩
  simp only [dN] at ha
  by_cases hi:i < l.length
  ·rw [List.getElem?_append_left hi] at ha;exact h.2 i a ha
  ·rw [List.getElem?_append_right (by omega)] at ha
   have:i=l.length:=by
    by_cases e:i - l.length=0
    ·omega
    ·rw [List.getElem?_eq_none (by simp;omega)] at ha;cases ha
   subst this
   simp at ha
   subst ha
   exact⟨hd.1,hd.2.1,hd.2.2.1⟩) (1+ka).toNat [] c3 h3 ⟨rfl,by simp⟩
 generalize itN (dN rs.1.length st.1.length) (1+ka).toNat [] c3=as at a1 a2 a3 ⊢
 obtain⟨kl,c4,e4,h4,kl1,kl2⟩:=aK a3 4
 have kl2:=kl2 (by decide)
 simp only [e4]
 have acG:((itN (bM as.1.length) (if 1 < as.1.length then kl.toNat else 0) [] c4).1.length≤3∧∀y∈(itN (bM as.1.length) (if 1 < as.1.length then kl.toNat else 0) [] c4).1,0≤y.src∧y.src < as.1.length∧0≤y.dst∧y.dst < as.1.length∧y.src≠y.dst∧ -60≤y.lag∧y.lag≤60)∧(itN (bM as.1.length) (if 1 < as.1.length then kl.toNat else 0) [] c4).2.ok:=by
  by_cases hn:1 < as.1.length
  ·rw [if_pos hn]
   obtain⟨⟨g1,g2⟩,g3⟩:=mg (f:=bM as.1.length) (fun k l=>l.length=k∧∀y∈l,0≤y.src∧y.src < as.1.length∧0≤y.dst∧y.dst < as.1.length∧y.src≠y.dst∧ -60≤y.lag∧y.lag≤60) (fun k l c hc h=>by
    have hd:=Td (n:=as.1.length) hn (by omega) hc
    refine⟨⟨by simp [bM,h.1],fun x hx=>?_⟩,hd.2⟩
    simp only [bM,List.mem_append,List.mem_singleton] at hx
    rcases hx with hx|rfl
    ·exact h.2 x hx
    ·exact hd.1) kl.toNat [] c4 h4 ⟨rfl,by simp⟩
   exact⟨⟨by omega,g2⟩,g3⟩
  ·rw [if_neg hn];exact⟨⟨by simp [itN],by simp [itN]⟩,h4⟩
 obtain⟨⟨l1,l2⟩,l3⟩:=acG
 exact⟨⟨by dsimp only;omega,by dsimp only;omega,s1,l1,a2,r2,s2,l2⟩,⟨by omega,by omega⟩,l3⟩
theorem Ib {α:Type} {f:α→Bool}:∀(l:List α) (k j:Nat),(∀i,i < j→∀x,l[i]? =some x→f x=false)→(∃x,l[j]? =some x∧f x=true)→aQ f l k=(k+j:Nat)
 |[],k,j,_,⟨x,hx,_⟩=>by simp at hx
 |y::l,k,0,_,⟨x,hx,hf⟩=>by simp at hx;subst hx;rw [aQ,if_pos hf];simp
 |y::l,k,j+1,h,⟨x,hx,hf⟩=>by
  have hy:=h 0 (by omega) y rfl
  rw [aQ,hy,if_neg (by simp),Ib l (k+1) j (fun i hi x hx=>h (i+1) (by omega) x (by simpa using hx)) ⟨x,by simpa using hx,hf⟩]
  congr 1;omega
theorem aac:∀i j:Nat,i < 6→j < 6→i≠j→nameOf i≠nameOf j:=by
 have h:∀i,i < 6→∀j,j < 6→i≠j→nameOf i≠nameOf j:=by decide+kernel
 exact fun i j hi hj=>h i hi j hj
theorem Jy.ok {p:Proj} {most:Int} (hm:most≤6) (h:Jy p most) (hd:1≤p.dead∧p.dead≤60):aL p=true:=by
 have h1:=h.acts;have h2:=h.bB;have h3:=h.stk;have h4:=h.lks
 simp only [aL,xB,Bool.and_eq_true,Bool.not_eq_true',decide_eq_false_iff_not,within_iff,bX,List.all_eq_true]
 refine⟨⟨⟨⟨⟨⟨⟨⟨⟨by omega,by omega⟩,by omega,by omega⟩,by omega⟩,by omega⟩,by omega⟩,fun i hi=>?_⟩,h.rok⟩,fun x hx=>?_⟩,fun y hy=>?_⟩
 ·unfold Ep
  rw [List.getElem?_eq_getElem hi]
  obtain⟨g1,g2,_⟩:=h.aok i _ (List.getElem?_eq_getElem hi)
  simp only [Bool.and_eq_true,decide_eq_true_eq]
  refine⟨g1,?_⟩
  unfold Kz
  rw [Ib p.acts 0 i (fun j hj x hx=>?_) ⟨_,List.getElem?_eq_getElem hi,by simp⟩]
  ·simp
  ·obtain⟨_,m2,_⟩:=h.aok j x hx
   rw [m2,g2]
   exact decide_eq_false (aac j i (by omega) (by omega) (by omega))
 ·have:=h.sok x hx;omega
 ·have:=h.lok y hy
  simp only [qX,bJ,Bool.and_eq_true,Bool.not_eq_true',decide_eq_false_iff_not,within_iff]
  omega
theorem ng (code:List Int):Jy (gD code) 2∧(3≤(gD code).dead∧(gD code).dead≤6):=by
 obtain⟨h1,h2,h3⟩:=Ey 2 ⟨by decide,by decide⟩ (Gw code)
 unfold gD
 dsimp only
 generalize kJ 2 (zC code)=x at h1 h2 h3 ⊢
 have hb:=lZ x.2 4
 have:=hb.2 (by decide)
 exact⟨⟨h1.acts,h1.bB,h1.stk,h1.lks,h1.aok,h1.rok,h1.sok,h1.lok⟩,by unfold Ta;dsimp only;omega⟩
theorem Ez (code:List Int):aL (gD code)=true:=by
 obtain⟨h1,h2⟩:=ng code
 exact h1.ok (by decide) ⟨by omega,by omega⟩
open Go.RowKit Go.ChangeShapes Go.WideShapes
structure acH {H:Type} (μ:DataW H→Nat):Prop where
 sl:∀elems spare,elems.length≤μ (.slice elems spare)
 slE:∀elems spare x,x∈elems→μ x≤μ (.slice elems spare)
 agg:∀parts x,x∈parts→μ x≤μ (.agg parts)
 str:∀s:List UInt8,s.length≤μ (.lit (.string s))
section
variable {H:Type} (enc:TypeId×Value→H) (P:Program) (w:World) (I:Nat→Prop) (L:Nat) (μ:DataW H→Nat) (N:Nat)
def Rd (t:Nat) {α:Type} (f:α→AV) (q:α→Prop):Prop:=
 ∀(fuel:Nat) (cs:List Value) (d:DataW H) (ps:List MemPlace),DataW.trod enc P w 0 (fun _=>true) true fuel t cs=some (d,ps)→μ d≤N→∃x,q x∧aR (aG I w L) (f x).cells cs
end
section
variable {H:Type} {enc:TypeId×Value→H} {P:Program} {w:World} {I:Nat→Prop} {L:Nat} {μ:DataW H→Nat} {N:Nat}
theorem Ic {b sz:Nat}:∀{l:List AV} {o:Nat},(∀(i:Nat) (x:AV),l[i]? =some x→iZ I w L b sz x (o+i*sz))→cZ I w L b sz l o
 |[],_,_=>by simp [cZ]
 |x::l,o,h=>by
  simp only [cZ]
  refine⟨by simpa using h 0 x rfl,Ic fun i y hy=>?_⟩
  have:=h (i+1) y (by simpa using hy)
  rwa [show o+(i+1)*sz=o+sz+i*sz by rw [Nat.succ_mul];omega] at this
theorem EA {b:Nat}:∀{l:List AV} {cs:List Value} {o:Nat},aR (aG I w L) l cs→(∀(j:Nat) (v:Value),cs[j]? =some v→w.cell? ⟨b,o+j,none⟩=some v)→cB I w L b l o
 |[],_,_,_,_=>by simp [cB]
 |x::l,[],_,h,_=>h.elim
 |x::l,v::cs,o,h,hc=>by
  simp only [cB]
  refine⟨⟨v,by simpa using hc 0 v rfl,h.1⟩,EA h.2 fun j u hu=>?_⟩
  have:=hc (j+1) u (by simpa using hu)
  rwa [show o+(j+1)=o+1+j by omega] at this
theorem cell_spot {a:Addr} {n:Nat} {v:Value} (h:w.cell? (a.add n)=some v):(a.add n).spot=none:=by
 unfold World.cell? at h
 split at h
 ·split at h
  ·cases h
  ·rename_i hs;simpa using hs
 ·cases h
theorem add_eq {a:Addr} (ha:a.spot=none) (n:Nat):a.add n=⟨a.block,a.off+n,none⟩:=by
 unfold Addr.add
 split
 ·subst n;cases a;simp at ha;simp [ha]
 ·rfl
theorem YU (hb:acH μ) (hNL:N≤L) (hI:∀b o v,w.cell? ⟨b,o,none⟩=some v→I b) {t e sz:Nat} (ht:P.underlying t=some (.slice e)) (hc:P.cellsOf e=sz) (hpos:0 < sz) {α:Type} {f:α→AV} {q:α→Prop}
  (hsz:∀x,(f x).cells.length=sz) (he:Rd enc P w I L μ N e f q):Rd enc P w I L μ N t (fun l:List α=>.sl (l.map f)) (fun l=>l.length≤N∧∀x∈l,q x):=by
 intro fuel cs d ps h hm
 rcases Go.Deep.open_slice ht h with⟨rfl,hx⟩|⟨a,len,cap,m,n,D,Pl,rfl,_,hl,_,hmm,hx,hel⟩
 ·refine⟨[],⟨Nat.zero_le _,by simp⟩,?_⟩
  simp only [AV.cells,aR,aG,List.map_nil,List.length_nil,and_true]
  exact⟨none,0,rfl,Nat.zero_le _,Nat.le_refl _,.inl rfl⟩
 ·simp only [if_true] at hmm
  subst hmm
  simp only [Prod.mk.injEq] at hx
  have hd:=hx.1
  subst hd
  rw [hc] at hel
  have hlen:len≤N:=by
   have:=hb.sl ((List.range len).map D) ((List.range (m - len)).map fun j=>D (len+j))
   simp at this;omega
  have acI:∀i,i < len→∃x,q x∧∃cs',w.cells? 0 (a.add (i*sz)) sz=some cs'∧aR (aG I w L) (f x).cells cs':=fun i hi=>by
   obtain⟨cs',h1,h2⟩:=hel i (by omega)
   obtain⟨x,h3,h4⟩:=he n cs' _ _ h2 (Nat.le_trans (hb.slE _ _ (D i) (List.mem_map.2 ⟨i,by simpa using hi,rfl⟩)) hm)
   exact⟨x,h3,cs',h1,h4⟩
  have key:∃l:List α,l.length=len∧∀i x,l[i]? =some x→q x∧∃cs',w.cells? 0 (a.add (i*sz)) sz=some cs'∧aR (aG I w L) (f x).cells cs':=by
   clear hlen hl hm hx h hel
   induction len with
   |zero=>exact⟨[],rfl,by simp⟩
   |succ k ih=>
    obtain⟨l,h1,h2⟩:=ih fun i hi=>acI i (by omega)
    obtain⟨x,h3⟩:=acI k (by omega)
    refine⟨l++[x],by simp [h1],fun i y hy=>?_⟩
    by_cases hik:i < l.length
    ·rw [List.getElem?_append_left hik] at hy;exact h2 i y hy
    ·rw [List.getElem?_append_right (by omega)] at hy
     have:i=k:=by
      have:=(List.getElem?_eq_some_iff.1 hy).1
      simp at this;omega
     subst this
     rw [show i - l.length=0 by omega] at hy
     simp at hy;subst hy;exact h3
  obtain⟨l,h1,h2⟩:=key
  refine⟨l,⟨by omega,fun x hx=>?_⟩,?_⟩
  ·obtain⟨i,hi,rfl⟩:=List.getElem_of_mem hx
   exact (h2 i _ (List.getElem?_eq_getElem hi)).1
  ·simp only [AV.cells,aR,aG,and_true]
   refine⟨some a,m,by simp [h1],by simp;omega,by simp;omega,?_⟩
   by_cases h0:len=0
   ·left;simp;exact List.eq_nil_of_length_eq_zero (by omega)
   ·right
    have first:∃v,w.cell? (a.add 0)=some v:=by
     obtain⟨x,hx⟩:∃x,l[0]? =some x:=⟨l[0]'(by omega),by simp⟩
     obtain⟨_,cs',h3,_⟩:=h2 0 x hx
     obtain⟨_,h4,h5⟩:=World.cells?_some h3
     have:=h5 0 hpos
     rw [List.getElem?_eq_getElem (by omega)] at this
     rw [Nat.zero_mul] at this
     rw [show (a.add 0).add 0=a.add 0 by simp [Addr.add]] at this
     exact⟨_,this⟩
    obtain⟨v,hv⟩:=first
    have hs:=cell_spot hv
    rw [show a.add 0=a by simp [Addr.add]] at hs hv
    refine⟨a.block,a.off,sz,by cases a;simp at hs;simp [hs],hI a.block a.off v (by cases a;simp at hs;subst hs;exact hv),Ic fun i y hy=>?_⟩
    rw [List.getElem?_map] at hy
    obtain⟨x,hx,rfl⟩:=Option.map_eq_some_iff.1 hy
    obtain⟨_,cs',h3,h4⟩:=h2 i x hx
    obtain⟨_,h5,h6⟩:=World.cells?_some h3
    refine ow.2 ⟨hsz x,EA h4 fun j u hu=>?_⟩
    have hj:j < sz:=by
     have:=(List.getElem?_eq_some_iff.1 hu).1
     omega
    have:=h6 j hj
    rw [hu,add_eq hs,add_eq rfl] at this
    exact this
theorem XA {J O:Nat→Prop} {mt:Bool} {r:Reach} {b0 t e:Nat} (ht:P.underlying t=some (.slice e)) {v:Value} {d:DataW H} {ps:List MemPlace} (hval:Value.okWide P w r b0 t v)
  (hd:DataW.Trod enc P w 0 (fun _=>true) true t v d ps) (hm:μ d≤N) {α:Type} {f:α→AV} {q:List α→Prop} (hR:Rd enc P w I L μ N t (fun l:List α=>.sl (l.map f)) q):∃l,q l∧nY I J O mt w L (.d (.sl (l.map f))) v:=by
 obtain⟨fuel,hd⟩:=hd
 obtain⟨l,hq,hr⟩:=hR fuel _ d ps hd hm
 refine⟨l,hq,?_⟩
 simp only [Value.okWide,ht,Cell.okWide,Cell.ok] at hval
 simp only [nY,aI]
 cases v<;>simp_all [Value.cells,AV.cells,aR]
end
open Go.ChangeShapes Go.WideShapes Go.ChangeAt Go.RowKit
theorem aad {w:World} {a:Addr} {v:Value} (h:w.cell? a=some v):a.block < w.heap.size:=by
 unfold World.cell? at h
 split at h
 ·rename_i c e r hb
  exact (Array.getElem?_eq_some_iff.1 hb).1
 ·cases h
section
variable {H:Type} {enc:TypeId×Value→H} {P:Program}
theorem BH {W W':World} (hl:laidOutB P=true) (hb:Below W.heap.size W W'):∀{ts:List TypeId} {vs:List Value} {ds:List (DataW H)} {p:List MemPlace},
  (∀t∈ts,P.readableRec t=true∧t < P.types.size)→(∀x∈p,x.block < W.heap.size)→DataW.TrodAll enc P W 0 (fun _=>true) true ts vs ds p→
  DataW.TrodAll enc P W' 0 (fun b=>decide (b < W.heap.size)) true ts vs ds p
 |[],vs,ds,p,_,_,h=>by
  obtain⟨rfl,rfl,rfl⟩:=trodAll_nil h
  exact trodAll_mk0
 |t::ts,vs,ds,p,ht,hp,h=>by
  obtain⟨v,vs',d,ds',a,b,rfl,rfl,rfl,h1,h2⟩:=trodAll_cons h
  exact trodAll_cons_mk (Below.trod hl (ht t (by simp)).1 (ht t (by simp)).2 h1 hb fun x hx=>hp x (by simp [hx]))
   (BH hl hb (fun t h=>ht t (by simp [h])) (fun x hx=>hp x (by simp [hx])) h2)
theorem XB {f:Func} {s:ChangeSpec} {tb:Nat} (hl:laidOutB P=true) (hr:f.resultTypes= #[tb]) (htb:P.underlying tb=some .bool) (hv:s.vars= [])
  (hp:∀t∈f.params.toList,P.readableRec t=true∧t < P.types.size) {W W':World} {args:Array Value} {ds gs:List (DataW H)} {before:List MemPlace} (hW:DataW.Whole enc P f.params.toList s.vars false W args.toList ds gs before)
  (hfn:s.fn H (ds++gs)= { results:=[.lit (.bool true)],args:=ds }) (hb:Below W.heap.size W W'):s.post enc P f false true false false W args (.bool true) W':=by
 have hW':=hW
 obtain⟨p,q,hA,hV,hbe,hfz,hnd⟩:=hW
 rw [hv] at hV
 obtain⟨rfl,rfl⟩:=trodVars_none hV
 have hlt:∀x∈before,x.block < W.heap.size:=fun x hx=>hW'.lt x hx
 rw [List.append_nil] at hbe
 subst hbe
 refine⟨ds,[],before,[],before,[],hW',?_,?_,?_,hb.frame _,nofun⟩
 ·rw [hfn,hr];exact trodAll_cons_mk (shut_bool htb _) trodAll_mk0
 ·rw [hfn];exact BH hl hb hp hlt hA
 ·rw [hfn,hv];rfl
end
end Go.Proofs.YtmenphiahgkjkaaGreatDoor.Abs
