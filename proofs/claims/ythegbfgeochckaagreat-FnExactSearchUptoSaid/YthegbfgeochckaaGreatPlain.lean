/- Part of a proof. -/
import Derived.Test.YthegbfgeochckaaGreatLayA
import Derived.Test.YthegbfgeochckaaGreatLayB
import Derived.Deep.Slices
import Derived.Carry
import Derived.ProofKit
import Derived.OpenShut
import Derived.JoinedCond
set_option linter.all false
namespace Go.Proofs.YthegbfgeochckaaGreat.Abs
def within (n lo hi:Int):Bool:=decide (lo<=n)&&decide (n<=hi)
theorem within_iff {n lo hi:Int}:within n lo hi=true↔lo<=n/\n<=hi:=by simp [within]
theorem abO {n lo hi:Int}:within n lo hi=false↔n < lo\/hi < n:=by
 rw [<- Bool.not_eq_true,within_iff];omega
def Es (n:Nat) (f:Nat->Bool):Bool:=(List.range n).all f
theorem dB {n:Nat} {f:Nat->Bool}:Es n f=true↔∀i,i < n->f i=true:=by simp [Es]
theorem fT {n:Nat} {f:Nat->Bool} (k:Nat) (hk:k < n) (h:f k=false):Es n f=false:=by
 rw [<- Bool.not_eq_true,dB];intro hh;rw [hh k hk] at h;cases h
theorem eY {f:Nat->Bool} {k:Nat} (h:∀i,i < k->f i=true) (hf:f k=true):∀i,i < k+1->f i=true:=by
 intro i hi
 by_cases e:i=k
 ·rw [e];exact hf
 ·exact h i (by omega)
def bn {α:Type} (p:α->Bool):List α->Nat->Int
 |[],_=> -1
 |x::l,k=>if p x=true then (k:Int) else bn p l (k+1)
theorem Ch {α:Type} {p:α->Bool}:∀(l:List α) (k:Nat),decide (bn p l k>=0)=l.any p
 |[],k=>by simp [bn]
 |x::l,k=>by
  rw [bn]
  by_cases h:p x=true
  ·simp [h]
  ·rw [if_neg h,Ch l (k+1)];simp [h]
def Oj (s:ByteArray) (i:Nat):Int:=(s.data.toList.getD i 0).toNat
def nameAt (s:ByteArray) (i:Nat):Bool:=
 let c:=Oj s i
 (decide (c>=97)&&decide (c<=122))||(!decide ((i:Int)=0)&& !decide (c < 48)&& !decide (c > 57))
def Gg (s:ByteArray):Bool:=Es s.size (nameAt s)&&within s.size 1 8
def setAt (l:List Int) (i:Nat):Bool:=decide (i=0)||decide (l.getD (i - 1) 0 < l.getD i 0)
def jU (l:List Int):Bool:=Es l.length (setAt l)
def aT (n:Int):List Int:=if within n 0 200=true then (List.range n.toNat).map Int.ofNat else []
def cu (n:Int):Bool:=within n 0 60
def iA (n:Int):Bool:=within n 0 20
def Gh (l:List Step) (i:Nat):Bool:=
 match l[i]? with
 |some s=>cu s.at'&&iA s.cap&&(!decide ((i:Int)=0)|| !decide (s.at'≠0))&&(!decide ((i:Int) > 0)||(match l[i - 1]? with|some q=> !decide (s.at'<=q.at')|none=>true))
 |none=>true
def kT (l:List Step):Bool:=Es l.length (Gh l)&&within l.length 1 8
def kU (t:Int):List Step->Int->Int
 |[],n=>n
 |s::l,n=>kU t l (if s.at'<=t then s.cap else n)
def eZ (l:List Int) (n:Int):Bool:=l.all iA&&decide ((l.length:Int)=n)
def yF (m:Mode) (r s:Int):Bool:=within m.dur 1 12&&eZ m.use r&&eZ m.con s
def dV (a:aB) (r s:Int):Bool:=(a.modes.all fun m=>yF m r s)&&(Gg a.name&&within a.fam 0 3&&within a.modes.length 1 3)
def rowOk (l:List Int):Bool:=decide ((l.length:Int)=4)&&l.all fun n=>within n 0 12
def sF (r:aK):Bool:=r.setup.all rowOk&&(kT r.steps&&(decide ((r.setup.length:Int)=0)||decide ((r.setup.length:Int)=4)))
def dI (p:Proj) (n:Int):Bool:=within n 0 (p.acts.length - 1)
def fM (p:Proj) (n:Int):Bool:=within n 0 (p.aS.length - 1)
def kV (p:Proj) (n:Int):Bool:=within n 0 (p.aH.length - 1)
def Iw (p:Proj) (name:ByteArray):Int:=bn (fun a=>decide (a.name=name)) p.acts 0
def nM (p:Proj) (k:Link):Bool:=dI p k.src&&dI p k.dst&& !decide (k.src=k.dst)&&within k.lag (-60) 60
def Bp (p:Proj) (i:Nat):Bool:=
 match p.acts[i]? with
 |some a=>dV a p.aS.length p.aH.length&&decide (Iw p a.name=i)
 |none=>true
def wH (p:Proj):Bool:=within p.dead 1 60&&within p.acts.length 1 6&& !decide ((p.aS.length:Int) > 3)&& !decide ((p.aH.length:Int) > 2)&& !decide ((p.links.length:Int) > 12)
def bI (p:Proj):Bool:=wH p&&Es p.acts.length (Bp p)&&p.aS.all sF&&(p.aH.all fun n=>within n 0 100)&&p.links.all (nM p)
def qZ (p:Proj) (l:Lit):Bool:=
 bI p&&dI p l.act&&(
  if l.kind=1\/l.kind=2 then within l.val (-1) 61
  else if l.kind=3\/l.kind=4 then (match p.acts[l.act.toNat]? with|some a=>within l.val 0 (a.modes.length - 1)|none=>false)
  else false)
def bL:Lit:=⟨0,0,0⟩
def negate (l:Lit):Lit:=
 if within l.val (-100000) 100000=true then
  if l.kind=1 then⟨2,l.act,l.val - 1⟩ else if l.kind=2 then⟨1,l.act,l.val+1⟩
  else if l.kind=3 then⟨4,l.act,l.val⟩ else if l.kind=4 then⟨3,l.act,l.val⟩ else bL
 else bL
def Ci (x y:Int):Int:=if x < y then -1 else if x > y then 1 else 0
def orI:List Int->Int
 |[]=>0
 |x::l=>if x≠0 then x else orI l
def jo (a b:Lit):Int:=orI [Ci a.act b.act,Ci a.kind b.kind,Ci a.val b.val]
def aY (a b:Lit):Bool:=decide (a.kind=b.kind)&&(decide (a.act=b.act)&&decide (a.val=b.val))
theorem gH {a b:Lit}:aY a b=true↔a=b:=by
 cases a;cases b;simp [aY]
def clauseAt (p:Proj) (l:List Lit) (i:Nat):Bool:=
 match l[i]? with
 |some x=>qZ p x&&(!decide ((i:Int) > 0)||(match l[i - 1]? with|some y=> !decide (jo y x>=0)|none=>true))
 |none=>true
def ru (p:Proj) (l:List Lit):Bool:=Es l.length (clauseAt p l)&&decide ((l.length:Int)<=24)
def rz (n:Int):Bool:=within n (-2) 62
def clamped (n:Int):Int:=min (max n (-2)) 62
def SI:Dom:=⟨[],[],[]⟩
def jV (p:Proj):Dom:=⟨p.acts.map fun _=>0,p.acts.map fun _=>p.dead - 1,p.acts.map fun a=>aT a.modes.length⟩
def rA (p:Proj):Dom:=if bI p=true then jV p else SI
def subset (a b:List Int):Bool:=a.all fun n=>b.contains n
def uD (p:Proj) (b:Dom) (i:Nat):Bool:=
 match b.lo[i]?,b.hi[i]?,b.modes[i]?,p.acts[i]? with
 |some x,some y,some m,some a=>rz x&&rz y&&jU m&&subset m (aT a.modes.length)
 |_,_,_,_=>true
def aW (p:Proj) (b:Dom):Bool:=
 bI p&& !decide ((b.lo.length:Int)≠p.acts.length)&& !decide ((b.hi.length:Int)≠p.acts.length)&& !decide ((b.modes.length:Int)≠p.acts.length)&&Es p.acts.length (uD p b)
def rC (b:Dom) (i:Nat):Bool:=
 match b.lo[i]?,b.hi[i]? with
 |some x,some y=>decide (x > y)
 |_,_=>false
def jB (b:Dom):Bool:=(List.range b.lo.length).any (rC b)||b.modes.any fun m=>decide ((m.length:Int)=0)
def nY (b:Dom) (a:Int):Bool:=decide (a>=0)&&decide (a < b.lo.length)&&decide (a < b.hi.length)&&decide (a < b.modes.length)
def restrict (b:Dom) (l:Lit):Dom:=
 if nY b l.act=true then
  let a:=l.act.toNat
  if l.kind=1 then { b with lo:=b.lo.set a (max (b.lo.getD a 0) (clamped l.val)) }
  else if l.kind=2 then { b with hi:=b.hi.set a (min (b.hi.getD a 0) (clamped l.val)) }
  else if l.kind=3 then { b with modes:=b.modes.set a ((b.modes.getD a []).filter fun n=>decide (n=clamped l.val)) }
  else if l.kind=4 then { b with modes:=b.modes.set a ((b.modes.getD a []).filter fun n=>decide (n≠clamped l.val)) }
  else b
 else b
def against (b:Dom) (l:List Lit):Dom:=l.foldl (fun b x=>restrict b (negate x)) b
def qE (p:Proj) (l:List Lit):Dom:=against (rA p) l
def valueOf (yes no:Bool):Int:=if yes=true then 1 else if no=true then -1 else 0
def litValue (b:Dom) (l:Lit):Int:=
 if nY b l.act=true then
  let a:=l.act.toNat
  let m:=b.modes.getD a []
  if l.kind=1 then valueOf (decide (b.lo.getD a 0>=l.val)) (decide (b.hi.getD a 0 < l.val))
  else if l.kind=2 then valueOf (decide (b.hi.getD a 0<=l.val)) (decide (b.lo.getD a 0 > l.val))
  else if l.kind=3 then valueOf (decide (m= [l.val])) (!m.contains l.val)
  else if l.kind=4 then valueOf (!m.contains l.val) (decide (m= [l.val]))
  else 1
 else 1
def bR (b:Dom):List Lit->Int->Lit->Int×Lit
 |[],n,x=>if n=0 then (-1,bL) else if n=1 then (0,x) else (0,bL)
 |l::r,n,x=>if litValue b l=1 then (1,bL) else if litValue b l=0 then bR b r (n+1) l else bR b r n x
def status (b:Dom) (l:List Lit):Int×Lit:=bR b l 0 bL
def bites (b:Dom) (l:List Lit):Bool:=decide ((status b l).1 < 0)||(decide ((status b l).1=0)&& !aY (status b l).2 bL)
def gu (p:Proj) (r:Int):Bool:=fM p r&&decide (((p.aS.getD r.toNat ⟨[],[]⟩).setup.length:Int) > 0)
def iZ (p:Proj) (r:Rul):Bool:=
 bI p&&(
  if r.kind=1 then within r.a 0 (p.links.length - 1)&&decide (r.b=0)&&decide (r.c=0)
  else if r.kind=2 then dI p r.a&&decide (r.b=0)&&decide (r.c=0)
  else if r.kind=3 then fM p r.a&&cu r.b&&decide (r.c=0)
  else if r.kind=4 then fM p r.a&&cu r.b&&cu r.c&&decide (r.b < r.c)
  else if r.kind=5 then gu p r.a&&dI p r.b&&dI p r.c&&decide (r.b < r.c)
  else if r.kind=6 then kV p r.a&&decide (r.b=0)&&decide (r.c=0)
  else false)
def bW (ms:List Int):List Mode->Nat->List Mode
 |[],_=>[]
 |m::r,k=>if ms.contains (k:Int)=true then m::bW ms r (k+1) else bW ms r (k+1)
def chosen (a:aB) (ms:List Int):List Mode:=bW ms a.modes 0
def least:List Int->Int
 |[]=>0
 |x::r=>r.foldl min x
def yG (a:aB) (ms:List Int):Int:=least ((chosen a ms).map Mode.dur)
def leastOf (l:List Mode) (f:Mode->Option Int):Int:=if l.all (fun m=>(f m).isSome)=true then least (l.map fun m=>(f m).getD 0) else 0
def fH (l:List Int) (i:Int):Option Int:=if within i 0 (l.length - 1)=true then some (l.getD i.toNat 0) else none
def lK (a:aB) (ms:List Int) (r:Int):Int:=leastOf (chosen a ms) fun m=>fH m.use r
def Cj (a:aB) (ms:List Int) (r:Int):Int:=leastOf (chosen a ms) fun m=>fH m.con r
def nQ (p:Proj) (a:Nat):aB:=p.acts.getD a ⟨⟨#[]⟩,0,[]⟩
def zm (p:Proj) (b:Dom) (a:Nat):Int:=yG (nQ p a) (b.modes.getD a [])
def sumTo (f:Nat->Int):Nat->Int
 |0=>0
 |n+1=>sumTo f n+f n
def Bq (p:Proj) (b:Dom) (r t:Int) (a:Nat):Int:=
 if b.hi.getD a 0<=t/\t < b.lo.getD a 0+zm p b a then lK (nQ p a) (b.modes.getD a []) r else 0
def UF (p:Proj) (b:Dom) (r t:Int):Int:=sumTo (Bq p b r t) p.acts.length
def fits (n:Int):Bool:=within n (-100000) 100000
def overlap (s d x y:Int):Int:=
 if fits s=true/\fits d=true/\fits x=true/\fits y=true then (if d < 1 then 0 else max (min (s+d) y - max s x) 0) else 0
def Cn (p:Proj) (r:Int):aK:=p.aS.getD r.toNat ⟨[],[]⟩
def nu (p:Proj) (b:Dom) (a:Nat) (r x y i:Int):Int:=
 let m:=(nQ p a).modes.getD i.toNat ⟨0,[],[]⟩
 min (overlap (b.lo.getD a 0) m.dur x y) (overlap (b.hi.getD a 0) m.dur x y)*m.use.getD r.toNat 0
def sO (p:Proj) (b:Dom) (r x y:Int) (a:Nat):Int:=least ((b.modes.getD a []).map (nu p b a r x y))
def DZ (p:Proj) (b:Dom) (r x y:Int):Int:=sumTo (sO p b r x y) p.acts.length
def yH (l:List Step) (x:Int):Nat->Int
 |0=>0
 |n+1=>yH l x n+kU (x+n) l 0
def rD (l:List Step) (x y:Int):Int:=if kT l=true/\cu x=true/\cu y=true then yH l x (y - x).toNat else 0
def Nj (p:Proj) (r a o:Int):Int:=(((Cn p r).setup.getD (nQ p a.toNat).fam.toNat []).getD (nQ p o.toNat).fam.toNat 0)
def rE (p:Proj) (b:Dom) (r a o:Int):Int:=b.lo.getD a.toNat 0+zm p b a.toNat+Nj p r a o
def jam (p:Proj) (b:Dom) (r a o:Int):Bool:=
 decide (lK (nQ p a.toNat) (b.modes.getD a.toNat []) r > 0)&&decide (lK (nQ p o.toNat) (b.modes.getD o.toNat []) r > 0)&&
  decide (rE p b r a o > b.hi.getD o.toNat 0)&&decide (rE p b r o a > b.hi.getD a.toNat 0)
def pV (p:Proj) (k:Int):Link:=p.links.getD k.toNat ⟨0,0,false,0⟩
def zn (p:Proj) (b:Dom) (k:Link):Bool:=
 decide (b.lo.getD k.src.toNat 0+(if k.TY=true then zm p b k.src.toNat else 0)+k.lag > b.hi.getD k.dst.toNat 0)
def Iy (p:Proj) (b:Dom) (k:Int) (a:Nat):Int:=Cj (nQ p a) (b.modes.getD a []) k
def wI (p:Proj) (b:Dom) (k:Int):Bool:=decide (sumTo (Iy p b k) p.acts.length > p.aH.getD k.toNat 0)
def fails (p:Proj) (b:Dom) (r:Rul):Bool:=
 if r.kind=1 then zn p b (pV p r.a)
 else if r.kind=2 then decide (b.lo.getD r.a.toNat 0+zm p b r.a.toNat > p.dead)
 else if r.kind=3 then decide (UF p b r.a r.b > kU r.b (Cn p r.a).steps 0)
 else if r.kind=4 then decide (DZ p b r.a r.b r.c > rD (Cn p r.a).steps r.b r.c)
 else if r.kind=5 then jam p b r.a r.b r.c
 else wI p b r.a
def refutes (p:Proj) (b:Dom) (r:Rul):Bool:=aW p b&&(jB b||(iZ p r&&fails p b r))
def follows (p:Proj) (r:Rul) (l:List Lit):Bool:=ru p l&&refutes p (qE p l) r
def Zl (list:List (List Lit)) (b:Dom):(Dom×Bool) ⊕ Dom:=
 if jB b=true then .inl (b,true) else
 match list.find? (bites b) with
 |none=>.inl (b,false)
 |some l=>if (status b l).1 < 0 then .inl (b,true) else .inr (restrict b (status b l).2)
def LB (list:List (List Lit)):Nat->Dom->Dom×Bool
 |0,b=>(b,false)
 |n+1,b=>match Zl list b with
  | .inl r=>r
  | .inr b'=>LB list n b'
def ny (b:Dom):Nat:=(b.lo.map fun n=>(62 - n).toNat).sum+(b.hi.map fun n=>(n+2).toNat).sum+(b.modes.map List.length).sum
def mh (p:Proj) (list:List (List Lit)) (b:Dom):Dom×Bool:=if aW p b=true then LB list (ny b+1) b else (b,false)
def UG (l:Lin):Bool:=decide (l.kind=1)||(decide (l.kind=2)&&(decide (l.rule.kind=0)&&(decide (l.rule.a=0)&&(decide (l.rule.b=0)&&decide (l.rule.c=0)))))
def Kn (p:Proj) (l:Lin):Bool:=ru p l.clause&&UG l
def aO (p:Proj) (ahead:List Lin) (l:Lin):Int:=
 if bI p=true/\Kn p l=true/\(ahead.length:Int) < 300 then
  if l.kind=1 then (if follows p l.rule l.clause=true then 0 else 2)
  else (if (mh p (ahead.map Lin.clause) (qE p l.clause)).2=true then 0 else 3)
 else 1
def oZ (p:Proj) (all:List Lin):List Lin->Nat->Int×Int
 |[],k=>(0,k)
 |l::r,k=>if aO p (all.take k) l=0 then oZ p all r (k+1) else (aO p (all.take k) l,k)
def Co (p:Proj) (lines:List Lin):Int×Int:=oZ p lines lines 0
def zo (p:Proj) (lines:List Lin):Bool:=decide ((Co p lines).1=0)
def upTo (k:Nat):List Int:=(List.range k).map Int.ofNat
theorem zq (k:Nat):(upTo k).length=k:=by simp [upTo]
def lim:Nat:=274877906944
structure Gs (G G':Prop):Prop where
 h:G'->G
theorem Gs.ff {X:Bool->Prop}:Gs (Br false X) (X false):=⟨Br.ff⟩
theorem Gs.tt {X:Bool->Prop}:Gs (Br true X) (X true):=⟨Br.tt⟩
theorem Gs.not {b:Bool} {X:Bool->Prop}:Gs (Br (!b) X) (Br b fun t=>X (!t)):=⟨Br.not⟩
theorem Gs.yes {b:Bool} {X:Bool->Prop} (h:b=true):Gs (Br b X) (X true):=⟨Br.yes h⟩
theorem Gs.no {b:Bool} {X:Bool->Prop} (h:b=false):Gs (Br b X) (X false):=⟨Br.no h⟩
theorem Gs.ar {r:Int} {K:Int->Prop} (h: -9223372036854775808<=r/\r<=9223372036854775807):Gs (Arith .i64 r K) (K r):=⟨Arith.ok h⟩
theorem Gs.vc {p K:Prop} (h:p):Gs (VC p K) K:=⟨fun k=>⟨h,k⟩⟩
theorem Gs.od {ops:List Oper} {fp:List RW} {K:Prop} (h:Hf ops fp=true):Gs (agj ops fp K) K:=⟨fun k=>⟨h,k⟩⟩
theorem Gs.one {a L:Nat} {z:List ZC} {x:AV} {K:Prop} (hx:cO z x.cells=true) (h:a+1<=L):Gs (VC (a+ [x].length<=L/\∀y∈[x],cO z y.cells=true) K) K:=⟨VC.one h hx⟩
theorem Gs.all {α:Type} {a L:Nat} {z:List ZC} {l:List α} {f:α->AV} {K:Prop} (hx:∀x,cO z (f x).cells=true) (h:a+l.length<=L):Gs (VC (a+(l.map f).length<=L/\∀y∈l.map f,cO z y.cells=true) K) K:=⟨VC.all h hx⟩
theorem Gs.adr {L:Nat} {z:List ZC} {x:AV} {K:Prop} (hx:cO z x.cells=true) (h:1<=L):Gs (VC ([x].length<=L/\∀y∈[x],cO z y.cells=true) K) K:=⟨VC.adr h hx⟩
theorem Gs.ads {α:Type} {L:Nat} {z:List ZC} {l:List α} {f:α->AV} {K:Prop} (hx:∀x,cO z (f x).cells=true) (h:l.length<=L):Gs (VC ((l.map f).length<=L/\∀y∈l.map f,cO z y.cells=true) K) K:=⟨VC.ads h hx⟩
theorem Gs.cut {α:Type} {f:α->AV} {l:List α} {a n m:Int} {k:Nat} {K:Prop} (h:n=m) (hx:∀x,(f x).cells.length=k):Gs (VC (n=m/\(a=0\/∀x,(l.map f).head? =some x->x.cells.length=k)) K) K:=⟨VC.cut h hx⟩
theorem Gs.at {α:Type} {l:List α} {f:α->AV} {k:Nat} {K:Nat->AV->Prop} (h:k < l.length):Gs (Idx (l.map f) (k:Int) K) (∀x,l[k]? =some x->K k (f x)):=⟨Idx.at h⟩
theorem Gs.of {α:Type} {l:List α} {f:α->AV} {i:Int} {K:Nat->AV->Prop} (h:0<=i/\i < l.length):Gs (Idx (l.map f) i K) (∀(j:Nat) (x:α),i=j->l[j]? =some x->K j (f x)):=⟨Idx.of_map h⟩
inductive adt (P:Program) (T:Nat->Ty) (L f:Nat) (args:List AR) (K:RV->Prop):Prop
 |mk (r:RV) (h:Contract P T L f args r) (k:K r)
section
variable {P:Program} {T:Nat->Ty} {L f:Nat} {args:List AR} {K:RV->Prop} {r:RV}
theorem gC (h:Contract P T L f args r) (k:K r):adt P T L f args K:=⟨r,h,k⟩
theorem Gs.k:Gs (iy P T L f args K) (adt P T L f args fun r=>r.wf L->K r):=⟨fun⟨r,h,k⟩=>⟨r,h,k⟩⟩
theorem Gs.d:Gs (Ww (iy P T L) f args K) (adt P T L f args K):=⟨fun⟨r,h,k⟩=>⟨r,fun _ hk=>⟨r,h,fun _=>hk⟩,k⟩⟩
end
theorem gA {G G':Prop} (k:G') (s:Gs G G':=by
 with_reducible first|exact Gs.ff|exact Gs.tt|exact Gs.not|exact Gs.yes (by assumption)|exact Gs.no (by assumption)|exact Gs.ar (by first|omega|(simp only [lm];omega))|exact Gs.k|exact Gs.d|exact Gs.od (by kernel_rfl)|exact Gs.no (decide_eq_false (by decide))|exact Gs.yes (decide_eq_true (by decide))|exact Gs.yes (decide_eq_true rfl)):G:=s.h k
theorem gP {G G':Prop} (k:G') (s:Gs G G':=by
 (first|refine Gs.one rfl ?_|refine Gs.adr rfl ?_|refine Gs.all (fun _=>rfl) ?_|refine Gs.ads (fun _=>rfl) ?_);focus ((try dsimp only);unfold lim;first|omega|(simp only [lens,lQ,zq] at*;omega))):G:=s.h k
theorem gAP {G G':Prop} (k:G') (s:Gs G G':=by first|(with_reducible first|exact Gs.ff|exact Gs.tt|exact Gs.not|exact Gs.yes (by assumption)|exact Gs.no (by assumption)|exact Gs.ar (by first|omega|(simp only [lm];omega))|exact Gs.k|exact Gs.d|exact Gs.od (by kernel_rfl)|exact Gs.no (decide_eq_false (by decide))|exact Gs.yes (decide_eq_true (by decide))|exact Gs.yes (decide_eq_true rfl))|((first|refine Gs.one rfl ?_|refine Gs.adr rfl ?_|refine Gs.all (fun _=>rfl) ?_|refine Gs.ads (fun _=>rfl) ?_);focus ((try dsimp only);unfold lim;first|omega|(simp only [lens,lQ,zq] at*;omega)))):G:=s.h k
theorem gAV {G G':Prop} (k:G') (s:Gs G G':=by first|(with_reducible first|exact Gs.ff|exact Gs.tt|exact Gs.not|exact Gs.yes (by assumption)|exact Gs.no (by assumption)|exact Gs.ar (by first|omega|(simp only [lm];omega))|exact Gs.k|exact Gs.d|exact Gs.od (by kernel_rfl)|exact Gs.no (decide_eq_false (by decide))|exact Gs.yes (decide_eq_true (by decide))|exact Gs.yes (decide_eq_true rfl))|(exact Gs.vc (by first|omega|(simp only [lm];omega)))):G:=s.h k
theorem gAX {G G':Prop} (k:G') (s:Gs G G':=by first|(with_reducible first|exact Gs.ff|exact Gs.tt|exact Gs.not|exact Gs.yes (by assumption)|exact Gs.no (by assumption)|exact Gs.ar (by first|omega|(simp only [lm];omega))|exact Gs.k|exact Gs.d|exact Gs.od (by kernel_rfl)|exact Gs.no (decide_eq_false (by decide))|exact Gs.yes (decide_eq_true (by decide))|exact Gs.yes (decide_eq_true rfl))|((first|refine Gs.one rfl ?_|refine Gs.adr rfl ?_|refine Gs.all (fun _=>rfl) ?_|refine Gs.ads (fun _=>rfl) ?_);focus ((try dsimp only);unfold lim;first|omega|(simp only [lens,lQ,zq] at*;omega)))|(exact Gs.vc (by first|omega|(simp only [lm];omega)))):G:=s.h k
theorem gQ {G G':Prop} (k:G') (s:Gs G G':=by
 exact Gs.vc ⟨by (try dsimp only);unfold lim;first|omega|(simp only [lens,lQ,zq] at*;omega),fun x hx=>by obtain⟨y,_,rfl⟩:=List.mem_map.1 (Xg hx);rfl⟩):G:=s.h k
theorem gV {G G':Prop} (k:G') (s:Gs G G':=by exact Gs.vc (by first|omega|(simp only [lm];omega))):G:=s.h k
theorem gM {G G':Prop} (k:G') (s:Gs G G':=by exact Gs.vc ⟨rfl,by omega,by (simp only [lm];unfold lim;omega)⟩):G:=s.h k
theorem gK {G G':Prop} (k:G') (s:Gs G G':=by first|exact Gs.cut rfl (fun _=>rfl)|exact Gs.vc ⟨rfl,.inl rfl⟩):G:=s.h k
structure Wn (p q:Prop):Prop where
 h:p->q
theorem Wn.y {n lo hi:Int}:Wn (within n lo hi=true) (lo<=n/\n<=hi):=⟨within_iff.1⟩
theorem Wn.n {n lo hi:Int}:Wn (within n lo hi=false) (n < lo\/hi < n):=⟨abO.1⟩
structure Sm (p q:Prop):Prop where
 h:p->q
structure Gs2 (G A B:Prop):Prop where
 h:A->B->G
theorem Gs2.d {p q r:Prop} {i:Decidable p} {X:Bool->Prop} (h:Sm p q) (h':Sm (¬ p) r):Gs2 (Br (decide p) X) (q->X true) (r->X false):=⟨fun a b=>Br.dec (fun x=>a (h.h x)) fun x=>b (h'.h x)⟩
theorem Gs2.e {b:Bool} {q r q' r':Prop} {X:Bool->Prop} (h:Sm (b=true) q) (h':Sm (b=false) r) (k:Wn q q') (k':Wn r r'):Gs2 (Br b X) (q->q'->X true) (r->r'->X false):=⟨fun c d=>⟨fun x=>c (h.h x) (k.h (h.h x)),fun x=>d (h'.h x) (k'.h (h'.h x))⟩⟩
theorem Gs2.f {b:Bool} {q r:Prop} {X:Bool->Prop} (h:Sm (b=true) q) (h':Sm (b=false) r):Gs2 (Br b X) (q->X true) (r->X false):=⟨fun c d=>⟨fun x=>c (h.h x),fun x=>d (h'.h x)⟩⟩
theorem gB {G A B:Prop} (a:A) (b:B) (s:Gs2 G A B:=by
 (with_reducible first|apply Gs2.d|apply Gs2.f)<;>(apply Sm.mk;intro h;(try simp only [lm] at h);exact h)):G:=s.h a b
theorem gN {G A B:Prop} (a:A) (b:B) (s:Gs2 G A B:=by
 (with_reducible apply Gs2.e)<;>first|exact Wn.y|exact Wn.n|(apply Sm.mk;intro h;(try simp only [lm] at h);exact h)):G:=s.h a b
theorem gI {G A:Prop} (k:A) (s:Gs G A:=by with_reducible refine Gs.at ?_;(first|omega|(simp only [lm] at*;omega))):G:=s.h k
theorem gJ {G A:Prop} (k:A) (s:Gs G A:=by with_reducible refine Gs.of ?_;(first|omega|(simp only [lm] at*;omega))):G:=s.h k
theorem fv {G:Prop} (h:G:=by first|((repeat' ((conv=>whnf)<;>(first|exact trivial|exact VC.nod (by kernel_rfl)|refine VC.mk rfl ?_)));done)|fail):G:=h
theorem nx {ι:Type} {inv:ι->Prop} {W:ι->Prop} {n m y:Nat} {μ:ι->Nat} (x:ι) (i:inv x) (e:n=m:=by exact rfl) (w:W x:=by first|((repeat' ((conv=>whnf)<;>(first|exact trivial|exact rfl|with_reducible refine And.intro ?_ ?_)));done)|fail)
  (h:μ x < y:=by (try dsimp only);(try simp only [List.length_map]);omega):∃x,inv x/\n=m/\W x/\μ x < y:=⟨x,i,e,w,h⟩
theorem nw {ι:Type} {inv:ι->Prop} {W:ι->Prop} {n m y:Nat} {μ:ι->Nat} (x:ι) (w:W x) (i:inv x) (e:n=m:=by exact rfl)
  (h:μ x < y:=by (try dsimp only);(try simp only [List.length_map]);omega):∃x,inv x/\n=m/\W x/\μ x < y:=⟨x,i,e,w,h⟩
theorem nwS {ι:Type} {inv:ι->Prop} {W:ι->Prop} {n m y:Nat} {μ:ι->Nat} (x:ι) (i:inv x) (w:W x:=by first|(((repeat' ((conv=>whnf)<;>(first|exact trivial|exact rfl|with_reducible refine And.intro ?_ ?_)))<;>((conv=>whnf)<;>(simp)));done)|fail) (e:n=m:=by exact rfl) (h:μ x < y:=by (try dsimp only);(try simp only [List.length_map]);omega):∃x,inv x/\n=m/\W x/\μ x < y:=⟨x,i,e,w,h⟩
theorem nwL {ι:Type} {inv:ι->Prop} {W:ι->Prop} {n m y:Nat} {μ:ι->Nat} (x:ι) (i:inv x) (w:W x:=by first|(((repeat' ((conv=>whnf)<;>(first|exact trivial|exact rfl|with_reducible refine And.intro ?_ ?_)))<;>((conv=>whnf)<;>(simp [Lit.av])));done)|fail) (e:n=m:=by exact rfl) (h:μ x < y:=by (try dsimp only);(try simp only [List.length_map]);omega):∃x,inv x/\n=m/\W x/\μ x < y:=⟨x,i,e,w,h⟩
abbrev lE {ι α:Type} (_:ι):List α:=[]
theorem au.go {T:Nat->Ty} {body:(AX->St->Prop)->St->Prop} {n:Nat} {Q:AX->St->Prop} {s:St} {ks:List (Nat×SV)} {ms:List (Nat×List SV)} {ts:List (Nat×Nat×List AV×Nat)}
  (ι:Type) (inv:ι->Prop) (cs:ι->List (Nat×SV)) (cm:ι->List (Nat×List SV)) (ct:ι->List (Nat×Nat×List AV×Nat)) (μ:ι->Nat) (x₀:ι) (i₀:inv x₀)
  (hr:∀x,inv x->body (AX.then (fun s'=>∃x',inv x'/\s'.n=n/\Weak T s' ⟨cs x'++ks,cm x'++ms,ct x'++ts⟩/\μ x' < μ x) Q) ((Fr.mk (cs x++ks) (cm x++ms) (ct x++ts)).st n))
  (h₀:Weak T s ⟨cs x₀++ks,cm x₀++ms,ct x₀++ts⟩:=by first|((repeat' ((conv=>whnf)<;>(first|exact trivial|exact rfl|with_reducible refine And.intro ?_ ?_)));done)|fail):au T body n Q s ks ms ts:=⟨ι,inv,cs,cm,ct,μ,x₀,i₀,h₀,hr⟩
theorem uS {b:Dom}:∀{l:List Lit} {n:Int} {x0 x:Lit},(n=1->litValue b x0=0)->bR b l n x0=(0,x)->x≠bL->litValue b x=0
 |[],n,x0,x,h0,h,hx=>by
  rw [bR] at h
  split at h
  ·simp at h
  ·split at h
   ·simp at h;subst h;exact h0 (by assumption)
   ·simp at h;exact absurd h.symm hx
 |l::r,n,x0,x,h0,h,hx=>by
  rw [bR] at h
  split at h
  ·simp at h
  ·split at h
   ·exact uS (fun _=>by assumption) h hx
   ·exact uS h0 h hx
theorem LC {b:Dom} {l:List Lit} {x:Lit} (h:status b l=(0,x)) (hx:x≠bL):litValue b x=0:=uS (by omega) h hx
theorem yI {b:Dom}:∀{l:List Lit} {n:Int} {x0:Lit}, -1<=(bR b l n x0).1/\(bR b l n x0).1<=1
 |[],n,x0=>by rw [bR];split<;>(try split)<;>simp
 |l::r,n,x0=>by
  rw [bR];split
  ·simp
  ·split
   ·exact yI
   ·exact yI
theorem EW {b:Dom} {x:Lit} (h:litValue b x=0):nY b x.act=true/\1<=x.kind/\x.kind<=4:=by
 unfold litValue at h
 split at h
 ·rename_i hd
  refine⟨hd,?_⟩
  dsimp only at h
  split at h
  ·omega
  split at h
  ·omega
  split at h
  ·omega
  split at h
  ·omega
  ·simp at h
 ·simp at h
theorem adu (b:Dom) (l:List Lit):bites b l=(decide ((status b l).1= -1)||(decide ((status b l).1=0)&& !decide ((status b l).2.kind=0))):=by
 have h:=yI (b:=b) (l:=l) (n:=0) (x0:=bL)
 change -1<=(status b l).1/\(status b l).1<=1 at h
 rw [bites]
 congr 1
 ·rw [Bool.eq_iff_iff,decide_eq_true_eq,decide_eq_true_eq];omega
 by_cases h0:(status b l).1=0
 ·rw [decide_eq_true h0]
  simp only [Bool.true_and]
  congr 1
  by_cases hz:(status b l).2=bL
  ·rw [hz];rfl
  ·have hl:=LC (b:=b) (l:=l) (x:=(status b l).2) (by rw [<- h0]) hz
   have hk:=(EW hl).2
   rw [show aY (status b l).2 bL=false by rw [<- Bool.not_eq_true,gH];exact hz]
   rw [eq_comm,decide_eq_false_iff_not];omega
 ·rw [decide_eq_false h0];rfl
theorem SK {b:Dom} {a:Int} (h:nY b a=true):∃n:Nat,a=n/\a.toNat=n/\n < b.lo.length/\n < b.hi.length/\n < b.modes.length:=by
 simp only [nY,Bool.and_eq_true,decide_eq_true_eq] at h
 exact⟨a.toNat,by omega,rfl,by omega,by omega,by omega⟩
theorem Zm (n:Int): -2<=clamped n/\clamped n<=62:=by unfold clamped;omega
theorem Iz {α:Type} (f:α->Nat):∀{l:List α} {k:Nat} {x v:α},l[k]? =some x->((l.set k v).map f).sum+f x=(l.map f).sum+f v
 |[],_,_,_,h=>by simp at h
 |y::r,0,x,v,h=>by simp at h;subst h;simp;omega
 |y::r,k+1,x,v,h=>by
  have:=Iz f (l:=r) (k:=k) (x:=x) (v:=v) (by simpa using h)
  simp only [List.set_cons_succ,List.map_cons,List.sum_cons];omega
structure Lg where
 proj:Proj
 dom:Dom
 decs:List Lit
 lines:List Lin
abbrev Lg.av (x:Lg):AV:=.agg [i64 x.proj.dead,.sl (x.proj.acts.map aB.av),.sl (x.proj.links.map Link.av),.sl (x.proj.aS.map aK.av),ints x.proj.aH,ints x.dom.lo,ints x.dom.hi,.sl (x.dom.modes.map ints),lits x.decs,.sl (x.lines.map Lin.av)]
def Ol (a b:Dom) (i:Nat):Bool:=
 match a.lo[i]?,b.lo[i]?,a.hi[i]?,b.hi[i]?,a.modes[i]?,b.modes[i]? with
 |some x,some x',some y,some y',some m,some m'=> !decide (x < x')&&(!decide (y > y')&&subset m m')
 |_,_,_,_,_,_=>true
def EX (a b:Dom):List Int:=[a.hi.length,a.modes.length,b.lo.length,b.hi.length,b.modes.length]
def zu (a b:Dom):Bool:=(EX a b).all fun n=>decide (n=a.lo.length)
def iP (a b:Dom):Bool:=zu a b&&Es a.lo.length (Ol a b)
def yJ (g:Lg):Dom:=g.decs.foldl restrict (jV g.proj)
def wJ (g:Lg):Bool:=
 bI g.proj&&aW g.proj g.dom&& !decide ((g.decs.length:Int) > 20)&&g.decs.all (qZ g.proj)&&zo g.proj g.lines&&
  ((mh g.proj (g.lines.map Lin.clause) (yJ g)).2||iP (mh g.proj (g.lines.map Lin.clause) (yJ g)).1 g.dom)
def vH (p:Proj) (s:bB) (i:Nat):Bool:=
 match s.starts[i]?,s.modes[i]?,p.acts[i]? with
 |some t,some m,some a=>cu t&&within m 0 (a.modes.length - 1)
 |_,_,_=>true
def bN (p:Proj) (s:bB):Bool:=
 bI p&& !decide ((s.starts.length:Int)≠p.acts.length)&& !decide ((s.modes.length:Int)≠p.acts.length)&&Es p.acts.length (vH p s)
def Cq (p:Proj) (s:bB) (k:Nat):Mode:=(nQ p k).modes.getD (s.modes.getD k 0).toNat ⟨0,[],[]⟩
def zw (p:Proj) (s:bB) (k:Nat):Int:=s.starts.getD k 0+(Cq p s k).dur
def runs (p:Proj) (s:bB) (t:Int) (k:Nat):Bool:=decide (s.starts.getD k 0<=t)&&decide (zw p s k > t)
def IB (p:Proj) (s:bB) (r t:Int) (k:Nat):Int:=if runs p s t k=true then (Cq p s k).use.getD r.toNat 0 else 0
def Nk (p:Proj) (s:bB) (r t:Int):Int:=sumTo (IB p s r t) p.acts.length
def IC (p:Proj) (s:bB) (r:Int) (k:Nat):Int:=(Cq p s k).con.getD r.toNat 0
def Om (p:Proj) (s:bB) (r:Int):Int:=sumTo (IC p s r) p.acts.length
def jc (k:Nat):Rul:=⟨1,k,0,0⟩
def endRule (k:Nat):Rul:=⟨2,k,0,0⟩
def nE (r t:Nat):Rul:=⟨3,r,t,0⟩
def jd (r b c:Nat):Rul:=⟨5,r,b,c⟩
def gL (k:Nat):Rul:=⟨6,k,0,0⟩
def pq (r:Nat):List Rul:=(List.range 61).map (nE r)
def dW (p:Proj) (r b:Nat):List Rul:=if gu p r=true then (List.range (p.acts.length - (b+1))).map fun j=>jd r b (b+1+j) else []
def dw (p:Proj):List Rul:=
 (List.range p.links.length).map jc++(List.range p.acts.length).map endRule++(List.range p.aS.length).flatMap pq++
  (List.range p.aS.length).flatMap (fun r=>(List.range p.acts.length).flatMap (dW p r))++(List.range p.aH.length).map gL
def vI (p:Proj) (s:bB) (r a o:Int):Bool:=decide (zw p s a.toNat+Nj p r a o<=s.starts.getD o.toNat 0)
def sP (p:Proj) (s:bB) (r b c:Int):Bool:=
 !decide ((Cq p s b.toNat).use.getD r.toNat 0=0)&& !decide ((Cq p s c.toNat).use.getD r.toNat 0=0)&& !vI p s r b c&& !vI p s r c b
def Ab (p:Proj) (s:bB) (k:Link):Bool:=decide (s.starts.getD k.dst.toNat 0 < (if k.TY=true then zw p s k.src.toNat else s.starts.getD k.src.toNat 0)+k.lag)
def breaks (p:Proj) (s:bB) (r:Rul):Bool:=
 if r.kind=1 then Ab p s (pV p r.a)
 else if r.kind=2 then decide (zw p s r.a.toNat > p.dead)
 else if r.kind=3 then decide (Nk p s r.a r.b > kU r.b (Cn p r.a).steps 0)
 else if r.kind=5 then sP p s r.a r.b r.c
 else decide (Om p s r.a > p.aH.getD r.a.toNat 0)
def nZ (p:Proj) (s:bB):List Rul:=if bN p s=true then (dw p).filter (breaks p s) else []
def tT (p:Proj) (s:bB):Bool:=bN p s&&decide (((nZ p s).length:Int)=0)
structure Res where
 status:Int
 sched:bB
 span:Int
 low:Int
 proof:List Lin
 visits:Int
abbrev Res.av (x:Res):AV:=.agg [i64 x.status,ints x.sched.starts,ints x.sched.modes,i64 x.span,i64 x.low,.sl (x.proof.map Lin.av),i64 x.visits]
def Sz (n:Int):Prop:= -1<=n/\n<=1048576
def szN (c:Nat) (n:Int):Int:=if n - c < 0 then -1 else n - c
def szB (r:Int) (f:Int->Int):Int:=if r < 0 then -1 else f r
def szL {α:Type} (f:α->Int->Int):List α->Int->Int
 |[],n=>n
 |x::r,n=>szB (f x n) (szL f r)
def szS {α:Type} (f:α->Int->Int) (l:List α) (n:Int):Int:=szB (szN l.length n) (szL f l)
theorem jC {c:Nat} {n:Int} (h:Sz n):Sz (szN c n):=by
 unfold Sz szN at*;split<;>omega
theorem pW {r:Int} {f:Int->Int} (h:Sz r) (hf:Sz r->Sz (f r)):Sz (szB r f):=by
 unfold szB;split
 ·unfold Sz;omega
 ·exact hf h
theorem adv {α:Type} {f:α->Int->Int} (hf:∀{x n},Sz n->Sz (f x n)):∀{l:List α} {n:Int},Sz n->Sz (szL f l n)
 |[],_,h=>h
 |_::_,_,h=>pW (hf h) fun h=>adv hf h
theorem Ac {α:Type} {f:α->Int->Int} (hf:∀{x n},Sz n->Sz (f x n)) {l:List α} {n:Int} (h:Sz n):Sz (szS f l n):=pW (jC h) fun h=>adv hf h
def filled {α:Type} (f:α->AV) (z:AV) (l:List α) (k:Nat):List AV:=(l.take k).map f++List.replicate ((((l.map f).length:Nat):Int).toNat - k) z
theorem dX {α:Type} {f:α->AV} {z:AV} {l:List α} {k:Nat} (h:k < l.length):(filled f z l k)[k]? =some z:=by
 unfold filled
 rw [List.getElem?_append_right (by simp;omega)]
 rw [List.getElem?_replicate,if_pos (by simp;omega)]
theorem dY {α:Type} {f:α->AV} {z v:AV} {l:List α} {k:Nat} {x:α} (h:l[k]? =some x) (hv:v=f x):(filled f z l k).set k v=filled f z l (k+1):=by
 have hk:=(List.getElem?_eq_some_iff.1 h).1
 subst hv
 unfold filled
 rw [List.set_append_right _ _ (by simp;omega)]
 rw [List.take_add_one,h]
 simp only [List.map_append,List.append_assoc,List.length_map,List.length_take]
 congr 1
 rw [show k - min k l.length=0 by omega]
 obtain⟨m,hm⟩:∃m,((l.length:Nat):Int).toNat - k=m+1:=⟨l.length - k - 1,by omega⟩
 rw [hm,show ((l.length:Nat):Int).toNat - (k+1)=m by omega,List.replicate_succ]
 rfl
theorem dZ {α:Type} {f:α->AV} {z:AV} {l:List α} {k:Nat} (h:l.length<=k):filled f z l k=l.map f:=by
 unfold filled
 rw [List.take_of_length_le h]
 simp;omega
def adw:Rul:=⟨0,0,0,0⟩
def aaL:Lg:=⟨⟨0,[],[],[],[]⟩,⟨[],[],[]⟩,[],[]⟩
open Go.RowKit Go.ChangeShapes Go.WideShapes
structure adx {H:Type} (μ:DataW H->Nat):Prop where
 sl:∀elems spare,elems.length<=μ (.slice elems spare)
 slE:∀elems spare x,x∈elems->μ x<=μ (.slice elems spare)
 agg:∀parts x,x∈parts->μ x<=μ (.agg parts)
 str:∀s:List UInt8,s.length<=μ (.lit (.string s))
section
variable {H:Type} (enc:TypeId×Value->H) (P:Program) (w:World) (I:Nat->Prop) (L:Nat) (μ:DataW H->Nat) (N:Nat)
def Rd (t:Nat) {α:Type} (f:α->AV) (q:α->Prop):Prop:=
 ∀(fuel:Nat) (cs:List Value) (d:DataW H) (ps:List MemPlace),DataW.trod enc P w 0 (fun _=>true) true fuel t cs=some (d,ps)->μ d<=N->∃x,q x/\bq (aM I w L) (f x).cells cs
def Nl (len:Nat) (fs:List Field) (o:Nat) {β:Type} (g:β->List AV) (q:β->Prop):Prop:=
 ∀(n:Nat) (cs:List Value) (xs:List (DataW H×List MemPlace)),cs.length=len->xs.length=fs.length->
  (∀(i:Nat) (f:Field),fs[i]? =some f->DataW.trod enc P w 0 (fun _=>true) true n f.type ((cs.drop f.offset).take (P.cellsOf f.type))=xs[i]?)->(∀y∈xs,μ y.1<=N)->
  ∃x,q x/\bq (aM I w L) (g x) (cs.drop o)
end
section
variable {H:Type} {enc:TypeId×Value->H} {P:Program} {w:World} {I:Nat->Prop} {L:Nat} {μ:DataW H->Nat} {N:Nat}
theorem ahU {n:Int} (h:(Lit.int .i64 n).wf=true): -9223372036854775808<=n/\n<=9223372036854775807:=by
 simp only [Lit.wf,Bool.and_eq_true,decide_eq_true_eq] at h
 exact h
theorem jW {t:Nat} (ht:P.underlying t=some (.int .i64)):Rd enc P w I L μ N t (fun n=>.int .i64 n) (fun n=> -9223372036854775808<=n/\n<=9223372036854775807):=by
 intro fuel cs d ps h _
 obtain⟨n,rfl,_,hw⟩:=DataW.trod_int ht h
 refine⟨n,ahU hw,?_⟩
 simp [AV.cells,bq,aM]
theorem aeK {t:Nat} (ht:P.underlying t=some .bool):Rd enc P w I L μ N t (fun b=>.bool b) (fun _=>True):=by
 intro fuel cs d ps h _
 obtain⟨b,rfl,_⟩:=DataW.trod_bool ht h
 exact⟨b,trivial,by simp [AV.cells,bq,aM]⟩
theorem agt (hb:adx μ) {t:Nat} (ht:P.underlying t=some .string):Rd enc P w I L μ N t (fun s=>.str s) (fun s=>s.size<=N):=by
 intro fuel cs d ps h hm
 obtain⟨s,rfl,hx,_⟩:=DataW.trod_string ht h
 simp only [Prod.mk.injEq] at hx
 rw [hx.1] at hm
 have:=hb.str s.data.toList
 exact⟨s,by have e:s.size=s.data.toList.length:=(Array.length_toList (xs:=s.data)).symm
            omega,by simp [AV.cells,bq,aM]⟩
theorem LD {b sz:Nat}:∀{l:List AV} {o:Nat},(∀(i:Nat) (x:AV),l[i]? =some x->iw I w L b sz x (o+i*sz))->dF I w L b sz l o
 |[],_,_=>by simp [dF]
 |x::l,o,h=>by
  simp only [dF]
  refine⟨by simpa using h 0 x rfl,LD fun i y hy=>?_⟩
  have:=h (i+1) y (by simpa using hy)
  rwa [show o+(i+1)*sz=o+sz+i*sz by rw [Nat.succ_mul];omega] at this
theorem IE {b:Nat}:∀{l:List AV} {cs:List Value} {o:Nat},bq (aM I w L) l cs->(∀(j:Nat) (v:Value),cs[j]? =some v->w.cell? ⟨b,o+j,none⟩=some v)->bV I w L b l o
 |[],_,_,_,_=>by simp [bV]
 |x::l,[],_,h,_=>h.elim
 |x::l,v::cs,o,h,hc=>by
  simp only [bV]
  refine⟨⟨v,by simpa using hc 0 v rfl,h.1⟩,IE h.2 fun j u hu=>?_⟩
  have:=hc (j+1) u (by simpa using hu)
  rwa [show o+(j+1)=o+1+j by omega] at this
theorem cell_spot {a:Addr} {n:Nat} {v:Value} (h:w.cell? (a.add n)=some v):(a.add n).spot=none:=by
 unfold World.cell? at h
 split at h
 ·split at h
  ·cases h
  ·rename_i hs;simpa using hs
 ·cases h
theorem add_eq {a:Addr} (ha:a.spot=none) (n:Nat):a.add n=⟨a.block,a.off+n,none⟩:=by
 unfold Addr.add
 split
 ·subst n;cases a;simp at ha;simp [ha]
 ·rfl
theorem je (hb:adx μ) (hNL:N<=L) (hI:∀b o v,w.cell? ⟨b,o,none⟩=some v->I b) {t e sz:Nat} (ht:P.underlying t=some (.slice e)) (hc:P.cellsOf e=sz) (hpos:0 < sz) {α:Type} {f:α->AV} {q:α->Prop}
  (hsz:∀x,(f x).cells.length=sz) (he:Rd enc P w I L μ N e f q):Rd enc P w I L μ N t (fun l:List α=>.sl (l.map f)) (fun l=>l.length<=N/\∀x∈l,q x):=by
 intro fuel cs d ps h hm
 rcases Go.Deep.open_slice ht h with⟨rfl,hx⟩|⟨a,len,cap,m,n,D,Pl,rfl,_,hl,_,hmm,hx,hel⟩
 ·refine⟨[],⟨Nat.zero_le _,by simp⟩,?_⟩
  simp only [AV.cells,bq,aM,List.map_nil,List.length_nil,and_true]
  exact⟨none,0,rfl,Nat.zero_le _,Nat.le_refl _,.inl rfl⟩
 ·simp only [if_true] at hmm
  subst hmm
  simp only [Prod.mk.injEq] at hx
  have hd:=hx.1
  subst hd
  rw [hc] at hel
  have hlen:len<=N:=by
   have:=hb.sl ((List.range len).map D) ((List.range (m - len)).map fun j=>D (len+j))
   simp at this;omega
  have ahV:∀i,i < len->∃x,q x/\∃cs',w.cells? 0 (a.add (i*sz)) sz=some cs'/\bq (aM I w L) (f x).cells cs':=fun i hi=>by
   obtain⟨cs',h1,h2⟩:=hel i (by omega)
   obtain⟨x,h3,h4⟩:=he n cs' _ _ h2 (Nat.le_trans (hb.slE _ _ (D i) (List.mem_map.2 ⟨i,by simpa using hi,rfl⟩)) hm)
   exact⟨x,h3,cs',h1,h4⟩
  have key:∃l:List α,l.length=len/\∀i x,l[i]? =some x->q x/\∃cs',w.cells? 0 (a.add (i*sz)) sz=some cs'/\bq (aM I w L) (f x).cells cs':=by
   clear hlen hl hm hx h hel
   induction len with
   |zero=>exact⟨[],rfl,by simp⟩
   |succ k ih=>
    obtain⟨l,h1,h2⟩:=ih fun i hi=>ahV i (by omega)
    obtain⟨x,h3⟩:=ahV k (by omega)
    refine⟨l++[x],by simp [h1],fun i y hy=>?_⟩
    by_cases hik:i < l.length
    ·rw [List.getElem?_append_left hik] at hy;exact h2 i y hy
    ·rw [List.getElem?_append_right (by omega)] at hy
     have:i=k:=by
      have:=(List.getElem?_eq_some_iff.1 hy).1
      simp at this;omega
     subst this
     rw [show i - l.length=0 by omega] at hy
     simp at hy;subst hy;exact h3
  obtain⟨l,h1,h2⟩:=key
  refine⟨l,⟨by omega,fun x hx=>?_⟩,?_⟩
  ·obtain⟨i,hi,rfl⟩:=List.getElem_of_mem hx
   exact (h2 i _ (List.getElem?_eq_getElem hi)).1
  ·simp only [AV.cells,bq,aM,and_true]
   refine⟨some a,m,by simp [h1],by simp;omega,by simp;omega,?_⟩
   by_cases h0:len=0
   ·left;simp;exact List.eq_nil_of_length_eq_zero (by omega)
   ·right
    have first:∃v,w.cell? (a.add 0)=some v:=by
     obtain⟨x,hx⟩:∃x,l[0]? =some x:=⟨l[0]'(by omega),by simp⟩
     obtain⟨_,cs',h3,_⟩:=h2 0 x hx
     obtain⟨_,h4,h5⟩:=World.cells?_some h3
     have:=h5 0 hpos
     rw [List.getElem?_eq_getElem (by omega)] at this
     rw [Nat.zero_mul] at this
     rw [show (a.add 0).add 0=a.add 0 by simp [Addr.add]] at this
     exact⟨_,this⟩
    obtain⟨v,hv⟩:=first
    have hs:=cell_spot hv
    rw [show a.add 0=a by simp [Addr.add]] at hs hv
    refine⟨a.block,a.off,sz,by cases a;simp at hs;simp [hs],hI a.block a.off v (by cases a;simp at hs;subst hs;exact hv),LD fun i y hy=>?_⟩
    rw [List.getElem?_map] at hy
    obtain⟨x,hx,rfl⟩:=Option.map_eq_some_iff.1 hy
    obtain⟨_,cs',h3,h4⟩:=h2 i x hx
    obtain⟨_,h5,h6⟩:=World.cells?_some h3
    refine nX.2 ⟨hsz x,IE h4 fun j u hu=>?_⟩
    have hj:j < sz:=by
     have:=(List.getElem?_eq_some_iff.1 hu).1
     omega
    have:=h6 j hj
    rw [hu,add_eq hs,add_eq rfl] at this
    exact this
theorem jf {len:Nat}:Nl enc P w I L μ N len [] len (fun _:Unit=>[]) (fun _=>True):=by
 intro n cs xs h1 _ _ _
 refine⟨(),trivial,?_⟩
 rw [List.drop_eq_nil_of_le (by omega)]
 trivial
theorem aN {len o k:Nat} {f:Field} {fs:List Field} {α β:Type} {g:α->AV} {q:α->Prop} {gs:β->List AV} {qs:β->Prop} (ho:f.offset=o) (hk:P.cellsOf f.type=k)
  (r:Rd enc P w I L μ N f.type g q) (rs:Nl enc P w I L μ N len fs (o+k) gs qs):Nl enc P w I L μ N len (f::fs) o (fun x:α×β=>(g x.1).cells++gs x.2) (fun x=>q x.1/\qs x.2):=by
 intro n cs xs h1 h2 h3 h4
 match xs,h2 with
 |y::ys,h2=>
  have hy:=h3 0 f rfl
  simp only [List.getElem?_cons_zero,ho,hk] at hy
  obtain⟨a,ha,hr⟩:=r n _ y.1 y.2 hy (h4 y (by simp))
  obtain⟨b,hb,hrs⟩:=rs n cs ys h1 (by simpa using h2) (fun i f' hf=>by have:=h3 (i+1) f' (by simpa using hf);simpa using this) (fun z hz=>h4 z (by simp [hz]))
  refine⟨(a,b),⟨ha,hb⟩,?_⟩
  have e:cs.drop o=(cs.drop o).take k++cs.drop (o+k):=by rw [<- List.drop_drop,List.take_append_drop]
  rw [e]
  exact hr.append hrs
theorem mD (hb:adx μ) {t len:Nat} {fs:Array Field} (ht:P.underlying t=some (.struct fs)) (hlen:P.cellsOf t=len) {β:Type} {g:β->List AV} {q:β->Prop} (r:Nl enc P w I L μ N len fs.toList 0 g q)
  {α:Type} {F:α->AV} {Q:α->Prop} (mk:β->α) (hF:∀x,(F (mk x)).cells=g x) (hQ:∀x,q x->Q (mk x)):Rd enc P w I L μ N t F Q:=by
 intro fuel cs d ps h hm
 obtain⟨xs,n,_,hx,h1,h2,h3⟩:=DataW.trod_struct ht h
 simp only [Prod.mk.injEq] at hx
 rw [hx.1] at hm
 obtain⟨x,hq,hr⟩:=r n cs xs (by omega) (by simpa using h2) (fun i f hf=>h3 i f (by simpa using hf)) (fun y hy=>Nat.le_trans (hb.agg _ y.1 (List.mem_map.2 ⟨y,hy,rfl⟩)) hm)
 refine⟨mk x,hQ x hq,?_⟩
 rw [hF]
 simpa using hr
theorem Zn {J O:Nat->Prop} {mt:Bool} {r:Reach} {b0 t:Nat} {fs:Array Field} (ht:P.underlying t=some (.struct fs)) {v:Value} {d:DataW H} {ps:List MemPlace} (hval:Value.okWide P w r b0 t v)
  (hd:DataW.Trod enc P w 0 (fun _=>true) true t v d ps) (hm:μ d<=N) {α:Type} {f:α->AV} {q:α->Prop} (hR:Rd enc P w I L μ N t f q) (hf:∀x,∃l,f x= .agg l):∃x,q x/\sD I J O mt w L (.d (f x)) v:=by
 simp only [Value.okWide,ht] at hval
 obtain⟨cs,rfl,_⟩:=hval
 obtain⟨fuel,hd⟩:=hd
 obtain⟨x,hq,hr⟩:=hR fuel _ d ps hd hm
 refine⟨x,hq,?_⟩
 obtain⟨l,hl⟩:=hf x
 simp only [sD]
 rw [hl] at hr ⊢
 exact⟨cs.toList,by simp,by simpa [AV.cells,Value.cells] using hr⟩
theorem aeL {J O:Nat->Prop} {mt:Bool} {r:Reach} {b0 t:Nat} (ht:P.underlying t=some (.int .i64)) {v:Value} {d:DataW H} {ps:List MemPlace} (hval:Value.okWide P w r b0 t v)
  (hd:DataW.Trod enc P w 0 (fun _=>true) true t v d ps):∃n:Int,(-9223372036854775808<=n/\n<=9223372036854775807)/\sD I J O mt w L (.d (.int .i64 n)) v:=by
 obtain⟨n,rfl,_,_,hw⟩:=open_int ht hval hd
 exact⟨n,ahU hw,rfl⟩
end
open Go.ChangeShapes Go.WideShapes Go.ChangeAt Go.RowKit
theorem aeM {w:World} {a:Addr} {v:Value} (h:w.cell? a=some v):a.block < w.heap.size:=by
 unfold World.cell? at h
 split at h
 ·rename_i c e r hb
  exact (Array.getElem?_eq_some_iff.1 hb).1
 ·cases h
section
variable {H:Type} {enc:TypeId×Value->H} {P:Program}
theorem EY {W W':World} (hl:laidOutB P=true) (hb:Below W.heap.size W W'):∀{ts:List TypeId} {vs:List Value} {ds:List (DataW H)} {p:List MemPlace},
  (∀t∈ts,P.readableRec t=true/\t < P.types.size)->(∀x∈p,x.block < W.heap.size)->DataW.TrodAll enc P W 0 (fun _=>true) true ts vs ds p->
  DataW.TrodAll enc P W' 0 (fun b=>decide (b < W.heap.size)) true ts vs ds p
 |[],vs,ds,p,_,_,h=>by
  obtain⟨rfl,rfl,rfl⟩:=trodAll_nil h
  exact trodAll_mk0
 |t::ts,vs,ds,p,ht,hp,h=>by
  obtain⟨v,vs',d,ds',a,b,rfl,rfl,rfl,h1,h2⟩:=trodAll_cons h
  exact trodAll_cons_mk (Below.trod hl (ht t (by simp)).1 (ht t (by simp)).2 h1 hb fun x hx=>hp x (by simp [hx]))
   (EY hl hb (fun t h=>ht t (by simp [h])) (fun x hx=>hp x (by simp [hx])) h2)
theorem abP {f:Func} {s:ChangeSpec} {tb:Nat} (hl:laidOutB P=true) (hr:f.resultTypes= #[tb]) (htb:P.underlying tb=some .bool) (hv:s.vars= [])
  (hp:∀t∈f.params.toList,P.readableRec t=true/\t < P.types.size) {W W':World} {args:Array Value} {ds gs:List (DataW H)} {before:List MemPlace} (hW:DataW.Whole enc P f.params.toList s.vars false W args.toList ds gs before)
  (hfn:s.fn H (ds++gs)= { results:=[.lit (.bool true)],args:=ds }) (hb:Below W.heap.size W W'):s.post enc P f false true false false W args (.bool true) W':=by
 have hW':=hW
 obtain⟨p,q,hA,hV,hbe,hfz,hnd⟩:=hW
 rw [hv] at hV
 obtain⟨rfl,rfl⟩:=trodVars_none hV
 have hlt:∀x∈before,x.block < W.heap.size:=fun x hx=>hW'.lt x hx
 rw [List.append_nil] at hbe
 subst hbe
 refine⟨ds,[],before,[],before,[],hW',?_,?_,?_,hb.frame _,nofun⟩
 ·rw [hfn,hr];exact trodAll_cons_mk (shut_bool htb _) trodAll_mk0
 ·rw [hfn];exact EY hl hb hp hlt hA
 ·rw [hfn,hv];rfl
end
end Go.Proofs.YthegbfgeochckaaGreat.Abs
