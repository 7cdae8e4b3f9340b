/- What the program's functions compute, as functions on Lean data: numbers, sets, projects. -/
import Derived.Test.YtjfnojijdggfhaaGreatLayA
import Derived.Test.YtjfnojijdggfhaaGreatLayB
import Derived.Deep.Slices
import Derived.Carry
import Derived.ProofKit
import Derived.OpenShut
import Derived.JoinedCond
set_option linter.all false
namespace Go.Proofs.YtjfnojijdggfhaaGreat.Abs
def within (n lo hi:Int):Bool:=decide (lo≤n)&&decide (n≤hi)
theorem within_iff {n lo hi:Int}:within n lo hi=true↔lo≤n∧n≤hi:=by simp [within]
theorem Uh {n lo hi:Int}:within n lo hi=false↔n < lo∨hi < n:=by
 rw [← Bool.not_eq_true,within_iff];omega
def wV (n:Nat) (f:Nat→Bool):Bool:=(List.range n).all f
theorem aX {n:Nat} {f:Nat→Bool}:wV n f=true↔∀i,i < n→f i=true:=by simp [wV]
theorem iI {n:Nat} {f:Nat→Bool} (k:Nat) (hk:k < n) (h:f k=false):wV n f=false:=by
 rw [← Bool.not_eq_true,aX];intro hh;rw [hh k hk] at h;cases h
theorem iC {f:Nat→Bool} {k:Nat} (h:∀i,i < k→f i=true) (hf:f k=true):∀i,i < k+1→f i=true:=by
 intro i hi
 by_cases e:i=k
 ·rw [e];exact hf
 ·exact h i (by omega)
def aO {α:Type} (p:α→Bool):List α→Nat→Int
 |[],_=> -1
 |x::l,k=>if p x=true then (k:Int) else aO p l (k+1)
theorem tu {α:Type} {p:α→Bool}:∀(l:List α) (k:Nat),decide (aO p l k≥0)=l.any p
 |[],k=>by simp [aO]
 |x::l,k=>by
  rw [aO]
  by_cases h:p x=true
  ·simp [h]
  ·rw [if_neg h,tu l (k+1)];simp [h]
def Io (s:ByteArray) (i:Nat):Int:=(s.data.toList.getD i 0).toNat
def nameAt (s:ByteArray) (i:Nat):Bool:=
 let c:=Io s i
 (decide (c≥97)&&decide (c≤122))||(!decide ((i:Int)=0)&& !decide (c < 48)&& !decide (c > 57))
def sj (s:ByteArray):Bool:=wV s.size (nameAt s)&&within s.size 1 8
def setAt (l:List Int) (i:Nat):Bool:=decide (i=0)||decide (l.getD (i - 1) 0 < l.getD i 0)
def nV (l:List Int):Bool:=wV l.length (setAt l)
def aH (n:Int):List Int:=if within n 0 200=true then (List.range n.toNat).map Int.ofNat else []
def dD (n:Int):Bool:=within n 0 60
def dQ (n:Int):Bool:=within n 0 20
def wW (l:List Step) (i:Nat):Bool:=
 match l[i]? with
 |some s=>dD s.at'&&dQ s.cap&&(!decide ((i:Int)=0)|| !decide (s.at'≠0))&&(!decide ((i:Int) > 0)||(match l[i - 1]? with|some q=> !decide (s.at'≤q.at')|none=>true))
 |none=>true
def iY (l:List Step):Bool:=wV l.length (wW l)&&within l.length 1 8
def mK (t:Int):List Step→Int→Int
 |[],n=>n
 |s::l,n=>mK t l (if s.at'≤t then s.cap else n)
def bf (l:List Int) (n:Int):Bool:=l.all dQ&&decide ((l.length:Int)=n)
def iN (m:Mode) (r s:Int):Bool:=within m.dur 1 12&&bf m.use r&&bf m.con s
def bC (a:aK) (r s:Int):Bool:=(a.modes.all fun m=>iN m r s)&&(sj a.name&&within a.fam 0 3&&within a.modes.length 1 3)
def rowOk (l:List Int):Bool:=decide ((l.length:Int)=4)&&l.all fun n=>within n 0 12
def jV (r:iy):Bool:=r.setup.all rowOk&&(iY r.steps&&(decide ((r.setup.length:Int)=0)||decide ((r.setup.length:Int)=4)))
def bg (p:Proj) (n:Int):Bool:=within n 0 (p.acts.length - 1)
def eZ (p:Proj) (n:Int):Bool:=within n 0 (p.bS.length - 1)
def jk (p:Proj) (n:Int):Bool:=within n 0 (p.bD.length - 1)
def wX (p:Proj) (name:ByteArray):Int:=aO (fun a=>decide (a.name=name)) p.acts 0
def jS (p:Proj) (k:Link):Bool:=bg p k.src&&bg p k.dst&& !decide (k.src=k.dst)&&within k.lag (-60) 60
def ru (p:Proj) (i:Nat):Bool:=
 match p.acts[i]? with
 |some a=>bC a p.bS.length p.bD.length&&decide (wX p a.name=i)
 |none=>true
def oM (p:Proj):Bool:=within p.dead 1 60&&within p.acts.length 1 6&& !decide ((p.bS.length:Int) > 3)&& !decide ((p.bD.length:Int) > 2)&& !decide ((p.links.length:Int) > 12)
def aL (p:Proj):Bool:=oM p&&wV p.acts.length (ru p)&&p.bS.all jV&&(p.bD.all fun n=>within n 0 100)&&p.links.all (jS p)
def jA (p:Proj) (l:Lit):Bool:=
 aL p&&bg p l.act&&(
  if l.kind=1∨l.kind=2 then within l.val (-1) 61
  else if l.kind=3∨l.kind=4 then (match p.acts[l.act.toNat]? with|some a=>within l.val 0 (a.modes.length - 1)|none=>false)
  else false)
def iJ:Lit:=⟨0,0,0⟩
def negate (l:Lit):Lit:=
 if within l.val (-100000) 100000=true then
  if l.kind=1 then⟨2,l.act,l.val - 1⟩ else if l.kind=2 then⟨1,l.act,l.val+1⟩
  else if l.kind=3 then⟨4,l.act,l.val⟩ else if l.kind=4 then⟨3,l.act,l.val⟩ else iJ
 else iJ
def Ip (x y:Int):Int:=if x < y then -1 else if x > y then 1 else 0
def orI:List Int→Int
 |[]=>0
 |x::l=>if x≠0 then x else orI l
def jD (a b:Lit):Int:=orI [Ip a.act b.act,Ip a.kind b.kind,Ip a.val b.val]
def bT (a b:Lit):Bool:=decide (a.kind=b.kind)&&(decide (a.act=b.act)&&decide (a.val=b.val))
theorem gG {a b:Lit}:bT a b=true↔a=b:=by
 cases a;cases b;simp [bT]
def clauseAt (p:Proj) (l:List Lit) (i:Nat):Bool:=
 match l[i]? with
 |some x=>jA p x&&(!decide ((i:Int) > 0)||(match l[i - 1]? with|some y=> !decide (jD y x≥0)|none=>true))
 |none=>true
def lu (p:Proj) (l:List Lit):Bool:=wV l.length (clauseAt p l)&&decide ((l.length:Int)≤24)
def mM (n:Int):Bool:=within n (-2) 62
def clamped (n:Int):Int:=min (max n (-2)) 62
def Zw:Dom:=⟨[],[],[]⟩
def lC (p:Proj):Dom:=⟨p.acts.map fun _=>0,p.acts.map fun _=>p.dead - 1,p.acts.map fun a=>aH a.modes.length⟩
def aW (p:Proj):Dom:=if aL p=true then lC p else Zw
def subset (a b:List Int):Bool:=a.all fun n=>b.contains n
def oQ (p:Proj) (b:Dom) (i:Nat):Bool:=
 match b.lo[i]?,b.hi[i]?,b.modes[i]?,p.acts[i]? with
 |some x,some y,some m,some a=>mM x&&mM y&&nV m&&subset m (aH a.modes.length)
 |_,_,_,_=>true
def ay (p:Proj) (b:Dom):Bool:=
 aL p&& !decide ((b.lo.length:Int)≠p.acts.length)&& !decide ((b.hi.length:Int)≠p.acts.length)&& !decide ((b.modes.length:Int)≠p.acts.length)&&wV p.acts.length (oQ p b)
def jW (b:Dom) (i:Nat):Bool:=
 match b.lo[i]?,b.hi[i]? with
 |some x,some y=>decide (x > y)
 |_,_=>false
def aR (b:Dom):Bool:=(List.range b.lo.length).any (jW b)||b.modes.any fun m=>decide ((m.length:Int)=0)
def fq (b:Dom) (a:Int):Bool:=decide (a≥0)&&decide (a < b.lo.length)&&decide (a < b.hi.length)&&decide (a < b.modes.length)
def restrict (b:Dom) (l:Lit):Dom:=
 if fq b l.act=true then
  let a:=l.act.toNat
  if l.kind=1 then { b with lo:=b.lo.set a (max (b.lo.getD a 0) (clamped l.val)) }
  else if l.kind=2 then { b with hi:=b.hi.set a (min (b.hi.getD a 0) (clamped l.val)) }
  else if l.kind=3 then { b with modes:=b.modes.set a ((b.modes.getD a []).filter fun n=>decide (n=clamped l.val)) }
  else if l.kind=4 then { b with modes:=b.modes.set a ((b.modes.getD a []).filter fun n=>decide (n≠clamped l.val)) }
  else b
 else b
def against (b:Dom) (l:List Lit):Dom:=l.foldl (fun b x=>restrict b (negate x)) b
def fu (p:Proj) (l:List Lit):Dom:=against (aW p) l
def valueOf (yes no:Bool):Int:=if yes=true then 1 else if no=true then -1 else 0
def litValue (b:Dom) (l:Lit):Int:=
 if fq b l.act=true then
  let a:=l.act.toNat
  let m:=b.modes.getD a []
  if l.kind=1 then valueOf (decide (b.lo.getD a 0≥l.val)) (decide (b.hi.getD a 0 < l.val))
  else if l.kind=2 then valueOf (decide (b.hi.getD a 0≤l.val)) (decide (b.lo.getD a 0 > l.val))
  else if l.kind=3 then valueOf (decide (m= [l.val])) (!m.contains l.val)
  else if l.kind=4 then valueOf (!m.contains l.val) (decide (m= [l.val]))
  else 1
 else 1
def iO (b:Dom):List Lit→Int→Lit→Int×Lit
 |[],n,x=>if n=0 then (-1,iJ) else if n=1 then (0,x) else (0,iJ)
 |l::r,n,x=>if litValue b l=1 then (1,iJ) else if litValue b l=0 then iO b r (n+1) l else iO b r n x
def status (b:Dom) (l:List Lit):Int×Lit:=iO b l 0 iJ
def bites (b:Dom) (l:List Lit):Bool:=decide ((status b l).1 < 0)||(decide ((status b l).1=0)&& !bT (status b l).2 iJ)
def gq (p:Proj) (r:Int):Bool:=eZ p r&&decide (((p.bS.getD r.toNat ⟨[],[]⟩).setup.length:Int) > 0)
def fT (p:Proj) (r:Rul):Bool:=
 aL p&&(
  if r.kind=1 then within r.a 0 (p.links.length - 1)&&decide (r.b=0)&&decide (r.c=0)
  else if r.kind=2 then bg p r.a&&decide (r.b=0)&&decide (r.c=0)
  else if r.kind=3 then eZ p r.a&&dD r.b&&decide (r.c=0)
  else if r.kind=4 then eZ p r.a&&dD r.b&&dD r.c&&decide (r.b < r.c)
  else if r.kind=5 then gq p r.a&&bg p r.b&&bg p r.c&&decide (r.b < r.c)
  else if r.kind=6 then jk p r.a&&decide (r.b=0)&&decide (r.c=0)
  else false)
def bQ (ms:List Int):List Mode→Nat→List Mode
 |[],_=>[]
 |m::r,k=>if ms.contains (k:Int)=true then m::bQ ms r (k+1) else bQ ms r (k+1)
def chosen (a:aK) (ms:List Int):List Mode:=bQ ms a.modes 0
def least:List Int→Int
 |[]=>0
 |x::r=>r.foldl min x
def sw (a:aK) (ms:List Int):Int:=least ((chosen a ms).map Mode.dur)
def leastOf (l:List Mode) (f:Mode→Option Int):Int:=if l.all (fun m=>(f m).isSome)=true then least (l.map fun m=>(f m).getD 0) else 0
def dM (l:List Int) (i:Int):Option Int:=if within i 0 (l.length - 1)=true then some (l.getD i.toNat 0) else none
def iA (a:aK) (ms:List Int) (r:Int):Int:=leastOf (chosen a ms) fun m=>dM m.use r
def uR (a:aK) (ms:List Int) (r:Int):Int:=leastOf (chosen a ms) fun m=>dM m.con r
def aV (p:Proj) (a:Nat):aK:=p.acts.getD a ⟨⟨#[]⟩,0,[]⟩
def lD (p:Proj) (b:Dom) (a:Nat):Int:=sw (aV p a) (b.modes.getD a [])
def sumTo (f:Nat→Int):Nat→Int
 |0=>0
 |n+1=>sumTo f n+f n
def wY (p:Proj) (b:Dom) (r t:Int) (a:Nat):Int:=
 if b.hi.getD a 0≤t∧t < b.lo.getD a 0+lD p b a then iA (aV p a) (b.modes.getD a []) r else 0
def Gz (p:Proj) (b:Dom) (r t:Int):Int:=sumTo (wY p b r t) p.acts.length
def fits (n:Int):Bool:=within n (-100000) 100000
def overlap (s d x y:Int):Int:=
 if fits s=true∧fits d=true∧fits x=true∧fits y=true then (if d < 1 then 0 else max (min (s+d) y - max s x) 0) else 0
def vR (p:Proj) (r:Int):iy:=p.bS.getD r.toNat ⟨[],[]⟩
def jL (p:Proj) (b:Dom) (a:Nat) (r x y i:Int):Int:=
 let m:=(aV p a).modes.getD i.toNat ⟨0,[],[]⟩
 min (overlap (b.lo.getD a 0) m.dur x y) (overlap (b.hi.getD a 0) m.dur x y)*m.use.getD r.toNat 0
def oN (p:Proj) (b:Dom) (r x y:Int) (a:Nat):Int:=least ((b.modes.getD a []).map (jL p b a r x y))
def pQ (p:Proj) (b:Dom) (r x y:Int):Int:=sumTo (oN p b r x y) p.acts.length
def sD (l:List Step) (x:Int):Nat→Int
 |0=>0
 |n+1=>sD l x n+mK (x+n) l 0
def tC (l:List Step) (x y:Int):Int:=if iY l=true∧dD x=true∧dD y=true then sD l x (y - x).toNat else 0
def GA (p:Proj) (r a o:Int):Int:=(((vR p r).setup.getD (aV p a.toNat).fam.toNat []).getD (aV p o.toNat).fam.toNat 0)
def lK (p:Proj) (b:Dom) (r a o:Int):Int:=b.lo.getD a.toNat 0+lD p b a.toNat+GA p r a o
def jam (p:Proj) (b:Dom) (r a o:Int):Bool:=
 decide (iA (aV p a.toNat) (b.modes.getD a.toNat []) r > 0)&&decide (iA (aV p o.toNat) (b.modes.getD o.toNat []) r > 0)&&
  decide (lK p b r a o > b.hi.getD o.toNat 0)&&decide (lK p b r o a > b.hi.getD a.toNat 0)
def gu (p:Proj) (k:Int):Link:=p.links.getD k.toNat ⟨0,0,false,0⟩
def tF (p:Proj) (b:Dom) (k:Link):Bool:=
 decide (b.lo.getD k.src.toNat 0+(if k.MG=true then lD p b k.src.toNat else 0)+k.lag > b.hi.getD k.dst.toNat 0)
def Iq (p:Proj) (b:Dom) (k:Int) (a:Nat):Int:=uR (aV p a) (b.modes.getD a []) k
def qy (p:Proj) (b:Dom) (k:Int):Bool:=decide (sumTo (Iq p b k) p.acts.length > p.bD.getD k.toNat 0)
def fails (p:Proj) (b:Dom) (r:Rul):Bool:=
 if r.kind=1 then tF p b (gu p r.a)
 else if r.kind=2 then decide (b.lo.getD r.a.toNat 0+lD p b r.a.toNat > p.dead)
 else if r.kind=3 then decide (Gz p b r.a r.b > mK r.b (vR p r.a).steps 0)
 else if r.kind=4 then decide (pQ p b r.a r.b r.c > tC (vR p r.a).steps r.b r.c)
 else if r.kind=5 then jam p b r.a r.b r.c
 else qy p b r.a
def refutes (p:Proj) (b:Dom) (r:Rul):Bool:=ay p b&&(aR b||(fT p r&&fails p b r))
def follows (p:Proj) (r:Rul) (l:List Lit):Bool:=lu p l&&refutes p (fu p l) r
def Yo (list:List (List Lit)) (b:Dom):(Dom×Bool) ⊕ Dom:=
 if aR b=true then .inl (b,true) else
 match list.find? (bites b) with
 |none=>.inl (b,false)
 |some l=>if (status b l).1 < 0 then .inl (b,true) else .inr (restrict b (status b l).2)
def XA (list:List (List Lit)):Nat→Dom→Dom×Bool
 |0,b=>(b,false)
 |n+1,b=>match Yo list b with
  | .inl r=>r
  | .inr b'=>XA list n b'
def VF (b:Dom):Nat:=(b.lo.map fun n=>(62 - n).toNat).sum+(b.hi.map fun n=>(n+2).toNat).sum+(b.modes.map List.length).sum
def VG (p:Proj) (list:List (List Lit)) (b:Dom):Dom×Bool:=if ay p b=true then XA list (VF b+1) b else (b,false)
def WT (l:Lin):Bool:=decide (l.kind=1)||(decide (l.kind=2)&&(decide (l.rule.kind=0)&&(decide (l.rule.a=0)&&(decide (l.rule.b=0)&&decide (l.rule.c=0)))))
def Yp (p:Proj) (l:Lin):Bool:=lu p l.clause&&WT l
def yC (p:Proj) (ahead:List Lin) (l:Lin):Int:=
 if aL p=true∧Yp p l=true∧(ahead.length:Int) < 300 then
  if l.kind=1 then (if follows p l.rule l.clause=true then 0 else 2)
  else (if (VG p (ahead.map Lin.clause) (fu p l.clause)).2=true then 0 else 3)
 else 1
def upTo (k:Nat):List Int:=(List.range k).map Int.ofNat
theorem BJ (k:Nat):(upTo k).length=k:=by simp [upTo]
def lim:Nat:=274877906944
structure Gs (G G':Prop):Prop where
 h:G'→G
theorem Gs.ff {X:Bool→Prop}:Gs (Br false X) (X false):=⟨Br.ff⟩
theorem Gs.tt {X:Bool→Prop}:Gs (Br true X) (X true):=⟨Br.tt⟩
theorem Gs.not {b:Bool} {X:Bool→Prop}:Gs (Br (!b) X) (Br b fun t=>X (!t)):=⟨Br.not⟩
theorem Gs.yes {b:Bool} {X:Bool→Prop} (h:b=true):Gs (Br b X) (X true):=⟨Br.yes h⟩
theorem Gs.no {b:Bool} {X:Bool→Prop} (h:b=false):Gs (Br b X) (X false):=⟨Br.no h⟩
theorem Gs.ar {r:Int} {K:Int→Prop} (h: -9223372036854775808≤r∧r≤9223372036854775807):Gs (Arith .i64 r K) (K r):=⟨Arith.ok h⟩
theorem Gs.vc {p K:Prop} (h:p):Gs (VC p K) K:=⟨fun k=>⟨h,k⟩⟩
theorem Gs.od {ops:List Oper} {fp:List RW} {K:Prop} (h:Ay ops fp=true):Gs (Yi ops fp K) K:=⟨fun k=>⟨h,k⟩⟩
theorem Gs.one {a L:Nat} {z:List ZC} {x:AV} {K:Prop} (hx:bO z x.cells=true) (h:a+1≤L):Gs (VC (a+ [x].length≤L∧∀y∈[x],bO z y.cells=true) K) K:=⟨VC.one h hx⟩
theorem Gs.all {α:Type} {a L:Nat} {z:List ZC} {l:List α} {f:α→AV} {K:Prop} (hx:∀x,bO z (f x).cells=true) (h:a+l.length≤L):Gs (VC (a+(l.map f).length≤L∧∀y∈l.map f,bO z y.cells=true) K) K:=⟨VC.all h hx⟩
theorem Gs.Yj {L:Nat} {z:List ZC} {x:AV} {K:Prop} (hx:bO z x.cells=true) (h:1≤L):Gs (VC ([x].length≤L∧∀y∈[x],bO z y.cells=true) K) K:=⟨VC.Yj h hx⟩
theorem Gs.Yk {α:Type} {L:Nat} {z:List ZC} {l:List α} {f:α→AV} {K:Prop} (hx:∀x,bO z (f x).cells=true) (h:l.length≤L):Gs (VC ((l.map f).length≤L∧∀y∈l.map f,bO z y.cells=true) K) K:=⟨VC.Yk h hx⟩
theorem Gs.cut {α:Type} {f:α→AV} {l:List α} {a n m:Int} {k:Nat} {K:Prop} (h:n=m) (hx:∀x,(f x).cells.length=k):Gs (VC (n=m∧(a=0∨∀x,(l.map f).head? =some x→x.cells.length=k)) K) K:=⟨VC.cut h hx⟩
theorem Gs.at {α:Type} {l:List α} {f:α→AV} {k:Nat} {K:Nat→AV→Prop} (h:k < l.length):Gs (Idx (l.map f) (k:Int) K) (∀x,l[k]? =some x→K k (f x)):=⟨Idx.at h⟩
theorem Gs.of {α:Type} {l:List α} {f:α→AV} {i:Int} {K:Nat→AV→Prop} (h:0≤i∧i < l.length):Gs (Idx (l.map f) i K) (∀(j:Nat) (x:α),i=j→l[j]? =some x→K j (f x)):=⟨Idx.of_map h⟩
inductive VH (P:Program) (T:Nat→Ty) (L f:Nat) (args:List AR) (K:RV→Prop):Prop
 |mk (r:RV) (h:Contract P T L f args r) (k:K r)
section
variable {P:Program} {T:Nat→Ty} {L f:Nat} {args:List AR} {K:RV→Prop} {r:RV}
theorem gC (h:Contract P T L f args r) (k:K r):VH P T L f args K:=⟨r,h,k⟩
theorem Gs.k:Gs (jK P T L f args K) (VH P T L f args fun r=>r.wf L→K r):=⟨fun⟨r,h,k⟩=>⟨r,h,k⟩⟩
theorem Gs.d:Gs (OJ (jK P T L) f args K) (VH P T L f args K):=⟨fun⟨r,h,k⟩=>⟨r,fun _ hk=>⟨r,h,fun _=>hk⟩,k⟩⟩
end
theorem gA {G G':Prop} (k:G') (s:Gs G G':=by
 with_reducible first|exact Gs.ff|exact Gs.tt|exact Gs.not|exact Gs.yes (by assumption)|exact Gs.no (by assumption)|exact Gs.ar (by first|omega|(simp only [lm];omega))|exact Gs.k|exact Gs.d|exact Gs.od (by kernel_rfl)|exact Gs.no (decide_eq_false (by decide))|exact Gs.yes (decide_eq_true (by decide))|exact Gs.yes (decide_eq_true rfl)):G:=s.h k
theorem gP {G G':Prop} (k:G') (s:Gs G G':=by
 (first|refine Gs.one rfl ?_|refine Gs.Yj rfl ?_|refine Gs.all (fun _=>rfl) ?_|refine Gs.Yk (fun _=>rfl) ?_);focus ((try dsimp only);unfold lim;first|omega|(simp only [lens,jU,BJ] at*;omega))):G:=s.h k
theorem gQ {G G':Prop} (k:G') (s:Gs G G':=by
 exact Gs.vc ⟨by (try dsimp only);unfold lim;first|omega|(simp only [lens,jU,BJ] at*;omega),fun x hx=>by obtain⟨y,_,rfl⟩:=List.mem_map.1 (Pz hx);rfl⟩):G:=s.h k
theorem gV {G G':Prop} (k:G') (s:Gs G G':=by exact Gs.vc (by first|omega|(simp only [lm];omega))):G:=s.h k
theorem gK {G G':Prop} (k:G') (s:Gs G G':=by first|exact Gs.cut rfl (fun _=>rfl)|exact Gs.vc ⟨rfl,.inl rfl⟩):G:=s.h k
structure Wn (p q:Prop):Prop where
 h:p→q
theorem Wn.y {n lo hi:Int}:Wn (within n lo hi=true) (lo≤n∧n≤hi):=⟨within_iff.1⟩
theorem Wn.n {n lo hi:Int}:Wn (within n lo hi=false) (n < lo∨hi < n):=⟨Uh.1⟩
structure Sm (p q:Prop):Prop where
 h:p→q
structure Gs2 (G A B:Prop):Prop where
 h:A→B→G
theorem Gs2.d {p q r:Prop} {i:Decidable p} {X:Bool→Prop} (h:Sm p q) (h':Sm (¬ p) r):Gs2 (Br (decide p) X) (q→X true) (r→X false):=⟨fun a b=>Br.dec (fun x=>a (h.h x)) fun x=>b (h'.h x)⟩
theorem Gs2.e {b:Bool} {q r q' r':Prop} {X:Bool→Prop} (h:Sm (b=true) q) (h':Sm (b=false) r) (k:Wn q q') (k':Wn r r'):Gs2 (Br b X) (q→q'→X true) (r→r'→X false):=⟨fun c d=>⟨fun x=>c (h.h x) (k.h (h.h x)),fun x=>d (h'.h x) (k'.h (h'.h x))⟩⟩
theorem Gs2.f {b:Bool} {q r:Prop} {X:Bool→Prop} (h:Sm (b=true) q) (h':Sm (b=false) r):Gs2 (Br b X) (q→X true) (r→X false):=⟨fun c d=>⟨fun x=>c (h.h x),fun x=>d (h'.h x)⟩⟩
theorem gB {G A B:Prop} (a:A) (b:B) (s:Gs2 G A B:=by
 (with_reducible first|apply Gs2.d|apply Gs2.f)<;>(apply Sm.mk;intro h;(try simp only [lm] at h);exact h)):G:=s.h a b
theorem gN {G A B:Prop} (a:A) (b:B) (s:Gs2 G A B:=by
 (with_reducible apply Gs2.e)<;>first|exact Wn.y|exact Wn.n|(apply Sm.mk;intro h;(try simp only [lm] at h);exact h)):G:=s.h a b
theorem gI {G A:Prop} (k:A) (s:Gs G A:=by with_reducible refine Gs.at ?_;(first|omega|(simp only [lm] at*;omega))):G:=s.h k
theorem gJ {G A:Prop} (k:A) (s:Gs G A:=by with_reducible refine Gs.of ?_;(first|omega|(simp only [lm] at*;omega))):G:=s.h k
theorem fv {G:Prop} (h:G:=by first|((repeat' ((conv=>whnf)<;>(first|exact trivial|exact VC.nod (by kernel_rfl)|refine VC.mk rfl ?_)));done)|fail):G:=h
theorem nx {ι:Type} {inv:ι→Prop} {W:ι→Prop} {n m y:Nat} {μ:ι→Nat} (x:ι) (i:inv x) (e:n=m:=by exact rfl) (w:W x:=by first|((repeat' ((conv=>whnf)<;>(first|exact trivial|exact rfl|with_reducible refine And.intro ?_ ?_)));done)|fail)
  (h:μ x < y:=by (try dsimp only);(try simp only [List.length_map]);omega):∃x,inv x∧n=m∧W x∧μ x < y:=⟨x,i,e,w,h⟩
theorem nw {ι:Type} {inv:ι→Prop} {W:ι→Prop} {n m y:Nat} {μ:ι→Nat} (x:ι) (w:W x) (i:inv x) (e:n=m:=by exact rfl)
  (h:μ x < y:=by (try dsimp only);(try simp only [List.length_map]);omega):∃x,inv x∧n=m∧W x∧μ x < y:=⟨x,i,e,w,h⟩
theorem aA.go {T:Nat→Ty} {body:(AX→St→Prop)→St→Prop} {n:Nat} {Q:AX→St→Prop} {s:St} {ks:List (Nat×SV)} {ms:List (Nat×List SV)} {ts:List (Nat×Nat×List AV×Nat)}
  (ι:Type) (inv:ι→Prop) (cs:ι→List (Nat×SV)) (cm:ι→List (Nat×List SV)) (ct:ι→List (Nat×Nat×List AV×Nat)) (μ:ι→Nat) (x₀:ι) (i₀:inv x₀)
  (hr:∀x,inv x→body (AX.then (fun s'=>∃x',inv x'∧s'.n=n∧Weak T s' ⟨cs x'++ks,cm x'++ms,ct x'++ts⟩∧μ x' < μ x) Q) ((Fr.mk (cs x++ks) (cm x++ms) (ct x++ts)).st n))
  (h₀:Weak T s ⟨cs x₀++ks,cm x₀++ms,ct x₀++ts⟩:=by first|((repeat' ((conv=>whnf)<;>(first|exact trivial|exact rfl|with_reducible refine And.intro ?_ ?_)));done)|fail):aA T body n Q s ks ms ts:=⟨ι,inv,cs,cm,ct,μ,x₀,i₀,h₀,hr⟩
theorem Ui {b:Dom} {a:Int} (h:fq b a=true):∃n:Nat,a=n∧a.toNat=n∧n < b.lo.length∧n < b.hi.length∧n < b.modes.length:=by
 simp only [fq,Bool.and_eq_true,decide_eq_true_eq] at h
 exact⟨a.toNat,by omega,rfl,by omega,by omega,by omega⟩
theorem Ru (n:Int): -2≤clamped n∧clamped n≤62:=by unfold clamped;omega
structure Lg where
 proj:Proj
 dom:Dom
 decs:List Lit
 lines:List Lin
abbrev Lg.av (x:Lg):AV:=.agg [i64 x.proj.dead,.sl (x.proj.acts.map aK.av),.sl (x.proj.links.map Link.av),.sl (x.proj.bS.map iy.av),ints x.proj.bD,ints x.dom.lo,ints x.dom.hi,.sl (x.dom.modes.map ints),lits x.decs,.sl (x.lines.map Lin.av)]
def PD (a b:Dom) (i:Nat):Bool:=
 match a.lo[i]?,b.lo[i]?,a.hi[i]?,b.hi[i]?,a.modes[i]?,b.modes[i]? with
 |some x,some x',some y,some y',some m,some m'=> !decide (x < x')&&(!decide (y > y')&&subset m m')
 |_,_,_,_,_,_=>true
def wZ (a b:Dom):List Int:=[a.hi.length,a.modes.length,b.lo.length,b.hi.length,b.modes.length]
def tH (a b:Dom):Bool:=(wZ a b).all fun n=>decide (n=a.lo.length)
def kP (a b:Dom):Bool:=tH a b&&wV a.lo.length (PD a b)
def uS (p:Proj) (s:aM) (i:Nat):Bool:=
 match s.starts[i]?,s.modes[i]?,p.acts[i]? with
 |some t,some m,some a=>dD t&&within m 0 (a.modes.length - 1)
 |_,_,_=>true
def bn (p:Proj) (s:aM):Bool:=
 aL p&& !decide ((s.starts.length:Int)≠p.acts.length)&& !decide ((s.modes.length:Int)≠p.acts.length)&&wV p.acts.length (uS p s)
def dZ (p:Proj) (s:aM) (k:Nat):Mode:=(aV p k).modes.getD (s.modes.getD k 0).toNat ⟨0,[],[]⟩
def mO (p:Proj) (s:aM) (k:Nat):Int:=s.starts.getD k 0+(dZ p s k).dur
def runs (p:Proj) (s:aM) (t:Int) (k:Nat):Bool:=decide (s.starts.getD k 0≤t)&&decide (mO p s k > t)
def BM (p:Proj) (s:aM) (r t:Int) (k:Nat):Int:=if runs p s t k=true then (dZ p s k).use.getD r.toNat 0 else 0
def yD (p:Proj) (s:aM) (r t:Int):Int:=sumTo (BM p s r t) p.acts.length
def Ir (p:Proj) (s:aM) (r:Int) (k:Nat):Int:=(dZ p s k).con.getD r.toNat 0
def Iu (p:Proj) (s:aM) (r:Int):Int:=sumTo (Ir p s r) p.acts.length
def kg (k:Nat):Rul:=⟨1,k,0,0⟩
def endRule (k:Nat):Rul:=⟨2,k,0,0⟩
def lF (r t:Nat):Rul:=⟨3,r,t,0⟩
def lH (r b c:Nat):Rul:=⟨5,r,b,c⟩
def jm (k:Nat):Rul:=⟨6,k,0,0⟩
def mP (r:Nat):List Rul:=(List.range 61).map (lF r)
def fA (p:Proj) (r b:Nat):List Rul:=if gq p r=true then (List.range (p.acts.length - (b+1))).map fun j=>lH r b (b+1+j) else []
def bA (p:Proj):List Rul:=
 (List.range p.links.length).map kg++(List.range p.acts.length).map endRule++(List.range p.bS.length).flatMap mP++
  (List.range p.bS.length).flatMap (fun r=>(List.range p.acts.length).flatMap (fA p r))++(List.range p.bD.length).map jm
def BZ (p:Proj) (s:aM) (r a o:Int):Bool:=decide (mO p s a.toNat+GA p r a o≤s.starts.getD o.toNat 0)
def tJ (p:Proj) (s:aM) (r b c:Int):Bool:=
 !decide ((dZ p s b.toNat).use.getD r.toNat 0=0)&& !decide ((dZ p s c.toNat).use.getD r.toNat 0=0)&& !BZ p s r b c&& !BZ p s r c b
def qz (p:Proj) (s:aM) (k:Link):Bool:=decide (s.starts.getD k.dst.toNat 0 < (if k.MG=true then mO p s k.src.toNat else s.starts.getD k.src.toNat 0)+k.lag)
def breaks (p:Proj) (s:aM) (r:Rul):Bool:=
 if r.kind=1 then qz p s (gu p r.a)
 else if r.kind=2 then decide (mO p s r.a.toNat > p.dead)
 else if r.kind=3 then decide (yD p s r.a r.b > mK r.b (vR p r.a).steps 0)
 else if r.kind=5 then tJ p s r.a r.b r.c
 else decide (Iu p s r.a > p.bD.getD r.a.toNat 0)
def nW (p:Proj) (s:aM):List Rul:=if bn p s=true then (bA p).filter (breaks p s) else []
def dN (p:Proj) (s:aM):Bool:=bn p s&&decide (((nW p s).length:Int)=0)
structure Res where
 status:Int
 sched:aM
 span:Int
 low:Int
 proof:List Lin
 visits:Int
abbrev Res.av (x:Res):AV:=.agg [i64 x.status,ints x.sched.starts,ints x.sched.modes,i64 x.span,i64 x.low,.sl (x.proof.map Lin.av),i64 x.visits]
def PE (p:Proj) (t:Int):Proj:={ p with dead:=t }
structure Cur where
 b:List Int
 i:Int
 h:Int
abbrev u8s (l:List Int):AV:=.sl (l.map (AV.int .u8))
abbrev Cur.avs (c:Cur):List AV:=[u8s c.b,i64 c.i,i64 c.h]
abbrev Cur.cells (c:Cur):List SV:=[.data (u8s c.b),.data (i64 c.i),.data (i64 c.h)]
abbrev Cur.rvs (c:Cur):List RV:=[.d (u8s c.b),.d (i64 c.i),.d (i64 c.h)]
def RDr (r:RV) (c:Cur):RV:=.eff 0 r c.rvs
def w64 (n:Int):Int:=IntKind.i64.wrap n
def Rv (x y:Int):Int:=IntKind.i64.wrap (BitVec.ofInt IntKind.i64.bits x&&& BitVec.ofInt IntKind.i64.bits y).toNat
def aaz (x y:Int):Int:=IntKind.i64.wrap (BitVec.ofInt IntKind.i64.bits x ^^^ BitVec.ofInt IntKind.i64.bits y).toNat
def tK (h x:Int):Int:=Rv (w64 (w64 (w64 (h*59)+w64 x)+7)) 1073741823
def Rw (l:List Int):Int:=(l.take 4000).foldl tK (1950+l.length)
def sF (code:List Int):Cur:=⟨code,0,Rw code⟩
def Nq (c:Cur) (n:Int):Cur:=⟨c.b,c.i,w64 (c.h+n)⟩
def rz (h:Int):Int:=w64 (w64 (h*6364136223846793005)+1442695040888963407)
def Nr (h:Int):Int:=Rv (aaz (h.fdiv (2 ^ 33)) (h.fdiv (2 ^ 45))) 255
def byteOf (c:Cur):Int×Cur:=
 if c.i < c.b.length then (Rv (w64 (Nr (rz c.h)+w64 (c.b.getD c.i.toNat 0))) 255,⟨c.b,c.i+1,rz c.h⟩) else (Nr (rz c.h),⟨c.b,c.i,rz c.h⟩)
def below (c:Cur) (n:Int):Int×Cur:=if n≤0 then (0,c) else ((byteOf c).1.tmod n,(byteOf c).2)
theorem PG (x:Int):0≤Rv x 255∧Rv x 255≤255:=by
 unfold Rv
 have h:(BitVec.ofInt IntKind.i64.bits x&&& BitVec.ofInt IntKind.i64.bits 255).toNat≤255:=by
  rw [BitVec.toNat_and]
  exact Nat.le_trans Nat.and_le_right (by decide)
 generalize (BitVec.ofInt IntKind.i64.bits x&&& BitVec.ofInt IntKind.i64.bits 255).toNat=m at h
 have:IntKind.i64.wrap (m:Int)=m:=by
  have hm:m=0∨1≤m:=by omega
  simp only [IntKind.wrap,IntKind.signed,IntKind.bits]
  simp
  try omega
 rw [this];omega
def Cur.ok (c:Cur):Prop:=0≤c.i∧c.i≤c.b.length
theorem tL (code:List Int):(sF code).ok:=by unfold Cur.ok sF;dsimp only;omega
theorem Iw {c:Cur} (h:c.ok) (n:Int):(Nq c n).ok:=h
theorem Iy (c:Cur):0≤(byteOf c).1∧(byteOf c).1≤255:=by
 unfold byteOf
 split
 ·exact PG _
 ·exact PG _
theorem Uj {c:Cur} (h:c.ok):(byteOf c).2.ok:=by
 unfold byteOf Cur.ok at*
 split
 ·dsimp only;omega
 ·exact h
theorem cO {c:Cur} (h:c.ok) (n:Int):(below c n).2.ok:=by
 unfold below;split
 ·exact h
 ·exact Uj h
theorem kQ (c:Cur) (n:Int):0≤(below c n).1∧(0 < n→(below c n).1 < n):=by
 unfold below;split
 ·exact⟨Int.le_refl _,fun h=>by omega⟩
 ·have h1:=Iy c
  dsimp only
  rw [Int.tmod_eq_emod_of_nonneg h1.1]
  exact⟨Int.emod_nonneg _ (by omega),fun h=>Int.emod_lt_of_pos _ h⟩
theorem aD {c:Cur} (h:c.ok) (n:Int):∃x d,below c n=(x,d)∧d.ok∧0≤x∧(0 < n→x < n):=⟨_,_,rfl,cO h n,(kQ c n).1,(kQ c n).2⟩
def itN {α:Type} (f:α→Cur→α×Cur):Nat→α→Cur→α×Cur
 |0,x,c=>(x,c)
 |n+1,x,c=>f (itN f n x c).1 (itN f n x c).2
theorem jE {α:Type} {f:α→Cur→α×Cur} (P:Nat→α→Prop) (hf:∀k x c,c.ok→P k x→P (k+1) (f x c).1∧(f x c).2.ok):∀(n:Nat) (x:α) (c:Cur),c.ok→P 0 x→P n (itN f n x c).1∧(itN f n x c).2.ok
 |0,x,c,hc,h=>⟨h,hc⟩
 |n+1,x,c,hc,h=>by
  obtain⟨h1,h2⟩:=jE P hf n x c hc h
  exact hf n _ _ h2 h1
def dO (l:List Step) (c:Cur):List Step×Cur:=
 (l++[⟨(l.getD (l.length - 1) ⟨0,0⟩).at'+1+(below c 9).1,(below (below c 9).2 5).1⟩],(below (below c 9).2 5).2)
def kR (c:Cur):List Step×Cur:=
 itN dO ((below (below c 4).2 6).1 / 2).toNat [⟨0,1+(below c 4).1⟩] (below (below c 4).2 6).2
structure Ca (k:Nat) (l:List Step):Prop where
 len:l.length=k+1
 ok:∀i,i < l.length→∃s,l[i]? =some s∧0≤s.at'∧s.at'≤9*i∧0≤s.cap∧s.cap≤5∧(i=0→s.at'=0)∧(i≠0→∃q,l[i - 1]? =some q∧q.at' < s.at')
theorem zf {k:Nat} {l:List Step} {c:Cur} (hc:c.ok) (h:Ca k l):Ca (k+1) (dO l c).1∧(dO l c).2.ok:=by
 obtain⟨x,d,e1,h1,h2,h3⟩:=aD hc 9
 obtain⟨y,e,e2,h4,h5,h6⟩:=aD h1 5
 have h3:=h3 (by decide)
 have h6:=h6 (by decide)
 unfold dO
 rw [e1];dsimp only;rw [e2];dsimp only
 refine⟨⟨by simp [h.len],fun i hi=>?_⟩,h4⟩
 have hl:=h.len
 have hla:l.length - 1 < l.length:=by omega
 obtain⟨q,g1,g2,g3,_⟩:=h.ok (l.length - 1) hla
 have eq:(l.getD (l.length - 1) ⟨0,0⟩)=q:=by rw [List.getD_eq_getElem?_getD,g1];rfl
 rw [eq]
 by_cases hlt:i < l.length
 ·obtain⟨s,k1,k2⟩:=h.ok i hlt
  refine⟨s,by rw [List.getElem?_append_left hlt];exact k1,k2.1,k2.2.1,k2.2.2.1,k2.2.2.2.1,k2.2.2.2.2.1,fun hn=>?_⟩
  obtain⟨q',m1,m2⟩:=k2.2.2.2.2.2 hn
  exact⟨q',by rw [List.getElem?_append_left (by omega)];exact m1,m2⟩
 ·have ei:i=l.length:=by simp at hi;omega
  subst ei
  refine⟨⟨q.at'+1+x,y⟩,by rw [List.getElem?_append_right (Nat.le_refl _)];simp,by dsimp only;omega,by dsimp only;omega,h5,by dsimp only;omega,fun h0=>by omega,fun _=>⟨q,by rw [List.getElem?_append_left (by omega)];exact g1,by dsimp only;omega⟩⟩
theorem Cb {c:Cur} (hc:c.ok):iY (kR c).1=true∧(kR c).2.ok:=by
 obtain⟨x,d,e1,h1,h2,h3⟩:=aD hc 4
 obtain⟨y,e,e2,h4,h5,h6⟩:=aD h1 6
 have h3:=h3 (by decide)
 have h6:=h6 (by decide)
 unfold kR
 rw [e1];dsimp only;rw [e2];dsimp only
 obtain⟨g1,g2⟩:=jE (f:=dO) Ca (fun k l c hc h=>zf hc h) (y / 2).toNat [⟨0,1+x⟩] e h4 ⟨rfl,fun i hi=>by
  obtain rfl:i=0:=by simp at hi;omega
  exact⟨_,rfl,by dsimp only;omega,by dsimp only;omega,by dsimp only;omega,by dsimp only;omega,fun _=>rfl,fun h=>(h rfl).elim⟩⟩
 refine⟨?_,g2⟩
 generalize (itN dO (y / 2).toNat [⟨0,1+x⟩] e).1=l at g1
 have hl:=g1.len
 have hy:(y / 2).toNat≤2:=by omega
 simp only [iY,Bool.and_eq_true,aX]
 refine⟨fun i hi=>?_,within_iff.2 (by omega)⟩
 obtain⟨s,k1,k2,k3,k4,k5,k6,k7⟩:=g1.ok i hi
 unfold wW
 rw [k1]
 simp only [Bool.and_eq_true,Bool.or_eq_true,Bool.not_eq_true',decide_eq_false_iff_not,dD,dQ,within_iff]
 refine⟨⟨⟨by omega,by omega⟩,?_⟩,?_⟩
 ·by_cases h0:i=0
  ·have:=k6 h0;exact .inr (by simp;omega)
  ·exact .inl (by omega)
 ·by_cases h0:i=0
  ·exact .inl (by omega)
  ·obtain⟨q,m1,m2⟩:=k7 h0
   right;rw [m1];simp;omega
def iD (i k:Nat) (c:Cur):Int×Cur:=if i=k then (0,c) else below c 3
def ku (i:Nat):Nat→Cur→List Int×Cur
 |0,c=>([],c)
 |k+1,c=>((ku i k c).1++[(iD i k (ku i k c).2).1],(iD i k (ku i k c).2).2)
def eO:Nat→Cur→List (List Int)×Cur
 |0,c=>([],c)
 |i+1,c=>((eO i c).1++[(ku i 4 (eO i c).2).1],(ku i 4 (eO i c).2).2)
theorem Ns (i k:Nat) {c:Cur} (h:c.ok):(0≤(iD i k c).1∧(iD i k c).1≤2)∧(iD i k c).2.ok:=by
 unfold iD
 split
 ·exact⟨⟨Int.le_refl _,by dsimp only;omega⟩,h⟩
 ·have:=kQ c 3;exact⟨⟨this.1,by have:=this.2 (by decide);omega⟩,cO h 3⟩
theorem Iz (i:Nat) {c:Cur} (h:c.ok):∀k:Nat,(ku i k c).1.length=k∧(∀x∈(ku i k c).1,0≤x∧x≤2)∧(ku i k c).2.ok
 |0=>⟨rfl,by simp [ku],h⟩
 |k+1=>by
  obtain⟨h1,h2,h3⟩:=Iz i h k
  obtain⟨g1,g2⟩:=Ns i k h3
  refine⟨by simp [ku,h1],fun x hx=>?_,g2⟩
  simp only [ku,List.mem_append,List.mem_singleton] at hx
  rcases hx with hx|rfl
  ·exact h2 x hx
  ·exact g1
theorem zX {c:Cur} (h:c.ok):∀k:Nat,(eO k c).1.length=k∧(∀x∈(eO k c).1,rowOk x=true)∧(eO k c).2.ok
 |0=>⟨rfl,by simp [eO],h⟩
 |k+1=>by
  obtain⟨h1,h2,h3⟩:=zX h k
  obtain⟨g1,g2,g3⟩:=Iz k h3 4
  refine⟨by simp [eO,h1],fun x hx=>?_,g3⟩
  simp only [eO,List.mem_append,List.mem_singleton] at hx
  rcases hx with hx|rfl
  ·exact h2 x hx
  ·simp only [rowOk,Bool.and_eq_true,decide_eq_true_eq,List.all_eq_true,within_iff]
   exact⟨by rw [g1];rfl,fun x hx=>by have:=g2 x hx;omega⟩
def Rx:List ByteArray:=[⟨#[97]⟩,⟨#[98]⟩,⟨#[99]⟩,⟨#[100]⟩,⟨#[101,49]⟩,⟨#[102]⟩]
def nameOf (i:Nat):ByteArray:=Rx.getD (i % 6) ⟨#[]⟩
def bJ (l:List Int) (c:Cur):List Int×Cur:=(l++[(below c 3).1],(below c 3).2)
def drawMode (r s:Nat) (c:Cur):Mode×Cur:=
 let d:=below c 4
 let u:=itN bJ r [] d.2
 let v:=itN bJ s [] u.2
 (⟨1+d.1,u.1,v.1⟩,v.2)
def dP (r s:Nat) (l:List Mode) (c:Cur):List Mode×Cur:=(l++[(drawMode r s c).1],(drawMode r s c).2)
def kS (i r s:Nat) (c:Cur):aK×Cur:=
 let f:=below c 2
 let k:=below f.2 4
 let m:=itN (dP r s) (1+k.1 / 2).toNat [] k.2
 (⟨nameOf i,f.1,m.1⟩,m.2)
theorem GD (n:Nat) {c:Cur} (h:c.ok):bf (itN bJ n [] c).1 n=true∧(itN bJ n [] c).1.length=n∧(itN bJ n [] c).2.ok:=by
 obtain⟨⟨h1,h2⟩,h3⟩:=jE (f:=bJ) (fun k l=>l.length=k∧∀x∈l,0≤x∧x≤2) (fun k l c hc h=>by
  have hb:=kQ c 3
  refine⟨⟨by simp [bJ,h.1],fun x hx=>?_⟩,cO hc 3⟩
  simp only [bJ,List.mem_append,List.mem_singleton] at hx
  rcases hx with hx|rfl
  ·exact h.2 x hx
  ·exact⟨hb.1,by have:=hb.2 (by decide);omega⟩) n [] c h ⟨rfl,by simp⟩
 refine⟨?_,h1,h3⟩
 simp only [bf,Bool.and_eq_true,List.all_eq_true,decide_eq_true_eq,dQ,within_iff]
 exact⟨fun x hx=>by have:=h2 x hx;omega,by rw [h1]⟩
theorem EY (r s:Nat) {c:Cur} (h:c.ok):iN (drawMode r s c).1 r s=true∧(drawMode r s c).2.ok:=by
 have hb:=kQ c 4
 have h1:=GD r (cO h 4)
 have h2:=GD s h1.2.2
 unfold drawMode
 refine⟨?_,h2.2.2⟩
 simp only [iN,Bool.and_eq_true,within_iff]
 exact⟨⟨by have:=hb.2 (by decide);omega,h1.1⟩,h2.1⟩
theorem WU:∀i:Nat,sj (nameOf i)=true:=by
 intro i
 have h:∀j,j < 6→sj (nameOf j)=true:=by decide+kernel
 have e:nameOf i=nameOf (i % 6):=by unfold nameOf;rw [Nat.mod_mod]
 rw [e];exact h _ (Nat.mod_lt _ (by decide))
theorem IB (i r s:Nat) {c:Cur} (h:c.ok):bC (kS i r s c).1 r s=true∧(kS i r s c).1.name=nameOf i∧(kS i r s c).1.modes.length≤2∧(kS i r s c).2.ok:=by
 have hf:=kQ c 2
 have hk:=kQ (below c 2).2 4
 have hc:=cO (cO h 2) 4
 unfold kS
 dsimp only
 generalize below (below c 2).2 4=kk at hk hc ⊢
 have h2:=hk.2 (by decide)
 obtain⟨⟨g1,g2⟩,g3⟩:=jE (f:=dP r s) (fun k l=>l.length=k∧∀m∈l,iN m r s=true) (fun k l c hc h=>by
  have hm:=EY r s hc
  refine⟨⟨by simp [dP,h.1],fun x hx=>?_⟩,hm.2⟩
  simp only [dP,List.mem_append,List.mem_singleton] at hx
  rcases hx with hx|rfl
  ·exact h.2 x hx
  ·exact hm.1) (1+kk.1 / 2).toNat [] kk.2 hc ⟨rfl,by simp⟩
 refine⟨?_,rfl,by omega,g3⟩
 simp only [bC,Bool.and_eq_true,List.all_eq_true,within_iff]
 exact⟨g2,⟨WU i,by have:=hf.2 (by decide);omega⟩,by omega⟩
def rA (c:Cur):iy×Cur:=
 let s:=kR c
 let o:=below s.2 3
 if o.1=0 then (⟨s.1,(eO 4 o.2).1⟩,(eO 4 o.2).2) else (⟨s.1,[]⟩,o.2)
def gY (l:List iy) (c:Cur):List iy×Cur:=(l++[(rA c).1],(rA c).2)
def dF (r s:Nat) (l:List aK) (c:Cur):List aK×Cur:=(l++[(kS l.length r s c).1],(kS l.length r s c).2)
def kE (c:Cur):List Int×Cur:=if (below c 3).1=0 then ([(below (below c 3).2 6).1],(below (below c 3).2 6).2) else ([],(below c 3).2)
def dz (n:Nat) (c:Cur):Link×Cur:=
 let a:=below c (n - 1)
 let t:=below a.2 (n - 1 - a.1)
 let e:=below t.2 3
 let l:=below e.2 3
 let o:=below l.2 6
 if o.1=0 then (⟨a.1+1+t.1,a.1,false, -4 - (below o.2 9).1⟩,(below o.2 9).2) else (⟨a.1,a.1+1+t.1, !decide (e.1=0),l.1⟩,o.2)
def bF (n:Nat) (l:List Link) (c:Cur):List Link×Cur:=(l++[(dz n c).1],(dz n c).2)
def jM (most:Int) (c:Cur):Proj×Cur:=
 let d:=below c 12
 let kr:=below d.2 4
 let rs:=itN gY (1+kr.1 / 2).toNat [] kr.2
 let st:=kE rs.2
 let ka:=below st.2 most
 let as:=itN (dF rs.1.length st.1.length) (1+ka.1).toNat [] ka.2
 let kl:=below as.2 4
 let ls:=itN (bF as.1.length) (if 1 < as.1.length then kl.1.toNat else 0) [] kl.2
 (⟨12+d.1,as.1,ls.1,rs.1,st.1⟩,ls.2)
def dX (code:List Int):Proj:=
 let x:=jM 2 (sF code)
 PE x.1 (3+(below x.2 4).1)
theorem IC {c:Cur} (h:c.ok):jV (rA c).1=true∧(rA c).2.ok:=by
 have hs:=Cb h
 have ho:=cO hs.2 3
 unfold rA
 dsimp only
 split
 ·have g:=zX ho 4
  refine⟨?_,g.2.2⟩
  simp only [jV,Bool.and_eq_true,Bool.or_eq_true,List.all_eq_true,decide_eq_true_eq]
  exact⟨g.2.1,hs.1,.inr (by rw [g.1];rfl)⟩
 ·refine⟨?_,ho⟩
  simp only [jV,Bool.and_eq_true,Bool.or_eq_true,List.all_eq_true,decide_eq_true_eq]
  exact⟨by simp,hs.1,.inl rfl⟩
theorem zh {c:Cur} (h:c.ok):(kE c).1.length≤1∧(∀x∈(kE c).1,0≤x∧x≤5)∧(kE c).2.ok:=by
 unfold kE
 split
 ·have:=kQ (below c 3).2 6
  exact⟨by simp,fun x hx=>by simp at hx;subst hx;exact⟨this.1,by have:=this.2 (by decide);omega⟩,cO (cO h 3) 6⟩
 ·exact⟨by simp,by simp,cO h 3⟩
theorem PI {n:Nat} (hn:2≤n) (hm:n≤6) {c:Cur} (h:c.ok):(0≤(dz n c).1.src∧(dz n c).1.src < n∧0≤(dz n c).1.dst∧(dz n c).1.dst < n∧(dz n c).1.src≠(dz n c).1.dst∧ -60≤(dz n c).1.lag∧(dz n c).1.lag≤60)∧(dz n c).2.ok:=by
 obtain⟨a,c1,e1,h1,a1,a2⟩:=aD h ((n:Int) - 1)
 obtain⟨t,c2,e2,h2,t1,t2⟩:=aD h1 ((n:Int) - 1 - a)
 obtain⟨e,c3,e3,h3,_,_⟩:=aD h2 3
 obtain⟨l,c4,e4,h4,l1,l2⟩:=aD h3 3
 obtain⟨o,c5,e5,h5,_,_⟩:=aD h4 6
 obtain⟨m,c6,e6,h6,m1,m2⟩:=aD h5 9
 have a2:=a2 (by omega)
 have t2:=t2 (by omega)
 have l2:=l2 (by decide)
 have m2:=m2 (by decide)
 unfold dz
 simp only [e1,e2,e3,e4,e5,e6]
 split
 ·exact⟨⟨by dsimp only;omega,by dsimp only;omega,a1,by dsimp only;omega,by dsimp only;omega,by dsimp only;omega,by dsimp only;omega⟩,h6⟩
 ·exact⟨⟨a1,by dsimp only;omega,by dsimp only;omega,by dsimp only;omega,by dsimp only;omega,by dsimp only;omega,by dsimp only;omega⟩,h5⟩
structure GH (p:Proj) (most:Int):Prop where
 acts:1≤p.acts.length∧(p.acts.length:Int)≤most
 bS:1≤p.bS.length∧p.bS.length≤2
 stk:p.bD.length≤1
 lks:p.links.length≤3
 aok:∀i a,p.acts[i]? =some a→bC a p.bS.length p.bD.length=true∧a.name=nameOf i∧a.modes.length≤2
 rok:∀r∈p.bS,jV r=true
 sok:∀x∈p.bD,0≤x∧x≤5
 lok:∀y∈p.links,0≤y.src∧y.src < p.acts.length∧0≤y.dst∧y.dst < p.acts.length∧y.src≠y.dst∧ -60≤y.lag∧y.lag≤60
theorem Cc (most:Int) (hm:1≤most∧most≤6) {c:Cur} (h:c.ok):GH (jM most c).1 most∧(12≤(jM most c).1.dead∧(jM most c).1.dead≤23)∧(jM most c).2.ok:=by
 obtain⟨d,c1,e1,h1,d1,d2⟩:=aD h 12
 obtain⟨kr,c2,e2,h2,kr1,kr2⟩:=aD h1 4
 have d2:=d2 (by decide)
 have kr2:=kr2 (by decide)
 obtain⟨⟨r1,r2⟩,r3⟩:=jE (f:=gY) (fun k l=>l.length=k∧∀x∈l,jV x=true) (fun k l c hc h=>by
  have hd:=IC hc
  refine⟨⟨by simp [gY,h.1],fun x hx=>?_⟩,hd.2⟩
  simp only [gY,List.mem_append,List.mem_singleton] at hx
  rcases hx with hx|rfl
  ·exact h.2 x hx
  ·exact hd.1) (1+kr / 2).toNat [] c2 h2 ⟨rfl,by simp⟩
 unfold jM
 simp only [e1,e2]
 generalize itN gY (1+kr / 2).toNat [] c2=rs at r1 r2 r3 ⊢
 obtain⟨s1,s2,s3⟩:=zh r3
 generalize kE rs.2=st at s1 s2 s3 ⊢
 obtain⟨ka,c3,e3,h3,ka1,ka2⟩:=aD s3 most
 have ka2:=ka2 (by omega)
 simp only [e3]
 obtain⟨⟨a1,a2⟩,a3⟩:=jE (f:=dF rs.1.length st.1.length) (fun k l=>l.length=k∧∀i a,l[i]? =some a→bC a rs.1.length st.1.length=true∧a.name=nameOf i∧a.modes.length≤2) (fun k l c hc h=>by
  have hd:=IB l.length rs.1.length st.1.length hc
  refine⟨⟨by simp [dF,h.1],fun i a ha=>?_⟩,hd.2.2.2⟩
  simp only [dF] at ha
  by_cases hi:i < l.length
  ·rw [List.getElem?_append_left hi] at ha;exact h.2 i a ha
  ·rw [List.getElem?_append_right (by omega)] at ha
   have:i=l.length:=by
    by_cases e:i - l.length=0
    ·omega
    ·rw [List.getElem?_eq_none (by simp;omega)] at ha;cases ha
   subst this
   simp at ha
   subst ha
   exact⟨hd.1,hd.2.1,hd.2.2.1⟩) (1+ka).toNat [] c3 h3 ⟨rfl,by simp⟩
 generalize itN (dF rs.1.length st.1.length) (1+ka).toNat [] c3=as at a1 a2 a3 ⊢
 obtain⟨kl,c4,e4,h4,kl1,kl2⟩:=aD a3 4
 have kl2:=kl2 (by decide)
 simp only [e4]
 have Zx:((itN (bF as.1.length) (if 1 < as.1.length then kl.toNat else 0) [] c4).1.length≤3∧∀y∈(itN (bF as.1.length) (if 1 < as.1.length then kl.toNat else 0) [] c4).1,0≤y.src∧y.src < as.1.length∧0≤y.dst∧y.dst < as.1.length∧y.src≠y.dst∧ -60≤y.lag∧y.lag≤60)∧(itN (bF as.1.length) (if 1 < as.1.length then kl.toNat else 0) [] c4).2.ok:=by
  by_cases hn:1 < as.1.length
  ·rw [if_pos hn]
   obtain⟨⟨g1,g2⟩,g3⟩:=jE (f:=bF as.1.length) (fun k l=>l.length=k∧∀y∈l,0≤y.src∧y.src < as.1.length∧0≤y.dst∧y.dst < as.1.length∧y.src≠y.dst∧ -60≤y.lag∧y.lag≤60) (fun k l c hc h=>by
    have hd:=PI (n:=as.1.length) hn (by omega) hc
    refine⟨⟨by simp [bF,h.1],fun x hx=>?_⟩,hd.2⟩
    simp only [bF,List.mem_append,List.mem_singleton] at hx
    rcases hx with hx|rfl
    ·exact h.2 x hx
    ·exact hd.1) kl.toNat [] c4 h4 ⟨rfl,by simp⟩
   exact⟨⟨by omega,g2⟩,g3⟩
  ·rw [if_neg hn];exact⟨⟨by simp [itN],by simp [itN]⟩,h4⟩
 obtain⟨⟨l1,l2⟩,l3⟩:=Zx
 exact⟨⟨by dsimp only;omega,by dsimp only;omega,s1,l1,a2,r2,s2,l2⟩,⟨by omega,by omega⟩,l3⟩
theorem EZ {α:Type} {f:α→Bool}:∀(l:List α) (k j:Nat),(∀i,i < j→∀x,l[i]? =some x→f x=false)→(∃x,l[j]? =some x∧f x=true)→aO f l k=(k+j:Nat)
 |[],k,j,_,⟨x,hx,_⟩=>by simp at hx
 |y::l,k,0,_,⟨x,hx,hf⟩=>by simp at hx;subst hx;rw [aO,if_pos hf];simp
 |y::l,k,j+1,h,⟨x,hx,hf⟩=>by
  have hy:=h 0 (by omega) y rfl
  rw [aO,hy,if_neg (by simp),EZ l (k+1) j (fun i hi x hx=>h (i+1) (by omega) x (by simpa using hx)) ⟨x,by simpa using hx,hf⟩]
  congr 1;omega
theorem WV:∀i j:Nat,i < 6→j < 6→i≠j→nameOf i≠nameOf j:=by
 have h:∀i,i < 6→∀j,j < 6→i≠j→nameOf i≠nameOf j:=by decide+kernel
 exact fun i j hi hj=>h i hi j hj
theorem GH.ok {p:Proj} {most:Int} (hm:most≤6) (h:GH p most) (hd:1≤p.dead∧p.dead≤60):aL p=true:=by
 have h1:=h.acts;have h2:=h.bS;have h3:=h.stk;have h4:=h.lks
 simp only [aL,oM,Bool.and_eq_true,Bool.not_eq_true',decide_eq_false_iff_not,within_iff,aX,List.all_eq_true]
 refine⟨⟨⟨⟨⟨⟨⟨⟨⟨by omega,by omega⟩,by omega,by omega⟩,by omega⟩,by omega⟩,by omega⟩,fun i hi=>?_⟩,h.rok⟩,fun x hx=>?_⟩,fun y hy=>?_⟩
 ·unfold ru
  rw [List.getElem?_eq_getElem hi]
  obtain⟨g1,g2,_⟩:=h.aok i _ (List.getElem?_eq_getElem hi)
  simp only [Bool.and_eq_true,decide_eq_true_eq]
  refine⟨g1,?_⟩
  unfold wX
  rw [EZ p.acts 0 i (fun j hj x hx=>?_) ⟨_,List.getElem?_eq_getElem hi,by simp⟩]
  ·simp
  ·obtain⟨_,m2,_⟩:=h.aok j x hx
   rw [m2,g2]
   exact decide_eq_false (WV j i (by omega) (by omega) (by omega))
 ·have:=h.sok x hx;omega
 ·have:=h.lok y hy
  simp only [jS,bg,Bool.and_eq_true,Bool.not_eq_true',decide_eq_false_iff_not,within_iff]
  omega
theorem jP (code:List Int):GH (dX code) 2∧(3≤(dX code).dead∧(dX code).dead≤6):=by
 obtain⟨h1,h2,h3⟩:=Cc 2 ⟨by decide,by decide⟩ (tL code)
 unfold dX
 dsimp only
 generalize jM 2 (sF code)=x at h1 h2 h3 ⊢
 have hb:=kQ x.2 4
 have:=hb.2 (by decide)
 exact⟨⟨h1.acts,h1.bS,h1.stk,h1.lks,h1.aok,h1.rok,h1.sok,h1.lok⟩,by unfold PE;dsimp only;omega⟩
theorem uT (code:List Int):aL (dX code)=true:=by
 obtain⟨h1,h2⟩:=jP code
 exact h1.ok (by decide) ⟨by omega,by omega⟩
open Go.RowKit Go.ChangeShapes Go.WideShapes
structure Yq {H:Type} (μ:DataW H→Nat):Prop where
 sl:∀elems spare,elems.length≤μ (.slice elems spare)
 slE:∀elems spare x,x∈elems→μ x≤μ (.slice elems spare)
 agg:∀parts x,x∈parts→μ x≤μ (.agg parts)
 str:∀s:List UInt8,s.length≤μ (.lit (.string s))
section
variable {H:Type} (enc:TypeId×Value→H) (P:Program) (w:World) (I:Nat→Prop) (L:Nat) (μ:DataW H→Nat) (N:Nat)
def Rd (t:Nat) {α:Type} (f:α→AV) (q:α→Prop):Prop:=
 ∀(fuel:Nat) (cs:List Value) (d:DataW H) (ps:List MemPlace),DataW.trod enc P w 0 (fun _=>true) true fuel t cs=some (d,ps)→μ d≤N→∃x,q x∧aS (aG I w L) (f x).cells cs
end
section
variable {H:Type} {enc:TypeId×Value→H} {P:Program} {w:World} {I:Nat→Prop} {L:Nat} {μ:DataW H→Nat} {N:Nat}
theorem Fa {b sz:Nat}:∀{l:List AV} {o:Nat},(∀(i:Nat) (x:AV),l[i]? =some x→iw I w L b sz x (o+i*sz))→cB I w L b sz l o
 |[],_,_=>by simp [cB]
 |x::l,o,h=>by
  simp only [cB]
  refine⟨by simpa using h 0 x rfl,Fa fun i y hy=>?_⟩
  have:=h (i+1) y (by simpa using hy)
  rwa [show o+(i+1)*sz=o+sz+i*sz by rw [Nat.succ_mul];omega] at this
theorem Ce {b:Nat}:∀{l:List AV} {cs:List Value} {o:Nat},aS (aG I w L) l cs→(∀(j:Nat) (v:Value),cs[j]? =some v→w.cell? ⟨b,o+j,none⟩=some v)→bV I w L b l o
 |[],_,_,_,_=>by simp [bV]
 |x::l,[],_,h,_=>h.elim
 |x::l,v::cs,o,h,hc=>by
  simp only [bV]
  refine⟨⟨v,by simpa using hc 0 v rfl,h.1⟩,Ce h.2 fun j u hu=>?_⟩
  have:=hc (j+1) u (by simpa using hu)
  rwa [show o+(j+1)=o+1+j by omega] at this
theorem cell_spot {a:Addr} {n:Nat} {v:Value} (h:w.cell? (a.add n)=some v):(a.add n).spot=none:=by
 unfold World.cell? at h
 split at h
 ·split at h
  ·cases h
  ·rename_i hs;simpa using hs
 ·cases h
theorem add_eq {a:Addr} (ha:a.spot=none) (n:Nat):a.add n=⟨a.block,a.off+n,none⟩:=by
 unfold Addr.add
 split
 ·subst n;cases a;simp at ha;simp [ha]
 ·rfl
theorem PK (hb:Yq μ) (hNL:N≤L) (hI:∀b o v,w.cell? ⟨b,o,none⟩=some v→I b) {t e sz:Nat} (ht:P.underlying t=some (.slice e)) (hc:P.cellsOf e=sz) (hpos:0 < sz) {α:Type} {f:α→AV} {q:α→Prop}
  (hsz:∀x,(f x).cells.length=sz) (he:Rd enc P w I L μ N e f q):Rd enc P w I L μ N t (fun l:List α=>.sl (l.map f)) (fun l=>l.length≤N∧∀x∈l,q x):=by
 intro fuel cs d ps h hm
 rcases Go.Deep.open_slice ht h with⟨rfl,hx⟩|⟨a,len,cap,m,n,D,Pl,rfl,_,hl,_,hmm,hx,hel⟩
 ·refine⟨[],⟨Nat.zero_le _,by simp⟩,?_⟩
  simp only [AV.cells,aS,aG,List.map_nil,List.length_nil,and_true]
  exact⟨none,0,rfl,Nat.zero_le _,Nat.le_refl _,.inl rfl⟩
 ·simp only [if_true] at hmm
  subst hmm
  simp only [Prod.mk.injEq] at hx
  have hd:=hx.1
  subst hd
  rw [hc] at hel
  have hlen:len≤N:=by
   have:=hb.sl ((List.range len).map D) ((List.range (m - len)).map fun j=>D (len+j))
   simp at this;omega
  have Zy:∀i,i < len→∃x,q x∧∃cs',w.cells? 0 (a.add (i*sz)) sz=some cs'∧aS (aG I w L) (f x).cells cs':=fun i hi=>by
   obtain⟨cs',h1,h2⟩:=hel i (by omega)
   obtain⟨x,h3,h4⟩:=he n cs' _ _ h2 (Nat.le_trans (hb.slE _ _ (D i) (List.mem_map.2 ⟨i,by simpa using hi,rfl⟩)) hm)
   exact⟨x,h3,cs',h1,h4⟩
  have key:∃l:List α,l.length=len∧∀i x,l[i]? =some x→q x∧∃cs',w.cells? 0 (a.add (i*sz)) sz=some cs'∧aS (aG I w L) (f x).cells cs':=by
   clear hlen hl hm hx h hel
   induction len with
   |zero=>exact⟨[],rfl,by simp⟩
   |succ k ih=>
    obtain⟨l,h1,h2⟩:=ih fun i hi=>Zy i (by omega)
    obtain⟨x,h3⟩:=Zy k (by omega)
    refine⟨l++[x],by simp [h1],fun i y hy=>?_⟩
    by_cases hik:i < l.length
    ·rw [List.getElem?_append_left hik] at hy;exact h2 i y hy
    ·rw [List.getElem?_append_right (by omega)] at hy
     have:i=k:=by
      have:=(List.getElem?_eq_some_iff.1 hy).1
      simp at this;omega
     subst this
     rw [show i - l.length=0 by omega] at hy
     simp at hy;subst hy;exact h3
  obtain⟨l,h1,h2⟩:=key
  refine⟨l,⟨by omega,fun x hx=>?_⟩,?_⟩
  ·obtain⟨i,hi,rfl⟩:=List.getElem_of_mem hx
   exact (h2 i _ (List.getElem?_eq_getElem hi)).1
  ·simp only [AV.cells,aS,aG,and_true]
   refine⟨some a,m,by simp [h1],by simp;omega,by simp;omega,?_⟩
   by_cases h0:len=0
   ·left;simp;exact List.eq_nil_of_length_eq_zero (by omega)
   ·right
    have first:∃v,w.cell? (a.add 0)=some v:=by
     obtain⟨x,hx⟩:∃x,l[0]? =some x:=⟨l[0]'(by omega),by simp⟩
     obtain⟨_,cs',h3,_⟩:=h2 0 x hx
     obtain⟨_,h4,h5⟩:=World.cells?_some h3
     have:=h5 0 hpos
     rw [List.getElem?_eq_getElem (by omega)] at this
     rw [Nat.zero_mul] at this
     rw [show (a.add 0).add 0=a.add 0 by simp [Addr.add]] at this
     exact⟨_,this⟩
    obtain⟨v,hv⟩:=first
    have hs:=cell_spot hv
    rw [show a.add 0=a by simp [Addr.add]] at hs hv
    refine⟨a.block,a.off,sz,by cases a;simp at hs;simp [hs],hI a.block a.off v (by cases a;simp at hs;subst hs;exact hv),Fa fun i y hy=>?_⟩
    rw [List.getElem?_map] at hy
    obtain⟨x,hx,rfl⟩:=Option.map_eq_some_iff.1 hy
    obtain⟨_,cs',h3,h4⟩:=h2 i x hx
    obtain⟨_,h5,h6⟩:=World.cells?_some h3
    refine mI.2 ⟨hsz x,Ce h4 fun j u hu=>?_⟩
    have hj:j < sz:=by
     have:=(List.getElem?_eq_some_iff.1 hu).1
     omega
    have:=h6 j hj
    rw [hu,add_eq hs,add_eq rfl] at this
    exact this
theorem Lr {J O:Nat→Prop} {mt:Bool} {r:Reach} {b0 t e:Nat} (ht:P.underlying t=some (.slice e)) {v:Value} {d:DataW H} {ps:List MemPlace} (hval:Value.okWide P w r b0 t v)
  (hd:DataW.Trod enc P w 0 (fun _=>true) true t v d ps) (hm:μ d≤N) {α:Type} {f:α→AV} {q:List α→Prop} (hR:Rd enc P w I L μ N t (fun l:List α=>.sl (l.map f)) q):∃l,q l∧nk I J O mt w L (.d (.sl (l.map f))) v:=by
 obtain⟨fuel,hd⟩:=hd
 obtain⟨l,hq,hr⟩:=hR fuel _ d ps hd hm
 refine⟨l,hq,?_⟩
 simp only [Value.okWide,ht,Cell.okWide,Cell.ok] at hval
 simp only [nk,aI]
 cases v<;>simp_all [Value.cells,AV.cells,aS]
end
open Go.ChangeShapes Go.WideShapes Go.ChangeAt Go.RowKit
theorem Tq {w:World} {a:Addr} {v:Value} (h:w.cell? a=some v):a.block < w.heap.size:=by
 unfold World.cell? at h
 split at h
 ·rename_i c e r hb
  exact (Array.getElem?_eq_some_iff.1 hb).1
 ·cases h
section
variable {H:Type} {enc:TypeId×Value→H} {P:Program}
theorem zi {W W':World} (hl:laidOutB P=true) (hb:Below W.heap.size W W'):∀{ts:List TypeId} {vs:List Value} {ds:List (DataW H)} {p:List MemPlace},
  (∀t∈ts,P.readableRec t=true∧t < P.types.size)→(∀x∈p,x.block < W.heap.size)→DataW.TrodAll enc P W 0 (fun _=>true) true ts vs ds p→
  DataW.TrodAll enc P W' 0 (fun b=>decide (b < W.heap.size)) true ts vs ds p
 |[],vs,ds,p,_,_,h=>by
  obtain⟨rfl,rfl,rfl⟩:=trodAll_nil h
  exact trodAll_mk0
 |t::ts,vs,ds,p,ht,hp,h=>by
  obtain⟨v,vs',d,ds',a,b,rfl,rfl,rfl,h1,h2⟩:=trodAll_cons h
  exact trodAll_cons_mk (Below.trod hl (ht t (by simp)).1 (ht t (by simp)).2 h1 hb fun x hx=>hp x (by simp [hx]))
   (zi hl hb (fun t h=>ht t (by simp [h])) (fun x hx=>hp x (by simp [hx])) h2)
theorem Ls {f:Func} {s:ChangeSpec} {tb:Nat} (hl:laidOutB P=true) (hr:f.resultTypes= #[tb]) (htb:P.underlying tb=some .bool) (hv:s.vars= [])
  (hp:∀t∈f.params.toList,P.readableRec t=true∧t < P.types.size) {W W':World} {args:Array Value} {ds gs:List (DataW H)} {before:List MemPlace} (hW:DataW.Whole enc P f.params.toList s.vars false W args.toList ds gs before)
  (hfn:s.fn H (ds++gs)= { results:=[.lit (.bool true)],args:=ds }) (hb:Below W.heap.size W W'):s.post enc P f false true false false W args (.bool true) W':=by
 have hW':=hW
 obtain⟨p,q,hA,hV,hbe,hfz,hnd⟩:=hW
 rw [hv] at hV
 obtain⟨rfl,rfl⟩:=trodVars_none hV
 have hlt:∀x∈before,x.block < W.heap.size:=fun x hx=>hW'.lt x hx
 rw [List.append_nil] at hbe
 subst hbe
 refine⟨ds,[],before,[],before,[],hW',?_,?_,?_,hb.frame _,nofun⟩
 ·rw [hfn,hr];exact trodAll_cons_mk (shut_bool htb _) trodAll_mk0
 ·rw [hfn];exact zi hl hb hp hlt hA
 ·rw [hfn,hv];rfl
end
end Go.Proofs.YtjfnojijdggfhaaGreat.Abs
