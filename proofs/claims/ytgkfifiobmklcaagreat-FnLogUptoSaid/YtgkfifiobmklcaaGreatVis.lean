/- Contracts: what to decide next, the schedule of a domain of one. -/
import Derived.Test.YtgkfifiobmklcaaGreatC51
import Derived.Test.YtgkfifiobmklcaaGreatC22
import Derived.Test.YtgkfifiobmklcaaGreatLg
set_option linter.all false
set_option maxRecDepth 20000
set_option maxHeartbeats 0
namespace Go.Proofs.YtgkfifiobmklcaaGreat.Abs
open Go.Proofs Go.RowKit
def abt (b:Dom) (i:Nat):Bool:=decide (((b.modes.getD i []).length:Int) > 1)||decide (b.lo.getD i 0 < b.hi.getD i 0)
def UY (b:Dom):Nat→Nat→Int→Int
 |0,_,k=>k
 |r+1,i,k=>UY b r (i+1) (if abt b i=true∧(k < 0∨b.lo.getD i 0 < b.lo.getD k.toNat 0) then i else k)
def abT (a:aF) (m:Int):Int:=(a.modes.getD m.toNat ⟨0,[],[]⟩).dur
def UZ (a:aF):List Int→Int→Int
 |[],k=>k
 |m::r,k=>UZ a r (if abT a m < abT a k then m else k)
def aaf (p:Proj) (b:Dom) (k:Int):Option Lit:=
 if k < 0 then none
 else if ((b.modes.getD k.toNat []).length:Int) < 2 then some ⟨2,k,b.lo.getD k.toNat 0⟩
 else some ⟨3,k,UZ (bg p k.toNat) (b.modes.getD k.toNat []) ((b.modes.getD k.toNat []).headD 0)⟩
def choice (p:Proj) (b:Dom):Option Lit:=if usable p b=true then aaf p b (UY b p.acts.length 0 (-1)) else none
def aeg (b:Dom) (i:Nat):Bool:=
 match b.lo[i]?,b.hi[i]?,b.modes[i]? with
 |some x,some y,some m=>decide (x=y)&&decide ((m.length:Int)=1)
 |_,_,_=>true
def single (b:Dom):Option aK:=if b.lo.length=b.hi.length∧b.lo.length=b.modes.length∧yY b.lo.length (aeg b)=true then some ⟨b.lo,b.modes.map (·.headD 0)⟩ else none
open Go.Proofs Go.RowKit
attribute [local irreducible] bq dQ aH status litValue single choice jM iR
theorem Idx.lit {l:List AV} {i:Int} {k:Nat} {x:AV} {K:Nat→AV→Prop} (hx:l[k]? =some x) (h:i=k) (hk:K k x):Idx l i K:=⟨k,x,h,hx,hk⟩
structure Way where
 lines:List Lin
 visits:Int
 found:Option aK
 stopped:Bool
def takeLog (g:Lg) (l:Lit):Option Lg:=if (bJ g.proj l&& !decide ((g.decs.length:Int)=20))=true then some ⟨g.proj,restrict g.dom l,g.decs++[l],g.lines⟩ else none
def PX (g:Lg) (ls:List Lin):Lg:=⟨g.proj,g.dom,g.decs,ls⟩
def abu (h:Lg):Option aK:=match single h.dom with
 |none=>none
 |some s=>if dF h.proj s=true then some s else none
def acU (h:Lg) (ls:List Lin) (v:Int):Way:=if aH h.proj ls (bA h)=0 then⟨ls++[bA h],v,none,false⟩ else⟨ls,v,none,true⟩
def abv (h:Lg) (rec:Int→Lg→Way) (x:Lit) (ls:List Lin) (v:Int):Way:=match takeLog (PX h ls) x with
 |none=>⟨ls,v,none,true⟩
 |some n=>rec v n
def XF (h:Lg) (rec:Int→Lg→Way):List Lit→List Lin→Int→Way
 |[],ls,v=>acU h ls v
 |x::xs,ls,v=>match abv h rec x ls v with
  |⟨ls',v',none,false⟩=>XF h rec xs ls' v'
  |w=>w
def abw (h:Lg) (rec:Int→Lg→Way) (v:Int):Way:=match jM h with
 |some k=>⟨k.lines,v,none,false⟩
 |none=>match abu h with
  |some s=>⟨h.lines,v,some s,false⟩
  |none=>match choice h.proj h.dom with
   |none=>⟨h.lines,v,none,true⟩
   |some l=>XF h rec [l,negate l] h.lines v
def vis (most:Int):Nat→Int→Lg→Way
 |0,v,g=>⟨g.lines,v,none,true⟩
 |f+1,v,g=>if v=most then⟨g.lines,v,none,true⟩ else abw (iR 40 0 g).1 (fun v g=>vis most f v g) (v+1)
end Go.Proofs.YtgkfifiobmklcaaGreat.Abs
namespace Go.Proofs.YtgkfifiobmklcaaGreat.Abs
open Go.Proofs Go.RowKit
attribute [local irreducible] bq dQ aH status litValue single choice jM iR
end Go.Proofs.YtgkfifiobmklcaaGreat.Abs
namespace Go.Proofs.YtgkfifiobmklcaaGreat.Abs
open Go.Proofs Go.RowKit
attribute [local irreducible] bq dQ aH status litValue single choice jM iR
theorem YD (g:Lg) (l:Lit) (hp:g.proj.fine) (hd:g.decs.length≤20) (hs:∀m∈g.dom.modes,nT m=true):Con 35 [.d g.av,.d l.av] (oW (takeLog g l)):=by
 refine con Tryz.func35 rfl rfl Tryz.call35 rfl fun hwf=>?_
 simp only [ARs.wf,AR.wf,AV.wf,AV.wfs,lm,lim] at hwf
 have hT:=LY g.proj l hp
 have hX:=Cn g.dom l (fun m h=>hs m (List.mem_of_getElem? h))
 by_cases hk:(bJ g.proj l&& !decide ((g.decs.length:Int)=20))=true
 ·rw [takeLog,if_pos hk,DC]
  simp only [Bool.and_eq_true,Bool.not_eq_true',decide_eq_false_iff_not] at hk
  rw [hk.1] at hT
  have h3:=hk.2
  (repeat' ((conv=>whnf);first|with_reducible refine Br.no (decide_eq_false (by simp only [lm];omega)) ?_|refine gA ?_|(refine gB ?_ ?_<;>intro h)|refine gP ?_|refine gC (hT) ?_|refine gC (Oo g) ?_|refine gC (hX) ?_|intro _))<;>try (conv=>whnf)
  (repeat' ((conv=>whnf)<;>(first|exact trivial|exact VC.nod (by kernel_rfl)|refine VC.mk (by first|with_reducible rfl|(simp;done)|rfl) ?_)))
 ·rw [takeLog,if_neg hk]
  (repeat' ((conv=>whnf);first|refine gA ?_|(refine gB ?_ ?_<;>intro h)|refine gP ?_|refine gC (hT) ?_|intro _))<;>try (conv=>whnf)
  all_goals first
   |(exfalso;simp_all;done)
   |exact fv
end Go.Proofs.YtgkfifiobmklcaaGreat.Abs
namespace Go.Proofs.YtgkfifiobmklcaaGreat.Abs
open Go.Proofs Go.RowKit
attribute [local irreducible] bq dQ aH status litValue single choice jM iR
end Go.Proofs.YtgkfifiobmklcaaGreat.Abs
namespace Go.Proofs.YtgkfifiobmklcaaGreat.Abs
open Go.Proofs Go.RowKit
attribute [local irreducible] bq dQ aH status litValue single choice jM iR
end Go.Proofs.YtgkfifiobmklcaaGreat.Abs
namespace Go.Proofs.YtgkfifiobmklcaaGreat.Abs
open Go.Proofs Go.RowKit
attribute [local irreducible] bq dQ aH status litValue single choice jM iR vis
structure YE where
 log:Lg
 sched:aK
 found:Bool
 visits:Int
 stopped:Bool
abbrev YE.cellsOf (x:YE):List AV:=[i64 x.log.proj.dead,.sl (x.log.proj.acts.map aF.av),.sl (x.log.proj.links.map Link.av),.sl (x.log.proj.bC.map dN.av),ints x.log.proj.aX,ints x.log.dom.lo,ints x.log.dom.hi,.sl (x.log.dom.modes.map ints),lits x.log.decs,.sl (x.log.lines.map Lin.av),ints x.sched.starts,ints x.sched.modes,.bool x.found,i64 x.visits,.bool x.stopped]
abbrev YE.av (x:YE):AV:=.agg x.cellsOf
def acV (h:Lg) (w:Way):YE:=⟨PX h w.lines,w.found.getD ⟨[],[]⟩,w.found.isSome,w.visits,w.stopped⟩
def pI (g:Lg) (most:Int):YE:=if ni g=true∧within most 1 60=true then acV (iR 40 0 g).1 (vis most (most.toNat+1) 0 g) else⟨TM,⟨[],[]⟩,false,0,false⟩
end Go.Proofs.YtgkfifiobmklcaaGreat.Abs
