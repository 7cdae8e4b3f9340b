/- Contracts: what to decide next, the schedule of a domain of one. -/
import Derived.Test.YtefgamefajmdkaaGreatC51
import Derived.Test.YtefgamefajmdkaaGreatC22
import Derived.Test.YtefgamefajmdkaaGreatLg
set_option linter.all false
set_option maxRecDepth 20000
set_option maxHeartbeats 0
namespace Go.Proofs.YtefgamefajmdkaaGreat.Abs
open Go.Proofs Go.RowKit
def YC (b:Dom) (i:Nat):Bool:=decide (((b.modes.getD i []).length:Int) > 1)||decide (b.lo.getD i 0 < b.hi.getD i 0)
def Sl (b:Dom):Nat→Nat→Int→Int
 |0,_,k=>k
 |r+1,i,k=>Sl b r (i+1) (if YC b i=true∧(k < 0∨b.lo.getD i 0 < b.lo.getD k.toNat 0) then i else k)
def YR (a:aH) (m:Int):Int:=(a.modes.getD m.toNat ⟨0,[],[]⟩).dur
def Sn (a:aH):List Int→Int→Int
 |[],k=>k
 |m::r,k=>Sn a r (if YR a m < YR a k then m else k)
def XA (p:Proj) (b:Dom) (k:Int):Option Lit:=
 if k < 0 then none
 else if ((b.modes.getD k.toNat []).length:Int) < 2 then some ⟨2,k,b.lo.getD k.toNat 0⟩
 else some ⟨3,k,Sn (bf p k.toNat) (b.modes.getD k.toNat []) ((b.modes.getD k.toNat []).headD 0)⟩
def choice (p:Proj) (b:Dom):Option Lit:=if usable p b=true then XA p b (Sl b p.acts.length 0 (-1)) else none
def aaW (b:Dom) (i:Nat):Bool:=
 match b.lo[i]?,b.hi[i]?,b.modes[i]? with
 |some x,some y,some m=>decide (x=y)&&decide ((m.length:Int)=1)
 |_,_,_=>true
def single (b:Dom):Option aJ:=if b.lo.length=b.hi.length∧b.lo.length=b.modes.length∧xH b.lo.length (aaW b)=true then some ⟨b.lo,b.modes.map (·.headD 0)⟩ else none
open Go.Proofs Go.RowKit
attribute [local irreducible] bJ gF aM status litValue single choice wO wN
theorem Idx.lit {l:List AV} {i:Int} {k:Nat} {x:AV} {K:Nat→AV→Prop} (hx:l[k]? =some x) (h:i=k) (hk:K k x):Idx l i K:=⟨k,x,h,hx,hk⟩
structure Way where
 lines:List Lin
 visits:Int
 found:Option aJ
 stopped:Bool
def takeLog (g:Lg) (l:Lit):Option Lg:=if (gG g.proj l&& !decide ((g.decs.length:Int)=20))=true then some ⟨g.proj,restrict g.dom l,g.decs++[l],g.lines⟩ else none
def Nt (g:Lg) (ls:List Lin):Lg:=⟨g.proj,g.dom,g.decs,ls⟩
def YD (h:Lg):Option aJ:=match single h.dom with
 |none=>none
 |some s=>if dA h.proj s=true then some s else none
def ZI (h:Lg) (ls:List Lin) (v:Int):Way:=if aM h.proj ls (ER h)=0 then⟨ls++[ER h],v,none,false⟩ else⟨ls,v,none,true⟩
def YE (h:Lg) (rec:Int→Lg→Way) (x:Lit) (ls:List Lin) (v:Int):Way:=match takeLog (Nt h ls) x with
 |none=>⟨ls,v,none,true⟩
 |some n=>rec v n
def UJ (h:Lg) (rec:Int→Lg→Way):List Lit→List Lin→Int→Way
 |[],ls,v=>ZI h ls v
 |x::xs,ls,v=>match YE h rec x ls v with
  |⟨ls',v',none,false⟩=>UJ h rec xs ls' v'
  |w=>w
def YF (h:Lg) (rec:Int→Lg→Way) (v:Int):Way:=match wO h with
 |some k=>⟨k.lines,v,none,false⟩
 |none=>match YD h with
  |some s=>⟨h.lines,v,some s,false⟩
  |none=>match choice h.proj h.dom with
   |none=>⟨h.lines,v,none,true⟩
   |some l=>UJ h rec [l,negate l] h.lines v
def vis (most:Int):Nat→Int→Lg→Way
 |0,v,g=>⟨g.lines,v,none,true⟩
 |f+1,v,g=>if v=most then⟨g.lines,v,none,true⟩ else YF (wN 40 0 g).1 (fun v g=>vis most f v g) (v+1)
end Go.Proofs.YtefgamefajmdkaaGreat.Abs
namespace Go.Proofs.YtefgamefajmdkaaGreat.Abs
open Go.Proofs Go.RowKit
attribute [local irreducible] bJ gF aM status litValue single choice wO wN
end Go.Proofs.YtefgamefajmdkaaGreat.Abs
namespace Go.Proofs.YtefgamefajmdkaaGreat.Abs
open Go.Proofs Go.RowKit
attribute [local irreducible] bJ gF aM status litValue single choice wO wN
end Go.Proofs.YtefgamefajmdkaaGreat.Abs
namespace Go.Proofs.YtefgamefajmdkaaGreat.Abs
open Go.Proofs Go.RowKit
attribute [local irreducible] bJ gF aM status litValue single choice wO wN
end Go.Proofs.YtefgamefajmdkaaGreat.Abs
namespace Go.Proofs.YtefgamefajmdkaaGreat.Abs
open Go.Proofs Go.RowKit
attribute [local irreducible] bJ gF aM status litValue single choice wO wN
end Go.Proofs.YtefgamefajmdkaaGreat.Abs
namespace Go.Proofs.YtefgamefajmdkaaGreat.Abs
open Go.Proofs Go.RowKit
attribute [local irreducible] bJ gF aM status litValue single choice wO wN vis
structure VO where
 log:Lg
 sched:aJ
 found:Bool
 visits:Int
 stopped:Bool
abbrev VO.cellsOf (x:VO):List AV:=[i64 x.log.proj.dead,.sl (x.log.proj.acts.map aH.av),.sl (x.log.proj.links.map Link.av),.sl (x.log.proj.bB.map fE.av),ints x.log.proj.aY,ints x.log.dom.lo,ints x.log.dom.hi,.sl (x.log.dom.modes.map ints),lits x.log.decs,.sl (x.log.lines.map Lin.av),ints x.sched.starts,ints x.sched.modes,.bool x.found,i64 x.visits,.bool x.stopped]
abbrev VO.av (x:VO):AV:=.agg x.cellsOf
def ZJ (h:Lg) (w:Way):VO:=⟨Nt h w.lines,w.found.getD ⟨[],[]⟩,w.found.isSome,w.visits,w.stopped⟩
def nW (g:Lg) (most:Int):VO:=if aav g=true∧within most 1 60=true then ZJ (wN 40 0 g).1 (vis most (most.toNat+1) 0 g) else⟨aaw,⟨[],[]⟩,false,0,false⟩
end Go.Proofs.YtefgamefajmdkaaGreat.Abs
