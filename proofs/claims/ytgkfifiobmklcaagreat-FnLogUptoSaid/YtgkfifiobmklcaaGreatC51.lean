/- Contracts: logs as separate data: decisions. -/
import Derived.Test.YtgkfifiobmklcaaGreatLg
import Derived.Test.YtgkfifiobmklcaaGreatC15
set_option linter.all false
set_option maxRecDepth 20000
set_option maxHeartbeats 0
namespace Go.Proofs.YtgkfifiobmklcaaGreat.Abs
open Go.Proofs Go.RowKit
attribute [local irreducible] bq dQ aH status litValue
def aae (o:Option Lg):RV:=.tup [abp (o.getD TM),.d (.bool o.isSome)]
theorem WC (h:Lg):aae (some h)= .tup [abp h,.d (.bool true)]:=rfl
theorem WE:aae none= .tup [abp TM,.d (.bool false)]:=rfl
def aef (g:Lg) (l:Lit):Bool:=ni g&&(bJ g.proj l&& !decide ((g.decs.length:Int)=20))
def acT (g:Lg) (l:Lit):Option Lg:=if aef g l=true then some ⟨g.proj,restrict g.dom l,g.decs++[l],g.lines⟩ else none
def afd (g:Lg):RV:=.agg [.d (i64 g.proj.dead),.d (.sl (g.proj.acts.map aF.av)),.d (.sl (g.proj.links.map Link.av)),.d (.sl (g.proj.bC.map dN.av)),.d (ints g.proj.aX),.d (ints g.dom.lo),.d (ints g.dom.hi),.d (.sl (g.dom.modes.map ints)),.own 39 (g.decs.map Lit.av),.d (.sl (g.lines.map Lin.av))]
theorem Oo (g:Lg):Con 98 [.d g.av] (afd g):=by
 refine con Tryz.func98 rfl rfl Tryz.call98 rfl fun hwf=>?_
 simp only [ARs.wf,AR.wf,AV.wf,AV.wfs,lm,lim] at hwf
 (repeat' ((conv=>whnf);first|refine gA ?_|(refine gB ?_ ?_<;>intro h)|refine gP ?_|refine gC (FE g.proj) ?_|refine gC (xP g.dom) ?_|refine gC (Oj g.lines) ?_|intro _))<;>try (conv=>whnf)
 (repeat' ((conv=>whnf)<;>(first|exact trivial|exact VC.nod (by kernel_rfl)|refine VC.mk (by first|with_reducible rfl|(simp;done)|rfl) ?_)))
end Go.Proofs.YtgkfifiobmklcaaGreat.Abs
namespace Go.Proofs.YtgkfifiobmklcaaGreat.Abs
open Go.Proofs Go.RowKit
attribute [local irreducible] bq dQ aH status litValue
theorem FZ (g:Lg) (hp:g.proj.fine):Con 66 [.d g.av] (aae (jM g)):=by
 refine con Tryz.func66 rfl rfl Tryz.call66 rfl fun hwf=>?_
 simp only [ARs.wf,AR.wf,AV.wf,AV.wfs,lm,lim] at hwf
 have hR:=mV g.proj g.dom hp
 cases hf:dQ g.proj g.dom with
 |none=>
  rw [Ww,hf] at hR
  dsimp only [Option.getD,Option.isSome] at hR
  rw [yh,hf]
  (repeat' ((conv=>whnf);first|refine gA ?_|(refine gB ?_ ?_<;>intro h)|(refine gI ?_;intro x hx)|(refine gJ ?_;intro j x hj hx)|refine gP ?_|refine gV ?_|refine gC (hR) ?_|intro _))<;>try (conv=>whnf)
  exact fv
 |some r=>
 rw [Ww,hf] at hR
 dsimp only [Option.getD,Option.isSome] at hR
 have hE:=tQ g.proj g.dom r hp
 have hN:=(oO (g.decs.map negate)).xU rfl
 have hC1:=oN g.proj g.lines (bF g r) hp
 have hC2:=oN g.proj (g.lines++[bF g r]) (bA g) hp
 generalize hRR:jM g=R
 have hst:R=if aH g.proj g.lines (bF g r)=0∧aH g.proj (g.lines++[bF g r]) (bA g)=0 then some ⟨g.proj,g.dom,g.decs,g.lines++[bF g r]++[bA g]⟩ else none:=by rw [← hRR,yh,hf]
 (repeat' ((conv=>whnf);first|refine gA ?_|(refine gB ?_ ?_<;>intro h)|(refine gI ?_;intro x hx)|(refine gJ ?_;intro j x hj hx)|refine gP ?_|refine gV ?_|refine gC (hR) ?_|refine gC (vO g) ?_|intro _))<;>try (conv=>whnf)
 refine aB [1,2,4,6,27,28] [1,4,6] [25] ?_
 (conv=>whnf)
 refine aA.go ((Nat)×(List Lit)) (fun⟨k,o⟩=>(k≤g.decs.length)∧(o=(g.decs.take k).map negate)) (fun⟨k,o⟩=>[(29,.data (i64 k)),(7,.own 25 0)]) (fun⟨k,o⟩=>[(2,[.undef,.undef,.undef,.undef,.undef,.undef,.undef,.undef,.undef,.undef])]) (fun⟨k,o⟩=>[(25,39,o.map Lit.av,1)]) (fun⟨k,o⟩=>g.decs.length - k) ⟨0,[]⟩ ?_ ?_
 ·exact⟨Nat.zero_le _,rfl⟩
 rintro⟨k,o⟩ ⟨hk,ho⟩
 by_cases hlt:k < g.decs.length
 ·obtain⟨x,hx⟩:∃x,g.decs[k]? =some x:=⟨g.decs[k]'hlt,by simp⟩
  have hol:o.length≤k:=by rw [ho];simp;omega
  (repeat' ((conv=>whnf);first|with_reducible refine Idx.got hx rfl ?_|(exfalso;omega)|refine gA ?_|(refine gB ?_ ?_<;>intro h)|(refine gI ?_;intro x hx)|(refine gJ ?_;intro j x hj hx)|refine gP ?_|refine gV ?_|refine gC (qI x) ?_|intro _))<;>try (conv=>whnf)
  refine nw ⟨k+1,o++[negate x]⟩ ?_ ?_
  ·(repeat' ((conv=>whnf)<;>(first|exact trivial|exact rfl|with_reducible refine And.intro ?_ ?_)))<;>((conv=>whnf)<;>(simp))
  exact⟨by omega,by rw [ho, ← MV negate hx]⟩
 obtain rfl:o=g.decs.map negate:=by rw [ho,List.take_of_length_le (by omega)]
 (repeat' ((conv=>whnf);first|(exfalso;omega)|refine gA ?_|(refine gB ?_ ?_<;>intro h)|(refine gI ?_;intro x hx)|(refine gJ ?_;intro j x hj hx)|refine gP ?_|refine gV ?_|refine gC (hE) ?_|refine gC (hN) ?_|intro _))<;>try (conv=>whnf)
 refine aB [2,6,50,51] [6] [250010,46000,49000] ?_
 (conv=>whnf)
 refine aA.go Nat (fun k=>k≤2∧(0 < k→aH g.proj g.lines (bF g r)=0)∧(1 < k→aH g.proj (g.lines++[bF g r]) (bA g)=0)) (fun k=>[(52,.data (i64 k))]) (fun k=>[(50,Yy (bF g r) (bA g) k),(2,[.undef,.undef,.undef,.undef,.undef,.undef,.undef,.undef,.undef,.undef])]) (fun k=>(250010,60,(wM g (bF g r) (bA g) k).map Lin.av,1)::ZY (bF g r) (bA g) k) (fun k=>2 - k) 0 ?_ ?_
 ·exact⟨by omega,fun h=>by omega,fun h=>by omega⟩
 rintro k ⟨hk,h1,h2⟩
 rcases k with _|_|k
 ·by_cases hc:aH g.proj g.lines (bF g r)=0
  ·rw [hc] at hC1
   have hl0:(wM g (bF g r) (bA g) 0).length < 300:=Ig hc
   (repeat' ((conv=>whnf);first|(exfalso;omega)|refine gA ?_|(refine gB ?_ ?_<;>intro h)|(refine gI ?_;intro x hx)|(refine gJ ?_;intro j x hj hx)|refine gP ?_|refine gV ?_|refine gC (hC1) ?_|intro _))<;>try (conv=>whnf)
   all_goals first
    |(exfalso;exact absurd trivial (by assumption))
    |(refine nw ((1)) ?_ ?_
      ·(repeat' ((conv=>whnf)<;>(first|exact trivial|exact rfl|with_reducible refine And.intro ?_ ?_)))<;>((conv=>whnf)<;>(simp [wM]))
      exact⟨by omega,fun _=>hc,fun h=>by omega⟩)
  ·obtain rfl:R=none:=by rw [hst,if_neg (fun h=>hc h.1)]
   (repeat' ((conv=>whnf);first|(exfalso;omega)|refine gA ?_|(refine gB ?_ ?_<;>intro h)|(refine gI ?_;intro x hx)|(refine gJ ?_;intro j x hj hx)|refine gP ?_|refine gV ?_|refine gC (hC1) ?_|intro _))<;>try (conv=>whnf)
   all_goals first
    |(exfalso;omega)
    |(exfalso;exact absurd trivial (by assumption))
    |exact fv
 ·by_cases hc2:aH g.proj (g.lines++[bF g r]) (bA g)=0
  ·rw [hc2] at hC2
   have hl1:(wM g (bF g r) (bA g) (0+1)).length < 300:=Ig hc2
   (repeat' ((conv=>whnf);first|(exfalso;omega)|refine gA ?_|(refine gB ?_ ?_<;>intro h)|(refine gI ?_;intro x hx)|(refine gJ ?_;intro j x hj hx)|refine gP ?_|refine gV ?_|refine gC (hC2) ?_|intro _))<;>try (conv=>whnf)
   all_goals first
    |(exfalso;exact absurd trivial (by assumption))
    |(refine nw ((2)) ?_ ?_
      ·(repeat' ((conv=>whnf)<;>(first|exact trivial|exact rfl|with_reducible refine And.intro ?_ ?_)))<;>((conv=>whnf)<;>(simp [wM,bA,Rf]))
      exact⟨by omega,fun _=>h1 (by omega),fun _=>hc2⟩)
  ·obtain rfl:R=none:=by rw [hst,if_neg (fun h=>hc2 h.2)]
   (repeat' ((conv=>whnf);first|(exfalso;omega)|refine gA ?_|(refine gB ?_ ?_<;>intro h)|(refine gI ?_;intro x hx)|(refine gJ ?_;intro j x hj hx)|refine gP ?_|refine gV ?_|refine gC (hC2) ?_|intro _))<;>try (conv=>whnf)
   all_goals first
    |(exfalso;omega)
    |(exfalso;exact absurd trivial (by assumption))
    |exact fv
 ·obtain rfl:k=0:=by omega
  obtain rfl:R=some ⟨g.proj,g.dom,g.decs,g.lines++[bF g r]++[bA g]⟩:=by rw [hst,if_pos ⟨h1 (by omega),h2 (by omega)⟩]
  (repeat' ((conv=>whnf);first|(exfalso;omega)|refine gA ?_|(refine gB ?_ ?_<;>intro h)|(refine gI ?_;intro x hx)|(refine gJ ?_;intro j x hj hx)|refine gP ?_|refine gV ?_|intro _))<;>try (conv=>whnf)
  exact fv
end Go.Proofs.YtgkfifiobmklcaaGreat.Abs
