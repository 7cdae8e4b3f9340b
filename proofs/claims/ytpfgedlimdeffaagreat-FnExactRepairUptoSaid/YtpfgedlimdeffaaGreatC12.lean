/- Contracts: restricted domains. -/
import Derived.Test.YtpfgedlimdeffaaGreatC11
import Derived.Test.YtpfgedlimdeffaaGreatPlain
set_option linter.all false
set_option maxRecDepth 20000
set_option maxHeartbeats 0
namespace Go.Proofs.YtpfgedlimdeffaaGreat.Abs
open Go.Proofs
open Go.Proofs
theorem other {m:List Int} {v:Int} (hs:qU m=true) (hv:v∈m) (hne:m≠[v]):∃w∈m,w≠v:=by
 have hp:=MU hs
 match m,hv,hne,hp with
 |[x],hv,hne,_=>simp at hv;subst hv;exact absurd rfl hne
 |x::y::r,_,_,hp=>
  have:x < y:=(List.pairwise_cons.1 hp).1 y (by simp)
  by_cases e:x=v
  ·exact⟨y,by simp,by omega⟩
  ·exact⟨x,by simp,e⟩
end Go.Proofs.YtpfgedlimdeffaaGreat.Abs
namespace Go.Proofs.YtpfgedlimdeffaaGreat.Abs
open Go.Proofs
open Go.Proofs
end Go.Proofs.YtpfgedlimdeffaaGreat.Abs
namespace Go.Proofs.YtpfgedlimdeffaaGreat.Abs
open Go.Proofs
theorem zT (l:List Step):Con 116 [.d (.sl (l.map Step.av))] (.own 131 (l.map Step.av)):=by
 refine con Tryz.func116 rfl rfl Tryz.call116 rfl fun hwf=>?_
 simp only [ARs.wf,AR.wf,AV.wf,AV.wfs,lm,lim] at hwf
 (repeat' ((conv=>whnf);first|refine gA ?_|refine Uy.mk (fun h=>?_) ?_|(refine gB ?_ ?_<;>intro h)|refine gP ?_|intro _))<;>try (conv=>whnf)
 ·exact⟨h,rfl,trivial⟩
 ·exact⟨by simp,rfl,trivial⟩
theorem zU (l:List Link):Con 115 [.d (.sl (l.map Link.av))] (.own 112 (l.map Link.av)):=by
 refine con Tryz.func115 rfl rfl Tryz.call115 rfl fun hwf=>?_
 simp only [ARs.wf,AR.wf,AV.wf,AV.wfs,lm,lim] at hwf
 (repeat' ((conv=>whnf);first|refine gA ?_|refine Uy.mk (fun h=>?_) ?_|(refine gB ?_ ?_<;>intro h)|refine gP ?_|intro _))<;>try (conv=>whnf)
 ·exact⟨h,rfl,trivial⟩
 ·exact⟨by simp,rfl,trivial⟩
theorem lq {α:Type} {l o:List α} {k:Nat} {x:α} (h:l[k]? =some x) (ho:o=l.take k):o++[x]=l.take (k+1):=by
 rw [ho,List.take_add_one,h];rfl
theorem nV {α:Type} {l o:List α} {k:Nat} (h:¬ k < l.length) (ho:o=l.take k):o=l:=by
 rw [ho,List.take_of_length_le (by omega)]
theorem take_len {α:Type} {l o:List α} {k:Nat} (ho:o=l.take k):o.length≤k:=by rw [ho];simp;omega
def qw (r:Proj×Bool):RV:=.tup [.d r.1.av,.d (.bool r.2)]
open Go.Proofs
end Go.Proofs.YtpfgedlimdeffaaGreat.Abs
