/- Contracts: sets that grow. -/
import Derived.Test.YtpfgedlimdeffaaGreatSet
import Derived.Test.YtpfgedlimdeffaaGreatC9
set_option linter.all false
set_option maxRecDepth 20000
set_option maxHeartbeats 0
namespace Go.Proofs.YtpfgedlimdeffaaGreat.Abs
open Go.Proofs
theorem Nt (l:List Int):(setOf l).Pairwise (· < ·):=(oW (l:=l) (o:=[]) List.Pairwise.nil).1
theorem wO {l:List Int} {x:Int}:x∈setOf l↔x∈l:=by
 have:=(oW (l:=l) (o:=[]) List.Pairwise.nil).2 x
 exact this.trans (by simp)
theorem Rt (l:List Int) (n:Int):jK (setOf l) n=setOf (l++[n]):=by rw [setOf,setOf,List.foldl_append];rfl
theorem CQ (l:List Int) (n:Int) (hl:l.length < lim):Con 64 [.d (ints l),.d (i64 n)] (.d (ints (setOf (l++[n])))):=by
 refine con Tryz.func64 rfl rfl Tryz.call64 rfl fun hwf=>?_
 have h1:=IW l
 rw [← Rt]
 (repeat' ((conv=>whnf);first|refine gA ?_|(refine gB ?_ ?_<;>intro h)|refine gC (OP l) ?_|refine gC (Cy (setOf l) n (by omega)) ?_|intro _))<;>try (conv=>whnf)
 exact⟨rfl,rfl,trivial⟩
theorem Bh {p:Proj} {k:Nat} {a:au} (h:p.acts[k]? =some a):jG p k=a:=by simp [jG,List.getD_eq_getElem?_getD,h]
theorem IX {p:Proj} (ho:aY p=true) {k:Nat} {a:au} (h:p.acts[k]? =some a):a.modes.length≤3:=by
 have:=(fE ho).act k a h
 simp only [dH,Bool.and_eq_true,within_iff] at this
 omega
end Go.Proofs.YtpfgedlimdeffaaGreat.Abs
