/- The laws' own functions: valid logs. No statement of a claim. -/
import Derived.Test.YtfhojdalheinaaaGreatC15
import Derived.Test.YtfhojdalheinaaaGreatLh
set_option linter.all false
set_option linter.unusedVariables false
set_option linter.unusedSimpArgs false
set_option maxRecDepth 20000
set_option maxHeartbeats 4000000
namespace Go.Proofs.YtfhojdalheinaaaGreat.Abs
open Go.Proofs
def szLog (x:Lg) (n:Int):Int:=szB (szProject x.proj n) fun n=>szB (szDomain x.dom n) fun n=>szB (szN x.decs.length n) fun n=>szB (szS (fun x n=>szLine x n) x.lines n) fun n=>n
theorem laws_szLog (x:Lg) (n:Int) (hn:Sz n) (hf:x.proj.fine):Con 19 [.d x.av,.d (i64 n)] (.d (i64 (szLog x n))):=by
 refine con Tryz.func19 rfl rfl Tryz.call19 rfl fun hwf=>?_
 have h0:Sz (szProject x.proj n):=szProject_ok hn
 have h1:Sz (szDomain x.dom (szProject x.proj n)):=szDomain_ok h0
 have h2:Sz (szN x.decs.length (szDomain x.dom (szProject x.proj n))):=szN_ok h1
 (repeat' ((conv=>whnf);first | refine gA ?_ | (refine gB ?_ ?_ <;> intro h) | refine gC (laws_szProject x.proj n hn hf) ?_ | refine gC (laws_szDomain x.dom _ h0) ?_ | refine gC (laws_szLiteralS x.decs _ h1) ?_ | refine gC (laws_szLineS x.lines _ h2) ?_ | intro _)) <;> try (conv=>whnf)
 all_goals refine⟨?_,rfl,trivial⟩
 all_goals (unfold szLog;simp only [szB, *,if_true,if_false,ite_true,ite_false])
theorem laws_toLog (x:Lg):Con 21 [.d x.av] (.d x.av):=by
 refine con Tryz.func21 rfl rfl Tryz.call21 rfl fun hwf=>?_
 (repeat' ((conv=>whnf);first | refine gA ?_ | (refine gB ?_ ?_ <;> intro h) | refine gC (laws_toProject x.proj) ?_ | refine gC (laws_toDomain x.dom) ?_ | refine gC (laws_toLiteralS x.decs) ?_ | refine gC (laws_toLineS x.lines) ?_ | intro _)) <;> try (conv=>whnf)
 exact⟨rfl,rfl,trivial⟩
theorem laws_eqLog (x:Lg):Con 24 [.d x.av,.d x.av] (.d (.bool true)):=by
 refine con Tryz.func24 rfl rfl Tryz.call24 rfl fun hwf=>?_
 (repeat' ((conv=>whnf);first | refine gA ?_ | (refine gB ?_ ?_ <;> intro h) | refine gC (laws_eqProject x.proj) ?_ | refine gC (laws_eqDomain x.dom) ?_ | refine gC (laws_eqLiteralS x.decs) ?_ | refine gC (laws_eqLineS x.lines) ?_ | intro _)) <;> try (conv=>whnf)
 all_goals exact⟨rfl,rfl,trivial⟩
end Go.Proofs.YtfhojdalheinaaaGreat.Abs
