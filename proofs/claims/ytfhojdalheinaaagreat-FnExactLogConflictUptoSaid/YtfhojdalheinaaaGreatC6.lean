/- Contracts: literals in domains, clauses in domains. No statement of a claim. -/
import Derived.Test.YtfhojdalheinaaaGreatC5
set_option linter.all false
set_option linter.unusedVariables false
set_option linter.unusedSimpArgs false
set_option maxRecDepth 20000
set_option maxHeartbeats 4000000
namespace Go.Proofs.YtfhojdalheinaaaGreat.Abs
open Go.Proofs
def sameAt (a b:List Int) (i:Nat):Bool:=decide (a.getD i 0=b.getD i 0)
theorem sameAt_all {a b:List Int} (h:a.length=b.length):decide (a=b)=allN a.length (sameAt a b):=by
 rw [Bool.eq_iff_iff,decide_eq_true_eq,allN_iff]
 constructor
 ·rintro rfl i hi;simp [sameAt]
 ·intro hh
  refine List.ext_getElem h fun i h1 h2=>?_
  have:=hh i h1
  simpa [sameAt,List.getD_eq_getElem?_getD,List.getElem?_eq_getElem h1,List.getElem?_eq_getElem h2] using this
theorem slices_Equal_int (a b:List Int):Con 394 [.d (ints a),.d (ints b)] (.d (.bool (decide (a=b)))):=by
 refine con Tryz.func394 rfl rfl Tryz.call394 rfl fun hwf=>?_
 simp only [ARs.wf,AR.wf,AV.wf,AV.wfs,List.length_map,lim] at hwf
 by_cases hl:a.length=b.length
 ·rw [sameAt_all hl]
  (repeat' ((conv=>whnf);first | (exfalso;omega) | refine gA ?_ | (refine gB ?_ ?_ <;> intro h) | (refine gI ?_;intro x hx) | (refine gJ ?_;intro j x hj hx) | refine gV ?_ | intro _)) <;> try (conv=>whnf)
  refine loopF [0,1,12] [] [] ?_
  (conv=>whnf)
  refine LoopC.go ((Nat)) (fun k=>(k≤a.length)∧(∀i,i < k→sameAt a b i=true)) (fun k=>[(13,.data (i64 k))]) (fun _=>[]) (fun _=>[]) (fun k=>a.length - k) (0) ?_ ?_
  ·exact⟨by omega,by omega⟩
  rintro k ⟨hk,hi⟩
  (repeat' ((conv=>whnf);first | refine gA ?_ | (refine gB ?_ ?_ <;> intro h) | (refine gI ?_;intro x hx) | (refine gJ ?_;intro j x hj hx) | refine gV ?_ | intro _)) <;> try (conv=>whnf)
  all_goals first
   | (refine⟨?_,rfl,trivial⟩;rw [allN_no k (by omega) (by simp [sameAt,List.getD_eq_getElem?_getD, *])];done)
   | (refine nx (k+1) ?_
      exact⟨by omega,allN_step hi (by simp [sameAt,List.getD_eq_getElem?_getD, *])⟩)
   | (refine⟨?_,rfl,trivial⟩;rw [allN_iff.2 fun i hh=>hi i (by omega)])
 ·(repeat' ((conv=>whnf);first | (exfalso;omega) | refine gA ?_ | (refine gB ?_ ?_ <;> intro h) | (refine gI ?_;intro x hx) | (refine gJ ?_;intro j x hj hx) | refine gV ?_ | intro _)) <;> try (conv=>whnf)
  all_goals first
   | (exfalso;omega)
   | (refine⟨?_,rfl,trivial⟩;simp;intro e;rw [e] at hl;exact hl rfl)
theorem impl_SetEqual (a b:List Int):Con 350 [.d (ints a),.d (ints b)] (.d (.bool (decide (a=b)))):=by
 refine con Tryz.func350 rfl rfl Tryz.call350 rfl fun hwf=>?_
 (repeat' ((conv=>whnf);first | refine gA ?_ | (refine gB ?_ ?_ <;> intro h) | refine gC (slices_Equal_int a b) ?_ | intro _)) <;> try (conv=>whnf)
 exact⟨rfl,rfl,trivial⟩
theorem impl_valueOf (a b:Bool):Con 349 [.d (.bool a),.d (.bool b)] (.d (i64 (valueOf a b))):=by
 refine con Tryz.func349 rfl rfl Tryz.call349 rfl fun hwf=>?_
 cases a <;> cases b
 all_goals ((repeat' ((conv=>whnf);first | refine gA ?_ | (refine gB ?_ ?_ <;> intro h) | intro _)) <;> try (conv=>whnf))
 all_goals exact⟨rfl,rfl,trivial⟩
theorem spec_l12Known (a b:Bool):Con 346 [.d (.bool a),.d (.bool b)] (.d (i64 (valueOf a b))):=by
 refine con Tryz.func346 rfl rfl Tryz.call346 rfl fun hwf=>?_
 cases a <;> cases b
 all_goals ((repeat' ((conv=>whnf);first | refine gA ?_ | (refine gB ?_ ?_ <;> intro h) | intro _)) <;> try (conv=>whnf))
 all_goals exact⟨rfl,rfl,trivial⟩
theorem valueOf_in (a b:Bool): -1≤valueOf a b∧valueOf a b≤1:=by cases a <;> cases b <;> simp [valueOf]
theorem valueOf_neg {m:List Int} {v:Int}:0 - valueOf (decide (m= [v])) (!m.contains v)=valueOf (!m.contains v) (decide (m= [v])):=by
 by_cases h:m= [v]
 ·subst h;simp [valueOf]
 ·cases hc:m.contains v <;> simp [valueOf,h]
theorem impl_LiteralValue (b:Dom) (l:Lit):Con 276 [.d b.av,.d l.av] (.d (i64 (litValue b l))):=by
 refine con Tryz.func276 rfl rfl Tryz.call276 rfl fun hwf=>?_
 cases hd:hasDom b l.act with
 | false=>
  (repeat' ((conv=>whnf);first | refine gA ?_ | (refine gB ?_ ?_ <;> intro h) | (refine gI ?_;intro x hx) | (refine gJ ?_;intro j x hj hx) | refine gV ?_ | refine gC (impl_has b _) ?_ | intro _)) <;> try (conv=>whnf)
  refine⟨?_,rfl,trivial⟩
  rw [litValue,if_neg (by simp [hd])]
 | true=>
  obtain⟨n,x,y,m,ha,hlo,hhi,hmo⟩:=hasDom_get hd
  have han:l.act.toNat=n:=by omega
  have hv:=valueOf_in (decide (m= [l.val])) (!m.contains l.val)
  (repeat' ((conv=>whnf);first | with_reducible refine Idx.got hlo ha ?_ | with_reducible refine Idx.got hhi ha ?_ | with_reducible refine Idx.got hmo ha ?_ | refine gA ?_ | (refine gB ?_ ?_ <;> intro h) | (refine gI ?_;intro x hx) | (refine gJ ?_;intro j x hj hx) | refine gV ?_ | refine gC (impl_has b _) ?_ | refine gC (impl_SetEqual m [l.val]) ?_ | refine gC (impl_SetHas m _) ?_ | refine gC (impl_valueOf _ _) ?_ | intro _)) <;> try (conv=>whnf)
  all_goals refine⟨?_,rfl,trivial⟩
  all_goals (rw [litValue,if_pos hd];simp only [han,List.getD_eq_getElem?_getD,hlo,hhi,hmo,Option.getD_some])
  all_goals first
   | (rw [if_pos (by assumption)];done)
   | (rw [if_neg (by assumption),if_pos (by assumption)];done)
   | (rw [if_neg (by assumption),if_neg (by assumption),if_pos (by assumption)];done)
   | (rw [if_neg (by assumption),if_neg (by assumption),if_neg (by assumption),if_pos (by assumption), ← valueOf_neg];done)
   | (rw [if_neg (by assumption),if_neg (by assumption),if_neg (by assumption),if_neg (by assumption)];done)
theorem spec_LiteralValue (b:Dom) (l:Lit):Con 272 [.d b.av,.d l.av] (.d (i64 (litValue b l))):=by
 refine con Tryz.func272 rfl rfl Tryz.call272 rfl fun hwf=>?_
 cases hd:hasDom b l.act with
 | false=>
  (repeat' ((conv=>whnf);first | refine gA ?_ | (refine gB ?_ ?_ <;> intro h) | (refine gI ?_;intro x hx) | (refine gJ ?_;intro j x hj hx) | refine gC (spec_l12There b _) ?_ | intro _)) <;> try (conv=>whnf)
  refine⟨?_,rfl,trivial⟩
  rw [litValue,if_neg (by simp [hd])]
 | true=>
  obtain⟨n,x,y,m,ha,hlo,hhi,hmo⟩:=hasDom_get hd
  have han:l.act.toNat=n:=by omega
  have fin:∀c:Bool,c=decide (m= [l.val])→∀v:Int,(v=if l.kind=1 then valueOf (decide (x≥l.val)) (decide (y < l.val)) else if l.kind=2 then valueOf (decide (y≤l.val)) (decide (x > l.val)) else if l.kind=3 then valueOf c (!m.contains l.val) else if l.kind=4 then valueOf (!m.contains l.val) c else 1)→v=litValue b l:=by
   rintro c rfl v rfl
   rw [litValue,if_pos hd];simp only [han,List.getD_eq_getElem?_getD,hlo,hhi,hmo,Option.getD_some]
  by_cases h1:m.length=1
  ·obtain⟨w,rfl⟩:=List.length_eq_one_iff.1 h1
   (repeat' ((conv=>whnf);first | with_reducible refine Idx.got hlo ha ?_ | with_reducible refine Idx.got hhi ha ?_ | with_reducible refine Idx.got hmo ha ?_ | (with_reducible refine Idx.got (l:=[w]) (k:=0) rfl (by rfl) ?_) | refine gA ?_ | (refine gB ?_ ?_ <;> intro h) | (refine gI ?_;intro x hx) | (refine gJ ?_;intro j x hj hx) | refine gC (spec_l12There b _) ?_ | refine gC (spec_SetHas _ _) ?_ | refine gC (spec_l12Known _ _) ?_ | intro _)) <;> try (conv=>whnf)
   all_goals first
    | (exfalso;simp at*;done)
    | (refine⟨?_,rfl,trivial⟩
       refine congrArg i64 (fin (decide (w=l.val)) (by simp) _ ?_)
       simp [*];done)
    | (obtain rfl:j=0:=by omega
       simp at hx
       subst hx
       refine⟨?_,rfl,trivial⟩
       refine congrArg i64 (fin (decide (w=l.val)) (by simp) _ ?_)
       simp [*];done)
  ·(repeat' ((conv=>whnf);first | (exfalso;omega) | with_reducible refine Idx.got hlo ha ?_ | with_reducible refine Idx.got hhi ha ?_ | with_reducible refine Idx.got hmo ha ?_ | refine gA ?_ | (refine gB ?_ ?_ <;> intro h) | (refine gI ?_;intro x hx) | (refine gJ ?_;intro j x hj hx) | refine gC (spec_l12There b _) ?_ | refine gC (spec_SetHas _ _) ?_ | refine gC (spec_l12Known _ _) ?_ | intro _)) <;> try (conv=>whnf)
   all_goals first
    | (refine⟨?_,rfl,trivial⟩
       refine congrArg i64 (fin false (by simp;rintro rfl;simp at h1) _ ?_)
       simp [*];done)
def RStat (r:Int×Lit):RV:=.tup [.d (i64 r.1),.d r.2.av]
theorem impl_ClauseStatus (b:Dom) (l:List Lit):Con 243 [.d b.av,.d (lits l)] (RStat (status b l)):=by
 refine con Tryz.func243 rfl rfl Tryz.call243 rfl fun hwf=>?_
 simp only [ARs.wf,AR.wf,AV.wf,AV.wfs,List.length_map,lim] at hwf
 (repeat' ((conv=>whnf);first | refine gA ?_ | (refine gB ?_ ?_ <;> intro h) | (refine gI ?_;intro x hx) | (refine gJ ?_;intro j x hj hx) | refine gV ?_ | intro _)) <;> try (conv=>whnf)
 refine loopF [2,5,7,11,12] [2,5] [] ?_
 (conv=>whnf)
 refine LoopC.go ((Nat)×(Nat)×(Lit)) (fun⟨k,n,y⟩=>(k≤l.length)∧(n≤k)∧(statusFrom b (l.drop k) n y=status b l)) (fun⟨k,n,y⟩=>[(13,.data (i64 k)),(6,.data (i64 n))]) (fun⟨k,n,y⟩=>[(7,(AV.cells y.av).map SV.data)]) (fun _=>[]) (fun⟨k,n,y⟩=>l.length - k) ⟨0,0,zeroLit⟩ ?_ ?_
 ·exact⟨by omega,by omega,rfl⟩
 rintro⟨k,n,y⟩ ⟨hk,hn,hi⟩
 (repeat' ((conv=>whnf);first | refine gA ?_ | (refine gB ?_ ?_ <;> intro h) | (refine gI ?_;intro x hx) | (refine gJ ?_;intro j x hj hx) | refine gV ?_ | refine gC (impl_LiteralValue b _) ?_ | intro _)) <;> try (conv=>whnf)
 ·rw [drop_get hx,statusFrom,if_pos h] at hi
  rw [← hi]
  (repeat' ((conv=>whnf) <;> (first | exact trivial | exact VC.nod (by kernel_rfl) | refine VC.mk rfl ?_)))
 ·refine nx ⟨k+1,n+1,x⟩ ?_
  rw [drop_get hx,statusFrom,if_neg (by assumption),if_pos (by assumption)] at hi
  exact⟨by omega,by omega,hi⟩
 ·refine nx ⟨k+1,n,y⟩ ?_
  rw [drop_get hx,statusFrom,if_neg (by assumption),if_neg (by assumption)] at hi
  exact⟨by omega,by omega,hi⟩
 all_goals rw [drop_end' (by assumption),statusFrom] at hi
 ·rw [if_pos h] at hi;rw [← hi];(repeat' ((conv=>whnf) <;> (first | exact trivial | exact VC.nod (by kernel_rfl) | refine VC.mk rfl ?_)))
 ·rw [if_neg (by assumption),if_pos (by omega)] at hi;rw [← hi];(repeat' ((conv=>whnf) <;> (first | exact trivial | exact VC.nod (by kernel_rfl) | refine VC.mk rfl ?_)))
 ·rw [if_neg (by assumption),if_neg (by omega)] at hi;rw [← hi];(repeat' ((conv=>whnf) <;> (first | exact trivial | exact VC.nod (by kernel_rfl) | refine VC.mk rfl ?_)))
theorem spec_ClauseStatus (b:Dom) (l:List Lit):Con 271 [.d b.av,.d (lits l)] (RStat (status b l)):=by
 refine con Tryz.func271 rfl rfl Tryz.call271 rfl fun hwf=>?_
 simp only [ARs.wf,AR.wf,AV.wf,AV.wfs,List.length_map,lim] at hwf
 (repeat' ((conv=>whnf);first | refine gA ?_ | (refine gB ?_ ?_ <;> intro h) | (refine gI ?_;intro x hx) | (refine gJ ?_;intro j x hj hx) | refine gV ?_ | intro _)) <;> try (conv=>whnf)
 refine loopF [2,5,7,11,12] [2,5] [] ?_
 (conv=>whnf)
 refine LoopC.go ((Nat)×(Nat)×(Lit)) (fun⟨k,n,y⟩=>(k≤l.length)∧(n≤k)∧(statusFrom b (l.drop k) n y=status b l)) (fun⟨k,n,y⟩=>[(13,.data (i64 k)),(6,.data (i64 n))]) (fun⟨k,n,y⟩=>[(7,(AV.cells y.av).map SV.data)]) (fun _=>[]) (fun⟨k,n,y⟩=>l.length - k) ⟨0,0,zeroLit⟩ ?_ ?_
 ·exact⟨by omega,by omega,rfl⟩
 rintro⟨k,n,y⟩ ⟨hk,hn,hi⟩
 (repeat' ((conv=>whnf);first | refine gA ?_ | (refine gB ?_ ?_ <;> intro h) | (refine gI ?_;intro x hx) | (refine gJ ?_;intro j x hj hx) | refine gV ?_ | refine gC (spec_LiteralValue b _) ?_ | intro _)) <;> try (conv=>whnf)
 ·rw [drop_get hx,statusFrom,if_pos h] at hi
  rw [← hi]
  (repeat' ((conv=>whnf) <;> (first | exact trivial | exact VC.nod (by kernel_rfl) | refine VC.mk rfl ?_)))
 ·refine nx ⟨k+1,n+1,x⟩ ?_
  rw [drop_get hx,statusFrom,if_neg (by assumption),if_pos (by assumption)] at hi
  exact⟨by omega,by omega,hi⟩
 ·refine nx ⟨k+1,n,y⟩ ?_
  rw [drop_get hx,statusFrom,if_neg (by assumption),if_neg (by assumption)] at hi
  exact⟨by omega,by omega,hi⟩
 all_goals rw [drop_end' (by assumption),statusFrom] at hi
 ·rw [if_pos h] at hi;rw [← hi];(repeat' ((conv=>whnf) <;> (first | exact trivial | exact VC.nod (by kernel_rfl) | refine VC.mk rfl ?_)))
 ·rw [if_neg (by assumption),if_neg (by omega)] at hi;rw [← hi];(repeat' ((conv=>whnf) <;> (first | exact trivial | exact VC.nod (by kernel_rfl) | refine VC.mk rfl ?_)))
 ·rw [if_neg (by assumption),if_pos (by omega)] at hi;rw [← hi];(repeat' ((conv=>whnf) <;> (first | exact trivial | exact VC.nod (by kernel_rfl) | refine VC.mk rfl ?_)))
theorem impl_hasResource (p:Proj) (n:Int):Con 203 [.d p.av,.d (i64 n)] (.d (.bool (hasRes p n))):=by
 refine con Tryz.func203 rfl rfl Tryz.call203 rfl fun hwf=>?_
 simp only [ARs.wf,AR.wf,AV.wf,AV.wfs,List.length_map,lim] at hwf
 (repeat' ((conv=>whnf);first | refine gA ?_ | (refine gN ?_ ?_ <;> intro h hw) | (refine gB ?_ ?_ <;> intro h) | refine gV ?_ | refine gC (impl_within _ _ _) ?_ | intro _)) <;> try (conv=>whnf)
 refine⟨?_,rfl,trivial⟩
 simp [hasRes]
theorem impl_hasStock (p:Proj) (n:Int):Con 358 [.d p.av,.d (i64 n)] (.d (.bool (hasStock p n))):=by
 refine con Tryz.func358 rfl rfl Tryz.call358 rfl fun hwf=>?_
 simp only [ARs.wf,AR.wf,AV.wf,AV.wfs,List.length_map,lim] at hwf
 (repeat' ((conv=>whnf);first | refine gA ?_ | (refine gN ?_ ?_ <;> intro h hw) | (refine gB ?_ ?_ <;> intro h) | refine gV ?_ | refine gC (impl_within _ _ _) ?_ | intro _)) <;> try (conv=>whnf)
 refine⟨?_,rfl,trivial⟩
 simp [hasStock]
theorem hasRes_get {p:Proj} {a:Int} (h:hasRes p a=true):∃(n:Nat) (x:Resrc),a=n∧p.ress[n]? =some x:=by
 have hn:=within_iff.1 h
 exact⟨a.toNat,p.ress[a.toNat]'(by omega),by omega,by simp⟩
theorem impl_IsMachine (p:Proj) (r:Int):Con 297 [.d p.av,.d (i64 r)] (.d (.bool (isMach p r))):=by
 refine con Tryz.func297 rfl rfl Tryz.call297 rfl fun hwf=>?_
 simp only [ARs.wf,AR.wf,AV.wf,AV.wfs,List.length_map,lim] at hwf
 cases hr:hasRes p r with
 | false=>
  (repeat' ((conv=>whnf);first | refine gA ?_ | (refine gB ?_ ?_ <;> intro h) | (refine gI ?_;intro x hx) | (refine gJ ?_;intro j x hj hx) | refine gC (impl_hasResource p _) ?_ | intro _)) <;> try (conv=>whnf)
  refine⟨?_,rfl,trivial⟩
  simp [isMach,hr]
 | true=>
  obtain⟨n,x,ha,hx⟩:=hasRes_get hr
  have e:r.toNat=n:=by omega
  (repeat' ((conv=>whnf);first | with_reducible refine Idx.got hx ha ?_ | refine gA ?_ | (refine gB ?_ ?_ <;> intro h) | (refine gI ?_;intro x hx) | (refine gJ ?_;intro j x hj hx) | refine gC (impl_hasResource p _) ?_ | intro _)) <;> try (conv=>whnf)
  refine⟨?_,rfl,trivial⟩
  simp [isMach,hr,e,List.getD_eq_getElem?_getD,hx]
theorem spec_IsMachine (p:Proj) (r:Int):Con 281 [.d p.av,.d (i64 r)] (.d (.bool (isMach p r))):=by
 refine con Tryz.func281 rfl rfl Tryz.call281 rfl fun hwf=>?_
 simp only [ARs.wf,AR.wf,AV.wf,AV.wfs,List.length_map,lim] at hwf
 cases hr:hasRes p r with
 | false=>
  have hr':within r 0 (((p.ress.map Resrc.av).length:Int) - 1)=false:=by rw [List.length_map];exact hr
  (repeat' ((conv=>whnf);first | refine gA ?_ | (refine gN ?_ ?_ <;> intro h hw) | (refine gB ?_ ?_ <;> intro h) | (refine gI ?_;intro x hx) | (refine gJ ?_;intro j x hj hx) | refine gV ?_ | refine gC (spec_in _ _ _) ?_ | intro _)) <;> try (conv=>whnf)
  refine⟨?_,rfl,trivial⟩
  simp [isMach,hr]
 | true=>
  have hr':within r 0 (((p.ress.map Resrc.av).length:Int) - 1)=true:=by rw [List.length_map];exact hr
  obtain⟨n,x,ha,hx⟩:=hasRes_get hr
  have e:r.toNat=n:=by omega
  (repeat' ((conv=>whnf);first | with_reducible refine Idx.got hx ha ?_ | refine gA ?_ | (refine gN ?_ ?_ <;> intro h hw) | (refine gB ?_ ?_ <;> intro h) | (refine gI ?_;intro x hx) | (refine gJ ?_;intro j x hj hx) | refine gV ?_ | refine gC (spec_in _ _ _) ?_ | intro _)) <;> try (conv=>whnf)
  refine⟨?_,rfl,trivial⟩
  simp [isMach,hr,e,List.getD_eq_getElem?_getD,hx]
theorem impl_RuleOk (p:Proj) (r:Rul) (hp:p.fine):Con 331 [.d p.av,.d r.av] (.d (.bool (ruleOk p r))):=by
 refine con Tryz.func331 rfl rfl Tryz.call331 rfl fun hwf=>?_
 simp only [ARs.wf,AR.wf,AV.wf,AV.wfs,List.length_map,lim] at hwf
 (repeat' ((conv=>whnf);first | refine gA ?_ | (refine gN ?_ ?_ <;> intro h hw) | (refine gB ?_ ?_ <;> intro h) | refine gV ?_ | refine gC (impl_ProjectOk p hp) ?_ | refine gC (impl_hasActivity p _) ?_ | refine gC (impl_hasResource p _) ?_ | refine gC (impl_hasStock p _) ?_ | refine gC (impl_IsMachine p _) ?_ | refine gC (impl_isTime _) ?_ | refine gC (impl_within _ _ _) ?_ | intro _)) <;> try (conv=>whnf)
 all_goals refine⟨?_,rfl,trivial⟩
 all_goals (simp [ruleOk, *];done)
theorem spec_RuleOk (p:Proj) (r:Rul) (hp:p.fine):Con 325 [.d p.av,.d r.av] (.d (.bool (ruleOk p r))):=by
 refine con Tryz.func325 rfl rfl Tryz.call325 rfl fun hwf=>?_
 simp only [ARs.wf,AR.wf,AV.wf,AV.wfs,List.length_map,lim] at hwf
 (repeat' ((conv=>whnf);first | refine gA ?_ | (refine gN ?_ ?_ <;> intro h hw) | (refine gB ?_ ?_ <;> intro h) | refine gV ?_ | refine gC (spec_ProjectOk p hp) ?_ | refine gC (spec_IsMachine p _) ?_ | refine gC (spec_in _ _ _) ?_ | intro _)) <;> try (conv=>whnf)
 all_goals refine⟨?_,rfl,trivial⟩
 all_goals (simp [ruleOk,hasAct,hasRes,hasStock,isTime, *];done)
end Go.Proofs.YtfhojdalheinaaaGreat.Abs
