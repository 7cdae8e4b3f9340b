/- Contracts: restricted domains. No statement of a claim. -/
import Derived.Test.YtepogmnolnlpmaaGreatC11
import Derived.Test.YtepogmnolnlpmaaGreatPlain
set_option linter.all false
set_option linter.unusedVariables false
set_option linter.unusedSimpArgs false
set_option maxRecDepth 20000
set_option maxHeartbeats 4000000
namespace Go.Proofs.YtepogmnolnlpmaaGreat.Abs
open Go.Proofs
theorem domForm_mk {p:Proj} {b:Dom} (h1:projOk p=true) (h2:b.lo.length=p.acts.length) (h3:b.hi.length=p.acts.length) (h4:b.modes.length=p.acts.length) (h5:∀k,k < p.acts.length→domAt p b k=true):domForm p b=true:=by
 simp only [domForm,Bool.and_eq_true,allN_iff,Bool.not_eq_true',decide_eq_false_iff_not]
 exact⟨⟨⟨⟨h1,by omega⟩,by omega⟩,by omega⟩,h5⟩
theorem subset_filter {m:List Int} {r:List Int} (f:Int→Bool) (h:subset m r=true):subset (m.filter f) r=true:=by
 simp only [subset,List.all_eq_true] at h ⊢
 intro x hx
 exact h x (List.mem_filter.1 hx).1
theorem restrict_form {p:Proj} {b:Dom} (h:domForm p b=true) (l:Lit):domForm p (restrict b l)=true:=by
 obtain⟨h1,h2,h3,h4,h5⟩:=domForm_parts h
 unfold restrict
 split
 ·rename_i hd
  obtain⟨n,e1,e2,e3,e4,e5⟩:=hasDom_lt hd
  have hc:=clamped_in l.val
  have hn:n < p.acts.length:=by omega
  have hdn:=h5 n hn
  have g1:b.lo[n]? =some (b.lo[n]'e3):=by simp
  have g2:b.hi[n]? =some (b.hi[n]'e4):=by simp
  have g3:b.modes[n]? =some (b.modes[n]'e5):=by simp
  have g4:p.acts[n]? =some (p.acts[n]'hn):=by simp
  simp only [domAt,g1,g2,g3,g4,Bool.and_eq_true,isStart,within_iff] at hdn
  dsimp only
  rw [e2]
  simp only [List.getD_eq_getElem?_getD,g1,g2,g3,Option.getD_some]
  have key:∀b':Dom,b'.lo.length=b.lo.length→b'.hi.length=b.hi.length→b'.modes.length=b.modes.length→(∀k,k≠n→b'.lo[k]? =b.lo[k]? ∧b'.hi[k]? =b.hi[k]? ∧b'.modes[k]? =b.modes[k]?)→domAt p b' n=true→domForm p b'=true:=by
   intro b' k1 k2 k3 k4 k5
   refine domForm_mk h1 (by omega) (by omega) (by omega) fun k hk=>?_
   by_cases e:k=n
   ·rw [e];exact k5
   ·obtain⟨j1,j2,j3⟩:=k4 k e
    have:=h5 k hk
    simp only [domAt,j1,j2,j3] at this ⊢
    exact this
  split
  ·refine key _ (by simp) rfl rfl (fun k hk=>⟨by simp [List.getElem?_set,Ne.symm hk],rfl,rfl⟩) ?_
   simp only [domAt,List.getElem?_set_self e3,g2,g3,g4,Bool.and_eq_true,isStart,within_iff]
   exact⟨⟨⟨by omega,hdn.1.1.2⟩,hdn.1.2⟩,hdn.2⟩
  split
  ·refine key _ rfl (by simp) rfl (fun k hk=>⟨rfl,by simp [List.getElem?_set,Ne.symm hk],rfl⟩) ?_
   simp only [domAt,List.getElem?_set_self e4,g1,g3,g4,Bool.and_eq_true,isStart,within_iff]
   exact⟨⟨⟨hdn.1.1.1,by omega⟩,hdn.1.2⟩,hdn.2⟩
  split
  ·refine key _ rfl rfl (by simp) (fun k hk=>⟨rfl,rfl,by simp [List.getElem?_set,Ne.symm hk]⟩) ?_
   simp only [domAt,List.getElem?_set_self e5,g1,g2,g4,Bool.and_eq_true,isStart,within_iff]
   exact⟨⟨hdn.1.1,filter_setOk hdn.1.2⟩,subset_filter _ hdn.2⟩
  split
  ·refine key _ rfl rfl (by simp) (fun k hk=>⟨rfl,rfl,by simp [List.getElem?_set,Ne.symm hk]⟩) ?_
   simp only [domAt,List.getElem?_set_self e5,g1,g2,g4,Bool.and_eq_true,isStart,within_iff]
   exact⟨⟨hdn.1.1,filter_setOk hdn.1.2⟩,subset_filter _ hdn.2⟩
  ·exact h
 ·exact h
end Go.Proofs.YtepogmnolnlpmaaGreat.Abs
set_option linter.unusedVariables false
set_option linter.unusedSimpArgs false
set_option maxRecDepth 20000
set_option maxHeartbeats 4000000
namespace Go.Proofs.YtepogmnolnlpmaaGreat.Abs
open Go.Proofs
theorem other {m:List Int} {v:Int} (hs:setOk m=true) (hv:v∈m) (hne:m≠[v]):∃w∈m,w≠v:=by
 have hp:=setOk_pw hs
 match m,hv,hne,hp with
 | [x],hv,hne,_=>simp at hv;subst hv;exact absurd rfl hne
 | x::y::r,_,_,hp=>
  have:x < y:=(List.pairwise_cons.1 hp).1 y (by simp)
  by_cases e:x=v
  ·exact⟨y,by simp,by omega⟩
  ·exact⟨x,by simp,e⟩
def RUp (r:Dom×Bool):RV:=.tup [.d r.1.av,.d (.bool r.2)]
def stepOf (list:List (List Lit)) (b:Dom):Int×Lit:=
 match list.find? (bites b) with
 | none=>(0,zeroLit)
 | some l=>if (status b l).1 < 0 then (1,zeroLit) else (2,(status b l).2)
end Go.Proofs.YtepogmnolnlpmaaGreat.Abs
set_option linter.unusedVariables false
set_option linter.unusedSimpArgs false
set_option maxRecDepth 20000
set_option maxHeartbeats 4000000
namespace Go.Proofs.YtepogmnolnlpmaaGreat.Abs
open Go.Proofs
end Go.Proofs.YtepogmnolnlpmaaGreat.Abs
set_option linter.unusedVariables false
set_option linter.unusedSimpArgs false
set_option maxRecDepth 20000
set_option maxHeartbeats 4000000
namespace Go.Proofs.YtepogmnolnlpmaaGreat.Abs
open Go.Proofs
def RInts (r:Int×Int):RV:=.tup [.d (i64 r.1),.d (i64 r.2)]
def lastOk (x:Lit):List Lit→Bool
 | []=>true
 | [y]=>sameLit y x
 | _=>false
end Go.Proofs.YtepogmnolnlpmaaGreat.Abs
set_option linter.unusedVariables false
set_option linter.unusedSimpArgs false
set_option maxRecDepth 20000
set_option maxHeartbeats 4000000
namespace Go.Proofs.YtepogmnolnlpmaaGreat.Abs
open Go.Proofs
def RProj (r:Proj×Bool):RV:=.tup [.d r.1.av,.d (.bool r.2)]
end Go.Proofs.YtepogmnolnlpmaaGreat.Abs
set_option linter.unusedVariables false
set_option linter.unusedSimpArgs false
set_option maxRecDepth 20000
set_option maxHeartbeats 4000000
namespace Go.Proofs.YtepogmnolnlpmaaGreat.Abs
open Go.Proofs
def noLin:Lin:=⟨0,⟨0,0,0,0⟩,[]⟩
def lineAt (ls:List Lin) (i:Int):Lin:=ls.getD i.toNat noLin
def pickL (ls:List Lin) (idx:List Int):List Lin:=idx.map (lineAt ls)
def without (o:List Int) (n:Int):List Int:=o.filter fun k=>decide (k≠n)
def thin (p:Proj) (ls:List Lin):Nat→List Int→List Int
 | 0,o=>o
 | r+1,o=>thin p ls r (if isChecked p (pickL ls (without o r))=true then without o r else o)
def needed (p:Proj) (ls:List Lin):List Int:=if isChecked p ls=true then thin p ls (ls.length - 1) (upTo ls.length) else upTo ls.length
end Go.Proofs.YtepogmnolnlpmaaGreat.Abs
