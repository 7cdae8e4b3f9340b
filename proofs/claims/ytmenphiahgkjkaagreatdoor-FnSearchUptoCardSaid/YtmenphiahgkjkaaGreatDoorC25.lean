/- Contracts: a clause is shortened. -/
import Derived.Test.YtmenphiahgkjkaaGreatDoorC11
import Derived.Test.YtmenphiahgkjkaaGreatDoorWo
set_option linter.all false
set_option maxRecDepth 20000
set_option maxHeartbeats 0
namespace Go.Proofs.YtmenphiahgkjkaaGreatDoor.Abs
open Go.Proofs
def eP (p:Proj) (r:Rul) (keeps:Lit→Bool) (out:List Lit) (x:Lit):List Lit:=
 if keeps x=true then out else if refutes p (fP p (nk out x)) r=true then nk out x else out
def pR (p:Proj) (r:Rul) (keeps:Lit→Bool) (l:List Lit):List Lit:=l.foldl (eP p r keeps) l
theorem GJ {α β:Type} {f:β→α→β} {l:List α} {k:Nat} {x:α} {o:β} (h:l[k]? =some x):(l.drop k).foldl f o=(l.drop (k+1)).foldl f (f o x):=by
 obtain⟨hk,rfl⟩:=List.getElem?_eq_some_iff.1 h
 rw [List.drop_eq_getElem_cons hk,List.foldl_cons]
theorem tN (p:Proj) (r:Rul) (l:List Lit) (fc:Nat) (caps:List AV) (keeps:Lit→Bool) (hp:p.fine) (hc:∀x:Lit,Con fc ([.d x.av]++caps.map .ref) (.d (.bool (keeps x)))):
  Con 125 [.d p.av,.d r.av,.d (lits l),.fn fc caps] (.lin 79 ((pR p r keeps l).map Lit.av)):=by
 refine con Tryz.func125 rfl rfl Tryz.call125 rfl fun hwf=>?_
 simp only [ARs.wf,AR.wf,AV.wf,AV.wfs,lm,lim] at hwf
 (repeat' ((conv=>whnf);first|refine gA ?_|(refine gB ?_ ?_<;>intro h)|(refine gI ?_;intro x hx)|(refine gJ ?_;intro j x hj hx)|refine gV ?_|refine gC (Na l) ?_|intro _))<;>try (conv=>whnf)
 refine aB [3,4,5,15,16] [4,5] [15000] ?_
 (conv=>whnf)
 refine aA.go ((Nat)×(List Lit)) (fun⟨k,o⟩=>(k≤l.length)∧(o.length≤l.length)∧((l.drop k).foldl (eP p r keeps) o=pR p r keeps l)) (fun⟨k,o⟩=>[(17,.data (i64 k)),(9,.own 15000 0)]) (fun _=>[]) (fun⟨k,o⟩=>[(15000,79,o.map Lit.av,2)]) (fun⟨k,o⟩=>l.length - k) ⟨0,l⟩ ?_ ?_
 ·exact⟨Nat.zero_le _,Nat.le_refl _,rfl⟩
 rintro⟨k,o⟩ ⟨hk,ho,he⟩
 (repeat' ((conv=>whnf);first|refine gA ?_|(refine gB ?_ ?_<;>intro h)|(refine gI ?_;intro x hx)|(refine gJ ?_;intro j x hj hx)|refine gV ?_|refine gC (hc x) ?_|refine gC (Dj o x) ?_|refine gC (nL p (nk o x) hp) ?_|refine gC (iG p (fP p (nk o x)) r hp) ?_|intro _))<;>try (conv=>whnf)
 ·refine nx ⟨k+1,o⟩ ?_
  rw [GJ hx,eP,if_pos h] at he
  exact⟨by omega,ho,he⟩
 ·refine nx ⟨k+1,nk o x⟩ ?_
  rw [GJ hx,eP,if_neg (by simp [*]),if_pos h] at he
  exact⟨by omega,Nat.le_trans (List.length_filter_le _ _) ho,he⟩
 ·refine nx ⟨k+1,o⟩ ?_
  rw [GJ hx,eP,if_neg (by simp [*]),if_neg (by simp [*])] at he
  exact⟨by omega,ho,he⟩
 ·refine⟨?_,rfl,trivial⟩
  rw [bC (by assumption)] at he
  rw [← he];rfl
theorem Ls (p:Proj) (r:Rul) (l:List Lit) (fc:Nat) (caps:List AV) (keeps:Lit→Bool) (hp:p.fine) (hc:∀x:Lit,Con fc ([.d x.av]++caps.map .ref) (.d (.bool (keeps x)))):
  Con 125 [.d p.av,.d r.av,.d (lits l),.fn fc caps] (.fr ((pR p r keeps l).map Lit.av)):=(tN p r l fc caps keeps hp hc).abC
theorem XG {a b:Lit}:kg a b < 0↔a.act < b.act∨(a.act=b.act∧(a.kind < b.kind∨(a.kind=b.kind∧a.val < b.val))):=by
 simp only [kg,orI,KA]
 repeat' split
 all_goals omega
end Go.Proofs.YtmenphiahgkjkaaGreatDoor.Abs
