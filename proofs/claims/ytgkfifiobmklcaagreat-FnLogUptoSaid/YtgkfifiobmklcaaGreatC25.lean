/- Contracts: a clause is shortened. -/
import Derived.Test.YtgkfifiobmklcaaGreatC11
import Derived.Test.YtgkfifiobmklcaaGreatWo
set_option linter.all false
set_option maxRecDepth 20000
set_option maxHeartbeats 0
namespace Go.Proofs.YtgkfifiobmklcaaGreat.Abs
open Go.Proofs
def eY (p:Proj) (r:Rul) (keeps:Lit→Bool) (out:List Lit) (x:Lit):List Lit:=
 if keeps x=true then out else if refutes p (fq p (nG out x)) r=true then nG out x else out
def qc (p:Proj) (r:Rul) (keeps:Lit→Bool) (l:List Lit):List Lit:=l.foldl (eY p r keeps) l
theorem Ia {α β:Type} {f:β→α→β} {l:List α} {k:Nat} {x:α} {o:β} (h:l[k]? =some x):(l.drop k).foldl f o=(l.drop (k+1)).foldl f (f o x):=by
 obtain⟨hk,rfl⟩:=List.getElem?_eq_some_iff.1 h
 rw [List.drop_eq_getElem_cons hk,List.foldl_cons]
theorem tN (p:Proj) (r:Rul) (l:List Lit) (fc:Nat) (caps:List AV) (keeps:Lit→Bool) (hp:p.fine) (hc:∀x:Lit,Con fc ([.d x.av]++caps.map .ref) (.d (.bool (keeps x)))):
  Con 109 [.d p.av,.d r.av,.d (lits l),.fn fc caps] (.lin 39 ((qc p r keeps l).map Lit.av)):=by
 refine con Tryz.func109 rfl rfl Tryz.call109 rfl fun hwf=>?_
 simp only [ARs.wf,AR.wf,AV.wf,AV.wfs,lm,lim] at hwf
 (repeat' ((conv=>whnf);first|refine gA ?_|(refine gB ?_ ?_<;>intro h)|(refine gI ?_;intro x hx)|(refine gJ ?_;intro j x hj hx)|refine gV ?_|refine gC (Oe l) ?_|intro _))<;>try (conv=>whnf)
 refine aB [3,4,5,15,16] [4,5] [15000] ?_
 (conv=>whnf)
 refine aA.go ((Nat)×(List Lit)) (fun⟨k,o⟩=>(k≤l.length)∧(o.length≤l.length)∧((l.drop k).foldl (eY p r keeps) o=qc p r keeps l)) (fun⟨k,o⟩=>[(17,.data (i64 k)),(9,.own 15000 0)]) (fun _=>[]) (fun⟨k,o⟩=>[(15000,39,o.map Lit.av,2)]) (fun⟨k,o⟩=>l.length - k) ⟨0,l⟩ ?_ ?_
 ·exact⟨Nat.zero_le _,Nat.le_refl _,rfl⟩
 rintro⟨k,o⟩ ⟨hk,ho,he⟩
 (repeat' ((conv=>whnf);first|refine gA ?_|(refine gB ?_ ?_<;>intro h)|(refine gI ?_;intro x hx)|(refine gJ ?_;intro j x hj hx)|refine gV ?_|refine gC (hc x) ?_|refine gC (Dx o x) ?_|refine gC (nL p (nG o x) hp) ?_|refine gC (iF p (fq p (nG o x)) r hp) ?_|intro _))<;>try (conv=>whnf)
 ·refine nx ⟨k+1,o⟩ ?_
  rw [Ia hx,eY,if_pos h] at he
  exact⟨by omega,ho,he⟩
 ·refine nx ⟨k+1,nG o x⟩ ?_
  rw [Ia hx,eY,if_neg (by simp [*]),if_pos h] at he
  exact⟨by omega,Nat.le_trans (List.length_filter_le _ _) ho,he⟩
 ·refine nx ⟨k+1,o⟩ ?_
  rw [Ia hx,eY,if_neg (by simp [*]),if_neg (by simp [*])] at he
  exact⟨by omega,ho,he⟩
 ·refine⟨?_,rfl,trivial⟩
  rw [aP (by assumption)] at he
  rw [← he];rfl
theorem MF (p:Proj) (r:Rul) (l:List Lit) (fc:Nat) (caps:List AV) (keeps:Lit→Bool) (hp:p.fine) (hc:∀x:Lit,Con fc ([.d x.av]++caps.map .ref) (.d (.bool (keeps x)))):
  Con 109 [.d p.av,.d r.av,.d (lits l),.fn fc caps] (.fr ((qc p r keeps l).map Lit.av)):=(tN p r l fc caps keeps hp hc).acK
theorem Yp {a b:Lit}:ku a b < 0↔a.act < b.act∨(a.act=b.act∧(a.kind < b.kind∨(a.kind=b.kind∧a.val < b.val))):=by
 simp only [ku,orI,LB]
 repeat' split
 all_goals omega
end Go.Proofs.YtgkfifiobmklcaaGreat.Abs
