/- Contracts: a clause is shortened. -/
import Derived.Test.YtjfnojijdggfhaaGreatC11
import Derived.Test.YtjfnojijdggfhaaGreatWo
set_option linter.all false
set_option maxRecDepth 20000
set_option maxHeartbeats 0
namespace Go.Proofs.YtjfnojijdggfhaaGreat.Abs
open Go.Proofs
def dh (p:Proj) (r:Rul) (keeps:Lit→Bool) (out:List Lit) (x:Lit):List Lit:=
 if keeps x=true then out else if refutes p (fu p (jo out x)) r=true then jo out x else out
def mg (p:Proj) (r:Rul) (keeps:Lit→Bool) (l:List Lit):List Lit:=l.foldl (dh p r keeps) l
theorem Ep {α β:Type} {f:β→α→β} {l:List α} {k:Nat} {x:α} {o:β} (h:l[k]? =some x):(l.drop k).foldl f o=(l.drop (k+1)).foldl f (f o x):=by
 obtain⟨hk,rfl⟩:=List.getElem?_eq_some_iff.1 h
 rw [List.drop_eq_getElem_cons hk,List.foldl_cons]
def NK (x:Lit) (l:List Lit):Int:=aO (fun y=>bT x y) l 0
theorem Er (l:List Lit) (y:Lit):Con 62 [.d (lits l),.d y.av] (.d (i64 (NK y l))):=by
 refine con Tryz.func62 rfl rfl Tryz.call62 rfl fun hwf=>?_
 simp only [ARs.wf,AR.wf,AV.wf,AV.wfs,lm,lim] at hwf
 (repeat' ((conv=>whnf);first|refine gA ?_|(refine gB ?_ ?_<;>intro h)|(refine gI ?_;intro x hx)|(refine gJ ?_;intro j x hj hx)|refine gV ?_|intro _))<;>try (conv=>whnf)
 refine aB [0,3,7] [3] [] ?_
 (conv=>whnf)
 refine aA.go ((Nat)) (fun k=>(k≤l.length)∧(aO (fun x=>bT y x) (l.drop k) k=NK y l)) (fun k=>[(8,.data (i64 k))]) (fun _=>[]) (fun _=>[]) (fun k=>l.length - k) (0) ?_ ?_
 ·exact⟨by omega,rfl⟩
 rintro k ⟨hk,hi⟩
 (repeat' ((conv=>whnf);first|refine gA ?_|(refine gB ?_ ?_<;>intro h)|(refine gI ?_;intro x hx)|(refine gJ ?_;intro j x hj hx)|refine gV ?_|intro _))<;>try (conv=>whnf)
 ·refine⟨?_,rfl,trivial⟩
  rw [au (l:=l) (by assumption),aO,if_pos (by simpa [bT] using h)] at hi
  rw [← hi]
 ·refine nx (k+1) ?_
  rw [au (l:=l) (by assumption),aO,if_neg (by simpa [bT] using h)] at hi
  exact⟨by omega,hi⟩
 ·refine⟨?_,rfl,trivial⟩
  rw [aJ (by assumption)] at hi
  rw [← hi];rfl
theorem qF (p:Proj) (r:Rul) (l:List Lit) (fc:Nat) (caps:List AV) (keeps:Lit→Bool) (hp:p.fine) (hc:∀x:Lit,Con fc ([.d x.av]++caps.map .ref) (.d (.bool (keeps x)))):
  Con 41 [.d p.av,.d r.av,.d (lits l),.fn fc caps] (.lin 42 ((mg p r keeps l).map Lit.av)):=by
 refine con Tryz.func41 rfl rfl Tryz.call41 rfl fun hwf=>?_
 simp only [ARs.wf,AR.wf,AV.wf,AV.wfs,lm,lim] at hwf
 (repeat' ((conv=>whnf);first|refine gA ?_|(refine gB ?_ ?_<;>intro h)|(refine gI ?_;intro x hx)|(refine gJ ?_;intro j x hj hx)|refine gV ?_|refine gC (Kt l) ?_|intro _))<;>try (conv=>whnf)
 refine aB [3,4,5,15,16] [4,5] [15000] ?_
 (conv=>whnf)
 refine aA.go ((Nat)×(List Lit)) (fun⟨k,o⟩=>(k≤l.length)∧(o.length≤l.length)∧((l.drop k).foldl (dh p r keeps) o=mg p r keeps l)) (fun⟨k,o⟩=>[(17,.data (i64 k)),(9,.own 15000 0)]) (fun _=>[]) (fun⟨k,o⟩=>[(15000,42,o.map Lit.av,2)]) (fun⟨k,o⟩=>l.length - k) ⟨0,l⟩ ?_ ?_
 ·exact⟨Nat.zero_le _,Nat.le_refl _,rfl⟩
 rintro⟨k,o⟩ ⟨hk,ho,he⟩
 (repeat' ((conv=>whnf);first|refine gA ?_|(refine gB ?_ ?_<;>intro h)|(refine gI ?_;intro x hx)|(refine gJ ?_;intro j x hj hx)|refine gV ?_|refine gC (hc x) ?_|refine gC (Af o x) ?_|refine gC (qB p (jo o x) hp) ?_|refine gC (fJ p (fu p (jo o x)) r hp) ?_|intro _))<;>try (conv=>whnf)
 ·refine nx ⟨k+1,o⟩ ?_
  rw [Ep hx,dh,if_pos h] at he
  exact⟨by omega,ho,he⟩
 ·refine nx ⟨k+1,jo o x⟩ ?_
  rw [Ep hx,dh,if_neg (by simp [*]),if_pos h] at he
  exact⟨by omega,Nat.le_trans (List.length_filter_le _ _) ho,he⟩
 ·refine nx ⟨k+1,o⟩ ?_
  rw [Ep hx,dh,if_neg (by simp [*]),if_neg (by simp [*])] at he
  exact⟨by omega,ho,he⟩
 ·refine⟨?_,rfl,trivial⟩
  rw [aJ (by assumption)] at he
  rw [← he];rfl
theorem qG (p:Proj) (r:Rul) (l:List Lit) (fc:Nat) (caps:List AV) (keeps:Lit→Bool) (hp:p.fine) (hc:∀x:Lit,Con fc ([.d x.av]++caps.map .ref) (.d (.bool (keeps x)))):
  Con 41 [.d p.av,.d r.av,.d (lits l),.fn fc caps] (.fr ((mg p r keeps l).map Lit.av)):=(qF p r l fc caps keeps hp hc).VK
theorem yN (x:Lit) (l:List Lit) (keep:Int):Con 61 [.d x.av,.ref (lits l),.ref (i64 keep)] (.d (.bool (decide (NK x l=keep)))):=by
 refine con Tryz.func61 rfl rfl Tryz.call61 rfl fun hwf=>?_
 (repeat' ((conv=>whnf);first|refine gA ?_|(refine gB ?_ ?_<;>intro h)|refine gC (Er l x) ?_|intro _))<;>try (conv=>whnf)
 all_goals exact⟨rfl,rfl,trivial⟩
def shorten (p:Proj) (r:Rul) (l:List Lit) (keep:Int):List Lit:=if follows p r l=true then mg p r (fun x=>decide (NK x l=keep)) l else l
theorem Ag (p:Proj) (r:Rul) (l:List Lit) (keep:Int) (hp:p.fine):Con 17 [.d p.av,.d r.av,.d (lits l),.d (i64 keep)] (.fr ((shorten p r l keep).map Lit.av)):=by
 refine con Tryz.func17 rfl rfl Tryz.call17 rfl fun hwf=>?_
 (repeat' ((conv=>whnf);first|refine gA ?_|(refine gB ?_ ?_<;>intro h)|refine gC (lU p r l hp) ?_|refine gC (tO l) ?_|refine gC (qG p r l 61 [lits l,i64 keep] _ hp (fun x=>yN x l keep)) ?_|intro _))<;>try (conv=>whnf)
 all_goals refine⟨?_,rfl,trivial⟩
 ·rw [shorten,if_pos (by assumption)]
 ·rw [shorten,if_neg (by simp [*])]
theorem Ur {a b:Lit}:jD a b < 0↔a.act < b.act∨(a.act=b.act∧(a.kind < b.kind∨(a.kind=b.kind∧a.val < b.val))):=by
 simp only [jD,orI,Ip]
 repeat' split
 all_goals omega
end Go.Proofs.YtjfnojijdggfhaaGreat.Abs
