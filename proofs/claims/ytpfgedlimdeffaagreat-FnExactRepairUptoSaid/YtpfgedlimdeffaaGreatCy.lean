/- Contracts: literals, domains' form, clauses. -/
import Derived.Test.YtpfgedlimdeffaaGreatC4
set_option linter.all false
set_option maxRecDepth 20000
set_option maxHeartbeats 0
namespace Go.Proofs.YtpfgedlimdeffaaGreat.Abs
open Go.Proofs
theorem iI {p:Proj} {a:Int} (h:bH p a=true):∃(n:Nat) (x:au),a=n∧p.acts[n]? =some x:=by
 have hn:=within_iff.1 h
 exact⟨a.toNat,p.acts[a.toNat]'(by omega),by omega,by simp⟩
theorem Rm (n:Int):Con 128 [.d (i64 n)] (.d (.bool false)):=by
 refine con Tryz.func128 rfl rfl Tryz.call128 rfl fun hwf=>?_
 (repeat' ((conv=>whnf);first|refine gA ?_|(refine gB ?_ ?_<;>intro h)|intro _))<;>try (conv=>whnf)
 refine⟨?_,rfl,trivial⟩
 simp
theorem MW (x y:Int):Con 78 [.d (i64 x),.d (i64 y)] (.d (i64 (ML x y))):=by
 refine con Tryz.func78 rfl rfl Tryz.call78 rfl fun hwf=>?_
 (repeat' ((conv=>whnf);first|refine gA ?_|(refine gN ?_ ?_<;>intro h hw)|(refine gB ?_ ?_<;>intro h)|refine gC (Rm _) ?_|intro _))<;>try (conv=>whnf)
 all_goals refine⟨?_,rfl,trivial⟩
 all_goals (simp only [ML,i64,AV.int.injEq,true_and];split<;>(try split)<;>omega)
theorem nI {n:Nat} {f:Nat→Bool}:(List.range n).any f=false↔∀i,i < n→f i=false:=by simp
theorem jm {n:Nat} {f:Nat→Bool} (k:Nat) (hk:k < n) (h:f k=true):(List.range n).any f=true:=by simp;exact⟨k,hk,h⟩
theorem jo {f:Nat→Bool} {k:Nat} (h:∀i,i < k→f i=false) (hf:f k=false):∀i,i < k+1→f i=false:=by
 intro i hi
 by_cases e:i=k
 ·rw [e];exact hf
 ·exact h i (by omega)
theorem MX {p:Proj} (h:aY p=true):1≤p.dead∧p.dead≤60:=by
 have:within p.dead 1 60=true:=by simp [aY,rJ] at h;simp [h]
 exact within_iff.1 this
open Go.Proofs
theorem mU (p:Proj) (n:Int):Con 114 [.d p.av,.d (i64 n)] (.d (.bool (gD p n))):=by
 refine con Tryz.func114 rfl rfl Tryz.call114 rfl fun hwf=>?_
 simp only [ARs.wf,AR.wf,AV.wf,AV.wfs,lm,lim] at hwf
 (repeat' ((conv=>whnf);first|refine gA ?_|(refine gN ?_ ?_<;>intro h hw)|(refine gB ?_ ?_<;>intro h)|refine gV ?_|refine gC (bq _ _ _) ?_|intro _))<;>try (conv=>whnf)
 refine⟨?_,rfl,trivial⟩
 simp [gD]
theorem GK (p:Proj) (n:Int):Con 183 [.d p.av,.d (i64 n)] (.d (.bool (lT p n))):=by
 refine con Tryz.func183 rfl rfl Tryz.call183 rfl fun hwf=>?_
 simp only [ARs.wf,AR.wf,AV.wf,AV.wfs,lm,lim] at hwf
 (repeat' ((conv=>whnf);first|refine gA ?_|(refine gN ?_ ?_<;>intro h hw)|(refine gB ?_ ?_<;>intro h)|refine gV ?_|refine gC (bq _ _ _) ?_|intro _))<;>try (conv=>whnf)
 refine⟨?_,rfl,trivial⟩
 simp [lT]
theorem qm {p:Proj} {a:Int} (h:gD p a=true):∃(n:Nat) (x:aP),a=n∧p.aU[n]? =some x:=by
 have hn:=within_iff.1 h
 exact⟨a.toNat,p.aU[a.toNat]'(by omega),by omega,by simp⟩
theorem fZ (p:Proj) (r:Int):Con 157 [.d p.av,.d (i64 r)] (.d (.bool (fC p r))):=by
 refine con Tryz.func157 rfl rfl Tryz.call157 rfl fun hwf=>?_
 simp only [ARs.wf,AR.wf,AV.wf,AV.wfs,lm,lim] at hwf
 cases hr:gD p r with
 |false=>
  (repeat' ((conv=>whnf);first|refine gA ?_|(refine gB ?_ ?_<;>intro h)|(refine gI ?_;intro x hx)|(refine gJ ?_;intro j x hj hx)|refine gC (mU p _) ?_|intro _))<;>try (conv=>whnf)
  refine⟨?_,rfl,trivial⟩
  simp [fC,hr]
 |true=>
  obtain⟨n,x,ha,hx⟩:=qm hr
  have e:r.toNat=n:=by omega
  (repeat' ((conv=>whnf);first|with_reducible refine Idx.got hx ha ?_|refine gA ?_|(refine gB ?_ ?_<;>intro h)|(refine gI ?_;intro x hx)|(refine gJ ?_;intro j x hj hx)|refine gC (mU p _) ?_|intro _))<;>try (conv=>whnf)
  refine⟨?_,rfl,trivial⟩
  simp [fC,hr,e,List.getD_eq_getElem?_getD,hx]
theorem iT (p:Proj) (r:Int):Con 139 [.d p.av,.d (i64 r)] (.d (.bool (fC p r))):=by
 refine con Tryz.func139 rfl rfl Tryz.call139 rfl fun hwf=>?_
 simp only [ARs.wf,AR.wf,AV.wf,AV.wfs,lm,lim] at hwf
 cases hr:gD p r with
 |false=>
  have hr':within r 0 (((p.aU.map aP.av).length:Int) - 1)=false:=by rw [List.length_map];exact hr
  (repeat' ((conv=>whnf);first|refine gA ?_|(refine gN ?_ ?_<;>intro h hw)|(refine gB ?_ ?_<;>intro h)|(refine gI ?_;intro x hx)|(refine gJ ?_;intro j x hj hx)|refine gV ?_|refine gC (dI _ _ _) ?_|intro _))<;>try (conv=>whnf)
  refine⟨?_,rfl,trivial⟩
  simp [fC,hr]
 |true=>
  have hr':within r 0 (((p.aU.map aP.av).length:Int) - 1)=true:=by rw [List.length_map];exact hr
  obtain⟨n,x,ha,hx⟩:=qm hr
  have e:r.toNat=n:=by omega
  (repeat' ((conv=>whnf);first|with_reducible refine Idx.got hx ha ?_|refine gA ?_|(refine gN ?_ ?_<;>intro h hw)|(refine gB ?_ ?_<;>intro h)|(refine gI ?_;intro x hx)|(refine gJ ?_;intro j x hj hx)|refine gV ?_|refine gC (dI _ _ _) ?_|intro _))<;>try (conv=>whnf)
  refine⟨?_,rfl,trivial⟩
  simp [fC,hr,e,List.getD_eq_getElem?_getD,hx]
end Go.Proofs.YtpfgedlimdeffaaGreat.Abs
