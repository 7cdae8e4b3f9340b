/- Contracts: literals, domains, clauses, rules that are drawn. -/
import Derived.Test.YtgkfifiobmklcaaGreatDr
import Derived.Test.YtgkfifiobmklcaaGreatBt
set_option linter.all false
set_option maxRecDepth 20000
set_option maxHeartbeats 0
namespace Go.Proofs.YtgkfifiobmklcaaGreat.Abs
open Go.Proofs
attribute [local irreducible] below bq aH
theorem Gx (p:Proj) (hp:aG p=true) (c:Cur) (hc:c.ok):Con 32 [.bx c.cells,.d p.av] (RDr (.d (fJ p c).1.av) (fJ p c).2):=by
 refine con Tryz.func32 rfl rfl Tryz.call32 rfl fun hwf=>?_
 clear hwf
 obtain⟨a,c1,e1,h1,a0,a1⟩:=aC hc p.acts.length
 obtain⟨o,c2,e2,h2,o0,o1⟩:=aC h1 4
 obtain⟨k,c3,e3,h3,k0,k1⟩:=aC h2 2
 have hh:=kg hp
 have a1:=a1 (by omega)
 have k1:=k1 (by decide)
 have D1:=dM e1 hc (by omega)
 have D2:=yG e2 h1 (by decide)
 have D3:=dM e3 h2 (by decide)
 have hml:((p.acts.map aF.av).length:Int)=p.acts.length:=by rw [List.length_map]
 rw [← hml] at D1
 have hact:(p.acts.map aF.av)[a.toNat]? =some (bg p a.toNat).av:=by rw [List.getElem?_map,gM (by omega)];rfl
 have ha:a=((a.toNat:Nat):Int):=by omega
 have few:=iA hp (k:=a.toNat) (by omega)
 by_cases ho:o=0
 ·obtain⟨v,c4,e4,h4,v0,v1⟩:=aC h3 (bg p a.toNat).modes.length
  have D4:=dM e4 h3 (by omega)
  have e:fJ p c=(⟨3+k,a,v⟩,c4):=by
   unfold fJ
   rw [e1];dsimp only;rw [e2];dsimp only;rw [e3];dsimp only;rw [if_pos ho,e4]
  rw [e]
  have hmm:(((bg p a.toNat).modes.map Mode.av).length:Int)=(bg p a.toNat).modes.length:=by rw [List.length_map]
  rw [← hmm] at D4
  (repeat' ((conv=>whnf);first|with_reducible refine Br.yes (decide_eq_true ho) ?_|refine Idx.abA hact ha ?_|refine gA ?_|(refine gB ?_ ?_<;>intro h)|(refine gI ?_;intro x hx)|(refine gJ ?_;intro j x hj hx)|refine gV ?_|refine gC (D1) ?_|refine gC (D2) ?_|refine gC (D3) ?_|refine gC (D4) ?_|intro _))<;>try (conv=>whnf)
  all_goals first
   |(exfalso;omega)
   |exact fv
 ·obtain⟨v,c4,e4,h4,v0,v1⟩:=aC h3 10
  have D4:=dM e4 h3 (by decide)
  have e:fJ p c=(⟨1+k,a,v⟩,c4):=by
   unfold fJ
   rw [e1];dsimp only;rw [e2];dsimp only;rw [e3];dsimp only;rw [if_neg ho,e4]
  rw [e]
  (repeat' ((conv=>whnf);first|with_reducible refine Br.no (decide_eq_false ho) ?_|refine gA ?_|(refine gB ?_ ?_<;>intro h)|(refine gI ?_;intro x hx)|(refine gJ ?_;intro j x hj hx)|refine gV ?_|refine gC (D1) ?_|refine gC (D2) ?_|refine gC (D3) ?_|refine gC (D4) ?_|intro _))<;>try (conv=>whnf)
  all_goals first
   |(exfalso;omega)
   |exact fv
theorem WQ {p:Proj} {b:Dom} (hf:ak p b=true) {i:Nat} {m:List Int} (h:b.modes[i]? =some m):nT m=true:=MW hf h
end Go.Proofs.YtgkfifiobmklcaaGreat.Abs
