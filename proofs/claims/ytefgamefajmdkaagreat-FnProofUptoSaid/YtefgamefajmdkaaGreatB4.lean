/- Proofs that are drawn are right. -/
import Derived.Test.YtefgamefajmdkaaGreatBt
import Derived.Test.YtefgamefajmdkaaGreatBud
set_option linter.all false
set_option maxRecDepth 20000
set_option maxHeartbeats 0
namespace Go.Proofs.YtefgamefajmdkaaGreat.Abs
open Go.Proofs
attribute [local irreducible] refutes iJ bG aL
theorem En {p:Proj} {l:List Lit} (h:eZ p l=true):l.length≤24:=by
 simp only [eZ,Bool.and_eq_true,decide_eq_true_eq] at h;omega
theorem OH {p:Proj} {a:List Lin} {l:Lin} (h:aL p a l=0):eZ p l.clause=true:=by
 unfold aL at h
 split at h
 ·rename_i hk
  have:=hk.2.1
  simp only [tu,Bool.and_eq_true] at this
  exact this.1
 ·cases h
theorem Right.clauses {p:Proj} {ls:List Lin} (h:Right p ls):∀x∈ls,eZ p x.clause=true:=by
 intro x hx
 obtain⟨i,hi,rfl⟩:=List.getElem_of_mem hx
 exact OH (h i _ (List.getElem?_eq_getElem hi))
theorem mF {p:Proj} (hs:Small p):∀(k:Nat) (b:Dom) (out:List Lin) (c:Cur),aC p b=true→Bu p b→c.ok→Right p out→out.length+k≤100→
  Right p (gG p k b out c).1∧(gG p k b out c).2.ok∧(gG p k b out c).1.length≤out.length+k
 |0,b,out,c,_,_,hc,hr,_=>by rw [yF];exact⟨hr,hc,by dsimp only;omega⟩
 |k+1,b,out,c,hf,hi,hc,hr,hn=>by
  rw [yG]
  cases h:bG p b with
  |none=>
   dsimp only
   have hd:=wu hs.ok hc
   split
   ·exact⟨hr,hd.2,by dsimp only;omega⟩
   ·obtain⟨g1,g2,g3⟩:=mF hs k (restrict b (dN p c).1) out (dN p c).2 (jm hf _) (hi.restrict hf _) hd.2 hr (by omega)
    exact⟨g1,g2,by omega⟩
  |some s=>
   dsimp only
   have ho:=Gq hs hi h
   have hl:=TU (ahead:=out) hs.ok (by omega) ho.fol
   obtain⟨g1,g2,g3⟩:=mF hs k (restrict b s.lit) (out++[⟨1,s.rule,s.clause⟩]) c (jm hf _) (hi.restrict hf _) hc (hr.snoc hl) (by simp;omega)
   refine⟨g1,g2,?_⟩
   simp at g3;omega
theorem Hg {p:Proj} (hp:aF p=true) {out:List Lin} {c:Cur} (hc:c.ok) (hr:Right p out):Right p (bX p out c).1∧(bX p out c).2.ok∧(bX p out c).1.length≤out.length+1:=by
 unfold bX
 dsimp only
 split
 ·rename_i h
  exact⟨hr.snoc h,Ef hp out hc,by simp⟩
 ·exact⟨hr,Ef hp out hc,by omega⟩
theorem BG {p:Proj} (hp:aF p=true) {out:List Lin} {c:Cur} (hc:c.ok) (hr:Right p out) (j:Nat):Right p (itN (bX p) j out c).1∧(itN (bX p) j out c).1.length≤out.length+j∧(itN (bX p) j out c).2.ok:=by
 obtain⟨⟨h1,h2⟩,h3⟩:=jA (f:=bX p) (fun k l=>Right p l∧l.length≤out.length+k) (fun k l c hc h=>by
  obtain⟨g1,g2,g3⟩:=Hg hp hc h.1
  exact⟨⟨g1,by have:=h.2;omega⟩,g2⟩) j out c hc ⟨hr,Nat.le_refl _⟩
 exact⟨h1,h2,h3⟩
theorem KY {p:Proj} (hs:Small p) (code:List Int):Right p (qw p code)∧(qw p code).length≤20:=by
 unfold qw
 dsimp only
 have hc:=Jm (uD code) 19
 obtain⟨n,c1,e1,h1,n0,n1⟩:=ak hc 5
 have n1:=n1 (by decide)
 rw [e1]
 dsimp only
 obtain⟨g1,g2,g3⟩:=mF hs (2+n).toNat (bM p) [] c1 (qp hs.ok) (gX.refl _ _) h1 (Right.nil p) (by simp;omega)
 generalize gG p (2+n).toNat (bM p) [] c1=x at g1 g2 g3
 obtain⟨m,c2,e2,h2,m0,m1⟩:=ak g2 3
 have m1:=m1 (by decide)
 rw [e2]
 dsimp only
 obtain⟨k1,k2,_⟩:=BG hs.ok h2 g1 m.toNat
 refine⟨k1,?_⟩
 simp at g3
 omega
theorem Hl (code:List Int):Small (iC code):=by
 obtain⟨h1,h2⟩:=ou code
 have ha:=h1.acts
 refine⟨Dk code,by omega,fun k hk=>?_⟩
 exact (h1.aok k _ (fJ hk)).2.2
theorem KZ {p:Proj} {ls:List Lin} (h:Right p ls):nT p ls=true:=by
 unfold nT;rw [Gu h];rfl
theorem SS {p:Proj} {ls:List Lin} (h:Right p ls) {s:aM} (hs:dZ p s=true):mU s (ls.map Lin.clause):=KV (KZ h) hs
end Go.Proofs.YtefgamefajmdkaaGreat.Abs
