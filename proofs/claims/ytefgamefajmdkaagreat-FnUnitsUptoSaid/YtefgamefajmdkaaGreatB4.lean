/- Proofs that are drawn are right. -/
import Derived.Test.YtefgamefajmdkaaGreatBt
import Derived.Test.YtefgamefajmdkaaGreatBud
set_option linter.all false
set_option maxRecDepth 20000
set_option maxHeartbeats 0
namespace Go.Proofs.YtefgamefajmdkaaGreat.Abs
open Go.Proofs
attribute [local irreducible] refutes iR bJ aM
theorem Fu {p:Proj} {l:List Lit} (h:fF p l=true):l.length≤24:=by
 simp only [fF,Bool.and_eq_true,decide_eq_true_eq] at h;omega
theorem PK {p:Proj} {a:List Lin} {l:Lin} (h:aM p a l=0):fF p l.clause=true:=by
 unfold aM at h
 split at h
 ·rename_i hk
  have:=hk.2.1
  simp only [rF,Bool.and_eq_true] at this
  exact this.1
 ·cases h
theorem Right.clauses {p:Proj} {ls:List Lin} (h:Right p ls):∀x∈ls,fF p x.clause=true:=by
 intro x hx
 obtain⟨i,hi,rfl⟩:=List.getElem_of_mem hx
 exact PK (h i _ (List.getElem?_eq_getElem hi))
theorem mQ {p:Proj} (hs:Small p):∀(k:Nat) (b:Dom) (out:List Lin) (c:Cur),aC p b=true→wU p b→c.ok→Right p out→out.length+k≤100→
  Right p (iw p k b out c).1∧(iw p k b out c).2.ok∧(iw p k b out c).1.length≤out.length+k
 |0,b,out,c,_,_,hc,hr,_=>by rw [zw];exact⟨hr,hc,by dsimp only;omega⟩
 |k+1,b,out,c,hf,hi,hc,hr,hn=>by
  rw [zx]
  cases h:bJ p b with
  |none=>
   dsimp only
   have hd:=wV hs.ok hc
   split
   ·exact⟨hr,hd.2,by dsimp only;omega⟩
   ·obtain⟨g1,g2,g3⟩:=mQ hs k (restrict b (dS p c).1) out (dS p c).2 (gu hf _) (hi.restrict hf _) hd.2 hr (by omega)
    exact⟨g1,g2,by omega⟩
  |some s=>
   dsimp only
   have ho:=Ig hs hi h
   have hl:=UF (ahead:=out) hs.ok (by omega) ho.fol
   obtain⟨g1,g2,g3⟩:=mQ hs k (restrict b s.lit) (out++[⟨1,s.rule,s.clause⟩]) c (gu hf _) (hi.restrict hf _) hc (hr.snoc hl) (by simp;omega)
   refine⟨g1,g2,?_⟩
   simp at g3;omega
theorem IV {p:Proj} (hp:aF p=true) {out:List Lin} {c:Cur} (hc:c.ok) (hr:Right p out):Right p (cK p out c).1∧(cK p out c).2.ok∧(cK p out c).1.length≤out.length+1:=by
 unfold cK
 dsimp only
 split
 ·rename_i h
  exact⟨hr.snoc h,Fb hp out hc,by simp⟩
 ·exact⟨hr,Fb hp out hc,by omega⟩
theorem Db {p:Proj} (hp:aF p=true) {out:List Lin} {c:Cur} (hc:c.ok) (hr:Right p out) (j:Nat):Right p (itN (cK p) j out c).1∧(itN (cK p) j out c).1.length≤out.length+j∧(itN (cK p) j out c).2.ok:=by
 obtain⟨⟨h1,h2⟩,h3⟩:=iW (f:=cK p) (fun k l=>Right p l∧l.length≤out.length+k) (fun k l c hc h=>by
  obtain⟨g1,g2,g3⟩:=IV hp hc h.1
  exact⟨⟨g1,by have:=h.2;omega⟩,g2⟩) j out c hc ⟨hr,Nat.le_refl _⟩
 exact⟨h1,h2,h3⟩
theorem BG {p:Proj} (hs:Small p) (code:List Int):Right p (nV p code)∧(nV p code).length≤20:=by
 unfold nV
 dsimp only
 have hc:=ou (lI code) 19
 obtain⟨n,c1,e1,h1,n0,n1⟩:=ak hc 5
 have n1:=n1 (by decide)
 rw [e1]
 dsimp only
 obtain⟨g1,g2,g3⟩:=mQ hs (2+n).toNat (aT p) [] c1 (lV hs.ok) (fB.refl _ _) h1 (Right.nil p) (by simp;omega)
 generalize iw p (2+n).toNat (aT p) [] c1=x at g1 g2 g3
 obtain⟨m,c2,e2,h2,m0,m1⟩:=ak g2 3
 have m1:=m1 (by decide)
 rw [e2]
 dsimp only
 obtain⟨k1,k2,_⟩:=Db hs.ok h2 g1 m.toNat
 refine⟨k1,?_⟩
 simp at g3
 omega
theorem xB (code:List Int):Small (dQ code):=by
 obtain⟨h1,h2⟩:=mJ code
 have ha:=h1.acts
 refine⟨vX code,by omega,fun k hk=>?_⟩
 exact (h1.aok k _ (fV hk)).2.2
theorem Ma {p:Proj} {ls:List Lin} (h:Right p ls):kG p ls=true:=by
 unfold kG;rw [Sq h];rfl
theorem Lc {p:Proj} {ls:List Lin} (h:Right p ls) {s:aJ} (hs:dA p s=true):nu s (ls.map Lin.clause):=Bu (Ma h) hs
end Go.Proofs.YtefgamefajmdkaaGreat.Abs
