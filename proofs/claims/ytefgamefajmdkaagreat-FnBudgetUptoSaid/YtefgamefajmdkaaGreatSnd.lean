/- Rules that refute a domain are broken by each of its schedules; clauses that follow hold. Plain Lean. -/
import Derived.Test.YtefgamefajmdkaaGreatPlain
set_option linter.all false
namespace Go.Proofs.YtefgamefajmdkaaGreat.Abs
structure Bu (p:Proj) (s:bE) (k:Nat):Prop where
 lo:0≤s.starts.getD k 0
 hi:s.starts.getD k 0≤60
 m0:0≤s.modes.getD k 0
 m1:(s.modes.getD k 0).toNat < (iP p k).modes.length
 mem:kK p s k∈(iP p k).modes
 d1:1≤(kK p s k).dur
 d2:(kK p s k).dur≤12
 ok:nL (kK p s k) p.aW.length p.aR.length=true
theorem DU {l:List Int} {n:Int} (h:eF l n=true) (i:Nat):0≤l.getD i 0∧l.getD i 0≤20:=by
 simp only [eF,Bool.and_eq_true,List.all_eq_true] at h
 by_cases hi:i < l.length
 ·have:=h.1 _ (List.getElem_mem hi)
  rw [List.getD_eq_getElem?_getD,List.getElem?_eq_getElem hi]
  simpa [ku,within_iff] using this
 ·rw [List.getD_eq_getElem?_getD,List.getElem?_eq_none (by omega)];simp
theorem Bu.use {p:Proj} {s:bE} {k:Nat} (h:Bu p s k) (r:Nat):0≤(kK p s k).use.getD r 0∧(kK p s k).use.getD r 0≤20:=by
 have:=h.ok
 simp only [nL,Bool.and_eq_true] at this
 exact DU this.1.2 r
theorem Bu.con {p:Proj} {s:bE} {k:Nat} (h:Bu p s k) (r:Nat):0≤(kK p s k).con.getD r 0:=by
 have:=h.ok
 simp only [nL,Bool.and_eq_true] at this
 exact (DU this.2 r).1
structure Zd (p:Proj) (b:Dom) (k:Nat):Prop where
 l1: -2≤b.lo.getD k 0
 l2:b.lo.getD k 0≤62
 h1: -2≤b.hi.getD k 0
 h2:b.hi.getD k 0≤62
 ms:∀m∈b.modes.getD k [],0≤m∧m.toNat < (iP p k).modes.length
structure Ze (b:Dom) (n:Nat):Prop where
 lo:b.lo.length=n
 hi:b.hi.length=n
 ms:b.modes.length=n
theorem Bv {p:Proj} {all:List Lin}:∀(l:List Lin) (k:Nat),(gM p all l k).1=0→∀j,j < l.length→aI p (all.take (k+j)) (l.getD j ⟨0,⟨0,0,0,0⟩,[]⟩)=0
 |[],k,h,j,hj=>by simp at hj
 |x::l,k,h,j,hj=>by
  rw [gM] at h
  split at h
  ·rename_i h1
   cases j with
   |zero=>simpa using h1
   |succ j=>
    have:=Bv l (k+1) h j (by simpa using hj)
    rw [show k+1+j=k+(j+1) by omega] at this
    simpa using this
  ·rename_i h1;exact (h1 h).elim
theorem Hr {p:Proj} {lines:List Lin} (h:rP p lines=true) {j:Nat} (hj:j < lines.length):aI p (lines.take j) lines[j]=0:=by
 have:=Bv lines 0 (of_decide_eq_true h) j hj
 rw [Nat.zero_add,List.getD_eq_getElem?_getD,List.getElem?_eq_getElem hj] at this
 exact this
end Go.Proofs.YtefgamefajmdkaaGreat.Abs
