/- What the laws' markLiteralS lays into rows of literals: exactly. No statement of a claim. -/
import Derived.WalkKit
import Derived.Deep.LoopGhost
import Derived.Lib.Hide
import Derived.Sort.WalkB12
import Derived.Test.YtepogmnolnlpmaaGreatLex
set_option linter.all false
set_option linter.unusedVariables false
set_option maxRecDepth 100000
set_option maxHeartbeats 4000000
namespace Go.Proofs.YtepogmnolnlpmaaGreat.Abs
open Go.Proofs Go.RowKit Go.Sort
theorem marks_lit (l:List Lit) (hl:l.length≤274877906944):MarksTo Tryz.prog lim 19 (l.map Lit.av) ((markL 1 l).map Lit.av) (1+3*l.length):=by
 refine⟨Tryz.call19,fun G w v hG hr=>?_⟩
 change Calls _ _ _ _ (MarkPost G lim w v (l.map Lit.av) ((markL 1 l).map Lit.av) (1+3*l.length))
 simp only [RepV,Rep1,List.length_map] at hr
 obtain⟨a,cap,rfl,h1,h2,h3⟩:=hr
 by_cases h0:l.length=0
 ·obtain rfl:=List.eq_nil_of_length_eq_zero h0
  have h3':=Lib.hid h3
  have hG':=Lib.hid hG
  clear h3 hG h0
  go_enter Tryz.func19,Tryz.ntmps19
  go_wp2
  refine wp_loop_rounds 1 ?_
  rw [rounds_succ]
  go_wp2
  go_ret
  refine⟨by simp,rfl,rfl,rfl,rfl,fun _ _=>rfl,?_⟩
  simp only [RepV,Rep1,markL]
  exact⟨a,cap,rfl,by simp,by simp,.inl rfl⟩
 obtain⟨b,o,sz,rfl,hb,he⟩:=h3.resolve_left h0
 obtain⟨hlt,hth⟩:=hG b hb
 obtain rfl:sz=3:=by
  cases l with
  | nil=>simp at h0
  | cons x l=>simp only [List.map_cons,RepE,RepX] at he;exact he.1.1.symm
 have hc:=repE_lits.1 he
 have hH:Holds (Value.int .i64) w b o (flatL l).toArray:=holds_lits hth hc
 have hfl:(flatL l).toArray.size=3*l.length:=by simp [flatL_length]
 have HG:=Lib.hid hb
 have HH:=Lib.hid hH
 have HL:=Lib.hid h0
 have HF:=Lib.hid hfl
 clear hc he hH hth h3 hG hb h0 hfl
 go_enter Tryz.func19,Tryz.ntmps19
 go_wp2
 go_loopg [1,5] l.length (fun gg s1 s5 wr=>∃(j:Nat) (dk:Array Int),s1= .int .i64 (1+3*j)∧s5= .int .i64 j∧j+gg=l.length∧dk.size=3*l.length∧wr=putRow (Value.int .i64) w b o dk∧Aside (∀i,i < 3*j→dk[i]! =1+i))
 case atStart=>exact⟨0,(flatL l).toArray,rfl,rfl,by omega,HF.out,(putRow_self _ w b o _ HH.out).symm,fun i hi=>by omega⟩
 case round=>
  obtain⟨j,dk,rfl,rfl,hj,hd,hwr,hq⟩:=hrel
  have hHk:Holds (Value.int .i64) wr b o dk:=by rw [hwr];exact holds_putRow _ _ b o (flatL l).toArray dk HH.out (by rw [hd,HF.out])
  have W2:Aside (wr=putRow (Value.int .i64) w b o dk):=hwr
  have HD:=Lib.hid hd
  clear hwr
  by_cases hlt2:j < l.length
  ·obtain⟨c1,f1⟩:=hHk (3*j) (by omega)
   obtain⟨c2,f2⟩:=hHk (3*j+1) (by omega)
   obtain⟨c3,f3⟩:=hHk (3*j+2) (by omega)
   rw [show o+3*j=o+j*3 by omega] at c1 f1
   rw [show o+(3*j+1)=o+j*3+1 by omega] at c2 f2
   rw [show o+(3*j+2)=o+j*3+2 by omega] at c3 f3
   generalize dk[3*j]! =x1 at c1
   generalize dk[3*j+1]! =x2 at c2
   generalize dk[3*j+2]! =x3 at c3
   clear hHk hd
   go_wp2
   go_roundg (l.length - (j+1))
   case measure=>omega
   case rel=>
    have hdo:=HD.out
    refine⟨j+1,((dk.setIfInBounds (3*j) (1+3*j)).setIfInBounds (3*j+1) (1+3*j+1)).setIfInBounds (3*j+2) (1+3*j+1+1),by go_num,by go_num,by omega,by simp only [Array.size_setIfInBounds];exact hdo,?_,?_⟩
    ·rw [W2.out,show o+j*3+2=o+(3*j+2) by omega,show o+j*3+1=o+(3*j+1) by omega,show o+j*3=o+3*j by omega]
     rw [putRow_set _ _ b o dk (3*j) _ (by omega),putRow_set _ _ b o _ (3*j+1) _ (by simp only [Array.size_setIfInBounds];omega),putRow_set _ _ b o _ (3*j+2) _ (by simp only [Array.size_setIfInBounds];omega)]
    ·intro i hi
     by_cases e2:i=3*j+2
     ·subst e2
      rw [getElem!_set_same _ _ _ (by simp only [Array.size_setIfInBounds];omega)];push_cast;omega
     rw [getElem!_set_other _ _ _ _ e2]
     by_cases e1:i=3*j+1
     ·subst e1
      rw [getElem!_set_same _ _ _ (by simp only [Array.size_setIfInBounds];omega)];push_cast;omega
     rw [getElem!_set_other _ _ _ _ e1]
     by_cases e0:i=3*j
     ·subst e0
      rw [getElem!_set_same _ _ _ (by omega)];push_cast;omega
     rw [getElem!_set_other _ _ _ _ e0]
     exact hq.out i (by omega)
  ·obtain rfl:j=l.length:=by omega
   have HK:=Lib.hid hHk
   clear hHk hd
   go_wp2
   go_ret
   have hw:=W2.out
   have hlen:((markL 1 l).map Lit.av).length=l.length:=by rw [List.length_map,markL_length]
   refine⟨rfl,by rw [hw];rfl,by rw [hw];rfl,by rw [hw];rfl,by rw [hw];simp,fun k hk=>?_,?_⟩
   ·rw [hw]
    refine putRow_same _ w b o dk fun e=>?_
    subst e
    exact hk (by intro e;exact HL.out (by simpa using congrArg List.length e)) rfl
   ·simp only [RepV,Rep1]
    refine⟨_,cap,by rw [hlen],by rw [hlen];exact h1,by rw [hlen];exact h2,.inr ⟨b,o,3,rfl,HG.out,repE_lits.2 fun j x hj=>?_⟩⟩
    have hjl:j < l.length:=by
     have:=(List.getElem?_eq_some_iff.1 hj).1
     rwa [markL_length] at this
    rw [markL_get 1 l j hjl] at hj
    cases hj
    have hdo:=HD.out
    have k0:=(HK.out (3*j) (by omega)).1
    have k1:=(HK.out (3*j+1) (by omega)).1
    have k2:=(HK.out (3*j+2) (by omega)).1
    rw [hq.out (3*j) (by omega)] at k0
    rw [hq.out (3*j+1) (by omega)] at k1
    rw [hq.out (3*j+2) (by omega)] at k2
    refine⟨k0.trans (by push_cast;rfl),(by rw [Nat.add_assoc];exact k1.trans (by congr 2)),(by rw [Nat.add_assoc];exact k2.trans (by congr 2))⟩
end Go.Proofs.YtepogmnolnlpmaaGreat.Abs
