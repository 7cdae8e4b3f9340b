/- Part of a proof. -/
import Derived.Test.YthegbfgeochckaaGreatC7
set_option linter.all false
set_option maxRecDepth 20000
set_option maxHeartbeats 0
namespace Go.Proofs.YthegbfgeochckaaGreat.Abs
open Go.Proofs
theorem Fp (a:aB) (ms:List Int) (i:Int) (t:Bool):Con 364 [.d a.av,.d (ints ms),.d (i64 i),.d (.bool t),.d (.bool false)] (.d (i64 (leastOf (chosen a ms) fun m=>fH (pick t m) i))):=by
 refine con Tryz.func364 rfl rfl Tryz.call364 rfl fun hwf=>?_
 simp only [ARs.wf,AR.wf,AV.wf,AV.wfs,lm,lim] at hwf
 rw [<- SN]
 try (conv=>whnf)
 refine ay [1,2,3,4,18,19] [] [] ?_
 (conv=>whnf)
 refine au.go ((Nat)×(Int)×(Bool)) (fun⟨k,n,b⟩=>(k<=a.modes.length)/\(Kt (!b) n ((bW ms (a.modes.drop k) k).map fun m=>fH (pick t m) i)=Kt true 0 ((chosen a ms).map fun m=>fH (pick t m) i))) (fun⟨k,n,b⟩=>[(20,.data (i64 k)),(11,.data (i64 n)),(12,.data (.bool b))]) lE lE (fun⟨k,n,b⟩=>a.modes.length - k) ⟨0,0,false⟩ ?_ ?_
 ·exact⟨by omega,rfl⟩
 rintro⟨k,n,b⟩ ⟨hk,hi⟩
 by_cases hlt:k < a.modes.length
 ·obtain⟨x,hx⟩:∃x,a.modes[k]? =some x:=⟨a.modes[k]'hlt,by simp⟩
  rw [aA hx,bW] at hi
  have hm:=jD hwf.1.2.2.1.2 hx
  simp only [AV.wf,AV.wfs,List.length_map] at hm
  cases hh:ms.contains (k:Int) with
  |false=>
   rw [if_neg (Bool.eq_false_iff.1 hh)] at hi
   (repeat' ((conv=>whnf);first|with_reducible refine Idx.got hx rfl ?_|refine gAV ?_|(refine gB ?_ ?_<;>intro h)|refine gC (gT ms _) ?_|intro _))<;>try (conv=>whnf)
   ·refine nx ⟨k+1,n,b⟩ ?_
    exact⟨by omega,hi⟩
   ·exfalso;omega
  |true=>
   rw [if_pos hh,List.map_cons] at hi
   cases ht:t with
   |false=>
    subst ht
    rw [show pick false x=x.use from rfl] at hi
    cases hw:within i 0 (x.use.length - 1) with
    |false=>
     have hw':within i 0 (((x.use.map i64).length:Int) - 1)=false:=by rw [List.length_map];exact hw
     rw [fH,if_neg (Bool.eq_false_iff.1 hw),Kt] at hi
     (repeat' ((conv=>whnf);first|with_reducible refine Idx.got hx rfl ?_|refine gAV ?_|(refine gB ?_ ?_<;>intro h)|refine gC (gT ms _) ?_|refine gC (dG _ _ _) ?_|intro _))<;>try (conv=>whnf)
     ·refine⟨?_,rfl,trivial⟩
      rw [<- hi]
     ·exfalso;omega
    |true=>
     have hw':within i 0 (((x.use.map i64).length:Int) - 1)=true:=by rw [List.length_map];exact hw
     obtain⟨j,y,hj,hy,e⟩:=tV hw
     rw [e,Kt] at hi
     (repeat' ((conv=>whnf);first|(with_reducible first|refine Idx.got hx rfl ?_|refine Idx.got hy hj ?_)|refine gAV ?_|(refine gB ?_ ?_<;>intro h)|refine gC (gT ms _) ?_|refine gC (dG _ _ _) ?_|intro _))<;>try (conv=>whnf)
     ·refine nx ⟨k+1,y,true⟩ ?_
      rw [if_pos (.inr (by assumption))] at hi
      exact⟨by omega,hi⟩
     ·refine nx ⟨k+1,n,true⟩ ?_
      rw [if_neg (by simp [*])] at hi
      exact⟨by omega,hi⟩
     ·refine nx ⟨k+1,y,true⟩ ?_
      rw [if_pos (.inl (by simp [*]))] at hi
      exact⟨by omega,hi⟩
     ·exfalso;omega
   |true=>
    subst ht
    rw [show pick true x=x.con from rfl] at hi
    cases hw:within i 0 (x.con.length - 1) with
    |false=>
     have hw':within i 0 (((x.con.map i64).length:Int) - 1)=false:=by rw [List.length_map];exact hw
     rw [fH,if_neg (Bool.eq_false_iff.1 hw),Kt] at hi
     (repeat' ((conv=>whnf);first|with_reducible refine Idx.got hx rfl ?_|refine gAV ?_|(refine gB ?_ ?_<;>intro h)|refine gC (gT ms _) ?_|refine gC (dG _ _ _) ?_|intro _))<;>try (conv=>whnf)
     ·refine⟨?_,rfl,trivial⟩
      rw [<- hi]
     ·exfalso;omega
    |true=>
     have hw':within i 0 (((x.con.map i64).length:Int) - 1)=true:=by rw [List.length_map];exact hw
     obtain⟨j,y,hj,hy,e⟩:=tV hw
     rw [e,Kt] at hi
     (repeat' ((conv=>whnf);first|(with_reducible first|refine Idx.got hx rfl ?_|refine Idx.got hy hj ?_)|refine gAV ?_|(refine gB ?_ ?_<;>intro h)|refine gC (gT ms _) ?_|refine gC (dG _ _ _) ?_|intro _))<;>try (conv=>whnf)
     ·refine nx ⟨k+1,y,true⟩ ?_
      rw [if_pos (.inr (by assumption))] at hi
      exact⟨by omega,hi⟩
     ·refine nx ⟨k+1,n,true⟩ ?_
      rw [if_neg (by simp [*])] at hi
      exact⟨by omega,hi⟩
     ·refine nx ⟨k+1,y,true⟩ ?_
      rw [if_pos (.inl (by simp [*]))] at hi
      exact⟨by omega,hi⟩
     ·exfalso;omega
 ·(repeat' ((conv=>whnf);first|(exfalso;omega)|(refine gB ?_ ?_<;>intro h)))<;>try (conv=>whnf)
  refine⟨?_,rfl,trivial⟩
  rw [<- hi,mg hlt];rfl
theorem QS (a:aB) (ms:List Int) (r:Int):Con 362 [.d a.av,.d (ints ms),.d (i64 r)] (.d (i64 (lK a ms r))):=by
 refine con Tryz.func362 rfl rfl Tryz.call362 rfl fun hwf=>?_
 (repeat' ((conv=>whnf);first|refine gA ?_|refine gC (Fp a ms r false) ?_|intro _))
 exact⟨rfl,rfl,trivial⟩
theorem Ev (a:aB) (ms:List Int) (r:Int):Con 329 [.d a.av,.d (ints ms),.d (i64 r)] (.d (i64 (Cj a ms r))):=by
 refine con Tryz.func329 rfl rfl Tryz.call329 rfl fun hwf=>?_
 (repeat' ((conv=>whnf);first|refine gA ?_|refine gC (Fp a ms r true) ?_|intro _))
 exact⟨rfl,rfl,trivial⟩
end Go.Proofs.YthegbfgeochckaaGreat.Abs
