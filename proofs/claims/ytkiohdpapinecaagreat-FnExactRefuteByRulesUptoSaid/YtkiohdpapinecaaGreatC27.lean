/- Contracts: sets that grow. No statement of a claim. -/
import Derived.Test.YtkiohdpapinecaaGreatSet
import Derived.Test.YtkiohdpapinecaaGreatC9
import Derived.Test.YtkiohdpapinecaaGreatC26
set_option linter.all false
set_option linter.unusedVariables false
set_option linter.unusedSimpArgs false
set_option maxRecDepth 20000
set_option maxHeartbeats 4000000
namespace Go.Proofs.YtkiohdpapinecaaGreat.Abs
open Go.Proofs
theorem setOf_pw (l:List Int):(setOf l).Pairwise (· < ·):=(setOf_sorted (l:=l) (o:=[]) List.Pairwise.nil).1
theorem setOf_mem {l:List Int} {x:Int}:x∈setOf l↔x∈l:=by
 have:=(setOf_sorted (l:=l) (o:=[]) List.Pairwise.nil).2 x
 exact this.trans (by simp)
theorem setOf_is {l m:List Int} (hm:m.Pairwise (· < ·)) (h:∀x,x∈m↔x∈l):setOf l=m:=sorted_same (setOf_pw l) hm fun x=>setOf_mem.trans (h x).symm
theorem setOf_more (l:List Int) (n:Int):setOf (setOf l++[n])=setOf (l++[n]):=setOf_is (setOf_pw _) fun x=>by simp [setOf_mem]
theorem setOf_twice (l:List Int):setOf (setOf l)=setOf l:=setOf_is (setOf_pw _) fun x=>Iff.rfl
theorem setOf_put (l:List Int) (n:Int):putSet (setOf l) n=setOf (l++[n]):=by rw [setOf,setOf,List.foldl_append];rfl
theorem impl_SetAdd (l:List Int) (n:Int) (hl:l.length < lim):Con 131 [.d (ints l),.d (i64 n)] (.d (ints (setOf (l++[n])))):=by
 refine con Tryz.func131 rfl rfl Tryz.call131 rfl fun hwf=>?_
 unfold lim at hl
 have e:(l++[n]).map i64=l.map i64++[i64 n]:=by simp
 have hS:=impl_SetOf (l++[n])
 rw [ints,e] at hS
 (repeat' ((conv=>whnf);first | refine gA ?_ | ((with_reducible first | refine gD (fun h=>?_) (fun h=>?_) | refine gE (fun h=>?_) (fun h=>?_)) <;> (try simp only [lm] at h) <;> try have hw:=wn h) | refine gP ?_ | refine gC (slices_Clone_int l) ?_ | refine gC (hS) ?_ | intro _)) <;> (try (conv=>whnf))
 all_goals exact⟨rfl,rfl,trivial⟩
theorem spec_SetAdd (l:List Int) (n:Int) (hl:l.length < lim):Con 113 [.d (ints l),.d (i64 n)] (.d (ints (setOf (l++[n])))):=by
 refine con Tryz.func113 rfl rfl Tryz.call113 rfl fun hwf=>?_
 have h1:=setOf_len l
 rw [← setOf_put]
 (repeat' ((conv=>whnf);first | refine gA ?_ | ((with_reducible first | refine gD (fun h=>?_) (fun h=>?_) | refine gE (fun h=>?_) (fun h=>?_)) <;> (try simp only [lm] at h) <;> try have hw:=wn h) | refine gC (spec_SetOf l) ?_ | refine gC (spec_l02Put (setOf l) n (by omega)) ?_ | intro _)) <;> (try (conv=>whnf))
 exact⟨rfl,rfl,trivial⟩
theorem actOf_get {p:Proj} {k:Nat} {a:Activ} (h:p.acts[k]? =some a):actOf p k=a:=by simp [actOf,List.getD_eq_getElem?_getD,h]
theorem mode_use {p:Proj} (ho:projOk p=true) {k:Nat} {a:Activ} (h:p.acts[k]? =some a) {m:Mode} (hm:m∈a.modes):m.use.length=p.ress.length:=by
 have:=(activ_mode ((projForm ho).act k a h) hm).2.2.1
 omega
theorem modes_few {p:Proj} (ho:projOk p=true) {k:Nat} {a:Activ} (h:p.acts[k]? =some a):a.modes.length≤3:=by
 have:=(projForm ho).act k a h
 simp only [activOk,Bool.and_eq_true,within_iff] at this
 omega
end Go.Proofs.YtkiohdpapinecaaGreat.Abs
set_option linter.unusedVariables false
set_option linter.unusedSimpArgs false
set_option maxRecDepth 20000
set_option maxHeartbeats 4000000
namespace Go.Proofs.YtkiohdpapinecaaGreat.Abs
open Go.Proofs
def usesRes (p:Proj) (r:Int) (i:Int):Bool:=(actOf p i.toNat).modes.any fun m=>decide (m.use.getD r.toNat 0 > 0)
def users (p:Proj) (r:Int):List Int:=if projOk p=true∧hasRes p r=true then (upTo p.acts.length).filter (usesRes p r) else []
theorem slices_IndexFunc_Mode (l:List Mode) (fc:Nat) (caps:List AV) (p:Mode→Bool) (hc:∀x∈l,Con fc ([.d x.av]++caps.map .ref) (.d (.bool (p x)))):
  Con 442 [.d (.sl (l.map Mode.av)),.fn fc caps] (.d (i64 (findI p l 0))):=by
 refine con Tryz.func442 rfl rfl Tryz.call442 rfl fun hwf=>?_
 simp only [ARs.wf,AR.wf,AV.wf,AV.wfs,List.length_map,lim] at hwf
 (conv=>whnf)
 refine loopF [0,1,7] [] [] ?_
 (conv=>whnf)
 refine LoopC.go ((Nat)) (fun k=>(k≤l.length)∧(findI p (l.drop k) k=findI p l 0)) (fun k=>[(8,.data (i64 k))]) (fun _=>[]) (fun _=>[]) (fun k=>l.length - k) (0) ?_ ?_
 ·exact⟨by omega,rfl⟩
 rintro k ⟨hk,hi⟩
 by_cases hlt:k < l.length
 ·obtain⟨x,hx⟩:∃x,l[k]? =some x:=⟨l[k]'hlt,by simp⟩
  (repeat' ((conv=>whnf);first | with_reducible refine Idx.got hx rfl ?_ | refine gA ?_ | ((with_reducible first | refine gD (fun h=>?_) (fun h=>?_) | refine gE (fun h=>?_) (fun h=>?_)) <;> (try simp only [lm] at h) <;> try have hw:=wn h) | with_reducible refine gI (fun x hx=>?_) | with_reducible refine gJ (fun j x hj hx=>?_) | refine gV ?_ | refine gC (hc x (List.mem_of_getElem? hx)) ?_ | intro _)) <;> (try (conv=>whnf))
  ·refine⟨?_,rfl,trivial⟩
   rw [drop_get (l:=l) hx,findI,if_pos h] at hi
   rw [← hi]
  ·refine nx (k+1) ?_
   rw [drop_get (l:=l) hx,findI,if_neg (by simp [h])] at hi
   exact⟨by omega,hi⟩
  ·exfalso;omega
 ·(repeat' ((conv=>whnf);first | (exfalso;omega) | refine gA ?_ | ((with_reducible first | refine gD (fun h=>?_) (fun h=>?_) | refine gE (fun h=>?_) (fun h=>?_)) <;> (try simp only [lm] at h) <;> try have hw:=wn h) | with_reducible refine gI (fun x hx=>?_) | with_reducible refine gJ (fun j x hj hx=>?_) | refine gV ?_ | intro _)) <;> (try (conv=>whnf))
  refine⟨?_,rfl,trivial⟩
  rw [drop_end' (by assumption)] at hi
  rw [← hi];rfl
theorem slices_ContainsFunc_Mode (l:List Mode) (fc:Nat) (caps:List AV) (p:Mode→Bool) (hc:∀x∈l,Con fc ([.d x.av]++caps.map .ref) (.d (.bool (p x)))):
  Con 397 [.d (.sl (l.map Mode.av)),.fn fc caps] (.d (.bool (l.any p))):=by
 refine con Tryz.func397 rfl rfl Tryz.call397 rfl fun hwf=>?_
 (repeat' ((conv=>whnf);first | refine gA ?_ | ((with_reducible first | refine gD (fun h=>?_) (fun h=>?_) | refine gE (fun h=>?_) (fun h=>?_)) <;> (try simp only [lm] at h) <;> try have hw:=wn h) | refine gC (slices_IndexFunc_Mode l fc caps p hc) ?_ | intro _)) <;> (try (conv=>whnf))
 refine⟨?_,rfl,trivial⟩
 rw [← findI_ge l 0]
theorem impl_Users1 (m:Mode) (r:Int) (k:Nat) (e:r=k) (hk:k < m.use.length):Con 398 [.d m.av,.ref (i64 r)] (.d (.bool (decide (m.use.getD r.toNat 0 > 0)))):=by
 refine con Tryz.func398 rfl rfl Tryz.call398 rfl fun hwf=>?_
 obtain⟨n,hn⟩:∃n,m.use[k]? =some n:=⟨m.use[k]'hk,by simp⟩
 have e2:m.use.getD r.toNat 0=n:=by rw [e,Int.toNat_natCast,List.getD_eq_getElem?_getD,hn];rfl
 (repeat' ((conv=>whnf);first | with_reducible refine Idx.got hn e ?_ | refine gA ?_ | ((with_reducible first | refine gD (fun h=>?_) (fun h=>?_) | refine gE (fun h=>?_) (fun h=>?_)) <;> (try simp only [lm] at h) <;> try have hw:=wn h) | with_reducible refine gI (fun x hx=>?_) | with_reducible refine gJ (fun j x hj hx=>?_) | intro _)) <;> (try (conv=>whnf))
 all_goals exact⟨by rw [e2],rfl,trivial⟩
theorem upTo_filter (f:Int→Bool) (k:Nat):(upTo (k+1)).filter f=(upTo k).filter f++if f k=true then [(k:Int)] else []:=by
 rw [upTo,upTo,List.range_succ,List.map_append,List.filter_append]
 congr 1
 simp only [List.map_cons,List.map_nil,List.filter_cons,List.filter_nil]
 rfl
theorem upTo_filter_len (f:Int→Bool) (k:Nat):((upTo k).filter f).length≤k:=Nat.le_trans (List.length_filter_le _ _) (Nat.le_of_eq (upTo_len k))
theorem impl_Users (p:Proj) (r:Int) (hp:p.fine):Con 345 [.d p.av,.d (i64 r)] (.d (ints (users p r))):=by
 refine con Tryz.func345 rfl rfl Tryz.call345 rfl fun hwf=>?_
 cases ho:projOk p with
 | false=>
  (repeat' ((conv=>whnf);first | refine gA ?_ | ((with_reducible first | refine gD (fun h=>?_) (fun h=>?_) | refine gE (fun h=>?_) (fun h=>?_)) <;> (try simp only [lm] at h) <;> try have hw:=wn h) | with_reducible refine gI (fun x hx=>?_) | with_reducible refine gJ (fun j x hj hx=>?_) | refine gP ?_ | refine gV ?_ | refine gC (impl_ProjectOk p hp) ?_ | intro _)) <;> (try (conv=>whnf))
  all_goals (refine⟨?_,rfl,trivial⟩;rw [users,if_neg (by simp [ho])];rfl)
 | true=>
 cases hr:hasRes p r with
 | false=>
  (repeat' ((conv=>whnf);first | refine gA ?_ | ((with_reducible first | refine gD (fun h=>?_) (fun h=>?_) | refine gE (fun h=>?_) (fun h=>?_)) <;> (try simp only [lm] at h) <;> try have hw:=wn h) | with_reducible refine gI (fun x hx=>?_) | with_reducible refine gJ (fun j x hj hx=>?_) | refine gP ?_ | refine gV ?_ | refine gC (impl_ProjectOk p hp) ?_ | refine gC (impl_hasResource p r) ?_ | intro _)) <;> (try (conv=>whnf))
  all_goals (refine⟨?_,rfl,trivial⟩;rw [users,if_neg (by simp [hr])];rfl)
 | true=>
  rw [users,if_pos ⟨ho,hr⟩]
  have hna:=(projForm ho).nact
  obtain⟨ρ,re,e1,e2,e3⟩:=hasRes_lt hr
  have hρ:=(List.getElem?_eq_some_iff.1 e2).1
  (repeat' ((conv=>whnf);first | refine gA ?_ | ((with_reducible first | refine gD (fun h=>?_) (fun h=>?_) | refine gE (fun h=>?_) (fun h=>?_)) <;> (try simp only [lm] at h) <;> try have hw:=wn h) | with_reducible refine gI (fun x hx=>?_) | with_reducible refine gJ (fun j x hj hx=>?_) | refine gP ?_ | refine gV ?_ | refine gC (impl_ProjectOk p hp) ?_ | refine gC (impl_hasResource p r) ?_ | intro _)) <;> (try (conv=>whnf))
  refine loopF [3,19,20] [3] [17] ?_
  (conv=>whnf)
  refine LoopC.go ((Nat)) (fun k=>(k≤p.acts.length)) (fun k=>[(21,.data (i64 k)),(5,.own 17 0)]) (fun _=>[]) (fun k=>[(17,3,((upTo k).filter (usesRes p r)).map i64,0)]) (fun k=>p.acts.length - k) (0) ?_ ?_
  ·exact Nat.zero_le _
  rintro k hk
  have hfl:=upTo_filter_len (usesRes p r) k
  by_cases hlt:k < p.acts.length
  rotate_left
  ·(repeat' ((conv=>whnf);first | (exfalso;omega) | refine gA ?_ | ((with_reducible first | refine gD (fun h=>?_) (fun h=>?_) | refine gE (fun h=>?_) (fun h=>?_)) <;> (try simp only [lm] at h) <;> try have hw:=wn h) | with_reducible refine gI (fun x hx=>?_) | with_reducible refine gJ (fun j x hj hx=>?_) | refine gP ?_ | refine gV ?_ | intro _)) <;> (try (conv=>whnf))
   refine⟨?_,rfl,trivial⟩
   rw [show p.acts.length=k by omega]
  obtain⟨a,ha⟩:∃a,p.acts[k]? =some a:=⟨p.acts[k]'hlt,by simp⟩
  have hu:usesRes p r k=a.modes.any fun m=>decide (m.use.getD r.toNat 0 > 0):=by rw [usesRes,Int.toNat_natCast,actOf_get ha]
  (repeat' ((conv=>whnf);first | with_reducible refine Idx.got ha rfl ?_ | refine gA ?_ | ((with_reducible first | refine gD (fun h=>?_) (fun h=>?_) | refine gE (fun h=>?_) (fun h=>?_)) <;> (try simp only [lm] at h) <;> try have hw:=wn h) | with_reducible refine gI (fun x hx=>?_) | with_reducible refine gJ (fun j x hj hx=>?_) | refine gP ?_ | refine gV ?_ | refine gC (slices_ContainsFunc_Mode a.modes 398 [i64 r] (fun m=>decide (m.use.getD r.toNat 0 > 0)) (fun m hm=>impl_Users1 m r ρ e1 (by rw [mode_use ho ha hm];exact hρ))) ?_ | intro _)) <;> (try (conv=>whnf))
  ·refine nw (k+1) ?_ ?_
   ·(repeat' ((conv=>whnf) <;> (first | exact trivial | exact rfl | with_reducible refine And.intro ?_ ?_))) <;> ((conv=>whnf) <;> ((rw [upTo_filter,if_pos (by rw [hu];assumption)];simp)))
   exact (by omega:k+1≤p.acts.length)
  ·refine nw (k+1) ?_ ?_
   ·(repeat' ((conv=>whnf) <;> (first | exact trivial | exact rfl | with_reducible refine And.intro ?_ ?_))) <;> ((conv=>whnf) <;> ((rw [upTo_filter,if_neg (by rw [hu];simp only [Bool.not_eq_true];assumption)];simp)))
   exact (by omega:k+1≤p.acts.length)
  ·exact trivial
def someIf (b:Bool) (k:Int):List Int:=if b=true then [k] else []
theorem upTo_pw (k:Nat) (f:Int→Bool):((upTo k).filter f).Pairwise (· < ·):=by
 refine List.Pairwise.filter _ ?_
 rw [upTo,List.pairwise_map]
 exact List.pairwise_lt_range.imp (fun h=>Int.ofNat_lt.2 h)
theorem put_user {k:Nat} {f:Int→Bool} {b:Bool}:setOf ((upTo k).filter f++someIf b k++[(k:Int)])=(upTo k).filter f++someIf true k:=by
 have h1:=upTo_pw k f
 refine setOf_is (List.pairwise_append.2 ⟨h1,by simp [someIf],fun x hx y hy=>?_⟩) fun x=>?_
 ·simp only [someIf,if_true,List.mem_singleton] at hy
  subst hy
  have:=(List.mem_filter.1 hx).1
  simp only [upTo,List.mem_map,List.mem_range] at this
  obtain⟨j,hj,rfl⟩:=this
  exact Int.ofNat_lt.2 hj
 ·cases b <;> simp [someIf,or_assoc]
theorem any_take {α:Type} {f:α→Bool} {l:List α} {j:Nat} {x:α} (h:l[j]? =some x):(l.take (j+1)).any f=((l.take j).any f||f x):=by
 obtain⟨hj,rfl⟩:=List.getElem?_eq_some_iff.1 h
 rw [List.take_succ_eq_append_getElem hj,List.any_append];simp
theorem spec_Users (p:Proj) (r:Int) (hp:p.fine):Con 319 [.d p.av,.d (i64 r)] (.d (ints (users p r))):=by
 refine con Tryz.func319 rfl rfl Tryz.call319 rfl fun hwf=>?_
 simp only [ARs.wf,AR.wf,AV.wf,AV.wfs,List.length_map,lim] at hwf
 cases ho:projOk p with
 | false=>
  (repeat' ((conv=>whnf);first | refine gA ?_ | ((with_reducible first | refine gD (fun h=>?_) (fun h=>?_) | refine gE (fun h=>?_) (fun h=>?_)) <;> (try simp only [lm] at h) <;> try have hw:=wn h) | with_reducible refine gI (fun x hx=>?_) | with_reducible refine gJ (fun j x hj hx=>?_) | refine gV ?_ | refine gC (spec_ProjectOk p hp) ?_ | intro _)) <;> (try (conv=>whnf))
  all_goals (refine⟨?_,rfl,trivial⟩;rw [users,if_neg (by simp [ho])];rfl)
 | true=>
 cases hr:hasRes p r with
 | false=>
  have hr':within r 0 (((p.ress.map Resrc.av).length:Int) - 1)=false:=by rw [List.length_map];exact hr
  (repeat' ((conv=>whnf);first | refine gA ?_ | ((with_reducible first | refine gD (fun h=>?_) (fun h=>?_) | refine gE (fun h=>?_) (fun h=>?_)) <;> (try simp only [lm] at h) <;> try have hw:=wn h) | with_reducible refine gI (fun x hx=>?_) | with_reducible refine gJ (fun j x hj hx=>?_) | refine gV ?_ | refine gC (spec_ProjectOk p hp) ?_ | refine gC (spec_in r 0 (((p.ress.map Resrc.av).length:Int) - 1)) ?_ | intro _)) <;> (try (conv=>whnf))
  all_goals (refine⟨?_,rfl,trivial⟩;rw [users,if_neg (by simp [hr])];rfl)
 | true=>
  rw [users,if_pos ⟨ho,hr⟩]
  have hna:=(projForm ho).nact
  have hr':within r 0 (((p.ress.map Resrc.av).length:Int) - 1)=true:=by rw [List.length_map];exact hr
  obtain⟨ρ,re,e1,e2,e3⟩:=hasRes_lt hr
  have hρ:=(List.getElem?_eq_some_iff.1 e2).1
  (repeat' ((conv=>whnf);first | refine gA ?_ | ((with_reducible first | refine gD (fun h=>?_) (fun h=>?_) | refine gE (fun h=>?_) (fun h=>?_)) <;> (try simp only [lm] at h) <;> try have hw:=wn h) | with_reducible refine gI (fun x hx=>?_) | with_reducible refine gJ (fun j x hj hx=>?_) | refine gV ?_ | refine gC (spec_ProjectOk p hp) ?_ | refine gC (spec_in r 0 (((p.ress.map Resrc.av).length:Int) - 1)) ?_ | intro _)) <;> (try (conv=>whnf))
  refine loopF [1,24,25] [] [] ?_
  (conv=>whnf)
  refine LoopC.go ((Nat)) (fun k=>(k≤p.acts.length)) (fun k=>[(26,.data (i64 k)),(5,.data (ints ((upTo k).filter (usesRes p r))))]) (fun _=>[]) (fun _=>[]) (fun k=>p.acts.length - k) (0) ?_ ?_
  ·exact Nat.zero_le _
  rintro k hk
  have hfl:=upTo_filter_len (usesRes p r) k
  by_cases hlt:k < p.acts.length
  rotate_left
  ·(repeat' ((conv=>whnf);first | (exfalso;omega) | refine gA ?_ | ((with_reducible first | refine gD (fun h=>?_) (fun h=>?_) | refine gE (fun h=>?_) (fun h=>?_)) <;> (try simp only [lm] at h) <;> try have hw:=wn h) | with_reducible refine gI (fun x hx=>?_) | with_reducible refine gJ (fun j x hj hx=>?_) | refine gV ?_ | intro _)) <;> (try (conv=>whnf))
   refine⟨?_,rfl,trivial⟩
   rw [show p.acts.length=k by omega]
  obtain⟨a,ha⟩:∃a,p.acts[k]? =some a:=⟨p.acts[k]'hlt,by simp⟩
  have hu:usesRes p r k=a.modes.any fun m=>decide (m.use.getD r.toNat 0 > 0):=by rw [usesRes,Int.toNat_natCast,actOf_get ha]
  (repeat' ((conv=>whnf);first | with_reducible refine Idx.got ha rfl ?_ | refine gA ?_ | ((with_reducible first | refine gD (fun h=>?_) (fun h=>?_) | refine gE (fun h=>?_) (fun h=>?_)) <;> (try simp only [lm] at h) <;> try have hw:=wn h) | with_reducible refine gI (fun x hx=>?_) | with_reducible refine gJ (fun j x hj hx=>?_) | refine gV ?_ | intro _)) <;> (try (conv=>whnf))
  rotate_left
  ·exact trivial
  have hm3:=modes_few ho ha
  refine loopF [1,6,24,25,26,32,33] [] [] ?_
  (conv=>whnf)
  refine LoopC.mk ((Nat)) (fun j=>(j≤a.modes.length)) (fun j=>[(34,.data (i64 j)),(5,.data (ints ((upTo k).filter (usesRes p r)++someIf ((a.modes.take j).any fun m=>decide (m.use.getD r.toNat 0 > 0)) k)))]) (fun _=>[]) (fun _=>[]) (fun j=>a.modes.length - j) (0) ?_ ?_ ?_
  rotate_left
  ·(repeat' ((conv=>whnf) <;> (first | exact trivial | exact rfl | with_reducible refine And.intro ?_ ?_))) <;> ((conv=>whnf) <;> (simp [someIf]))
  rotate_left
  ·exact Nat.zero_le _
  rintro j hj
  by_cases hjl:j < a.modes.length
  ·obtain⟨m,hm⟩:∃m,a.modes[j]? =some m:=⟨a.modes[j]'hjl,by simp⟩
   have hml:=mode_use ho ha (List.mem_of_getElem? hm)
   obtain⟨n,hn⟩:∃n,m.use[ρ]? =some n:=⟨m.use[ρ]'(by omega),by simp⟩
   have e2':m.use.getD r.toNat 0=n:=by rw [e1,Int.toNat_natCast,List.getD_eq_getElem?_getD,hn];rfl
   have hat:=any_take (f:=fun m:Mode=>decide (m.use.getD r.toNat 0 > 0)) hm
   simp only [e2'] at hat
   have hs1:((upTo k).filter (usesRes p r)++someIf ((a.modes.take j).any fun m=>decide (m.use.getD r.toNat 0 > 0)) k).length < lim:=by
    rw [List.length_append]
    have:∀b,(someIf b k).length≤1:=fun b=>by cases b <;> simp [someIf]
    have:=this ((a.modes.take j).any fun m=>decide (m.use.getD r.toNat 0 > 0))
    unfold lim;omega
   (repeat' ((conv=>whnf);first | with_reducible refine Idx.got hm rfl ?_ | with_reducible refine Idx.got hn e1 ?_ | refine gA ?_ | ((with_reducible first | refine gD (fun h=>?_) (fun h=>?_) | refine gE (fun h=>?_) (fun h=>?_)) <;> (try simp only [lm] at h) <;> try have hw:=wn h) | with_reducible refine gI (fun x hx=>?_) | with_reducible refine gJ (fun j x hj hx=>?_) | refine gV ?_ | refine gC (spec_SetAdd _ (k:Int) hs1) ?_ | intro _)) <;> (try (conv=>whnf))
   ·refine nw (j+1) ?_ ?_
    ·(repeat' ((conv=>whnf) <;> (first | exact trivial | exact rfl | with_reducible refine And.intro ?_ ?_))) <;> ((conv=>whnf) <;> ((rw [hat,decide_eq_true (by assumption),Bool.or_true,put_user])))
    exact (by omega:j+1≤a.modes.length)
   ·refine nw (j+1) ?_ ?_
    ·(repeat' ((conv=>whnf) <;> (first | exact trivial | exact rfl | with_reducible refine And.intro ?_ ?_))) <;> ((conv=>whnf) <;> ((rw [hat,decide_eq_false (by assumption),Bool.or_false])))
    exact (by omega:j+1≤a.modes.length)
   ·exfalso;omega
  ·(repeat' ((conv=>whnf);first | (exfalso;omega) | refine gA ?_ | ((with_reducible first | refine gD (fun h=>?_) (fun h=>?_) | refine gE (fun h=>?_) (fun h=>?_)) <;> (try simp only [lm] at h) <;> try have hw:=wn h) | with_reducible refine gI (fun x hx=>?_) | with_reducible refine gJ (fun j x hj hx=>?_) | refine gV ?_ | intro _)) <;> (try (conv=>whnf))
   refine nw (k+1) ?_ ?_
   ·(repeat' ((conv=>whnf) <;> (first | exact trivial | exact rfl | with_reducible refine And.intro ?_ ?_))) <;> ((conv=>whnf) <;> ((rw [upTo_filter,hu,List.take_of_length_le (by omega)];rfl)))
   exact (by omega:k+1≤p.acts.length)
def ruleActs (p:Proj) (r:Rul):List Int:=
 if ruleOk p r=true then
  if r.kind=1 then setOf [(linkOf p r.a).src,(linkOf p r.a).dst]
  else if r.kind=2 then [r.a] else if r.kind=5 then [r.b,r.c] else if r.kind=6 then intRange p.acts.length else users p r.a
 else []
theorem impl_RuleActivities (p:Proj) (r:Rul) (hp:p.fine):Con 255 [.d p.av,.d r.av] (.d (ints (ruleActs p r))):=by
 refine con Tryz.func255 rfl rfl Tryz.call255 rfl fun hwf=>?_
 cases ho:ruleOk p r with
 | false=>
  (repeat' ((conv=>whnf);first | refine gA ?_ | ((with_reducible first | refine gD (fun h=>?_) (fun h=>?_) | refine gE (fun h=>?_) (fun h=>?_)) <;> (try simp only [lm] at h) <;> try have hw:=wn h) | with_reducible refine gI (fun x hx=>?_) | with_reducible refine gJ (fun j x hj hx=>?_) | refine gC (impl_RuleOk p r hp) ?_ | intro _)) <;> (try (conv=>whnf))
  refine⟨?_,rfl,trivial⟩;rw [ruleActs,if_neg (by rw [ho];exact Bool.false_ne_true)];rfl
 | true=>
  rw [ruleActs,if_pos ho]
  cases ruleKind ho with
  | link hk k l e1 hl=>
   have e:linkOf p r.a=l:=by simp [linkOf,e1,List.getD_eq_getElem?_getD,hl]
   (repeat' ((conv=>whnf);first | with_reducible refine Br.yes (decide_eq_true (by omega)) ?_ | with_reducible refine Br.no (decide_eq_false (by omega)) ?_ | with_reducible refine Idx.got hl e1 ?_ | refine gA ?_ | ((with_reducible first | refine gD (fun h=>?_) (fun h=>?_) | refine gE (fun h=>?_) (fun h=>?_)) <;> (try simp only [lm] at h) <;> try have hw:=wn h) | with_reducible refine gI (fun x hx=>?_) | with_reducible refine gJ (fun j x hj hx=>?_) | refine gC (impl_RuleOk p r hp) ?_ | refine gC (impl_SetOf [l.src,l.dst]) ?_ | intro _)) <;> (try (conv=>whnf))
   all_goals (refine⟨?_,rfl,trivial⟩;rw [if_pos hk,e])
  | fin hk ha=>
   (repeat' ((conv=>whnf);first | with_reducible refine Br.yes (decide_eq_true (by omega)) ?_ | with_reducible refine Br.no (decide_eq_false (by omega)) ?_ | refine gA ?_ | ((with_reducible first | refine gD (fun h=>?_) (fun h=>?_) | refine gE (fun h=>?_) (fun h=>?_)) <;> (try simp only [lm] at h) <;> try have hw:=wn h) | with_reducible refine gI (fun x hx=>?_) | with_reducible refine gJ (fun j x hj hx=>?_) | refine gC (impl_RuleOk p r hp) ?_ | intro _)) <;> (try (conv=>whnf))
   all_goals (refine⟨?_,rfl,trivial⟩;simp [hk])
  | time hk ha hb=>
   (repeat' ((conv=>whnf);first | with_reducible refine Br.yes (decide_eq_true (by omega)) ?_ | with_reducible refine Br.no (decide_eq_false (by omega)) ?_ | refine gA ?_ | ((with_reducible first | refine gD (fun h=>?_) (fun h=>?_) | refine gE (fun h=>?_) (fun h=>?_)) <;> (try simp only [lm] at h) <;> try have hw:=wn h) | with_reducible refine gI (fun x hx=>?_) | with_reducible refine gJ (fun j x hj hx=>?_) | refine gC (impl_RuleOk p r hp) ?_ | refine gC (impl_Users p r.a hp) ?_ | intro _)) <;> (try (conv=>whnf))
   all_goals (refine⟨?_,rfl,trivial⟩;simp [hk])
  | work hk ha hb hc hlt=>
   (repeat' ((conv=>whnf);first | with_reducible refine Br.yes (decide_eq_true (by omega)) ?_ | with_reducible refine Br.no (decide_eq_false (by omega)) ?_ | refine gA ?_ | ((with_reducible first | refine gD (fun h=>?_) (fun h=>?_) | refine gE (fun h=>?_) (fun h=>?_)) <;> (try simp only [lm] at h) <;> try have hw:=wn h) | with_reducible refine gI (fun x hx=>?_) | with_reducible refine gJ (fun j x hj hx=>?_) | refine gC (impl_RuleOk p r hp) ?_ | refine gC (impl_Users p r.a hp) ?_ | intro _)) <;> (try (conv=>whnf))
   all_goals (refine⟨?_,rfl,trivial⟩;simp [hk])
  | pair hk ha hb hc hlt=>
   (repeat' ((conv=>whnf);first | with_reducible refine Br.yes (decide_eq_true (by omega)) ?_ | with_reducible refine Br.no (decide_eq_false (by omega)) ?_ | refine gA ?_ | ((with_reducible first | refine gD (fun h=>?_) (fun h=>?_) | refine gE (fun h=>?_) (fun h=>?_)) <;> (try simp only [lm] at h) <;> try have hw:=wn h) | with_reducible refine gI (fun x hx=>?_) | with_reducible refine gJ (fun j x hj hx=>?_) | refine gC (impl_RuleOk p r hp) ?_ | intro _)) <;> (try (conv=>whnf))
   all_goals (refine⟨?_,rfl,trivial⟩;simp [hk])
  | stock hk ha=>
   (repeat' ((conv=>whnf);first | with_reducible refine Br.yes (decide_eq_true (by omega)) ?_ | with_reducible refine Br.no (decide_eq_false (by omega)) ?_ | refine gA ?_ | ((with_reducible first | refine gD (fun h=>?_) (fun h=>?_) | refine gE (fun h=>?_) (fun h=>?_)) <;> (try simp only [lm] at h) <;> try have hw:=wn h) | with_reducible refine gI (fun x hx=>?_) | with_reducible refine gJ (fun j x hj hx=>?_) | refine gC (impl_RuleOk p r hp) ?_ | refine gC (impl_IntRange _) ?_ | intro _)) <;> (try (conv=>whnf))
   all_goals (refine⟨?_,rfl,trivial⟩;simp [hk])
theorem spec_RuleActivities (p:Proj) (r:Rul) (hp:p.fine):Con 237 [.d p.av,.d r.av] (.d (ints (ruleActs p r))):=by
 refine con Tryz.func237 rfl rfl Tryz.call237 rfl fun hwf=>?_
 cases ho:ruleOk p r with
 | false=>
  (repeat' ((conv=>whnf);first | refine gA ?_ | ((with_reducible first | refine gD (fun h=>?_) (fun h=>?_) | refine gE (fun h=>?_) (fun h=>?_)) <;> (try simp only [lm] at h) <;> try have hw:=wn h) | with_reducible refine gI (fun x hx=>?_) | with_reducible refine gJ (fun j x hj hx=>?_) | refine gC (spec_RuleOk p r hp) ?_ | intro _)) <;> (try (conv=>whnf))
  refine⟨?_,rfl,trivial⟩;rw [ruleActs,if_neg (by rw [ho];exact Bool.false_ne_true)];rfl
 | true=>
  rw [ruleActs,if_pos ho]
  cases ruleKind ho with
  | link hk k l e1 hl=>
   have e:linkOf p r.a=l:=by simp [linkOf,e1,List.getD_eq_getElem?_getD,hl]
   (repeat' ((conv=>whnf);first | with_reducible refine Br.yes (decide_eq_true (by omega)) ?_ | with_reducible refine Br.no (decide_eq_false (by omega)) ?_ | with_reducible refine Idx.got hl e1 ?_ | refine gA ?_ | ((with_reducible first | refine gD (fun h=>?_) (fun h=>?_) | refine gE (fun h=>?_) (fun h=>?_)) <;> (try simp only [lm] at h) <;> try have hw:=wn h) | with_reducible refine gI (fun x hx=>?_) | with_reducible refine gJ (fun j x hj hx=>?_) | refine gC (spec_RuleOk p r hp) ?_ | refine gC (spec_SetOf [l.src,l.dst]) ?_ | intro _)) <;> (try (conv=>whnf))
   all_goals (refine⟨?_,rfl,trivial⟩;rw [if_pos hk,e])
  | fin hk ha=>
   (repeat' ((conv=>whnf);first | with_reducible refine Br.yes (decide_eq_true (by omega)) ?_ | with_reducible refine Br.no (decide_eq_false (by omega)) ?_ | refine gA ?_ | ((with_reducible first | refine gD (fun h=>?_) (fun h=>?_) | refine gE (fun h=>?_) (fun h=>?_)) <;> (try simp only [lm] at h) <;> try have hw:=wn h) | with_reducible refine gI (fun x hx=>?_) | with_reducible refine gJ (fun j x hj hx=>?_) | refine gC (spec_RuleOk p r hp) ?_ | intro _)) <;> (try (conv=>whnf))
   all_goals (refine⟨?_,rfl,trivial⟩;simp [hk])
  | time hk ha hb=>
   (repeat' ((conv=>whnf);first | with_reducible refine Br.yes (decide_eq_true (by omega)) ?_ | with_reducible refine Br.no (decide_eq_false (by omega)) ?_ | refine gA ?_ | ((with_reducible first | refine gD (fun h=>?_) (fun h=>?_) | refine gE (fun h=>?_) (fun h=>?_)) <;> (try simp only [lm] at h) <;> try have hw:=wn h) | with_reducible refine gI (fun x hx=>?_) | with_reducible refine gJ (fun j x hj hx=>?_) | refine gC (spec_RuleOk p r hp) ?_ | refine gC (spec_Users p r.a hp) ?_ | intro _)) <;> (try (conv=>whnf))
   all_goals (refine⟨?_,rfl,trivial⟩;simp [hk])
  | work hk ha hb hc hlt=>
   (repeat' ((conv=>whnf);first | with_reducible refine Br.yes (decide_eq_true (by omega)) ?_ | with_reducible refine Br.no (decide_eq_false (by omega)) ?_ | refine gA ?_ | ((with_reducible first | refine gD (fun h=>?_) (fun h=>?_) | refine gE (fun h=>?_) (fun h=>?_)) <;> (try simp only [lm] at h) <;> try have hw:=wn h) | with_reducible refine gI (fun x hx=>?_) | with_reducible refine gJ (fun j x hj hx=>?_) | refine gC (spec_RuleOk p r hp) ?_ | refine gC (spec_Users p r.a hp) ?_ | intro _)) <;> (try (conv=>whnf))
   all_goals (refine⟨?_,rfl,trivial⟩;simp [hk])
  | pair hk ha hb hc hlt=>
   (repeat' ((conv=>whnf);first | with_reducible refine Br.yes (decide_eq_true (by omega)) ?_ | with_reducible refine Br.no (decide_eq_false (by omega)) ?_ | refine gA ?_ | ((with_reducible first | refine gD (fun h=>?_) (fun h=>?_) | refine gE (fun h=>?_) (fun h=>?_)) <;> (try simp only [lm] at h) <;> try have hw:=wn h) | with_reducible refine gI (fun x hx=>?_) | with_reducible refine gJ (fun j x hj hx=>?_) | refine gC (spec_RuleOk p r hp) ?_ | intro _)) <;> (try (conv=>whnf))
   all_goals (refine⟨?_,rfl,trivial⟩;simp [hk])
  | stock hk ha=>
   (repeat' ((conv=>whnf);first | with_reducible refine Br.yes (decide_eq_true (by omega)) ?_ | with_reducible refine Br.no (decide_eq_false (by omega)) ?_ | refine gA ?_ | ((with_reducible first | refine gD (fun h=>?_) (fun h=>?_) | refine gE (fun h=>?_) (fun h=>?_)) <;> (try simp only [lm] at h) <;> try have hw:=wn h) | with_reducible refine gI (fun x hx=>?_) | with_reducible refine gJ (fun j x hj hx=>?_) | refine gC (spec_RuleOk p r hp) ?_ | refine gC (spec_IntRange _) ?_ | intro _)) <;> (try (conv=>whnf))
   all_goals (refine⟨?_,rfl,trivial⟩;simp [hk])
end Go.Proofs.YtkiohdpapinecaaGreat.Abs
