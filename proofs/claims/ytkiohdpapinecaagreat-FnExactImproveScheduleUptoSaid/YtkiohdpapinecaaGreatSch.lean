/- Contracts: schedules. No statement of a claim. -/
import Derived.Test.YtkiohdpapinecaaGreatC12
import Derived.Test.YtkiohdpapinecaaGreatPlain
import Derived.Test.YtkiohdpapinecaaGreatC20a
set_option linter.all false
set_option linter.unusedVariables false
set_option linter.unusedSimpArgs false
set_option maxRecDepth 20000
set_option maxHeartbeats 4000000
namespace Go.Proofs.YtkiohdpapinecaaGreat.Abs
open Go.Proofs
structure SGet (p:Proj) (s:Sched) (k:Nat) (a:Activ) (t m:Int) (q:Nat) (mo:Mode):Prop where
 act:p.acts[k]? =some a
 start:s.starts[k]? =some t
 mode:s.modes[k]? =some m
 mq:m=q
 moE:a.modes[q]? =some mo
 tb:0≤t∧t≤60
 aok:activOk a p.ress.length p.stocks.length=true
theorem schedForm_parts {p:Proj} {s:Sched} (h:schedForm p s=true):projOk p=true∧s.starts.length=p.acts.length∧s.modes.length=p.acts.length∧∀k,k < p.acts.length→schedAt p s k=true:=by
 simp only [schedForm,Bool.and_eq_true,allN_iff,Bool.not_eq_true',decide_eq_false_iff_not] at h
 exact⟨h.1.1.1,by omega,by omega,h.2⟩
theorem s_get {p:Proj} {s:Sched} (h:schedForm p s=true) {k:Nat} (hk:k < p.acts.length):∃a t m q mo,SGet p s k a t m q mo:=by
 obtain⟨h1,h2,h3,h4⟩:=schedForm_parts h
 have e1:p.acts[k]? =some (p.acts[k]'hk):=by simp
 have e2:s.starts[k]? =some (s.starts[k]'(by omega)):=by simp
 have e3:s.modes[k]? =some (s.modes[k]'(by omega)):=by simp
 have hd:=h4 k hk
 simp only [schedAt,e1,e2,e3,Bool.and_eq_true,isTime,within_iff] at hd
 exact⟨_,_,_,(s.modes[k]'(by omega)).toNat,(p.acts[k]'hk).modes[(s.modes[k]'(by omega)).toNat]'(by omega),e1,e2,e3,by omega,by simp,hd.1,(projForm h1).act k _ e1⟩
theorem impl_ScheduleForm (p:Proj) (s:Sched) (hp:p.fine):Con 151 [.d p.av,.d s.av] (.d (.bool (schedForm p s))):=by
 refine con Tryz.func151 rfl rfl Tryz.call151 rfl fun hwf=>?_
 simp only [ARs.wf,AR.wf,AV.wf,AV.wfs,List.length_map,lim] at hwf
 (repeat' ((conv=>whnf);first | refine gA ?_ | ((with_reducible first | refine gD (fun h=>?_) (fun h=>?_) | refine gE (fun h=>?_) (fun h=>?_)) <;> (try simp only [lm] at h) <;> try have hw:=wn h) | with_reducible refine gI (fun x hx=>?_) | with_reducible refine gJ (fun j x hj hx=>?_) | refine gV ?_ | refine gC (impl_ProjectOk p hp) ?_ | intro _)) <;> (try (conv=>whnf))
 all_goals try (refine⟨?_,rfl,trivial⟩;simp [schedForm, *];done)
 refine loopF [2,3,29] [2,3] [] ?_
 (conv=>whnf)
 refine LoopC.go ((Nat)) (fun k=>(k≤p.acts.length)∧(∀i,i < k→schedAt p s i=true)) (fun k=>[(30,.data (i64 k))]) (fun _=>[]) (fun _=>[]) (fun k=>p.acts.length - k) (0) ?_ ?_
 ·exact⟨by omega,by omega⟩
 rintro k ⟨hk,hi⟩
 by_cases hlt:k < p.acts.length
 ·obtain⟨t,e2⟩:∃x,s.starts[k]? =some x:=⟨s.starts[k]'(by omega),by simp⟩
  obtain⟨m,e3⟩:∃x,s.modes[k]? =some x:=⟨s.modes[k]'(by omega),by simp⟩
  obtain⟨a,e4⟩:∃x,p.acts[k]? =some x:=⟨p.acts[k]'(by omega),by simp⟩
  have hm:=wfs_get hwf.1.2.1.2 e4
  simp only [AV.wf,AV.wfs,List.length_map] at hm
  have e:schedAt p s k=(isTime t&&within m 0 (a.modes.length - 1)):=by simp only [schedAt,e2,e3,e4]
  (repeat' ((conv=>whnf);first | with_reducible refine Idx.got e2 rfl ?_ | with_reducible refine Idx.got e3 rfl ?_ | with_reducible refine Idx.got e4 rfl ?_ | refine gA ?_ | ((with_reducible first | refine gD (fun h=>?_) (fun h=>?_) | refine gE (fun h=>?_) (fun h=>?_)) <;> (try simp only [lm] at h) <;> try have hw:=wn h) | with_reducible refine gI (fun x hx=>?_) | with_reducible refine gJ (fun j x hj hx=>?_) | refine gV ?_ | refine gC (impl_isTime _) ?_ | refine gC (impl_within _ _ _) ?_ | intro _)) <;> (try (conv=>whnf))
  all_goals first
   | (exfalso;omega)
   | (refine⟨?_,rfl,trivial⟩;rw [schedForm,allN_no k hlt (by rw [e];simp [*])];simp;done)
   | (refine nx (k+1) ?_
      exact⟨by omega,allN_step hi (by rw [e];simp [*])⟩)
 ·(repeat' ((conv=>whnf);first | (exfalso;omega) | refine gA ?_ | ((with_reducible first | refine gD (fun h=>?_) (fun h=>?_) | refine gE (fun h=>?_) (fun h=>?_)) <;> (try simp only [lm] at h) <;> try have hw:=wn h) | with_reducible refine gI (fun x hx=>?_) | with_reducible refine gJ (fun j x hj hx=>?_) | refine gV ?_ | intro _)) <;> (try (conv=>whnf))
  refine⟨?_,rfl,trivial⟩
  rw [schedForm,allN_iff.2 fun i hh=>hi i (by omega)];simp [*]
theorem spec_ScheduleForm (p:Proj) (s:Sched) (hp:p.fine):Con 146 [.d p.av,.d s.av] (.d (.bool (schedForm p s))):=by
 refine con Tryz.func146 rfl rfl Tryz.call146 rfl fun hwf=>?_
 simp only [ARs.wf,AR.wf,AV.wf,AV.wfs,List.length_map,lim] at hwf
 (repeat' ((conv=>whnf);first | refine gA ?_ | ((with_reducible first | refine gD (fun h=>?_) (fun h=>?_) | refine gE (fun h=>?_) (fun h=>?_)) <;> (try simp only [lm] at h) <;> try have hw:=wn h) | with_reducible refine gI (fun x hx=>?_) | with_reducible refine gJ (fun j x hj hx=>?_) | refine gV ?_ | refine gC (spec_ProjectOk p hp) ?_ | intro _)) <;> (try (conv=>whnf))
 all_goals try (refine⟨?_,rfl,trivial⟩;simp [schedForm, *];done)
 refine loopF [3,29,30] [3] [] ?_
 (conv=>whnf)
 refine LoopC.go ((Nat)) (fun k=>(k≤p.acts.length)∧(∀i,i < k→schedAt p s i=true)) (fun k=>[(31,.data (i64 k))]) (fun _=>[]) (fun _=>[]) (fun k=>p.acts.length - k) (0) ?_ ?_
 ·exact⟨by omega,by omega⟩
 rintro k ⟨hk,hi⟩
 by_cases hlt:k < p.acts.length
 ·obtain⟨t,e2⟩:∃x,s.starts[k]? =some x:=⟨s.starts[k]'(by omega),by simp⟩
  obtain⟨m,e3⟩:∃x,s.modes[k]? =some x:=⟨s.modes[k]'(by omega),by simp⟩
  obtain⟨a,e4⟩:∃x,p.acts[k]? =some x:=⟨p.acts[k]'(by omega),by simp⟩
  have hm:=wfs_get hwf.1.2.1.2 e4
  simp only [AV.wf,AV.wfs,List.length_map] at hm
  have e:schedAt p s k=(isTime t&&within m 0 (a.modes.length - 1)):=by simp only [schedAt,e2,e3,e4]
  (repeat' ((conv=>whnf);first | with_reducible refine Idx.got e2 rfl ?_ | with_reducible refine Idx.got e3 rfl ?_ | with_reducible refine Idx.got e4 rfl ?_ | refine gA ?_ | ((with_reducible first | refine gD (fun h=>?_) (fun h=>?_) | refine gE (fun h=>?_) (fun h=>?_)) <;> (try simp only [lm] at h) <;> try have hw:=wn h) | with_reducible refine gI (fun x hx=>?_) | with_reducible refine gJ (fun j x hj hx=>?_) | refine gV ?_ | refine gC (spec_in _ _ _) ?_ | intro _)) <;> (try (conv=>whnf))
  all_goals first
   | (exfalso;omega)
   | (refine⟨?_,rfl,trivial⟩;rw [schedForm,allN_no k hlt (by rw [e];simp [isTime, *])];simp;done)
   | (refine nx (k+1) ?_
      exact⟨by omega,allN_step hi (by rw [e];simp [isTime, *])⟩)
 ·(repeat' ((conv=>whnf);first | (exfalso;omega) | refine gA ?_ | ((with_reducible first | refine gD (fun h=>?_) (fun h=>?_) | refine gE (fun h=>?_) (fun h=>?_)) <;> (try simp only [lm] at h) <;> try have hw:=wn h) | with_reducible refine gI (fun x hx=>?_) | with_reducible refine gJ (fun j x hj hx=>?_) | refine gV ?_ | intro _)) <;> (try (conv=>whnf))
  refine⟨?_,rfl,trivial⟩
  rw [schedForm,allN_iff.2 fun i hh=>hi i (by omega)];simp [*]
theorem modeOf_eq {p:Proj} {s:Sched} {k:Nat} {a:Activ} {t m:Int} {q:Nat} {mo:Mode} (g:SGet p s k a t m q mo):modeOf p s k=mo:=by
 have:=g.mq;subst this
 simp [modeOf,actOf,List.getD_eq_getElem?_getD,g.act,g.mode,g.moE]
theorem endOf_eq {p:Proj} {s:Sched} {k:Nat} {a:Activ} {t m:Int} {q:Nat} {mo:Mode} (g:SGet p s k a t m q mo):endOf p s k=t+mo.dur:=by
 rw [endOf,modeOf_eq g];simp [List.getD_eq_getElem?_getD,g.start]
theorem s_dur {p:Proj} {s:Sched} {k:Nat} {a:Activ} {t m:Int} {q:Nat} {mo:Mode} (g:SGet p s k a t m q mo):1≤mo.dur∧mo.dur≤12:=(activ_mode g.aok (List.mem_of_getElem? g.moE)).1
theorem impl_mode (p:Proj) (s:Sched) (n:Int) {k:Nat} {a:Activ} {t m:Int} {q:Nat} {mo:Mode} (g:SGet p s k a t m q mo) (hn:n=k):Con 208 [.d p.av,.d s.av,.d (i64 n)] (.d mo.av):=by
 refine con Tryz.func208 rfl rfl Tryz.call208 rfl fun hwf=>?_
 (repeat' ((conv=>whnf);first | with_reducible refine Idx.got g.act hn ?_ | with_reducible refine Idx.got g.mode hn ?_ | with_reducible refine Idx.got g.moE g.mq ?_ | refine gA ?_ | ((with_reducible first | refine gD (fun h=>?_) (fun h=>?_) | refine gE (fun h=>?_) (fun h=>?_)) <;> (try simp only [lm] at h) <;> try have hw:=wn h) | with_reducible refine gI (fun x hx=>?_) | with_reducible refine gJ (fun j x hj hx=>?_) | intro _)) <;> (try (conv=>whnf))
 exact⟨rfl,rfl,trivial⟩
theorem spec_l09Mode (p:Proj) (s:Sched) (n:Int) {k:Nat} {a:Activ} {t m:Int} {q:Nat} {mo:Mode} (g:SGet p s k a t m q mo) (hn:n=k):Con 234 [.d p.av,.d s.av,.d (i64 n)] (.d mo.av):=by
 refine con Tryz.func234 rfl rfl Tryz.call234 rfl fun hwf=>?_
 (repeat' ((conv=>whnf);first | with_reducible refine Idx.got g.act hn ?_ | with_reducible refine Idx.got g.mode hn ?_ | with_reducible refine Idx.got g.moE g.mq ?_ | refine gA ?_ | ((with_reducible first | refine gD (fun h=>?_) (fun h=>?_) | refine gE (fun h=>?_) (fun h=>?_)) <;> (try simp only [lm] at h) <;> try have hw:=wn h) | with_reducible refine gI (fun x hx=>?_) | with_reducible refine gJ (fun j x hj hx=>?_) | intro _)) <;> (try (conv=>whnf))
 exact⟨rfl,rfl,trivial⟩
theorem impl_end (p:Proj) (s:Sched) (n:Int) {k:Nat} {a:Activ} {t m:Int} {q:Nat} {mo:Mode} (g:SGet p s k a t m q mo) (hn:n=k):Con 158 [.d p.av,.d s.av,.d (i64 n)] (.d (i64 (endOf p s k))):=by
 refine con Tryz.func158 rfl rfl Tryz.call158 rfl fun hwf=>?_
 have hd:=s_dur g
 have ht:=g.tb
 rw [endOf_eq g]
 (repeat' ((conv=>whnf);first | with_reducible refine Idx.got g.start hn ?_ | refine gA ?_ | ((with_reducible first | refine gD (fun h=>?_) (fun h=>?_) | refine gE (fun h=>?_) (fun h=>?_)) <;> (try simp only [lm] at h) <;> try have hw:=wn h) | with_reducible refine gI (fun x hx=>?_) | with_reducible refine gJ (fun j x hj hx=>?_) | refine gV ?_ | refine gC (impl_mode p s n g hn) ?_ | intro _)) <;> (try (conv=>whnf))
 exact⟨rfl,rfl,trivial⟩
theorem spec_l09End (p:Proj) (s:Sched) (n:Int) {k:Nat} {a:Activ} {t m:Int} {q:Nat} {mo:Mode} (g:SGet p s k a t m q mo) (hn:n=k):Con 157 [.d p.av,.d s.av,.d (i64 n)] (.d (i64 (endOf p s k))):=by
 refine con Tryz.func157 rfl rfl Tryz.call157 rfl fun hwf=>?_
 have hd:=s_dur g
 have ht:=g.tb
 rw [endOf_eq g]
 (repeat' ((conv=>whnf);first | with_reducible refine Idx.got g.start hn ?_ | refine gA ?_ | ((with_reducible first | refine gD (fun h=>?_) (fun h=>?_) | refine gE (fun h=>?_) (fun h=>?_)) <;> (try simp only [lm] at h) <;> try have hw:=wn h) | with_reducible refine gI (fun x hx=>?_) | with_reducible refine gJ (fun j x hj hx=>?_) | refine gV ?_ | refine gC (spec_l09Mode p s n g hn) ?_ | intro _)) <;> (try (conv=>whnf))
 exact⟨rfl,rfl,trivial⟩
end Go.Proofs.YtkiohdpapinecaaGreat.Abs
set_option linter.unusedVariables false
set_option linter.unusedSimpArgs false
set_option maxRecDepth 20000
set_option maxHeartbeats 4000000
namespace Go.Proofs.YtkiohdpapinecaaGreat.Abs
open Go.Proofs
theorem maxTo_bound {f:Nat→Int} {c:Int}:∀{n:Nat},(∀k,k < n→0≤f k∧f k≤c)→0≤c→0≤maxTo f n∧maxTo f n≤c
 | 0,_,hc=>⟨Int.le_refl _,hc⟩
 | n+1,h,hc=>by
  have h1:=maxTo_bound (n:=n) (fun k hk=>h k (by omega)) hc
  have h2:=h n (by omega)
  rw [maxTo];omega
theorem impl_Makespan (p:Proj) (s:Sched) (hp:p.fine):Con 88 [.d p.av,.d s.av] (.d (i64 (makespan p s))):=by
 refine con Tryz.func88 rfl rfl Tryz.call88 rfl fun hwf=>?_
 simp only [ARs.wf,AR.wf,AV.wf,AV.wfs,List.length_map,lim] at hwf
 cases hf:schedForm p s with
 | false=>
  (repeat' ((conv=>whnf);first | refine gA ?_ | ((with_reducible first | refine gD (fun h=>?_) (fun h=>?_) | refine gE (fun h=>?_) (fun h=>?_)) <;> (try simp only [lm] at h) <;> try have hw:=wn h) | refine gV ?_ | refine gC (impl_ScheduleForm p s hp) ?_ | intro _)) <;> (try (conv=>whnf))
  refine⟨?_,rfl,trivial⟩
  rw [makespan,if_neg (by simp [hf])]
 | true=>
  rw [makespan,if_pos hf]
  (repeat' ((conv=>whnf);first | refine gA ?_ | ((with_reducible first | refine gD (fun h=>?_) (fun h=>?_) | refine gE (fun h=>?_) (fun h=>?_)) <;> (try simp only [lm] at h) <;> try have hw:=wn h) | refine gV ?_ | refine gC (impl_ScheduleForm p s hp) ?_ | intro _)) <;> (try (conv=>whnf))
  refine loopF [2,3,13] [2,3] [] ?_
  (conv=>whnf)
  refine LoopC.go ((Nat)×(Int)) (fun⟨k,n⟩=>(k≤p.acts.length)∧(n=maxTo (endOf p s) k)) (fun⟨k,n⟩=>[(14,.data (i64 k)),(5,.data (i64 n))]) (fun _=>[]) (fun _=>[]) (fun⟨k,n⟩=>p.acts.length - k) ⟨0,0⟩ ?_ ?_
  ·exact⟨by omega,rfl⟩
  rintro⟨k,n⟩ ⟨hk,hn⟩
  by_cases hlt:k < p.acts.length
  ·obtain⟨a,t,m,q,mo,g⟩:=s_get hf hlt
   (repeat' ((conv=>whnf);first | refine gA ?_ | ((with_reducible first | refine gD (fun h=>?_) (fun h=>?_) | refine gE (fun h=>?_) (fun h=>?_)) <;> (try simp only [lm] at h) <;> try have hw:=wn h) | refine gV ?_ | refine gC (impl_end p s _ g rfl) ?_ | intro _)) <;> (try (conv=>whnf))
   ·refine nx ⟨k+1,max n (endOf p s k)⟩ ?_
    exact⟨by omega,by rw [maxTo,hn]⟩
   ·exfalso;omega
  ·(repeat' ((conv=>whnf);first | (exfalso;omega) | refine gA ?_ | ((with_reducible first | refine gD (fun h=>?_) (fun h=>?_) | refine gE (fun h=>?_) (fun h=>?_)) <;> (try simp only [lm] at h) <;> try have hw:=wn h) | refine gV ?_ | intro _)) <;> (try (conv=>whnf))
   refine⟨?_,rfl,trivial⟩
   rw [hn,show k=p.acts.length by omega]
theorem spec_Makespan (p:Proj) (s:Sched) (hp:p.fine):Con 87 [.d p.av,.d s.av] (.d (i64 (makespan p s))):=by
 refine con Tryz.func87 rfl rfl Tryz.call87 rfl fun hwf=>?_
 simp only [ARs.wf,AR.wf,AV.wf,AV.wfs,List.length_map,lim] at hwf
 cases hf:schedForm p s with
 | false=>
  (repeat' ((conv=>whnf);first | refine gA ?_ | ((with_reducible first | refine gD (fun h=>?_) (fun h=>?_) | refine gE (fun h=>?_) (fun h=>?_)) <;> (try simp only [lm] at h) <;> try have hw:=wn h) | refine gV ?_ | refine gC (spec_ScheduleForm p s hp) ?_ | intro _)) <;> (try (conv=>whnf))
  refine⟨?_,rfl,trivial⟩
  rw [makespan,if_neg (by simp [hf])]
 | true=>
  rw [makespan,if_pos hf]
  have hna:=(projForm (schedForm_parts hf).1).nact
  (repeat' ((conv=>whnf);first | refine gA ?_ | ((with_reducible first | refine gD (fun h=>?_) (fun h=>?_) | refine gE (fun h=>?_) (fun h=>?_)) <;> (try simp only [lm] at h) <;> try have hw:=wn h) | refine gV ?_ | refine gC (spec_ScheduleForm p s hp) ?_ | intro _)) <;> (try (conv=>whnf))
  refine loopF [2,3,13] [2,3] [] ?_
  (conv=>whnf)
  refine LoopC.go ((Nat)×(Int)) (fun⟨k,n⟩=>(k≤p.acts.length)∧(k=0→n= -1)∧(0 < k→n=maxTo (endOf p s) k)) (fun⟨k,n⟩=>[(14,.data (i64 k)),(5,.data (i64 n))]) (fun _=>[]) (fun _=>[]) (fun⟨k,n⟩=>p.acts.length - k) ⟨0, -1⟩ ?_ ?_
  ·exact⟨by omega,fun _=>rfl,by omega⟩
  rintro⟨k,n⟩ ⟨hk,h0,hn⟩
  by_cases hlt:k < p.acts.length
  ·obtain⟨a,t,m,q,mo,g⟩:=s_get hf hlt
   have hd:=s_dur g
   have ht:=g.tb
   have he:=endOf_eq g
   (repeat' ((conv=>whnf);first | refine gA ?_ | ((with_reducible first | refine gD (fun h=>?_) (fun h=>?_) | refine gE (fun h=>?_) (fun h=>?_)) <;> (try simp only [lm] at h) <;> try have hw:=wn h) | refine gV ?_ | refine gC (spec_l09End p s _ g rfl) ?_ | refine gC (spec_l02Max _ _) ?_ | intro _)) <;> (try (conv=>whnf))
   ·refine nx ⟨k+1,max n (endOf p s k)⟩ ?_
    refine⟨by omega,by omega,fun _=>?_⟩
    rw [maxTo]
    by_cases hz:k=0
    ·subst hz;rw [h0 rfl,maxTo];omega
    ·rw [hn (by omega)]
   ·exfalso;omega
  ·(repeat' ((conv=>whnf);first | (exfalso;omega) | refine gA ?_ | ((with_reducible first | refine gD (fun h=>?_) (fun h=>?_) | refine gE (fun h=>?_) (fun h=>?_)) <;> (try simp only [lm] at h) <;> try have hw:=wn h) | refine gV ?_ | intro _)) <;> (try (conv=>whnf))
   refine⟨?_,rfl,trivial⟩
   rw [hn (by omega),show k=p.acts.length by omega]
theorem impl_keptIn (l:List Int) (fc:Nat) (caps:List AV) (p:Int→Bool) (hc:∀n∈l,Con fc ([.d (i64 n)]++caps.map .ref) (.d (.bool (p n)))):Con 352 [.d (ints l),.fn fc caps] (.d (ints (l.filter p))):=by
 refine con Tryz.func352 rfl rfl Tryz.call352 rfl fun hwf=>?_
 simp only [ARs.wf,AR.wf,AV.wf,AV.wfs,List.length_map,lim] at hwf
 (repeat' ((conv=>whnf);first | refine gA ?_ | ((with_reducible first | refine gD (fun h=>?_) (fun h=>?_) | refine gE (fun h=>?_) (fun h=>?_)) <;> (try simp only [lm] at h) <;> try have hw:=wn h) | with_reducible refine gI (fun x hx=>?_) | with_reducible refine gJ (fun j x hj hx=>?_) | refine gP ?_ | refine gV ?_ | intro _)) <;> (try (conv=>whnf))
 refine loopF [1,9,10] [] [8] ?_
 (conv=>whnf)
 refine LoopC.go ((Nat)×(List Int)) (fun⟨k,o⟩=>(k≤l.length)∧(o.length≤k)∧(o++(l.drop k).filter p=l.filter p)) (fun⟨k,o⟩=>[(11,.data (i64 k)),(5,.own 8 0)]) (fun _=>[]) (fun⟨k,o⟩=>[(8,3,o.map i64,0)]) (fun⟨k,o⟩=>l.length - k) ⟨0,[]⟩ ?_ ?_
 ·exact⟨by omega,by simp,rfl⟩
 rintro⟨k,o⟩ ⟨hk,ho,hi⟩
 by_cases hlt:k < l.length
 ·obtain⟨x,hx⟩:∃x,l[k]? =some x:=⟨l[k]'hlt,by simp⟩
  (repeat' ((conv=>whnf);first | with_reducible refine Idx.got hx rfl ?_ | refine gA ?_ | ((with_reducible first | refine gD (fun h=>?_) (fun h=>?_) | refine gE (fun h=>?_) (fun h=>?_)) <;> (try simp only [lm] at h) <;> try have hw:=wn h) | with_reducible refine gI (fun x hx=>?_) | with_reducible refine gJ (fun j x hj hx=>?_) | refine gP ?_ | refine gV ?_ | refine gC (hc x (List.mem_of_getElem? hx)) ?_ | intro _)) <;> (try (conv=>whnf))
  ·refine nw ⟨k+1,o++[x]⟩ ?_ ?_
   ·(repeat' ((conv=>whnf) <;> (first | exact trivial | exact rfl | with_reducible refine And.intro ?_ ?_))) <;> ((conv=>whnf) <;> (simp))
   exact⟨by omega,by simp;omega,(filter_step hi hx).1 h⟩
  ·refine nx ⟨k+1,o⟩ ?_
   exact⟨by omega,by omega,(filter_step hi hx).2 h⟩
  ·exfalso;omega
 ·(repeat' ((conv=>whnf);first | (exfalso;omega) | refine gA ?_ | ((with_reducible first | refine gD (fun h=>?_) (fun h=>?_) | refine gE (fun h=>?_) (fun h=>?_)) <;> (try simp only [lm] at h) <;> try have hw:=wn h) | with_reducible refine gI (fun x hx=>?_) | with_reducible refine gJ (fun j x hj hx=>?_) | refine gP ?_ | refine gV ?_ | intro _)) <;> (try (conv=>whnf))
  refine⟨?_,rfl,trivial⟩
  rw [← hi,drop_end hlt];simp
def runP (p:Proj) (s:Sched) (t:Int) (n:Int):Bool:=runs p s t n.toNat
theorem runs_eq {p:Proj} {s:Sched} {k:Nat} {a:Activ} {t m:Int} {q:Nat} {mo:Mode} (g:SGet p s k a t m q mo) (x:Int):runs p s x k=(decide (t≤x)&&decide (endOf p s k > x)):=by
 simp [runs,List.getD_eq_getElem?_getD,g.start]
theorem impl_running1 (p:Proj) (s:Sched) (t:Int) (n:Int) {k:Nat} {a:Activ} {u m:Int} {q:Nat} {mo:Mode} (g:SGet p s k a u m q mo) (hn:n=k):Con 438 [.d (i64 n),.ref s.av,.ref (i64 t),.ref p.av] (.d (.bool (runP p s t n))):=by
 refine con Tryz.func438 rfl rfl Tryz.call438 rfl fun hwf=>?_
 have e:runP p s t n=(decide (u≤t)&&decide (endOf p s k > t)):=by subst hn;rw [runP];exact runs_eq g t
 rw [e]
 (repeat' ((conv=>whnf);first | with_reducible refine Idx.got g.start hn ?_ | refine gA ?_ | ((with_reducible first | refine gD (fun h=>?_) (fun h=>?_) | refine gE (fun h=>?_) (fun h=>?_)) <;> (try simp only [lm] at h) <;> try have hw:=wn h) | with_reducible refine gI (fun x hx=>?_) | with_reducible refine gJ (fun j x hj hx=>?_) | refine gC (impl_end p s n g hn) ?_ | intro _)) <;> (try (conv=>whnf))
 all_goals (refine⟨?_,rfl,trivial⟩;simp [*])
theorem intRange_upTo {n:Nat} (h:n≤200):intRange n=upTo n:=by
 rw [intRange,if_pos (within_iff.2 (by omega))];simp [upTo]
theorem upTo_mem {n:Nat} {x:Int} (h:x∈upTo n):∃k:Nat,x=k∧k < n:=by
 simp only [upTo,List.mem_map,List.mem_range] at h
 obtain⟨k,hk,rfl⟩:=h
 exact⟨k,rfl,hk⟩
theorem impl_running (p:Proj) (s:Sched) (t:Int) (hf:schedForm p s=true):Con 384 [.d p.av,.d s.av,.d (i64 t)] (.d (ints ((upTo p.acts.length).filter (runP p s t)))):=by
 refine con Tryz.func384 rfl rfl Tryz.call384 rfl fun hwf=>?_
 simp only [ARs.wf,AR.wf,AV.wf,AV.wfs,List.length_map,lim] at hwf
 have hna:=(projForm (schedForm_parts hf).1).nact
 have hR:=impl_IntRange (p.acts.map Activ.av).length
 rw [show intRange (((p.acts.map Activ.av).length:Nat):Int)=upTo p.acts.length by rw [List.length_map];exact intRange_upTo (by omega)] at hR
 have hc:∀n∈upTo p.acts.length,Con 438 ([.d (i64 n)]++[s.av,i64 t,p.av].map .ref) (.d (.bool (runP p s t n))):=fun n hn=>by
  obtain⟨k,e,hk⟩:=upTo_mem hn
  obtain⟨a,u,m,q,mo,g⟩:=s_get hf hk
  exact impl_running1 p s t n g e
 (repeat' ((conv=>whnf);first | refine gA ?_ | ((with_reducible first | refine gD (fun h=>?_) (fun h=>?_) | refine gE (fun h=>?_) (fun h=>?_)) <;> (try simp only [lm] at h) <;> try have hw:=wn h) | refine gC (hR) ?_ | refine gC (impl_keptIn (upTo p.acts.length) 438 [s.av,i64 t,p.av] _ hc) ?_ | intro _)) <;> (try (conv=>whnf))
 exact⟨rfl,rfl,trivial⟩
end Go.Proofs.YtkiohdpapinecaaGreat.Abs
set_option linter.unusedVariables false
set_option linter.unusedSimpArgs false
set_option maxRecDepth 20000
set_option maxHeartbeats 4000000
namespace Go.Proofs.YtkiohdpapinecaaGreat.Abs
open Go.Proofs
theorem useIn_eq {p:Proj} {s:Sched} {k:Nat} {a:Activ} {t m:Int} {q:Nat} {mo:Mode} (g:SGet p s k a t m q mo) {r:Int} (hr:hasRes p r=true) (x:Int):
  ∃(ρ:Nat) (u:Int),r=ρ∧mo.use[ρ]? =some u∧(0≤u∧u≤20)∧useIn p s r x k=if runs p s x k=true then u else 0:=by
 have hm:=activ_mode g.aok (List.mem_of_getElem? g.moE)
 have hw:=within_iff.1 hr
 have e2:mo.use[r.toNat]? =some (mo.use[r.toNat]'(by omega)):=by simp
 refine⟨r.toNat,_,by omega,e2,hm.2.1 _ (List.mem_of_getElem? e2),?_⟩
 rw [useIn,modeOf_eq g,List.getD_eq_getElem?_getD,e2];rfl
theorem useIn_bound {p:Proj} {s:Sched} (hf:schedForm p s=true) {r:Int} (hr:hasRes p r=true) (x:Int) {k:Nat} (hk:k < p.acts.length):0≤useIn p s r x k∧useIn p s r x k≤20:=by
 obtain⟨a,t,m,q,mo,g⟩:=s_get hf hk
 obtain⟨ρ,u,_,_,hb,e⟩:=useIn_eq g hr x
 rw [e];split <;> omega
theorem usage_bound {p:Proj} {s:Sched} (hf:schedForm p s=true) {r:Int} (hr:hasRes p r=true) (x:Int) {k:Nat} (hk:k≤p.acts.length):0≤sumTo (useIn p s r x) k∧sumTo (useIn p s r x) k≤20*k:=
 sumTo_bound fun i hi=>useIn_bound hf hr x (by omega)
def sumOver (f:Int→Int):List Int→Int→Int
 | [],s=>s
 | x::r,s=>sumOver f r (s+f x)
theorem sumOver_app (f:Int→Int):∀(l m:List Int) (s:Int),sumOver f (l++m) s=sumOver f m (sumOver f l s)
 | [],_,_=>rfl
 | x::l,m,s=>sumOver_app f l m (s+f x)
theorem sumOver_upTo {f:Int→Int} {P:Int→Bool} {g:Nat→Int}:∀(n:Nat),(∀k,k < n→g k=if P k=true then f k else 0)→sumOver f ((upTo n).filter P) 0=sumTo g n
 | 0,_=>rfl
 | n+1,h=>by
  have e:upTo (n+1)=upTo n++[(n:Int)]:=by simp [upTo,List.range_succ]
  rw [e,List.filter_append,sumOver_app,sumOver_upTo n fun k hk=>h k (by omega),sumTo,h n (by omega)]
  by_cases hp:P n=true
  ·rw [if_pos hp,List.filter_cons,if_pos hp];rfl
  ·rw [if_neg hp,List.filter_cons,if_neg hp];simp [sumOver]
def useOf (p:Proj) (s:Sched) (r:Int) (n:Int):Int:=(modeOf p s n.toNat).use.getD r.toNat 0
theorem usage_run {p:Proj} {s:Sched} (hf:schedForm p s=true) (r t:Int):sumOver (useOf p s r) ((upTo p.acts.length).filter (runP p s t)) 0=usageIn p s r t:=
 sumOver_upTo _ fun k hk=>by simp [useIn,runP,useOf]
theorem impl_usage (p:Proj) (s:Sched) (r t:Int) (hf:schedForm p s=true) (hr:hasRes p r=true):Con 312 [.d p.av,.d s.av,.d (i64 r),.d (i64 t)] (.d (i64 (usageIn p s r t))):=by
 refine con Tryz.func312 rfl rfl Tryz.call312 rfl fun hwf=>?_
 simp only [ARs.wf,AR.wf,AV.wf,AV.wfs,List.length_map,lim] at hwf
 have hna:=(projForm (schedForm_parts hf).1).nact
 obtain⟨l,hl⟩:∃l,l=(upTo p.acts.length).filter (runP p s t):=⟨_,rfl⟩
 have hlen:l.length≤p.acts.length:=by rw [hl];have:=List.length_filter_le (runP p s t) (upTo p.acts.length);rw [upTo_len] at this;exact this
 have hmem:∀x∈l,∃k:Nat,x=k∧k < p.acts.length:=fun x hx=>by rw [hl] at hx;exact upTo_mem (List.mem_filter.1 hx).1
 have hrun:=impl_running p s t hf
 rw [← hl] at hrun
 rw [← usage_run hf r t, ← hl]
 have hb:∀x∈l,0≤useOf p s r x∧useOf p s r x≤20:=fun x hx=>by
  obtain⟨k,rfl,hk⟩:=hmem x hx
  obtain⟨a,u,m,q,mo,g⟩:=s_get hf hk
  obtain⟨ρ,v,e1,e2,e3,_⟩:=useIn_eq g hr t
  subst e1
  simpa [useOf,modeOf_eq g,List.getD_eq_getElem?_getD,e2] using e3
 (repeat' ((conv=>whnf);first | refine gA ?_ | ((with_reducible first | refine gD (fun h=>?_) (fun h=>?_) | refine gE (fun h=>?_) (fun h=>?_)) <;> (try simp only [lm] at h) <;> try have hw:=wn h) | with_reducible refine gI (fun x hx=>?_) | with_reducible refine gJ (fun j x hj hx=>?_) | refine gV ?_ | refine gC (hrun) ?_ | intro _)) <;> (try (conv=>whnf))
 refine loopF [2,4,5,15,16] [4,5] [] ?_
 (conv=>whnf)
 refine LoopC.go ((Nat)×(Int)) (fun⟨j,n⟩=>(j≤l.length)∧(0≤n∧n≤20*j)∧(sumOver (useOf p s r) (l.drop j) n=sumOver (useOf p s r) l 0)) (fun⟨j,n⟩=>[(17,.data (i64 j)),(9,.data (i64 n))]) (fun _=>[]) (fun _=>[]) (fun⟨j,n⟩=>l.length - j) ⟨0,0⟩ ?_ ?_
 ·exact⟨by omega,by omega,rfl⟩
 rintro⟨j,n⟩ ⟨hj,hn,hi⟩
 by_cases hlt:j < l.length
 ·obtain⟨x,hx⟩:∃x,l[j]? =some x:=⟨l[j]'hlt,by simp⟩
  have hxb:=hb x (List.mem_of_getElem? hx)
  obtain⟨k,rfl,hk⟩:=hmem x (List.mem_of_getElem? hx)
  obtain⟨a,u,m,q,mo,g⟩:=s_get hf hk
  obtain⟨ρ,v,e1,e2,e3,_⟩:=useIn_eq g hr t
  have ev:useOf p s r (k:Int)=v:=by subst e1;simp [useOf,modeOf_eq g,List.getD_eq_getElem?_getD,e2]
  rw [ev] at hxb
  rw [drop_get hx,sumOver,ev] at hi
  (repeat' ((conv=>whnf);first | with_reducible refine Idx.got hx rfl ?_ | with_reducible refine Idx.got e2 e1 ?_ | refine gA ?_ | ((with_reducible first | refine gD (fun h=>?_) (fun h=>?_) | refine gE (fun h=>?_) (fun h=>?_)) <;> (try simp only [lm] at h) <;> try have hw:=wn h) | with_reducible refine gI (fun x hx=>?_) | with_reducible refine gJ (fun j x hj hx=>?_) | refine gV ?_ | refine gC (impl_mode p s _ g rfl) ?_ | intro _)) <;> (try (conv=>whnf))
  ·refine nx ⟨j+1,n+v⟩ ?_
   exact⟨by omega,by omega,hi⟩
  ·exfalso;omega
 ·(repeat' ((conv=>whnf);first | (exfalso;omega) | refine gA ?_ | ((with_reducible first | refine gD (fun h=>?_) (fun h=>?_) | refine gE (fun h=>?_) (fun h=>?_)) <;> (try simp only [lm] at h) <;> try have hw:=wn h) | with_reducible refine gI (fun x hx=>?_) | with_reducible refine gJ (fun j x hj hx=>?_) | refine gV ?_ | intro _)) <;> (try (conv=>whnf))
  refine⟨?_,rfl,trivial⟩
  rw [drop_end hlt] at hi
  rw [← hi];rfl
theorem spec_l09Use (p:Proj) (s:Sched) (r t:Int) (hf:schedForm p s=true) (hr:hasRes p r=true):Con 309 [.d p.av,.d s.av,.d (i64 r),.d (i64 t)] (.d (i64 (usageIn p s r t))):=by
 refine con Tryz.func309 rfl rfl Tryz.call309 rfl fun hwf=>?_
 simp only [ARs.wf,AR.wf,AV.wf,AV.wfs,List.length_map,lim] at hwf
 (repeat' ((conv=>whnf);first | refine gA ?_ | ((with_reducible first | refine gD (fun h=>?_) (fun h=>?_) | refine gE (fun h=>?_) (fun h=>?_)) <;> (try simp only [lm] at h) <;> try have hw:=wn h) | with_reducible refine gI (fun x hx=>?_) | with_reducible refine gJ (fun j x hj hx=>?_) | refine gV ?_ | intro _)) <;> (try (conv=>whnf))
 refine loopF [2,3,4,5,13] [4,5] [] ?_
 (conv=>whnf)
 refine LoopC.go ((Nat)×(Int)) (fun⟨k,n⟩=>(k≤p.acts.length)∧(n=sumTo (useIn p s r t) k)) (fun⟨k,n⟩=>[(14,.data (i64 k)),(9,.data (i64 n))]) (fun _=>[]) (fun _=>[]) (fun⟨k,n⟩=>p.acts.length - k) ⟨0,0⟩ ?_ ?_
 ·exact⟨by omega,rfl⟩
 rintro⟨k,n⟩ ⟨hk,hn⟩
 by_cases hlt:k < p.acts.length
 ·obtain⟨a,u,m,q,mo,g⟩:=s_get hf hlt
  obtain⟨ρ,v,e1,e2,e3,e4⟩:=useIn_eq g hr t
  have hb:=usage_bound hf hr t hk
  rw [runs_eq g] at e4
  (repeat' ((conv=>whnf);first | with_reducible refine Idx.got g.start rfl ?_ | with_reducible refine Idx.got e2 e1 ?_ | refine gA ?_ | ((with_reducible first | refine gD (fun h=>?_) (fun h=>?_) | refine gE (fun h=>?_) (fun h=>?_)) <;> (try simp only [lm] at h) <;> try have hw:=wn h) | with_reducible refine gI (fun x hx=>?_) | with_reducible refine gJ (fun j x hj hx=>?_) | refine gV ?_ | refine gC (spec_l09End p s _ g rfl) ?_ | refine gC (spec_l09Mode p s _ g rfl) ?_ | intro _)) <;> (try (conv=>whnf))
  ·refine nx ⟨k+1,n+v⟩ ?_
   exact⟨by omega,by rw [sumTo,hn,e4,if_pos (by simp [*])]⟩
  ·refine nx ⟨k+1,n⟩ ?_
   exact⟨by omega,by rw [sumTo,hn,e4,if_neg (by simp [*])];simp⟩
  ·refine nx ⟨k+1,n⟩ ?_
   exact⟨by omega,by rw [sumTo,hn,e4,if_neg (by simp [*])];simp⟩
  ·exfalso;omega
 ·(repeat' ((conv=>whnf);first | (exfalso;omega) | refine gA ?_ | ((with_reducible first | refine gD (fun h=>?_) (fun h=>?_) | refine gE (fun h=>?_) (fun h=>?_)) <;> (try simp only [lm] at h) <;> try have hw:=wn h) | with_reducible refine gI (fun x hx=>?_) | with_reducible refine gJ (fun j x hj hx=>?_) | refine gV ?_ | intro _)) <;> (try (conv=>whnf))
  refine⟨?_,rfl,trivial⟩
  rw [hn,show k=p.acts.length by omega];rfl
end Go.Proofs.YtkiohdpapinecaaGreat.Abs
set_option linter.unusedVariables false
set_option linter.unusedSimpArgs false
set_option maxRecDepth 20000
set_option maxHeartbeats 4000000
namespace Go.Proofs.YtkiohdpapinecaaGreat.Abs
open Go.Proofs
theorem spec_rules (p:Proj) (hok:projOk p=true):Con 224 [.d p.av] (.d (.sl ((rulesOf p).map Rul.av))):=by
 refine con Tryz.func224 rfl rfl Tryz.call224 rfl fun hwf=>?_
 simp only [ARs.wf,AR.wf,AV.wf,AV.wfs,List.length_map,lim] at hwf
 obtain⟨ha,hr,hs,hl⟩:=proj_small hok
 (repeat' ((conv=>whnf);first | refine gA ?_ | ((with_reducible first | refine gD (fun h=>?_) (fun h=>?_) | refine gE (fun h=>?_) (fun h=>?_)) <;> (try simp only [lm] at h) <;> try have hw:=wn h) | refine gP ?_ | refine gV ?_ | intro _)) <;> (try (conv=>whnf))
 refine loopF [1,15] [1] [12] ?_
 (conv=>whnf)
 refine LoopC.go ((Nat)×(List Rul)) (fun⟨k,o⟩=>(k≤p.links.length)∧(o.length≤k)∧(o=(List.range k).map linkRule)) (fun⟨k,o⟩=>[(16,.data (i64 k)),(3,.own 12 0)]) (fun _=>[]) (fun⟨k,o⟩=>[(12,126,o.map Rul.av,0)]) (fun⟨k,o⟩=>p.links.length - k) ⟨0,[]⟩ ?_ ?_
 ·exact⟨by omega,by simp,rfl⟩
 rintro⟨k,o⟩ ⟨hk,ol,ho⟩
 by_cases hlt:k < p.links.length
 ·(repeat' ((conv=>whnf);first | refine gA ?_ | ((with_reducible first | refine gD (fun h=>?_) (fun h=>?_) | refine gE (fun h=>?_) (fun h=>?_)) <;> (try simp only [lm] at h) <;> try have hw:=wn h) | refine gP ?_ | refine gV ?_ | intro _)) <;> (try (conv=>whnf))
  ·refine nw ⟨k+1,o++[linkRule k]⟩ ?_ ?_
   ·(repeat' ((conv=>whnf) <;> (first | exact trivial | exact rfl | with_reducible refine And.intro ?_ ?_))) <;> ((conv=>whnf) <;> ((simp [linkRule];rfl)))
   exact⟨by omega,by simp;omega,by rw [ho,List.range_succ,List.map_append];rfl⟩
  ·exfalso;omega
 (repeat' ((conv=>whnf);first | (exfalso;omega) | refine gA ?_ | ((with_reducible first | refine gD (fun h=>?_) (fun h=>?_) | refine gE (fun h=>?_) (fun h=>?_)) <;> (try simp only [lm] at h) <;> try have hw:=wn h) | refine gP ?_ | refine gV ?_ | intro _)) <;> (try (conv=>whnf))
 rw [show k=p.links.length by omega] at ho ol
 clear hlt hk
 refine loopF [1,27] [1] [12] ?_
 (conv=>whnf)
 refine LoopC.go ((Nat)×(List Rul)) (fun⟨k2,o2⟩=>(k2≤p.acts.length)∧(o2.length≤12+k2)∧(o2=o++(List.range k2).map endRule)) (fun⟨k2,o2⟩=>[(28,.data (i64 k2)),(3,.own 12 0)]) (fun _=>[]) (fun⟨k2,o2⟩=>[(12,126,o2.map Rul.av,0)]) (fun⟨k2,o2⟩=>p.acts.length - k2) ⟨0,o⟩ ?_ ?_
 ·exact⟨by omega,by omega,by simp⟩
 rintro⟨k2,o2⟩ ⟨hk2,ol2,ho2⟩
 by_cases hlt:k2 < p.acts.length
 ·(repeat' ((conv=>whnf);first | refine gA ?_ | ((with_reducible first | refine gD (fun h=>?_) (fun h=>?_) | refine gE (fun h=>?_) (fun h=>?_)) <;> (try simp only [lm] at h) <;> try have hw:=wn h) | refine gP ?_ | refine gV ?_ | intro _)) <;> (try (conv=>whnf))
  ·refine nw ⟨k2+1,o2++[endRule k2]⟩ ?_ ?_
   ·(repeat' ((conv=>whnf) <;> (first | exact trivial | exact rfl | with_reducible refine And.intro ?_ ?_))) <;> ((conv=>whnf) <;> ((simp [endRule];rfl)))
   exact⟨by omega,by simp;omega,by rw [ho2,List.range_succ,List.map_append,List.append_assoc];rfl⟩
  ·exfalso;omega
 (repeat' ((conv=>whnf);first | (exfalso;omega) | refine gA ?_ | ((with_reducible first | refine gD (fun h=>?_) (fun h=>?_) | refine gE (fun h=>?_) (fun h=>?_)) <;> (try simp only [lm] at h) <;> try have hw:=wn h) | refine gP ?_ | refine gV ?_ | intro _)) <;> (try (conv=>whnf))
 rw [show k2=p.acts.length by omega] at ho2 ol2
 clear hlt hk2
 refine loopF [1,39] [1] [12] ?_
 (conv=>whnf)
 refine LoopC.go ((Nat)×(List Rul)) (fun⟨r,o3⟩=>(r≤p.ress.length)∧(o3.length≤18+61*r)∧(o3=o2++(List.range r).flatMap timesOf)) (fun⟨r,o3⟩=>[(40,.data (i64 r)),(3,.own 12 0)]) (fun _=>[]) (fun⟨r,o3⟩=>[(12,126,o3.map Rul.av,0)]) (fun⟨r,o3⟩=>p.ress.length - r) ⟨0,o2⟩ ?_ ?_
 ·exact⟨by omega,by omega,by simp⟩
 rintro⟨r,o3⟩ ⟨hk3,ol3,ho3⟩
 by_cases hlt:r < p.ress.length
 ·(repeat' ((conv=>whnf);first | (exfalso;omega) | refine gA ?_ | ((with_reducible first | refine gD (fun h=>?_) (fun h=>?_) | refine gE (fun h=>?_) (fun h=>?_)) <;> (try simp only [lm] at h) <;> try have hw:=wn h) | refine gP ?_ | refine gV ?_ | intro _)) <;> (try (conv=>whnf))
  refine loopF [1,6,39,40] [1] [12] ?_
  (conv=>whnf)
  refine LoopC.go ((Nat)×(List Rul)) (fun⟨t,o4⟩=>(t≤61)∧(o4.length≤18+61*r+t)∧(o4=o3++(List.range t).map (timeRule r))) (fun⟨t,o4⟩=>[(7,.data (i64 t)),(3,.own 12 0)]) (fun _=>[]) (fun⟨t,o4⟩=>[(12,126,o4.map Rul.av,0)]) (fun⟨t,o4⟩=>61 - t) ⟨0,o3⟩ ?_ ?_
  ·exact⟨by omega,by omega,by simp⟩
  rintro⟨t,o4⟩ ⟨hk4,ol4,ho4⟩
  by_cases hlt4:t < 61
  ·(repeat' ((conv=>whnf);first | (exfalso;omega) | refine gA ?_ | ((with_reducible first | refine gD (fun h=>?_) (fun h=>?_) | refine gE (fun h=>?_) (fun h=>?_)) <;> (try simp only [lm] at h) <;> try have hw:=wn h) | refine gP ?_ | refine gV ?_ | intro _)) <;> (try (conv=>whnf))
   refine nw ⟨t+1,o4++[timeRule r t]⟩ ?_ ?_
   ·(repeat' ((conv=>whnf) <;> (first | exact trivial | exact rfl | with_reducible refine And.intro ?_ ?_))) <;> ((conv=>whnf) <;> ((simp [timeRule];rfl)))
   exact⟨by omega,by simp;omega,by rw [ho4,List.range_succ,List.map_append,List.append_assoc];rfl⟩
  ·(repeat' ((conv=>whnf);first | (exfalso;omega) | refine gA ?_ | ((with_reducible first | refine gD (fun h=>?_) (fun h=>?_) | refine gE (fun h=>?_) (fun h=>?_)) <;> (try simp only [lm] at h) <;> try have hw:=wn h) | refine gP ?_ | refine gV ?_ | intro _)) <;> (try (conv=>whnf))
   refine nx ⟨r+1,o4⟩ ?_
   refine⟨by omega,by omega,?_⟩
   rw [ho4,ho3,List.range_succ,List.flatMap_append,show t=61 by omega]
   simp [timesOf]
 (repeat' ((conv=>whnf);first | (exfalso;omega) | refine gA ?_ | ((with_reducible first | refine gD (fun h=>?_) (fun h=>?_) | refine gE (fun h=>?_) (fun h=>?_)) <;> (try simp only [lm] at h) <;> try have hw:=wn h) | refine gP ?_ | refine gV ?_ | intro _)) <;> (try (conv=>whnf))
 rw [show r=p.ress.length by omega] at ho3 ol3
 clear hlt hk3
 refine loopF [1,56] [1] [12] ?_
 (conv=>whnf)
 refine LoopC.go ((Nat)×(List Rul)) (fun⟨r5,o5⟩=>(r5≤p.ress.length)∧(o5.length≤201+36*r5)∧(o5=o3++(List.range r5).flatMap (fun r=>(List.range p.acts.length).flatMap (pairsOf p r)))) (fun⟨r5,o5⟩=>[(57,.data (i64 r5)),(3,.own 12 0)]) (fun _=>[]) (fun⟨r5,o5⟩=>[(12,126,o5.map Rul.av,0)]) (fun⟨r5,o5⟩=>p.ress.length - r5) ⟨0,o3⟩ ?_ ?_
 ·exact⟨by omega,by omega,by simp⟩
 rintro⟨r5,o5⟩ ⟨hk5,ol5,ho5⟩
 by_cases hlt:r5 < p.ress.length
 ·(repeat' ((conv=>whnf);first | (exfalso;omega) | refine gA ?_ | ((with_reducible first | refine gD (fun h=>?_) (fun h=>?_) | refine gE (fun h=>?_) (fun h=>?_)) <;> (try simp only [lm] at h) <;> try have hw:=wn h) | refine gP ?_ | refine gV ?_ | intro _)) <;> (try (conv=>whnf))
  refine loopF [1,8,56,57,62] [1] [12] ?_
  (conv=>whnf)
  refine LoopC.go ((Nat)×(List Rul)) (fun⟨b,o6⟩=>(b≤p.acts.length)∧(o6.length≤201+36*r5+6*b)∧(o6=o5++(List.range b).flatMap (pairsOf p r5))) (fun⟨b,o6⟩=>[(63,.data (i64 b)),(3,.own 12 0)]) (fun _=>[]) (fun⟨b,o6⟩=>[(12,126,o6.map Rul.av,0)]) (fun⟨b,o6⟩=>p.acts.length - b) ⟨0,o5⟩ ?_ ?_
  ·exact⟨by omega,by omega,by simp⟩
  rintro⟨b,o6⟩ ⟨hk6,ol6,ho6⟩
  by_cases hltb:b < p.acts.length
  ·(repeat' ((conv=>whnf);first | (exfalso;omega) | refine gA ?_ | ((with_reducible first | refine gD (fun h=>?_) (fun h=>?_) | refine gE (fun h=>?_) (fun h=>?_)) <;> (try simp only [lm] at h) <;> try have hw:=wn h) | refine gP ?_ | refine gV ?_ | intro _)) <;> (try (conv=>whnf))
   refine loopF [1,8,9,56,57,62,63] [1] [12] ?_
   (conv=>whnf)
   refine LoopC.go ((Nat)×(Int)×(List Rul)) (fun⟨j,c,o7⟩=>(c=b+1+j)∧(b+1+j≤p.acts.length)∧(isMach p r5=false→j=0)∧(o7.length≤o6.length+j)∧(o7=o6++(List.range j).map (fun i=>pairRule r5 b (b+1+i)))) (fun⟨j,c,o7⟩=>[(10,.data (i64 c)),(3,.own 12 0)]) (fun _=>[]) (fun⟨j,c,o7⟩=>[(12,126,o7.map Rul.av,0)]) (fun⟨j,c,o7⟩=>p.acts.length - j) ⟨0,(b:Int)+1,o6⟩ ?_ ?_
   ·exact⟨by omega,by omega,fun _=>rfl,by omega,by simp⟩
   rintro⟨j,c,o7⟩ ⟨hc,hj,hz,ol7,ho7⟩
   cases hm:isMach p r5 with
   | true=>
    (repeat' ((conv=>whnf);first | refine gA ?_ | ((with_reducible first | refine gD (fun h=>?_) (fun h=>?_) | refine gE (fun h=>?_) (fun h=>?_)) <;> (try simp only [lm] at h) <;> try have hw:=wn h) | refine gP ?_ | refine gV ?_ | refine gC (spec_IsMachine p _) ?_ | intro _)) <;> (try (conv=>whnf))
    ·refine nw ⟨j+1,c+1,o7++[pairRule r5 b (b+1+j)]⟩ ?_ ?_
     ·(repeat' ((conv=>whnf) <;> (first | exact trivial | exact rfl | with_reducible refine And.intro ?_ ?_))) <;> ((conv=>whnf) <;> ((subst hc;simp [pairRule,Int.natCast_add];try rfl)))
     exact⟨by omega,by omega,(fun e=>by cases e),(by simp;omega),by rw [ho7,List.range_succ,List.map_append,List.append_assoc];rfl⟩
    ·refine nx ⟨b+1,o7⟩ ?_
     refine⟨by omega,by omega,?_⟩
     rw [ho7,ho6,List.range_succ,List.flatMap_append,List.append_assoc,show j=p.acts.length - (b+1) by omega]
     simp [pairsOf,hm]
   | false=>
    have hj0:=hz hm
    subst hj0
    (repeat' ((conv=>whnf);first | refine gA ?_ | ((with_reducible first | refine gD (fun h=>?_) (fun h=>?_) | refine gE (fun h=>?_) (fun h=>?_)) <;> (try simp only [lm] at h) <;> try have hw:=wn h) | refine gP ?_ | refine gV ?_ | refine gC (spec_IsMachine p _) ?_ | intro _)) <;> (try (conv=>whnf))
    all_goals
     refine nx ⟨b+1,o7⟩ ?_
     refine⟨by omega,by omega,?_⟩
     rw [ho7,ho6,List.range_succ,List.flatMap_append,List.append_assoc]
     simp [pairsOf,hm]
  ·(repeat' ((conv=>whnf);first | (exfalso;omega) | refine gA ?_ | ((with_reducible first | refine gD (fun h=>?_) (fun h=>?_) | refine gE (fun h=>?_) (fun h=>?_)) <;> (try simp only [lm] at h) <;> try have hw:=wn h) | refine gP ?_ | refine gV ?_ | intro _)) <;> (try (conv=>whnf))
   refine nx ⟨r5+1,o6⟩ ?_
   refine⟨by omega,by omega,?_⟩
   rw [ho6,ho5,List.range_succ,List.flatMap_append,List.append_assoc,show b=p.acts.length by omega]
   simp
 (repeat' ((conv=>whnf);first | (exfalso;omega) | refine gA ?_ | ((with_reducible first | refine gD (fun h=>?_) (fun h=>?_) | refine gE (fun h=>?_) (fun h=>?_)) <;> (try simp only [lm] at h) <;> try have hw:=wn h) | refine gP ?_ | refine gV ?_ | intro _)) <;> (try (conv=>whnf))
 rw [show r5=p.ress.length by omega] at ho5 ol5
 clear hlt hk5
 refine loopF [91] [] [12] ?_
 (conv=>whnf)
 refine LoopC.go ((Nat)×(List Rul)) (fun⟨k8,o8⟩=>(k8≤p.stocks.length)∧(o8.length≤400+k8)∧(o8=o5++(List.range k8).map stockRule)) (fun⟨k8,o8⟩=>[(92,.data (i64 k8)),(3,.own 12 0)]) (fun _=>[]) (fun⟨k8,o8⟩=>[(12,126,o8.map Rul.av,0)]) (fun⟨k8,o8⟩=>p.stocks.length - k8) ⟨0,o5⟩ ?_ ?_
 ·exact⟨by omega,by omega,by simp⟩
 rintro⟨k8,o8⟩ ⟨hk8,ol8,ho8⟩
 by_cases hlt:k8 < p.stocks.length
 ·(repeat' ((conv=>whnf);first | (exfalso;omega) | refine gA ?_ | ((with_reducible first | refine gD (fun h=>?_) (fun h=>?_) | refine gE (fun h=>?_) (fun h=>?_)) <;> (try simp only [lm] at h) <;> try have hw:=wn h) | refine gP ?_ | refine gV ?_ | intro _)) <;> (try (conv=>whnf))
  refine nw ⟨k8+1,o8++[stockRule k8]⟩ ?_ ?_
  ·(repeat' ((conv=>whnf) <;> (first | exact trivial | exact rfl | with_reducible refine And.intro ?_ ?_))) <;> ((conv=>whnf) <;> ((simp [stockRule];rfl)))
  exact⟨by omega,by simp;omega,by rw [ho8,List.range_succ,List.map_append,List.append_assoc];rfl⟩
 (repeat' ((conv=>whnf);first | (exfalso;omega) | refine gA ?_ | ((with_reducible first | refine gD (fun h=>?_) (fun h=>?_) | refine gE (fun h=>?_) (fun h=>?_)) <;> (try simp only [lm] at h) <;> try have hw:=wn h) | refine gP ?_ | refine gV ?_ | intro _)) <;> (try (conv=>whnf))
 refine⟨?_,rfl,trivial⟩
 rw [ho8,ho5,ho3,ho2,ho,show k8=p.stocks.length by omega];rfl
end Go.Proofs.YtkiohdpapinecaaGreat.Abs
