/- What the laws' mark..S do to rows of separate data: from their code. Printed by genmark.py. No statement of a claim. -/
import Derived.Test.YtkiohdpapinecaaGreatC1
import Derived.Test.YtkiohdpapinecaaGreatPlain
import Derived.Test.YtkiohdpapinecaaGreatLayC
set_option linter.all false
set_option linter.unusedVariables false
set_option linter.unusedSimpArgs false
set_option maxRecDepth 20000
set_option maxHeartbeats 4000000
namespace Go.Proofs.YtkiohdpapinecaaGreat.Abs
open Go.Proofs
def cmIntS:List Cm:=[.num 0]
def okIntS:List (Option (List AV→Prop)):=[none]
def seIntS (x:AV):Prop:=∃n,x= .int .i64 n
theorem mono_IntS:∀c k,k≤(rowF cmIntS c k).2:=rowF_mono (by simp [cmIntS,Cm.mono])
def mmIntS:Nat→Option (MF×(List AV→Prop)):=fun f=>none
theorem code_IntS:MarkCode tab mmIntS 3 Tryz.f19 (rowF cmIntS) (okC okIntS):=by
 refine⟨⟨_,_,_,_,_,_,_,_,_,_,_,_,_,_,_,_,_,_,_,_,_,_,_,_,_,_,_,_,_,rfl,⟨rfl,rfl,rfl,rfl⟩,⟨rfl,rfl,rfl,rfl⟩,⟨rfl,⟨rfl,rfl,rfl⟩,⟨rfl,rfl,rfl⟩,⟨rfl,rfl,rfl,rfl,rfl,rfl⟩,⟨rfl,⟨_,_,rfl⟩,rfl⟩,⟨by decide,by decide,by decide⟩,by decide⟩,rfl,rfl,rfl,rfl,rfl,rfl,by decide,?_,_,_,_,rfl,rfl,rfl,rfl,rfl,rfl,rfl,by decide⟩⟩
 rintro j k c e hc hk hb hj h0 h1 h5
 obtain⟨n0,_,rfl,rfl⟩:=hc
 simp only [rowF,cmIntS,List.set,List.getElem?_cons_zero,List.getElem?_cons_succ] at hb ⊢
 refine⟨?e1,?r1,?e2,?r2,?a,?b,?c⟩
 case r1=>(repeat' first | exact MRun.nil | refine MRun.mv (by first | exact h0 | exact h1 | exact h5 | rfl) ?_ | refine MRun.ix rfl (by first | exact h0 | exact h1 | exact h5 | rfl) (by first | exact h0 | exact h1 | exact h5 | rfl) ?_ | refine MRun.fa rfl rfl ?_ | refine MRun.st ⟨rfl,rfl⟩ rfl (by first | exact h0 | exact h1 | exact h5 | rfl) rfl rfl ?_ | refine MRun.inc (by first | exact h0 | exact h1 | exact h5 | rfl) ⟨by omega,by omega⟩ ?_ | refine MRun.ld ⟨rfl,rfl⟩ rfl rfl ?_)
 case r2=>(repeat' first | exact MRun.nil | refine MRun.mv (by first | exact h5 | rfl) ?_ | refine MRun.inc (by first | exact h5 | rfl) ⟨by omega,by omega⟩ ?_)
 case a=>exact h0
 case b=>rfl
 case c=>rfl
theorem sem_IntS:MarkSem Tryz.prog lim 19 (markRow (rowF cmIntS)) (fun m=>∀x∈m,seIntS x):=
 (mark_sem tabOk (fun f F ok h=>by simp [mmIntS] at h) Tryz.func19 Tryz.call19 rfl (by decide) mono_IntS (rowF_len _) (rowF_re _) (fun c h=>(okC_len h).trans rfl) code_IntS).imp fun m h x hx=>by
 obtain⟨n,rfl⟩:=h x hx;exact⟨n,[],rfl,rfl⟩
theorem laws_mheldIntS (l:List AV) (n:Int) (hn:0≤n) (ho:∀x∈l,seIntS x) (hM:(markRow (rowF cmIntS) l n).2≤4611686018427387904):Con 68 [.d (.sl (markRow (rowF cmIntS) l n).1),.d (i64 n)] (.d (i64 (markRow (rowF cmIntS) l n).2)):=by
 refine con Tryz.func68 rfl rfl Tryz.call68 rfl fun hwf=>?_
 simp only [ARs.wf,AR.wf,AV.wf,markRow_length,lim] at hwf
 have hlen:=markRow_length (rowF cmIntS) l n
 (repeat' ((conv=>whnf);first | refine gA ?_ | ((with_reducible first | refine gD (fun h=>?_) (fun h=>?_) | refine gE (fun h=>?_) (fun h=>?_)) <;> (try simp only [lm] at h) <;> try have hw:=wn h) | with_reducible refine gI (fun x hx=>?_) | with_reducible refine gJ (fun j x hj hx=>?_) | refine gV ?_ | intro _)) <;> (try (conv=>whnf))
 refine loopF [0] [] [] ?_
 (conv=>whnf)
 refine LoopC.go ((Nat)×(Int)) (fun⟨k,m⟩=>(k≤l.length)∧((markRow (rowF cmIntS) (l.take k) n).2=m)) (fun⟨k,m⟩=>[(5,.data (i64 k)),(1,.data (i64 m))]) (fun _=>[]) (fun _=>[]) (fun⟨k,m⟩=>l.length - k) ⟨0,n⟩ ?_ ?_
 ·exact⟨Nat.zero_le _,rfl⟩
 rintro⟨k,m⟩ ⟨hk,hm⟩
 have hmm:n≤m:=hm ▸ markRow_mono mono_IntS _ _
 by_cases hlt:k < l.length
 ·obtain⟨x,hx⟩:∃x,l[k]? =some x:=⟨_,List.getElem?_eq_getElem hlt⟩
  obtain⟨n0,rfl⟩:=ho x (List.mem_of_getElem? hx)
  have hg:=markRow_get (g:=rowF cmIntS) l n k hx
  have hs:=markRow_step (g:=rowF cmIntS) l n k hx
  have hle:=markRow_le mono_IntS l n (k+1)
  rw [hm] at hg hs
  conv at hg=>rhs;simp only [reAgg,AV.cells,rowF,cmIntS,List.set,List.headD,List.getElem?_cons_zero,List.getElem?_cons_succ]
  conv at hs=>rhs;simp only [AV.cells,rowF,cmIntS,List.set,List.getElem?_cons_zero,List.getElem?_cons_succ]
  rw [hs] at hle
  (repeat' ((conv=>whnf);first | with_reducible refine Idx.here hg rfl ?_ | refine gA ?_ | ((with_reducible first | refine gD (fun h=>?_) (fun h=>?_) | refine gE (fun h=>?_) (fun h=>?_)) <;> (try simp only [lm] at h) <;> try have hw:=wn h) | with_reducible refine gI (fun x hx=>?_) | with_reducible refine gJ (fun j x hj hx=>?_) | refine gV ?_ | intro _)) <;> (try (conv=>whnf))
  all_goals first
   | (exfalso;omega)
   | exact absurd trivial ‹¬True›
   | (apply Exists.intro (⟨k+1,_⟩)
      refine⟨?_,rfl,?_,?_⟩
      rotate_left
      ·(repeat' ((conv=>whnf) <;> (first | exact trivial | exact rfl | with_reducible refine And.intro ?_ ?_)))
      ·(try dsimp only);(try simp only [List.length_map]);omega
      exact⟨hlt,hs⟩)
 ·(repeat' ((conv=>whnf);first | (exfalso;omega) | refine gA ?_ | ((with_reducible first | refine gD (fun h=>?_) (fun h=>?_) | refine gE (fun h=>?_) (fun h=>?_)) <;> (try simp only [lm] at h) <;> try have hw:=wn h) | with_reducible refine gI (fun x hx=>?_) | with_reducible refine gJ (fun j x hj hx=>?_) | refine gV ?_ | intro _)) <;> (try (conv=>whnf))
  refine⟨?_,rfl,trivial⟩
  have:k=l.length:=by omega
  rw [← hm,this,List.take_length]
def cmModeS:List Cm:=[.num 0,.call 1 (markRow (rowF cmIntS)),.call 2 (markRow (rowF cmIntS))]
def okModeS:List (Option (List AV→Prop)):=[none,some fun m=>∀x∈m,seIntS x,some fun m=>∀x∈m,seIntS x]
def seModeS (x:AV):Prop:=∃c,x= .agg c∧okC okModeS c
def mmModeS:Nat→Option (MF×(List AV→Prop)):=fun f=>if f=19 then some (markRow (rowF cmIntS),fun m=>∀x∈m,seIntS x) else none
def cmIntSS:List Cm:=[.call 0 (markRow (rowF cmIntS))]
def okIntSS:List (Option (List AV→Prop)):=[some fun m=>∀x∈m,seIntS x]
def seIntSS (x:AV):Prop:=∃m,x= .sl m∧∀y∈m,seIntS y
def mmIntSS:Nat→Option (MF×(List AV→Prop)):=fun f=>if f=19 then some (markRow (rowF cmIntS),fun m=>∀x∈m,seIntS x) else none
def cmLiteralS:List Cm:=[.num 0,.num 1,.num 2]
def okLiteralS:List (Option (List AV→Prop)):=[none,none,none]
def seLiteralS (x:AV):Prop:=∃c,x= .agg c∧okC okLiteralS c
def mmLiteralS:Nat→Option (MF×(List AV→Prop)):=fun f=>none
def cmLineS:List Cm:=[.num 0,.num 1,.num 2,.num 3,.num 4,.call 5 (markRow (rowF cmLiteralS))]
def okLineS:List (Option (List AV→Prop)):=[none,none,none,none,none,some fun m=>∀x∈m,seLiteralS x]
def seLineS (x:AV):Prop:=∃c,x= .agg c∧okC okLineS c
def mmLineS:Nat→Option (MF×(List AV→Prop)):=fun f=>if f=99 then some (markRow (rowF cmLiteralS),fun m=>∀x∈m,seLiteralS x) else none
def cmStepS:List Cm:=[.num 0,.num 1]
def okStepS:List (Option (List AV→Prop)):=[none,none]
def seStepS (x:AV):Prop:=∃c,x= .agg c∧okC okStepS c
def mmStepS:Nat→Option (MF×(List AV→Prop)):=fun f=>none
def cmResourceS:List Cm:=[.call 0 (markRow (rowF cmStepS)),.call 1 (markRow (rowF cmIntSS))]
def okResourceS:List (Option (List AV→Prop)):=[some fun m=>∀x∈m,seStepS x,some fun m=>∀x∈m,seIntSS x]
def seResourceS (x:AV):Prop:=∃c,x= .agg c∧okC okResourceS c
def mmResourceS:Nat→Option (MF×(List AV→Prop)):=fun f=>if f=138 then some (markRow (rowF cmIntSS),fun m=>∀x∈m,seIntSS x) else if f=137 then some (markRow (rowF cmStepS),fun m=>∀x∈m,seStepS x) else none
def cmSchedule:List Cm:=[.call 0 (markRow (rowF cmIntS)),.call 1 (markRow (rowF cmIntS))]
def okSchedule:List (Option (List AV→Prop)):=[some fun m=>∀x∈m,seIntS x,some fun m=>∀x∈m,seIntS x]
def mmSchedule:Nat→Option (MF×(List AV→Prop)):=fun f=>if f=19 then some (markRow (rowF cmIntS),fun m=>∀x∈m,seIntS x) else none
theorem code_Schedule:BoxCode tab mmSchedule 30 Tryz.f20 (rowF cmSchedule) (okC okSchedule):=by
 refine⟨⟨_,_,_,_,_,_,_,rfl,⟨rfl,rfl,rfl,rfl,rfl,rfl,rfl⟩,rfl,rfl,rfl,by decide,?_⟩⟩
 rintro k c e hc hk hb h1 h2
 obtain⟨m0,_,rfl,p0,m1,_,rfl,p1,rfl⟩:=hc
 simp only [rowF,cmSchedule,List.set,List.getElem?_cons_zero,List.getElem?_cons_succ] at hb ⊢
 have q1:=markRow_mono mono_IntS m0 k
 have q2:=markRow_mono mono_IntS m1 (markRow (rowF cmIntS) m0 k).2
 refine⟨?e1,?r1,?a⟩
 case r1=>(repeat' first | exact MRun.nil | refine MRun.mv (by first | exact h1 | exact h2 | rfl) ?_ | refine MRun.fa rfl (by first | exact h1 | exact h2 | rfl) ?_ | refine MRun.ld ⟨rfl,rfl⟩ (by first | exact h1 | exact h2 | rfl) rfl ?_ | refine MRun.ca rfl (by first | exact h1 | exact h2 | rfl) (by first | exact h1 | exact h2 | rfl) rfl (by first | exact p0 | exact p1) (by omega) (by omega) ?_)
 case a=>rfl
theorem sem_Schedule:BoxSem Tryz.prog lim 20 (rowF cmSchedule) (okC okSchedule):=
 box_sem tabOk (fun f F ok h=>by
 unfold mmSchedule at h
 split at h
 ·rename_i hf;cases h;subst hf;exact sem_IntS
 cases h) Tryz.func20 Tryz.call20 rfl (fun c h=>(okC_len h).trans rfl) (rowF_len _) code_Schedule
end Go.Proofs.YtkiohdpapinecaaGreat.Abs
