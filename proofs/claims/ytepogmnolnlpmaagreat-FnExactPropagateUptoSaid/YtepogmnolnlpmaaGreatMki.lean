/- What the laws' mark..S do to rows of separate data: from their code. Printed by genmark.py. No statement of a claim. -/
import Derived.Test.YtepogmnolnlpmaaGreatC1
import Derived.Test.YtepogmnolnlpmaaGreatPlain
import Derived.Test.YtepogmnolnlpmaaGreatLayC
set_option linter.all false
set_option linter.unusedVariables false
set_option linter.unusedSimpArgs false
set_option maxRecDepth 20000
set_option maxHeartbeats 4000000
namespace Go.Proofs.YtepogmnolnlpmaaGreat.Abs
open Go.Proofs
def cmIntS:List Cm:=[.num 0]
def okIntS:List (Option (List AV→Prop)):=[none]
def seIntS (x:AV):Prop:=∃n,x= .int .i64 n
theorem mono_IntS:∀c k,k≤(rowF cmIntS c k).2:=rowF_mono (by simp [cmIntS,Cm.mono])
def mmIntS:Nat→Option (MF×(List AV→Prop)):=fun f=>none
theorem code_IntS:MarkCode tab mmIntS 3 Tryz.f68 (rowF cmIntS) (okC okIntS):=by
 refine⟨⟨_,_,_,_,_,_,_,_,_,_,_,_,_,_,_,_,_,_,_,_,_,_,_,_,_,_,_,_,_,rfl,⟨rfl,rfl,rfl,rfl⟩,⟨rfl,rfl,rfl,rfl⟩,⟨rfl,⟨rfl,rfl,rfl⟩,⟨rfl,rfl,rfl⟩,⟨rfl,rfl,rfl,rfl,rfl,rfl⟩,⟨rfl,⟨_,_,rfl⟩,rfl⟩,⟨by decide,by decide,by decide⟩,by decide⟩,rfl,rfl,rfl,rfl,rfl,rfl,by decide,?_,_,_,_,rfl,rfl,rfl,rfl,rfl,rfl,rfl,by decide⟩⟩
 rintro j k c e hc hk hb hj h0 h1 h5
 obtain⟨n0,_,rfl,rfl⟩:=hc
 simp only [rowF,cmIntS,List.set,List.getElem?_cons_zero,List.getElem?_cons_succ] at hb ⊢
 refine⟨?e1,?r1,?e2,?r2,?a,?b,?c⟩
 case r1=>(repeat' first | exact MRun.nil | refine MRun.mv (by first | exact h0 | exact h1 | exact h5 | rfl) ?_ | refine MRun.ix rfl (by first | exact h0 | exact h1 | exact h5 | rfl) (by first | exact h0 | exact h1 | exact h5 | rfl) ?_ | refine MRun.fa rfl rfl ?_ | refine MRun.st ⟨rfl,rfl⟩ rfl (by first | exact h0 | exact h1 | exact h5 | rfl) rfl rfl ?_ | refine MRun.inc (by first | exact h0 | exact h1 | exact h5 | rfl) ⟨by omega,by omega⟩ ?_ | refine MRun.ld ⟨rfl,rfl⟩ rfl rfl ?_)
 case r2=>(repeat' first | exact MRun.nil | refine MRun.mv (by first | exact h5 | rfl) ?_ | refine MRun.inc (by first | exact h5 | rfl) ⟨by omega,by omega⟩ ?_)
 case a=>exact h0
 case b=>rfl
 case c=>rfl
theorem sem_IntS:MarkSem Tryz.prog lim 68 (markRow (rowF cmIntS)) (fun m=>∀x∈m,seIntS x):=
 (mark_sem tabOk (fun f F ok h=>by simp [mmIntS] at h) Tryz.func68 Tryz.call68 rfl (by decide) mono_IntS (rowF_len _) (rowF_re _) (fun c h=>(okC_len h).trans rfl) code_IntS).imp fun m h x hx=>by
 obtain⟨n,rfl⟩:=h x hx;exact⟨n,[],rfl,rfl⟩
theorem laws_mheldIntS (l:List AV) (n:Int) (hn:0≤n) (ho:∀x∈l,seIntS x) (hM:(markRow (rowF cmIntS) l n).2≤4611686018427387904):Con 101 [.d (.sl (markRow (rowF cmIntS) l n).1),.d (i64 n)] (.d (i64 (markRow (rowF cmIntS) l n).2)):=by
 refine con Tryz.func101 rfl rfl Tryz.call101 rfl fun hwf=>?_
 simp only [ARs.wf,AR.wf,AV.wf,markRow_length,lim] at hwf
 have hlen:=markRow_length (rowF cmIntS) l n
 (repeat' ((conv=>whnf);first | refine gA ?_ | ((with_reducible first | refine gD (fun h=>?_) (fun h=>?_) | refine gE (fun h=>?_) (fun h=>?_)) <;> (try simp only [lm] at h) <;> try have hw:=wn h) | with_reducible refine gI (fun x hx=>?_) | with_reducible refine gJ (fun j x hj hx=>?_) | refine gV ?_ | intro _)) <;> (try (conv=>whnf))
 refine loopF [0] [] [] ?_
 (conv=>whnf)
 refine LoopC.go ((Nat)×(Int)) (fun⟨k,m⟩=>(k≤l.length)∧((markRow (rowF cmIntS) (l.take k) n).2=m)) (fun⟨k,m⟩=>[(5,.data (i64 k)),(1,.data (i64 m))]) (fun _=>[]) (fun _=>[]) (fun⟨k,m⟩=>l.length - k) ⟨0,n⟩ ?_ ?_
 ·exact⟨Nat.zero_le _,rfl⟩
 rintro⟨k,m⟩ ⟨hk,hm⟩
 have hmm:n≤m:=hm ▸ markRow_mono mono_IntS _ _
 by_cases hlt:k < l.length
 ·obtain⟨x,hx⟩:∃x,l[k]? =some x:=⟨_,List.getElem?_eq_getElem hlt⟩
  obtain⟨n0,rfl⟩:=ho x (List.mem_of_getElem? hx)
  have hg:=markRow_get (g:=rowF cmIntS) l n k hx
  have hs:=markRow_step (g:=rowF cmIntS) l n k hx
  have hle:=markRow_le mono_IntS l n (k+1)
  rw [hm] at hg hs
  conv at hg=>rhs;simp only [reAgg,AV.cells,rowF,cmIntS,List.set,List.headD,List.getElem?_cons_zero,List.getElem?_cons_succ]
  conv at hs=>rhs;simp only [AV.cells,rowF,cmIntS,List.set,List.getElem?_cons_zero,List.getElem?_cons_succ]
  rw [hs] at hle
  (repeat' ((conv=>whnf);first | with_reducible refine Idx.here hg rfl ?_ | refine gA ?_ | ((with_reducible first | refine gD (fun h=>?_) (fun h=>?_) | refine gE (fun h=>?_) (fun h=>?_)) <;> (try simp only [lm] at h) <;> try have hw:=wn h) | with_reducible refine gI (fun x hx=>?_) | with_reducible refine gJ (fun j x hj hx=>?_) | refine gV ?_ | intro _)) <;> (try (conv=>whnf))
  all_goals first
   | (exfalso;omega)
   | exact absurd trivial ‹¬True›
   | (apply Exists.intro (⟨k+1,_⟩)
      refine⟨?_,rfl,?_,?_⟩
      rotate_left
      ·(repeat' ((conv=>whnf) <;> (first | exact trivial | exact rfl | with_reducible refine And.intro ?_ ?_)))
      ·(try dsimp only);(try simp only [List.length_map]);omega
      exact⟨hlt,hs⟩)
 ·(repeat' ((conv=>whnf);first | (exfalso;omega) | refine gA ?_ | ((with_reducible first | refine gD (fun h=>?_) (fun h=>?_) | refine gE (fun h=>?_) (fun h=>?_)) <;> (try simp only [lm] at h) <;> try have hw:=wn h) | with_reducible refine gI (fun x hx=>?_) | with_reducible refine gJ (fun j x hj hx=>?_) | refine gV ?_ | intro _)) <;> (try (conv=>whnf))
  refine⟨?_,rfl,trivial⟩
  have:k=l.length:=by omega
  rw [← hm,this,List.take_length]
def cmModeS:List Cm:=[.num 0,.call 1 (markRow (rowF cmIntS)),.call 2 (markRow (rowF cmIntS))]
def okModeS:List (Option (List AV→Prop)):=[none,some fun m=>∀x∈m,seIntS x,some fun m=>∀x∈m,seIntS x]
def seModeS (x:AV):Prop:=∃c,x= .agg c∧okC okModeS c
def mmModeS:Nat→Option (MF×(List AV→Prop)):=fun f=>if f=68 then some (markRow (rowF cmIntS),fun m=>∀x∈m,seIntS x) else none
def cmLiteralS:List Cm:=[.num 0,.num 1,.num 2]
def okLiteralS:List (Option (List AV→Prop)):=[none,none,none]
def seLiteralS (x:AV):Prop:=∃c,x= .agg c∧okC okLiteralS c
theorem mono_LiteralS:∀c k,k≤(rowF cmLiteralS c k).2:=rowF_mono (by simp [cmLiteralS,Cm.mono])
def mmLiteralS:Nat→Option (MF×(List AV→Prop)):=fun f=>none
theorem code_LiteralS:MarkCode tab mmLiteralS 88 Tryz.f19 (rowF cmLiteralS) (okC okLiteralS):=by
 refine⟨⟨_,_,_,_,_,_,_,_,_,_,_,_,_,_,_,_,_,_,_,_,_,_,_,_,_,_,_,_,_,rfl,⟨rfl,rfl,rfl,rfl⟩,⟨rfl,rfl,rfl,rfl⟩,⟨rfl,⟨rfl,rfl,rfl⟩,⟨rfl,rfl,rfl⟩,⟨rfl,rfl,rfl,rfl,rfl,rfl⟩,⟨rfl,⟨_,_,rfl⟩,rfl⟩,⟨by decide,by decide,by decide⟩,by decide⟩,rfl,rfl,rfl,rfl,rfl,rfl,by decide,?_,_,_,_,rfl,rfl,rfl,rfl,rfl,rfl,rfl,by decide⟩⟩
 rintro j k c e hc hk hb hj h0 h1 h5
 obtain⟨n0,_,rfl,n1,_,rfl,n2,_,rfl,rfl⟩:=hc
 simp only [rowF,cmLiteralS,List.set,List.getElem?_cons_zero,List.getElem?_cons_succ] at hb ⊢
 refine⟨?e1,?r1,?e2,?r2,?a,?b,?c⟩
 case r1=>(repeat' first | exact MRun.nil | refine MRun.mv (by first | exact h0 | exact h1 | exact h5 | rfl) ?_ | refine MRun.ix rfl (by first | exact h0 | exact h1 | exact h5 | rfl) (by first | exact h0 | exact h1 | exact h5 | rfl) ?_ | refine MRun.fa rfl rfl ?_ | refine MRun.st ⟨rfl,rfl⟩ rfl (by first | exact h0 | exact h1 | exact h5 | rfl) rfl rfl ?_ | refine MRun.inc (by first | exact h0 | exact h1 | exact h5 | rfl) ⟨by omega,by omega⟩ ?_ | refine MRun.ld ⟨rfl,rfl⟩ rfl rfl ?_)
 case r2=>(repeat' first | exact MRun.nil | refine MRun.mv (by first | exact h5 | rfl) ?_ | refine MRun.inc (by first | exact h5 | rfl) ⟨by omega,by omega⟩ ?_)
 case a=>exact h0
 case b=>rfl
 case c=>rfl
theorem sem_LiteralS:MarkSem Tryz.prog lim 19 (markRow (rowF cmLiteralS)) (fun m=>∀x∈m,seLiteralS x):=
 (mark_sem tabOk (fun f F ok h=>by simp [mmLiteralS] at h) Tryz.func19 Tryz.call19 rfl (by decide) mono_LiteralS (rowF_len _) (rowF_re _) (fun c h=>(okC_len h).trans rfl) code_LiteralS).imp fun m h x hx=>by
 obtain⟨c,rfl,k⟩:=h x hx;exact k
theorem laws_mheldLiteralS (l:List AV) (n:Int) (hn:0≤n) (ho:∀x∈l,seLiteralS x) (hM:(markRow (rowF cmLiteralS) l n).2≤4611686018427387904):Con 20 [.d (.sl (markRow (rowF cmLiteralS) l n).1),.d (i64 n)] (.d (i64 (markRow (rowF cmLiteralS) l n).2)):=by
 refine con Tryz.func20 rfl rfl Tryz.call20 rfl fun hwf=>?_
 simp only [ARs.wf,AR.wf,AV.wf,markRow_length,lim] at hwf
 have hlen:=markRow_length (rowF cmLiteralS) l n
 (repeat' ((conv=>whnf);first | refine gA ?_ | ((with_reducible first | refine gD (fun h=>?_) (fun h=>?_) | refine gE (fun h=>?_) (fun h=>?_)) <;> (try simp only [lm] at h) <;> try have hw:=wn h) | with_reducible refine gI (fun x hx=>?_) | with_reducible refine gJ (fun j x hj hx=>?_) | refine gV ?_ | intro _)) <;> (try (conv=>whnf))
 refine loopF [0] [] [] ?_
 (conv=>whnf)
 refine LoopC.go ((Nat)×(Int)) (fun⟨k,m⟩=>(k≤l.length)∧((markRow (rowF cmLiteralS) (l.take k) n).2=m)) (fun⟨k,m⟩=>[(5,.data (i64 k)),(1,.data (i64 m))]) (fun _=>[]) (fun _=>[]) (fun⟨k,m⟩=>l.length - k) ⟨0,n⟩ ?_ ?_
 ·exact⟨Nat.zero_le _,rfl⟩
 rintro⟨k,m⟩ ⟨hk,hm⟩
 have hmm:n≤m:=hm ▸ markRow_mono mono_LiteralS _ _
 by_cases hlt:k < l.length
 ·obtain⟨x,hx⟩:∃x,l[k]? =some x:=⟨_,List.getElem?_eq_getElem hlt⟩
  obtain⟨c,rfl,n0,_,rfl,n1,_,rfl,n2,_,rfl,rfl⟩:=ho x (List.mem_of_getElem? hx)
  have hg:=markRow_get (g:=rowF cmLiteralS) l n k hx
  have hs:=markRow_step (g:=rowF cmLiteralS) l n k hx
  have hle:=markRow_le mono_LiteralS l n (k+1)
  rw [hm] at hg hs
  conv at hg=>rhs;simp only [reAgg,AV.cells,rowF,cmLiteralS,List.set,List.headD,List.getElem?_cons_zero,List.getElem?_cons_succ]
  conv at hs=>rhs;simp only [AV.cells,rowF,cmLiteralS,List.set,List.getElem?_cons_zero,List.getElem?_cons_succ]
  rw [hs] at hle
  (repeat' ((conv=>whnf);first | with_reducible refine Idx.here hg rfl ?_ | refine gA ?_ | ((with_reducible first | refine gD (fun h=>?_) (fun h=>?_) | refine gE (fun h=>?_) (fun h=>?_)) <;> (try simp only [lm] at h) <;> try have hw:=wn h) | with_reducible refine gI (fun x hx=>?_) | with_reducible refine gJ (fun j x hj hx=>?_) | refine gV ?_ | intro _)) <;> (try (conv=>whnf))
  all_goals first
   | (exfalso;omega)
   | exact absurd trivial ‹¬True›
   | (apply Exists.intro (⟨k+1,_⟩)
      refine⟨?_,rfl,?_,?_⟩
      rotate_left
      ·(repeat' ((conv=>whnf) <;> (first | exact trivial | exact rfl | with_reducible refine And.intro ?_ ?_)))
      ·(try dsimp only);(try simp only [List.length_map]);omega
      exact⟨hlt,hs⟩)
 ·(repeat' ((conv=>whnf);first | (exfalso;omega) | refine gA ?_ | ((with_reducible first | refine gD (fun h=>?_) (fun h=>?_) | refine gE (fun h=>?_) (fun h=>?_)) <;> (try simp only [lm] at h) <;> try have hw:=wn h) | with_reducible refine gI (fun x hx=>?_) | with_reducible refine gJ (fun j x hj hx=>?_) | refine gV ?_ | intro _)) <;> (try (conv=>whnf))
  refine⟨?_,rfl,trivial⟩
  have:k=l.length:=by omega
  rw [← hm,this,List.take_length]
def cmInferenceS:List Cm:=[.num 0,.num 1,.num 2,.num 3,.num 4,.num 5,.num 6,.call 7 (markRow (rowF cmLiteralS))]
def okInferenceS:List (Option (List AV→Prop)):=[none,none,none,none,none,none,none,some fun m=>∀x∈m,seLiteralS x]
def seInferenceS (x:AV):Prop:=∃c,x= .agg c∧okC okInferenceS c
theorem mono_InferenceS:∀c k,k≤(rowF cmInferenceS c k).2:=rowF_mono (by simp [cmInferenceS,Cm.mono,markRow_mono mono_LiteralS])
def mmInferenceS:Nat→Option (MF×(List AV→Prop)):=fun f=>if f=19 then some (markRow (rowF cmLiteralS),fun m=>∀x∈m,seLiteralS x) else none
theorem code_InferenceS:MarkCode tab mmInferenceS 122 Tryz.f35 (rowF cmInferenceS) (okC okInferenceS):=by
 refine⟨⟨_,_,_,_,_,_,_,_,_,_,_,_,_,_,_,_,_,_,_,_,_,_,_,_,_,_,_,_,_,rfl,⟨rfl,rfl,rfl,rfl⟩,⟨rfl,rfl,rfl,rfl⟩,⟨rfl,⟨rfl,rfl,rfl⟩,⟨rfl,rfl,rfl⟩,⟨rfl,rfl,rfl,rfl,rfl,rfl⟩,⟨rfl,⟨_,_,rfl⟩,rfl⟩,⟨by decide,by decide,by decide⟩,by decide⟩,rfl,rfl,rfl,rfl,rfl,rfl,by decide,?_,_,_,_,rfl,rfl,rfl,rfl,rfl,rfl,rfl,by decide⟩⟩
 rintro j k c e hc hk hb hj h0 h1 h5
 obtain⟨n0,_,rfl,n1,_,rfl,n2,_,rfl,n3,_,rfl,n4,_,rfl,n5,_,rfl,n6,_,rfl,m7,_,rfl,p7,rfl⟩:=hc
 simp only [rowF,cmInferenceS,List.set,List.getElem?_cons_zero,List.getElem?_cons_succ] at hb ⊢
 have q1:=markRow_mono mono_LiteralS m7 (((((((k+1)+1)+1)+1)+1)+1)+1)
 refine⟨?e1,?r1,?e2,?r2,?a,?b,?c⟩
 case r1=>(repeat' first | exact MRun.nil | refine MRun.mv (by first | exact h0 | exact h1 | exact h5 | rfl) ?_ | refine MRun.ix rfl (by first | exact h0 | exact h1 | exact h5 | rfl) (by first | exact h0 | exact h1 | exact h5 | rfl) ?_ | refine MRun.fa rfl rfl ?_ | refine MRun.st ⟨rfl,rfl⟩ rfl (by first | exact h0 | exact h1 | exact h5 | rfl) rfl rfl ?_ | refine MRun.inc (by first | exact h0 | exact h1 | exact h5 | rfl) ⟨by omega,by omega⟩ ?_ | refine MRun.ld ⟨rfl,rfl⟩ rfl rfl ?_ | refine MRun.ca rfl (by first | exact h0 | exact h1 | exact h5 | rfl) (by first | exact h0 | exact h1 | exact h5 | rfl) rfl (by first | exact p7) (by omega) (by omega) ?_)
 case r2=>(repeat' first | exact MRun.nil | refine MRun.mv (by first | exact h5 | rfl) ?_ | refine MRun.inc (by first | exact h5 | rfl) ⟨by omega,by omega⟩ ?_)
 case a=>exact h0
 case b=>rfl
 case c=>rfl
theorem sem_InferenceS:MarkSem Tryz.prog lim 35 (markRow (rowF cmInferenceS)) (fun m=>∀x∈m,seInferenceS x):=
 (mark_sem tabOk (fun f F ok h=>by
 unfold mmInferenceS at h
 split at h
 ·rename_i hf;cases h;subst hf;exact sem_LiteralS
 cases h) Tryz.func35 Tryz.call35 rfl (by decide) mono_InferenceS (rowF_len _) (rowF_re _) (fun c h=>(okC_len h).trans rfl) code_InferenceS).imp fun m h x hx=>by
 obtain⟨c,rfl,k⟩:=h x hx;exact k
theorem laws_mheldInferenceS (l:List AV) (n:Int) (hn:0≤n) (ho:∀x∈l,seInferenceS x) (hM:(markRow (rowF cmInferenceS) l n).2≤4611686018427387904):Con 36 [.d (.sl (markRow (rowF cmInferenceS) l n).1),.d (i64 n)] (.d (i64 (markRow (rowF cmInferenceS) l n).2)):=by
 refine con Tryz.func36 rfl rfl Tryz.call36 rfl fun hwf=>?_
 simp only [ARs.wf,AR.wf,AV.wf,markRow_length,lim] at hwf
 have hlen:=markRow_length (rowF cmInferenceS) l n
 (repeat' ((conv=>whnf);first | refine gA ?_ | ((with_reducible first | refine gD (fun h=>?_) (fun h=>?_) | refine gE (fun h=>?_) (fun h=>?_)) <;> (try simp only [lm] at h) <;> try have hw:=wn h) | with_reducible refine gI (fun x hx=>?_) | with_reducible refine gJ (fun j x hj hx=>?_) | refine gV ?_ | intro _)) <;> (try (conv=>whnf))
 refine loopF [0] [] [] ?_
 (conv=>whnf)
 refine LoopC.go ((Nat)×(Int)) (fun⟨k,m⟩=>(k≤l.length)∧((markRow (rowF cmInferenceS) (l.take k) n).2=m)) (fun⟨k,m⟩=>[(5,.data (i64 k)),(1,.data (i64 m))]) (fun _=>[]) (fun _=>[]) (fun⟨k,m⟩=>l.length - k) ⟨0,n⟩ ?_ ?_
 ·exact⟨Nat.zero_le _,rfl⟩
 rintro⟨k,m⟩ ⟨hk,hm⟩
 have hmm:n≤m:=hm ▸ markRow_mono mono_InferenceS _ _
 by_cases hlt:k < l.length
 ·obtain⟨x,hx⟩:∃x,l[k]? =some x:=⟨_,List.getElem?_eq_getElem hlt⟩
  obtain⟨c,rfl,n0,_,rfl,n1,_,rfl,n2,_,rfl,n3,_,rfl,n4,_,rfl,n5,_,rfl,n6,_,rfl,m7,_,rfl,p7,rfl⟩:=ho x (List.mem_of_getElem? hx)
  have hg:=markRow_get (g:=rowF cmInferenceS) l n k hx
  have hs:=markRow_step (g:=rowF cmInferenceS) l n k hx
  have hle:=markRow_le mono_InferenceS l n (k+1)
  rw [hm] at hg hs
  conv at hg=>rhs;simp only [reAgg,AV.cells,rowF,cmInferenceS,List.set,List.headD,List.getElem?_cons_zero,List.getElem?_cons_succ]
  conv at hs=>rhs;simp only [AV.cells,rowF,cmInferenceS,List.set,List.getElem?_cons_zero,List.getElem?_cons_succ]
  rw [hs] at hle
  have q1:=markRow_mono mono_LiteralS m7 (((((((m+1)+1)+1)+1)+1)+1)+1)
  (repeat' ((conv=>whnf);first | with_reducible refine Idx.here hg rfl ?_ | refine gA ?_ | ((with_reducible first | refine gD (fun h=>?_) (fun h=>?_) | refine gE (fun h=>?_) (fun h=>?_)) <;> (try simp only [lm] at h) <;> try have hw:=wn h) | with_reducible refine gI (fun x hx=>?_) | with_reducible refine gJ (fun j x hj hx=>?_) | refine gV ?_ | refine gC (laws_mheldLiteralS m7 (((((((m+1)+1)+1)+1)+1)+1)+1) (by omega) p7 (by omega)) ?_ | intro _)) <;> (try (conv=>whnf))
  all_goals first
   | (exfalso;omega)
   | exact absurd trivial ‹¬True›
   | (apply Exists.intro (⟨k+1,_⟩)
      refine⟨?_,rfl,?_,?_⟩
      rotate_left
      ·(repeat' ((conv=>whnf) <;> (first | exact trivial | exact rfl | with_reducible refine And.intro ?_ ?_)))
      ·(try dsimp only);(try simp only [List.length_map]);omega
      exact⟨hlt,hs⟩)
 ·(repeat' ((conv=>whnf);first | (exfalso;omega) | refine gA ?_ | ((with_reducible first | refine gD (fun h=>?_) (fun h=>?_) | refine gE (fun h=>?_) (fun h=>?_)) <;> (try simp only [lm] at h) <;> try have hw:=wn h) | with_reducible refine gI (fun x hx=>?_) | with_reducible refine gJ (fun j x hj hx=>?_) | refine gV ?_ | intro _)) <;> (try (conv=>whnf))
  refine⟨?_,rfl,trivial⟩
  have:k=l.length:=by omega
  rw [← hm,this,List.take_length]
def cmIntSS:List Cm:=[.call 0 (markRow (rowF cmIntS))]
def okIntSS:List (Option (List AV→Prop)):=[some fun m=>∀x∈m,seIntS x]
def seIntSS (x:AV):Prop:=∃m,x= .sl m∧∀y∈m,seIntS y
theorem mono_IntSS:∀c k,k≤(rowF cmIntSS c k).2:=rowF_mono (by simp [cmIntSS,Cm.mono,markRow_mono mono_IntS])
def mmIntSS:Nat→Option (MF×(List AV→Prop)):=fun f=>if f=68 then some (markRow (rowF cmIntS),fun m=>∀x∈m,seIntS x) else none
theorem code_IntSS:MarkCode tab mmIntSS 25 Tryz.f90 (rowF cmIntSS) (okC okIntSS):=by
 refine⟨⟨_,_,_,_,_,_,_,_,_,_,_,_,_,_,_,_,_,_,_,_,_,_,_,_,_,_,_,_,_,rfl,⟨rfl,rfl,rfl,rfl⟩,⟨rfl,rfl,rfl,rfl⟩,⟨rfl,⟨rfl,rfl,rfl⟩,⟨rfl,rfl,rfl⟩,⟨rfl,rfl,rfl,rfl,rfl,rfl⟩,⟨rfl,⟨_,_,rfl⟩,rfl⟩,⟨by decide,by decide,by decide⟩,by decide⟩,rfl,rfl,rfl,rfl,rfl,rfl,by decide,?_,_,_,_,rfl,rfl,rfl,rfl,rfl,rfl,rfl,by decide⟩⟩
 rintro j k c e hc hk hb hj h0 h1 h5
 obtain⟨m0,_,rfl,p0,rfl⟩:=hc
 simp only [rowF,cmIntSS,List.set,List.getElem?_cons_zero,List.getElem?_cons_succ] at hb ⊢
 have q1:=markRow_mono mono_IntS m0 k
 refine⟨?e1,?r1,?e2,?r2,?a,?b,?c⟩
 case r1=>(repeat' first | exact MRun.nil | refine MRun.mv (by first | exact h0 | exact h1 | exact h5 | rfl) ?_ | refine MRun.ix rfl (by first | exact h0 | exact h1 | exact h5 | rfl) (by first | exact h0 | exact h1 | exact h5 | rfl) ?_ | refine MRun.fa rfl rfl ?_ | refine MRun.st ⟨rfl,rfl⟩ rfl (by first | exact h0 | exact h1 | exact h5 | rfl) rfl rfl ?_ | refine MRun.inc (by first | exact h0 | exact h1 | exact h5 | rfl) ⟨by omega,by omega⟩ ?_ | refine MRun.ld ⟨rfl,rfl⟩ rfl rfl ?_ | refine MRun.ca rfl (by first | exact h0 | exact h1 | exact h5 | rfl) (by first | exact h0 | exact h1 | exact h5 | rfl) rfl (by first | exact p0) (by omega) (by omega) ?_)
 case r2=>(repeat' first | exact MRun.nil | refine MRun.mv (by first | exact h5 | rfl) ?_ | refine MRun.inc (by first | exact h5 | rfl) ⟨by omega,by omega⟩ ?_)
 case a=>exact h0
 case b=>rfl
 case c=>rfl
theorem sem_IntSS:MarkSem Tryz.prog lim 90 (markRow (rowF cmIntSS)) (fun m=>∀x∈m,seIntSS x):=
 (mark_sem tabOk (fun f F ok h=>by
 unfold mmIntSS at h
 split at h
 ·rename_i hf;cases h;subst hf;exact sem_IntS
 cases h) Tryz.func90 Tryz.call90 rfl (by decide) mono_IntSS (rowF_len _) (rowF_re _) (fun c h=>(okC_len h).trans rfl) code_IntSS).imp fun m h x hx=>by
 obtain⟨m,rfl,p⟩:=h x hx;exact⟨m,[],rfl,p,rfl⟩
theorem laws_mheldIntSS (l:List AV) (n:Int) (hn:0≤n) (ho:∀x∈l,seIntSS x) (hM:(markRow (rowF cmIntSS) l n).2≤4611686018427387904):Con 102 [.d (.sl (markRow (rowF cmIntSS) l n).1),.d (i64 n)] (.d (i64 (markRow (rowF cmIntSS) l n).2)):=by
 refine con Tryz.func102 rfl rfl Tryz.call102 rfl fun hwf=>?_
 simp only [ARs.wf,AR.wf,AV.wf,markRow_length,lim] at hwf
 have hlen:=markRow_length (rowF cmIntSS) l n
 (repeat' ((conv=>whnf);first | refine gA ?_ | ((with_reducible first | refine gD (fun h=>?_) (fun h=>?_) | refine gE (fun h=>?_) (fun h=>?_)) <;> (try simp only [lm] at h) <;> try have hw:=wn h) | with_reducible refine gI (fun x hx=>?_) | with_reducible refine gJ (fun j x hj hx=>?_) | refine gV ?_ | intro _)) <;> (try (conv=>whnf))
 refine loopF [0] [] [] ?_
 (conv=>whnf)
 refine LoopC.go ((Nat)×(Int)) (fun⟨k,m⟩=>(k≤l.length)∧((markRow (rowF cmIntSS) (l.take k) n).2=m)) (fun⟨k,m⟩=>[(5,.data (i64 k)),(1,.data (i64 m))]) (fun _=>[]) (fun _=>[]) (fun⟨k,m⟩=>l.length - k) ⟨0,n⟩ ?_ ?_
 ·exact⟨Nat.zero_le _,rfl⟩
 rintro⟨k,m⟩ ⟨hk,hm⟩
 have hmm:n≤m:=hm ▸ markRow_mono mono_IntSS _ _
 by_cases hlt:k < l.length
 ·obtain⟨x,hx⟩:∃x,l[k]? =some x:=⟨_,List.getElem?_eq_getElem hlt⟩
  obtain⟨m0,rfl,p0⟩:=ho x (List.mem_of_getElem? hx)
  have hg:=markRow_get (g:=rowF cmIntSS) l n k hx
  have hs:=markRow_step (g:=rowF cmIntSS) l n k hx
  have hle:=markRow_le mono_IntSS l n (k+1)
  rw [hm] at hg hs
  conv at hg=>rhs;simp only [reAgg,AV.cells,rowF,cmIntSS,List.set,List.headD,List.getElem?_cons_zero,List.getElem?_cons_succ]
  conv at hs=>rhs;simp only [AV.cells,rowF,cmIntSS,List.set,List.getElem?_cons_zero,List.getElem?_cons_succ]
  rw [hs] at hle
  have q1:=markRow_mono mono_IntS m0 m
  (repeat' ((conv=>whnf);first | with_reducible refine Idx.here hg rfl ?_ | refine gA ?_ | ((with_reducible first | refine gD (fun h=>?_) (fun h=>?_) | refine gE (fun h=>?_) (fun h=>?_)) <;> (try simp only [lm] at h) <;> try have hw:=wn h) | with_reducible refine gI (fun x hx=>?_) | with_reducible refine gJ (fun j x hj hx=>?_) | refine gV ?_ | refine gC (laws_mheldIntS m0 m (by omega) p0 (by omega)) ?_ | intro _)) <;> (try (conv=>whnf))
  all_goals first
   | (exfalso;omega)
   | exact absurd trivial ‹¬True›
   | (apply Exists.intro (⟨k+1,_⟩)
      refine⟨?_,rfl,?_,?_⟩
      rotate_left
      ·(repeat' ((conv=>whnf) <;> (first | exact trivial | exact rfl | with_reducible refine And.intro ?_ ?_)))
      ·(try dsimp only);(try simp only [List.length_map]);omega
      exact⟨hlt,hs⟩)
 ·(repeat' ((conv=>whnf);first | (exfalso;omega) | refine gA ?_ | ((with_reducible first | refine gD (fun h=>?_) (fun h=>?_) | refine gE (fun h=>?_) (fun h=>?_)) <;> (try simp only [lm] at h) <;> try have hw:=wn h) | with_reducible refine gI (fun x hx=>?_) | with_reducible refine gJ (fun j x hj hx=>?_) | refine gV ?_ | intro _)) <;> (try (conv=>whnf))
  refine⟨?_,rfl,trivial⟩
  have:k=l.length:=by omega
  rw [← hm,this,List.take_length]
def cmLineS:List Cm:=[.num 0,.num 1,.num 2,.num 3,.num 4,.call 5 (markRow (rowF cmLiteralS))]
def okLineS:List (Option (List AV→Prop)):=[none,none,none,none,none,some fun m=>∀x∈m,seLiteralS x]
def seLineS (x:AV):Prop:=∃c,x= .agg c∧okC okLineS c
def mmLineS:Nat→Option (MF×(List AV→Prop)):=fun f=>if f=19 then some (markRow (rowF cmLiteralS),fun m=>∀x∈m,seLiteralS x) else none
def cmStepS:List Cm:=[.num 0,.num 1]
def okStepS:List (Option (List AV→Prop)):=[none,none]
def seStepS (x:AV):Prop:=∃c,x= .agg c∧okC okStepS c
def mmStepS:Nat→Option (MF×(List AV→Prop)):=fun f=>none
def cmResourceS:List Cm:=[.call 0 (markRow (rowF cmStepS)),.call 1 (markRow (rowF cmIntSS))]
def okResourceS:List (Option (List AV→Prop)):=[some fun m=>∀x∈m,seStepS x,some fun m=>∀x∈m,seIntSS x]
def seResourceS (x:AV):Prop:=∃c,x= .agg c∧okC okResourceS c
def mmResourceS:Nat→Option (MF×(List AV→Prop)):=fun f=>if f=90 then some (markRow (rowF cmIntSS),fun m=>∀x∈m,seIntSS x) else if f=133 then some (markRow (rowF cmStepS),fun m=>∀x∈m,seStepS x) else none
def cmDomain:List Cm:=[.call 0 (markRow (rowF cmIntS)),.call 1 (markRow (rowF cmIntS)),.call 2 (markRow (rowF cmIntSS))]
def okDomain:List (Option (List AV→Prop)):=[some fun m=>∀x∈m,seIntS x,some fun m=>∀x∈m,seIntS x,some fun m=>∀x∈m,seIntSS x]
def mmDomain:Nat→Option (MF×(List AV→Prop)):=fun f=>if f=90 then some (markRow (rowF cmIntSS),fun m=>∀x∈m,seIntSS x) else if f=68 then some (markRow (rowF cmIntS),fun m=>∀x∈m,seIntS x) else none
theorem code_Domain:BoxCode tab mmDomain 63 Tryz.f34 (rowF cmDomain) (okC okDomain):=by
 refine⟨⟨_,_,_,_,_,_,_,rfl,⟨rfl,rfl,rfl,rfl,rfl,rfl,rfl⟩,rfl,rfl,rfl,by decide,?_⟩⟩
 rintro k c e hc hk hb h1 h2
 obtain⟨m0,_,rfl,p0,m1,_,rfl,p1,m2,_,rfl,p2,rfl⟩:=hc
 simp only [rowF,cmDomain,List.set,List.getElem?_cons_zero,List.getElem?_cons_succ] at hb ⊢
 have q1:=markRow_mono mono_IntS m0 k
 have q2:=markRow_mono mono_IntS m1 (markRow (rowF cmIntS) m0 k).2
 have q3:=markRow_mono mono_IntSS m2 (markRow (rowF cmIntS) m1 (markRow (rowF cmIntS) m0 k).2).2
 refine⟨?e1,?r1,?a⟩
 case r1=>(repeat' first | exact MRun.nil | refine MRun.mv (by first | exact h1 | exact h2 | rfl) ?_ | refine MRun.fa rfl (by first | exact h1 | exact h2 | rfl) ?_ | refine MRun.ld ⟨rfl,rfl⟩ (by first | exact h1 | exact h2 | rfl) rfl ?_ | refine MRun.ca rfl (by first | exact h1 | exact h2 | rfl) (by first | exact h1 | exact h2 | rfl) rfl (by first | exact p0 | exact p1 | exact p2) (by omega) (by omega) ?_)
 case a=>rfl
theorem sem_Domain:BoxSem Tryz.prog lim 34 (rowF cmDomain) (okC okDomain):=
 box_sem tabOk (fun f F ok h=>by
 unfold mmDomain at h
 split at h
 ·rename_i hf;cases h;subst hf;exact sem_IntSS
 split at h
 ·rename_i hf;cases h;subst hf;exact sem_IntS
 cases h) Tryz.func34 Tryz.call34 rfl (fun c h=>(okC_len h).trans rfl) (rowF_len _) code_Domain
end Go.Proofs.YtepogmnolnlpmaaGreat.Abs
