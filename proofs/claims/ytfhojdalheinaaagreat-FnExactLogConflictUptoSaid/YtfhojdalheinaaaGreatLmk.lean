/- The laws' markText: some string. No statement of a claim. -/
import Derived.WalkKit
import Derived.Deep.LoopGhost
import Derived.Lib.Hide
import Derived.Laws.BytesArg
import Derived.Test.YtfhojdalheinaaaGreatProg
import Derived.Test.YtfhojdalheinaaaGreatLayB
import Derived.Test.YtfhojdalheinaaaGreatC1
import Derived.Test.YtfhojdalheinaaaGreatPlain
import Derived.Test.YtfhojdalheinaaaGreatLh
set_option linter.all false
set_option linter.unusedVariables false
set_option maxRecDepth 100000
set_option maxHeartbeats 4000000
namespace Go.Proofs.YtfhojdalheinaaaGreat.Abs
open Go.Proofs Go.RowKit
def SomeStr (w:World) (e:Ending) (w':World):Prop:=∃b,e= .returned (.string b)∧Quiet w w'
theorem half_pow {n:Int} {g:Nat} (h:n < 2 ^ (g+1)):n / 10 < 2 ^ g:=by
 have:(2:Int) ^ (g+1)=2*2 ^ g:=by rw [Int.pow_succ];omega
 have h0:(0:Int) < 2 ^ g:=Int.pow_pos (by decide)
 omega
theorem markText_ok (k:Int) (hk:0≤k∧k≤4611686018427387904) (w:World):Calls Tryz.prog 129 #[.int .i64 k] w (SomeStr w):=by
 by_cases h0:k≤0
 ·go_enter Tryz.func129,Tryz.ntmps129
  go_wp2
  go_ret
  exact⟨_,rfl,Quiet.refl _⟩
 ·go_enter Tryz.func129,Tryz.ntmps129
  go_wp2
  go_loopg [0,3] 63 (fun g s0 s3 wr=>∃(n:Int) (s:ByteArray),s0= .int .i64 n∧s3= .string s∧0≤n∧n≤4611686018427387904∧n < 2 ^ g∧s.size+g≤63∧Aside (Quiet w wr))
  case atStart=>exact⟨k,⟨#[]⟩,rfl,rfl,by omega,by omega,by omega,by decide,Quiet.refl _⟩
  case round=>
   obtain⟨n,s,rfl,rfl,h1,hm,h2,h3,hb⟩:=hrel
   by_cases hlt:0 < n
   ·have hg:1≤gk:=by
     rcases Nat.eq_zero_or_pos gk with rfl | h
     ·simp at h2;omega
     ·exact h
    obtain⟨d,hd⟩:∃d,Hid (strOfNums [48+n % 10]=d):=⟨_,rfl⟩
    have hcv:∀T:TypeId,(convert 243 9 (.slice (some ⟨wr.heap.size,0,none⟩) 1 1)).run Tryz.prog (wr.alloc (.cells #[.int .u8 (48+n % 10)] T))= .ok (.string d) (wr.alloc (.cells #[.int .u8 (48+n % 10)] T)):=fun T=>by
     rw [← hd.out]
     exact run_convert_bytes_arg _ 243 5 Tryz.underlying243 Tryz.underlying5 _ 0 1 1 [48+n % 10] rfl (fun i hi=>by
      obtain rfl:i=0:=by omega
      simp) 9 Tryz.underlying9
    have h4:s.size≤63:=by omega
    have h5:d.size≤1:=by rw [← hd.out,strOfNums_size];simp
    obtain⟨g,rfl⟩:∃g,gk=g+1:=⟨gk - 1,by omega⟩
    have H2:=Lib.hid (half_pow h2)
    clear h2
    go_wp2
    ·go_roundg g
     case measure=>omega
     case rel=>exact⟨n / 10,d++s,by go_num,rfl,by omega,by omega,H2.out,by rw [ByteArray.size_append];omega,(show Aside _ from (Quiet.then_alloc hb.out _))⟩
   ·have h4:s.size≤63:=by omega
    clear h2 hm
    go_wp2
    ·go_ret
     exact⟨_,rfl,hb.out⟩
theorem laws_markText (k:Int) (hk:0≤k∧k≤4611686018427387904):Con 129 [.d (i64 k)] (.d .any):=
 contract_str Tryz.call129 fun w=>markText_ok k hk w
end Go.Proofs.YtfhojdalheinaaaGreat.Abs
set_option linter.unusedVariables false
set_option linter.unusedSimpArgs false
set_option maxRecDepth 20000
set_option maxHeartbeats 4000000
namespace Go.Proofs.YtfhojdalheinaaaGreat.Abs
open Go.Proofs
abbrev shI (l:List Int):AV:=.sl (l.map fun _=>.any)
def cntS {α:Type} (f:α→Int):List α→Int
 | []=>0
 | x::l=>f x+cntS f l
theorem cnt_drop {α:Type} {f:α→Int}:∀{l:List α} {k:Nat} {x:α},l[k]? =some x→cntS f (l.drop k)=f x+cntS f (l.drop (k+1))
 | [],_,_,h=>by simp at h
 | y::l,0,x,h=>by simp at h;subst h;simp [cntS]
 | y::l,k+1,x,h=>by simpa using cnt_drop (l:=l) (by simpa using h)
theorem cnt_nonneg {α:Type} {f:α→Int}:∀{l:List α},(∀x∈l,0≤f x)→0≤cntS f l
 | [],_=>by simp [cntS]
 | x::l,h=>by
  have:=h x (by simp)
  have:=cnt_nonneg (l:=l) (fun y hy=>h y (by simp [hy]))
  simp only [cntS];omega
theorem laws_markIntS (l:List Int) (n:Int) (hn:0≤n∧n+l.length≤4611686018427387904):Con 64 [.old (shI l),.d (i64 n)] (.d (i64 (n+l.length))):=by
 refine con Tryz.func64 rfl rfl Tryz.call64 rfl fun hwf=>?_
 simp only [ARs.wf,AR.wf,AV.wf,AV.wfs,List.length_map,lim] at hwf
 (repeat' ((conv=>whnf);first | refine gA ?_ | (refine gB ?_ ?_ <;> intro h) | (refine gI ?_;intro x hx) | (refine gJ ?_;intro j x hj hx) | refine gV ?_ | intro _)) <;> try (conv=>whnf)
 refine loopF [0] [] [] ?_
 (conv=>whnf)
 refine LoopC.go ((Nat)×(Int)) (fun⟨k,m⟩=>(k≤l.length)∧(m=n+k)) (fun⟨k,m⟩=>[(5,.data (i64 k)),(1,.data (i64 m))]) (fun _=>[]) (fun _=>[]) (fun⟨k,m⟩=>l.length - k) ⟨0,n⟩ ?_ ?_
 ·exact⟨Nat.zero_le _,by simp⟩
 rintro⟨k,m⟩ ⟨hk,hm⟩
 (repeat' ((conv=>whnf);first | refine gA ?_ | (refine gB ?_ ?_ <;> intro h) | (refine gI ?_;intro x hx) | (refine gJ ?_;intro j x hj hx) | refine gV ?_ | intro _)) <;> try (conv=>whnf)
 ·apply Exists.intro (⟨k+1,_⟩)
  refine⟨?_,rfl,?_,?_⟩
  rotate_left
  ·(repeat' ((conv=>whnf) <;> (first | exact trivial | exact rfl | with_reducible refine And.intro ?_ ?_)))
  ·(try dsimp only);(try simp only [List.length_map]);omega
  exact⟨(by omega:k+1≤l.length),by omega⟩
 ·refine⟨?_,rfl,trivial⟩
  have:k=l.length:=by omega
  rw [hm,this]
theorem laws_markIntSS (l:List (List Int)) (n:Int) (hn:0≤n∧n+cntS (fun x=>(x.length:Int)) l≤4611686018427387904):Con 132 [.old (.sl (l.map shI)),.d (i64 n)] (.d (i64 (n+cntS (fun x=>(x.length:Int)) l))):=by
 refine con Tryz.func132 rfl rfl Tryz.call132 rfl fun hwf=>?_
 simp only [ARs.wf,AR.wf,AV.wf,AV.wfs,List.length_map,lim] at hwf
 have hc:∀x∈l,0≤(x.length:Int):=fun x _=>by omega
 (repeat' ((conv=>whnf);first | refine gA ?_ | (refine gB ?_ ?_ <;> intro h) | (refine gI ?_;intro x hx) | (refine gJ ?_;intro j x hj hx) | refine gV ?_ | intro _)) <;> try (conv=>whnf)
 refine loopF [0] [] [] ?_
 (conv=>whnf)
 refine LoopC.go ((Nat)×(Int)) (fun⟨k,m⟩=>(k≤l.length)∧(m+cntS (fun x=>(x.length:Int)) (l.drop k)=n+cntS (fun x=>(x.length:Int)) l)∧(0≤m)) (fun⟨k,m⟩=>[(5,.data (i64 k)),(1,.data (i64 m))]) (fun _=>[]) (fun _=>[]) (fun⟨k,m⟩=>l.length - k) ⟨0,n⟩ ?_ ?_
 ·exact⟨Nat.zero_le _,rfl,hn.1⟩
 rintro⟨k,m⟩ ⟨hk,hm,h0⟩
 by_cases hlt:k < l.length
 ·obtain⟨x,hx⟩:∃x,l[k]? =some x:=⟨l[k]'hlt,by simp⟩
  have hd:=cnt_drop (f:=fun x=>(x.length:Int)) hx
  have hp:=cnt_nonneg (f:=fun x=>(x.length:Int)) (l:=l.drop (k+1)) (fun x _=>by omega)
  (repeat' ((conv=>whnf);first | with_reducible refine Idx.got hx rfl ?_ | refine gA ?_ | (refine gB ?_ ?_ <;> intro h) | (refine gI ?_;intro x hx) | (refine gJ ?_;intro j x hj hx) | refine gV ?_ | refine gC (laws_markIntS x m (by omega)) ?_ | intro _)) <;> try (conv=>whnf)
  ·apply Exists.intro (⟨k+1,_⟩)
   refine⟨?_,rfl,?_,?_⟩
   rotate_left
   ·(repeat' ((conv=>whnf) <;> (first | exact trivial | exact rfl | with_reducible refine And.intro ?_ ?_)))
   ·(try dsimp only);(try simp only [List.length_map]);omega
   exact⟨hlt,by omega,by omega⟩
  ·exfalso;omega
 ·(repeat' ((conv=>whnf);first | (exfalso;omega) | refine gA ?_ | (refine gB ?_ ?_ <;> intro h) | (refine gI ?_;intro x hx) | (refine gJ ?_;intro j x hj hx) | refine gV ?_ | intro _)) <;> try (conv=>whnf)
  refine⟨?_,rfl,trivial⟩
  rw [List.drop_eq_nil_of_le (by omega),cntS] at hm
  rw [← hm];simp
abbrev Step.sh (x:Step):AV:=.agg [.any,.any]
abbrev Step.cnt (x:Step):Int:=2
theorem Step.cnt_nn (x:Step):0≤x.cnt:=by unfold Step.cnt;omega
theorem laws_markStepS (l:List Step) (n:Int) (hn:0≤n∧n+cntS Step.cnt l≤4611686018427387904):Con 131 [.old (.sl (l.map Step.sh)),.d (i64 n)] (.d (i64 (n+cntS Step.cnt l))):=by
 refine con Tryz.func131 rfl rfl Tryz.call131 rfl fun hwf=>?_
 simp only [ARs.wf,AR.wf,AV.wf,AV.wfs,List.length_map,lim] at hwf
 (repeat' ((conv=>whnf);first | refine gA ?_ | (refine gB ?_ ?_ <;> intro h) | (refine gI ?_;intro x hx) | (refine gJ ?_;intro j x hj hx) | refine gV ?_ | intro _)) <;> try (conv=>whnf)
 refine loopF [0] [] [] ?_
 (conv=>whnf)
 refine LoopC.go ((Nat)×(Int)) (fun⟨k,m⟩=>(k≤l.length)∧(m+cntS Step.cnt (l.drop k)=n+cntS Step.cnt l)∧(0≤m)) (fun⟨k,m⟩=>[(5,.data (i64 k)),(1,.data (i64 m))]) (fun _=>[]) (fun _=>[]) (fun⟨k,m⟩=>l.length - k) ⟨0,n⟩ ?_ ?_
 ·exact⟨Nat.zero_le _,rfl,hn.1⟩
 rintro⟨k,m⟩ ⟨hk,hm,h0⟩
 by_cases hlt:k < l.length
 ·obtain⟨x,hx⟩:∃x,l[k]? =some x:=⟨l[k]'hlt,by simp⟩
  have hd:=cnt_drop (f:=Step.cnt) hx
  have hp:=cnt_nonneg (f:=Step.cnt) (l:=l.drop (k+1)) (fun x _=>x.cnt_nn)
  have hx0:=x.cnt_nn
  have he:x.cnt=2:=rfl
  (repeat' ((conv=>whnf);first | with_reducible refine Idx.got hx rfl ?_ | refine gA ?_ | (refine gB ?_ ?_ <;> intro h) | (refine gI ?_;intro x hx) | (refine gJ ?_;intro j x hj hx) | refine gV ?_ | intro _)) <;> try (conv=>whnf)
  ·apply Exists.intro (⟨k+1,_⟩)
   refine⟨?_,rfl,?_,?_⟩
   rotate_left
   ·(repeat' ((conv=>whnf) <;> (first | exact trivial | exact rfl | with_reducible refine And.intro ?_ ?_)))
   ·(try dsimp only);(try simp only [List.length_map]);omega
   exact⟨hlt,by omega,by omega⟩
  ·exfalso;omega
 ·(repeat' ((conv=>whnf);first | (exfalso;omega) | refine gA ?_ | (refine gB ?_ ?_ <;> intro h) | (refine gI ?_;intro x hx) | (refine gJ ?_;intro j x hj hx) | refine gV ?_ | intro _)) <;> try (conv=>whnf)
  refine⟨?_,rfl,trivial⟩
  rw [List.drop_eq_nil_of_le (by omega),cntS] at hm
  rw [← hm];simp
abbrev Link.sh (x:Link):AV:=.agg [.any,.any,.any,.any]
abbrev Link.cnt (x:Link):Int:=4
theorem Link.cnt_nn (x:Link):0≤x.cnt:=by unfold Link.cnt;omega
theorem laws_markLinkS (l:List Link) (n:Int) (hn:0≤n∧n+cntS Link.cnt l≤4611686018427387904):Con 62 [.old (.sl (l.map Link.sh)),.d (i64 n)] (.d (i64 (n+cntS Link.cnt l))):=by
 refine con Tryz.func62 rfl rfl Tryz.call62 rfl fun hwf=>?_
 simp only [ARs.wf,AR.wf,AV.wf,AV.wfs,List.length_map,lim] at hwf
 (repeat' ((conv=>whnf);first | refine gA ?_ | (refine gB ?_ ?_ <;> intro h) | (refine gI ?_;intro x hx) | (refine gJ ?_;intro j x hj hx) | refine gV ?_ | intro _)) <;> try (conv=>whnf)
 refine loopF [0] [] [] ?_
 (conv=>whnf)
 refine LoopC.go ((Nat)×(Int)) (fun⟨k,m⟩=>(k≤l.length)∧(m+cntS Link.cnt (l.drop k)=n+cntS Link.cnt l)∧(0≤m)) (fun⟨k,m⟩=>[(5,.data (i64 k)),(1,.data (i64 m))]) (fun _=>[]) (fun _=>[]) (fun⟨k,m⟩=>l.length - k) ⟨0,n⟩ ?_ ?_
 ·exact⟨Nat.zero_le _,rfl,hn.1⟩
 rintro⟨k,m⟩ ⟨hk,hm,h0⟩
 by_cases hlt:k < l.length
 ·obtain⟨x,hx⟩:∃x,l[k]? =some x:=⟨l[k]'hlt,by simp⟩
  have hd:=cnt_drop (f:=Link.cnt) hx
  have hp:=cnt_nonneg (f:=Link.cnt) (l:=l.drop (k+1)) (fun x _=>x.cnt_nn)
  have hx0:=x.cnt_nn
  have he:x.cnt=4:=rfl
  (repeat' ((conv=>whnf);first | with_reducible refine Idx.got hx rfl ?_ | refine gA ?_ | (refine gB ?_ ?_ <;> intro h) | (refine gI ?_;intro x hx) | (refine gJ ?_;intro j x hj hx) | refine gV ?_ | intro _)) <;> try (conv=>whnf)
  ·apply Exists.intro (⟨k+1,_⟩)
   refine⟨?_,rfl,?_,?_⟩
   rotate_left
   ·(repeat' ((conv=>whnf) <;> (first | exact trivial | exact rfl | with_reducible refine And.intro ?_ ?_)))
   ·(try dsimp only);(try simp only [List.length_map]);omega
   exact⟨hlt,by omega,by omega⟩
  ·exfalso;omega
 ·(repeat' ((conv=>whnf);first | (exfalso;omega) | refine gA ?_ | (refine gB ?_ ?_ <;> intro h) | (refine gI ?_;intro x hx) | (refine gJ ?_;intro j x hj hx) | refine gV ?_ | intro _)) <;> try (conv=>whnf)
  refine⟨?_,rfl,trivial⟩
  rw [List.drop_eq_nil_of_le (by omega),cntS] at hm
  rw [← hm];simp
abbrev Lit.sh (x:Lit):AV:=.agg [.any,.any,.any]
abbrev Lit.cnt (x:Lit):Int:=3
theorem Lit.cnt_nn (x:Lit):0≤x.cnt:=by unfold Lit.cnt;omega
theorem laws_markLiteralS (l:List Lit) (n:Int) (hn:0≤n∧n+cntS Lit.cnt l≤4611686018427387904):Con 82 [.old (.sl (l.map Lit.sh)),.d (i64 n)] (.d (i64 (n+cntS Lit.cnt l))):=by
 refine con Tryz.func82 rfl rfl Tryz.call82 rfl fun hwf=>?_
 simp only [ARs.wf,AR.wf,AV.wf,AV.wfs,List.length_map,lim] at hwf
 (repeat' ((conv=>whnf);first | refine gA ?_ | (refine gB ?_ ?_ <;> intro h) | (refine gI ?_;intro x hx) | (refine gJ ?_;intro j x hj hx) | refine gV ?_ | intro _)) <;> try (conv=>whnf)
 refine loopF [0] [] [] ?_
 (conv=>whnf)
 refine LoopC.go ((Nat)×(Int)) (fun⟨k,m⟩=>(k≤l.length)∧(m+cntS Lit.cnt (l.drop k)=n+cntS Lit.cnt l)∧(0≤m)) (fun⟨k,m⟩=>[(5,.data (i64 k)),(1,.data (i64 m))]) (fun _=>[]) (fun _=>[]) (fun⟨k,m⟩=>l.length - k) ⟨0,n⟩ ?_ ?_
 ·exact⟨Nat.zero_le _,rfl,hn.1⟩
 rintro⟨k,m⟩ ⟨hk,hm,h0⟩
 by_cases hlt:k < l.length
 ·obtain⟨x,hx⟩:∃x,l[k]? =some x:=⟨l[k]'hlt,by simp⟩
  have hd:=cnt_drop (f:=Lit.cnt) hx
  have hp:=cnt_nonneg (f:=Lit.cnt) (l:=l.drop (k+1)) (fun x _=>x.cnt_nn)
  have hx0:=x.cnt_nn
  have he:x.cnt=3:=rfl
  (repeat' ((conv=>whnf);first | with_reducible refine Idx.got hx rfl ?_ | refine gA ?_ | (refine gB ?_ ?_ <;> intro h) | (refine gI ?_;intro x hx) | (refine gJ ?_;intro j x hj hx) | refine gV ?_ | intro _)) <;> try (conv=>whnf)
  ·apply Exists.intro (⟨k+1,_⟩)
   refine⟨?_,rfl,?_,?_⟩
   rotate_left
   ·(repeat' ((conv=>whnf) <;> (first | exact trivial | exact rfl | with_reducible refine And.intro ?_ ?_)))
   ·(try dsimp only);(try simp only [List.length_map]);omega
   exact⟨hlt,by omega,by omega⟩
  ·exfalso;omega
 ·(repeat' ((conv=>whnf);first | (exfalso;omega) | refine gA ?_ | (refine gB ?_ ?_ <;> intro h) | (refine gI ?_;intro x hx) | (refine gJ ?_;intro j x hj hx) | refine gV ?_ | intro _)) <;> try (conv=>whnf)
  refine⟨?_,rfl,trivial⟩
  rw [List.drop_eq_nil_of_le (by omega),cntS] at hm
  rw [← hm];simp
abbrev Mode.sh (x:Mode):AV:=.agg [.any,shI x.use,shI x.con]
abbrev Mode.cnt (x:Mode):Int:=1+x.use.length+x.con.length
theorem Mode.cnt_nn (x:Mode):0≤x.cnt:=by unfold Mode.cnt;omega
theorem laws_markModeS (l:List Mode) (n:Int) (hn:0≤n∧n+cntS Mode.cnt l≤4611686018427387904):Con 130 [.old (.sl (l.map Mode.sh)),.d (i64 n)] (.d (i64 (n+cntS Mode.cnt l))):=by
 refine con Tryz.func130 rfl rfl Tryz.call130 rfl fun hwf=>?_
 simp only [ARs.wf,AR.wf,AV.wf,AV.wfs,List.length_map,lim] at hwf
 (repeat' ((conv=>whnf);first | refine gA ?_ | (refine gB ?_ ?_ <;> intro h) | (refine gI ?_;intro x hx) | (refine gJ ?_;intro j x hj hx) | refine gV ?_ | intro _)) <;> try (conv=>whnf)
 refine loopF [0] [] [] ?_
 (conv=>whnf)
 refine LoopC.go ((Nat)×(Int)) (fun⟨k,m⟩=>(k≤l.length)∧(m+cntS Mode.cnt (l.drop k)=n+cntS Mode.cnt l)∧(0≤m)) (fun⟨k,m⟩=>[(5,.data (i64 k)),(1,.data (i64 m))]) (fun _=>[]) (fun _=>[]) (fun⟨k,m⟩=>l.length - k) ⟨0,n⟩ ?_ ?_
 ·exact⟨Nat.zero_le _,rfl,hn.1⟩
 rintro⟨k,m⟩ ⟨hk,hm,h0⟩
 by_cases hlt:k < l.length
 ·obtain⟨x,hx⟩:∃x,l[k]? =some x:=⟨l[k]'hlt,by simp⟩
  have hd:=cnt_drop (f:=Mode.cnt) hx
  have hp:=cnt_nonneg (f:=Mode.cnt) (l:=l.drop (k+1)) (fun x _=>x.cnt_nn)
  have hx0:=x.cnt_nn
  have he:x.cnt=1+x.use.length+x.con.length:=rfl
  (repeat' ((conv=>whnf);first | with_reducible refine Idx.got hx rfl ?_ | refine gA ?_ | (refine gB ?_ ?_ <;> intro h) | (refine gI ?_;intro x hx) | (refine gJ ?_;intro j x hj hx) | refine gV ?_ | refine gC (laws_markIntS x.use (m+1) (by omega)) ?_ | refine gC (laws_markIntS x.con (m+1+x.use.length) (by omega)) ?_ | intro _)) <;> try (conv=>whnf)
  ·apply Exists.intro (⟨k+1,_⟩)
   refine⟨?_,rfl,?_,?_⟩
   rotate_left
   ·(repeat' ((conv=>whnf) <;> (first | exact trivial | exact rfl | with_reducible refine And.intro ?_ ?_)))
   ·(try dsimp only);(try simp only [List.length_map]);omega
   exact⟨hlt,by omega,by omega⟩
  ·exfalso;omega
 ·(repeat' ((conv=>whnf);first | (exfalso;omega) | refine gA ?_ | (refine gB ?_ ?_ <;> intro h) | (refine gI ?_;intro x hx) | (refine gJ ?_;intro j x hj hx) | refine gV ?_ | intro _)) <;> try (conv=>whnf)
  refine⟨?_,rfl,trivial⟩
  rw [List.drop_eq_nil_of_le (by omega),cntS] at hm
  rw [← hm];simp
abbrev Resrc.sh (x:Resrc):AV:=.agg [.sl (x.steps.map Step.sh),.sl (x.setup.map shI)]
abbrev Resrc.cnt (x:Resrc):Int:=cntS Step.cnt x.steps+cntS (fun x=>(x.length:Int)) x.setup
theorem Resrc.cnt_nn (x:Resrc):0≤x.cnt:=by have h1:=cnt_nonneg (f:=Step.cnt) (l:=x.steps) (fun x _=>x.cnt_nn);have h2:=cnt_nonneg (f:=fun x:List Int=>(x.length:Int)) (l:=x.setup) (fun x _=>by omega);unfold Resrc.cnt;omega
theorem laws_markResourceS (l:List Resrc) (n:Int) (hn:0≤n∧n+cntS Resrc.cnt l≤4611686018427387904):Con 63 [.old (.sl (l.map Resrc.sh)),.d (i64 n)] (.d (i64 (n+cntS Resrc.cnt l))):=by
 refine con Tryz.func63 rfl rfl Tryz.call63 rfl fun hwf=>?_
 simp only [ARs.wf,AR.wf,AV.wf,AV.wfs,List.length_map,lim] at hwf
 (repeat' ((conv=>whnf);first | refine gA ?_ | (refine gB ?_ ?_ <;> intro h) | (refine gI ?_;intro x hx) | (refine gJ ?_;intro j x hj hx) | refine gV ?_ | intro _)) <;> try (conv=>whnf)
 refine loopF [0] [] [] ?_
 (conv=>whnf)
 refine LoopC.go ((Nat)×(Int)) (fun⟨k,m⟩=>(k≤l.length)∧(m+cntS Resrc.cnt (l.drop k)=n+cntS Resrc.cnt l)∧(0≤m)) (fun⟨k,m⟩=>[(5,.data (i64 k)),(1,.data (i64 m))]) (fun _=>[]) (fun _=>[]) (fun⟨k,m⟩=>l.length - k) ⟨0,n⟩ ?_ ?_
 ·exact⟨Nat.zero_le _,rfl,hn.1⟩
 rintro⟨k,m⟩ ⟨hk,hm,h0⟩
 by_cases hlt:k < l.length
 ·obtain⟨x,hx⟩:∃x,l[k]? =some x:=⟨l[k]'hlt,by simp⟩
  have hd:=cnt_drop (f:=Resrc.cnt) hx
  have hp:=cnt_nonneg (f:=Resrc.cnt) (l:=l.drop (k+1)) (fun x _=>x.cnt_nn)
  have hx0:=x.cnt_nn
  have h1:=cnt_nonneg (f:=Step.cnt) (l:=x.steps) (fun x _=>x.cnt_nn)
  have h2:=cnt_nonneg (f:=fun x:List Int=>(x.length:Int)) (l:=x.setup) (fun x _=>by omega)
  have he:x.cnt=cntS Step.cnt x.steps+cntS (fun x=>(x.length:Int)) x.setup:=rfl
  (repeat' ((conv=>whnf);first | with_reducible refine Idx.got hx rfl ?_ | refine gA ?_ | (refine gB ?_ ?_ <;> intro h) | (refine gI ?_;intro x hx) | (refine gJ ?_;intro j x hj hx) | refine gV ?_ | refine gC (laws_markStepS x.steps m (by omega)) ?_ | refine gC (laws_markIntSS x.setup (m+cntS Step.cnt x.steps) (by omega)) ?_ | intro _)) <;> try (conv=>whnf)
  ·apply Exists.intro (⟨k+1,_⟩)
   refine⟨?_,rfl,?_,?_⟩
   rotate_left
   ·(repeat' ((conv=>whnf) <;> (first | exact trivial | exact rfl | with_reducible refine And.intro ?_ ?_)))
   ·(try dsimp only);(try simp only [List.length_map]);omega
   exact⟨hlt,by omega,by omega⟩
  ·exfalso;omega
 ·(repeat' ((conv=>whnf);first | (exfalso;omega) | refine gA ?_ | (refine gB ?_ ?_ <;> intro h) | (refine gI ?_;intro x hx) | (refine gJ ?_;intro j x hj hx) | refine gV ?_ | intro _)) <;> try (conv=>whnf)
  refine⟨?_,rfl,trivial⟩
  rw [List.drop_eq_nil_of_le (by omega),cntS] at hm
  rw [← hm];simp
abbrev Activ.sh (x:Activ):AV:=.agg [.any,.any,.sl (x.modes.map Mode.sh)]
abbrev Activ.cnt (x:Activ):Int:=2+cntS Mode.cnt x.modes
theorem Activ.cnt_nn (x:Activ):0≤x.cnt:=by have h1:=cnt_nonneg (f:=Mode.cnt) (l:=x.modes) (fun x _=>x.cnt_nn);unfold Activ.cnt;omega
theorem laws_markActivityS (l:List Activ) (n:Int) (hn:0≤n∧n+cntS Activ.cnt l≤4611686018427387904):Con 61 [.old (.sl (l.map Activ.sh)),.d (i64 n)] (.d (i64 (n+cntS Activ.cnt l))):=by
 refine con Tryz.func61 rfl rfl Tryz.call61 rfl fun hwf=>?_
 simp only [ARs.wf,AR.wf,AV.wf,AV.wfs,List.length_map,lim] at hwf
 (repeat' ((conv=>whnf);first | refine gA ?_ | (refine gB ?_ ?_ <;> intro h) | (refine gI ?_;intro x hx) | (refine gJ ?_;intro j x hj hx) | refine gV ?_ | intro _)) <;> try (conv=>whnf)
 refine loopF [0] [] [] ?_
 (conv=>whnf)
 refine LoopC.go ((Nat)×(Int)) (fun⟨k,m⟩=>(k≤l.length)∧(m+cntS Activ.cnt (l.drop k)=n+cntS Activ.cnt l)∧(0≤m)) (fun⟨k,m⟩=>[(5,.data (i64 k)),(1,.data (i64 m))]) (fun _=>[]) (fun _=>[]) (fun⟨k,m⟩=>l.length - k) ⟨0,n⟩ ?_ ?_
 ·exact⟨Nat.zero_le _,rfl,hn.1⟩
 rintro⟨k,m⟩ ⟨hk,hm,h0⟩
 by_cases hlt:k < l.length
 ·obtain⟨x,hx⟩:∃x,l[k]? =some x:=⟨l[k]'hlt,by simp⟩
  have hd:=cnt_drop (f:=Activ.cnt) hx
  have hp:=cnt_nonneg (f:=Activ.cnt) (l:=l.drop (k+1)) (fun x _=>x.cnt_nn)
  have hx0:=x.cnt_nn
  have h1:=cnt_nonneg (f:=Mode.cnt) (l:=x.modes) (fun x _=>x.cnt_nn)
  have he:x.cnt=2+cntS Mode.cnt x.modes:=rfl
  (repeat' ((conv=>whnf);first | with_reducible refine Idx.got hx rfl ?_ | refine gA ?_ | (refine gB ?_ ?_ <;> intro h) | (refine gI ?_;intro x hx) | (refine gJ ?_;intro j x hj hx) | refine gV ?_ | refine gC (laws_markText m (by omega)) ?_ | refine gC (laws_markModeS x.modes (m+2) (by omega)) ?_ | refine gC (laws_markModeS x.modes (m+1+1) (by omega)) ?_ | intro _)) <;> try (conv=>whnf)
  ·apply Exists.intro (⟨k+1,_⟩)
   refine⟨?_,rfl,?_,?_⟩
   rotate_left
   ·(repeat' ((conv=>whnf) <;> (first | exact trivial | exact rfl | with_reducible refine And.intro ?_ ?_)))
   ·(try dsimp only);(try simp only [List.length_map]);omega
   exact⟨hlt,by omega,by omega⟩
  ·exfalso;omega
 ·(repeat' ((conv=>whnf);first | (exfalso;omega) | refine gA ?_ | (refine gB ?_ ?_ <;> intro h) | (refine gI ?_;intro x hx) | (refine gJ ?_;intro j x hj hx) | refine gV ?_ | intro _)) <;> try (conv=>whnf)
  refine⟨?_,rfl,trivial⟩
  rw [List.drop_eq_nil_of_le (by omega),cntS] at hm
  rw [← hm];simp
abbrev Lin.sh (x:Lin):AV:=.agg [.any,.any,.any,.any,.any,.sl (x.clause.map Lit.sh)]
abbrev Lin.cnt (x:Lin):Int:=5+cntS Lit.cnt x.clause
theorem Lin.cnt_nn (x:Lin):0≤x.cnt:=by have h1:=cnt_nonneg (f:=Lit.cnt) (l:=x.clause) (fun x _=>x.cnt_nn);unfold Lin.cnt;omega
theorem laws_markLineS (l:List Lin) (n:Int) (hn:0≤n∧n+cntS Lin.cnt l≤4611686018427387904):Con 83 [.old (.sl (l.map Lin.sh)),.d (i64 n)] (.d (i64 (n+cntS Lin.cnt l))):=by
 refine con Tryz.func83 rfl rfl Tryz.call83 rfl fun hwf=>?_
 simp only [ARs.wf,AR.wf,AV.wf,AV.wfs,List.length_map,lim] at hwf
 (repeat' ((conv=>whnf);first | refine gA ?_ | (refine gB ?_ ?_ <;> intro h) | (refine gI ?_;intro x hx) | (refine gJ ?_;intro j x hj hx) | refine gV ?_ | intro _)) <;> try (conv=>whnf)
 refine loopF [0] [] [] ?_
 (conv=>whnf)
 refine LoopC.go ((Nat)×(Int)) (fun⟨k,m⟩=>(k≤l.length)∧(m+cntS Lin.cnt (l.drop k)=n+cntS Lin.cnt l)∧(0≤m)) (fun⟨k,m⟩=>[(5,.data (i64 k)),(1,.data (i64 m))]) (fun _=>[]) (fun _=>[]) (fun⟨k,m⟩=>l.length - k) ⟨0,n⟩ ?_ ?_
 ·exact⟨Nat.zero_le _,rfl,hn.1⟩
 rintro⟨k,m⟩ ⟨hk,hm,h0⟩
 by_cases hlt:k < l.length
 ·obtain⟨x,hx⟩:∃x,l[k]? =some x:=⟨l[k]'hlt,by simp⟩
  have hd:=cnt_drop (f:=Lin.cnt) hx
  have hp:=cnt_nonneg (f:=Lin.cnt) (l:=l.drop (k+1)) (fun x _=>x.cnt_nn)
  have hx0:=x.cnt_nn
  have h1:=cnt_nonneg (f:=Lit.cnt) (l:=x.clause) (fun x _=>x.cnt_nn)
  have he:x.cnt=5+cntS Lit.cnt x.clause:=rfl
  (repeat' ((conv=>whnf);first | with_reducible refine Idx.got hx rfl ?_ | refine gA ?_ | (refine gB ?_ ?_ <;> intro h) | (refine gI ?_;intro x hx) | (refine gJ ?_;intro j x hj hx) | refine gV ?_ | refine gC (laws_markLiteralS x.clause (m+1+1+1+1+1) (by omega)) ?_ | intro _)) <;> try (conv=>whnf)
  ·apply Exists.intro (⟨k+1,_⟩)
   refine⟨?_,rfl,?_,?_⟩
   rotate_left
   ·(repeat' ((conv=>whnf) <;> (first | exact trivial | exact rfl | with_reducible refine And.intro ?_ ?_)))
   ·(try dsimp only);(try simp only [List.length_map]);omega
   exact⟨hlt,by omega,by omega⟩
  ·exfalso;omega
 ·(repeat' ((conv=>whnf);first | (exfalso;omega) | refine gA ?_ | (refine gB ?_ ?_ <;> intro h) | (refine gI ?_;intro x hx) | (refine gJ ?_;intro j x hj hx) | refine gV ?_ | intro _)) <;> try (conv=>whnf)
  refine⟨?_,rfl,trivial⟩
  rw [List.drop_eq_nil_of_le (by omega),cntS] at hm
  rw [← hm];simp
abbrev Proj.sh (x:Proj):AV:=.agg [.any,.sl (x.acts.map Activ.sh),.sl (x.links.map Link.sh),.sl (x.ress.map Resrc.sh),shI x.stocks]
abbrev Proj.cnt (x:Proj):Int:=cntS Activ.cnt x.acts+cntS Link.cnt x.links+cntS Resrc.cnt x.ress+x.stocks.length
theorem Proj.cnt_nn (x:Proj):0≤x.cnt:=by
 have h1:=cnt_nonneg (f:=Activ.cnt) (l:=x.acts) (fun x _=>x.cnt_nn)
 have h2:=cnt_nonneg (f:=Link.cnt) (l:=x.links) (fun x _=>x.cnt_nn)
 have h3:=cnt_nonneg (f:=Resrc.cnt) (l:=x.ress) (fun x _=>x.cnt_nn)
 unfold Proj.cnt;omega
theorem laws_markProject (x:Proj) (n:Int) (hn:0≤n∧n+x.cnt≤4611686018427387904):Con 16 [.old x.sh,.d (i64 n)] (.d (i64 (n+x.cnt))):=by
 refine con Tryz.func16 rfl rfl Tryz.call16 rfl fun hwf=>?_
 have h1:=cnt_nonneg (f:=Activ.cnt) (l:=x.acts) (fun x _=>x.cnt_nn)
 have h2:=cnt_nonneg (f:=Link.cnt) (l:=x.links) (fun x _=>x.cnt_nn)
 have h3:=cnt_nonneg (f:=Resrc.cnt) (l:=x.ress) (fun x _=>x.cnt_nn)
 have he:x.cnt=cntS Activ.cnt x.acts+cntS Link.cnt x.links+cntS Resrc.cnt x.ress+x.stocks.length:=rfl
 (repeat' ((conv=>whnf);first | refine gA ?_ | (refine gB ?_ ?_ <;> intro h) | refine gC (laws_markActivityS x.acts n (by omega)) ?_ | refine gC (laws_markLinkS x.links _ (by omega)) ?_ | refine gC (laws_markResourceS x.ress _ (by omega)) ?_ | refine gC (laws_markIntS x.stocks _ (by omega)) ?_ | intro _)) <;> try (conv=>whnf)
 refine⟨?_,rfl,trivial⟩
 exact congrArg (AV.int .i64) (by omega)
abbrev Dom.sh (x:Dom):AV:=.agg [shI x.lo,shI x.hi,.sl (x.modes.map shI)]
abbrev Dom.cnt (x:Dom):Int:=x.lo.length+x.hi.length+cntS (fun x=>(x.length:Int)) x.modes
theorem laws_markDomain (x:Dom) (n:Int) (hn:0≤n∧n+x.cnt≤4611686018427387904):Con 81 [.old x.sh,.d (i64 n)] (.d (i64 (n+x.cnt))):=by
 refine con Tryz.func81 rfl rfl Tryz.call81 rfl fun hwf=>?_
 have h3:=cnt_nonneg (f:=fun x:List Int=>(x.length:Int)) (l:=x.modes) (fun x _=>by omega)
 have he:x.cnt=x.lo.length+x.hi.length+cntS (fun x=>(x.length:Int)) x.modes:=rfl
 (repeat' ((conv=>whnf);first | refine gA ?_ | (refine gB ?_ ?_ <;> intro h) | refine gC (laws_markIntS x.lo n (by omega)) ?_ | refine gC (laws_markIntS x.hi _ (by omega)) ?_ | refine gC (laws_markIntSS x.modes _ (by omega)) ?_ | intro _)) <;> try (conv=>whnf)
 refine⟨?_,rfl,trivial⟩
 exact congrArg (AV.int .i64) (by omega)
abbrev Sched.sh (x:Sched):AV:=.agg [shI x.starts,shI x.modes]
abbrev Sched.cnt (x:Sched):Int:=x.starts.length+x.modes.length
theorem shI_eq (l:List Int):(ints l).shape=shI l:=by simp [AV.shape,shapes_map,shI]
theorem sh_eq {α:Type} {f g:α→AV} (h:∀x,(f x).shape=g x) (l:List α):(AV.sl (l.map f)).shape= .sl (l.map g):=by
 simp only [AV.shape,shapes_map];congr 1;exact List.map_congr_left fun x _=>h x
theorem Step.sh_eq (x:Step):x.av.shape=x.sh:=rfl
theorem Link.sh_eq (x:Link):x.av.shape=x.sh:=rfl
theorem Lit.sh_eq (x:Lit):x.av.shape=x.sh:=rfl
theorem Mode.sh_eq (x:Mode):x.av.shape=x.sh:=by simp [AV.shape,AV.shapes,shapes_map]
theorem Activ.sh_eq (x:Activ):x.av.shape=x.sh:=by
 simp only [AV.shape,AV.shapes];rw [show AV.sl (AV.shapes (x.modes.map Mode.av))= .sl (x.modes.map Mode.sh) from Abs.sh_eq Mode.sh_eq x.modes]
theorem Resrc.sh_eq (x:Resrc):x.av.shape=x.sh:=by
 simp only [AV.shape,AV.shapes]
 rw [show AV.sl (AV.shapes (x.steps.map Step.av))= .sl (x.steps.map Step.sh) from Abs.sh_eq Step.sh_eq x.steps,show AV.sl (AV.shapes (x.setup.map ints))= .sl (x.setup.map shI) from Abs.sh_eq shI_eq x.setup]
theorem Lin.sh_eq (x:Lin):x.av.shape=x.sh:=by
 simp only [AV.shape,AV.shapes];rw [show AV.sl (AV.shapes (x.clause.map Lit.av))= .sl (x.clause.map Lit.sh) from Abs.sh_eq Lit.sh_eq x.clause]
theorem Proj.sh_eq (x:Proj):x.av.shape=x.sh:=by
 simp only [AV.shape,AV.shapes]
 rw [show AV.sl (AV.shapes (x.acts.map Activ.av))= .sl (x.acts.map Activ.sh) from Abs.sh_eq Activ.sh_eq x.acts,show AV.sl (AV.shapes (x.links.map Link.av))= .sl (x.links.map Link.sh) from Abs.sh_eq Link.sh_eq x.links,
  show AV.sl (AV.shapes (x.ress.map Resrc.av))= .sl (x.ress.map Resrc.sh) from Abs.sh_eq Resrc.sh_eq x.ress,show AV.sl (AV.shapes (x.stocks.map i64))=shI x.stocks from shI_eq x.stocks]
theorem Dom.sh_eq (x:Dom):x.av.shape=x.sh:=by
 simp only [AV.shape,AV.shapes]
 rw [show AV.sl (AV.shapes (x.lo.map i64))=shI x.lo from shI_eq x.lo,show AV.sl (AV.shapes (x.hi.map i64))=shI x.hi from shI_eq x.hi,show AV.sl (AV.shapes (x.modes.map ints))= .sl (x.modes.map shI) from Abs.sh_eq shI_eq x.modes]
theorem Sched.sh_eq (x:Sched):x.av.shape=x.sh:=by simp [AV.shape,AV.shapes,shapes_map]
end Go.Proofs.YtfhojdalheinaaaGreat.Abs
set_option linter.unusedVariables false
set_option linter.unusedSimpArgs false
namespace Go.Proofs.YtfhojdalheinaaaGreat.Abs
open Go.Proofs
theorem szB_nn {r:Int} {f:Int→Int} (h:0≤szB r f):0≤r∧szB r f=f r:=by
 unfold szB at*;split at h
 ·omega
 ·rename_i h0;exact⟨by omega,if_neg h0⟩
theorem szN_nn {c:Nat} {n:Int} (h:0≤szN c n):szN c n=n - c:=by
 unfold szN at*;split at h
 ·omega
 ·rename_i h0;exact if_neg h0
theorem meas_L {α:Type} {f:α→Int→Int} {c:α→Int} (hf:∀x n,0≤f x n→c x≤5+5*(n - f x n)∧f x n≤n):∀(l:List α) (n:Int),0≤szL f l n→cntS c l≤5*l.length+5*(n - szL f l n)∧szL f l n≤n
 | [],n,_=>by simp [cntS,szL]
 | x::l,n,h=>by
  simp only [szL] at h ⊢
  obtain⟨h1,h2⟩:=szB_nn h
  rw [h2] at h ⊢
  obtain⟨h3,h4⟩:=hf x n h1
  obtain⟨h5,h6⟩:=meas_L hf l (f x n) h
  simp only [cntS,List.length_cons]
  push_cast
  omega
theorem meas_S {α:Type} {f:α→Int→Int} {c:α→Int} (hf:∀x n,0≤f x n→c x≤5+5*(n - f x n)∧f x n≤n) {l:List α} {n:Int} (h:0≤szS f l n):cntS c l≤5*(n - szS f l n)∧szS f l n≤n:=by
 unfold szS at h ⊢
 obtain⟨h1,h2⟩:=szB_nn h
 rw [h2] at h ⊢
 have:=szN_nn h1
 obtain⟨h5,h6⟩:=meas_L hf l _ h
 omega
theorem cnt_const {α:Type} {k:Int}:∀(l:List α),cntS (fun _=>k) l=k*l.length
 | []=>by simp [cntS]
 | x::l=>by simp only [cntS,cnt_const l,List.length_cons];push_cast;rw [Int.mul_add];omega
theorem cnt_lits (l:List Lit):cntS Lit.cnt l=3*l.length:=cnt_const l
theorem cnt_steps (l:List Step):cntS Step.cnt l=2*l.length:=cnt_const l
theorem cnt_links (l:List Link):cntS Link.cnt l=4*l.length:=cnt_const l
theorem szMode_m (x:Mode) (n:Int) (h:0≤szMode x n):x.cnt≤5+5*(n - szMode x n)∧szMode x n≤n:=by
 unfold szMode at h ⊢
 obtain⟨h1,e1⟩:=szB_nn h;rw [e1] at h ⊢;(try dsimp only at h ⊢)
 obtain⟨h2,e2⟩:=szB_nn h;rw [e2] at h ⊢;(try dsimp only at h ⊢)
 have:=szN_nn h1;have:=szN_nn h2
 unfold Mode.cnt;omega
theorem szActivity_m (x:Activ) (n:Int) (h:0≤szActivity x n):x.cnt≤5+5*(n - szActivity x n)∧szActivity x n≤n:=by
 unfold szActivity at h ⊢
 obtain⟨h1,e1⟩:=szB_nn h;rw [e1] at h ⊢;(try dsimp only at h ⊢)
 obtain⟨h2,e2⟩:=szB_nn h;rw [e2] at h ⊢;(try dsimp only at h ⊢)
 have:=szN_nn h1;have:=meas_S (f:=fun x n=>szMode x n) (c:=Mode.cnt) szMode_m h2
 unfold Activ.cnt;omega
theorem szRow_m (x:List Int) (n:Int) (h:0≤szN x.length n):(x.length:Int)≤5+5*(n - szN x.length n)∧szN x.length n≤n:=by have:=szN_nn h;omega
theorem szResource_m (x:Resrc) (n:Int) (h:0≤szResource x n):x.cnt≤5+5*(n - szResource x n)∧szResource x n≤n:=by
 unfold szResource at h ⊢
 obtain⟨h1,e1⟩:=szB_nn h;rw [e1] at h ⊢;(try dsimp only at h ⊢)
 obtain⟨h2,e2⟩:=szB_nn h;rw [e2] at h ⊢;(try dsimp only at h ⊢)
 have:=szN_nn h1;have:=meas_S (f:=fun (x:List Int) n=>szN x.length n) (c:=fun x:List Int=>(x.length:Int)) szRow_m h2
 have:=cnt_steps x.steps
 unfold Resrc.cnt;omega
theorem szProject_m (x:Proj) (n:Int) (h:0≤szProject x n):x.cnt≤5*(n - szProject x n)∧szProject x n≤n:=by
 unfold szProject at h ⊢
 obtain⟨h1,e1⟩:=szB_nn h;rw [e1] at h ⊢;(try dsimp only at h ⊢)
 obtain⟨h2,e2⟩:=szB_nn h;rw [e2] at h ⊢;(try dsimp only at h ⊢)
 obtain⟨h3,e3⟩:=szB_nn h;rw [e3] at h ⊢;(try dsimp only at h ⊢)
 obtain⟨h4,e4⟩:=szB_nn h;rw [e4] at h ⊢;(try dsimp only at h ⊢)
 have:=meas_S (f:=fun x n=>szActivity x n) (c:=Activ.cnt) szActivity_m h1;have:=szN_nn h2;have:=meas_S (f:=fun x n=>szResource x n) (c:=Resrc.cnt) szResource_m h3;have:=szN_nn h4
 have:=cnt_links x.links
 unfold Proj.cnt;omega
theorem szDomain_m(x:Dom) (n:Int) (h:0≤szDomain x n):x.cnt≤5*(n - szDomain x n)∧szDomain x n≤n:=by
 unfold szDomain at h ⊢
 obtain⟨h1,e1⟩:=szB_nn h;rw [e1] at h ⊢;(try dsimp only at h ⊢)
 obtain⟨h2,e2⟩:=szB_nn h;rw [e2] at h ⊢;(try dsimp only at h ⊢)
 obtain⟨h3,e3⟩:=szB_nn h;rw [e3] at h ⊢;(try dsimp only at h ⊢)
 have:=szN_nn h1;have:=szN_nn h2;have:=meas_S (f:=fun (x:List Int) n=>szN x.length n) (c:=fun x:List Int=>(x.length:Int)) szRow_m h3
 unfold Dom.cnt;omega
theorem mdS {α:Type} {f:α→AV} (h:∀x,(f x).md false=true) (l:List α):(AV.sl (l.map f)).md false=true:=by simp only [AV.md];exact mds_map h l
theorem Int_md (n:Int):(i64 n).md false=true:=rfl
theorem ints_md (l:List Int):(ints l).md false=true:=mdS Int_md l
theorem Lit_md (x:Lit):x.av.md false=true:=rfl
theorem Step_md (x:Step):x.av.md false=true:=rfl
theorem Link_md (x:Link):x.av.md false=true:=rfl
theorem lits_md (l:List Lit):(lits l).md false=true:=mdS Lit_md l
theorem and2 {a b:Bool} (h:a=true) (k:b=true):(a&&b)=true:=by rw [h,k];rfl
theorem Mode_md (x:Mode):x.av.md false=true:=by simp only [AV.md,AV.mds];exact and2 rfl (and2 (ints_md x.use) (and2 (ints_md x.con) rfl))
theorem Activ_md (x:Activ):x.av.md false=true:=by simp only [AV.md,AV.mds];exact and2 rfl (and2 rfl (and2 (mdS Mode_md x.modes) rfl))
theorem Resrc_md (x:Resrc):x.av.md false=true:=by simp only [AV.md,AV.mds];exact and2 (mdS Step_md x.steps) (and2 (mdS ints_md x.setup) rfl)
theorem Lin_md (x:Lin):x.av.md false=true:=by simp only [AV.md,AV.mds];exact and2 rfl (and2 rfl (and2 rfl (and2 rfl (and2 rfl (and2 (lits_md x.clause) rfl)))))
end Go.Proofs.YtfhojdalheinaaaGreat.Abs
set_option linter.unusedVariables false
set_option linter.unusedSimpArgs false
namespace Go.Proofs.YtfhojdalheinaaaGreat.Abs
open Go.Proofs
theorem szLine_m(x:Lin) (n:Int) (h:0≤szLine x n):x.cnt≤5+5*(n - szLine x n)∧szLine x n≤n:=by
 unfold szLine at h ⊢
 obtain⟨h1,e1⟩:=szB_nn h;rw [e1] at h ⊢;(try dsimp only at h ⊢)
 have:=szN_nn h1
 have:=cnt_lits x.clause
 unfold Lin.cnt;omega
end Go.Proofs.YtfhojdalheinaaaGreat.Abs
