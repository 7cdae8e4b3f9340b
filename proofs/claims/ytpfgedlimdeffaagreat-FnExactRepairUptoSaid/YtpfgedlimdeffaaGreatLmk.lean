/- The laws' markText: some string. -/
import Derived.WalkKit
import Derived.Deep.LoopGhost
import Derived.Lib.Hide
import Derived.Laws.BytesArg
import Derived.Test.YtpfgedlimdeffaaGreatProg
import Derived.Test.YtpfgedlimdeffaaGreatPlain
import Derived.Test.YtpfgedlimdeffaaGreatC1
import Derived.Test.YtpfgedlimdeffaaGreatLh
set_option linter.all false
set_option maxRecDepth 100000
set_option maxHeartbeats 4000000
namespace Go.Proofs.YtpfgedlimdeffaaGreat.Abs
open Go.Proofs Go.RowKit
def VE (w:World) (e:Ending) (w':World):Prop:=∃b,e= .returned (.string b)∧Quiet w w'
theorem NW {n:Int} {g:Nat} (h:n < 2 ^ (g+1)):n / 10 < 2 ^ g:=by
 have:(2:Int) ^ (g+1)=2*2 ^ g:=by rw [Int.pow_succ];omega
 have h0:(0:Int) < 2 ^ g:=Int.pow_pos (by decide)
 omega
theorem NY (k:Int) (hk:0≤k∧k≤4611686018427387904) (w:World):Calls Tryz.prog 85 #[.int .i64 k] w (VE w):=by
 by_cases h0:k≤0
 ·go_enter Tryz.func85,Tryz.ntmps85
  go_wp2
  go_ret
  exact⟨_,rfl,Quiet.refl _⟩
 ·go_enter Tryz.func85,Tryz.ntmps85
  go_wp2
  go_loopg [0,3] 63 (fun g s0 s3 wr=>∃(n:Int) (s:ByteArray),s0= .int .i64 n∧s3= .string s∧0≤n∧n≤4611686018427387904∧n < 2 ^ g∧s.size+g≤63∧Aside (Quiet w wr))
  case atStart=>exact⟨k,⟨#[]⟩,rfl,rfl,by omega,by omega,by omega,by decide,Quiet.refl _⟩
  case round=>
   obtain⟨n,s,rfl,rfl,h1,hm,h2,h3,hb⟩:=hrel
   by_cases hlt:0 < n
   ·have hg:1≤gk:=by
     rcases Nat.eq_zero_or_pos gk with rfl|h
     ·simp at h2;omega
     ·exact h
    obtain⟨d,hd⟩:∃d,Hid (strOfNums [48+n % 10]=d):=⟨_,rfl⟩
    have hcv:∀T:TypeId,(convert 157 9 (.slice (some ⟨wr.heap.size,0,none⟩) 1 1)).run Tryz.prog (wr.alloc (.cells #[.int .u8 (48+n % 10)] T))= .ok (.string d) (wr.alloc (.cells #[.int .u8 (48+n % 10)] T)):=fun T=>by
     rw [← hd.out]
     exact run_convert_bytes_arg _ 157 5 Tryz.underlying157 Tryz.underlying5 _ 0 1 1 [48+n % 10] rfl (fun i hi=>by
      obtain rfl:i=0:=by omega
      simp) 9 Tryz.underlying9
    have h4:s.size≤63:=by omega
    have h5:d.size≤1:=by rw [← hd.out,strOfNums_size];simp
    obtain⟨g,rfl⟩:∃g,gk=g+1:=⟨gk - 1,by omega⟩
    have H2:=Lib.hid (NW h2)
    clear h2
    go_wp2
    ·go_roundg g
     case measure=>omega
     case rel=>exact⟨n / 10,d++s,by go_num,rfl,by omega,by omega,H2.out,by rw [ByteArray.size_append];omega,(show Aside _ from (Quiet.Ed hb.out _))⟩
   ·have h4:s.size≤63:=by omega
    clear h2 hm
    go_wp2
    ·go_ret
     exact⟨_,rfl,hb.out⟩
theorem Hr (k:Int) (hk:0≤k∧k≤4611686018427387904):Con 85 [.d (i64 k)] (.d .any):=
 Km Tryz.call85 fun w=>NY k hk w
set_option maxRecDepth 20000
set_option maxHeartbeats 0
open Go.Proofs
abbrev shI (l:List Int):AV:=.sl (l.map fun _=>.any)
def dA {α:Type} (f:α→Int):List α→Int
 |[]=>0
 |x::l=>f x+dA f l
theorem qJ {α:Type} {f:α→Int}:∀{l:List α} {k:Nat} {x:α},l[k]? =some x→dA f (l.drop k)=f x+dA f (l.drop (k+1))
 |[],_,_,h=>by simp at h
 |y::l,0,x,h=>by simp at h;subst h;simp [dA]
 |y::l,k+1,x,h=>by simpa using qJ (l:=l) (by simpa using h)
theorem bE {α:Type} {f:α→Int}:∀{l:List α},(∀x∈l,0≤f x)→0≤dA f l
 |[],_=>by simp [dA]
 |x::l,h=>by
  have:=h x (by simp)
  have:=bE (l:=l) (fun y hy=>h y (by simp [hy]))
  simp only [dA];omega
theorem jA (l:List Int) (n:Int) (hn:0≤n∧n+l.length≤4611686018427387904):Con 49 [.old (shI l),.d (i64 n)] (.d (i64 (n+l.length))):=by
 refine con Tryz.func49 rfl rfl Tryz.call49 rfl fun hwf=>?_
 simp only [ARs.wf,AR.wf,AV.wf,AV.wfs,lm,lim] at hwf
 (repeat' ((conv=>whnf);first|refine gA ?_|(refine gB ?_ ?_<;>intro h)|(refine gI ?_;intro x hx)|(refine gJ ?_;intro j x hj hx)|refine gV ?_|intro _))<;>try (conv=>whnf)
 refine aG [0] [] [] ?_
 (conv=>whnf)
 refine aC.go ((Nat)×(Int)) (fun⟨k,m⟩=>(k≤l.length)∧(m=n+k)) (fun⟨k,m⟩=>[(5,.data (i64 k)),(1,.data (i64 m))]) (fun _=>[]) (fun _=>[]) (fun⟨k,m⟩=>l.length - k) ⟨0,n⟩ ?_ ?_
 ·exact⟨Nat.zero_le _,by simp⟩
 rintro⟨k,m⟩ ⟨hk,hm⟩
 (repeat' ((conv=>whnf);first|refine gA ?_|(refine gB ?_ ?_<;>intro h)|(refine gI ?_;intro x hx)|(refine gJ ?_;intro j x hj hx)|refine gV ?_|intro _))<;>try (conv=>whnf)
 ·apply Exists.intro (⟨k+1,_⟩)
  refine⟨?_,rfl,?_,?_⟩
  rotate_left
  ·(repeat' ((conv=>whnf)<;>(first|exact trivial|exact rfl|with_reducible refine And.intro ?_ ?_)))
  ·(try dsimp only);(try simp only [List.length_map]);omega
  exact⟨(by omega:k+1≤l.length),by omega⟩
 ·refine⟨?_,rfl,trivial⟩
  have:k=l.length:=by omega
  rw [hm,this]
theorem Gj (l:List (List Int)) (n:Int) (hn:0≤n∧n+dA (fun x=>(x.length:Int)) l≤4611686018427387904):Con 88 [.old (.sl (l.map shI)),.d (i64 n)] (.d (i64 (n+dA (fun x=>(x.length:Int)) l))):=by
 refine con Tryz.func88 rfl rfl Tryz.call88 rfl fun hwf=>?_
 simp only [ARs.wf,AR.wf,AV.wf,AV.wfs,lm,lim] at hwf
 have hc:∀x∈l,0≤(x.length:Int):=fun x _=>by omega
 (repeat' ((conv=>whnf);first|refine gA ?_|(refine gB ?_ ?_<;>intro h)|(refine gI ?_;intro x hx)|(refine gJ ?_;intro j x hj hx)|refine gV ?_|intro _))<;>try (conv=>whnf)
 refine aG [0] [] [] ?_
 (conv=>whnf)
 refine aC.go ((Nat)×(Int)) (fun⟨k,m⟩=>(k≤l.length)∧(m+dA (fun x=>(x.length:Int)) (l.drop k)=n+dA (fun x=>(x.length:Int)) l)∧(0≤m)) (fun⟨k,m⟩=>[(5,.data (i64 k)),(1,.data (i64 m))]) (fun _=>[]) (fun _=>[]) (fun⟨k,m⟩=>l.length - k) ⟨0,n⟩ ?_ ?_
 ·exact⟨Nat.zero_le _,rfl,hn.1⟩
 rintro⟨k,m⟩ ⟨hk,hm,h0⟩
 by_cases hlt:k < l.length
 ·obtain⟨x,hx⟩:∃x,l[k]? =some x:=⟨l[k]'hlt,by simp⟩
  have hd:=qJ (f:=fun x=>(x.length:Int)) hx
  have hp:=bE (f:=fun x=>(x.length:Int)) (l:=l.drop (k+1)) (fun x _=>by omega)
  (repeat' ((conv=>whnf);first|with_reducible refine Idx.got hx rfl ?_|refine gA ?_|(refine gB ?_ ?_<;>intro h)|(refine gI ?_;intro x hx)|(refine gJ ?_;intro j x hj hx)|refine gV ?_|refine gC (jA x m (by omega)) ?_|intro _))<;>try (conv=>whnf)
  ·apply Exists.intro (⟨k+1,_⟩)
   refine⟨?_,rfl,?_,?_⟩
   rotate_left
   ·(repeat' ((conv=>whnf)<;>(first|exact trivial|exact rfl|with_reducible refine And.intro ?_ ?_)))
   ·(try dsimp only);(try simp only [List.length_map]);omega
   exact⟨hlt,by omega,by omega⟩
  ·exfalso;omega
 ·(repeat' ((conv=>whnf);first|(exfalso;omega)|refine gA ?_|(refine gB ?_ ?_<;>intro h)|(refine gI ?_;intro x hx)|(refine gJ ?_;intro j x hj hx)|refine gV ?_|intro _))<;>try (conv=>whnf)
  refine⟨?_,rfl,trivial⟩
  rw [List.drop_eq_nil_of_le (by omega),dA] at hm
  rw [← hm];simp
abbrev Step.sh (x:Step):AV:=.agg [.any,.any]
abbrev Step.cnt (x:Step):Int:=2
theorem Step.dU (x:Step):0≤x.cnt:=by unfold Step.cnt;omega
theorem Gl (l:List Step) (n:Int) (hn:0≤n∧n+dA Step.cnt l≤4611686018427387904):Con 87 [.old (.sl (l.map Step.sh)),.d (i64 n)] (.d (i64 (n+dA Step.cnt l))):=by
 refine con Tryz.func87 rfl rfl Tryz.call87 rfl fun hwf=>?_
 simp only [ARs.wf,AR.wf,AV.wf,AV.wfs,lm,lim] at hwf
 (repeat' ((conv=>whnf);first|refine gA ?_|(refine gB ?_ ?_<;>intro h)|(refine gI ?_;intro x hx)|(refine gJ ?_;intro j x hj hx)|refine gV ?_|intro _))<;>try (conv=>whnf)
 refine aG [0] [] [] ?_
 (conv=>whnf)
 refine aC.go ((Nat)×(Int)) (fun⟨k,m⟩=>(k≤l.length)∧(m+dA Step.cnt (l.drop k)=n+dA Step.cnt l)∧(0≤m)) (fun⟨k,m⟩=>[(5,.data (i64 k)),(1,.data (i64 m))]) (fun _=>[]) (fun _=>[]) (fun⟨k,m⟩=>l.length - k) ⟨0,n⟩ ?_ ?_
 ·exact⟨Nat.zero_le _,rfl,hn.1⟩
 rintro⟨k,m⟩ ⟨hk,hm,h0⟩
 by_cases hlt:k < l.length
 ·obtain⟨x,hx⟩:∃x,l[k]? =some x:=⟨l[k]'hlt,by simp⟩
  have hd:=qJ (f:=Step.cnt) hx
  have hp:=bE (f:=Step.cnt) (l:=l.drop (k+1)) (fun x _=>x.dU)
  have hx0:=x.dU
  have he:x.cnt=2:=rfl
  (repeat' ((conv=>whnf);first|with_reducible refine Idx.got hx rfl ?_|refine gA ?_|(refine gB ?_ ?_<;>intro h)|(refine gI ?_;intro x hx)|(refine gJ ?_;intro j x hj hx)|refine gV ?_|intro _))<;>try (conv=>whnf)
  ·apply Exists.intro (⟨k+1,_⟩)
   refine⟨?_,rfl,?_,?_⟩
   rotate_left
   ·(repeat' ((conv=>whnf)<;>(first|exact trivial|exact rfl|with_reducible refine And.intro ?_ ?_)))
   ·(try dsimp only);(try simp only [List.length_map]);omega
   exact⟨hlt,by omega,by omega⟩
  ·exfalso;omega
 ·(repeat' ((conv=>whnf);first|(exfalso;omega)|refine gA ?_|(refine gB ?_ ?_<;>intro h)|(refine gI ?_;intro x hx)|(refine gJ ?_;intro j x hj hx)|refine gV ?_|intro _))<;>try (conv=>whnf)
  refine⟨?_,rfl,trivial⟩
  rw [List.drop_eq_nil_of_le (by omega),dA] at hm
  rw [← hm];simp
abbrev Link.sh (x:Link):AV:=.agg [.any,.any,.any,.any]
abbrev Link.cnt (x:Link):Int:=4
theorem Link.dU (x:Link):0≤x.cnt:=by unfold Link.cnt;omega
theorem Gm (l:List Link) (n:Int) (hn:0≤n∧n+dA Link.cnt l≤4611686018427387904):Con 47 [.old (.sl (l.map Link.sh)),.d (i64 n)] (.d (i64 (n+dA Link.cnt l))):=by
 refine con Tryz.func47 rfl rfl Tryz.call47 rfl fun hwf=>?_
 simp only [ARs.wf,AR.wf,AV.wf,AV.wfs,lm,lim] at hwf
 (repeat' ((conv=>whnf);first|refine gA ?_|(refine gB ?_ ?_<;>intro h)|(refine gI ?_;intro x hx)|(refine gJ ?_;intro j x hj hx)|refine gV ?_|intro _))<;>try (conv=>whnf)
 refine aG [0] [] [] ?_
 (conv=>whnf)
 refine aC.go ((Nat)×(Int)) (fun⟨k,m⟩=>(k≤l.length)∧(m+dA Link.cnt (l.drop k)=n+dA Link.cnt l)∧(0≤m)) (fun⟨k,m⟩=>[(5,.data (i64 k)),(1,.data (i64 m))]) (fun _=>[]) (fun _=>[]) (fun⟨k,m⟩=>l.length - k) ⟨0,n⟩ ?_ ?_
 ·exact⟨Nat.zero_le _,rfl,hn.1⟩
 rintro⟨k,m⟩ ⟨hk,hm,h0⟩
 by_cases hlt:k < l.length
 ·obtain⟨x,hx⟩:∃x,l[k]? =some x:=⟨l[k]'hlt,by simp⟩
  have hd:=qJ (f:=Link.cnt) hx
  have hp:=bE (f:=Link.cnt) (l:=l.drop (k+1)) (fun x _=>x.dU)
  have hx0:=x.dU
  have he:x.cnt=4:=rfl
  (repeat' ((conv=>whnf);first|with_reducible refine Idx.got hx rfl ?_|refine gA ?_|(refine gB ?_ ?_<;>intro h)|(refine gI ?_;intro x hx)|(refine gJ ?_;intro j x hj hx)|refine gV ?_|intro _))<;>try (conv=>whnf)
  ·apply Exists.intro (⟨k+1,_⟩)
   refine⟨?_,rfl,?_,?_⟩
   rotate_left
   ·(repeat' ((conv=>whnf)<;>(first|exact trivial|exact rfl|with_reducible refine And.intro ?_ ?_)))
   ·(try dsimp only);(try simp only [List.length_map]);omega
   exact⟨hlt,by omega,by omega⟩
  ·exfalso;omega
 ·(repeat' ((conv=>whnf);first|(exfalso;omega)|refine gA ?_|(refine gB ?_ ?_<;>intro h)|(refine gI ?_;intro x hx)|(refine gJ ?_;intro j x hj hx)|refine gV ?_|intro _))<;>try (conv=>whnf)
  refine⟨?_,rfl,trivial⟩
  rw [List.drop_eq_nil_of_le (by omega),dA] at hm
  rw [← hm];simp
abbrev Lit.sh (x:Lit):AV:=.agg [.any,.any,.any]
abbrev Lit.cnt (x:Lit):Int:=3
theorem Lit.dU (x:Lit):0≤x.cnt:=by unfold Lit.cnt;omega
abbrev Mode.sh (x:Mode):AV:=.agg [.any,shI x.use,shI x.con]
abbrev Mode.cnt (x:Mode):Int:=1+x.use.length+x.con.length
theorem Mode.dU (x:Mode):0≤x.cnt:=by unfold Mode.cnt;omega
theorem vY (l:List Mode) (n:Int) (hn:0≤n∧n+dA Mode.cnt l≤4611686018427387904):Con 86 [.old (.sl (l.map Mode.sh)),.d (i64 n)] (.d (i64 (n+dA Mode.cnt l))):=by
 refine con Tryz.func86 rfl rfl Tryz.call86 rfl fun hwf=>?_
 simp only [ARs.wf,AR.wf,AV.wf,AV.wfs,lm,lim] at hwf
 (repeat' ((conv=>whnf);first|refine gA ?_|(refine gB ?_ ?_<;>intro h)|(refine gI ?_;intro x hx)|(refine gJ ?_;intro j x hj hx)|refine gV ?_|intro _))<;>try (conv=>whnf)
 refine aG [0] [] [] ?_
 (conv=>whnf)
 refine aC.go ((Nat)×(Int)) (fun⟨k,m⟩=>(k≤l.length)∧(m+dA Mode.cnt (l.drop k)=n+dA Mode.cnt l)∧(0≤m)) (fun⟨k,m⟩=>[(5,.data (i64 k)),(1,.data (i64 m))]) (fun _=>[]) (fun _=>[]) (fun⟨k,m⟩=>l.length - k) ⟨0,n⟩ ?_ ?_
 ·exact⟨Nat.zero_le _,rfl,hn.1⟩
 rintro⟨k,m⟩ ⟨hk,hm,h0⟩
 by_cases hlt:k < l.length
 ·obtain⟨x,hx⟩:∃x,l[k]? =some x:=⟨l[k]'hlt,by simp⟩
  have hd:=qJ (f:=Mode.cnt) hx
  have hp:=bE (f:=Mode.cnt) (l:=l.drop (k+1)) (fun x _=>x.dU)
  have hx0:=x.dU
  have he:x.cnt=1+x.use.length+x.con.length:=rfl
  (repeat' ((conv=>whnf);first|with_reducible refine Idx.got hx rfl ?_|refine gA ?_|(refine gB ?_ ?_<;>intro h)|(refine gI ?_;intro x hx)|(refine gJ ?_;intro j x hj hx)|refine gV ?_|refine gC (jA x.use (m+1) (by omega)) ?_|refine gC (jA x.con (m+1+x.use.length) (by omega)) ?_|intro _))<;>try (conv=>whnf)
  ·apply Exists.intro (⟨k+1,_⟩)
   refine⟨?_,rfl,?_,?_⟩
   rotate_left
   ·(repeat' ((conv=>whnf)<;>(first|exact trivial|exact rfl|with_reducible refine And.intro ?_ ?_)))
   ·(try dsimp only);(try simp only [List.length_map]);omega
   exact⟨hlt,by omega,by omega⟩
  ·exfalso;omega
 ·(repeat' ((conv=>whnf);first|(exfalso;omega)|refine gA ?_|(refine gB ?_ ?_<;>intro h)|(refine gI ?_;intro x hx)|(refine gJ ?_;intro j x hj hx)|refine gV ?_|intro _))<;>try (conv=>whnf)
  refine⟨?_,rfl,trivial⟩
  rw [List.drop_eq_nil_of_le (by omega),dA] at hm
  rw [← hm];simp
abbrev aP.sh (x:aP):AV:=.agg [.sl (x.steps.map Step.sh),.sl (x.setup.map shI)]
abbrev aP.cnt (x:aP):Int:=dA Step.cnt x.steps+dA (fun x=>(x.length:Int)) x.setup
theorem aP.dU (x:aP):0≤x.cnt:=by have h1:=bE (f:=Step.cnt) (l:=x.steps) (fun x _=>x.dU);have h2:=bE (f:=fun x:List Int=>(x.length:Int)) (l:=x.setup) (fun x _=>by omega);unfold aP.cnt;omega
theorem yP (l:List aP) (n:Int) (hn:0≤n∧n+dA aP.cnt l≤4611686018427387904):Con 48 [.old (.sl (l.map aP.sh)),.d (i64 n)] (.d (i64 (n+dA aP.cnt l))):=by
 refine con Tryz.func48 rfl rfl Tryz.call48 rfl fun hwf=>?_
 simp only [ARs.wf,AR.wf,AV.wf,AV.wfs,lm,lim] at hwf
 (repeat' ((conv=>whnf);first|refine gA ?_|(refine gB ?_ ?_<;>intro h)|(refine gI ?_;intro x hx)|(refine gJ ?_;intro j x hj hx)|refine gV ?_|intro _))<;>try (conv=>whnf)
 refine aG [0] [] [] ?_
 (conv=>whnf)
 refine aC.go ((Nat)×(Int)) (fun⟨k,m⟩=>(k≤l.length)∧(m+dA aP.cnt (l.drop k)=n+dA aP.cnt l)∧(0≤m)) (fun⟨k,m⟩=>[(5,.data (i64 k)),(1,.data (i64 m))]) (fun _=>[]) (fun _=>[]) (fun⟨k,m⟩=>l.length - k) ⟨0,n⟩ ?_ ?_
 ·exact⟨Nat.zero_le _,rfl,hn.1⟩
 rintro⟨k,m⟩ ⟨hk,hm,h0⟩
 by_cases hlt:k < l.length
 ·obtain⟨x,hx⟩:∃x,l[k]? =some x:=⟨l[k]'hlt,by simp⟩
  have hd:=qJ (f:=aP.cnt) hx
  have hp:=bE (f:=aP.cnt) (l:=l.drop (k+1)) (fun x _=>x.dU)
  have hx0:=x.dU
  have h1:=bE (f:=Step.cnt) (l:=x.steps) (fun x _=>x.dU)
  have h2:=bE (f:=fun x:List Int=>(x.length:Int)) (l:=x.setup) (fun x _=>by omega)
  have he:x.cnt=dA Step.cnt x.steps+dA (fun x=>(x.length:Int)) x.setup:=rfl
  (repeat' ((conv=>whnf);first|with_reducible refine Idx.got hx rfl ?_|refine gA ?_|(refine gB ?_ ?_<;>intro h)|(refine gI ?_;intro x hx)|(refine gJ ?_;intro j x hj hx)|refine gV ?_|refine gC (Gl x.steps m (by omega)) ?_|refine gC (Gj x.setup (m+dA Step.cnt x.steps) (by omega)) ?_|intro _))<;>try (conv=>whnf)
  ·apply Exists.intro (⟨k+1,_⟩)
   refine⟨?_,rfl,?_,?_⟩
   rotate_left
   ·(repeat' ((conv=>whnf)<;>(first|exact trivial|exact rfl|with_reducible refine And.intro ?_ ?_)))
   ·(try dsimp only);(try simp only [List.length_map]);omega
   exact⟨hlt,by omega,by omega⟩
  ·exfalso;omega
 ·(repeat' ((conv=>whnf);first|(exfalso;omega)|refine gA ?_|(refine gB ?_ ?_<;>intro h)|(refine gI ?_;intro x hx)|(refine gJ ?_;intro j x hj hx)|refine gV ?_|intro _))<;>try (conv=>whnf)
  refine⟨?_,rfl,trivial⟩
  rw [List.drop_eq_nil_of_le (by omega),dA] at hm
  rw [← hm];simp
abbrev au.sh (x:au):AV:=.agg [.any,.any,.sl (x.modes.map Mode.sh)]
abbrev au.cnt (x:au):Int:=2+dA Mode.cnt x.modes
theorem au.dU (x:au):0≤x.cnt:=by have h1:=bE (f:=Mode.cnt) (l:=x.modes) (fun x _=>x.dU);unfold au.cnt;omega
theorem yQ (l:List au) (n:Int) (hn:0≤n∧n+dA au.cnt l≤4611686018427387904):Con 46 [.old (.sl (l.map au.sh)),.d (i64 n)] (.d (i64 (n+dA au.cnt l))):=by
 refine con Tryz.func46 rfl rfl Tryz.call46 rfl fun hwf=>?_
 simp only [ARs.wf,AR.wf,AV.wf,AV.wfs,lm,lim] at hwf
 (repeat' ((conv=>whnf);first|refine gA ?_|(refine gB ?_ ?_<;>intro h)|(refine gI ?_;intro x hx)|(refine gJ ?_;intro j x hj hx)|refine gV ?_|intro _))<;>try (conv=>whnf)
 refine aG [0] [] [] ?_
 (conv=>whnf)
 refine aC.go ((Nat)×(Int)) (fun⟨k,m⟩=>(k≤l.length)∧(m+dA au.cnt (l.drop k)=n+dA au.cnt l)∧(0≤m)) (fun⟨k,m⟩=>[(5,.data (i64 k)),(1,.data (i64 m))]) (fun _=>[]) (fun _=>[]) (fun⟨k,m⟩=>l.length - k) ⟨0,n⟩ ?_ ?_
 ·exact⟨Nat.zero_le _,rfl,hn.1⟩
 rintro⟨k,m⟩ ⟨hk,hm,h0⟩
 by_cases hlt:k < l.length
 ·obtain⟨x,hx⟩:∃x,l[k]? =some x:=⟨l[k]'hlt,by simp⟩
  have hd:=qJ (f:=au.cnt) hx
  have hp:=bE (f:=au.cnt) (l:=l.drop (k+1)) (fun x _=>x.dU)
  have hx0:=x.dU
  have h1:=bE (f:=Mode.cnt) (l:=x.modes) (fun x _=>x.dU)
  have he:x.cnt=2+dA Mode.cnt x.modes:=rfl
  (repeat' ((conv=>whnf);first|with_reducible refine Idx.got hx rfl ?_|refine gA ?_|(refine gB ?_ ?_<;>intro h)|(refine gI ?_;intro x hx)|(refine gJ ?_;intro j x hj hx)|refine gV ?_|refine gC (Hr m (by omega)) ?_|refine gC (vY x.modes (m+2) (by omega)) ?_|refine gC (vY x.modes (m+1+1) (by omega)) ?_|intro _))<;>try (conv=>whnf)
  ·apply Exists.intro (⟨k+1,_⟩)
   refine⟨?_,rfl,?_,?_⟩
   rotate_left
   ·(repeat' ((conv=>whnf)<;>(first|exact trivial|exact rfl|with_reducible refine And.intro ?_ ?_)))
   ·(try dsimp only);(try simp only [List.length_map]);omega
   exact⟨hlt,by omega,by omega⟩
  ·exfalso;omega
 ·(repeat' ((conv=>whnf);first|(exfalso;omega)|refine gA ?_|(refine gB ?_ ?_<;>intro h)|(refine gI ?_;intro x hx)|(refine gJ ?_;intro j x hj hx)|refine gV ?_|intro _))<;>try (conv=>whnf)
  refine⟨?_,rfl,trivial⟩
  rw [List.drop_eq_nil_of_le (by omega),dA] at hm
  rw [← hm];simp
abbrev Lin.sh (x:Lin):AV:=.agg [.any,.any,.any,.any,.any,.sl (x.clause.map Lit.sh)]
abbrev Lin.cnt (x:Lin):Int:=5+dA Lit.cnt x.clause
theorem Lin.dU (x:Lin):0≤x.cnt:=by have h1:=bE (f:=Lit.cnt) (l:=x.clause) (fun x _=>x.dU);unfold Lin.cnt;omega
abbrev Proj.sh (x:Proj):AV:=.agg [.any,.sl (x.acts.map au.sh),.sl (x.links.map Link.sh),.sl (x.aU.map aP.sh),shI x.aL]
abbrev Proj.cnt (x:Proj):Int:=dA au.cnt x.acts+dA Link.cnt x.links+dA aP.cnt x.aU+x.aL.length
theorem Proj.dU (x:Proj):0≤x.cnt:=by
 have h1:=bE (f:=au.cnt) (l:=x.acts) (fun x _=>x.dU)
 have h2:=bE (f:=Link.cnt) (l:=x.links) (fun x _=>x.dU)
 have h3:=bE (f:=aP.cnt) (l:=x.aU) (fun x _=>x.dU)
 unfold Proj.cnt;omega
theorem BP (x:Proj) (n:Int) (hn:0≤n∧n+x.cnt≤4611686018427387904):Con 13 [.old x.sh,.d (i64 n)] (.d (i64 (n+x.cnt))):=by
 refine con Tryz.func13 rfl rfl Tryz.call13 rfl fun hwf=>?_
 have h1:=bE (f:=au.cnt) (l:=x.acts) (fun x _=>x.dU)
 have h2:=bE (f:=Link.cnt) (l:=x.links) (fun x _=>x.dU)
 have h3:=bE (f:=aP.cnt) (l:=x.aU) (fun x _=>x.dU)
 have he:x.cnt=dA au.cnt x.acts+dA Link.cnt x.links+dA aP.cnt x.aU+x.aL.length:=rfl
 (repeat' ((conv=>whnf);first|refine gA ?_|(refine gB ?_ ?_<;>intro h)|refine gC (yQ x.acts n (by omega)) ?_|refine gC (Gm x.links _ (by omega)) ?_|refine gC (yP x.aU _ (by omega)) ?_|refine gC (jA x.aL _ (by omega)) ?_|intro _))<;>try (conv=>whnf)
 refine⟨?_,rfl,trivial⟩
 exact congrArg (AV.int .i64) (by omega)
abbrev Dom.sh (x:Dom):AV:=.agg [shI x.lo,shI x.hi,.sl (x.modes.map shI)]
abbrev Dom.cnt (x:Dom):Int:=x.lo.length+x.hi.length+dA (fun x=>(x.length:Int)) x.modes
abbrev aA.sh (x:aA):AV:=.agg [shI x.starts,shI x.modes]
abbrev aA.cnt (x:aA):Int:=x.starts.length+x.modes.length
theorem yR (x:aA) (n:Int) (hn:0≤n∧n+x.cnt≤4611686018427387904):Con 14 [.old x.sh,.d (i64 n)] (.d (i64 (n+x.cnt))):=by
 refine con Tryz.func14 rfl rfl Tryz.call14 rfl fun hwf=>?_
 have he:x.cnt=x.starts.length+x.modes.length:=rfl
 (repeat' ((conv=>whnf);first|refine gA ?_|(refine gB ?_ ?_<;>intro h)|refine gC (jA x.starts n (by omega)) ?_|refine gC (jA x.modes _ (by omega)) ?_|intro _))<;>try (conv=>whnf)
 refine⟨?_,rfl,trivial⟩
 exact congrArg (AV.int .i64) (by omega)
theorem Gn (l:List Int):(ints l).shape=shI l:=by simp [AV.shape,ql,shI]
theorem jd {α:Type} {f g:α→AV} (h:∀x,(f x).shape=g x) (l:List α):(AV.sl (l.map f)).shape= .sl (l.map g):=by
 simp only [AV.shape,ql];congr 1;exact List.map_congr_left fun x _=>h x
theorem Step.jd (x:Step):x.av.shape=x.sh:=rfl
theorem Link.jd (x:Link):x.av.shape=x.sh:=rfl
theorem Lit.jd (x:Lit):x.av.shape=x.sh:=rfl
theorem Mode.jd (x:Mode):x.av.shape=x.sh:=by simp [AV.shape,AV.shapes,ql]
theorem au.jd (x:au):x.av.shape=x.sh:=by
 simp only [AV.shape,AV.shapes];rw [show AV.sl (AV.shapes (x.modes.map Mode.av))= .sl (x.modes.map Mode.sh) from Abs.jd Mode.jd x.modes]
theorem aP.jd (x:aP):x.av.shape=x.sh:=by
 simp only [AV.shape,AV.shapes]
 rw [show AV.sl (AV.shapes (x.steps.map Step.av))= .sl (x.steps.map Step.sh) from Abs.jd Step.jd x.steps,show AV.sl (AV.shapes (x.setup.map ints))= .sl (x.setup.map shI) from Abs.jd Gn x.setup]
theorem Lin.jd (x:Lin):x.av.shape=x.sh:=by
 simp only [AV.shape,AV.shapes];rw [show AV.sl (AV.shapes (x.clause.map Lit.av))= .sl (x.clause.map Lit.sh) from Abs.jd Lit.jd x.clause]
theorem Proj.jd (x:Proj):x.av.shape=x.sh:=by
 simp only [AV.shape,AV.shapes]
 rw [show AV.sl (AV.shapes (x.acts.map au.av))= .sl (x.acts.map au.sh) from Abs.jd au.jd x.acts,show AV.sl (AV.shapes (x.links.map Link.av))= .sl (x.links.map Link.sh) from Abs.jd Link.jd x.links,
  show AV.sl (AV.shapes (x.aU.map aP.av))= .sl (x.aU.map aP.sh) from Abs.jd aP.jd x.aU,show AV.sl (AV.shapes (x.aL.map i64))=shI x.aL from Gn x.aL]
theorem Dom.jd (x:Dom):x.av.shape=x.sh:=by
 simp only [AV.shape,AV.shapes]
 rw [show AV.sl (AV.shapes (x.lo.map i64))=shI x.lo from Gn x.lo,show AV.sl (AV.shapes (x.hi.map i64))=shI x.hi from Gn x.hi,show AV.sl (AV.shapes (x.modes.map ints))= .sl (x.modes.map shI) from Abs.jd Gn x.modes]
theorem aA.jd (x:aA):x.av.shape=x.sh:=by simp [AV.shape,AV.shapes,ql]
end Go.Proofs.YtpfgedlimdeffaaGreat.Abs
namespace Go.Proofs.YtpfgedlimdeffaaGreat.Abs
open Go.Proofs
theorem mJ {r:Int} {f:Int→Int} (h:0≤szB r f):0≤r∧szB r f=f r:=by
 unfold szB at*;split at h
 ·omega
 ·rename_i h0;exact⟨by omega,if_neg h0⟩
theorem rV {c:Nat} {n:Int} (h:0≤szN c n):szN c n=n - c:=by
 unfold szN at*;split at h
 ·omega
 ·rename_i h0;exact if_neg h0
theorem Un {α:Type} {f:α→Int→Int} {c:α→Int} (hf:∀x n,0≤f x n→c x≤5+5*(n - f x n)∧f x n≤n):∀(l:List α) (n:Int),0≤szL f l n→dA c l≤5*l.length+5*(n - szL f l n)∧szL f l n≤n
 |[],n,_=>by simp [dA,szL]
 |x::l,n,h=>by
  simp only [szL] at h ⊢
  obtain⟨h1,h2⟩:=mJ h
  rw [h2] at h ⊢
  obtain⟨h3,h4⟩:=hf x n h1
  obtain⟨h5,h6⟩:=Un hf l (f x n) h
  simp only [dA,List.length_cons]
  push_cast
  omega
theorem Li {α:Type} {f:α→Int→Int} {c:α→Int} (hf:∀x n,0≤f x n→c x≤5+5*(n - f x n)∧f x n≤n) {l:List α} {n:Int} (h:0≤szS f l n):dA c l≤5*(n - szS f l n)∧szS f l n≤n:=by
 unfold szS at h ⊢
 obtain⟨h1,h2⟩:=mJ h
 rw [h2] at h ⊢
 have:=rV h1
 obtain⟨h5,h6⟩:=Un hf l _ h
 omega
theorem BQ {α:Type} {k:Int}:∀(l:List α),dA (fun _=>k) l=k*l.length
 |[]=>by simp [dA]
 |x::l=>by simp only [dA,BQ l,List.length_cons];push_cast;rw [Int.mul_add];omega
theorem RD (l:List Step):dA Step.cnt l=2*l.length:=BQ l
theorem RF (l:List Link):dA Link.cnt l=4*l.length:=BQ l
theorem Uo (x:Mode) (n:Int) (h:0≤ny x n):x.cnt≤5+5*(n - ny x n)∧ny x n≤n:=by
 unfold ny at h ⊢
 obtain⟨h1,e1⟩:=mJ h;rw [e1] at h ⊢;(try dsimp only at h ⊢)
 obtain⟨h2,e2⟩:=mJ h;rw [e2] at h ⊢;(try dsimp only at h ⊢)
 have:=rV h1;have:=rV h2
 unfold Mode.cnt;omega
theorem Lj (x:au) (n:Int) (h:0≤bD x n):x.cnt≤5+5*(n - bD x n)∧bD x n≤n:=by
 unfold bD at h ⊢
 obtain⟨h1,e1⟩:=mJ h;rw [e1] at h ⊢;(try dsimp only at h ⊢)
 obtain⟨h2,e2⟩:=mJ h;rw [e2] at h ⊢;(try dsimp only at h ⊢)
 have:=rV h1;have:=Li (f:=fun x n=>ny x n) (c:=Mode.cnt) Uo h2
 unfold au.cnt;omega
theorem VF (x:List Int) (n:Int) (h:0≤szN x.length n):(x.length:Int)≤5+5*(n - szN x.length n)∧szN x.length n≤n:=by have:=rV h;omega
theorem Ll (x:aP) (n:Int) (h:0≤cZ x n):x.cnt≤5+5*(n - cZ x n)∧cZ x n≤n:=by
 unfold cZ at h ⊢
 obtain⟨h1,e1⟩:=mJ h;rw [e1] at h ⊢;(try dsimp only at h ⊢)
 obtain⟨h2,e2⟩:=mJ h;rw [e2] at h ⊢;(try dsimp only at h ⊢)
 have:=rV h1;have:=Li (f:=fun (x:List Int) n=>szN x.length n) (c:=fun x:List Int=>(x.length:Int)) VF h2
 have:=RD x.steps
 unfold aP.cnt;omega
theorem NZ (x:Proj) (n:Int) (h:0≤eH x n):x.cnt≤5*(n - eH x n)∧eH x n≤n:=by
 unfold eH at h ⊢
 obtain⟨h1,e1⟩:=mJ h;rw [e1] at h ⊢;(try dsimp only at h ⊢)
 obtain⟨h2,e2⟩:=mJ h;rw [e2] at h ⊢;(try dsimp only at h ⊢)
 obtain⟨h3,e3⟩:=mJ h;rw [e3] at h ⊢;(try dsimp only at h ⊢)
 obtain⟨h4,e4⟩:=mJ h;rw [e4] at h ⊢;(try dsimp only at h ⊢)
 have:=Li (f:=fun x n=>bD x n) (c:=au.cnt) Lj h1;have:=rV h2;have:=Li (f:=fun x n=>cZ x n) (c:=aP.cnt) Ll h3;have:=rV h4
 have:=RF x.links
 unfold Proj.cnt;omega
theorem mdS {α:Type} {f:α→AV} (h:∀x,(f x).md false=true) (l:List α):(AV.sl (l.map f)).md false=true:=by simp only [AV.md];exact Qt h l
theorem Xm (n:Int):(i64 n).md false=true:=rfl
theorem wQ (l:List Int):(ints l).md false=true:=mdS Xm l
theorem VG (x:Step):x.av.md false=true:=rfl
theorem VH (x:Link):x.av.md false=true:=rfl
theorem gq {a b:Bool} (h:a=true) (k:b=true):(a&&b)=true:=by rw [h,k];rfl
theorem VI (x:Mode):x.av.md false=true:=by simp only [AV.md,AV.mds];exact gq rfl (gq (wQ x.use) (gq (wQ x.con) rfl))
theorem Uq (x:au):x.av.md false=true:=by simp only [AV.md,AV.mds];exact gq rfl (gq rfl (gq (mdS VI x.modes) rfl))
theorem Ur (x:aP):x.av.md false=true:=by simp only [AV.md,AV.mds];exact gq (mdS VG x.steps) (gq (mdS wQ x.setup) rfl)
theorem VJ (x:Proj):x.av.md false=true:=by simp only [AV.md,AV.mds];exact gq rfl (gq (mdS Uq x.acts) (gq (mdS VH x.links) (gq (mdS Ur x.aU) (gq (wQ x.aL) rfl))))
open Go.Proofs
end Go.Proofs.YtpfgedlimdeffaaGreat.Abs
