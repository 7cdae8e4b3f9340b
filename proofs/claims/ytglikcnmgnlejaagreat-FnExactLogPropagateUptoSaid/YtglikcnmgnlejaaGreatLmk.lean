/- The laws' markText: some string. -/
import Derived.WalkKit
import Derived.Deep.LoopGhost
import Derived.Lib.Hide
import Derived.Laws.BytesArg
import Derived.Test.YtglikcnmgnlejaaGreatProg
import Derived.Test.YtglikcnmgnlejaaGreatLayB
import Derived.Test.YtglikcnmgnlejaaGreatC1
import Derived.Test.YtglikcnmgnlejaaGreatPlain
import Derived.Test.YtglikcnmgnlejaaGreatLh
set_option linter.all false
set_option maxRecDepth 100000
set_option maxHeartbeats 4000000
namespace Go.Proofs.YtglikcnmgnlejaaGreat.Abs
open Go.Proofs Go.RowKit
def abj (w:World) (e:Ending) (w':World):Prop:=∃b,e= .returned (.string b)∧Quiet w w'
theorem UF {n:Int} {g:Nat} (h:n < 2 ^ (g+1)):n / 10 < 2 ^ g:=by
 have:(2:Int) ^ (g+1)=2*2 ^ g:=by rw [Int.pow_succ];omega
 have h0:(0:Int) < 2 ^ g:=Int.pow_pos (by decide)
 omega
theorem UG (k:Int) (hk:0≤k∧k≤4611686018427387904) (w:World):Calls Tryz.prog 134 #[.int .i64 k] w (abj w):=by
 by_cases h0:k≤0
 ·go_enter Tryz.func134,Tryz.ntmps134
  go_wp2
  go_ret
  exact⟨_,rfl,Quiet.refl _⟩
 ·go_enter Tryz.func134,Tryz.ntmps134
  go_wp2
  go_loopg [0,3] 63 (fun g s0 s3 wr=>∃(n:Int) (s:ByteArray),s0= .int .i64 n∧s3= .string s∧0≤n∧n≤4611686018427387904∧n < 2 ^ g∧s.size+g≤63∧Aside (Quiet w wr))
  case atStart=>exact⟨k,⟨#[]⟩,rfl,rfl,by omega,by omega,by omega,by decide,Quiet.refl _⟩
  case round=>
   obtain⟨n,s,rfl,rfl,h1,hm,h2,h3,hb⟩:=hrel
   by_cases hlt:0 < n
   ·have hg:1≤gk:=by
     rcases Nat.eq_zero_or_pos gk with rfl|h
     ·simp at h2;omega
     ·exact h
    obtain⟨d,hd⟩:∃d,Hid (strOfNums [48+n % 10]=d):=⟨_,rfl⟩
    have hcv:∀T:TypeId,(convert 249 9 (.slice (some ⟨wr.heap.size,0,none⟩) 1 1)).run Tryz.prog (wr.alloc (.cells #[.int .u8 (48+n % 10)] T))= .ok (.string d) (wr.alloc (.cells #[.int .u8 (48+n % 10)] T)):=fun T=>by
     rw [← hd.out]
     exact run_convert_bytes_arg _ 249 5 Tryz.underlying249 Tryz.underlying5 _ 0 1 1 [48+n % 10] rfl (fun i hi=>by
      obtain rfl:i=0:=by omega
      simp) 9 Tryz.underlying9
    have h4:s.size≤63:=by omega
    have h5:d.size≤1:=by rw [← hd.out,strOfNums_size];simp
    obtain⟨g,rfl⟩:∃g,gk=g+1:=⟨gk - 1,by omega⟩
    have H2:=Lib.hid (UF h2)
    clear h2
    go_wp2
    ·go_roundg g
     case measure=>omega
     case rel=>exact⟨n / 10,d++s,by go_num,rfl,by omega,by omega,H2.out,by rw [ByteArray.size_append];omega,(show Aside _ from (Quiet.JR hb.out _))⟩
   ·have h4:s.size≤63:=by omega
    clear h2 hm
    go_wp2
    ·go_ret
     exact⟨_,rfl,hb.out⟩
theorem NT (k:Int) (hk:0≤k∧k≤4611686018427387904):Con 134 [.d (i64 k)] (.d .any):=
 QB Tryz.call134 fun w=>UG k hk w
end Go.Proofs.YtglikcnmgnlejaaGreat.Abs
set_option maxRecDepth 20000
set_option maxHeartbeats 0
namespace Go.Proofs.YtglikcnmgnlejaaGreat.Abs
open Go.Proofs
abbrev shI (l:List Int):AV:=.sl (l.map fun _=>.any)
def aR {α:Type} (f:α→Int):List α→Int
 |[]=>0
 |x::l=>f x+aR f l
theorem pV {α:Type} {f:α→Int}:∀{l:List α} {k:Nat} {x:α},l[k]? =some x→aR f (l.drop k)=f x+aR f (l.drop (k+1))
 |[],_,_,h=>by simp at h
 |y::l,0,x,h=>by simp at h;subst h;simp [aR]
 |y::l,k+1,x,h=>by simpa using pV (l:=l) (by simpa using h)
theorem aT {α:Type} {f:α→Int}:∀{l:List α},(∀x∈l,0≤f x)→0≤aR f l
 |[],_=>by simp [aR]
 |x::l,h=>by
  have:=h x (by simp)
  have:=aT (l:=l) (fun y hy=>h y (by simp [hy]))
  simp only [aR];omega
theorem lD (l:List Int) (n:Int) (hn:0≤n∧n+l.length≤4611686018427387904):Con 63 [.old (shI l),.d (i64 n)] (.d (i64 (n+l.length))):=by
 refine con Tryz.func63 rfl rfl Tryz.call63 rfl fun hwf=>?_
 simp only [ARs.wf,AR.wf,AV.wf,AV.wfs,lm,lim] at hwf
 (repeat' ((conv=>whnf);first|refine gA ?_|(refine gB ?_ ?_<;>intro h)|(refine gI ?_;intro x hx)|(refine gJ ?_;intro j x hj hx)|refine gV ?_|intro _))<;>try (conv=>whnf)
 refine au [0] [] [] ?_
 (conv=>whnf)
 refine ak.go ((Nat)×(Int)) (fun⟨k,m⟩=>(k≤l.length)∧(m=n+k)) (fun⟨k,m⟩=>[(5,.data (i64 k)),(1,.data (i64 m))]) (fun _=>[]) (fun _=>[]) (fun⟨k,m⟩=>l.length - k) ⟨0,n⟩ ?_ ?_
 ·exact⟨Nat.zero_le _,by simp⟩
 rintro⟨k,m⟩ ⟨hk,hm⟩
 (repeat' ((conv=>whnf);first|refine gA ?_|(refine gB ?_ ?_<;>intro h)|(refine gI ?_;intro x hx)|(refine gJ ?_;intro j x hj hx)|refine gV ?_|intro _))<;>try (conv=>whnf)
 ·apply Exists.intro (⟨k+1,_⟩)
  refine⟨?_,rfl,?_,?_⟩
  rotate_left
  ·(repeat' ((conv=>whnf)<;>(first|exact trivial|exact rfl|with_reducible refine And.intro ?_ ?_)))
  ·(try dsimp only);(try simp only [List.length_map]);omega
  exact⟨(by omega:k+1≤l.length),by omega⟩
 ·refine⟨?_,rfl,trivial⟩
  have:k=l.length:=by omega
  rw [hm,this]
theorem Ao (l:List (List Int)) (n:Int) (hn:0≤n∧n+aR (fun x=>(x.length:Int)) l≤4611686018427387904):Con 137 [.old (.sl (l.map shI)),.d (i64 n)] (.d (i64 (n+aR (fun x=>(x.length:Int)) l))):=by
 refine con Tryz.func137 rfl rfl Tryz.call137 rfl fun hwf=>?_
 simp only [ARs.wf,AR.wf,AV.wf,AV.wfs,lm,lim] at hwf
 have hc:∀x∈l,0≤(x.length:Int):=fun x _=>by omega
 (repeat' ((conv=>whnf);first|refine gA ?_|(refine gB ?_ ?_<;>intro h)|(refine gI ?_;intro x hx)|(refine gJ ?_;intro j x hj hx)|refine gV ?_|intro _))<;>try (conv=>whnf)
 refine au [0] [] [] ?_
 (conv=>whnf)
 refine ak.go ((Nat)×(Int)) (fun⟨k,m⟩=>(k≤l.length)∧(m+aR (fun x=>(x.length:Int)) (l.drop k)=n+aR (fun x=>(x.length:Int)) l)∧(0≤m)) (fun⟨k,m⟩=>[(5,.data (i64 k)),(1,.data (i64 m))]) (fun _=>[]) (fun _=>[]) (fun⟨k,m⟩=>l.length - k) ⟨0,n⟩ ?_ ?_
 ·exact⟨Nat.zero_le _,rfl,hn.1⟩
 rintro⟨k,m⟩ ⟨hk,hm,h0⟩
 by_cases hlt:k < l.length
 ·obtain⟨x,hx⟩:∃x,l[k]? =some x:=⟨l[k]'hlt,by simp⟩
  have hd:=pV (f:=fun x=>(x.length:Int)) hx
  have hp:=aT (f:=fun x=>(x.length:Int)) (l:=l.drop (k+1)) (fun x _=>by omega)
  (repeat' ((conv=>whnf);first|with_reducible refine Idx.got hx rfl ?_|refine gA ?_|(refine gB ?_ ?_<;>intro h)|(refine gI ?_;intro x hx)|(refine gJ ?_;intro j x hj hx)|refine gV ?_|refine gC (lD x m (by omega)) ?_|intro _))<;>try (conv=>whnf)
  ·apply Exists.intro (⟨k+1,_⟩)
   refine⟨?_,rfl,?_,?_⟩
   rotate_left
   ·(repeat' ((conv=>whnf)<;>(first|exact trivial|exact rfl|with_reducible refine And.intro ?_ ?_)))
   ·(try dsimp only);(try simp only [List.length_map]);omega
   exact⟨hlt,by omega,by omega⟩
  ·exfalso;omega
 ·(repeat' ((conv=>whnf);first|(exfalso;omega)|refine gA ?_|(refine gB ?_ ?_<;>intro h)|(refine gI ?_;intro x hx)|(refine gJ ?_;intro j x hj hx)|refine gV ?_|intro _))<;>try (conv=>whnf)
  refine⟨?_,rfl,trivial⟩
  rw [List.drop_eq_nil_of_le (by omega),aR] at hm
  rw [← hm];simp
abbrev Step.sh (x:Step):AV:=.agg [.any,.any]
abbrev Step.cnt (x:Step):Int:=2
theorem Step.bH (x:Step):0≤x.cnt:=by unfold Step.cnt;omega
theorem MG (l:List Step) (n:Int) (hn:0≤n∧n+aR Step.cnt l≤4611686018427387904):Con 136 [.old (.sl (l.map Step.sh)),.d (i64 n)] (.d (i64 (n+aR Step.cnt l))):=by
 refine con Tryz.func136 rfl rfl Tryz.call136 rfl fun hwf=>?_
 simp only [ARs.wf,AR.wf,AV.wf,AV.wfs,lm,lim] at hwf
 (repeat' ((conv=>whnf);first|refine gA ?_|(refine gB ?_ ?_<;>intro h)|(refine gI ?_;intro x hx)|(refine gJ ?_;intro j x hj hx)|refine gV ?_|intro _))<;>try (conv=>whnf)
 refine au [0] [] [] ?_
 (conv=>whnf)
 refine ak.go ((Nat)×(Int)) (fun⟨k,m⟩=>(k≤l.length)∧(m+aR Step.cnt (l.drop k)=n+aR Step.cnt l)∧(0≤m)) (fun⟨k,m⟩=>[(5,.data (i64 k)),(1,.data (i64 m))]) (fun _=>[]) (fun _=>[]) (fun⟨k,m⟩=>l.length - k) ⟨0,n⟩ ?_ ?_
 ·exact⟨Nat.zero_le _,rfl,hn.1⟩
 rintro⟨k,m⟩ ⟨hk,hm,h0⟩
 by_cases hlt:k < l.length
 ·obtain⟨x,hx⟩:∃x,l[k]? =some x:=⟨l[k]'hlt,by simp⟩
  have hd:=pV (f:=Step.cnt) hx
  have hp:=aT (f:=Step.cnt) (l:=l.drop (k+1)) (fun x _=>x.bH)
  have hx0:=x.bH
  have he:x.cnt=2:=rfl
  (repeat' ((conv=>whnf);first|with_reducible refine Idx.got hx rfl ?_|refine gA ?_|(refine gB ?_ ?_<;>intro h)|(refine gI ?_;intro x hx)|(refine gJ ?_;intro j x hj hx)|refine gV ?_|intro _))<;>try (conv=>whnf)
  ·apply Exists.intro (⟨k+1,_⟩)
   refine⟨?_,rfl,?_,?_⟩
   rotate_left
   ·(repeat' ((conv=>whnf)<;>(first|exact trivial|exact rfl|with_reducible refine And.intro ?_ ?_)))
   ·(try dsimp only);(try simp only [List.length_map]);omega
   exact⟨hlt,by omega,by omega⟩
  ·exfalso;omega
 ·(repeat' ((conv=>whnf);first|(exfalso;omega)|refine gA ?_|(refine gB ?_ ?_<;>intro h)|(refine gI ?_;intro x hx)|(refine gJ ?_;intro j x hj hx)|refine gV ?_|intro _))<;>try (conv=>whnf)
  refine⟨?_,rfl,trivial⟩
  rw [List.drop_eq_nil_of_le (by omega),aR] at hm
  rw [← hm];simp
abbrev Link.sh (x:Link):AV:=.agg [.any,.any,.any,.any]
abbrev Link.cnt (x:Link):Int:=4
theorem Link.bH (x:Link):0≤x.cnt:=by unfold Link.cnt;omega
theorem MH (l:List Link) (n:Int) (hn:0≤n∧n+aR Link.cnt l≤4611686018427387904):Con 61 [.old (.sl (l.map Link.sh)),.d (i64 n)] (.d (i64 (n+aR Link.cnt l))):=by
 refine con Tryz.func61 rfl rfl Tryz.call61 rfl fun hwf=>?_
 simp only [ARs.wf,AR.wf,AV.wf,AV.wfs,lm,lim] at hwf
 (repeat' ((conv=>whnf);first|refine gA ?_|(refine gB ?_ ?_<;>intro h)|(refine gI ?_;intro x hx)|(refine gJ ?_;intro j x hj hx)|refine gV ?_|intro _))<;>try (conv=>whnf)
 refine au [0] [] [] ?_
 (conv=>whnf)
 refine ak.go ((Nat)×(Int)) (fun⟨k,m⟩=>(k≤l.length)∧(m+aR Link.cnt (l.drop k)=n+aR Link.cnt l)∧(0≤m)) (fun⟨k,m⟩=>[(5,.data (i64 k)),(1,.data (i64 m))]) (fun _=>[]) (fun _=>[]) (fun⟨k,m⟩=>l.length - k) ⟨0,n⟩ ?_ ?_
 ·exact⟨Nat.zero_le _,rfl,hn.1⟩
 rintro⟨k,m⟩ ⟨hk,hm,h0⟩
 by_cases hlt:k < l.length
 ·obtain⟨x,hx⟩:∃x,l[k]? =some x:=⟨l[k]'hlt,by simp⟩
  have hd:=pV (f:=Link.cnt) hx
  have hp:=aT (f:=Link.cnt) (l:=l.drop (k+1)) (fun x _=>x.bH)
  have hx0:=x.bH
  have he:x.cnt=4:=rfl
  (repeat' ((conv=>whnf);first|with_reducible refine Idx.got hx rfl ?_|refine gA ?_|(refine gB ?_ ?_<;>intro h)|(refine gI ?_;intro x hx)|(refine gJ ?_;intro j x hj hx)|refine gV ?_|intro _))<;>try (conv=>whnf)
  ·apply Exists.intro (⟨k+1,_⟩)
   refine⟨?_,rfl,?_,?_⟩
   rotate_left
   ·(repeat' ((conv=>whnf)<;>(first|exact trivial|exact rfl|with_reducible refine And.intro ?_ ?_)))
   ·(try dsimp only);(try simp only [List.length_map]);omega
   exact⟨hlt,by omega,by omega⟩
  ·exfalso;omega
 ·(repeat' ((conv=>whnf);first|(exfalso;omega)|refine gA ?_|(refine gB ?_ ?_<;>intro h)|(refine gI ?_;intro x hx)|(refine gJ ?_;intro j x hj hx)|refine gV ?_|intro _))<;>try (conv=>whnf)
  refine⟨?_,rfl,trivial⟩
  rw [List.drop_eq_nil_of_le (by omega),aR] at hm
  rw [← hm];simp
abbrev Lit.sh (x:Lit):AV:=.agg [.any,.any,.any]
abbrev Lit.cnt (x:Lit):Int:=3
theorem Lit.bH (x:Lit):0≤x.cnt:=by unfold Lit.cnt;omega
theorem vC (l:List Lit) (n:Int) (hn:0≤n∧n+aR Lit.cnt l≤4611686018427387904):Con 94 [.old (.sl (l.map Lit.sh)),.d (i64 n)] (.d (i64 (n+aR Lit.cnt l))):=by
 refine con Tryz.func94 rfl rfl Tryz.call94 rfl fun hwf=>?_
 simp only [ARs.wf,AR.wf,AV.wf,AV.wfs,lm,lim] at hwf
 (repeat' ((conv=>whnf);first|refine gA ?_|(refine gB ?_ ?_<;>intro h)|(refine gI ?_;intro x hx)|(refine gJ ?_;intro j x hj hx)|refine gV ?_|intro _))<;>try (conv=>whnf)
 refine au [0] [] [] ?_
 (conv=>whnf)
 refine ak.go ((Nat)×(Int)) (fun⟨k,m⟩=>(k≤l.length)∧(m+aR Lit.cnt (l.drop k)=n+aR Lit.cnt l)∧(0≤m)) (fun⟨k,m⟩=>[(5,.data (i64 k)),(1,.data (i64 m))]) (fun _=>[]) (fun _=>[]) (fun⟨k,m⟩=>l.length - k) ⟨0,n⟩ ?_ ?_
 ·exact⟨Nat.zero_le _,rfl,hn.1⟩
 rintro⟨k,m⟩ ⟨hk,hm,h0⟩
 by_cases hlt:k < l.length
 ·obtain⟨x,hx⟩:∃x,l[k]? =some x:=⟨l[k]'hlt,by simp⟩
  have hd:=pV (f:=Lit.cnt) hx
  have hp:=aT (f:=Lit.cnt) (l:=l.drop (k+1)) (fun x _=>x.bH)
  have hx0:=x.bH
  have he:x.cnt=3:=rfl
  (repeat' ((conv=>whnf);first|with_reducible refine Idx.got hx rfl ?_|refine gA ?_|(refine gB ?_ ?_<;>intro h)|(refine gI ?_;intro x hx)|(refine gJ ?_;intro j x hj hx)|refine gV ?_|intro _))<;>try (conv=>whnf)
  ·apply Exists.intro (⟨k+1,_⟩)
   refine⟨?_,rfl,?_,?_⟩
   rotate_left
   ·(repeat' ((conv=>whnf)<;>(first|exact trivial|exact rfl|with_reducible refine And.intro ?_ ?_)))
   ·(try dsimp only);(try simp only [List.length_map]);omega
   exact⟨hlt,by omega,by omega⟩
  ·exfalso;omega
 ·(repeat' ((conv=>whnf);first|(exfalso;omega)|refine gA ?_|(refine gB ?_ ?_<;>intro h)|(refine gI ?_;intro x hx)|(refine gJ ?_;intro j x hj hx)|refine gV ?_|intro _))<;>try (conv=>whnf)
  refine⟨?_,rfl,trivial⟩
  rw [List.drop_eq_nil_of_le (by omega),aR] at hm
  rw [← hm];simp
abbrev Mode.sh (x:Mode):AV:=.agg [.any,shI x.use,shI x.con]
abbrev Mode.cnt (x:Mode):Int:=1+x.use.length+x.con.length
theorem Mode.bH (x:Mode):0≤x.cnt:=by unfold Mode.cnt;omega
theorem Ap (l:List Mode) (n:Int) (hn:0≤n∧n+aR Mode.cnt l≤4611686018427387904):Con 135 [.old (.sl (l.map Mode.sh)),.d (i64 n)] (.d (i64 (n+aR Mode.cnt l))):=by
 refine con Tryz.func135 rfl rfl Tryz.call135 rfl fun hwf=>?_
 simp only [ARs.wf,AR.wf,AV.wf,AV.wfs,lm,lim] at hwf
 (repeat' ((conv=>whnf);first|refine gA ?_|(refine gB ?_ ?_<;>intro h)|(refine gI ?_;intro x hx)|(refine gJ ?_;intro j x hj hx)|refine gV ?_|intro _))<;>try (conv=>whnf)
 refine au [0] [] [] ?_
 (conv=>whnf)
 refine ak.go ((Nat)×(Int)) (fun⟨k,m⟩=>(k≤l.length)∧(m+aR Mode.cnt (l.drop k)=n+aR Mode.cnt l)∧(0≤m)) (fun⟨k,m⟩=>[(5,.data (i64 k)),(1,.data (i64 m))]) (fun _=>[]) (fun _=>[]) (fun⟨k,m⟩=>l.length - k) ⟨0,n⟩ ?_ ?_
 ·exact⟨Nat.zero_le _,rfl,hn.1⟩
 rintro⟨k,m⟩ ⟨hk,hm,h0⟩
 by_cases hlt:k < l.length
 ·obtain⟨x,hx⟩:∃x,l[k]? =some x:=⟨l[k]'hlt,by simp⟩
  have hd:=pV (f:=Mode.cnt) hx
  have hp:=aT (f:=Mode.cnt) (l:=l.drop (k+1)) (fun x _=>x.bH)
  have hx0:=x.bH
  have he:x.cnt=1+x.use.length+x.con.length:=rfl
  (repeat' ((conv=>whnf);first|with_reducible refine Idx.got hx rfl ?_|refine gA ?_|(refine gB ?_ ?_<;>intro h)|(refine gI ?_;intro x hx)|(refine gJ ?_;intro j x hj hx)|refine gV ?_|refine gC (lD x.use (m+1) (by omega)) ?_|refine gC (lD x.con (m+1+x.use.length) (by omega)) ?_|intro _))<;>try (conv=>whnf)
  ·apply Exists.intro (⟨k+1,_⟩)
   refine⟨?_,rfl,?_,?_⟩
   rotate_left
   ·(repeat' ((conv=>whnf)<;>(first|exact trivial|exact rfl|with_reducible refine And.intro ?_ ?_)))
   ·(try dsimp only);(try simp only [List.length_map]);omega
   exact⟨hlt,by omega,by omega⟩
  ·exfalso;omega
 ·(repeat' ((conv=>whnf);first|(exfalso;omega)|refine gA ?_|(refine gB ?_ ?_<;>intro h)|(refine gI ?_;intro x hx)|(refine gJ ?_;intro j x hj hx)|refine gV ?_|intro _))<;>try (conv=>whnf)
  refine⟨?_,rfl,trivial⟩
  rw [List.drop_eq_nil_of_le (by omega),aR] at hm
  rw [← hm];simp
abbrev aL.sh (x:aL):AV:=.agg [.sl (x.steps.map Step.sh),.sl (x.setup.map shI)]
abbrev aL.cnt (x:aL):Int:=aR Step.cnt x.steps+aR (fun x=>(x.length:Int)) x.setup
theorem aL.bH (x:aL):0≤x.cnt:=by have h1:=aT (f:=Step.cnt) (l:=x.steps) (fun x _=>x.bH);have h2:=aT (f:=fun x:List Int=>(x.length:Int)) (l:=x.setup) (fun x _=>by omega);unfold aL.cnt;omega
theorem Du (l:List aL) (n:Int) (hn:0≤n∧n+aR aL.cnt l≤4611686018427387904):Con 62 [.old (.sl (l.map aL.sh)),.d (i64 n)] (.d (i64 (n+aR aL.cnt l))):=by
 refine con Tryz.func62 rfl rfl Tryz.call62 rfl fun hwf=>?_
 simp only [ARs.wf,AR.wf,AV.wf,AV.wfs,lm,lim] at hwf
 (repeat' ((conv=>whnf);first|refine gA ?_|(refine gB ?_ ?_<;>intro h)|(refine gI ?_;intro x hx)|(refine gJ ?_;intro j x hj hx)|refine gV ?_|intro _))<;>try (conv=>whnf)
 refine au [0] [] [] ?_
 (conv=>whnf)
 refine ak.go ((Nat)×(Int)) (fun⟨k,m⟩=>(k≤l.length)∧(m+aR aL.cnt (l.drop k)=n+aR aL.cnt l)∧(0≤m)) (fun⟨k,m⟩=>[(5,.data (i64 k)),(1,.data (i64 m))]) (fun _=>[]) (fun _=>[]) (fun⟨k,m⟩=>l.length - k) ⟨0,n⟩ ?_ ?_
 ·exact⟨Nat.zero_le _,rfl,hn.1⟩
 rintro⟨k,m⟩ ⟨hk,hm,h0⟩
 by_cases hlt:k < l.length
 ·obtain⟨x,hx⟩:∃x,l[k]? =some x:=⟨l[k]'hlt,by simp⟩
  have hd:=pV (f:=aL.cnt) hx
  have hp:=aT (f:=aL.cnt) (l:=l.drop (k+1)) (fun x _=>x.bH)
  have hx0:=x.bH
  have h1:=aT (f:=Step.cnt) (l:=x.steps) (fun x _=>x.bH)
  have h2:=aT (f:=fun x:List Int=>(x.length:Int)) (l:=x.setup) (fun x _=>by omega)
  have he:x.cnt=aR Step.cnt x.steps+aR (fun x=>(x.length:Int)) x.setup:=rfl
  (repeat' ((conv=>whnf);first|with_reducible refine Idx.got hx rfl ?_|refine gA ?_|(refine gB ?_ ?_<;>intro h)|(refine gI ?_;intro x hx)|(refine gJ ?_;intro j x hj hx)|refine gV ?_|refine gC (MG x.steps m (by omega)) ?_|refine gC (Ao x.setup (m+aR Step.cnt x.steps) (by omega)) ?_|intro _))<;>try (conv=>whnf)
  ·apply Exists.intro (⟨k+1,_⟩)
   refine⟨?_,rfl,?_,?_⟩
   rotate_left
   ·(repeat' ((conv=>whnf)<;>(first|exact trivial|exact rfl|with_reducible refine And.intro ?_ ?_)))
   ·(try dsimp only);(try simp only [List.length_map]);omega
   exact⟨hlt,by omega,by omega⟩
  ·exfalso;omega
 ·(repeat' ((conv=>whnf);first|(exfalso;omega)|refine gA ?_|(refine gB ?_ ?_<;>intro h)|(refine gI ?_;intro x hx)|(refine gJ ?_;intro j x hj hx)|refine gV ?_|intro _))<;>try (conv=>whnf)
  refine⟨?_,rfl,trivial⟩
  rw [List.drop_eq_nil_of_le (by omega),aR] at hm
  rw [← hm];simp
abbrev aC.sh (x:aC):AV:=.agg [.any,.any,.sl (x.modes.map Mode.sh)]
abbrev aC.cnt (x:aC):Int:=2+aR Mode.cnt x.modes
theorem aC.bH (x:aC):0≤x.cnt:=by have h1:=aT (f:=Mode.cnt) (l:=x.modes) (fun x _=>x.bH);unfold aC.cnt;omega
theorem Dv (l:List aC) (n:Int) (hn:0≤n∧n+aR aC.cnt l≤4611686018427387904):Con 60 [.old (.sl (l.map aC.sh)),.d (i64 n)] (.d (i64 (n+aR aC.cnt l))):=by
 refine con Tryz.func60 rfl rfl Tryz.call60 rfl fun hwf=>?_
 simp only [ARs.wf,AR.wf,AV.wf,AV.wfs,lm,lim] at hwf
 (repeat' ((conv=>whnf);first|refine gA ?_|(refine gB ?_ ?_<;>intro h)|(refine gI ?_;intro x hx)|(refine gJ ?_;intro j x hj hx)|refine gV ?_|intro _))<;>try (conv=>whnf)
 refine au [0] [] [] ?_
 (conv=>whnf)
 refine ak.go ((Nat)×(Int)) (fun⟨k,m⟩=>(k≤l.length)∧(m+aR aC.cnt (l.drop k)=n+aR aC.cnt l)∧(0≤m)) (fun⟨k,m⟩=>[(5,.data (i64 k)),(1,.data (i64 m))]) (fun _=>[]) (fun _=>[]) (fun⟨k,m⟩=>l.length - k) ⟨0,n⟩ ?_ ?_
 ·exact⟨Nat.zero_le _,rfl,hn.1⟩
 rintro⟨k,m⟩ ⟨hk,hm,h0⟩
 by_cases hlt:k < l.length
 ·obtain⟨x,hx⟩:∃x,l[k]? =some x:=⟨l[k]'hlt,by simp⟩
  have hd:=pV (f:=aC.cnt) hx
  have hp:=aT (f:=aC.cnt) (l:=l.drop (k+1)) (fun x _=>x.bH)
  have hx0:=x.bH
  have h1:=aT (f:=Mode.cnt) (l:=x.modes) (fun x _=>x.bH)
  have he:x.cnt=2+aR Mode.cnt x.modes:=rfl
  (repeat' ((conv=>whnf);first|with_reducible refine Idx.got hx rfl ?_|refine gA ?_|(refine gB ?_ ?_<;>intro h)|(refine gI ?_;intro x hx)|(refine gJ ?_;intro j x hj hx)|refine gV ?_|refine gC (NT m (by omega)) ?_|refine gC (Ap x.modes (m+2) (by omega)) ?_|refine gC (Ap x.modes (m+1+1) (by omega)) ?_|intro _))<;>try (conv=>whnf)
  ·apply Exists.intro (⟨k+1,_⟩)
   refine⟨?_,rfl,?_,?_⟩
   rotate_left
   ·(repeat' ((conv=>whnf)<;>(first|exact trivial|exact rfl|with_reducible refine And.intro ?_ ?_)))
   ·(try dsimp only);(try simp only [List.length_map]);omega
   exact⟨hlt,by omega,by omega⟩
  ·exfalso;omega
 ·(repeat' ((conv=>whnf);first|(exfalso;omega)|refine gA ?_|(refine gB ?_ ?_<;>intro h)|(refine gI ?_;intro x hx)|(refine gJ ?_;intro j x hj hx)|refine gV ?_|intro _))<;>try (conv=>whnf)
  refine⟨?_,rfl,trivial⟩
  rw [List.drop_eq_nil_of_le (by omega),aR] at hm
  rw [← hm];simp
abbrev Lin.sh (x:Lin):AV:=.agg [.any,.any,.any,.any,.any,.sl (x.clause.map Lit.sh)]
abbrev Lin.cnt (x:Lin):Int:=5+aR Lit.cnt x.clause
theorem Lin.bH (x:Lin):0≤x.cnt:=by have h1:=aT (f:=Lit.cnt) (l:=x.clause) (fun x _=>x.bH);unfold Lin.cnt;omega
theorem MI (l:List Lin) (n:Int) (hn:0≤n∧n+aR Lin.cnt l≤4611686018427387904):Con 95 [.old (.sl (l.map Lin.sh)),.d (i64 n)] (.d (i64 (n+aR Lin.cnt l))):=by
 refine con Tryz.func95 rfl rfl Tryz.call95 rfl fun hwf=>?_
 simp only [ARs.wf,AR.wf,AV.wf,AV.wfs,lm,lim] at hwf
 (repeat' ((conv=>whnf);first|refine gA ?_|(refine gB ?_ ?_<;>intro h)|(refine gI ?_;intro x hx)|(refine gJ ?_;intro j x hj hx)|refine gV ?_|intro _))<;>try (conv=>whnf)
 refine au [0] [] [] ?_
 (conv=>whnf)
 refine ak.go ((Nat)×(Int)) (fun⟨k,m⟩=>(k≤l.length)∧(m+aR Lin.cnt (l.drop k)=n+aR Lin.cnt l)∧(0≤m)) (fun⟨k,m⟩=>[(5,.data (i64 k)),(1,.data (i64 m))]) (fun _=>[]) (fun _=>[]) (fun⟨k,m⟩=>l.length - k) ⟨0,n⟩ ?_ ?_
 ·exact⟨Nat.zero_le _,rfl,hn.1⟩
 rintro⟨k,m⟩ ⟨hk,hm,h0⟩
 by_cases hlt:k < l.length
 ·obtain⟨x,hx⟩:∃x,l[k]? =some x:=⟨l[k]'hlt,by simp⟩
  have hd:=pV (f:=Lin.cnt) hx
  have hp:=aT (f:=Lin.cnt) (l:=l.drop (k+1)) (fun x _=>x.bH)
  have hx0:=x.bH
  have h1:=aT (f:=Lit.cnt) (l:=x.clause) (fun x _=>x.bH)
  have he:x.cnt=5+aR Lit.cnt x.clause:=rfl
  (repeat' ((conv=>whnf);first|with_reducible refine Idx.got hx rfl ?_|refine gA ?_|(refine gB ?_ ?_<;>intro h)|(refine gI ?_;intro x hx)|(refine gJ ?_;intro j x hj hx)|refine gV ?_|refine gC (vC x.clause (m+1+1+1+1+1) (by omega)) ?_|intro _))<;>try (conv=>whnf)
  ·apply Exists.intro (⟨k+1,_⟩)
   refine⟨?_,rfl,?_,?_⟩
   rotate_left
   ·(repeat' ((conv=>whnf)<;>(first|exact trivial|exact rfl|with_reducible refine And.intro ?_ ?_)))
   ·(try dsimp only);(try simp only [List.length_map]);omega
   exact⟨hlt,by omega,by omega⟩
  ·exfalso;omega
 ·(repeat' ((conv=>whnf);first|(exfalso;omega)|refine gA ?_|(refine gB ?_ ?_<;>intro h)|(refine gI ?_;intro x hx)|(refine gJ ?_;intro j x hj hx)|refine gV ?_|intro _))<;>try (conv=>whnf)
  refine⟨?_,rfl,trivial⟩
  rw [List.drop_eq_nil_of_le (by omega),aR] at hm
  rw [← hm];simp
abbrev Proj.sh (x:Proj):AV:=.agg [.any,.sl (x.acts.map aC.sh),.sl (x.links.map Link.sh),.sl (x.aU.map aL.sh),shI x.aO]
abbrev Proj.cnt (x:Proj):Int:=aR aC.cnt x.acts+aR Link.cnt x.links+aR aL.cnt x.aU+x.aO.length
theorem Proj.bH (x:Proj):0≤x.cnt:=by
 have h1:=aT (f:=aC.cnt) (l:=x.acts) (fun x _=>x.bH)
 have h2:=aT (f:=Link.cnt) (l:=x.links) (fun x _=>x.bH)
 have h3:=aT (f:=aL.cnt) (l:=x.aU) (fun x _=>x.bH)
 unfold Proj.cnt;omega
theorem Hr (x:Proj) (n:Int) (hn:0≤n∧n+x.cnt≤4611686018427387904):Con 16 [.old x.sh,.d (i64 n)] (.d (i64 (n+x.cnt))):=by
 refine con Tryz.func16 rfl rfl Tryz.call16 rfl fun hwf=>?_
 have h1:=aT (f:=aC.cnt) (l:=x.acts) (fun x _=>x.bH)
 have h2:=aT (f:=Link.cnt) (l:=x.links) (fun x _=>x.bH)
 have h3:=aT (f:=aL.cnt) (l:=x.aU) (fun x _=>x.bH)
 have he:x.cnt=aR aC.cnt x.acts+aR Link.cnt x.links+aR aL.cnt x.aU+x.aO.length:=rfl
 (repeat' ((conv=>whnf);first|refine gA ?_|(refine gB ?_ ?_<;>intro h)|refine gC (Dv x.acts n (by omega)) ?_|refine gC (MH x.links _ (by omega)) ?_|refine gC (Du x.aU _ (by omega)) ?_|refine gC (lD x.aO _ (by omega)) ?_|intro _))<;>try (conv=>whnf)
 refine⟨?_,rfl,trivial⟩
 exact congrArg (AV.int .i64) (by omega)
abbrev Dom.sh (x:Dom):AV:=.agg [shI x.lo,shI x.hi,.sl (x.modes.map shI)]
abbrev Dom.cnt (x:Dom):Int:=x.lo.length+x.hi.length+aR (fun x=>(x.length:Int)) x.modes
theorem JA (x:Dom) (n:Int) (hn:0≤n∧n+x.cnt≤4611686018427387904):Con 93 [.old x.sh,.d (i64 n)] (.d (i64 (n+x.cnt))):=by
 refine con Tryz.func93 rfl rfl Tryz.call93 rfl fun hwf=>?_
 have h3:=aT (f:=fun x:List Int=>(x.length:Int)) (l:=x.modes) (fun x _=>by omega)
 have he:x.cnt=x.lo.length+x.hi.length+aR (fun x=>(x.length:Int)) x.modes:=rfl
 (repeat' ((conv=>whnf);first|refine gA ?_|(refine gB ?_ ?_<;>intro h)|refine gC (lD x.lo n (by omega)) ?_|refine gC (lD x.hi _ (by omega)) ?_|refine gC (Ao x.modes _ (by omega)) ?_|intro _))<;>try (conv=>whnf)
 refine⟨?_,rfl,trivial⟩
 exact congrArg (AV.int .i64) (by omega)
abbrev DU.sh (x:DU):AV:=.agg [shI x.starts,shI x.modes]
abbrev DU.cnt (x:DU):Int:=x.starts.length+x.modes.length
theorem yE (l:List Int):(ints l).shape=shI l:=by simp [AV.shape,tL,shI]
theorem gL {α:Type} {f g:α→AV} (h:∀x,(f x).shape=g x) (l:List α):(AV.sl (l.map f)).shape= .sl (l.map g):=by
 simp only [AV.shape,tL];congr 1;exact List.map_congr_left fun x _=>h x
theorem Step.gL (x:Step):x.av.shape=x.sh:=rfl
theorem Link.gL (x:Link):x.av.shape=x.sh:=rfl
theorem Lit.gL (x:Lit):x.av.shape=x.sh:=rfl
theorem Mode.gL (x:Mode):x.av.shape=x.sh:=by simp [AV.shape,AV.shapes,tL]
theorem aC.gL (x:aC):x.av.shape=x.sh:=by
 simp only [AV.shape,AV.shapes];rw [show AV.sl (AV.shapes (x.modes.map Mode.av))= .sl (x.modes.map Mode.sh) from Abs.gL Mode.gL x.modes]
theorem aL.gL (x:aL):x.av.shape=x.sh:=by
 simp only [AV.shape,AV.shapes]
 rw [show AV.sl (AV.shapes (x.steps.map Step.av))= .sl (x.steps.map Step.sh) from Abs.gL Step.gL x.steps,show AV.sl (AV.shapes (x.setup.map ints))= .sl (x.setup.map shI) from Abs.gL yE x.setup]
theorem Lin.gL (x:Lin):x.av.shape=x.sh:=by
 simp only [AV.shape,AV.shapes];rw [show AV.sl (AV.shapes (x.clause.map Lit.av))= .sl (x.clause.map Lit.sh) from Abs.gL Lit.gL x.clause]
theorem Proj.gL (x:Proj):x.av.shape=x.sh:=by
 simp only [AV.shape,AV.shapes]
 rw [show AV.sl (AV.shapes (x.acts.map aC.av))= .sl (x.acts.map aC.sh) from Abs.gL aC.gL x.acts,show AV.sl (AV.shapes (x.links.map Link.av))= .sl (x.links.map Link.sh) from Abs.gL Link.gL x.links,
  show AV.sl (AV.shapes (x.aU.map aL.av))= .sl (x.aU.map aL.sh) from Abs.gL aL.gL x.aU,show AV.sl (AV.shapes (x.aO.map i64))=shI x.aO from yE x.aO]
theorem Dom.gL (x:Dom):x.av.shape=x.sh:=by
 simp only [AV.shape,AV.shapes]
 rw [show AV.sl (AV.shapes (x.lo.map i64))=shI x.lo from yE x.lo,show AV.sl (AV.shapes (x.hi.map i64))=shI x.hi from yE x.hi,show AV.sl (AV.shapes (x.modes.map ints))= .sl (x.modes.map shI) from Abs.gL yE x.modes]
theorem DU.gL (x:DU):x.av.shape=x.sh:=by simp [AV.shape,AV.shapes,tL]
end Go.Proofs.YtglikcnmgnlejaaGreat.Abs
namespace Go.Proofs.YtglikcnmgnlejaaGreat.Abs
open Go.Proofs
theorem kR {r:Int} {f:Int→Int} (h:0≤szB r f):0≤r∧szB r f=f r:=by
 unfold szB at*;split at h
 ·omega
 ·rename_i h0;exact⟨by omega,if_neg h0⟩
theorem rU {c:Nat} {n:Int} (h:0≤szN c n):szN c n=n - c:=by
 unfold szN at*;split at h
 ·omega
 ·rename_i h0;exact if_neg h0
theorem aal {α:Type} {f:α→Int→Int} {c:α→Int} (hf:∀x n,0≤f x n→c x≤5+5*(n - f x n)∧f x n≤n):∀(l:List α) (n:Int),0≤szL f l n→aR c l≤5*l.length+5*(n - szL f l n)∧szL f l n≤n
 |[],n,_=>by simp [aR,szL]
 |x::l,n,h=>by
  simp only [szL] at h ⊢
  obtain⟨h1,h2⟩:=kR h
  rw [h2] at h ⊢
  obtain⟨h3,h4⟩:=hf x n h1
  obtain⟨h5,h6⟩:=aal hf l (f x n) h
  simp only [aR,List.length_cons]
  push_cast
  omega
theorem Ht {α:Type} {f:α→Int→Int} {c:α→Int} (hf:∀x n,0≤f x n→c x≤5+5*(n - f x n)∧f x n≤n) {l:List α} {n:Int} (h:0≤szS f l n):aR c l≤5*(n - szS f l n)∧szS f l n≤n:=by
 unfold szS at h ⊢
 obtain⟨h1,h2⟩:=kR h
 rw [h2] at h ⊢
 have:=rU h1
 obtain⟨h5,h6⟩:=aal hf l _ h
 omega
theorem Bc {α:Type} {k:Int}:∀(l:List α),aR (fun _=>k) l=k*l.length
 |[]=>by simp [aR]
 |x::l=>by simp only [aR,Bc l,List.length_cons];push_cast;rw [Int.mul_add];omega
theorem uE (l:List Lit):aR Lit.cnt l=3*l.length:=Bc l
theorem Pq (l:List Step):aR Step.cnt l=2*l.length:=Bc l
theorem Yz (l:List Link):aR Link.cnt l=4*l.length:=Bc l
theorem aam (x:Mode) (n:Int) (h:0≤qG x n):x.cnt≤5+5*(n - qG x n)∧qG x n≤n:=by
 unfold qG at h ⊢
 obtain⟨h1,e1⟩:=kR h;rw [e1] at h ⊢;(try dsimp only at h ⊢)
 obtain⟨h2,e2⟩:=kR h;rw [e2] at h ⊢;(try dsimp only at h ⊢)
 have:=rU h1;have:=rU h2
 unfold Mode.cnt;omega
theorem RI (x:aC) (n:Int) (h:0≤bT x n):x.cnt≤5+5*(n - bT x n)∧bT x n≤n:=by
 unfold bT at h ⊢
 obtain⟨h1,e1⟩:=kR h;rw [e1] at h ⊢;(try dsimp only at h ⊢)
 obtain⟨h2,e2⟩:=kR h;rw [e2] at h ⊢;(try dsimp only at h ⊢)
 have:=rU h1;have:=Ht (f:=fun x n=>qG x n) (c:=Mode.cnt) aam h2
 unfold aC.cnt;omega
theorem Xy (x:List Int) (n:Int) (h:0≤szN x.length n):(x.length:Int)≤5+5*(n - szN x.length n)∧szN x.length n≤n:=by have:=rU h;omega
theorem RJ (x:aL) (n:Int) (h:0≤eF x n):x.cnt≤5+5*(n - eF x n)∧eF x n≤n:=by
 unfold eF at h ⊢
 obtain⟨h1,e1⟩:=kR h;rw [e1] at h ⊢;(try dsimp only at h ⊢)
 obtain⟨h2,e2⟩:=kR h;rw [e2] at h ⊢;(try dsimp only at h ⊢)
 have:=rU h1;have:=Ht (f:=fun (x:List Int) n=>szN x.length n) (c:=fun x:List Int=>(x.length:Int)) Xy h2
 have:=Pq x.steps
 unfold aL.cnt;omega
theorem UH (x:Proj) (n:Int) (h:0≤jC x n):x.cnt≤5*(n - jC x n)∧jC x n≤n:=by
 unfold jC at h ⊢
 obtain⟨h1,e1⟩:=kR h;rw [e1] at h ⊢;(try dsimp only at h ⊢)
 obtain⟨h2,e2⟩:=kR h;rw [e2] at h ⊢;(try dsimp only at h ⊢)
 obtain⟨h3,e3⟩:=kR h;rw [e3] at h ⊢;(try dsimp only at h ⊢)
 obtain⟨h4,e4⟩:=kR h;rw [e4] at h ⊢;(try dsimp only at h ⊢)
 have:=Ht (f:=fun x n=>bT x n) (c:=aC.cnt) RI h1;have:=rU h2;have:=Ht (f:=fun x n=>eF x n) (c:=aL.cnt) RJ h3;have:=rU h4
 have:=Yz x.links
 unfold Proj.cnt;omega
theorem Wp(x:Dom) (n:Int) (h:0≤mG x n):x.cnt≤5*(n - mG x n)∧mG x n≤n:=by
 unfold mG at h ⊢
 obtain⟨h1,e1⟩:=kR h;rw [e1] at h ⊢;(try dsimp only at h ⊢)
 obtain⟨h2,e2⟩:=kR h;rw [e2] at h ⊢;(try dsimp only at h ⊢)
 obtain⟨h3,e3⟩:=kR h;rw [e3] at h ⊢;(try dsimp only at h ⊢)
 have:=rU h1;have:=rU h2;have:=Ht (f:=fun (x:List Int) n=>szN x.length n) (c:=fun x:List Int=>(x.length:Int)) Xy h3
 unfold Dom.cnt;omega
theorem mdS {α:Type} {f:α→AV} (h:∀x,(f x).md false=true) (l:List α):(AV.sl (l.map f)).md false=true:=by simp only [AV.md];exact Xe h l
theorem ade (n:Int):(i64 n).md false=true:=rfl
theorem yF (l:List Int):(ints l).md false=true:=mdS ade l
theorem adf (x:Lit):x.av.md false=true:=rfl
theorem abk (x:Step):x.av.md false=true:=rfl
theorem abl (x:Link):x.av.md false=true:=rfl
theorem Xz (l:List Lit):(lits l).md false=true:=mdS adf l
theorem gT {a b:Bool} (h:a=true) (k:b=true):(a&&b)=true:=by rw [h,k];rfl
theorem abm (x:Mode):x.av.md false=true:=by simp only [AV.md,AV.mds];exact gT rfl (gT (yF x.use) (gT (yF x.con) rfl))
theorem aan (x:aC):x.av.md false=true:=by simp only [AV.md,AV.mds];exact gT rfl (gT rfl (gT (mdS abm x.modes) rfl))
theorem aao (x:aL):x.av.md false=true:=by simp only [AV.md,AV.mds];exact gT (mdS abk x.steps) (gT (mdS yF x.setup) rfl)
theorem adg (x:Lin):x.av.md false=true:=by simp only [AV.md,AV.mds];exact gT rfl (gT rfl (gT rfl (gT rfl (gT rfl (gT (Xz x.clause) rfl)))))
end Go.Proofs.YtglikcnmgnlejaaGreat.Abs
namespace Go.Proofs.YtglikcnmgnlejaaGreat.Abs
open Go.Proofs
theorem aap(x:Lin) (n:Int) (h:0≤qH x n):x.cnt≤5+5*(n - qH x n)∧qH x n≤n:=by
 unfold qH at h ⊢
 obtain⟨h1,e1⟩:=kR h;rw [e1] at h ⊢;(try dsimp only at h ⊢)
 have:=rU h1
 have:=uE x.clause
 unfold Lin.cnt;omega
end Go.Proofs.YtglikcnmgnlejaaGreat.Abs
