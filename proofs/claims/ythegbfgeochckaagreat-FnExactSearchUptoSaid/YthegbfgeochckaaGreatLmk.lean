/- Part of a proof. -/
import Derived.WalkKit
import Derived.Deep.LoopGhost
import Derived.Lib.Hide
import Derived.Laws.BytesArg
import Derived.Test.YthegbfgeochckaaGreatProg
import Derived.Test.YthegbfgeochckaaGreatLayB
import Derived.Test.YthegbfgeochckaaGreatC1
import Derived.Test.YthegbfgeochckaaGreatPlain
import Derived.Test.YthegbfgeochckaaGreatLh
set_option linter.all false
set_option maxRecDepth 100000
set_option maxHeartbeats 4000000
namespace Go.Proofs.YthegbfgeochckaaGreat.Abs
open Go.Proofs Go.RowKit
def afc (w:World) (e:Ending) (w':World):Prop:=∃b,e= .returned (.string b)/\Quiet w w'
theorem Yj {n:Int} {g:Nat} (h:n < 2 ^ (g+1)):n / 10 < 2 ^ g:=by
 have:(2:Int) ^ (g+1)=2*2 ^ g:=by rw [Int.pow_succ];omega
 have h0:(0:Int) < 2 ^ g:=Int.pow_pos (by decide)
 omega
theorem Yk (k:Int) (hk:0<=k/\k<=4611686018427387904) (w:World):Calls Tryz.prog 182 #[.int .i64 k] w (afc w):=by
 by_cases h0:k<=0
 ·go_enter Tryz.func182,Tryz.ntmps182
  go_wp2
  go_ret
  exact⟨_,rfl,Quiet.refl _⟩
 ·go_enter Tryz.func182,Tryz.ntmps182
  go_wp2
  go_loopg [0,3] 63 (fun g s0 s3 wr=>∃(n:Int) (s:ByteArray),s0= .int .i64 n/\s3= .string s/\0<=n/\n<=4611686018427387904/\n < 2 ^ g/\s.size+g<=63/\Aside (Quiet w wr))
  case atStart=>exact⟨k,⟨#[]⟩,rfl,rfl,by omega,by omega,by omega,by decide,Quiet.refl _⟩
  case round=>
   obtain⟨n,s,rfl,rfl,h1,hm,h2,h3,hb⟩:=hrel
   by_cases hlt:0 < n
   ·have hg:1<=gk:=by
     rcases Nat.eq_zero_or_pos gk with rfl|h
     ·simp at h2;omega
     ·exact h
    obtain⟨d,hd⟩:∃d,Hid (strOfNums [48+n % 10]=d):=⟨_,rfl⟩
    have hcv:∀T:TypeId,(convert 265 9 (.slice (some ⟨wr.heap.size,0,none⟩) 1 1)).run Tryz.prog (wr.alloc (.cells #[.int .u8 (48+n % 10)] T))= .ok (.string d) (wr.alloc (.cells #[.int .u8 (48+n % 10)] T)):=fun T=>by
     rw [<- hd.out]
     exact run_convert_bytes_arg _ 265 5 Tryz.underlying265 Tryz.underlying5 _ 0 1 1 [48+n % 10] rfl (fun i hi=>by
      obtain rfl:i=0:=by omega
      simp) 9 Tryz.underlying9
    have h4:s.size<=63:=by omega
    have h5:d.size<=1:=by rw [<- hd.out,strOfNums_size];simp
    obtain⟨g,rfl⟩:∃g,gk=g+1:=⟨gk - 1,by omega⟩
    have H2:=Lib.hid (Yj h2)
    clear h2
    go_wp2
    ·go_roundg g
     case measure=>omega
     case rel=>exact⟨n / 10,d++s,by go_num,rfl,by omega,by omega,H2.out,by rw [ByteArray.size_append];omega,(show Aside _ from (Quiet.Nu hb.out _))⟩
   ·have h4:s.size<=63:=by omega
    clear h2 hm
    go_wp2
    ·go_ret
     exact⟨_,rfl,hb.out⟩
theorem Rp (k:Int) (hk:0<=k/\k<=4611686018427387904):Con 182 [.d (i64 k)] (.d .any):=
 UE Tryz.call182 fun w=>Yk k hk w
set_option maxRecDepth 20000
set_option maxHeartbeats 0
open Go.Proofs
abbrev shI (l:List Int):AV:=.sl (l.map fun _=>.any)
def aU {α:Type} (f:α->Int):List α->Int
 |[]=>0
 |x::l=>f x+aU f l
theorem rZ {α:Type} {f:α->Int}:∀{l:List α} {k:Nat} {x:α},l[k]? =some x->aU f (l.drop k)=f x+aU f (l.drop (k+1))
 |[],_,_,h=>by simp at h
 |y::l,0,x,h=>by simp at h;subst h;simp [aU]
 |y::l,k+1,x,h=>by simpa using rZ (l:=l) (by simpa using h)
theorem aX {α:Type} {f:α->Int}:∀{l:List α},(∀x∈l,0<=f x)->0<=aU f l
 |[],_=>by simp [aU]
 |x::l,h=>by
  have:=h x (by simp)
  have:=aX (l:=l) (fun y hy=>h y (by simp [hy]))
  simp only [aU];omega
theorem nL (l:List Int) (n:Int) (hn:0<=n/\n+l.length<=4611686018427387904):Con 104 [.old (shI l),.d (i64 n)] (.d (i64 (n+l.length))):=by
 refine con Tryz.func104 rfl rfl Tryz.call104 rfl fun hwf=>?_
 try (conv=>whnf)
 refine ay [0] [] [] ?_
 (conv=>whnf)
 refine au.go ((Nat)×(Int)) (fun⟨k,m⟩=>(k<=l.length)/\(m=n+k)) (fun⟨k,m⟩=>[(5,.data (i64 k)),(1,.data (i64 m))]) lE lE (fun⟨k,m⟩=>l.length - k) ⟨0,n⟩ ?_ ?_
 ·exact⟨Nat.zero_le _,by simp⟩
 rintro⟨k,m⟩ ⟨hk,hm⟩
 (repeat' ((conv=>whnf);first|refine gA ?_|(refine gB ?_ ?_<;>intro h)|(refine gI ?_;intro x hx)))
 ·apply Exists.intro (⟨k+1,_⟩)
  refine⟨?_,rfl,?_,?_⟩
  rotate_left
  ·(repeat' ((conv=>whnf)<;>(first|exact trivial|exact rfl|with_reducible refine And.intro ?_ ?_)))
  ·(try dsimp only);(try simp only [List.length_map]);omega
  exact⟨(by omega:k+1<=l.length),by omega⟩
 ·refine⟨?_,rfl,trivial⟩
  have:k=l.length:=by omega
  rw [hm,this]
theorem Du (l:List (List Int)) (n:Int) (hn:0<=n/\n+aU (fun x=>(x.length:Int)) l<=4611686018427387904):Con 105 [.old (.sl (l.map shI)),.d (i64 n)] (.d (i64 (n+aU (fun x=>(x.length:Int)) l))):=by
 refine con Tryz.func105 rfl rfl Tryz.call105 rfl fun hwf=>?_
 simp only [ARs.wf,AR.wf,AV.wf,AV.wfs,lm,lim] at hwf
 have hc:∀x∈l,0<=(x.length:Int):=fun x _=>by omega
 try (conv=>whnf)
 refine ay [0] [] [] ?_
 (conv=>whnf)
 refine au.go ((Nat)×(Int)) (fun⟨k,m⟩=>(k<=l.length)/\(m+aU (fun x=>(x.length:Int)) (l.drop k)=n+aU (fun x=>(x.length:Int)) l)/\(0<=m)) (fun⟨k,m⟩=>[(5,.data (i64 k)),(1,.data (i64 m))]) lE lE (fun⟨k,m⟩=>l.length - k) ⟨0,n⟩ ?_ ?_
 ·exact⟨Nat.zero_le _,rfl,hn.1⟩
 rintro⟨k,m⟩ ⟨hk,hm,h0⟩
 by_cases hlt:k < l.length
 ·obtain⟨x,hx⟩:∃x,l[k]? =some x:=⟨l[k]'hlt,by simp⟩
  have hd:=rZ (f:=fun x=>(x.length:Int)) hx
  have hp:=aX (f:=fun x=>(x.length:Int)) (l:=l.drop (k+1)) (fun x _=>by omega)
  (repeat' ((conv=>whnf);first|with_reducible refine Idx.got hx rfl ?_|refine gAV ?_|(refine gB ?_ ?_<;>intro h)|refine gC (nL x m (by omega)) ?_|intro _))<;>try (conv=>whnf)
  ·apply Exists.intro (⟨k+1,_⟩)
   refine⟨?_,rfl,?_,?_⟩
   rotate_left
   ·(repeat' ((conv=>whnf)<;>(first|exact trivial|exact rfl|with_reducible refine And.intro ?_ ?_)))
   ·(try dsimp only);(try simp only [List.length_map]);omega
   exact⟨hlt,by omega,by omega⟩
  ·exfalso;omega
 ·(repeat' ((conv=>whnf);first|(exfalso;omega)|(refine gB ?_ ?_<;>intro h)))<;>try (conv=>whnf)
  refine⟨?_,rfl,trivial⟩
  rw [List.drop_eq_nil_of_le (by omega),aU] at hm
  rw [<- hm];simp
abbrev Step.sh (x:Step):AV:=.agg [.any,.any]
abbrev Step.cnt (x:Step):Int:=2
theorem Step.bE (x:Step):0<=x.cnt:=by unfold Step.cnt;omega
theorem Qi (l:List Step) (n:Int) (hn:0<=n/\n+aU Step.cnt l<=4611686018427387904):Con 184 [.old (.sl (l.map Step.sh)),.d (i64 n)] (.d (i64 (n+aU Step.cnt l))):=by
 refine con Tryz.func184 rfl rfl Tryz.call184 rfl fun hwf=>?_
 simp only [ARs.wf,AR.wf,AV.wf,AV.wfs,lm,lim] at hwf
 try (conv=>whnf)
 refine ay [0] [] [] ?_
 (conv=>whnf)
 refine au.go ((Nat)×(Int)) (fun⟨k,m⟩=>(k<=l.length)/\(m+aU Step.cnt (l.drop k)=n+aU Step.cnt l)/\(0<=m)) (fun⟨k,m⟩=>[(5,.data (i64 k)),(1,.data (i64 m))]) lE lE (fun⟨k,m⟩=>l.length - k) ⟨0,n⟩ ?_ ?_
 ·exact⟨Nat.zero_le _,rfl,hn.1⟩
 rintro⟨k,m⟩ ⟨hk,hm,h0⟩
 by_cases hlt:k < l.length
 ·obtain⟨x,hx⟩:∃x,l[k]? =some x:=⟨l[k]'hlt,by simp⟩
  have hd:=rZ (f:=Step.cnt) hx
  have hp:=aX (f:=Step.cnt) (l:=l.drop (k+1)) (fun x _=>x.bE)
  have hx0:=x.bE
  have he:x.cnt=2:=rfl
  (repeat' ((conv=>whnf);first|with_reducible refine Idx.got hx rfl ?_|refine gAV ?_|(refine gB ?_ ?_<;>intro h)))<;>try (conv=>whnf)
  ·apply Exists.intro (⟨k+1,_⟩)
   refine⟨?_,rfl,?_,?_⟩
   rotate_left
   ·(repeat' ((conv=>whnf)<;>(first|exact trivial|exact rfl|with_reducible refine And.intro ?_ ?_)))
   ·(try dsimp only);(try simp only [List.length_map]);omega
   exact⟨hlt,by omega,by omega⟩
  ·exfalso;omega
 ·(repeat' ((conv=>whnf);first|(exfalso;omega)|(refine gB ?_ ?_<;>intro h)))<;>try (conv=>whnf)
  refine⟨?_,rfl,trivial⟩
  rw [List.drop_eq_nil_of_le (by omega),aU] at hm
  rw [<- hm];simp
abbrev Link.sh (x:Link):AV:=.agg [.any,.any,.any,.any]
abbrev Link.cnt (x:Link):Int:=4
theorem Link.bE (x:Link):0<=x.cnt:=by unfold Link.cnt;omega
theorem Qj (l:List Link) (n:Int) (hn:0<=n/\n+aU Link.cnt l<=4611686018427387904):Con 102 [.old (.sl (l.map Link.sh)),.d (i64 n)] (.d (i64 (n+aU Link.cnt l))):=by
 refine con Tryz.func102 rfl rfl Tryz.call102 rfl fun hwf=>?_
 simp only [ARs.wf,AR.wf,AV.wf,AV.wfs,lm,lim] at hwf
 try (conv=>whnf)
 refine ay [0] [] [] ?_
 (conv=>whnf)
 refine au.go ((Nat)×(Int)) (fun⟨k,m⟩=>(k<=l.length)/\(m+aU Link.cnt (l.drop k)=n+aU Link.cnt l)/\(0<=m)) (fun⟨k,m⟩=>[(5,.data (i64 k)),(1,.data (i64 m))]) lE lE (fun⟨k,m⟩=>l.length - k) ⟨0,n⟩ ?_ ?_
 ·exact⟨Nat.zero_le _,rfl,hn.1⟩
 rintro⟨k,m⟩ ⟨hk,hm,h0⟩
 by_cases hlt:k < l.length
 ·obtain⟨x,hx⟩:∃x,l[k]? =some x:=⟨l[k]'hlt,by simp⟩
  have hd:=rZ (f:=Link.cnt) hx
  have hp:=aX (f:=Link.cnt) (l:=l.drop (k+1)) (fun x _=>x.bE)
  have hx0:=x.bE
  have he:x.cnt=4:=rfl
  (repeat' ((conv=>whnf);first|with_reducible refine Idx.got hx rfl ?_|refine gAV ?_|(refine gB ?_ ?_<;>intro h)))<;>try (conv=>whnf)
  ·apply Exists.intro (⟨k+1,_⟩)
   refine⟨?_,rfl,?_,?_⟩
   rotate_left
   ·(repeat' ((conv=>whnf)<;>(first|exact trivial|exact rfl|with_reducible refine And.intro ?_ ?_)))
   ·(try dsimp only);(try simp only [List.length_map]);omega
   exact⟨hlt,by omega,by omega⟩
  ·exfalso;omega
 ·(repeat' ((conv=>whnf);first|(exfalso;omega)|(refine gB ?_ ?_<;>intro h)))<;>try (conv=>whnf)
  refine⟨?_,rfl,trivial⟩
  rw [List.drop_eq_nil_of_le (by omega),aU] at hm
  rw [<- hm];simp
abbrev Lit.sh (x:Lit):AV:=.agg [.any,.any,.any]
abbrev Lit.cnt (x:Lit):Int:=3
theorem Lit.bE (x:Lit):0<=x.cnt:=by unfold Lit.cnt;omega
theorem yx (l:List Lit) (n:Int) (hn:0<=n/\n+aU Lit.cnt l<=4611686018427387904):Con 38 [.old (.sl (l.map Lit.sh)),.d (i64 n)] (.d (i64 (n+aU Lit.cnt l))):=by
 refine con Tryz.func38 rfl rfl Tryz.call38 rfl fun hwf=>?_
 simp only [ARs.wf,AR.wf,AV.wf,AV.wfs,lm,lim] at hwf
 try (conv=>whnf)
 refine ay [0] [] [] ?_
 (conv=>whnf)
 refine au.go ((Nat)×(Int)) (fun⟨k,m⟩=>(k<=l.length)/\(m+aU Lit.cnt (l.drop k)=n+aU Lit.cnt l)/\(0<=m)) (fun⟨k,m⟩=>[(5,.data (i64 k)),(1,.data (i64 m))]) lE lE (fun⟨k,m⟩=>l.length - k) ⟨0,n⟩ ?_ ?_
 ·exact⟨Nat.zero_le _,rfl,hn.1⟩
 rintro⟨k,m⟩ ⟨hk,hm,h0⟩
 by_cases hlt:k < l.length
 ·obtain⟨x,hx⟩:∃x,l[k]? =some x:=⟨l[k]'hlt,by simp⟩
  have hd:=rZ (f:=Lit.cnt) hx
  have hp:=aX (f:=Lit.cnt) (l:=l.drop (k+1)) (fun x _=>x.bE)
  have hx0:=x.bE
  have he:x.cnt=3:=rfl
  (repeat' ((conv=>whnf);first|with_reducible refine Idx.got hx rfl ?_|refine gAV ?_|(refine gB ?_ ?_<;>intro h)))<;>try (conv=>whnf)
  ·apply Exists.intro (⟨k+1,_⟩)
   refine⟨?_,rfl,?_,?_⟩
   rotate_left
   ·(repeat' ((conv=>whnf)<;>(first|exact trivial|exact rfl|with_reducible refine And.intro ?_ ?_)))
   ·(try dsimp only);(try simp only [List.length_map]);omega
   exact⟨hlt,by omega,by omega⟩
  ·exfalso;omega
 ·(repeat' ((conv=>whnf);first|(exfalso;omega)|(refine gB ?_ ?_<;>intro h)))<;>try (conv=>whnf)
  refine⟨?_,rfl,trivial⟩
  rw [List.drop_eq_nil_of_le (by omega),aU] at hm
  rw [<- hm];simp
abbrev Mode.sh (x:Mode):AV:=.agg [.any,shI x.use,shI x.con]
abbrev Mode.cnt (x:Mode):Int:=1+x.use.length+x.con.length
theorem Mode.bE (x:Mode):0<=x.cnt:=by unfold Mode.cnt;omega
theorem Qk (l:List Mode) (n:Int) (hn:0<=n/\n+aU Mode.cnt l<=4611686018427387904):Con 183 [.old (.sl (l.map Mode.sh)),.d (i64 n)] (.d (i64 (n+aU Mode.cnt l))):=by
 refine con Tryz.func183 rfl rfl Tryz.call183 rfl fun hwf=>?_
 simp only [ARs.wf,AR.wf,AV.wf,AV.wfs,lm,lim] at hwf
 try (conv=>whnf)
 refine ay [0] [] [] ?_
 (conv=>whnf)
 refine au.go ((Nat)×(Int)) (fun⟨k,m⟩=>(k<=l.length)/\(m+aU Mode.cnt (l.drop k)=n+aU Mode.cnt l)/\(0<=m)) (fun⟨k,m⟩=>[(5,.data (i64 k)),(1,.data (i64 m))]) lE lE (fun⟨k,m⟩=>l.length - k) ⟨0,n⟩ ?_ ?_
 ·exact⟨Nat.zero_le _,rfl,hn.1⟩
 rintro⟨k,m⟩ ⟨hk,hm,h0⟩
 by_cases hlt:k < l.length
 ·obtain⟨x,hx⟩:∃x,l[k]? =some x:=⟨l[k]'hlt,by simp⟩
  have hd:=rZ (f:=Mode.cnt) hx
  have hp:=aX (f:=Mode.cnt) (l:=l.drop (k+1)) (fun x _=>x.bE)
  have hx0:=x.bE
  have he:x.cnt=1+x.use.length+x.con.length:=rfl
  (repeat' ((conv=>whnf);first|with_reducible refine Idx.got hx rfl ?_|refine gAV ?_|(refine gB ?_ ?_<;>intro h)|refine gC (nL x.use (m+1) (by omega)) ?_|refine gC (nL x.con (m+1+x.use.length) (by omega)) ?_|intro _))<;>try (conv=>whnf)
  ·apply Exists.intro (⟨k+1,_⟩)
   refine⟨?_,rfl,?_,?_⟩
   rotate_left
   ·(repeat' ((conv=>whnf)<;>(first|exact trivial|exact rfl|with_reducible refine And.intro ?_ ?_)))
   ·(try dsimp only);(try simp only [List.length_map]);omega
   exact⟨hlt,by omega,by omega⟩
  ·exfalso;omega
 ·(repeat' ((conv=>whnf);first|(exfalso;omega)|(refine gB ?_ ?_<;>intro h)))<;>try (conv=>whnf)
  refine⟨?_,rfl,trivial⟩
  rw [List.drop_eq_nil_of_le (by omega),aU] at hm
  rw [<- hm];simp
abbrev aK.sh (x:aK):AV:=.agg [.sl (x.steps.map Step.sh),.sl (x.setup.map shI)]
abbrev aK.cnt (x:aK):Int:=aU Step.cnt x.steps+aU (fun x=>(x.length:Int)) x.setup
theorem aK.bE (x:aK):0<=x.cnt:=by have h1:=aX (f:=Step.cnt) (l:=x.steps) (fun x _=>x.bE);have h2:=aX (f:=fun x:List Int=>(x.length:Int)) (l:=x.setup) (fun x _=>by omega);unfold aK.cnt;omega
theorem GU (l:List aK) (n:Int) (hn:0<=n/\n+aU aK.cnt l<=4611686018427387904):Con 103 [.old (.sl (l.map aK.sh)),.d (i64 n)] (.d (i64 (n+aU aK.cnt l))):=by
 refine con Tryz.func103 rfl rfl Tryz.call103 rfl fun hwf=>?_
 simp only [ARs.wf,AR.wf,AV.wf,AV.wfs,lm,lim] at hwf
 try (conv=>whnf)
 refine ay [0] [] [] ?_
 (conv=>whnf)
 refine au.go ((Nat)×(Int)) (fun⟨k,m⟩=>(k<=l.length)/\(m+aU aK.cnt (l.drop k)=n+aU aK.cnt l)/\(0<=m)) (fun⟨k,m⟩=>[(5,.data (i64 k)),(1,.data (i64 m))]) lE lE (fun⟨k,m⟩=>l.length - k) ⟨0,n⟩ ?_ ?_
 ·exact⟨Nat.zero_le _,rfl,hn.1⟩
 rintro⟨k,m⟩ ⟨hk,hm,h0⟩
 by_cases hlt:k < l.length
 ·obtain⟨x,hx⟩:∃x,l[k]? =some x:=⟨l[k]'hlt,by simp⟩
  have hd:=rZ (f:=aK.cnt) hx
  have hp:=aX (f:=aK.cnt) (l:=l.drop (k+1)) (fun x _=>x.bE)
  have hx0:=x.bE
  have h1:=aX (f:=Step.cnt) (l:=x.steps) (fun x _=>x.bE)
  have h2:=aX (f:=fun x:List Int=>(x.length:Int)) (l:=x.setup) (fun x _=>by omega)
  have he:x.cnt=aU Step.cnt x.steps+aU (fun x=>(x.length:Int)) x.setup:=rfl
  (repeat' ((conv=>whnf);first|with_reducible refine Idx.got hx rfl ?_|refine gAV ?_|(refine gB ?_ ?_<;>intro h)|refine gC (Qi x.steps m (by omega)) ?_|refine gC (Du x.setup (m+aU Step.cnt x.steps) (by omega)) ?_|intro _))<;>try (conv=>whnf)
  ·apply Exists.intro (⟨k+1,_⟩)
   refine⟨?_,rfl,?_,?_⟩
   rotate_left
   ·(repeat' ((conv=>whnf)<;>(first|exact trivial|exact rfl|with_reducible refine And.intro ?_ ?_)))
   ·(try dsimp only);(try simp only [List.length_map]);omega
   exact⟨hlt,by omega,by omega⟩
  ·exfalso;omega
 ·(repeat' ((conv=>whnf);first|(exfalso;omega)|(refine gB ?_ ?_<;>intro h)))<;>try (conv=>whnf)
  refine⟨?_,rfl,trivial⟩
  rw [List.drop_eq_nil_of_le (by omega),aU] at hm
  rw [<- hm];simp
abbrev aB.sh (x:aB):AV:=.agg [.any,.any,.sl (x.modes.map Mode.sh)]
abbrev aB.cnt (x:aB):Int:=2+aU Mode.cnt x.modes
theorem aB.bE (x:aB):0<=x.cnt:=by have h1:=aX (f:=Mode.cnt) (l:=x.modes) (fun x _=>x.bE);unfold aB.cnt;omega
theorem GV (l:List aB) (n:Int) (hn:0<=n/\n+aU aB.cnt l<=4611686018427387904):Con 101 [.old (.sl (l.map aB.sh)),.d (i64 n)] (.d (i64 (n+aU aB.cnt l))):=by
 refine con Tryz.func101 rfl rfl Tryz.call101 rfl fun hwf=>?_
 simp only [ARs.wf,AR.wf,AV.wf,AV.wfs,lm,lim] at hwf
 try (conv=>whnf)
 refine ay [0] [] [] ?_
 (conv=>whnf)
 refine au.go ((Nat)×(Int)) (fun⟨k,m⟩=>(k<=l.length)/\(m+aU aB.cnt (l.drop k)=n+aU aB.cnt l)/\(0<=m)) (fun⟨k,m⟩=>[(5,.data (i64 k)),(1,.data (i64 m))]) lE lE (fun⟨k,m⟩=>l.length - k) ⟨0,n⟩ ?_ ?_
 ·exact⟨Nat.zero_le _,rfl,hn.1⟩
 rintro⟨k,m⟩ ⟨hk,hm,h0⟩
 by_cases hlt:k < l.length
 ·obtain⟨x,hx⟩:∃x,l[k]? =some x:=⟨l[k]'hlt,by simp⟩
  have hd:=rZ (f:=aB.cnt) hx
  have hp:=aX (f:=aB.cnt) (l:=l.drop (k+1)) (fun x _=>x.bE)
  have hx0:=x.bE
  have h1:=aX (f:=Mode.cnt) (l:=x.modes) (fun x _=>x.bE)
  have he:x.cnt=2+aU Mode.cnt x.modes:=rfl
  (repeat' ((conv=>whnf);first|with_reducible refine Idx.got hx rfl ?_|refine gAV ?_|(refine gB ?_ ?_<;>intro h)|refine gC (Rp m (by omega)) ?_|refine gC (Qk x.modes (m+1+1) (by omega)) ?_|intro _))<;>try (conv=>whnf)
  ·apply Exists.intro (⟨k+1,_⟩)
   refine⟨?_,rfl,?_,?_⟩
   rotate_left
   ·(repeat' ((conv=>whnf)<;>(first|exact trivial|exact rfl|with_reducible refine And.intro ?_ ?_)))
   ·(try dsimp only);(try simp only [List.length_map]);omega
   exact⟨hlt,by omega,by omega⟩
  ·exfalso;omega
 ·(repeat' ((conv=>whnf);first|(exfalso;omega)|(refine gB ?_ ?_<;>intro h)))<;>try (conv=>whnf)
  refine⟨?_,rfl,trivial⟩
  rw [List.drop_eq_nil_of_le (by omega),aU] at hm
  rw [<- hm];simp
abbrev Lin.sh (x:Lin):AV:=.agg [.any,.any,.any,.any,.any,.sl (x.clause.map Lit.sh)]
abbrev Lin.cnt (x:Lin):Int:=5+aU Lit.cnt x.clause
theorem Lin.bE (x:Lin):0<=x.cnt:=by have h1:=aX (f:=Lit.cnt) (l:=x.clause) (fun x _=>x.bE);unfold Lin.cnt;omega
theorem Ql (l:List Lin) (n:Int) (hn:0<=n/\n+aU Lin.cnt l<=4611686018427387904):Con 39 [.old (.sl (l.map Lin.sh)),.d (i64 n)] (.d (i64 (n+aU Lin.cnt l))):=by
 refine con Tryz.func39 rfl rfl Tryz.call39 rfl fun hwf=>?_
 simp only [ARs.wf,AR.wf,AV.wf,AV.wfs,lm,lim] at hwf
 try (conv=>whnf)
 refine ay [0] [] [] ?_
 (conv=>whnf)
 refine au.go ((Nat)×(Int)) (fun⟨k,m⟩=>(k<=l.length)/\(m+aU Lin.cnt (l.drop k)=n+aU Lin.cnt l)/\(0<=m)) (fun⟨k,m⟩=>[(5,.data (i64 k)),(1,.data (i64 m))]) lE lE (fun⟨k,m⟩=>l.length - k) ⟨0,n⟩ ?_ ?_
 ·exact⟨Nat.zero_le _,rfl,hn.1⟩
 rintro⟨k,m⟩ ⟨hk,hm,h0⟩
 by_cases hlt:k < l.length
 ·obtain⟨x,hx⟩:∃x,l[k]? =some x:=⟨l[k]'hlt,by simp⟩
  have hd:=rZ (f:=Lin.cnt) hx
  have hp:=aX (f:=Lin.cnt) (l:=l.drop (k+1)) (fun x _=>x.bE)
  have hx0:=x.bE
  have h1:=aX (f:=Lit.cnt) (l:=x.clause) (fun x _=>x.bE)
  have he:x.cnt=5+aU Lit.cnt x.clause:=rfl
  (repeat' ((conv=>whnf);first|with_reducible refine Idx.got hx rfl ?_|refine gAV ?_|(refine gB ?_ ?_<;>intro h)|refine gC (yx x.clause (m+1+1+1+1+1) (by omega)) ?_|intro _))<;>try (conv=>whnf)
  ·apply Exists.intro (⟨k+1,_⟩)
   refine⟨?_,rfl,?_,?_⟩
   rotate_left
   ·(repeat' ((conv=>whnf)<;>(first|exact trivial|exact rfl|with_reducible refine And.intro ?_ ?_)))
   ·(try dsimp only);(try simp only [List.length_map]);omega
   exact⟨hlt,by omega,by omega⟩
  ·exfalso;omega
 ·(repeat' ((conv=>whnf);first|(exfalso;omega)|(refine gB ?_ ?_<;>intro h)))<;>try (conv=>whnf)
  refine⟨?_,rfl,trivial⟩
  rw [List.drop_eq_nil_of_le (by omega),aU] at hm
  rw [<- hm];simp
abbrev Proj.sh (x:Proj):AV:=.agg [.any,.sl (x.acts.map aB.sh),.sl (x.links.map Link.sh),.sl (x.aS.map aK.sh),shI x.aH]
abbrev Proj.cnt (x:Proj):Int:=aU aB.cnt x.acts+aU Link.cnt x.links+aU aK.cnt x.aS+x.aH.length
theorem Proj.bE (x:Proj):0<=x.cnt:=by
 have h1:=aX (f:=aB.cnt) (l:=x.acts) (fun x _=>x.bE)
 have h2:=aX (f:=Link.cnt) (l:=x.links) (fun x _=>x.bE)
 have h3:=aX (f:=aK.cnt) (l:=x.aS) (fun x _=>x.bE)
 unfold Proj.cnt;omega
theorem KP (x:Proj) (n:Int) (hn:0<=n/\n+x.cnt<=4611686018427387904):Con 36 [.old x.sh,.d (i64 n)] (.d (i64 (n+x.cnt))):=by
 refine con Tryz.func36 rfl rfl Tryz.call36 rfl fun hwf=>?_
 have h1:=aX (f:=aB.cnt) (l:=x.acts) (fun x _=>x.bE)
 have h2:=aX (f:=Link.cnt) (l:=x.links) (fun x _=>x.bE)
 have h3:=aX (f:=aK.cnt) (l:=x.aS) (fun x _=>x.bE)
 have he:x.cnt=aU aB.cnt x.acts+aU Link.cnt x.links+aU aK.cnt x.aS+x.aH.length:=rfl
 (repeat' ((conv=>whnf);first|refine gA ?_|refine gC (GV x.acts n (by omega)) ?_|refine gC (Qj x.links _ (by omega)) ?_|refine gC (GU x.aS _ (by omega)) ?_|refine gC (nL x.aH _ (by omega)) ?_|intro _))
 refine⟨?_,rfl,trivial⟩
 exact congrArg (AV.int .i64) (by omega)
abbrev Dom.sh (x:Dom):AV:=.agg [shI x.lo,shI x.hi,.sl (x.modes.map shI)]
abbrev Dom.cnt (x:Dom):Int:=x.lo.length+x.hi.length+aU (fun x=>(x.length:Int)) x.modes
theorem ML (x:Dom) (n:Int) (hn:0<=n/\n+x.cnt<=4611686018427387904):Con 37 [.old x.sh,.d (i64 n)] (.d (i64 (n+x.cnt))):=by
 refine con Tryz.func37 rfl rfl Tryz.call37 rfl fun hwf=>?_
 have h3:=aX (f:=fun x:List Int=>(x.length:Int)) (l:=x.modes) (fun x _=>by omega)
 have he:x.cnt=x.lo.length+x.hi.length+aU (fun x=>(x.length:Int)) x.modes:=rfl
 (repeat' ((conv=>whnf);first|refine gA ?_|refine gC (nL x.lo n (by omega)) ?_|refine gC (nL x.hi _ (by omega)) ?_|refine gC (Du x.modes _ (by omega)) ?_|intro _))
 refine⟨?_,rfl,trivial⟩
 exact congrArg (AV.int .i64) (by omega)
abbrev bB.sh (x:bB):AV:=.agg [shI x.starts,shI x.modes]
abbrev bB.cnt (x:bB):Int:=x.starts.length+x.modes.length
theorem Bf (l:List Int):(ints l).shape=shI l:=by simp [AV.shape,wG,shI]
theorem iO {α:Type} {f g:α->AV} (h:∀x,(f x).shape=g x) (l:List α):(AV.sl (l.map f)).shape= .sl (l.map g):=by
 simp only [AV.shape,wG];congr 1;exact List.map_congr_left fun x _=>h x
theorem Step.iO (x:Step):x.av.shape=x.sh:=rfl
theorem Link.iO (x:Link):x.av.shape=x.sh:=rfl
theorem Lit.iO (x:Lit):x.av.shape=x.sh:=rfl
theorem Mode.iO (x:Mode):x.av.shape=x.sh:=by simp [AV.shape,AV.shapes,wG]
theorem aB.iO (x:aB):x.av.shape=x.sh:=by
 simp only [AV.shape,AV.shapes];rw [show AV.sl (AV.shapes (x.modes.map Mode.av))= .sl (x.modes.map Mode.sh) from Abs.iO Mode.iO x.modes]
theorem aK.iO (x:aK):x.av.shape=x.sh:=by
 simp only [AV.shape,AV.shapes]
 rw [show AV.sl (AV.shapes (x.steps.map Step.av))= .sl (x.steps.map Step.sh) from Abs.iO Step.iO x.steps,show AV.sl (AV.shapes (x.setup.map ints))= .sl (x.setup.map shI) from Abs.iO Bf x.setup]
theorem Lin.iO (x:Lin):x.av.shape=x.sh:=by
 simp only [AV.shape,AV.shapes];rw [show AV.sl (AV.shapes (x.clause.map Lit.av))= .sl (x.clause.map Lit.sh) from Abs.iO Lit.iO x.clause]
theorem Proj.iO (x:Proj):x.av.shape=x.sh:=by
 simp only [AV.shape,AV.shapes]
 rw [show AV.sl (AV.shapes (x.acts.map aB.av))= .sl (x.acts.map aB.sh) from Abs.iO aB.iO x.acts,show AV.sl (AV.shapes (x.links.map Link.av))= .sl (x.links.map Link.sh) from Abs.iO Link.iO x.links,
  show AV.sl (AV.shapes (x.aS.map aK.av))= .sl (x.aS.map aK.sh) from Abs.iO aK.iO x.aS,show AV.sl (AV.shapes (x.aH.map i64))=shI x.aH from Bf x.aH]
theorem Dom.iO (x:Dom):x.av.shape=x.sh:=by
 simp only [AV.shape,AV.shapes]
 rw [show AV.sl (AV.shapes (x.lo.map i64))=shI x.lo from Bf x.lo,show AV.sl (AV.shapes (x.hi.map i64))=shI x.hi from Bf x.hi,show AV.sl (AV.shapes (x.modes.map ints))= .sl (x.modes.map shI) from Abs.iO Bf x.modes]
theorem bB.iO (x:bB):x.av.shape=x.sh:=by simp [AV.shape,AV.shapes,wG]
end Go.Proofs.YthegbfgeochckaaGreat.Abs
namespace Go.Proofs.YthegbfgeochckaaGreat.Abs
open Go.Proofs
theorem mG {r:Int} {f:Int->Int} (h:0<=szB r f):0<=r/\szB r f=f r:=by
 unfold szB at*;split at h
 ·omega
 ·rename_i h0;exact⟨by omega,if_neg h0⟩
theorem uZ {c:Nat} {n:Int} (h:0<=szN c n):szN c n=n - c:=by
 unfold szN at*;split at h
 ·omega
 ·rename_i h0;exact if_neg h0
theorem aee {α:Type} {f:α->Int->Int} {c:α->Int} (hf:∀x n,0<=f x n->c x<=5+5*(n - f x n)/\f x n<=n):∀(l:List α) (n:Int),0<=szL f l n->aU c l<=5*l.length+5*(n - szL f l n)/\szL f l n<=n
 |[],n,_=>by simp [aU,szL]
 |x::l,n,h=>by
  simp only [szL] at h ⊢
  obtain⟨h1,h2⟩:=mG h
  rw [h2] at h ⊢
  obtain⟨h3,h4⟩:=hf x n h1
  obtain⟨h5,h6⟩:=aee hf l (f x n) h
  simp only [aU,List.length_cons]
  push_cast
  omega
theorem KQ {α:Type} {f:α->Int->Int} {c:α->Int} (hf:∀x n,0<=f x n->c x<=5+5*(n - f x n)/\f x n<=n) {l:List α} {n:Int} (h:0<=szS f l n):aU c l<=5*(n - szS f l n)/\szS f l n<=n:=by
 unfold szS at h ⊢
 obtain⟨h1,h2⟩:=mG h
 rw [h2] at h ⊢
 have:=uZ h1
 obtain⟨h5,h6⟩:=aee hf l _ h
 omega
theorem Em {α:Type} {k:Int}:∀(l:List α),aU (fun _=>k) l=k*l.length
 |[]=>by simp [aU]
 |x::l=>by simp only [aU,Em l,List.length_cons];push_cast;rw [Int.mul_add];omega
theorem uM (l:List Lit):aU Lit.cnt l=3*l.length:=Em l
theorem Tv (l:List Step):aU Step.cnt l=2*l.length:=Em l
theorem acp (l:List Link):aU Link.cnt l=4*l.length:=Em l
theorem aef (x:Mode) (n:Int) (h:0<=tH x n):x.cnt<=5+5*(n - tH x n)/\tH x n<=n:=by
 unfold tH at h ⊢
 obtain⟨h1,e1⟩:=mG h;rw [e1] at h ⊢;(try dsimp only at h ⊢)
 obtain⟨h2,e2⟩:=mG h;rw [e2] at h ⊢;(try dsimp only at h ⊢)
 have:=uZ h1;have:=uZ h2
 unfold Mode.cnt;omega
theorem Vr (x:aB) (n:Int) (h:0<=cZ x n):x.cnt<=5+5*(n - cZ x n)/\cZ x n<=n:=by
 unfold cZ at h ⊢
 obtain⟨h1,e1⟩:=mG h;rw [e1] at h ⊢;(try dsimp only at h ⊢)
 obtain⟨h2,e2⟩:=mG h;rw [e2] at h ⊢;(try dsimp only at h ⊢)
 have:=uZ h1;have:=KQ (f:=fun x n=>tH x n) (c:=Mode.cnt) aef h2
 unfold aB.cnt;omega
theorem abj (x:List Int) (n:Int) (h:0<=szN x.length n):(x.length:Int)<=5+5*(n - szN x.length n)/\szN x.length n<=n:=by have:=uZ h;omega
theorem Vs (x:aK) (n:Int) (h:0<=fD x n):x.cnt<=5+5*(n - fD x n)/\fD x n<=n:=by
 unfold fD at h ⊢
 obtain⟨h1,e1⟩:=mG h;rw [e1] at h ⊢;(try dsimp only at h ⊢)
 obtain⟨h2,e2⟩:=mG h;rw [e2] at h ⊢;(try dsimp only at h ⊢)
 have:=uZ h1;have:=KQ (f:=fun (x:List Int) n=>szN x.length n) (c:=fun x:List Int=>(x.length:Int)) abj h2
 have:=Tv x.steps
 unfold aK.cnt;omega
theorem Yl (x:Proj) (n:Int) (h:0<=kM x n):x.cnt<=5*(n - kM x n)/\kM x n<=n:=by
 unfold kM at h ⊢
 obtain⟨h1,e1⟩:=mG h;rw [e1] at h ⊢;(try dsimp only at h ⊢)
 obtain⟨h2,e2⟩:=mG h;rw [e2] at h ⊢;(try dsimp only at h ⊢)
 obtain⟨h3,e3⟩:=mG h;rw [e3] at h ⊢;(try dsimp only at h ⊢)
 obtain⟨h4,e4⟩:=mG h;rw [e4] at h ⊢;(try dsimp only at h ⊢)
 have:=KQ (f:=fun x n=>cZ x n) (c:=aB.cnt) Vr h1;have:=uZ h2;have:=KQ (f:=fun x n=>fD x n) (c:=aK.cnt) Vs h3;have:=uZ h4
 have:=acp x.links
 unfold Proj.cnt;omega
theorem ZY(x:Dom) (n:Int) (h:0<=oL x n):x.cnt<=5*(n - oL x n)/\oL x n<=n:=by
 unfold oL at h ⊢
 obtain⟨h1,e1⟩:=mG h;rw [e1] at h ⊢;(try dsimp only at h ⊢)
 obtain⟨h2,e2⟩:=mG h;rw [e2] at h ⊢;(try dsimp only at h ⊢)
 obtain⟨h3,e3⟩:=mG h;rw [e3] at h ⊢;(try dsimp only at h ⊢)
 have:=uZ h1;have:=uZ h2;have:=KQ (f:=fun (x:List Int) n=>szN x.length n) (c:=fun x:List Int=>(x.length:Int)) abj h3
 unfold Dom.cnt;omega
theorem mdS {α:Type} {f:α->AV} (h:∀x,(f x).md false=true) (l:List α):(AV.sl (l.map f)).md false=true:=by simp only [AV.md];exact aaK h l
theorem agP (n:Int):(i64 n).md false=true:=rfl
theorem pK (l:List Int):(ints l).md false=true:=mdS agP l
theorem agQ (x:Lit):x.av.md false=true:=rfl
theorem afd (x:Step):x.av.md false=true:=rfl
theorem abk (x:Link):x.av.md false=true:=rfl
theorem Vt (l:List Lit):(lits l).md false=true:=mdS agQ l
theorem fB {a b:Bool} (h:a=true) (k:b=true):(a&&b)=true:=by rw [h,k];rfl
theorem afe (x:Mode):x.av.md false=true:=by simp only [AV.md,AV.mds];exact fB rfl (fB (pK x.use) (fB (pK x.con) rfl))
theorem Ym (x:aB):x.av.md false=true:=by simp only [AV.md,AV.mds];exact fB rfl (fB rfl (fB (mdS afe x.modes) rfl))
theorem Yn (x:aK):x.av.md false=true:=by simp only [AV.md,AV.mds];exact fB (mdS afd x.steps) (fB (mdS pK x.setup) rfl)
theorem aeg (x:Lin):x.av.md false=true:=by simp only [AV.md,AV.mds];exact fB rfl (fB rfl (fB rfl (fB rfl (fB rfl (fB (Vt x.clause) rfl)))))
open Go.Proofs
theorem aeh(x:Lin) (n:Int) (h:0<=tJ x n):x.cnt<=5+5*(n - tJ x n)/\tJ x n<=n:=by
 unfold tJ at h ⊢
 obtain⟨h1,e1⟩:=mG h;rw [e1] at h ⊢;(try dsimp only at h ⊢)
 have:=uZ h1
 have:=uM x.clause
 unfold Lin.cnt;omega
end Go.Proofs.YthegbfgeochckaaGreat.Abs
