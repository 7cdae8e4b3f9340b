/- The laws' markText: which string. -/
import Derived.WalkKit
import Derived.Deep.LoopGhost
import Derived.Lib.Hide
import Derived.Laws.BytesArg
import Derived.Test.YtpfgedlimdeffaaGreatProg
import Derived.Test.YtpfgedlimdeffaaGreatPlain
import Derived.Test.YtpfgedlimdeffaaGreatC1
import Derived.Test.YtpfgedlimdeffaaGreatLmk
import Derived.Test.YtpfgedlimdeffaaGreatLayC
set_option linter.all false
set_option maxRecDepth 100000
set_option maxHeartbeats 4000000
namespace Go.Proofs.YtpfgedlimdeffaaGreat.Abs
open Go.Proofs Go.RowKit
def digitsOf:Nat→Int→ByteArray→ByteArray
 |0,_,s=>s
 |g+1,n,s=>if 0 < n then digitsOf g (n / 10) (strOfNums [48+n % 10]++s) else s
def textOf (k:Int):ByteArray:=if k≤0 then⟨#[109,48]⟩ else⟨#[109]⟩++digitsOf 63 k ⟨#[]⟩
theorem Oa (k:Int) (hk:0≤k∧k≤4611686018427387904) (w:World):Calls Tryz.prog 85 #[.int .i64 k] w (fun e w'=>e= .returned (.string (textOf k))∧Quiet w w'):=by
 by_cases h0:k≤0
 ·rw [textOf,if_pos h0]
  go_enter Tryz.func85,Tryz.ntmps85
  go_wp2
  go_ret
  exact⟨rfl,Quiet.refl _⟩
 ·rw [textOf,if_neg h0]
  obtain⟨R,hR⟩:∃R,digitsOf 63 k ⟨#[]⟩=R:=⟨_,rfl⟩
  rw [hR]
  go_enter Tryz.func85,Tryz.ntmps85
  go_wp2
  go_loopg [0,3] 63 (fun g s0 s3 wr=>∃(n:Int) (s:ByteArray),s0= .int .i64 n∧s3= .string s∧0≤n∧n≤4611686018427387904∧n < 2 ^ g∧s.size+g≤63∧digitsOf g n s=R∧Aside (Quiet w wr))
  case atStart=>exact⟨k,⟨#[]⟩,rfl,rfl,by omega,by omega,by omega,by decide,hR,Quiet.refl _⟩
  case round=>
   obtain⟨n,s,rfl,rfl,h1,hm,h2,h3,hD,hb⟩:=hrel
   by_cases hlt:0 < n
   ·have hg:1≤gk:=by
     rcases Nat.eq_zero_or_pos gk with rfl|h
     ·simp at h2;omega
     ·exact h
    obtain⟨d,hd⟩:∃d,Hid (strOfNums [48+n % 10]=d):=⟨_,rfl⟩
    have hcv:∀T:TypeId,(convert 157 9 (.slice (some ⟨wr.heap.size,0,none⟩) 1 1)).run Tryz.prog (wr.alloc (.cells #[.int .u8 (48+n % 10)] T))= .ok (.string d) (wr.alloc (.cells #[.int .u8 (48+n % 10)] T)):=fun T=>by
     rw [← hd.out]
     exact run_convert_bytes_arg _ 157 5 Tryz.underlying157 Tryz.underlying5 _ 0 1 1 [48+n % 10] rfl (fun i hi=>by
      obtain rfl:i=0:=by omega
      simp) 9 Tryz.underlying9
    have h4:s.size≤63:=by omega
    have h5:d.size≤1:=by rw [← hd.out,strOfNums_size];simp
    obtain⟨g,rfl⟩:∃g,gk=g+1:=⟨gk - 1,by omega⟩
    have hD':digitsOf g (n / 10) (d++s)=R:=by rw [← hD,digitsOf,if_pos hlt,hd.out]
    clear hD
    have H2:=Lib.hid (NW h2)
    clear h2
    go_wp2
    ·go_roundg g
     case measure=>omega
     case rel=>exact⟨n / 10,d++s,by go_num,rfl,by omega,by omega,H2.out,by rw [ByteArray.size_append];omega,hD',(show Aside _ from (Quiet.Ed hb.out _))⟩
   ·have h4:s.size≤63:=by omega
    have hD':s=R:=by cases gk with|zero=>exact hD|succ g=>rw [← hD,digitsOf,if_neg hlt]
    subst hD'
    clear h2 hm hD
    go_wp2
    ·go_ret
     exact⟨rfl,hb.out⟩
theorem Us:Qx Tryz.prog textOf 85:=
 ⟨Tryz.call85,fun w k hk=>(Oa k hk w).mono fun _ _ h=>⟨h.1,h.2.os,h.2.tape,h.2.output,h.2.size,fun i hi _=>h.2.block i hi id,fun _ hb=>by simp at hb⟩⟩
set_option maxRecDepth 20000
set_option maxHeartbeats 0
open Go.Proofs
def xx:Nat→Option ((Int→ByteArray) ⊕ (MF×(List AV→Prop))):=fun f=>if f=85 then some (.inl textOf) else none
def gF:List Cm:=[.num 0]
def Xn:List Ck:=[.num]
def BR (x:AV):Prop:=∃n,x= .int .i64 n
theorem sO:∀c k,k≤(fF gF c k).2:=sM (by simp [gF,Cm.mono])
def Ut:Nat→Option (MF×(List AV→Prop)):=fun f=>none
theorem RG:Nh tab Ut xx 3 Tryz.f49 (fF gF) (okC Xn):=by
 refine⟨⟨_,_,_,_,_,_,_,_,_,_,_,_,_,_,_,_,_,_,_,_,_,_,_,_,_,_,_,_,_,rfl,⟨rfl,rfl,rfl,rfl⟩,⟨rfl,rfl,rfl,rfl⟩,⟨rfl,⟨rfl,rfl,rfl⟩,⟨rfl,rfl,rfl⟩,⟨rfl,rfl,rfl,rfl,rfl,rfl⟩,⟨rfl,⟨_,_,rfl⟩,rfl⟩,⟨by decide,by decide,by decide⟩,by decide⟩,rfl,rfl,rfl,rfl,rfl,rfl,by decide,?_,_,_,_,rfl,rfl,rfl,rfl,rfl,rfl,rfl,by decide⟩⟩
 rintro j k c e hc hk hb hj h0 h1 h5
 obtain⟨n0,_,rfl,rfl⟩:=hc
 simp only [fF,gF,List.set,List.getElem?_cons_zero,List.getElem?_cons_succ] at hb ⊢
 refine⟨?e1,?r1,?e2,?r2,?a,?b,?c⟩
 case r1=>(repeat' first|exact dG.nil|refine dG.mv (by first|exact h0|exact h1|exact h5|rfl) ?_|refine dG.ix rfl (by first|exact h0|exact h1|exact h5|rfl) (by first|exact h0|exact h1|exact h5|rfl) ?_|refine dG.fa rfl rfl ?_|refine dG.st ⟨rfl,rfl⟩ rfl (by first|exact h0|exact h1|exact h5|rfl) rfl rfl ?_|refine dG.inc (by first|exact h0|exact h1|exact h5|rfl) ⟨by omega,by omega⟩ ?_|refine dG.ld ⟨rfl,rfl⟩ rfl rfl ?_)
 case r2=>(repeat' first|exact dG.nil|refine dG.mv (by first|exact h5|rfl) ?_|refine dG.inc (by first|exact h5|rfl) ⟨by omega,by omega⟩ ?_)
 case a=>exact h0
 case b=>rfl
 case c=>rfl
theorem Uu:qY Tryz.prog lim 49 (aI (fF gF)) (fun m=>∀x∈m,BR x):=
 (TL MN (fun f F ok h=>by simp [Ut] at h) (fun f s h=>by
 unfold xx at h
 split at h
 ·rename_i hf;cases h;subst hf;exact Us
 cases h) Tryz.func49 Tryz.call49 rfl (by decide) sO (qA _) (Vs _) (fun c h=>(wM h).trans rfl) RG).imp fun m h x hx=>by
 obtain⟨n,rfl⟩:=h x hx;exact⟨n,[],rfl,rfl⟩
theorem vZ (l:List AV) (n:Int) (hn:0≤n) (ho:∀x∈l,BR x) (hM:(aI (fF gF) l n).2≤4611686018427387904):Con 50 [.d (.sl (aI (fF gF) l n).1),.d (i64 n)] (.d (i64 (aI (fF gF) l n).2)):=by
 refine con Tryz.func50 rfl rfl Tryz.call50 rfl fun hwf=>?_
 simp only [ARs.wf,AR.wf,AV.wf,iU,lim] at hwf
 have hlen:=iU (fF gF) l n
 (repeat' ((conv=>whnf);first|refine gA ?_|(refine gB ?_ ?_<;>intro h)|(refine gI ?_;intro x hx)|(refine gJ ?_;intro j x hj hx)|refine gV ?_|intro _))<;>try (conv=>whnf)
 refine aG [0] [] [] ?_
 (conv=>whnf)
 refine aC.go ((Nat)×(Int)) (fun⟨k,m⟩=>(k≤l.length)∧((aI (fF gF) (l.take k) n).2=m)) (fun⟨k,m⟩=>[(5,.data (i64 k)),(1,.data (i64 m))]) (fun _=>[]) (fun _=>[]) (fun⟨k,m⟩=>l.length - k) ⟨0,n⟩ ?_ ?_
 ·exact⟨Nat.zero_le _,rfl⟩
 rintro⟨k,m⟩ ⟨hk,hm⟩
 have hmm:n≤m:=hm ▸ iw sO _ _
 by_cases hlt:k < l.length
 ·obtain⟨x,hx⟩:∃x,l[k]? =some x:=⟨_,List.getElem?_eq_getElem hlt⟩
  obtain⟨n0,rfl⟩:=ho x (List.mem_of_getElem? hx)
  have hg:=CG (g:=fF gF) l n k hx
  have hs:=Ky (g:=fF gF) l n k hx
  have hle:=Pd sO l n (k+1)
  rw [hm] at hg hs
  conv at hg=>rhs;simp only [fO,AV.cells,fF,gF,List.set,List.headD,List.getElem?_cons_zero,List.getElem?_cons_succ]
  conv at hs=>rhs;simp only [AV.cells,fF,gF,List.set,List.getElem?_cons_zero,List.getElem?_cons_succ]
  rw [hs] at hle
  (repeat' ((conv=>whnf);first|with_reducible refine Idx.here hg rfl ?_|refine gA ?_|(refine gB ?_ ?_<;>intro h)|(refine gI ?_;intro x hx)|(refine gJ ?_;intro j x hj hx)|refine gV ?_|intro _))<;>try (conv=>whnf)
  all_goals first
   |(exfalso;omega)
   |exact absurd trivial ‹¬True›
   |(apply Exists.intro (⟨k+1,_⟩)
     refine⟨?_,rfl,?_,?_⟩
     rotate_left
     ·(repeat' ((conv=>whnf)<;>(first|exact trivial|exact rfl|with_reducible refine And.intro ?_ ?_)))
     ·(try dsimp only);(try simp only [List.length_map]);omega
     exact⟨hlt,hs⟩)
 ·(repeat' ((conv=>whnf);first|(exfalso;omega)|refine gA ?_|(refine gB ?_ ?_<;>intro h)|(refine gI ?_;intro x hx)|(refine gJ ?_;intro j x hj hx)|refine gV ?_|intro _))<;>try (conv=>whnf)
  refine⟨?_,rfl,trivial⟩
  have:k=l.length:=by omega
  rw [← hm,this,List.take_length]
def iK:List Cm:=[.call 0 (aI (fF gF)),.call 1 (aI (fF gF))]
def uH:List Ck:=[.sl fun m=>∀x∈m,BR x,.sl fun m=>∀x∈m,BR x]
def Gp:Nat→Option (MF×(List AV→Prop)):=fun f=>if f=49 then some (aI (fF gF),fun m=>∀x∈m,BR x) else none
def Gq:Nat→Option ((Int→ByteArray) ⊕ (MF×(List AV→Prop))):=fun f=>none
theorem Ht:Qy tab Gp Gq 34 Tryz.f14 (fF iK) (okC uH):=by
 refine⟨⟨_,_,_,_,_,_,_,rfl,⟨rfl,rfl,rfl,rfl,rfl,rfl,rfl⟩,rfl,rfl,rfl,by decide,?_⟩⟩
 rintro k c e hc hk hb h1 h2
 obtain⟨m0,_,rfl,p0,m1,_,rfl,p1,rfl⟩:=hc
 simp only [fF,iK,List.set,List.getElem?_cons_zero,List.getElem?_cons_succ] at hb ⊢
 have q1:=iw sO m0 k
 have q2:=iw sO m1 (aI (fF gF) m0 k).2
 refine⟨?e1,?r1,?a⟩
 case r1=>(repeat' first|exact dG.nil|refine dG.mv (by first|exact h1|exact h2|rfl) ?_|refine dG.fa rfl (by first|exact h1|exact h2|rfl) ?_|refine dG.ld ⟨rfl,rfl⟩ (by first|exact h1|exact h2|rfl) rfl ?_|refine dG.ca rfl (by first|exact h1|exact h2|rfl) (by first|exact h1|exact h2|rfl) rfl (by first|exact p0|exact p1) (by omega) (by omega) ?_)
 case a=>rfl
theorem Lm:Kw Tryz.prog lim 14 (fF iK) (okC uH):=
 Vt MN (fun f F ok h=>by
 unfold Gp at h
 split at h
 ·rename_i hf;cases h;subst hf;exact Uu
 cases h) (fun f s h=>by simp [Gq] at h) Tryz.func14 Tryz.call14 rfl (fun c h=>(wM h).trans rfl) (qA _) Ht
end Go.Proofs.YtpfgedlimdeffaaGreat.Abs
