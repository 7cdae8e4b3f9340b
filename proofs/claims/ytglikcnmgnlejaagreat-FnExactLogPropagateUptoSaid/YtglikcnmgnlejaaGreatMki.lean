/- The laws' markText: which string. -/
import Derived.WalkKit
import Derived.Deep.LoopGhost
import Derived.Lib.Hide
import Derived.Laws.BytesArg
import Derived.Test.YtglikcnmgnlejaaGreatProg
import Derived.Test.YtglikcnmgnlejaaGreatLayB
import Derived.Test.YtglikcnmgnlejaaGreatC1
import Derived.Test.YtglikcnmgnlejaaGreatLmk
import Derived.Test.YtglikcnmgnlejaaGreatLayC
import Derived.Test.YtglikcnmgnlejaaGreatPlain
set_option linter.all false
set_option maxRecDepth 100000
set_option maxHeartbeats 4000000
namespace Go.Proofs.YtglikcnmgnlejaaGreat.Abs
open Go.Proofs Go.RowKit
def digitsOf:Nat→Int→ByteArray→ByteArray
 |0,_,s=>s
 |g+1,n,s=>if 0 < n then digitsOf g (n / 10) (strOfNums [48+n % 10]++s) else s
def textOf (k:Int):ByteArray:=if k≤0 then⟨#[109,48]⟩ else⟨#[109]⟩++digitsOf 63 k ⟨#[]⟩
theorem IQ (k:Int) (hk:0≤k∧k≤4611686018427387904) (w:World):Calls Tryz.prog 134 #[.int .i64 k] w (fun e w'=>e= .returned (.string (textOf k))∧Quiet w w'):=by
 by_cases h0:k≤0
 ·rw [textOf,if_pos h0]
  go_enter Tryz.func134,Tryz.ntmps134
  go_wp2
  go_ret
  exact⟨rfl,Quiet.refl _⟩
 ·rw [textOf,if_neg h0]
  obtain⟨R,hR⟩:∃R,digitsOf 63 k ⟨#[]⟩=R:=⟨_,rfl⟩
  rw [hR]
  go_enter Tryz.func134,Tryz.ntmps134
  go_wp2
  go_loopg [0,3] 63 (fun g s0 s3 wr=>∃(n:Int) (s:ByteArray),s0= .int .i64 n∧s3= .string s∧0≤n∧n≤4611686018427387904∧n < 2 ^ g∧s.size+g≤63∧digitsOf g n s=R∧Aside (Quiet w wr))
  case atStart=>exact⟨k,⟨#[]⟩,rfl,rfl,by omega,by omega,by omega,by decide,hR,Quiet.refl _⟩
  case round=>
   obtain⟨n,s,rfl,rfl,h1,hm,h2,h3,hD,hb⟩:=hrel
   by_cases hlt:0 < n
   ·have hg:1≤gk:=by
     rcases Nat.eq_zero_or_pos gk with rfl|h
     ·simp at h2;omega
     ·exact h
    obtain⟨d,hd⟩:∃d,Hid (strOfNums [48+n % 10]=d):=⟨_,rfl⟩
    have hcv:∀T:TypeId,(convert 249 9 (.slice (some ⟨wr.heap.size,0,none⟩) 1 1)).run Tryz.prog (wr.alloc (.cells #[.int .u8 (48+n % 10)] T))= .ok (.string d) (wr.alloc (.cells #[.int .u8 (48+n % 10)] T)):=fun T=>by
     rw [← hd.out]
     exact run_convert_bytes_arg _ 249 5 Tryz.underlying249 Tryz.underlying5 _ 0 1 1 [48+n % 10] rfl (fun i hi=>by
      obtain rfl:i=0:=by omega
      simp) 9 Tryz.underlying9
    have h4:s.size≤63:=by omega
    have h5:d.size≤1:=by rw [← hd.out,strOfNums_size];simp
    obtain⟨g,rfl⟩:∃g,gk=g+1:=⟨gk - 1,by omega⟩
    have hD':digitsOf g (n / 10) (d++s)=R:=by rw [← hD,digitsOf,if_pos hlt,hd.out]
    clear hD
    have H2:=Lib.hid (UF h2)
    clear h2
    go_wp2
    ·go_roundg g
     case measure=>omega
     case rel=>exact⟨n / 10,d++s,by go_num,rfl,by omega,by omega,H2.out,by rw [ByteArray.size_append];omega,hD',(show Aside _ from (Quiet.JR hb.out _))⟩
   ·have h4:s.size≤63:=by omega
    have hD':s=R:=by cases gk with|zero=>exact hD|succ g=>rw [← hD,digitsOf,if_neg hlt]
    subst hD'
    clear h2 hm hD
    go_wp2
    ·go_ret
     exact⟨rfl,hb.out⟩
theorem pW:Xm Tryz.prog textOf 134:=
 ⟨Tryz.call134,fun w k hk=>(IQ k hk w).mono fun _ _ h=>⟨h.1,h.2.os,h.2.tape,h.2.output,h.2.size,fun i hi _=>h.2.block i hi id,fun _ hb=>by simp at hb⟩⟩
theorem NU {P:Program} {T:Nat→Ty} {L f:Nat} {k:Int} {s:ByteArray} (hcf:∀(vs:Array Value) (w:World),(callFunc f vs).run P w= .ok (.enter f vs) w)
  (h:∀w:World,Calls P f #[.int .i64 k] w fun e w'=>e= .returned (.string s)∧Quiet w w'):Contract P T L f [.d (.int .i64 k)] (.d (.str s)):=by
 refine⟨hcf,fun I J O mt w vs hI _ hO _ _ ha=>?_⟩
 match vs,ha with
 |[v],ha=>
  have hv:v= .int .i64 k:=ha.1
  subst hv
  refine (h w).mono ?_
  rintro e w' ⟨rfl,hb⟩
  exact⟨_,rfl,Turn.ofQ (fun k hk=>hO k hk.1) hb,I,[],fun _ h=>h,fun _ h=>.inl h,List.nodup_nil,fun _ h=>by simp at h,by simp only [fM];exact⟨trivial,rfl⟩⟩
 |[],ha=>exact ha.elim
 |_::_::_,ha=>exact ha.2.elim
theorem JB (k:Int) (hk:0≤k∧k≤4611686018427387904):Con 134 [.d (i64 k)] (.d (.str (textOf k))):=
 NU Tryz.call134 fun w=>IQ k hk w
end Go.Proofs.YtglikcnmgnlejaaGreat.Abs
set_option maxRecDepth 20000
set_option maxHeartbeats 0
namespace Go.Proofs.YtglikcnmgnlejaaGreat.Abs
open Go.Proofs
def xx:Nat→Option ((Int→ByteArray) ⊕ (MF×(List AV→Prop))):=fun f=>if f=134 then some (.inl textOf) else none
theorem agf {m:Int} (h:0≤m):(decide (m % 3=0) == decide (m.tmod 3=0))=true:=by rw [Int.tmod_eq_emod_of_nonneg h];exact beq_self_eq_true _
def bF:List Cm:=[.num 0]
def adh:List Ck:=[.num]
def mH (x:AV):Prop:=∃n,x= .int .i64 n
theorem fE:∀c k,k≤(aB bF c k).2:=jd (by simp [bF,Cm.mono])
def aaq:Nat→Option (MF×(List AV→Prop)):=fun f=>none
theorem YA:nM tab aaq xx 3 Tryz.f63 (aB bF) (okC adh):=by
 refine⟨⟨_,_,_,_,_,_,_,_,_,_,_,_,_,_,_,_,_,_,_,_,_,_,_,_,_,_,_,_,_,rfl,⟨rfl,rfl,rfl,rfl⟩,⟨rfl,rfl,rfl,rfl⟩,⟨rfl,⟨rfl,rfl,rfl⟩,⟨rfl,rfl,rfl⟩,⟨rfl,rfl,rfl,rfl,rfl,rfl⟩,⟨rfl,⟨_,_,rfl⟩,rfl⟩,⟨by decide,by decide,by decide⟩,by decide⟩,rfl,rfl,rfl,rfl,rfl,rfl,by decide,?_,_,_,_,rfl,rfl,rfl,rfl,rfl,rfl,rfl,by decide⟩⟩
 rintro j k c e hc hk hb hj h0 h1 h5
 obtain⟨n0,_,rfl,rfl⟩:=hc
 simp only [aB,bF,List.set,List.getElem?_cons_zero,List.getElem?_cons_succ] at hb ⊢
 refine⟨?e1,?r1,?e2,?r2,?a,?b,?c⟩
 case r1=>(repeat' first|exact aM.nil|refine aM.mv (by first|exact h0|exact h1|exact h5|rfl) ?_|refine aM.ix rfl (by first|exact h0|exact h1|exact h5|rfl) (by first|exact h0|exact h1|exact h5|rfl) ?_|refine aM.fa rfl rfl ?_|refine aM.st ⟨rfl,rfl⟩ rfl (by first|exact h0|exact h1|exact h5|rfl) rfl rfl ?_|refine aM.inc (by first|exact h0|exact h1|exact h5|rfl) ⟨by omega,by omega⟩ ?_|refine aM.ld ⟨rfl,rfl⟩ rfl rfl ?_)
 case r2=>(repeat' first|exact aM.nil|refine aM.mv (by first|exact h5|rfl) ?_|refine aM.inc (by first|exact h5|rfl) ⟨by omega,by omega⟩ ?_)
 case a=>exact h0
 case b=>rfl
 case c=>rfl
theorem FB:kG Tryz.prog lim 63 (ah (aB bF)) (fun m=>∀x∈m,mH x):=
 (pQ rW (fun f F ok h=>by simp [aaq] at h) (fun f s h=>by
 unfold xx at h
 split at h
 ·rename_i hf;cases h;subst hf;exact pW
 cases h) Tryz.func63 Tryz.call63 rfl (by decide) fE (iF _) (sG _) (fun c h=>(kH h).trans rfl) YA).imp fun m h x hx=>by
 obtain⟨n,rfl⟩:=h x hx;exact⟨n,[],rfl,rfl⟩
theorem kS (l:List AV) (n:Int) (hn:0≤n) (ho:∀x∈l,mH x) (hM:(ah (aB bF) l n).2≤4611686018427387904):Con 64 [.d (.sl (ah (aB bF) l n).1),.d (i64 n)] (.d (i64 (ah (aB bF) l n).2)):=by
 refine con Tryz.func64 rfl rfl Tryz.call64 rfl fun hwf=>?_
 simp only [ARs.wf,AR.wf,AV.wf,aW,lim] at hwf
 have hlen:=aW (aB bF) l n
 (repeat' ((conv=>whnf);first|refine gA ?_|(refine gB ?_ ?_<;>intro h)|(refine gI ?_;intro x hx)|(refine gJ ?_;intro j x hj hx)|refine gV ?_|intro _))<;>try (conv=>whnf)
 refine au [0] [] [] ?_
 (conv=>whnf)
 refine ak.go ((Nat)×(Int)) (fun⟨k,m⟩=>(k≤l.length)∧((ah (aB bF) (l.take k) n).2=m)) (fun⟨k,m⟩=>[(5,.data (i64 k)),(1,.data (i64 m))]) (fun _=>[]) (fun _=>[]) (fun⟨k,m⟩=>l.length - k) ⟨0,n⟩ ?_ ?_
 ·exact⟨Nat.zero_le _,rfl⟩
 rintro⟨k,m⟩ ⟨hk,hm⟩
 have hmm:n≤m:=hm ▸ aD fE _ _
 by_cases hlt:k < l.length
 ·obtain⟨x,hx⟩:∃x,l[k]? =some x:=⟨_,List.getElem?_eq_getElem hlt⟩
  obtain⟨n0,rfl⟩:=ho x (List.mem_of_getElem? hx)
  have hg:=iX (g:=aB bF) l n k hx
  have hs:=iQ (g:=aB bF) l n k hx
  have hle:=kW fE l n (k+1)
  rw [hm] at hg hs
  conv at hg=>rhs;simp only [fH,AV.cells,aB,bF,List.set,List.headD,List.getElem?_cons_zero,List.getElem?_cons_succ]
  conv at hs=>rhs;simp only [AV.cells,aB,bF,List.set,List.getElem?_cons_zero,List.getElem?_cons_succ]
  rw [hs] at hle
  (repeat' ((conv=>whnf);first|with_reducible refine Idx.here hg rfl ?_|refine gA ?_|(refine gB ?_ ?_<;>intro h)|(refine gI ?_;intro x hx)|(refine gJ ?_;intro j x hj hx)|refine gV ?_|intro _))<;>try (conv=>whnf)
  all_goals first
   |(exfalso;omega)
   |exact absurd trivial ‹¬True›
   |(apply Exists.intro (⟨k+1,_⟩)
     refine⟨?_,rfl,?_,?_⟩
     rotate_left
     ·(repeat' ((conv=>whnf)<;>(first|exact trivial|exact rfl|with_reducible refine And.intro ?_ ?_)))
     ·(try dsimp only);(try simp only [List.length_map]);omega
     exact⟨hlt,hs⟩)
 ·(repeat' ((conv=>whnf);first|(exfalso;omega)|refine gA ?_|(refine gB ?_ ?_<;>intro h)|(refine gI ?_;intro x hx)|(refine gJ ?_;intro j x hj hx)|refine gV ?_|intro _))<;>try (conv=>whnf)
  refine⟨?_,rfl,trivial⟩
  have:k=l.length:=by omega
  rw [← hm,this,List.take_length]
def jo:List Cm:=[.num 0,.call 1 (ah (aB bF)),.call 2 (ah (aB bF))]
def XA:List Ck:=[.num,.sl fun m=>∀x∈m,mH x,.sl fun m=>∀x∈m,mH x]
def FC (x:AV):Prop:=∃c,x= .agg c∧okC XA c
theorem qI:∀c k,k≤(aB jo c k).2:=jd (by simp [jo,Cm.mono,aD fE])
def XB:Nat→Option (MF×(List AV→Prop)):=fun f=>if f=63 then some (ah (aB bF),fun m=>∀x∈m,mH x) else none
theorem Wq:nM tab XB xx 141 Tryz.f135 (aB jo) (okC XA):=by
 refine⟨⟨_,_,_,_,_,_,_,_,_,_,_,_,_,_,_,_,_,_,_,_,_,_,_,_,_,_,_,_,_,rfl,⟨rfl,rfl,rfl,rfl⟩,⟨rfl,rfl,rfl,rfl⟩,⟨rfl,⟨rfl,rfl,rfl⟩,⟨rfl,rfl,rfl⟩,⟨rfl,rfl,rfl,rfl,rfl,rfl⟩,⟨rfl,⟨_,_,rfl⟩,rfl⟩,⟨by decide,by decide,by decide⟩,by decide⟩,rfl,rfl,rfl,rfl,rfl,rfl,by decide,?_,_,_,_,rfl,rfl,rfl,rfl,rfl,rfl,rfl,by decide⟩⟩
 rintro j k c e hc hk hb hj h0 h1 h5
 obtain⟨n0,_,rfl,m1,_,rfl,p1,m2,_,rfl,p2,rfl⟩:=hc
 simp only [aB,jo,List.set,List.getElem?_cons_zero,List.getElem?_cons_succ] at hb ⊢
 have q1:=aD fE m1 (k+1)
 have q2:=aD fE m2 (ah (aB bF) m1 (k+1)).2
 refine⟨?e1,?r1,?e2,?r2,?a,?b,?c⟩
 case r1=>(repeat' first|exact aM.nil|refine aM.mv (by first|exact h0|exact h1|exact h5|rfl) ?_|refine aM.ix rfl (by first|exact h0|exact h1|exact h5|rfl) (by first|exact h0|exact h1|exact h5|rfl) ?_|refine aM.fa rfl rfl ?_|refine aM.st ⟨rfl,rfl⟩ rfl (by first|exact h0|exact h1|exact h5|rfl) rfl rfl ?_|refine aM.inc (by first|exact h0|exact h1|exact h5|rfl) ⟨by omega,by omega⟩ ?_|refine aM.ld ⟨rfl,rfl⟩ rfl rfl ?_|refine aM.ca rfl (by first|exact h0|exact h1|exact h5|rfl) (by first|exact h0|exact h1|exact h5|rfl) rfl (by first|exact p1|exact p2) (by omega) (by omega) ?_)
 case r2=>(repeat' first|exact aM.nil|refine aM.mv (by first|exact h5|rfl) ?_|refine aM.inc (by first|exact h5|rfl) ⟨by omega,by omega⟩ ?_)
 case a=>exact h0
 case b=>rfl
 case c=>rfl
theorem YB:kG Tryz.prog lim 135 (ah (aB jo)) (fun m=>∀x∈m,FC x):=
 (pQ rW (fun f F ok h=>by
 unfold XB at h
 split at h
 ·rename_i hf;cases h;subst hf;exact FB
 cases h) (fun f s h=>by
 unfold xx at h
 split at h
 ·rename_i hf;cases h;subst hf;exact pW
 cases h) Tryz.func135 Tryz.call135 rfl (by decide) qI (iF _) (sG _) (fun c h=>(kH h).trans rfl) Wq).imp fun m h x hx=>by
 obtain⟨c,rfl,k⟩:=h x hx;exact k
theorem JC (l:List AV) (n:Int) (hn:0≤n) (ho:∀x∈l,FC x) (hM:(ah (aB jo) l n).2≤4611686018427387904):Con 298 [.d (.sl (ah (aB jo) l n).1),.d (i64 n)] (.d (i64 (ah (aB jo) l n).2)):=by
 refine con Tryz.func298 rfl rfl Tryz.call298 rfl fun hwf=>?_
 simp only [ARs.wf,AR.wf,AV.wf,aW,lim] at hwf
 have hlen:=aW (aB jo) l n
 (repeat' ((conv=>whnf);first|refine gA ?_|(refine gB ?_ ?_<;>intro h)|(refine gI ?_;intro x hx)|(refine gJ ?_;intro j x hj hx)|refine gV ?_|intro _))<;>try (conv=>whnf)
 refine au [0] [] [] ?_
 (conv=>whnf)
 refine ak.go ((Nat)×(Int)) (fun⟨k,m⟩=>(k≤l.length)∧((ah (aB jo) (l.take k) n).2=m)) (fun⟨k,m⟩=>[(5,.data (i64 k)),(1,.data (i64 m))]) (fun _=>[]) (fun _=>[]) (fun⟨k,m⟩=>l.length - k) ⟨0,n⟩ ?_ ?_
 ·exact⟨Nat.zero_le _,rfl⟩
 rintro⟨k,m⟩ ⟨hk,hm⟩
 have hmm:n≤m:=hm ▸ aD qI _ _
 by_cases hlt:k < l.length
 ·obtain⟨x,hx⟩:∃x,l[k]? =some x:=⟨_,List.getElem?_eq_getElem hlt⟩
  obtain⟨c,rfl,n0,_,rfl,m1,_,rfl,p1,m2,_,rfl,p2,rfl⟩:=ho x (List.mem_of_getElem? hx)
  have hg:=iX (g:=aB jo) l n k hx
  have hs:=iQ (g:=aB jo) l n k hx
  have hle:=kW qI l n (k+1)
  rw [hm] at hg hs
  conv at hg=>rhs;simp only [fH,AV.cells,aB,jo,List.set,List.headD,List.getElem?_cons_zero,List.getElem?_cons_succ]
  conv at hs=>rhs;simp only [AV.cells,aB,jo,List.set,List.getElem?_cons_zero,List.getElem?_cons_succ]
  rw [hs] at hle
  have q1:=aD fE m1 (m+1)
  have q2:=aD fE m2 (ah (aB bF) m1 (m+1)).2
  (repeat' ((conv=>whnf);first|with_reducible refine Idx.here hg rfl ?_|refine gA ?_|(refine gB ?_ ?_<;>intro h)|(refine gI ?_;intro x hx)|(refine gJ ?_;intro j x hj hx)|refine gV ?_|refine gC (kS m1 (m+1) (by omega) p1 (by omega)) ?_|refine gC (kS m2 (ah (aB bF) m1 (m+1)).2 (by omega) p2 (by omega)) ?_|intro _))<;>try (conv=>whnf)
  all_goals first
   |(exfalso;omega)
   |exact absurd trivial ‹¬True›
   |(apply Exists.intro (⟨k+1,_⟩)
     refine⟨?_,rfl,?_,?_⟩
     rotate_left
     ·(repeat' ((conv=>whnf)<;>(first|exact trivial|exact rfl|with_reducible refine And.intro ?_ ?_)))
     ·(try dsimp only);(try simp only [List.length_map]);omega
     exact⟨hlt,hs⟩)
 ·(repeat' ((conv=>whnf);first|(exfalso;omega)|refine gA ?_|(refine gB ?_ ?_<;>intro h)|(refine gI ?_;intro x hx)|(refine gJ ?_;intro j x hj hx)|refine gV ?_|intro _))<;>try (conv=>whnf)
  refine⟨?_,rfl,trivial⟩
  have:k=l.length:=by omega
  rw [← hm,this,List.take_length]
def aS:List Cm:=[.txt 0 textOf,.num 1,.call 2 (ah (aB jo))]
def IU:List Ck:=[.txt,.num,.sl fun m=>∀x∈m,FC x]
def oH (x:AV):Prop:=∃c,x= .agg c∧okC IU c
theorem mI:∀c k,k≤(aB aS c k).2:=jd (by simp [aS,Cm.mono,aD qI])
def IV:Nat→Option (MF×(List AV→Prop)):=fun f=>if f=135 then some (ah (aB jo),fun m=>∀x∈m,FC x) else none
theorem MJ:nM tab IV xx 139 Tryz.f60 (aB aS) (okC IU):=by
 refine⟨⟨_,_,_,_,_,_,_,_,_,_,_,_,_,_,_,_,_,_,_,_,_,_,_,_,_,_,_,_,_,rfl,⟨rfl,rfl,rfl,rfl⟩,⟨rfl,rfl,rfl,rfl⟩,⟨rfl,⟨rfl,rfl,rfl⟩,⟨rfl,rfl,rfl⟩,⟨rfl,rfl,rfl,rfl,rfl,rfl⟩,⟨rfl,⟨_,_,rfl⟩,rfl⟩,⟨by decide,by decide,by decide⟩,by decide⟩,rfl,rfl,rfl,rfl,rfl,rfl,by decide,?_,_,_,_,rfl,rfl,rfl,rfl,rfl,rfl,rfl,by decide⟩⟩
 rintro j k c e hc hk hb hj h0 h1 h5
 obtain⟨n0,_,rfl,n1,_,rfl,m2,_,rfl,p2,rfl⟩:=hc
 simp only [aB,aS,List.set,List.getElem?_cons_zero,List.getElem?_cons_succ] at hb ⊢
 have q1:=aD qI m2 ((k+1)+1)
 refine⟨?e1,?r1,?e2,?r2,?a,?b,?c⟩
 case r1=>(repeat' first|exact aM.nil|refine aM.mv (by first|exact h0|exact h1|exact h5|rfl) ?_|refine aM.ix rfl (by first|exact h0|exact h1|exact h5|rfl) (by first|exact h0|exact h1|exact h5|rfl) ?_|refine aM.fa rfl rfl ?_|refine aM.st ⟨rfl,rfl⟩ rfl (by first|exact h0|exact h1|exact h5|rfl) rfl rfl ?_|refine aM.inc (by first|exact h0|exact h1|exact h5|rfl) ⟨by omega,by omega⟩ ?_|refine aM.ld ⟨rfl,rfl⟩ rfl rfl ?_|refine aM.ca rfl (by first|exact h0|exact h1|exact h5|rfl) (by first|exact h0|exact h1|exact h5|rfl) rfl (by first|exact p2) (by omega) (by omega) ?_|refine aM.tx rfl (by first|exact h0|exact h1|exact h5|rfl) (by omega) ?_|refine aM.sti ⟨rfl,rfl⟩ rfl (by first|exact h0|exact h1|exact h5|rfl) rfl rfl ?_)
 case r2=>(repeat' first|exact aM.nil|refine aM.mv (by first|exact h5|rfl) ?_|refine aM.inc (by first|exact h5|rfl) ⟨by omega,by omega⟩ ?_)
 case a=>exact h0
 case b=>rfl
 case c=>rfl
theorem NV:kG Tryz.prog lim 60 (ah (aB aS)) (fun m=>∀x∈m,oH x):=
 (pQ rW (fun f F ok h=>by
 unfold IV at h
 split at h
 ·rename_i hf;cases h;subst hf;exact YB
 cases h) (fun f s h=>by
 unfold xx at h
 split at h
 ·rename_i hf;cases h;subst hf;exact pW
 cases h) Tryz.func60 Tryz.call60 rfl (by decide) mI (iF _) (sG _) (fun c h=>(kH h).trans rfl) MJ).imp fun m h x hx=>by
 obtain⟨c,rfl,k⟩:=h x hx;exact k
theorem BG (l:List AV) (n:Int) (hn:0≤n) (ho:∀x∈l,oH x) (hM:(ah (aB aS) l n).2≤4611686018427387904):Con 199 [.d (.sl (ah (aB aS) l n).1),.d (i64 n)] (.d (i64 (ah (aB aS) l n).2)):=by
 refine con Tryz.func199 rfl rfl Tryz.call199 rfl fun hwf=>?_
 simp only [ARs.wf,AR.wf,AV.wf,aW,lim] at hwf
 have hlen:=aW (aB aS) l n
 (repeat' ((conv=>whnf);first|refine gA ?_|(refine gB ?_ ?_<;>intro h)|(refine gI ?_;intro x hx)|(refine gJ ?_;intro j x hj hx)|refine gV ?_|intro _))<;>try (conv=>whnf)
 refine au [0] [] [] ?_
 (conv=>whnf)
 refine ak.go ((Nat)×(Int)) (fun⟨k,m⟩=>(k≤l.length)∧((ah (aB aS) (l.take k) n).2=m)) (fun⟨k,m⟩=>[(5,.data (i64 k)),(1,.data (i64 m))]) (fun _=>[]) (fun _=>[]) (fun⟨k,m⟩=>l.length - k) ⟨0,n⟩ ?_ ?_
 ·exact⟨Nat.zero_le _,rfl⟩
 rintro⟨k,m⟩ ⟨hk,hm⟩
 have hmm:n≤m:=hm ▸ aD mI _ _
 by_cases hlt:k < l.length
 ·obtain⟨x,hx⟩:∃x,l[k]? =some x:=⟨_,List.getElem?_eq_getElem hlt⟩
  obtain⟨c,rfl,n0,_,rfl,n1,_,rfl,m2,_,rfl,p2,rfl⟩:=ho x (List.mem_of_getElem? hx)
  have hg:=iX (g:=aB aS) l n k hx
  have hs:=iQ (g:=aB aS) l n k hx
  have hle:=kW mI l n (k+1)
  rw [hm] at hg hs
  conv at hg=>rhs;simp only [fH,AV.cells,aB,aS,List.set,List.headD,List.getElem?_cons_zero,List.getElem?_cons_succ]
  conv at hs=>rhs;simp only [AV.cells,aB,aS,List.set,List.getElem?_cons_zero,List.getElem?_cons_succ]
  rw [hs] at hle
  have q1:=aD qI m2 ((m+1)+1)
  (repeat' ((conv=>whnf);first|with_reducible refine Idx.here hg rfl ?_|refine gA ?_|(refine gB ?_ ?_<;>intro h)|(refine gI ?_;intro x hx)|(refine gJ ?_;intro j x hj hx)|refine gV ?_|refine gC (JB m (by omega)) ?_|refine gC (JC m2 ((m+1)+1) (by omega) p2 (by omega)) ?_|intro _))<;>try (conv=>whnf)
  all_goals first
   |(exfalso;omega)
   |exact absurd trivial ‹¬True›
   |(apply Exists.intro (⟨k+1,_⟩)
     refine⟨?_,rfl,?_,?_⟩
     rotate_left
     ·(repeat' ((conv=>whnf)<;>(first|exact trivial|exact rfl|with_reducible refine And.intro ?_ ?_)))
     ·(try dsimp only);(try simp only [List.length_map]);omega
     exact⟨hlt,hs⟩)
 ·(repeat' ((conv=>whnf);first|(exfalso;omega)|refine gA ?_|(refine gB ?_ ?_<;>intro h)|(refine gI ?_;intro x hx)|(refine gJ ?_;intro j x hj hx)|refine gV ?_|intro _))<;>try (conv=>whnf)
  refine⟨?_,rfl,trivial⟩
  have:k=l.length:=by omega
  rw [← hm,this,List.take_length]
def eZ:List Cm:=[.call 0 (ah (aB bF))]
def abn:List Ck:=[.sl fun m=>∀x∈m,mH x]
def vD (x:AV):Prop:=∃m,x= .sl m∧∀y∈m,mH y
theorem mJ:∀c k,k≤(aB eZ c k).2:=jd (by simp [eZ,Cm.mono,aD fE])
def XC:Nat→Option (MF×(List AV→Prop)):=fun f=>if f=63 then some (ah (aB bF),fun m=>∀x∈m,mH x) else none
theorem Ws:nM tab XC xx 25 Tryz.f137 (aB eZ) (okC abn):=by
 refine⟨⟨_,_,_,_,_,_,_,_,_,_,_,_,_,_,_,_,_,_,_,_,_,_,_,_,_,_,_,_,_,rfl,⟨rfl,rfl,rfl,rfl⟩,⟨rfl,rfl,rfl,rfl⟩,⟨rfl,⟨rfl,rfl,rfl⟩,⟨rfl,rfl,rfl⟩,⟨rfl,rfl,rfl,rfl,rfl,rfl⟩,⟨rfl,⟨_,_,rfl⟩,rfl⟩,⟨by decide,by decide,by decide⟩,by decide⟩,rfl,rfl,rfl,rfl,rfl,rfl,by decide,?_,_,_,_,rfl,rfl,rfl,rfl,rfl,rfl,rfl,by decide⟩⟩
 rintro j k c e hc hk hb hj h0 h1 h5
 obtain⟨m0,_,rfl,p0,rfl⟩:=hc
 simp only [aB,eZ,List.set,List.getElem?_cons_zero,List.getElem?_cons_succ] at hb ⊢
 have q1:=aD fE m0 k
 refine⟨?e1,?r1,?e2,?r2,?a,?b,?c⟩
 case r1=>(repeat' first|exact aM.nil|refine aM.mv (by first|exact h0|exact h1|exact h5|rfl) ?_|refine aM.ix rfl (by first|exact h0|exact h1|exact h5|rfl) (by first|exact h0|exact h1|exact h5|rfl) ?_|refine aM.fa rfl rfl ?_|refine aM.st ⟨rfl,rfl⟩ rfl (by first|exact h0|exact h1|exact h5|rfl) rfl rfl ?_|refine aM.inc (by first|exact h0|exact h1|exact h5|rfl) ⟨by omega,by omega⟩ ?_|refine aM.ld ⟨rfl,rfl⟩ rfl rfl ?_|refine aM.ca rfl (by first|exact h0|exact h1|exact h5|rfl) (by first|exact h0|exact h1|exact h5|rfl) rfl (by first|exact p0) (by omega) (by omega) ?_)
 case r2=>(repeat' first|exact aM.nil|refine aM.mv (by first|exact h5|rfl) ?_|refine aM.inc (by first|exact h5|rfl) ⟨by omega,by omega⟩ ?_)
 case a=>exact h0
 case b=>rfl
 case c=>rfl
theorem Pt:kG Tryz.prog lim 137 (ah (aB eZ)) (fun m=>∀x∈m,vD x):=
 (pQ rW (fun f F ok h=>by
 unfold XC at h
 split at h
 ·rename_i hf;cases h;subst hf;exact FB
 cases h) (fun f s h=>by
 unfold xx at h
 split at h
 ·rename_i hf;cases h;subst hf;exact pW
 cases h) Tryz.func137 Tryz.call137 rfl (by decide) mJ (iF _) (sG _) (fun c h=>(kH h).trans rfl) Ws).imp fun m h x hx=>by
 obtain⟨m,rfl,p⟩:=h x hx;exact⟨m,[],rfl,p,rfl⟩
theorem yY (l:List AV) (n:Int) (hn:0≤n) (ho:∀x∈l,vD x) (hM:(ah (aB eZ) l n).2≤4611686018427387904):Con 202 [.d (.sl (ah (aB eZ) l n).1),.d (i64 n)] (.d (i64 (ah (aB eZ) l n).2)):=by
 refine con Tryz.func202 rfl rfl Tryz.call202 rfl fun hwf=>?_
 simp only [ARs.wf,AR.wf,AV.wf,aW,lim] at hwf
 have hlen:=aW (aB eZ) l n
 (repeat' ((conv=>whnf);first|refine gA ?_|(refine gB ?_ ?_<;>intro h)|(refine gI ?_;intro x hx)|(refine gJ ?_;intro j x hj hx)|refine gV ?_|intro _))<;>try (conv=>whnf)
 refine au [0] [] [] ?_
 (conv=>whnf)
 refine ak.go ((Nat)×(Int)) (fun⟨k,m⟩=>(k≤l.length)∧((ah (aB eZ) (l.take k) n).2=m)) (fun⟨k,m⟩=>[(5,.data (i64 k)),(1,.data (i64 m))]) (fun _=>[]) (fun _=>[]) (fun⟨k,m⟩=>l.length - k) ⟨0,n⟩ ?_ ?_
 ·exact⟨Nat.zero_le _,rfl⟩
 rintro⟨k,m⟩ ⟨hk,hm⟩
 have hmm:n≤m:=hm ▸ aD mJ _ _
 by_cases hlt:k < l.length
 ·obtain⟨x,hx⟩:∃x,l[k]? =some x:=⟨_,List.getElem?_eq_getElem hlt⟩
  obtain⟨m0,rfl,p0⟩:=ho x (List.mem_of_getElem? hx)
  have hg:=iX (g:=aB eZ) l n k hx
  have hs:=iQ (g:=aB eZ) l n k hx
  have hle:=kW mJ l n (k+1)
  rw [hm] at hg hs
  conv at hg=>rhs;simp only [fH,AV.cells,aB,eZ,List.set,List.headD,List.getElem?_cons_zero,List.getElem?_cons_succ]
  conv at hs=>rhs;simp only [AV.cells,aB,eZ,List.set,List.getElem?_cons_zero,List.getElem?_cons_succ]
  rw [hs] at hle
  have q1:=aD fE m0 m
  (repeat' ((conv=>whnf);first|with_reducible refine Idx.here hg rfl ?_|refine gA ?_|(refine gB ?_ ?_<;>intro h)|(refine gI ?_;intro x hx)|(refine gJ ?_;intro j x hj hx)|refine gV ?_|refine gC (kS m0 m (by omega) p0 (by omega)) ?_|intro _))<;>try (conv=>whnf)
  all_goals first
   |(exfalso;omega)
   |exact absurd trivial ‹¬True›
   |(apply Exists.intro (⟨k+1,_⟩)
     refine⟨?_,rfl,?_,?_⟩
     rotate_left
     ·(repeat' ((conv=>whnf)<;>(first|exact trivial|exact rfl|with_reducible refine And.intro ?_ ?_)))
     ·(try dsimp only);(try simp only [List.length_map]);omega
     exact⟨hlt,hs⟩)
 ·(repeat' ((conv=>whnf);first|(exfalso;omega)|refine gA ?_|(refine gB ?_ ?_<;>intro h)|(refine gI ?_;intro x hx)|(refine gJ ?_;intro j x hj hx)|refine gV ?_|intro _))<;>try (conv=>whnf)
  refine⟨?_,rfl,trivial⟩
  have:k=l.length:=by omega
  rw [← hm,this,List.take_length]
def bQ:List Cm:=[.num 0,.num 1,.num 2]
def MK:List Ck:=[.num,.num,.num]
def ou (x:AV):Prop:=∃c,x= .agg c∧okC MK c
theorem kg:∀c k,k≤(aB bQ c k).2:=jd (by simp [bQ,Cm.mono])
def ML:Nat→Option (MF×(List AV→Prop)):=fun f=>none
theorem NW:nM tab ML xx 190 Tryz.f94 (aB bQ) (okC MK):=by
 refine⟨⟨_,_,_,_,_,_,_,_,_,_,_,_,_,_,_,_,_,_,_,_,_,_,_,_,_,_,_,_,_,rfl,⟨rfl,rfl,rfl,rfl⟩,⟨rfl,rfl,rfl,rfl⟩,⟨rfl,⟨rfl,rfl,rfl⟩,⟨rfl,rfl,rfl⟩,⟨rfl,rfl,rfl,rfl,rfl,rfl⟩,⟨rfl,⟨_,_,rfl⟩,rfl⟩,⟨by decide,by decide,by decide⟩,by decide⟩,rfl,rfl,rfl,rfl,rfl,rfl,by decide,?_,_,_,_,rfl,rfl,rfl,rfl,rfl,rfl,rfl,by decide⟩⟩
 rintro j k c e hc hk hb hj h0 h1 h5
 obtain⟨n0,_,rfl,n1,_,rfl,n2,_,rfl,rfl⟩:=hc
 simp only [aB,bQ,List.set,List.getElem?_cons_zero,List.getElem?_cons_succ] at hb ⊢
 refine⟨?e1,?r1,?e2,?r2,?a,?b,?c⟩
 case r1=>(repeat' first|exact aM.nil|refine aM.mv (by first|exact h0|exact h1|exact h5|rfl) ?_|refine aM.ix rfl (by first|exact h0|exact h1|exact h5|rfl) (by first|exact h0|exact h1|exact h5|rfl) ?_|refine aM.fa rfl rfl ?_|refine aM.st ⟨rfl,rfl⟩ rfl (by first|exact h0|exact h1|exact h5|rfl) rfl rfl ?_|refine aM.inc (by first|exact h0|exact h1|exact h5|rfl) ⟨by omega,by omega⟩ ?_|refine aM.ld ⟨rfl,rfl⟩ rfl rfl ?_)
 case r2=>(repeat' first|exact aM.nil|refine aM.mv (by first|exact h5|rfl) ?_|refine aM.inc (by first|exact h5|rfl) ⟨by omega,by omega⟩ ?_)
 case a=>exact h0
 case b=>rfl
 case c=>rfl
theorem FD:kG Tryz.prog lim 94 (ah (aB bQ)) (fun m=>∀x∈m,ou x):=
 (pQ rW (fun f F ok h=>by simp [ML] at h) (fun f s h=>by
 unfold xx at h
 split at h
 ·rename_i hf;cases h;subst hf;exact pW
 cases h) Tryz.func94 Tryz.call94 rfl (by decide) kg (iF _) (sG _) (fun c h=>(kH h).trans rfl) NW).imp fun m h x hx=>by
 obtain⟨c,rfl,k⟩:=h x hx;exact k
theorem uF (l:List AV) (n:Int) (hn:0≤n) (ho:∀x∈l,ou x) (hM:(ah (aB bQ) l n).2≤4611686018427387904):Con 98 [.d (.sl (ah (aB bQ) l n).1),.d (i64 n)] (.d (i64 (ah (aB bQ) l n).2)):=by
 refine con Tryz.func98 rfl rfl Tryz.call98 rfl fun hwf=>?_
 simp only [ARs.wf,AR.wf,AV.wf,aW,lim] at hwf
 have hlen:=aW (aB bQ) l n
 (repeat' ((conv=>whnf);first|refine gA ?_|(refine gB ?_ ?_<;>intro h)|(refine gI ?_;intro x hx)|(refine gJ ?_;intro j x hj hx)|refine gV ?_|intro _))<;>try (conv=>whnf)
 refine au [0] [] [] ?_
 (conv=>whnf)
 refine ak.go ((Nat)×(Int)) (fun⟨k,m⟩=>(k≤l.length)∧((ah (aB bQ) (l.take k) n).2=m)) (fun⟨k,m⟩=>[(5,.data (i64 k)),(1,.data (i64 m))]) (fun _=>[]) (fun _=>[]) (fun⟨k,m⟩=>l.length - k) ⟨0,n⟩ ?_ ?_
 ·exact⟨Nat.zero_le _,rfl⟩
 rintro⟨k,m⟩ ⟨hk,hm⟩
 have hmm:n≤m:=hm ▸ aD kg _ _
 by_cases hlt:k < l.length
 ·obtain⟨x,hx⟩:∃x,l[k]? =some x:=⟨_,List.getElem?_eq_getElem hlt⟩
  obtain⟨c,rfl,n0,_,rfl,n1,_,rfl,n2,_,rfl,rfl⟩:=ho x (List.mem_of_getElem? hx)
  have hg:=iX (g:=aB bQ) l n k hx
  have hs:=iQ (g:=aB bQ) l n k hx
  have hle:=kW kg l n (k+1)
  rw [hm] at hg hs
  conv at hg=>rhs;simp only [fH,AV.cells,aB,bQ,List.set,List.headD,List.getElem?_cons_zero,List.getElem?_cons_succ]
  conv at hs=>rhs;simp only [AV.cells,aB,bQ,List.set,List.getElem?_cons_zero,List.getElem?_cons_succ]
  rw [hs] at hle
  (repeat' ((conv=>whnf);first|with_reducible refine Idx.here hg rfl ?_|refine gA ?_|(refine gB ?_ ?_<;>intro h)|(refine gI ?_;intro x hx)|(refine gJ ?_;intro j x hj hx)|refine gV ?_|intro _))<;>try (conv=>whnf)
  all_goals first
   |(exfalso;omega)
   |exact absurd trivial ‹¬True›
   |(apply Exists.intro (⟨k+1,_⟩)
     refine⟨?_,rfl,?_,?_⟩
     rotate_left
     ·(repeat' ((conv=>whnf)<;>(first|exact trivial|exact rfl|with_reducible refine And.intro ?_ ?_)))
     ·(try dsimp only);(try simp only [List.length_map]);omega
     exact⟨hlt,hs⟩)
 ·(repeat' ((conv=>whnf);first|(exfalso;omega)|refine gA ?_|(refine gB ?_ ?_<;>intro h)|(refine gI ?_;intro x hx)|(refine gJ ?_;intro j x hj hx)|refine gV ?_|intro _))<;>try (conv=>whnf)
  refine⟨?_,rfl,trivial⟩
  have:k=l.length:=by omega
  rw [← hm,this,List.take_length]
def iT:List Cm:=[.num 0,.num 1,.num 2,.num 3,.num 4,.call 5 (ah (aB bQ))]
def XD:List Ck:=[.num,.num,.num,.num,.num,.sl fun m=>∀x∈m,ou x]
def FE (x:AV):Prop:=∃c,x= .agg c∧okC XD c
theorem yG:∀c k,k≤(aB iT c k).2:=jd (by simp [iT,Cm.mono,aD kg])
def XE:Nat→Option (MF×(List AV→Prop)):=fun f=>if f=94 then some (ah (aB bQ),fun m=>∀x∈m,ou x) else none
theorem Wt:nM tab XE xx 212 Tryz.f95 (aB iT) (okC XD):=by
 refine⟨⟨_,_,_,_,_,_,_,_,_,_,_,_,_,_,_,_,_,_,_,_,_,_,_,_,_,_,_,_,_,rfl,⟨rfl,rfl,rfl,rfl⟩,⟨rfl,rfl,rfl,rfl⟩,⟨rfl,⟨rfl,rfl,rfl⟩,⟨rfl,rfl,rfl⟩,⟨rfl,rfl,rfl,rfl,rfl,rfl⟩,⟨rfl,⟨_,_,rfl⟩,rfl⟩,⟨by decide,by decide,by decide⟩,by decide⟩,rfl,rfl,rfl,rfl,rfl,rfl,by decide,?_,_,_,_,rfl,rfl,rfl,rfl,rfl,rfl,rfl,by decide⟩⟩
 rintro j k c e hc hk hb hj h0 h1 h5
 obtain⟨n0,_,rfl,n1,_,rfl,n2,_,rfl,n3,_,rfl,n4,_,rfl,m5,_,rfl,p5,rfl⟩:=hc
 simp only [aB,iT,List.set,List.getElem?_cons_zero,List.getElem?_cons_succ] at hb ⊢
 have q1:=aD kg m5 (((((k+1)+1)+1)+1)+1)
 refine⟨?e1,?r1,?e2,?r2,?a,?b,?c⟩
 case r1=>(repeat' first|exact aM.nil|refine aM.mv (by first|exact h0|exact h1|exact h5|rfl) ?_|refine aM.ix rfl (by first|exact h0|exact h1|exact h5|rfl) (by first|exact h0|exact h1|exact h5|rfl) ?_|refine aM.fa rfl rfl ?_|refine aM.st ⟨rfl,rfl⟩ rfl (by first|exact h0|exact h1|exact h5|rfl) rfl rfl ?_|refine aM.inc (by first|exact h0|exact h1|exact h5|rfl) ⟨by omega,by omega⟩ ?_|refine aM.ld ⟨rfl,rfl⟩ rfl rfl ?_|refine aM.ca rfl (by first|exact h0|exact h1|exact h5|rfl) (by first|exact h0|exact h1|exact h5|rfl) rfl (by first|exact p5) (by omega) (by omega) ?_)
 case r2=>(repeat' first|exact aM.nil|refine aM.mv (by first|exact h5|rfl) ?_|refine aM.inc (by first|exact h5|rfl) ⟨by omega,by omega⟩ ?_)
 case a=>exact h0
 case b=>rfl
 case c=>rfl
theorem YC:kG Tryz.prog lim 95 (ah (aB iT)) (fun m=>∀x∈m,FE x):=
 (pQ rW (fun f F ok h=>by
 unfold XE at h
 split at h
 ·rename_i hf;cases h;subst hf;exact FD
 cases h) (fun f s h=>by
 unfold xx at h
 split at h
 ·rename_i hf;cases h;subst hf;exact pW
 cases h) Tryz.func95 Tryz.call95 rfl (by decide) yG (iF _) (sG _) (fun c h=>(kH h).trans rfl) Wt).imp fun m h x hx=>by
 obtain⟨c,rfl,k⟩:=h x hx;exact k
theorem JD (l:List AV) (n:Int) (hn:0≤n) (ho:∀x∈l,FE x) (hM:(ah (aB iT) l n).2≤4611686018427387904):Con 99 [.d (.sl (ah (aB iT) l n).1),.d (i64 n)] (.d (i64 (ah (aB iT) l n).2)):=by
 refine con Tryz.func99 rfl rfl Tryz.call99 rfl fun hwf=>?_
 simp only [ARs.wf,AR.wf,AV.wf,aW,lim] at hwf
 have hlen:=aW (aB iT) l n
 (repeat' ((conv=>whnf);first|refine gA ?_|(refine gB ?_ ?_<;>intro h)|(refine gI ?_;intro x hx)|(refine gJ ?_;intro j x hj hx)|refine gV ?_|intro _))<;>try (conv=>whnf)
 refine au [0] [] [] ?_
 (conv=>whnf)
 refine ak.go ((Nat)×(Int)) (fun⟨k,m⟩=>(k≤l.length)∧((ah (aB iT) (l.take k) n).2=m)) (fun⟨k,m⟩=>[(5,.data (i64 k)),(1,.data (i64 m))]) (fun _=>[]) (fun _=>[]) (fun⟨k,m⟩=>l.length - k) ⟨0,n⟩ ?_ ?_
 ·exact⟨Nat.zero_le _,rfl⟩
 rintro⟨k,m⟩ ⟨hk,hm⟩
 have hmm:n≤m:=hm ▸ aD yG _ _
 by_cases hlt:k < l.length
 ·obtain⟨x,hx⟩:∃x,l[k]? =some x:=⟨_,List.getElem?_eq_getElem hlt⟩
  obtain⟨c,rfl,n0,_,rfl,n1,_,rfl,n2,_,rfl,n3,_,rfl,n4,_,rfl,m5,_,rfl,p5,rfl⟩:=ho x (List.mem_of_getElem? hx)
  have hg:=iX (g:=aB iT) l n k hx
  have hs:=iQ (g:=aB iT) l n k hx
  have hle:=kW yG l n (k+1)
  rw [hm] at hg hs
  conv at hg=>rhs;simp only [fH,AV.cells,aB,iT,List.set,List.headD,List.getElem?_cons_zero,List.getElem?_cons_succ]
  conv at hs=>rhs;simp only [AV.cells,aB,iT,List.set,List.getElem?_cons_zero,List.getElem?_cons_succ]
  rw [hs] at hle
  have q1:=aD kg m5 (((((m+1)+1)+1)+1)+1)
  (repeat' ((conv=>whnf);first|with_reducible refine Idx.here hg rfl ?_|refine gA ?_|(refine gB ?_ ?_<;>intro h)|(refine gI ?_;intro x hx)|(refine gJ ?_;intro j x hj hx)|refine gV ?_|refine gC (uF m5 (((((m+1)+1)+1)+1)+1) (by omega) p5 (by omega)) ?_|intro _))<;>try (conv=>whnf)
  all_goals first
   |(exfalso;omega)
   |exact absurd trivial ‹¬True›
   |(apply Exists.intro (⟨k+1,_⟩)
     refine⟨?_,rfl,?_,?_⟩
     rotate_left
     ·(repeat' ((conv=>whnf)<;>(first|exact trivial|exact rfl|with_reducible refine And.intro ?_ ?_)))
     ·(try dsimp only);(try simp only [List.length_map]);omega
     exact⟨hlt,hs⟩)
 ·(repeat' ((conv=>whnf);first|(exfalso;omega)|refine gA ?_|(refine gB ?_ ?_<;>intro h)|(refine gI ?_;intro x hx)|(refine gJ ?_;intro j x hj hx)|refine gV ?_|intro _))<;>try (conv=>whnf)
  refine⟨?_,rfl,trivial⟩
  have:k=l.length:=by omega
  rw [← hm,this,List.take_length]
def dF:List Cm:=[.num 0,.num 1,.bit 2,.num 3]
def XF:List Ck:=[.num,.num,.bit,.num]
def Bd (x:AV):Prop:=∃c,x= .agg c∧okC XF c
theorem uG:∀c k,k≤(aB dF c k).2:=jd (by simp [dF,Cm.mono])
def XG:Nat→Option (MF×(List AV→Prop)):=fun f=>none
theorem Wu:nM tab XG xx 155 Tryz.f61 (aB dF) (okC XF):=by
 refine⟨⟨_,_,_,_,_,_,_,_,_,_,_,_,_,_,_,_,_,_,_,_,_,_,_,_,_,_,_,_,_,rfl,⟨rfl,rfl,rfl,rfl⟩,⟨rfl,rfl,rfl,rfl⟩,⟨rfl,⟨rfl,rfl,rfl⟩,⟨rfl,rfl,rfl⟩,⟨rfl,rfl,rfl,rfl,rfl,rfl⟩,⟨rfl,⟨_,_,rfl⟩,rfl⟩,⟨by decide,by decide,by decide⟩,by decide⟩,rfl,rfl,rfl,rfl,rfl,rfl,by decide,?_,_,_,_,rfl,rfl,rfl,rfl,rfl,rfl,rfl,by decide⟩⟩
 rintro j k c e hc hk hb hj h0 h1 h5
 obtain⟨n0,_,rfl,n1,_,rfl,n2,_,rfl,n3,_,rfl,rfl⟩:=hc
 simp only [aB,dF,List.set,List.getElem?_cons_zero,List.getElem?_cons_succ] at hb ⊢
 refine⟨?e1,?r1,?e2,?r2,?a,?b,?c⟩
 case r1=>(repeat' first|exact aM.nil|refine aM.mv (by first|exact h0|exact h1|exact h5|rfl) ?_|refine aM.ix rfl (by first|exact h0|exact h1|exact h5|rfl) (by first|exact h0|exact h1|exact h5|rfl) ?_|refine aM.fa rfl rfl ?_|refine aM.st ⟨rfl,rfl⟩ rfl (by first|exact h0|exact h1|exact h5|rfl) rfl rfl ?_|refine aM.inc (by first|exact h0|exact h1|exact h5|rfl) ⟨by omega,by omega⟩ ?_|refine aM.ld ⟨rfl,rfl⟩ rfl rfl ?_|refine aM.rem (by first|exact h0|exact h1|exact h5|rfl) (by omega) ?_|refine aM.eq0 (by first|exact h0|exact h1|exact h5|rfl) ?_|refine aM.sti ⟨rfl,rfl⟩ rfl (by first|exact h0|exact h1|exact h5|rfl) rfl rfl ?_)
 case r2=>(repeat' first|exact aM.nil|refine aM.mv (by first|exact h5|rfl) ?_|refine aM.inc (by first|exact h5|rfl) ⟨by omega,by omega⟩ ?_)
 case a=>exact h0
 case b=>rfl
 case c=>rfl
theorem YD:kG Tryz.prog lim 61 (ah (aB dF)) (fun m=>∀x∈m,Bd x):=
 (pQ rW (fun f F ok h=>by simp [XG] at h) (fun f s h=>by
 unfold xx at h
 split at h
 ·rename_i hf;cases h;subst hf;exact pW
 cases h) Tryz.func61 Tryz.call61 rfl (by decide) uG (iF _) (sG _) (fun c h=>(kH h).trans rfl) Wu).imp fun m h x hx=>by
 obtain⟨c,rfl,k⟩:=h x hx;exact k
theorem JE (l:List AV) (n:Int) (hn:0≤n) (ho:∀x∈l,Bd x) (hM:(ah (aB dF) l n).2≤4611686018427387904):Con 200 [.d (.sl (ah (aB dF) l n).1),.d (i64 n)] (.d (i64 (ah (aB dF) l n).2)):=by
 refine con Tryz.func200 rfl rfl Tryz.call200 rfl fun hwf=>?_
 simp only [ARs.wf,AR.wf,AV.wf,aW,lim] at hwf
 have hlen:=aW (aB dF) l n
 (repeat' ((conv=>whnf);first|refine gA ?_|(refine gB ?_ ?_<;>intro h)|(refine gI ?_;intro x hx)|(refine gJ ?_;intro j x hj hx)|refine gV ?_|intro _))<;>try (conv=>whnf)
 refine au [0] [] [] ?_
 (conv=>whnf)
 refine ak.go ((Nat)×(Int)) (fun⟨k,m⟩=>(k≤l.length)∧((ah (aB dF) (l.take k) n).2=m)) (fun⟨k,m⟩=>[(5,.data (i64 k)),(1,.data (i64 m))]) (fun _=>[]) (fun _=>[]) (fun⟨k,m⟩=>l.length - k) ⟨0,n⟩ ?_ ?_
 ·exact⟨Nat.zero_le _,rfl⟩
 rintro⟨k,m⟩ ⟨hk,hm⟩
 have hmm:n≤m:=hm ▸ aD uG _ _
 by_cases hlt:k < l.length
 ·obtain⟨x,hx⟩:∃x,l[k]? =some x:=⟨_,List.getElem?_eq_getElem hlt⟩
  obtain⟨c,rfl,n0,_,rfl,n1,_,rfl,n2,_,rfl,n3,_,rfl,rfl⟩:=ho x (List.mem_of_getElem? hx)
  have hg:=iX (g:=aB dF) l n k hx
  have hs:=iQ (g:=aB dF) l n k hx
  have hle:=kW uG l n (k+1)
  rw [hm] at hg hs
  conv at hg=>rhs;simp only [fH,AV.cells,aB,dF,List.set,List.headD,List.getElem?_cons_zero,List.getElem?_cons_succ]
  conv at hs=>rhs;simp only [AV.cells,aB,dF,List.set,List.getElem?_cons_zero,List.getElem?_cons_succ]
  rw [hs] at hle
  (repeat' ((conv=>whnf);first|with_reducible refine Idx.here hg rfl ?_|with_reducible refine Br.yes (agf (by omega)) ?_|refine gA ?_|(refine gB ?_ ?_<;>intro h)|(refine gI ?_;intro x hx)|(refine gJ ?_;intro j x hj hx)|refine gV ?_|intro _))<;>try (conv=>whnf)
  all_goals first
   |(exfalso;omega)
   |exact absurd trivial ‹¬True›
   |(apply Exists.intro (⟨k+1,_⟩)
     refine⟨?_,rfl,?_,?_⟩
     rotate_left
     ·(repeat' ((conv=>whnf)<;>(first|exact trivial|exact rfl|with_reducible refine And.intro ?_ ?_)))
     ·(try dsimp only);(try simp only [List.length_map]);omega
     exact⟨hlt,hs⟩)
 ·(repeat' ((conv=>whnf);first|(exfalso;omega)|refine gA ?_|(refine gB ?_ ?_<;>intro h)|(refine gI ?_;intro x hx)|(refine gJ ?_;intro j x hj hx)|refine gV ?_|intro _))<;>try (conv=>whnf)
  refine⟨?_,rfl,trivial⟩
  have:k=l.length:=by omega
  rw [← hm,this,List.take_length]
def iA:List Cm:=[.num 0,.num 1]
def XH:List Ck:=[.num,.num]
def FH (x:AV):Prop:=∃c,x= .agg c∧okC XH c
theorem qJ:∀c k,k≤(aB iA c k).2:=jd (by simp [iA,Cm.mono])
def XI:Nat→Option (MF×(List AV→Prop)):=fun f=>none
theorem Wv:nM tab XI xx 229 Tryz.f136 (aB iA) (okC XH):=by
 refine⟨⟨_,_,_,_,_,_,_,_,_,_,_,_,_,_,_,_,_,_,_,_,_,_,_,_,_,_,_,_,_,rfl,⟨rfl,rfl,rfl,rfl⟩,⟨rfl,rfl,rfl,rfl⟩,⟨rfl,⟨rfl,rfl,rfl⟩,⟨rfl,rfl,rfl⟩,⟨rfl,rfl,rfl,rfl,rfl,rfl⟩,⟨rfl,⟨_,_,rfl⟩,rfl⟩,⟨by decide,by decide,by decide⟩,by decide⟩,rfl,rfl,rfl,rfl,rfl,rfl,by decide,?_,_,_,_,rfl,rfl,rfl,rfl,rfl,rfl,rfl,by decide⟩⟩
 rintro j k c e hc hk hb hj h0 h1 h5
 obtain⟨n0,_,rfl,n1,_,rfl,rfl⟩:=hc
 simp only [aB,iA,List.set,List.getElem?_cons_zero,List.getElem?_cons_succ] at hb ⊢
 refine⟨?e1,?r1,?e2,?r2,?a,?b,?c⟩
 case r1=>(repeat' first|exact aM.nil|refine aM.mv (by first|exact h0|exact h1|exact h5|rfl) ?_|refine aM.ix rfl (by first|exact h0|exact h1|exact h5|rfl) (by first|exact h0|exact h1|exact h5|rfl) ?_|refine aM.fa rfl rfl ?_|refine aM.st ⟨rfl,rfl⟩ rfl (by first|exact h0|exact h1|exact h5|rfl) rfl rfl ?_|refine aM.inc (by first|exact h0|exact h1|exact h5|rfl) ⟨by omega,by omega⟩ ?_|refine aM.ld ⟨rfl,rfl⟩ rfl rfl ?_)
 case r2=>(repeat' first|exact aM.nil|refine aM.mv (by first|exact h5|rfl) ?_|refine aM.inc (by first|exact h5|rfl) ⟨by omega,by omega⟩ ?_)
 case a=>exact h0
 case b=>rfl
 case c=>rfl
theorem YE:kG Tryz.prog lim 136 (ah (aB iA)) (fun m=>∀x∈m,FH x):=
 (pQ rW (fun f F ok h=>by simp [XI] at h) (fun f s h=>by
 unfold xx at h
 split at h
 ·rename_i hf;cases h;subst hf;exact pW
 cases h) Tryz.func136 Tryz.call136 rfl (by decide) qJ (iF _) (sG _) (fun c h=>(kH h).trans rfl) Wv).imp fun m h x hx=>by
 obtain⟨c,rfl,k⟩:=h x hx;exact k
theorem JF (l:List AV) (n:Int) (hn:0≤n) (ho:∀x∈l,FH x) (hM:(ah (aB iA) l n).2≤4611686018427387904):Con 299 [.d (.sl (ah (aB iA) l n).1),.d (i64 n)] (.d (i64 (ah (aB iA) l n).2)):=by
 refine con Tryz.func299 rfl rfl Tryz.call299 rfl fun hwf=>?_
 simp only [ARs.wf,AR.wf,AV.wf,aW,lim] at hwf
 have hlen:=aW (aB iA) l n
 (repeat' ((conv=>whnf);first|refine gA ?_|(refine gB ?_ ?_<;>intro h)|(refine gI ?_;intro x hx)|(refine gJ ?_;intro j x hj hx)|refine gV ?_|intro _))<;>try (conv=>whnf)
 refine au [0] [] [] ?_
 (conv=>whnf)
 refine ak.go ((Nat)×(Int)) (fun⟨k,m⟩=>(k≤l.length)∧((ah (aB iA) (l.take k) n).2=m)) (fun⟨k,m⟩=>[(5,.data (i64 k)),(1,.data (i64 m))]) (fun _=>[]) (fun _=>[]) (fun⟨k,m⟩=>l.length - k) ⟨0,n⟩ ?_ ?_
 ·exact⟨Nat.zero_le _,rfl⟩
 rintro⟨k,m⟩ ⟨hk,hm⟩
 have hmm:n≤m:=hm ▸ aD qJ _ _
 by_cases hlt:k < l.length
 ·obtain⟨x,hx⟩:∃x,l[k]? =some x:=⟨_,List.getElem?_eq_getElem hlt⟩
  obtain⟨c,rfl,n0,_,rfl,n1,_,rfl,rfl⟩:=ho x (List.mem_of_getElem? hx)
  have hg:=iX (g:=aB iA) l n k hx
  have hs:=iQ (g:=aB iA) l n k hx
  have hle:=kW qJ l n (k+1)
  rw [hm] at hg hs
  conv at hg=>rhs;simp only [fH,AV.cells,aB,iA,List.set,List.headD,List.getElem?_cons_zero,List.getElem?_cons_succ]
  conv at hs=>rhs;simp only [AV.cells,aB,iA,List.set,List.getElem?_cons_zero,List.getElem?_cons_succ]
  rw [hs] at hle
  (repeat' ((conv=>whnf);first|with_reducible refine Idx.here hg rfl ?_|refine gA ?_|(refine gB ?_ ?_<;>intro h)|(refine gI ?_;intro x hx)|(refine gJ ?_;intro j x hj hx)|refine gV ?_|intro _))<;>try (conv=>whnf)
  all_goals first
   |(exfalso;omega)
   |exact absurd trivial ‹¬True›
   |(apply Exists.intro (⟨k+1,_⟩)
     refine⟨?_,rfl,?_,?_⟩
     rotate_left
     ·(repeat' ((conv=>whnf)<;>(first|exact trivial|exact rfl|with_reducible refine And.intro ?_ ?_)))
     ·(try dsimp only);(try simp only [List.length_map]);omega
     exact⟨hlt,hs⟩)
 ·(repeat' ((conv=>whnf);first|(exfalso;omega)|refine gA ?_|(refine gB ?_ ?_<;>intro h)|(refine gI ?_;intro x hx)|(refine gJ ?_;intro j x hj hx)|refine gV ?_|intro _))<;>try (conv=>whnf)
  refine⟨?_,rfl,trivial⟩
  have:k=l.length:=by omega
  rw [← hm,this,List.take_length]
def bg:List Cm:=[.call 0 (ah (aB iA)),.call 1 (ah (aB eZ))]
def IW:List Ck:=[.sl fun m=>∀x∈m,FH x,.sl fun m=>∀x∈m,vD x]
def oI (x:AV):Prop:=∃c,x= .agg c∧okC IW c
theorem mK:∀c k,k≤(aB bg c k).2:=jd (by simp [bg,Cm.mono,aD qJ,aD mJ])
def IX:Nat→Option (MF×(List AV→Prop)):=fun f=>if f=137 then some (ah (aB eZ),fun m=>∀x∈m,vD x) else if f=136 then some (ah (aB iA),fun m=>∀x∈m,FH x) else none
theorem MN:nM tab IX xx 145 Tryz.f62 (aB bg) (okC IW):=by
 refine⟨⟨_,_,_,_,_,_,_,_,_,_,_,_,_,_,_,_,_,_,_,_,_,_,_,_,_,_,_,_,_,rfl,⟨rfl,rfl,rfl,rfl⟩,⟨rfl,rfl,rfl,rfl⟩,⟨rfl,⟨rfl,rfl,rfl⟩,⟨rfl,rfl,rfl⟩,⟨rfl,rfl,rfl,rfl,rfl,rfl⟩,⟨rfl,⟨_,_,rfl⟩,rfl⟩,⟨by decide,by decide,by decide⟩,by decide⟩,rfl,rfl,rfl,rfl,rfl,rfl,by decide,?_,_,_,_,rfl,rfl,rfl,rfl,rfl,rfl,rfl,by decide⟩⟩
 rintro j k c e hc hk hb hj h0 h1 h5
 obtain⟨m0,_,rfl,p0,m1,_,rfl,p1,rfl⟩:=hc
 simp only [aB,bg,List.set,List.getElem?_cons_zero,List.getElem?_cons_succ] at hb ⊢
 have q1:=aD qJ m0 k
 have q2:=aD mJ m1 (ah (aB iA) m0 k).2
 refine⟨?e1,?r1,?e2,?r2,?a,?b,?c⟩
 case r1=>(repeat' first|exact aM.nil|refine aM.mv (by first|exact h0|exact h1|exact h5|rfl) ?_|refine aM.ix rfl (by first|exact h0|exact h1|exact h5|rfl) (by first|exact h0|exact h1|exact h5|rfl) ?_|refine aM.fa rfl rfl ?_|refine aM.st ⟨rfl,rfl⟩ rfl (by first|exact h0|exact h1|exact h5|rfl) rfl rfl ?_|refine aM.inc (by first|exact h0|exact h1|exact h5|rfl) ⟨by omega,by omega⟩ ?_|refine aM.ld ⟨rfl,rfl⟩ rfl rfl ?_|refine aM.ca rfl (by first|exact h0|exact h1|exact h5|rfl) (by first|exact h0|exact h1|exact h5|rfl) rfl (by first|exact p0|exact p1) (by omega) (by omega) ?_)
 case r2=>(repeat' first|exact aM.nil|refine aM.mv (by first|exact h5|rfl) ?_|refine aM.inc (by first|exact h5|rfl) ⟨by omega,by omega⟩ ?_)
 case a=>exact h0
 case b=>rfl
 case c=>rfl
theorem NY:kG Tryz.prog lim 62 (ah (aB bg)) (fun m=>∀x∈m,oI x):=
 (pQ rW (fun f F ok h=>by
 unfold IX at h
 split at h
 ·rename_i hf;cases h;subst hf;exact Pt
 split at h
 ·rename_i hf;cases h;subst hf;exact YE
 cases h) (fun f s h=>by
 unfold xx at h
 split at h
 ·rename_i hf;cases h;subst hf;exact pW
 cases h) Tryz.func62 Tryz.call62 rfl (by decide) mK (iF _) (sG _) (fun c h=>(kH h).trans rfl) MN).imp fun m h x hx=>by
 obtain⟨c,rfl,k⟩:=h x hx;exact k
theorem BH (l:List AV) (n:Int) (hn:0≤n) (ho:∀x∈l,oI x) (hM:(ah (aB bg) l n).2≤4611686018427387904):Con 201 [.d (.sl (ah (aB bg) l n).1),.d (i64 n)] (.d (i64 (ah (aB bg) l n).2)):=by
 refine con Tryz.func201 rfl rfl Tryz.call201 rfl fun hwf=>?_
 simp only [ARs.wf,AR.wf,AV.wf,aW,lim] at hwf
 have hlen:=aW (aB bg) l n
 (repeat' ((conv=>whnf);first|refine gA ?_|(refine gB ?_ ?_<;>intro h)|(refine gI ?_;intro x hx)|(refine gJ ?_;intro j x hj hx)|refine gV ?_|intro _))<;>try (conv=>whnf)
 refine au [0] [] [] ?_
 (conv=>whnf)
 refine ak.go ((Nat)×(Int)) (fun⟨k,m⟩=>(k≤l.length)∧((ah (aB bg) (l.take k) n).2=m)) (fun⟨k,m⟩=>[(5,.data (i64 k)),(1,.data (i64 m))]) (fun _=>[]) (fun _=>[]) (fun⟨k,m⟩=>l.length - k) ⟨0,n⟩ ?_ ?_
 ·exact⟨Nat.zero_le _,rfl⟩
 rintro⟨k,m⟩ ⟨hk,hm⟩
 have hmm:n≤m:=hm ▸ aD mK _ _
 by_cases hlt:k < l.length
 ·obtain⟨x,hx⟩:∃x,l[k]? =some x:=⟨_,List.getElem?_eq_getElem hlt⟩
  obtain⟨c,rfl,m0,_,rfl,p0,m1,_,rfl,p1,rfl⟩:=ho x (List.mem_of_getElem? hx)
  have hg:=iX (g:=aB bg) l n k hx
  have hs:=iQ (g:=aB bg) l n k hx
  have hle:=kW mK l n (k+1)
  rw [hm] at hg hs
  conv at hg=>rhs;simp only [fH,AV.cells,aB,bg,List.set,List.headD,List.getElem?_cons_zero,List.getElem?_cons_succ]
  conv at hs=>rhs;simp only [AV.cells,aB,bg,List.set,List.getElem?_cons_zero,List.getElem?_cons_succ]
  rw [hs] at hle
  have q1:=aD qJ m0 m
  have q2:=aD mJ m1 (ah (aB iA) m0 m).2
  (repeat' ((conv=>whnf);first|with_reducible refine Idx.here hg rfl ?_|refine gA ?_|(refine gB ?_ ?_<;>intro h)|(refine gI ?_;intro x hx)|(refine gJ ?_;intro j x hj hx)|refine gV ?_|refine gC (JF m0 m (by omega) p0 (by omega)) ?_|refine gC (yY m1 (ah (aB iA) m0 m).2 (by omega) p1 (by omega)) ?_|intro _))<;>try (conv=>whnf)
  all_goals first
   |(exfalso;omega)
   |exact absurd trivial ‹¬True›
   |(apply Exists.intro (⟨k+1,_⟩)
     refine⟨?_,rfl,?_,?_⟩
     rotate_left
     ·(repeat' ((conv=>whnf)<;>(first|exact trivial|exact rfl|with_reducible refine And.intro ?_ ?_)))
     ·(try dsimp only);(try simp only [List.length_map]);omega
     exact⟨hlt,hs⟩)
 ·(repeat' ((conv=>whnf);first|(exfalso;omega)|refine gA ?_|(refine gB ?_ ?_<;>intro h)|(refine gI ?_;intro x hx)|(refine gJ ?_;intro j x hj hx)|refine gV ?_|intro _))<;>try (conv=>whnf)
  refine⟨?_,rfl,trivial⟩
  have:k=l.length:=by omega
  rw [← hm,this,List.take_length]
def jU:List Cm:=[.call 0 (ah (aB bF)),.call 1 (ah (aB bF)),.call 2 (ah (aB eZ))]
def FI:List Ck:=[.sl fun m=>∀x∈m,mH x,.sl fun m=>∀x∈m,mH x,.sl fun m=>∀x∈m,vD x]
def UJ:Nat→Option (MF×(List AV→Prop)):=fun f=>if f=137 then some (ah (aB eZ),fun m=>∀x∈m,vD x) else if f=63 then some (ah (aB bF),fun m=>∀x∈m,mH x) else none
def UK:Nat→Option ((Int→ByteArray) ⊕ (MF×(List AV→Prop))):=fun f=>none
theorem UL:JL tab UJ UK 61 Tryz.f93 (aB jU) (okC FI):=by
 refine⟨⟨_,_,_,_,_,_,_,rfl,⟨rfl,rfl,rfl,rfl,rfl,rfl,rfl⟩,rfl,rfl,rfl,by decide,?_⟩⟩
 rintro k c e hc hk hb h1 h2
 obtain⟨m0,_,rfl,p0,m1,_,rfl,p1,m2,_,rfl,p2,rfl⟩:=hc
 simp only [aB,jU,List.set,List.getElem?_cons_zero,List.getElem?_cons_succ] at hb ⊢
 have q1:=aD fE m0 k
 have q2:=aD fE m1 (ah (aB bF) m0 k).2
 have q3:=aD mJ m2 (ah (aB bF) m1 (ah (aB bF) m0 k).2).2
 refine⟨?e1,?r1,?a⟩
 case r1=>(repeat' first|exact aM.nil|refine aM.mv (by first|exact h1|exact h2|rfl) ?_|refine aM.fa rfl (by first|exact h1|exact h2|rfl) ?_|refine aM.ld ⟨rfl,rfl⟩ (by first|exact h1|exact h2|rfl) rfl ?_|refine aM.ca rfl (by first|exact h1|exact h2|rfl) (by first|exact h1|exact h2|rfl) rfl (by first|exact p0|exact p1|exact p2) (by omega) (by omega) ?_)
 case a=>rfl
theorem Ww:Gz Tryz.prog lim 93 (aB jU) (okC FI):=
 QY rW (fun f F ok h=>by
 unfold UJ at h
 split at h
 ·rename_i hf;cases h;subst hf;exact Pt
 split at h
 ·rename_i hf;cases h;subst hf;exact FB
 cases h) (fun f s h=>by simp [UK] at h) Tryz.func93 Tryz.call93 rfl (fun c h=>(kH h).trans rfl) (iF _) UL
def iJ:List Cm:=[.call 1 (ah (aB aS)),.call 2 (ah (aB dF)),.call 3 (ah (aB bg)),.call 4 (ah (aB bF))]
def Bf:List Ck:=[.num,.sl fun m=>∀x∈m,oH x,.sl fun m=>∀x∈m,Bd x,.sl fun m=>∀x∈m,oI x,.sl fun m=>∀x∈m,mH x]
def Pv:Nat→Option (MF×(List AV→Prop)):=fun f=>if f=63 then some (ah (aB bF),fun m=>∀x∈m,mH x) else if f=62 then some (ah (aB bg),fun m=>∀x∈m,oI x) else if f=61 then some (ah (aB dF),fun m=>∀x∈m,Bd x) else if f=60 then some (ah (aB aS),fun m=>∀x∈m,oH x) else none
def Pw:Nat→Option ((Int→ByteArray) ⊕ (MF×(List AV→Prop))):=fun f=>none
theorem RL:JL tab Pv Pw 41 Tryz.f16 (aB iJ) (okC Bf):=by
 refine⟨⟨_,_,_,_,_,_,_,rfl,⟨rfl,rfl,rfl,rfl,rfl,rfl,rfl⟩,rfl,rfl,rfl,by decide,?_⟩⟩
 rintro k c e hc hk hb h1 h2
 obtain⟨n0,_,rfl,m1,_,rfl,p1,m2,_,rfl,p2,m3,_,rfl,p3,m4,_,rfl,p4,rfl⟩:=hc
 simp only [aB,iJ,List.set,List.getElem?_cons_zero,List.getElem?_cons_succ] at hb ⊢
 have q1:=aD mI m1 k
 have q2:=aD uG m2 (ah (aB aS) m1 k).2
 have q3:=aD mK m3 (ah (aB dF) m2 (ah (aB aS) m1 k).2).2
 have q4:=aD fE m4 (ah (aB bg) m3 (ah (aB dF) m2 (ah (aB aS) m1 k).2).2).2
 refine⟨?e1,?r1,?a⟩
 case r1=>(repeat' first|exact aM.nil|refine aM.mv (by first|exact h1|exact h2|rfl) ?_|refine aM.fa rfl (by first|exact h1|exact h2|rfl) ?_|refine aM.ld ⟨rfl,rfl⟩ (by first|exact h1|exact h2|rfl) rfl ?_|refine aM.ca rfl (by first|exact h1|exact h2|rfl) (by first|exact h1|exact h2|rfl) rfl (by first|exact p1|exact p2|exact p3|exact p4) (by omega) (by omega) ?_)
 case a=>rfl
theorem UM:Gz Tryz.prog lim 16 (aB iJ) (okC Bf):=
 QY rW (fun f F ok h=>by
 unfold Pv at h
 split at h
 ·rename_i hf;cases h;subst hf;exact FB
 split at h
 ·rename_i hf;cases h;subst hf;exact NY
 split at h
 ·rename_i hf;cases h;subst hf;exact YD
 split at h
 ·rename_i hf;cases h;subst hf;exact NV
 cases h) (fun f s h=>by simp [Pw] at h) Tryz.func16 Tryz.call16 rfl (fun c h=>(kH h).trans rfl) (iF _) RL
def Cw:List Cm:=[.call 1 (ah (aB aS)),.call 2 (ah (aB dF)),.call 3 (ah (aB bg)),.call 4 (ah (aB bF)),.call 5 (ah (aB bF)),.call 6 (ah (aB bF)),.call 7 (ah (aB eZ)),.call 8 (ah (aB bQ)),.call 9 (ah (aB iT))]
def XJ:List Ck:=[.num,.sl fun m=>∀x∈m,oH x,.sl fun m=>∀x∈m,Bd x,.sl fun m=>∀x∈m,oI x,.sl fun m=>∀x∈m,mH x,.sl fun m=>∀x∈m,mH x,.sl fun m=>∀x∈m,mH x,.sl fun m=>∀x∈m,vD x,.sl fun m=>∀x∈m,ou x,.sl fun m=>∀x∈m,FE x]
def abP:Nat→Option (MF×(List AV→Prop)):=fun f=>if f=95 then some (ah (aB iT),fun m=>∀x∈m,FE x) else if f=94 then some (ah (aB bQ),fun m=>∀x∈m,ou x) else none
def abQ:Nat→Option ((Int→ByteArray) ⊕ (MF×(List AV→Prop))):=fun f=>if f=93 then some (.inr (aB jU,okC FI)) else if f=16 then some (.inr (aB iJ,okC Bf)) else none
theorem aar:JL tab abP abQ 65 Tryz.f28 (aB Cw) (okC XJ):=by
 refine⟨⟨_,_,_,_,_,_,_,rfl,⟨rfl,rfl,rfl,rfl,rfl,rfl,rfl⟩,rfl,rfl,rfl,by decide,?_⟩⟩
 rintro k c e hc hk hb h1 h2
 obtain⟨n0,_,rfl,m1,_,rfl,p1,m2,_,rfl,p2,m3,_,rfl,p3,m4,_,rfl,p4,m5,_,rfl,p5,m6,_,rfl,p6,m7,_,rfl,p7,m8,_,rfl,p8,m9,_,rfl,p9,rfl⟩:=hc
 simp only [aB,Cw,List.set,List.getElem?_cons_zero,List.getElem?_cons_succ] at hb ⊢
 have q1:=aD mI m1 k
 have q2:=aD uG m2 (ah (aB aS) m1 k).2
 have q3:=aD mK m3 (ah (aB dF) m2 (ah (aB aS) m1 k).2).2
 have q4:=aD fE m4 (ah (aB bg) m3 (ah (aB dF) m2 (ah (aB aS) m1 k).2).2).2
 have q5:=aD fE m5 (ah (aB bF) m4 (ah (aB bg) m3 (ah (aB dF) m2 (ah (aB aS) m1 k).2).2).2).2
 have q6:=aD fE m6 (ah (aB bF) m5 (ah (aB bF) m4 (ah (aB bg) m3 (ah (aB dF) m2 (ah (aB aS) m1 k).2).2).2).2).2
 have q7:=aD mJ m7 (ah (aB bF) m6 (ah (aB bF) m5 (ah (aB bF) m4 (ah (aB bg) m3 (ah (aB dF) m2 (ah (aB aS) m1 k).2).2).2).2).2).2
 have q8:=aD kg m8 (ah (aB eZ) m7 (ah (aB bF) m6 (ah (aB bF) m5 (ah (aB bF) m4 (ah (aB bg) m3 (ah (aB dF) m2 (ah (aB aS) m1 k).2).2).2).2).2).2).2
 have q9:=aD yG m9 (ah (aB bQ) m8 (ah (aB eZ) m7 (ah (aB bF) m6 (ah (aB bF) m5 (ah (aB bF) m4 (ah (aB bg) m3 (ah (aB dF) m2 (ah (aB aS) m1 k).2).2).2).2).2).2).2).2
 refine⟨?e1,?r1,?a⟩
 case r1=>(repeat' first|exact aM.nil|refine aM.mv (by first|exact h1|exact h2|rfl|exact (show _=some (MV.ptr 0) by simp [Env.put,Env.cut,h2])) ?_|refine aM.fa rfl (by first|exact h1|exact h2|rfl|exact (show _=some (MV.ptr 0) by simp [Env.put,Env.cut,h2])) ?_|refine aM.ld ⟨rfl,rfl⟩ (by first|exact h1|exact h2|rfl|exact (show _=some (MV.ptr 0) by simp [Env.put,Env.cut,h2])) rfl ?_|refine aM.ca rfl (by first|exact h1|exact h2|rfl|exact (show _=some (MV.ptr 0) by simp [Env.put,Env.cut,h2])) (by first|exact h1|exact h2|rfl|exact (show _=some (MV.ptr 0) by simp [Env.put,Env.cut,h2])) rfl (by first|exact p8|exact p9) (by omega) (by omega) ?_|(refine aM.aeF (off:=0) (n:=5) (F:=aB iJ) (ok:=okC Bf) rfl (by first|exact h1|exact h2|rfl|exact (show _=some (MV.ptr 0) by simp [Env.put,Env.cut,h2])) (by first|exact h1|exact h2|rfl|exact (show _=some (MV.ptr 0) by simp [Env.put,Env.cut,h2])) (Nat.le_of_ble_eq_true rfl) (by exact⟨_,_,rfl,_,_,rfl,p1,_,_,rfl,p2,_,_,rfl,p3,_,_,rfl,p4,rfl⟩) (by omega) (by simp only [List.take,List.drop,List.take_zero,List.drop_zero,List.take_succ_cons,List.drop_succ_cons,List.take_nil,List.drop_nil,List.nil_append,List.cons_append,aB,iJ,List.set,List.getElem?_cons_zero,List.getElem?_cons_succ];omega) (Nat.le_of_ble_eq_true rfl) ?_;simp only [List.take,List.drop,List.take_zero,List.drop_zero,List.take_succ_cons,List.drop_succ_cons,List.take_nil,List.drop_nil,List.nil_append,List.cons_append,aB,iJ,List.set,List.getElem?_cons_zero,List.getElem?_cons_succ])|refine aM.lds (n:=5) ⟨rfl,rfl,rfl⟩ (by first|exact h1|exact h2|rfl|exact (show _=some (MV.ptr 0) by simp [Env.put,Env.cut,h2])) (Nat.le_of_ble_eq_true rfl) ?_|(refine aM.aeF (off:=5) (n:=3) (F:=aB jU) (ok:=okC FI) rfl (by first|exact h1|exact h2|rfl|exact (show _=some (MV.ptr 0) by simp [Env.put,Env.cut,h2])) (by first|exact h1|exact h2|rfl|exact (show _=some (MV.ptr 0) by simp [Env.put,Env.cut,h2])) (Nat.le_of_ble_eq_true rfl) (by exact⟨_,_,rfl,p5,_,_,rfl,p6,_,_,rfl,p7,rfl⟩) (by omega) (by simp only [List.take,List.drop,List.take_zero,List.drop_zero,List.take_succ_cons,List.drop_succ_cons,List.take_nil,List.drop_nil,List.nil_append,List.cons_append,aB,jU,List.set,List.getElem?_cons_zero,List.getElem?_cons_succ];omega) (Nat.le_of_ble_eq_true rfl) ?_;simp only [List.take,List.drop,List.take_zero,List.drop_zero,List.take_succ_cons,List.drop_succ_cons,List.take_nil,List.drop_nil,List.nil_append,List.cons_append,aB,jU,List.set,List.getElem?_cons_zero,List.getElem?_cons_succ])|refine aM.lds (n:=3) ⟨rfl,rfl,rfl⟩ (by first|exact h1|exact h2|rfl|exact (show _=some (MV.ptr 0) by simp [Env.put,Env.cut,h2])) (Nat.le_of_ble_eq_true rfl) ?_)
 case a=>rfl
theorem abo:Gz Tryz.prog lim 28 (aB Cw) (okC XJ):=
 QY rW (fun f F ok h=>by
 unfold abP at h
 split at h
 ·rename_i hf;cases h;subst hf;exact YC
 split at h
 ·rename_i hf;cases h;subst hf;exact FD
 cases h) (fun f s h=>by
 unfold abQ at h
 split at h
 ·rename_i hf;cases h;subst hf;exact Ww
 split at h
 ·rename_i hf;cases h;subst hf;exact UM
 cases h) Tryz.func28 Tryz.call28 rfl (fun c h=>(kH h).trans rfl) (iF _) aar
end Go.Proofs.YtglikcnmgnlejaaGreat.Abs
