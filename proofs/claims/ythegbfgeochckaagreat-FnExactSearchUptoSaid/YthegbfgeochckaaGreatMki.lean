/- Part of a proof. -/
import Derived.WalkKit
import Derived.Deep.LoopGhost
import Derived.Lib.Hide
import Derived.Laws.BytesArg
import Derived.Test.YthegbfgeochckaaGreatProg
import Derived.Test.YthegbfgeochckaaGreatLayB
import Derived.Test.YthegbfgeochckaaGreatC1
import Derived.Test.YthegbfgeochckaaGreatLmk
import Derived.Test.YthegbfgeochckaaGreatLayC
import Derived.Test.YthegbfgeochckaaGreatPlain
set_option linter.all false
set_option maxRecDepth 100000
set_option maxHeartbeats 4000000
namespace Go.Proofs.YthegbfgeochckaaGreat.Abs
open Go.Proofs Go.RowKit
def digitsOf:Nat->Int->ByteArray->ByteArray
 |0,_,s=>s
 |g+1,n,s=>if 0 < n then digitsOf g (n / 10) (strOfNums [48+n % 10]++s) else s
def textOf (k:Int):ByteArray:=if k<=0 then⟨#[109,48]⟩ else⟨#[109]⟩++digitsOf 63 k ⟨#[]⟩
theorem Mc (k:Int) (hk:0<=k/\k<=4611686018427387904) (w:World):Calls Tryz.prog 182 #[.int .i64 k] w (fun e w'=>e= .returned (.string (textOf k))/\Quiet w w'):=by
 by_cases h0:k<=0
 ·rw [textOf,if_pos h0]
  go_enter Tryz.func182,Tryz.ntmps182
  go_wp2
  go_ret
  exact⟨rfl,Quiet.refl _⟩
 ·rw [textOf,if_neg h0]
  obtain⟨R,hR⟩:∃R,digitsOf 63 k ⟨#[]⟩=R:=⟨_,rfl⟩
  rw [hR]
  go_enter Tryz.func182,Tryz.ntmps182
  go_wp2
  go_loopg [0,3] 63 (fun g s0 s3 wr=>∃(n:Int) (s:ByteArray),s0= .int .i64 n/\s3= .string s/\0<=n/\n<=4611686018427387904/\n < 2 ^ g/\s.size+g<=63/\digitsOf g n s=R/\Aside (Quiet w wr))
  case atStart=>exact⟨k,⟨#[]⟩,rfl,rfl,by omega,by omega,by omega,by decide,hR,Quiet.refl _⟩
  case round=>
   obtain⟨n,s,rfl,rfl,h1,hm,h2,h3,hD,hb⟩:=hrel
   by_cases hlt:0 < n
   ·have hg:1<=gk:=by
     rcases Nat.eq_zero_or_pos gk with rfl|h
     ·simp at h2;omega
     ·exact h
    obtain⟨d,hd⟩:∃d,Hid (strOfNums [48+n % 10]=d):=⟨_,rfl⟩
    have hcv:∀T:TypeId,(convert 265 9 (.slice (some ⟨wr.heap.size,0,none⟩) 1 1)).run Tryz.prog (wr.alloc (.cells #[.int .u8 (48+n % 10)] T))= .ok (.string d) (wr.alloc (.cells #[.int .u8 (48+n % 10)] T)):=fun T=>by
     rw [<- hd.out]
     exact run_convert_bytes_arg _ 265 5 Tryz.underlying265 Tryz.underlying5 _ 0 1 1 [48+n % 10] rfl (fun i hi=>by
      obtain rfl:i=0:=by omega
      simp) 9 Tryz.underlying9
    have h4:s.size<=63:=by omega
    have h5:d.size<=1:=by rw [<- hd.out,strOfNums_size];simp
    obtain⟨g,rfl⟩:∃g,gk=g+1:=⟨gk - 1,by omega⟩
    have hD':digitsOf g (n / 10) (d++s)=R:=by rw [<- hD,digitsOf,if_pos hlt,hd.out]
    clear hD
    have H2:=Lib.hid (Yj h2)
    clear h2
    go_wp2
    ·go_roundg g
     case measure=>omega
     case rel=>exact⟨n / 10,d++s,by go_num,rfl,by omega,by omega,H2.out,by rw [ByteArray.size_append];omega,hD',(show Aside _ from (Quiet.Nu hb.out _))⟩
   ·have h4:s.size<=63:=by omega
    have hD':s=R:=by cases gk with|zero=>exact hD|succ g=>rw [<- hD,digitsOf,if_neg hlt]
    subst hD'
    clear h2 hm hD
    go_wp2
    ·go_ret
     exact⟨rfl,hb.out⟩
theorem sj:aaT Tryz.prog textOf 182:=
 ⟨Tryz.call182,fun w k hk=>(Mc k hk w).mono fun _ _ h=>⟨h.1,h.2.os,h.2.tape,h.2.output,h.2.size,fun i hi _=>h.2.block i hi id,fun _ hb=>by simp at hb⟩⟩
theorem Rq {P:Program} {T:Nat->Ty} {L f:Nat} {k:Int} {s:ByteArray} (hcf:∀(vs:Array Value) (w:World),(callFunc f vs).run P w= .ok (.enter f vs) w)
  (h:∀w:World,Calls P f #[.int .i64 k] w fun e w'=>e= .returned (.string s)/\Quiet w w'):Contract P T L f [.d (.int .i64 k)] (.d (.str s)):=by
 refine⟨hcf,fun I J O mt w vs hI _ hO _ _ ha=>?_⟩
 match vs,ha with
 |[v],ha=>
  have hv:v= .int .i64 k:=ha.1
  subst hv
  refine (h w).mono ?_
  rintro e w' ⟨rfl,hb⟩
  exact⟨_,rfl,Turn.ofQ (fun k hk=>hO k hk.1) hb,I,[],fun _ h=>h,fun _ h=>.inl h,List.nodup_nil,fun _ h=>by simp at h,by simp only [gY];exact⟨trivial,rfl⟩⟩
 |[],ha=>exact ha.elim
 |_::_::_,ha=>exact ha.2.elim
theorem MN (k:Int) (hk:0<=k/\k<=4611686018427387904):Con 182 [.d (i64 k)] (.d (.str (textOf k))):=
 Rq Tryz.call182 fun w=>Mc k hk w
set_option maxRecDepth 20000
set_option maxHeartbeats 0
open Go.Proofs
def xx:Nat->Option ((Int->ByteArray) ⊕ (MF×(List AV->Prop))):=fun f=>if f=182 then some (.inl textOf) else none
theorem ajJ {m:Int} (h:0<=m):(decide (m % 3=0) == decide (m.tmod 3=0))=true:=by rw [Int.tmod_eq_emod_of_nonneg h];exact beq_self_eq_true _
def aP:List Cm:=[.num 0]
def agR:List Ck:=[.num]
def jA (x:AV):Prop:=∃n,x= .int .i64 n
theorem dA:∀c k,k<=(ak aP c k).2:=jS (by simp [aP,Cm.mono])
def aei:Nat->Option (MF×(List AV->Prop)):=fun f=>none
theorem acr:qj tab aei xx 3 Tryz.f104 (ak aP) (okC agR):=by
 refine⟨⟨_,_,_,_,_,_,_,_,_,_,_,_,_,_,_,_,_,_,_,_,_,_,_,_,_,_,_,_,_,rfl,⟨rfl,rfl,rfl,rfl⟩,⟨rfl,rfl,rfl,rfl⟩,⟨rfl,⟨rfl,rfl,rfl⟩,⟨rfl,rfl,rfl⟩,⟨rfl,rfl,rfl,rfl,rfl,rfl⟩,⟨rfl,⟨_,_,rfl⟩,rfl⟩,⟨by decide,by decide,by decide⟩,by decide⟩,rfl,rfl,rfl,rfl,rfl,rfl,by decide,?_,_,_,_,rfl,rfl,rfl,rfl,rfl,rfl,rfl,by decide⟩⟩
 rintro j k c e hc hk hb hj h0 h1 h5
 obtain⟨n0,_,rfl,rfl⟩:=hc
 simp only [ak,aP,List.set,List.getElem?_cons_zero,List.getElem?_cons_succ] at hb ⊢
 refine⟨?e1,?r1,?e2,?r2,?a,?b,?c⟩
 case r1=>(repeat' first|exact aL.nil|refine aL.mv (by first|exact h0|exact h1|exact h5|rfl) ?_|refine aL.ix rfl (by first|exact h0|exact h1|exact h5|rfl) (by first|exact h0|exact h1|exact h5|rfl) ?_|refine aL.fa rfl rfl ?_|refine aL.st ⟨rfl,rfl⟩ rfl (by first|exact h0|exact h1|exact h5|rfl) rfl rfl ?_|refine aL.inc (by first|exact h0|exact h1|exact h5|rfl) ⟨by omega,by omega⟩ ?_|refine aL.ld ⟨rfl,rfl⟩ rfl rfl ?_)
 case r2=>(repeat' first|exact aL.nil|refine aL.mv (by first|exact h5|rfl) ?_|refine aL.inc (by first|exact h5|rfl) ⟨by omega,by omega⟩ ?_)
 case a=>exact h0
 case b=>rfl
 case c=>rfl
theorem Dv:lS Tryz.prog lim 104 (ah (ak aP)) (fun m=>∀x∈m,jA x):=
 (rJ uz (fun f F ok h=>by simp [aei] at h) (fun f s h=>by
 unfold xx at h
 split at h
 ·rename_i hf;cases h;subst hf;exact sj
 cases h) Tryz.func104 Tryz.call104 rfl (by decide) dA (iB _) (vL _) (fun c h=>(kg h).trans rfl) acr).imp fun m h x hx=>by
 obtain⟨n,rfl⟩:=h x hx;exact⟨n,[],rfl,rfl⟩
theorem jh (l:List AV) (n:Int) (hn:0<=n) (ho:∀x∈l,jA x) (hM:(ah (ak aP) l n).2<=4611686018427387904):Con 110 [.d (.sl (ah (ak aP) l n).1),.d (i64 n)] (.d (i64 (ah (ak aP) l n).2)):=by
 refine con Tryz.func110 rfl rfl Tryz.call110 rfl fun hwf=>?_
 simp only [ARs.wf,AR.wf,AV.wf,aZ,lim] at hwf
 have hlen:=aZ (ak aP) l n
 try (conv=>whnf)
 refine ay [0] [] [] ?_
 (conv=>whnf)
 refine au.go ((Nat)×(Int)) (fun⟨k,m⟩=>(k<=l.length)/\((ah (ak aP) (l.take k) n).2=m)) (fun⟨k,m⟩=>[(5,.data (i64 k)),(1,.data (i64 m))]) lE lE (fun⟨k,m⟩=>l.length - k) ⟨0,n⟩ ?_ ?_
 ·exact⟨Nat.zero_le _,rfl⟩
 rintro⟨k,m⟩ ⟨hk,hm⟩
 have hmm:n<=m:=hm ▸ aD dA _ _
 by_cases hlt:k < l.length
 ·obtain⟨x,hx⟩:∃x,l[k]? =some x:=⟨_,List.getElem?_eq_getElem hlt⟩
  obtain⟨n0,rfl⟩:=ho x (List.mem_of_getElem? hx)
  have hg:=jN (g:=ak aP) l n k hx
  have hs:=jF (g:=ak aP) l n k hx
  have hle:=mU dA l n (k+1)
  rw [hm] at hg hs
  conv at hg=>rhs;simp only [gZ,AV.cells,ak,aP,List.set,List.headD,List.getElem?_cons_zero,List.getElem?_cons_succ]
  conv at hs=>rhs;simp only [AV.cells,ak,aP,List.set,List.getElem?_cons_zero,List.getElem?_cons_succ]
  rw [hs] at hle
  (repeat' ((conv=>whnf);first|with_reducible refine Idx.here hg rfl ?_|refine gAV ?_|(refine gB ?_ ?_<;>intro h)))
  all_goals first
   |(exfalso;omega)
   |exact absurd trivial ‹¬True›
   |(apply Exists.intro (⟨k+1,_⟩)
     refine⟨?_,rfl,?_,?_⟩
     rotate_left
     ·(repeat' ((conv=>whnf)<;>(first|exact trivial|exact rfl|with_reducible refine And.intro ?_ ?_)))
     ·(try dsimp only);(try simp only [List.length_map]);omega
     exact⟨hlt,hs⟩)
 ·(repeat' ((conv=>whnf);first|(exfalso;omega)|(refine gB ?_ ?_<;>intro h)))
  refine⟨?_,rfl,trivial⟩
  have:k=l.length:=by omega
  rw [<- hm,this,List.take_length]
def ku:List Cm:=[.num 0,.call 1 (ah (ak aP)),.call 2 (ah (ak aP))]
def abl:List Ck:=[.num,.sl fun m=>∀x∈m,jA x,.sl fun m=>∀x∈m,jA x]
def JD (x:AV):Prop:=∃c,x= .agg c/\okC abl c
theorem tK:∀c k,k<=(ak ku c k).2:=jS (by simp [ku,Cm.mono,aD dA])
def abm:Nat->Option (MF×(List AV->Prop)):=fun f=>if f=104 then some (ah (ak aP),fun m=>∀x∈m,jA x) else none
theorem aac:qj tab abm xx 210 Tryz.f183 (ak ku) (okC abl):=by
 refine⟨⟨_,_,_,_,_,_,_,_,_,_,_,_,_,_,_,_,_,_,_,_,_,_,_,_,_,_,_,_,_,rfl,⟨rfl,rfl,rfl,rfl⟩,⟨rfl,rfl,rfl,rfl⟩,⟨rfl,⟨rfl,rfl,rfl⟩,⟨rfl,rfl,rfl⟩,⟨rfl,rfl,rfl,rfl,rfl,rfl⟩,⟨rfl,⟨_,_,rfl⟩,rfl⟩,⟨by decide,by decide,by decide⟩,by decide⟩,rfl,rfl,rfl,rfl,rfl,rfl,by decide,?_,_,_,_,rfl,rfl,rfl,rfl,rfl,rfl,rfl,by decide⟩⟩
 rintro j k c e hc hk hb hj h0 h1 h5
 obtain⟨n0,_,rfl,m1,_,rfl,p1,m2,_,rfl,p2,rfl⟩:=hc
 simp only [ak,ku,List.set,List.getElem?_cons_zero,List.getElem?_cons_succ] at hb ⊢
 have q1:=aD dA m1 (k+1)
 have q2:=aD dA m2 (ah (ak aP) m1 (k+1)).2
 refine⟨?e1,?r1,?e2,?r2,?a,?b,?c⟩
 case r1=>(repeat' first|exact aL.nil|refine aL.mv (by first|exact h0|exact h1|exact h5|rfl) ?_|refine aL.ix rfl (by first|exact h0|exact h1|exact h5|rfl) (by first|exact h0|exact h1|exact h5|rfl) ?_|refine aL.fa rfl rfl ?_|refine aL.st ⟨rfl,rfl⟩ rfl (by first|exact h0|exact h1|exact h5|rfl) rfl rfl ?_|refine aL.inc (by first|exact h0|exact h1|exact h5|rfl) ⟨by omega,by omega⟩ ?_|refine aL.ld ⟨rfl,rfl⟩ rfl rfl ?_|refine aL.ca rfl (by first|exact h0|exact h1|exact h5|rfl) (by first|exact h0|exact h1|exact h5|rfl) rfl (by first|exact p1|exact p2) (by omega) (by omega) ?_)
 case r2=>(repeat' first|exact aL.nil|refine aL.mv (by first|exact h5|rfl) ?_|refine aL.inc (by first|exact h5|rfl) ⟨by omega,by omega⟩ ?_)
 case a=>exact h0
 case b=>rfl
 case c=>rfl
theorem acs:lS Tryz.prog lim 183 (ah (ak ku)) (fun m=>∀x∈m,JD x):=
 (rJ uz (fun f F ok h=>by
 unfold abm at h
 split at h
 ·rename_i hf;cases h;subst hf;exact Dv
 cases h) (fun f s h=>by
 unfold xx at h
 split at h
 ·rename_i hf;cases h;subst hf;exact sj
 cases h) Tryz.func183 Tryz.call183 rfl (by decide) tK (iB _) (vL _) (fun c h=>(kg h).trans rfl) aac).imp fun m h x hx=>by
 obtain⟨c,rfl,k⟩:=h x hx;exact k
theorem MO (l:List AV) (n:Int) (hn:0<=n) (ho:∀x∈l,JD x) (hM:(ah (ak ku) l n).2<=4611686018427387904):Con 252 [.d (.sl (ah (ak ku) l n).1),.d (i64 n)] (.d (i64 (ah (ak ku) l n).2)):=by
 refine con Tryz.func252 rfl rfl Tryz.call252 rfl fun hwf=>?_
 simp only [ARs.wf,AR.wf,AV.wf,aZ,lim] at hwf
 have hlen:=aZ (ak ku) l n
 try (conv=>whnf)
 refine ay [0] [] [] ?_
 (conv=>whnf)
 refine au.go ((Nat)×(Int)) (fun⟨k,m⟩=>(k<=l.length)/\((ah (ak ku) (l.take k) n).2=m)) (fun⟨k,m⟩=>[(5,.data (i64 k)),(1,.data (i64 m))]) lE lE (fun⟨k,m⟩=>l.length - k) ⟨0,n⟩ ?_ ?_
 ·exact⟨Nat.zero_le _,rfl⟩
 rintro⟨k,m⟩ ⟨hk,hm⟩
 have hmm:n<=m:=hm ▸ aD tK _ _
 by_cases hlt:k < l.length
 ·obtain⟨x,hx⟩:∃x,l[k]? =some x:=⟨_,List.getElem?_eq_getElem hlt⟩
  obtain⟨c,rfl,n0,_,rfl,m1,_,rfl,p1,m2,_,rfl,p2,rfl⟩:=ho x (List.mem_of_getElem? hx)
  have hg:=jN (g:=ak ku) l n k hx
  have hs:=jF (g:=ak ku) l n k hx
  have hle:=mU tK l n (k+1)
  rw [hm] at hg hs
  conv at hg=>rhs;simp only [gZ,AV.cells,ak,ku,List.set,List.headD,List.getElem?_cons_zero,List.getElem?_cons_succ]
  conv at hs=>rhs;simp only [AV.cells,ak,ku,List.set,List.getElem?_cons_zero,List.getElem?_cons_succ]
  rw [hs] at hle
  have q1:=aD dA m1 (m+1)
  have q2:=aD dA m2 (ah (ak aP) m1 (m+1)).2
  (repeat' ((conv=>whnf);first|with_reducible refine Idx.here hg rfl ?_|refine gAV ?_|(refine gB ?_ ?_<;>intro h)|refine gC (jh m1 (m+1) (by omega) p1 (by omega)) ?_|refine gC (jh m2 (ah (ak aP) m1 (m+1)).2 (by omega) p2 (by omega)) ?_|intro _))
  all_goals first
   |(exfalso;omega)
   |exact absurd trivial ‹¬True›
   |(apply Exists.intro (⟨k+1,_⟩)
     refine⟨?_,rfl,?_,?_⟩
     rotate_left
     ·(repeat' ((conv=>whnf)<;>(first|exact trivial|exact rfl|with_reducible refine And.intro ?_ ?_)))
     ·(try dsimp only);(try simp only [List.length_map]);omega
     exact⟨hlt,hs⟩)
 ·(repeat' ((conv=>whnf);first|(exfalso;omega)|(refine gB ?_ ?_<;>intro h)))
  refine⟨?_,rfl,trivial⟩
  have:k=l.length:=by omega
  rw [<- hm,this,List.take_length]
def aI:List Cm:=[.txt 0 textOf,.num 1,.call 2 (ah (ak ku))]
def Md:List Ck:=[.txt,.num,.sl fun m=>∀x∈m,JD x]
def oM (x:AV):Prop:=∃c,x= .agg c/\okC Md c
theorem mH:∀c k,k<=(ak aI c k).2:=jS (by simp [aI,Cm.mono,aD tK])
def Me:Nat->Option (MF×(List AV->Prop)):=fun f=>if f=183 then some (ah (ak ku),fun m=>∀x∈m,JD x) else none
theorem Qm:qj tab Me xx 165 Tryz.f101 (ak aI) (okC Md):=by
 refine⟨⟨_,_,_,_,_,_,_,_,_,_,_,_,_,_,_,_,_,_,_,_,_,_,_,_,_,_,_,_,_,rfl,⟨rfl,rfl,rfl,rfl⟩,⟨rfl,rfl,rfl,rfl⟩,⟨rfl,⟨rfl,rfl,rfl⟩,⟨rfl,rfl,rfl⟩,⟨rfl,rfl,rfl,rfl,rfl,rfl⟩,⟨rfl,⟨_,_,rfl⟩,rfl⟩,⟨by decide,by decide,by decide⟩,by decide⟩,rfl,rfl,rfl,rfl,rfl,rfl,by decide,?_,_,_,_,rfl,rfl,rfl,rfl,rfl,rfl,rfl,by decide⟩⟩
 rintro j k c e hc hk hb hj h0 h1 h5
 obtain⟨n0,_,rfl,n1,_,rfl,m2,_,rfl,p2,rfl⟩:=hc
 simp only [ak,aI,List.set,List.getElem?_cons_zero,List.getElem?_cons_succ] at hb ⊢
 have q1:=aD tK m2 ((k+1)+1)
 refine⟨?e1,?r1,?e2,?r2,?a,?b,?c⟩
 case r1=>(repeat' first|exact aL.nil|refine aL.mv (by first|exact h0|exact h1|exact h5|rfl) ?_|refine aL.ix rfl (by first|exact h0|exact h1|exact h5|rfl) (by first|exact h0|exact h1|exact h5|rfl) ?_|refine aL.fa rfl rfl ?_|refine aL.st ⟨rfl,rfl⟩ rfl (by first|exact h0|exact h1|exact h5|rfl) rfl rfl ?_|refine aL.inc (by first|exact h0|exact h1|exact h5|rfl) ⟨by omega,by omega⟩ ?_|refine aL.ld ⟨rfl,rfl⟩ rfl rfl ?_|refine aL.ca rfl (by first|exact h0|exact h1|exact h5|rfl) (by first|exact h0|exact h1|exact h5|rfl) rfl (by first|exact p2) (by omega) (by omega) ?_|refine aL.tx rfl (by first|exact h0|exact h1|exact h5|rfl) (by omega) ?_|refine aL.sti ⟨rfl,rfl⟩ rfl (by first|exact h0|exact h1|exact h5|rfl) rfl rfl ?_)
 case r2=>(repeat' first|exact aL.nil|refine aL.mv (by first|exact h5|rfl) ?_|refine aL.inc (by first|exact h5|rfl) ⟨by omega,by omega⟩ ?_)
 case a=>exact h0
 case b=>rfl
 case c=>rfl
theorem Rs:lS Tryz.prog lim 101 (ah (ak aI)) (fun m=>∀x∈m,oM x):=
 (rJ uz (fun f F ok h=>by
 unfold Me at h
 split at h
 ·rename_i hf;cases h;subst hf;exact acs
 cases h) (fun f s h=>by
 unfold xx at h
 split at h
 ·rename_i hf;cases h;subst hf;exact sj
 cases h) Tryz.func101 Tryz.call101 rfl (by decide) mH (iB _) (vL _) (fun c h=>(kg h).trans rfl) Qm).imp fun m h x hx=>by
 obtain⟨c,rfl,k⟩:=h x hx;exact k
theorem EN (l:List AV) (n:Int) (hn:0<=n) (ho:∀x∈l,oM x) (hM:(ah (ak aI) l n).2<=4611686018427387904):Con 185 [.d (.sl (ah (ak aI) l n).1),.d (i64 n)] (.d (i64 (ah (ak aI) l n).2)):=by
 refine con Tryz.func185 rfl rfl Tryz.call185 rfl fun hwf=>?_
 simp only [ARs.wf,AR.wf,AV.wf,aZ,lim] at hwf
 have hlen:=aZ (ak aI) l n
 try (conv=>whnf)
 refine ay [0] [] [] ?_
 (conv=>whnf)
 refine au.go ((Nat)×(Int)) (fun⟨k,m⟩=>(k<=l.length)/\((ah (ak aI) (l.take k) n).2=m)) (fun⟨k,m⟩=>[(5,.data (i64 k)),(1,.data (i64 m))]) lE lE (fun⟨k,m⟩=>l.length - k) ⟨0,n⟩ ?_ ?_
 ·exact⟨Nat.zero_le _,rfl⟩
 rintro⟨k,m⟩ ⟨hk,hm⟩
 have hmm:n<=m:=hm ▸ aD mH _ _
 by_cases hlt:k < l.length
 ·obtain⟨x,hx⟩:∃x,l[k]? =some x:=⟨_,List.getElem?_eq_getElem hlt⟩
  obtain⟨c,rfl,n0,_,rfl,n1,_,rfl,m2,_,rfl,p2,rfl⟩:=ho x (List.mem_of_getElem? hx)
  have hg:=jN (g:=ak aI) l n k hx
  have hs:=jF (g:=ak aI) l n k hx
  have hle:=mU mH l n (k+1)
  rw [hm] at hg hs
  conv at hg=>rhs;simp only [gZ,AV.cells,ak,aI,List.set,List.headD,List.getElem?_cons_zero,List.getElem?_cons_succ]
  conv at hs=>rhs;simp only [AV.cells,ak,aI,List.set,List.getElem?_cons_zero,List.getElem?_cons_succ]
  rw [hs] at hle
  have q1:=aD tK m2 ((m+1)+1)
  (repeat' ((conv=>whnf);first|with_reducible refine Idx.here hg rfl ?_|refine gAV ?_|(refine gB ?_ ?_<;>intro h)|refine gC (MN m (by omega)) ?_|refine gC (MO m2 ((m+1)+1) (by omega) p2 (by omega)) ?_|intro _))
  all_goals first
   |(exfalso;omega)
   |exact absurd trivial ‹¬True›
   |(apply Exists.intro (⟨k+1,_⟩)
     refine⟨?_,rfl,?_,?_⟩
     rotate_left
     ·(repeat' ((conv=>whnf)<;>(first|exact trivial|exact rfl|with_reducible refine And.intro ?_ ?_)))
     ·(try dsimp only);(try simp only [List.length_map]);omega
     exact⟨hlt,hs⟩)
 ·(repeat' ((conv=>whnf);first|(exfalso;omega)|(refine gB ?_ ?_<;>intro h)))
  refine⟨?_,rfl,trivial⟩
  have:k=l.length:=by omega
  rw [<- hm,this,List.take_length]
def dO:List Cm:=[.call 0 (ah (ak aP))]
def aff:List Ck:=[.sl fun m=>∀x∈m,jA x]
def vQ (x:AV):Prop:=∃m,x= .sl m/\∀y∈m,jA y
theorem ng:∀c k,k<=(ak dO c k).2:=jS (by simp [dO,Cm.mono,aD dA])
def abn:Nat->Option (MF×(List AV->Prop)):=fun f=>if f=104 then some (ah (ak aP),fun m=>∀x∈m,jA x) else none
theorem aad:qj tab abn xx 25 Tryz.f105 (ak dO) (okC aff):=by
 refine⟨⟨_,_,_,_,_,_,_,_,_,_,_,_,_,_,_,_,_,_,_,_,_,_,_,_,_,_,_,_,_,rfl,⟨rfl,rfl,rfl,rfl⟩,⟨rfl,rfl,rfl,rfl⟩,⟨rfl,⟨rfl,rfl,rfl⟩,⟨rfl,rfl,rfl⟩,⟨rfl,rfl,rfl,rfl,rfl,rfl⟩,⟨rfl,⟨_,_,rfl⟩,rfl⟩,⟨by decide,by decide,by decide⟩,by decide⟩,rfl,rfl,rfl,rfl,rfl,rfl,by decide,?_,_,_,_,rfl,rfl,rfl,rfl,rfl,rfl,rfl,by decide⟩⟩
 rintro j k c e hc hk hb hj h0 h1 h5
 obtain⟨m0,_,rfl,p0,rfl⟩:=hc
 simp only [ak,dO,List.set,List.getElem?_cons_zero,List.getElem?_cons_succ] at hb ⊢
 have q1:=aD dA m0 k
 refine⟨?e1,?r1,?e2,?r2,?a,?b,?c⟩
 case r1=>(repeat' first|exact aL.nil|refine aL.mv (by first|exact h0|exact h1|exact h5|rfl) ?_|refine aL.ix rfl (by first|exact h0|exact h1|exact h5|rfl) (by first|exact h0|exact h1|exact h5|rfl) ?_|refine aL.fa rfl rfl ?_|refine aL.st ⟨rfl,rfl⟩ rfl (by first|exact h0|exact h1|exact h5|rfl) rfl rfl ?_|refine aL.inc (by first|exact h0|exact h1|exact h5|rfl) ⟨by omega,by omega⟩ ?_|refine aL.ld ⟨rfl,rfl⟩ rfl rfl ?_|refine aL.ca rfl (by first|exact h0|exact h1|exact h5|rfl) (by first|exact h0|exact h1|exact h5|rfl) rfl (by first|exact p0) (by omega) (by omega) ?_)
 case r2=>(repeat' first|exact aL.nil|refine aL.mv (by first|exact h5|rfl) ?_|refine aL.inc (by first|exact h5|rfl) ⟨by omega,by omega⟩ ?_)
 case a=>exact h0
 case b=>rfl
 case c=>rfl
theorem Tw:lS Tryz.prog lim 105 (ah (ak dO)) (fun m=>∀x∈m,vQ x):=
 (rJ uz (fun f F ok h=>by
 unfold abn at h
 split at h
 ·rename_i hf;cases h;subst hf;exact Dv
 cases h) (fun f s h=>by
 unfold xx at h
 split at h
 ·rename_i hf;cases h;subst hf;exact sj
 cases h) Tryz.func105 Tryz.call105 rfl (by decide) ng (iB _) (vL _) (fun c h=>(kg h).trans rfl) aad).imp fun m h x hx=>by
 obtain⟨m,rfl,p⟩:=h x hx;exact⟨m,[],rfl,p,rfl⟩
theorem BD (l:List AV) (n:Int) (hn:0<=n) (ho:∀x∈l,vQ x) (hM:(ah (ak dO) l n).2<=4611686018427387904):Con 188 [.d (.sl (ah (ak dO) l n).1),.d (i64 n)] (.d (i64 (ah (ak dO) l n).2)):=by
 refine con Tryz.func188 rfl rfl Tryz.call188 rfl fun hwf=>?_
 simp only [ARs.wf,AR.wf,AV.wf,aZ,lim] at hwf
 have hlen:=aZ (ak dO) l n
 try (conv=>whnf)
 refine ay [0] [] [] ?_
 (conv=>whnf)
 refine au.go ((Nat)×(Int)) (fun⟨k,m⟩=>(k<=l.length)/\((ah (ak dO) (l.take k) n).2=m)) (fun⟨k,m⟩=>[(5,.data (i64 k)),(1,.data (i64 m))]) lE lE (fun⟨k,m⟩=>l.length - k) ⟨0,n⟩ ?_ ?_
 ·exact⟨Nat.zero_le _,rfl⟩
 rintro⟨k,m⟩ ⟨hk,hm⟩
 have hmm:n<=m:=hm ▸ aD ng _ _
 by_cases hlt:k < l.length
 ·obtain⟨x,hx⟩:∃x,l[k]? =some x:=⟨_,List.getElem?_eq_getElem hlt⟩
  obtain⟨m0,rfl,p0⟩:=ho x (List.mem_of_getElem? hx)
  have hg:=jN (g:=ak dO) l n k hx
  have hs:=jF (g:=ak dO) l n k hx
  have hle:=mU ng l n (k+1)
  rw [hm] at hg hs
  conv at hg=>rhs;simp only [gZ,AV.cells,ak,dO,List.set,List.headD,List.getElem?_cons_zero,List.getElem?_cons_succ]
  conv at hs=>rhs;simp only [AV.cells,ak,dO,List.set,List.getElem?_cons_zero,List.getElem?_cons_succ]
  rw [hs] at hle
  have q1:=aD dA m0 m
  (repeat' ((conv=>whnf);first|with_reducible refine Idx.here hg rfl ?_|refine gAV ?_|(refine gB ?_ ?_<;>intro h)|refine gC (jh m0 m (by omega) p0 (by omega)) ?_|intro _))
  all_goals first
   |(exfalso;omega)
   |exact absurd trivial ‹¬True›
   |(apply Exists.intro (⟨k+1,_⟩)
     refine⟨?_,rfl,?_,?_⟩
     rotate_left
     ·(repeat' ((conv=>whnf)<;>(first|exact trivial|exact rfl|with_reducible refine And.intro ?_ ?_)))
     ·(try dsimp only);(try simp only [List.length_map]);omega
     exact⟨hlt,hs⟩)
 ·(repeat' ((conv=>whnf);first|(exfalso;omega)|(refine gB ?_ ?_<;>intro h)))
  refine⟨?_,rfl,trivial⟩
  have:k=l.length:=by omega
  rw [<- hm,this,List.take_length]
def bM:List Cm:=[.num 0,.num 1,.num 2]
def Qn:List Ck:=[.num,.num,.num]
def oN (x:AV):Prop:=∃c,x= .agg c/\okC Qn c
theorem jO:∀c k,k<=(ak bM c k).2:=jS (by simp [bM,Cm.mono])
def Qo:Nat->Option (MF×(List AV->Prop)):=fun f=>none
theorem Rt:qj tab Qo xx 102 Tryz.f38 (ak bM) (okC Qn):=by
 refine⟨⟨_,_,_,_,_,_,_,_,_,_,_,_,_,_,_,_,_,_,_,_,_,_,_,_,_,_,_,_,_,rfl,⟨rfl,rfl,rfl,rfl⟩,⟨rfl,rfl,rfl,rfl⟩,⟨rfl,⟨rfl,rfl,rfl⟩,⟨rfl,rfl,rfl⟩,⟨rfl,rfl,rfl,rfl,rfl,rfl⟩,⟨rfl,⟨_,_,rfl⟩,rfl⟩,⟨by decide,by decide,by decide⟩,by decide⟩,rfl,rfl,rfl,rfl,rfl,rfl,by decide,?_,_,_,_,rfl,rfl,rfl,rfl,rfl,rfl,rfl,by decide⟩⟩
 rintro j k c e hc hk hb hj h0 h1 h5
 obtain⟨n0,_,rfl,n1,_,rfl,n2,_,rfl,rfl⟩:=hc
 simp only [ak,bM,List.set,List.getElem?_cons_zero,List.getElem?_cons_succ] at hb ⊢
 refine⟨?e1,?r1,?e2,?r2,?a,?b,?c⟩
 case r1=>(repeat' first|exact aL.nil|refine aL.mv (by first|exact h0|exact h1|exact h5|rfl) ?_|refine aL.ix rfl (by first|exact h0|exact h1|exact h5|rfl) (by first|exact h0|exact h1|exact h5|rfl) ?_|refine aL.fa rfl rfl ?_|refine aL.st ⟨rfl,rfl⟩ rfl (by first|exact h0|exact h1|exact h5|rfl) rfl rfl ?_|refine aL.inc (by first|exact h0|exact h1|exact h5|rfl) ⟨by omega,by omega⟩ ?_|refine aL.ld ⟨rfl,rfl⟩ rfl rfl ?_)
 case r2=>(repeat' first|exact aL.nil|refine aL.mv (by first|exact h5|rfl) ?_|refine aL.inc (by first|exact h5|rfl) ⟨by omega,by omega⟩ ?_)
 case a=>exact h0
 case b=>rfl
 case c=>rfl
theorem JE:lS Tryz.prog lim 38 (ah (ak bM)) (fun m=>∀x∈m,oN x):=
 (rJ uz (fun f F ok h=>by simp [Qo] at h) (fun f s h=>by
 unfold xx at h
 split at h
 ·rename_i hf;cases h;subst hf;exact sj
 cases h) Tryz.func38 Tryz.call38 rfl (by decide) jO (iB _) (vL _) (fun c h=>(kg h).trans rfl) Rt).imp fun m h x hx=>by
 obtain⟨c,rfl,k⟩:=h x hx;exact k
theorem xu (l:List AV) (n:Int) (hn:0<=n) (ho:∀x∈l,oN x) (hM:(ah (ak bM) l n).2<=4611686018427387904):Con 108 [.d (.sl (ah (ak bM) l n).1),.d (i64 n)] (.d (i64 (ah (ak bM) l n).2)):=by
 refine con Tryz.func108 rfl rfl Tryz.call108 rfl fun hwf=>?_
 simp only [ARs.wf,AR.wf,AV.wf,aZ,lim] at hwf
 have hlen:=aZ (ak bM) l n
 try (conv=>whnf)
 refine ay [0] [] [] ?_
 (conv=>whnf)
 refine au.go ((Nat)×(Int)) (fun⟨k,m⟩=>(k<=l.length)/\((ah (ak bM) (l.take k) n).2=m)) (fun⟨k,m⟩=>[(5,.data (i64 k)),(1,.data (i64 m))]) lE lE (fun⟨k,m⟩=>l.length - k) ⟨0,n⟩ ?_ ?_
 ·exact⟨Nat.zero_le _,rfl⟩
 rintro⟨k,m⟩ ⟨hk,hm⟩
 have hmm:n<=m:=hm ▸ aD jO _ _
 by_cases hlt:k < l.length
 ·obtain⟨x,hx⟩:∃x,l[k]? =some x:=⟨_,List.getElem?_eq_getElem hlt⟩
  obtain⟨c,rfl,n0,_,rfl,n1,_,rfl,n2,_,rfl,rfl⟩:=ho x (List.mem_of_getElem? hx)
  have hg:=jN (g:=ak bM) l n k hx
  have hs:=jF (g:=ak bM) l n k hx
  have hle:=mU jO l n (k+1)
  rw [hm] at hg hs
  conv at hg=>rhs;simp only [gZ,AV.cells,ak,bM,List.set,List.headD,List.getElem?_cons_zero,List.getElem?_cons_succ]
  conv at hs=>rhs;simp only [AV.cells,ak,bM,List.set,List.getElem?_cons_zero,List.getElem?_cons_succ]
  rw [hs] at hle
  (repeat' ((conv=>whnf);first|with_reducible refine Idx.here hg rfl ?_|refine gAV ?_|(refine gB ?_ ?_<;>intro h)))
  all_goals first
   |(exfalso;omega)
   |exact absurd trivial ‹¬True›
   |(apply Exists.intro (⟨k+1,_⟩)
     refine⟨?_,rfl,?_,?_⟩
     rotate_left
     ·(repeat' ((conv=>whnf)<;>(first|exact trivial|exact rfl|with_reducible refine And.intro ?_ ?_)))
     ·(try dsimp only);(try simp only [List.length_map]);omega
     exact⟨hlt,hs⟩)
 ·(repeat' ((conv=>whnf);first|(exfalso;omega)|(refine gB ?_ ?_<;>intro h)))
  refine⟨?_,rfl,trivial⟩
  have:k=l.length:=by omega
  rw [<- hm,this,List.take_length]
def iG:List Cm:=[.num 0,.num 1,.num 2,.num 3,.num 4,.call 5 (ah (ak bM))]
def abo:List Ck:=[.num,.num,.num,.num,.num,.sl fun m=>∀x∈m,oN x]
def En (x:AV):Prop:=∃c,x= .agg c/\okC abo c
theorem xw:∀c k,k<=(ak iG c k).2:=jS (by simp [iG,Cm.mono,aD jO])
def abp:Nat->Option (MF×(List AV->Prop)):=fun f=>if f=38 then some (ah (ak bM),fun m=>∀x∈m,oN x) else none
theorem aae:qj tab abp xx 130 Tryz.f39 (ak iG) (okC abo):=by
 refine⟨⟨_,_,_,_,_,_,_,_,_,_,_,_,_,_,_,_,_,_,_,_,_,_,_,_,_,_,_,_,_,rfl,⟨rfl,rfl,rfl,rfl⟩,⟨rfl,rfl,rfl,rfl⟩,⟨rfl,⟨rfl,rfl,rfl⟩,⟨rfl,rfl,rfl⟩,⟨rfl,rfl,rfl,rfl,rfl,rfl⟩,⟨rfl,⟨_,_,rfl⟩,rfl⟩,⟨by decide,by decide,by decide⟩,by decide⟩,rfl,rfl,rfl,rfl,rfl,rfl,by decide,?_,_,_,_,rfl,rfl,rfl,rfl,rfl,rfl,rfl,by decide⟩⟩
 rintro j k c e hc hk hb hj h0 h1 h5
 obtain⟨n0,_,rfl,n1,_,rfl,n2,_,rfl,n3,_,rfl,n4,_,rfl,m5,_,rfl,p5,rfl⟩:=hc
 simp only [ak,iG,List.set,List.getElem?_cons_zero,List.getElem?_cons_succ] at hb ⊢
 have q1:=aD jO m5 (((((k+1)+1)+1)+1)+1)
 refine⟨?e1,?r1,?e2,?r2,?a,?b,?c⟩
 case r1=>(repeat' first|exact aL.nil|refine aL.mv (by first|exact h0|exact h1|exact h5|rfl) ?_|refine aL.ix rfl (by first|exact h0|exact h1|exact h5|rfl) (by first|exact h0|exact h1|exact h5|rfl) ?_|refine aL.fa rfl rfl ?_|refine aL.st ⟨rfl,rfl⟩ rfl (by first|exact h0|exact h1|exact h5|rfl) rfl rfl ?_|refine aL.inc (by first|exact h0|exact h1|exact h5|rfl) ⟨by omega,by omega⟩ ?_|refine aL.ld ⟨rfl,rfl⟩ rfl rfl ?_|refine aL.ca rfl (by first|exact h0|exact h1|exact h5|rfl) (by first|exact h0|exact h1|exact h5|rfl) rfl (by first|exact p5) (by omega) (by omega) ?_)
 case r2=>(repeat' first|exact aL.nil|refine aL.mv (by first|exact h5|rfl) ?_|refine aL.inc (by first|exact h5|rfl) ⟨by omega,by omega⟩ ?_)
 case a=>exact h0
 case b=>rfl
 case c=>rfl
theorem acu:lS Tryz.prog lim 39 (ah (ak iG)) (fun m=>∀x∈m,En x):=
 (rJ uz (fun f F ok h=>by
 unfold abp at h
 split at h
 ·rename_i hf;cases h;subst hf;exact JE
 cases h) (fun f s h=>by
 unfold xx at h
 split at h
 ·rename_i hf;cases h;subst hf;exact sj
 cases h) Tryz.func39 Tryz.call39 rfl (by decide) xw (iB _) (vL _) (fun c h=>(kg h).trans rfl) aae).imp fun m h x hx=>by
 obtain⟨c,rfl,k⟩:=h x hx;exact k
theorem MP (l:List AV) (n:Int) (hn:0<=n) (ho:∀x∈l,En x) (hM:(ah (ak iG) l n).2<=4611686018427387904):Con 109 [.d (.sl (ah (ak iG) l n).1),.d (i64 n)] (.d (i64 (ah (ak iG) l n).2)):=by
 refine con Tryz.func109 rfl rfl Tryz.call109 rfl fun hwf=>?_
 simp only [ARs.wf,AR.wf,AV.wf,aZ,lim] at hwf
 have hlen:=aZ (ak iG) l n
 try (conv=>whnf)
 refine ay [0] [] [] ?_
 (conv=>whnf)
 refine au.go ((Nat)×(Int)) (fun⟨k,m⟩=>(k<=l.length)/\((ah (ak iG) (l.take k) n).2=m)) (fun⟨k,m⟩=>[(5,.data (i64 k)),(1,.data (i64 m))]) lE lE (fun⟨k,m⟩=>l.length - k) ⟨0,n⟩ ?_ ?_
 ·exact⟨Nat.zero_le _,rfl⟩
 rintro⟨k,m⟩ ⟨hk,hm⟩
 have hmm:n<=m:=hm ▸ aD xw _ _
 by_cases hlt:k < l.length
 ·obtain⟨x,hx⟩:∃x,l[k]? =some x:=⟨_,List.getElem?_eq_getElem hlt⟩
  obtain⟨c,rfl,n0,_,rfl,n1,_,rfl,n2,_,rfl,n3,_,rfl,n4,_,rfl,m5,_,rfl,p5,rfl⟩:=ho x (List.mem_of_getElem? hx)
  have hg:=jN (g:=ak iG) l n k hx
  have hs:=jF (g:=ak iG) l n k hx
  have hle:=mU xw l n (k+1)
  rw [hm] at hg hs
  conv at hg=>rhs;simp only [gZ,AV.cells,ak,iG,List.set,List.headD,List.getElem?_cons_zero,List.getElem?_cons_succ]
  conv at hs=>rhs;simp only [AV.cells,ak,iG,List.set,List.getElem?_cons_zero,List.getElem?_cons_succ]
  rw [hs] at hle
  have q1:=aD jO m5 (((((m+1)+1)+1)+1)+1)
  (repeat' ((conv=>whnf);first|with_reducible refine Idx.here hg rfl ?_|refine gAV ?_|(refine gB ?_ ?_<;>intro h)|refine gC (xu m5 (((((m+1)+1)+1)+1)+1) (by omega) p5 (by omega)) ?_|intro _))
  all_goals first
   |(exfalso;omega)
   |exact absurd trivial ‹¬True›
   |(apply Exists.intro (⟨k+1,_⟩)
     refine⟨?_,rfl,?_,?_⟩
     rotate_left
     ·(repeat' ((conv=>whnf)<;>(first|exact trivial|exact rfl|with_reducible refine And.intro ?_ ?_)))
     ·(try dsimp only);(try simp only [List.length_map]);omega
     exact⟨hlt,hs⟩)
 ·(repeat' ((conv=>whnf);first|(exfalso;omega)|(refine gB ?_ ?_<;>intro h)))
  refine⟨?_,rfl,trivial⟩
  have:k=l.length:=by omega
  rw [<- hm,this,List.take_length]
def bQ:List Cm:=[.num 0,.num 1,.bit 2,.num 3]
def abq:List Ck:=[.num,.num,.bit,.num]
def Bg (x:AV):Prop:=∃c,x= .agg c/\okC abq c
theorem tL:∀c k,k<=(ak bQ c k).2:=jS (by simp [bQ,Cm.mono])
def abr:Nat->Option (MF×(List AV->Prop)):=fun f=>none
theorem aaf:qj tab abr xx 173 Tryz.f102 (ak bQ) (okC abq):=by
 refine⟨⟨_,_,_,_,_,_,_,_,_,_,_,_,_,_,_,_,_,_,_,_,_,_,_,_,_,_,_,_,_,rfl,⟨rfl,rfl,rfl,rfl⟩,⟨rfl,rfl,rfl,rfl⟩,⟨rfl,⟨rfl,rfl,rfl⟩,⟨rfl,rfl,rfl⟩,⟨rfl,rfl,rfl,rfl,rfl,rfl⟩,⟨rfl,⟨_,_,rfl⟩,rfl⟩,⟨by decide,by decide,by decide⟩,by decide⟩,rfl,rfl,rfl,rfl,rfl,rfl,by decide,?_,_,_,_,rfl,rfl,rfl,rfl,rfl,rfl,rfl,by decide⟩⟩
 rintro j k c e hc hk hb hj h0 h1 h5
 obtain⟨n0,_,rfl,n1,_,rfl,n2,_,rfl,n3,_,rfl,rfl⟩:=hc
 simp only [ak,bQ,List.set,List.getElem?_cons_zero,List.getElem?_cons_succ] at hb ⊢
 refine⟨?e1,?r1,?e2,?r2,?a,?b,?c⟩
 case r1=>(repeat' first|exact aL.nil|refine aL.mv (by first|exact h0|exact h1|exact h5|rfl) ?_|refine aL.ix rfl (by first|exact h0|exact h1|exact h5|rfl) (by first|exact h0|exact h1|exact h5|rfl) ?_|refine aL.fa rfl rfl ?_|refine aL.st ⟨rfl,rfl⟩ rfl (by first|exact h0|exact h1|exact h5|rfl) rfl rfl ?_|refine aL.inc (by first|exact h0|exact h1|exact h5|rfl) ⟨by omega,by omega⟩ ?_|refine aL.ld ⟨rfl,rfl⟩ rfl rfl ?_|refine aL.rem (by first|exact h0|exact h1|exact h5|rfl) (by omega) ?_|refine aL.eq0 (by first|exact h0|exact h1|exact h5|rfl) ?_|refine aL.sti ⟨rfl,rfl⟩ rfl (by first|exact h0|exact h1|exact h5|rfl) rfl rfl ?_)
 case r2=>(repeat' first|exact aL.nil|refine aL.mv (by first|exact h5|rfl) ?_|refine aL.inc (by first|exact h5|rfl) ⟨by omega,by omega⟩ ?_)
 case a=>exact h0
 case b=>rfl
 case c=>rfl
theorem acv:lS Tryz.prog lim 102 (ah (ak bQ)) (fun m=>∀x∈m,Bg x):=
 (rJ uz (fun f F ok h=>by simp [abr] at h) (fun f s h=>by
 unfold xx at h
 split at h
 ·rename_i hf;cases h;subst hf;exact sj
 cases h) Tryz.func102 Tryz.call102 rfl (by decide) tL (iB _) (vL _) (fun c h=>(kg h).trans rfl) aaf).imp fun m h x hx=>by
 obtain⟨c,rfl,k⟩:=h x hx;exact k
theorem MQ (l:List AV) (n:Int) (hn:0<=n) (ho:∀x∈l,Bg x) (hM:(ah (ak bQ) l n).2<=4611686018427387904):Con 186 [.d (.sl (ah (ak bQ) l n).1),.d (i64 n)] (.d (i64 (ah (ak bQ) l n).2)):=by
 refine con Tryz.func186 rfl rfl Tryz.call186 rfl fun hwf=>?_
 simp only [ARs.wf,AR.wf,AV.wf,aZ,lim] at hwf
 have hlen:=aZ (ak bQ) l n
 try (conv=>whnf)
 refine ay [0] [] [] ?_
 (conv=>whnf)
 refine au.go ((Nat)×(Int)) (fun⟨k,m⟩=>(k<=l.length)/\((ah (ak bQ) (l.take k) n).2=m)) (fun⟨k,m⟩=>[(5,.data (i64 k)),(1,.data (i64 m))]) lE lE (fun⟨k,m⟩=>l.length - k) ⟨0,n⟩ ?_ ?_
 ·exact⟨Nat.zero_le _,rfl⟩
 rintro⟨k,m⟩ ⟨hk,hm⟩
 have hmm:n<=m:=hm ▸ aD tL _ _
 by_cases hlt:k < l.length
 ·obtain⟨x,hx⟩:∃x,l[k]? =some x:=⟨_,List.getElem?_eq_getElem hlt⟩
  obtain⟨c,rfl,n0,_,rfl,n1,_,rfl,n2,_,rfl,n3,_,rfl,rfl⟩:=ho x (List.mem_of_getElem? hx)
  have hg:=jN (g:=ak bQ) l n k hx
  have hs:=jF (g:=ak bQ) l n k hx
  have hle:=mU tL l n (k+1)
  rw [hm] at hg hs
  conv at hg=>rhs;simp only [gZ,AV.cells,ak,bQ,List.set,List.headD,List.getElem?_cons_zero,List.getElem?_cons_succ]
  conv at hs=>rhs;simp only [AV.cells,ak,bQ,List.set,List.getElem?_cons_zero,List.getElem?_cons_succ]
  rw [hs] at hle
  (repeat' ((conv=>whnf);first|(with_reducible first|refine Idx.here hg rfl ?_|refine Br.yes (ajJ (by omega)) ?_)|refine gAV ?_|(refine gB ?_ ?_<;>intro h)))
  all_goals first
   |(exfalso;omega)
   |exact absurd trivial ‹¬True›
   |(apply Exists.intro (⟨k+1,_⟩)
     refine⟨?_,rfl,?_,?_⟩
     rotate_left
     ·(repeat' ((conv=>whnf)<;>(first|exact trivial|exact rfl|with_reducible refine And.intro ?_ ?_)))
     ·(try dsimp only);(try simp only [List.length_map]);omega
     exact⟨hlt,hs⟩)
 ·(repeat' ((conv=>whnf);first|(exfalso;omega)|(refine gB ?_ ?_<;>intro h)))
  refine⟨?_,rfl,trivial⟩
  have:k=l.length:=by omega
  rw [<- hm,this,List.take_length]
def iY:List Cm:=[.num 0,.num 1]
def abt:List Ck:=[.num,.num]
def JF (x:AV):Prop:=∃c,x= .agg c/\okC abt c
theorem tN:∀c k,k<=(ak iY c k).2:=jS (by simp [iY,Cm.mono])
def abu:Nat->Option (MF×(List AV->Prop)):=fun f=>none
theorem aag:qj tab abu xx 218 Tryz.f184 (ak iY) (okC abt):=by
 refine⟨⟨_,_,_,_,_,_,_,_,_,_,_,_,_,_,_,_,_,_,_,_,_,_,_,_,_,_,_,_,_,rfl,⟨rfl,rfl,rfl,rfl⟩,⟨rfl,rfl,rfl,rfl⟩,⟨rfl,⟨rfl,rfl,rfl⟩,⟨rfl,rfl,rfl⟩,⟨rfl,rfl,rfl,rfl,rfl,rfl⟩,⟨rfl,⟨_,_,rfl⟩,rfl⟩,⟨by decide,by decide,by decide⟩,by decide⟩,rfl,rfl,rfl,rfl,rfl,rfl,by decide,?_,_,_,_,rfl,rfl,rfl,rfl,rfl,rfl,rfl,by decide⟩⟩
 rintro j k c e hc hk hb hj h0 h1 h5
 obtain⟨n0,_,rfl,n1,_,rfl,rfl⟩:=hc
 simp only [ak,iY,List.set,List.getElem?_cons_zero,List.getElem?_cons_succ] at hb ⊢
 refine⟨?e1,?r1,?e2,?r2,?a,?b,?c⟩
 case r1=>(repeat' first|exact aL.nil|refine aL.mv (by first|exact h0|exact h1|exact h5|rfl) ?_|refine aL.ix rfl (by first|exact h0|exact h1|exact h5|rfl) (by first|exact h0|exact h1|exact h5|rfl) ?_|refine aL.fa rfl rfl ?_|refine aL.st ⟨rfl,rfl⟩ rfl (by first|exact h0|exact h1|exact h5|rfl) rfl rfl ?_|refine aL.inc (by first|exact h0|exact h1|exact h5|rfl) ⟨by omega,by omega⟩ ?_|refine aL.ld ⟨rfl,rfl⟩ rfl rfl ?_)
 case r2=>(repeat' first|exact aL.nil|refine aL.mv (by first|exact h5|rfl) ?_|refine aL.inc (by first|exact h5|rfl) ⟨by omega,by omega⟩ ?_)
 case a=>exact h0
 case b=>rfl
 case c=>rfl
theorem acw:lS Tryz.prog lim 184 (ah (ak iY)) (fun m=>∀x∈m,JF x):=
 (rJ uz (fun f F ok h=>by simp [abu] at h) (fun f s h=>by
 unfold xx at h
 split at h
 ·rename_i hf;cases h;subst hf;exact sj
 cases h) Tryz.func184 Tryz.call184 rfl (by decide) tN (iB _) (vL _) (fun c h=>(kg h).trans rfl) aag).imp fun m h x hx=>by
 obtain⟨c,rfl,k⟩:=h x hx;exact k
theorem MR (l:List AV) (n:Int) (hn:0<=n) (ho:∀x∈l,JF x) (hM:(ah (ak iY) l n).2<=4611686018427387904):Con 253 [.d (.sl (ah (ak iY) l n).1),.d (i64 n)] (.d (i64 (ah (ak iY) l n).2)):=by
 refine con Tryz.func253 rfl rfl Tryz.call253 rfl fun hwf=>?_
 simp only [ARs.wf,AR.wf,AV.wf,aZ,lim] at hwf
 have hlen:=aZ (ak iY) l n
 try (conv=>whnf)
 refine ay [0] [] [] ?_
 (conv=>whnf)
 refine au.go ((Nat)×(Int)) (fun⟨k,m⟩=>(k<=l.length)/\((ah (ak iY) (l.take k) n).2=m)) (fun⟨k,m⟩=>[(5,.data (i64 k)),(1,.data (i64 m))]) lE lE (fun⟨k,m⟩=>l.length - k) ⟨0,n⟩ ?_ ?_
 ·exact⟨Nat.zero_le _,rfl⟩
 rintro⟨k,m⟩ ⟨hk,hm⟩
 have hmm:n<=m:=hm ▸ aD tN _ _
 by_cases hlt:k < l.length
 ·obtain⟨x,hx⟩:∃x,l[k]? =some x:=⟨_,List.getElem?_eq_getElem hlt⟩
  obtain⟨c,rfl,n0,_,rfl,n1,_,rfl,rfl⟩:=ho x (List.mem_of_getElem? hx)
  have hg:=jN (g:=ak iY) l n k hx
  have hs:=jF (g:=ak iY) l n k hx
  have hle:=mU tN l n (k+1)
  rw [hm] at hg hs
  conv at hg=>rhs;simp only [gZ,AV.cells,ak,iY,List.set,List.headD,List.getElem?_cons_zero,List.getElem?_cons_succ]
  conv at hs=>rhs;simp only [AV.cells,ak,iY,List.set,List.getElem?_cons_zero,List.getElem?_cons_succ]
  rw [hs] at hle
  (repeat' ((conv=>whnf);first|with_reducible refine Idx.here hg rfl ?_|refine gAV ?_|(refine gB ?_ ?_<;>intro h)))
  all_goals first
   |(exfalso;omega)
   |exact absurd trivial ‹¬True›
   |(apply Exists.intro (⟨k+1,_⟩)
     refine⟨?_,rfl,?_,?_⟩
     rotate_left
     ·(repeat' ((conv=>whnf)<;>(first|exact trivial|exact rfl|with_reducible refine And.intro ?_ ?_)))
     ·(try dsimp only);(try simp only [List.length_map]);omega
     exact⟨hlt,hs⟩)
 ·(repeat' ((conv=>whnf);first|(exfalso;omega)|(refine gB ?_ ?_<;>intro h)))
  refine⟨?_,rfl,trivial⟩
  have:k=l.length:=by omega
  rw [<- hm,this,List.take_length]
def aR:List Cm:=[.call 0 (ah (ak iY)),.call 1 (ah (ak dO))]
def Mf:List Ck:=[.sl fun m=>∀x∈m,JF x,.sl fun m=>∀x∈m,vQ x]
def oO (x:AV):Prop:=∃c,x= .agg c/\okC Mf c
theorem mI:∀c k,k<=(ak aR c k).2:=jS (by simp [aR,Cm.mono,aD tN,aD ng])
def Mg:Nat->Option (MF×(List AV->Prop)):=fun f=>if f=105 then some (ah (ak dO),fun m=>∀x∈m,vQ x) else if f=184 then some (ah (ak iY),fun m=>∀x∈m,JF x) else none
theorem Qp:qj tab Mg xx 170 Tryz.f103 (ak aR) (okC Mf):=by
 refine⟨⟨_,_,_,_,_,_,_,_,_,_,_,_,_,_,_,_,_,_,_,_,_,_,_,_,_,_,_,_,_,rfl,⟨rfl,rfl,rfl,rfl⟩,⟨rfl,rfl,rfl,rfl⟩,⟨rfl,⟨rfl,rfl,rfl⟩,⟨rfl,rfl,rfl⟩,⟨rfl,rfl,rfl,rfl,rfl,rfl⟩,⟨rfl,⟨_,_,rfl⟩,rfl⟩,⟨by decide,by decide,by decide⟩,by decide⟩,rfl,rfl,rfl,rfl,rfl,rfl,by decide,?_,_,_,_,rfl,rfl,rfl,rfl,rfl,rfl,rfl,by decide⟩⟩
 rintro j k c e hc hk hb hj h0 h1 h5
 obtain⟨m0,_,rfl,p0,m1,_,rfl,p1,rfl⟩:=hc
 simp only [ak,aR,List.set,List.getElem?_cons_zero,List.getElem?_cons_succ] at hb ⊢
 have q1:=aD tN m0 k
 have q2:=aD ng m1 (ah (ak iY) m0 k).2
 refine⟨?e1,?r1,?e2,?r2,?a,?b,?c⟩
 case r1=>(repeat' first|exact aL.nil|refine aL.mv (by first|exact h0|exact h1|exact h5|rfl) ?_|refine aL.ix rfl (by first|exact h0|exact h1|exact h5|rfl) (by first|exact h0|exact h1|exact h5|rfl) ?_|refine aL.fa rfl rfl ?_|refine aL.st ⟨rfl,rfl⟩ rfl (by first|exact h0|exact h1|exact h5|rfl) rfl rfl ?_|refine aL.inc (by first|exact h0|exact h1|exact h5|rfl) ⟨by omega,by omega⟩ ?_|refine aL.ld ⟨rfl,rfl⟩ rfl rfl ?_|refine aL.ca rfl (by first|exact h0|exact h1|exact h5|rfl) (by first|exact h0|exact h1|exact h5|rfl) rfl (by first|exact p0|exact p1) (by omega) (by omega) ?_)
 case r2=>(repeat' first|exact aL.nil|refine aL.mv (by first|exact h5|rfl) ?_|refine aL.inc (by first|exact h5|rfl) ⟨by omega,by omega⟩ ?_)
 case a=>exact h0
 case b=>rfl
 case c=>rfl
theorem Ru:lS Tryz.prog lim 103 (ah (ak aR)) (fun m=>∀x∈m,oO x):=
 (rJ uz (fun f F ok h=>by
 unfold Mg at h
 split at h
 ·rename_i hf;cases h;subst hf;exact Tw
 split at h
 ·rename_i hf;cases h;subst hf;exact acw
 cases h) (fun f s h=>by
 unfold xx at h
 split at h
 ·rename_i hf;cases h;subst hf;exact sj
 cases h) Tryz.func103 Tryz.call103 rfl (by decide) mI (iB _) (vL _) (fun c h=>(kg h).trans rfl) Qp).imp fun m h x hx=>by
 obtain⟨c,rfl,k⟩:=h x hx;exact k
theorem EO (l:List AV) (n:Int) (hn:0<=n) (ho:∀x∈l,oO x) (hM:(ah (ak aR) l n).2<=4611686018427387904):Con 187 [.d (.sl (ah (ak aR) l n).1),.d (i64 n)] (.d (i64 (ah (ak aR) l n).2)):=by
 refine con Tryz.func187 rfl rfl Tryz.call187 rfl fun hwf=>?_
 simp only [ARs.wf,AR.wf,AV.wf,aZ,lim] at hwf
 have hlen:=aZ (ak aR) l n
 try (conv=>whnf)
 refine ay [0] [] [] ?_
 (conv=>whnf)
 refine au.go ((Nat)×(Int)) (fun⟨k,m⟩=>(k<=l.length)/\((ah (ak aR) (l.take k) n).2=m)) (fun⟨k,m⟩=>[(5,.data (i64 k)),(1,.data (i64 m))]) lE lE (fun⟨k,m⟩=>l.length - k) ⟨0,n⟩ ?_ ?_
 ·exact⟨Nat.zero_le _,rfl⟩
 rintro⟨k,m⟩ ⟨hk,hm⟩
 have hmm:n<=m:=hm ▸ aD mI _ _
 by_cases hlt:k < l.length
 ·obtain⟨x,hx⟩:∃x,l[k]? =some x:=⟨_,List.getElem?_eq_getElem hlt⟩
  obtain⟨c,rfl,m0,_,rfl,p0,m1,_,rfl,p1,rfl⟩:=ho x (List.mem_of_getElem? hx)
  have hg:=jN (g:=ak aR) l n k hx
  have hs:=jF (g:=ak aR) l n k hx
  have hle:=mU mI l n (k+1)
  rw [hm] at hg hs
  conv at hg=>rhs;simp only [gZ,AV.cells,ak,aR,List.set,List.headD,List.getElem?_cons_zero,List.getElem?_cons_succ]
  conv at hs=>rhs;simp only [AV.cells,ak,aR,List.set,List.getElem?_cons_zero,List.getElem?_cons_succ]
  rw [hs] at hle
  have q1:=aD tN m0 m
  have q2:=aD ng m1 (ah (ak iY) m0 m).2
  (repeat' ((conv=>whnf);first|with_reducible refine Idx.here hg rfl ?_|refine gAV ?_|(refine gB ?_ ?_<;>intro h)|refine gC (MR m0 m (by omega) p0 (by omega)) ?_|refine gC (BD m1 (ah (ak iY) m0 m).2 (by omega) p1 (by omega)) ?_|intro _))
  all_goals first
   |(exfalso;omega)
   |exact absurd trivial ‹¬True›
   |(apply Exists.intro (⟨k+1,_⟩)
     refine⟨?_,rfl,?_,?_⟩
     rotate_left
     ·(repeat' ((conv=>whnf)<;>(first|exact trivial|exact rfl|with_reducible refine And.intro ?_ ?_)))
     ·(try dsimp only);(try simp only [List.length_map]);omega
     exact⟨hlt,hs⟩)
 ·(repeat' ((conv=>whnf);first|(exfalso;omega)|(refine gB ?_ ?_<;>intro h)))
  refine⟨?_,rfl,trivial⟩
  have:k=l.length:=by omega
  rw [<- hm,this,List.take_length]
def lH:List Cm:=[.call 0 (ah (ak aP)),.call 1 (ah (ak aP)),.call 2 (ah (ak dO))]
def JG:List Ck:=[.sl fun m=>∀x∈m,jA x,.sl fun m=>∀x∈m,jA x,.sl fun m=>∀x∈m,vQ x]
def Yo:Nat->Option (MF×(List AV->Prop)):=fun f=>if f=105 then some (ah (ak dO),fun m=>∀x∈m,vQ x) else if f=104 then some (ah (ak aP),fun m=>∀x∈m,jA x) else none
def Yp:Nat->Option ((Int->ByteArray) ⊕ (MF×(List AV->Prop))):=fun f=>none
theorem Yq:Ec tab Yo Yp 41 Tryz.f37 (ak lH) (okC JG):=by
 refine⟨⟨_,_,_,_,_,_,_,rfl,⟨rfl,rfl,rfl,rfl,rfl,rfl,rfl⟩,rfl,rfl,rfl,by decide,?_⟩⟩
 rintro k c e hc hk hb h1 h2
 obtain⟨m0,_,rfl,p0,m1,_,rfl,p1,m2,_,rfl,p2,rfl⟩:=hc
 simp only [ak,lH,List.set,List.getElem?_cons_zero,List.getElem?_cons_succ] at hb ⊢
 have q1:=aD dA m0 k
 have q2:=aD dA m1 (ah (ak aP) m0 k).2
 have q3:=aD ng m2 (ah (ak aP) m1 (ah (ak aP) m0 k).2).2
 refine⟨?e1,?r1,?a⟩
 case r1=>(repeat' first|exact aL.nil|refine aL.mv (by first|exact h1|exact h2|rfl) ?_|refine aL.fa rfl (by first|exact h1|exact h2|rfl) ?_|refine aL.ld ⟨rfl,rfl⟩ (by first|exact h1|exact h2|rfl) rfl ?_|refine aL.ca rfl (by first|exact h1|exact h2|rfl) (by first|exact h1|exact h2|rfl) rfl (by first|exact p0|exact p1|exact p2) (by omega) (by omega) ?_)
 case a=>rfl
theorem aah:CQ Tryz.prog lim 37 (ak lH) (okC JG):=
 Je uz (fun f F ok h=>by
 unfold Yo at h
 split at h
 ·rename_i hf;cases h;subst hf;exact Tw
 split at h
 ·rename_i hf;cases h;subst hf;exact Dv
 cases h) (fun f s h=>by simp [Yp] at h) Tryz.func37 Tryz.call37 rfl (fun c h=>(kg h).trans rfl) (iB _) Yq
def jm:List Cm:=[.call 1 (ah (ak aI)),.call 2 (ah (ak bQ)),.call 3 (ah (ak aR)),.call 4 (ah (ak aP))]
def Eo:List Ck:=[.num,.sl fun m=>∀x∈m,oM x,.sl fun m=>∀x∈m,Bg x,.sl fun m=>∀x∈m,oO x,.sl fun m=>∀x∈m,jA x]
def Tx:Nat->Option (MF×(List AV->Prop)):=fun f=>if f=104 then some (ah (ak aP),fun m=>∀x∈m,jA x) else if f=103 then some (ah (ak aR),fun m=>∀x∈m,oO x) else if f=102 then some (ah (ak bQ),fun m=>∀x∈m,Bg x) else if f=101 then some (ah (ak aI),fun m=>∀x∈m,oM x) else none
def Tz:Nat->Option ((Int->ByteArray) ⊕ (MF×(List AV->Prop))):=fun f=>none
theorem Vu:Ec tab Tx Tz 40 Tryz.f36 (ak jm) (okC Eo):=by
 refine⟨⟨_,_,_,_,_,_,_,rfl,⟨rfl,rfl,rfl,rfl,rfl,rfl,rfl⟩,rfl,rfl,rfl,by decide,?_⟩⟩
 rintro k c e hc hk hb h1 h2
 obtain⟨n0,_,rfl,m1,_,rfl,p1,m2,_,rfl,p2,m3,_,rfl,p3,m4,_,rfl,p4,rfl⟩:=hc
 simp only [ak,jm,List.set,List.getElem?_cons_zero,List.getElem?_cons_succ] at hb ⊢
 have q1:=aD mH m1 k
 have q2:=aD tL m2 (ah (ak aI) m1 k).2
 have q3:=aD mI m3 (ah (ak bQ) m2 (ah (ak aI) m1 k).2).2
 have q4:=aD dA m4 (ah (ak aR) m3 (ah (ak bQ) m2 (ah (ak aI) m1 k).2).2).2
 refine⟨?e1,?r1,?a⟩
 case r1=>(repeat' first|exact aL.nil|refine aL.mv (by first|exact h1|exact h2|rfl) ?_|refine aL.fa rfl (by first|exact h1|exact h2|rfl) ?_|refine aL.ld ⟨rfl,rfl⟩ (by first|exact h1|exact h2|rfl) rfl ?_|refine aL.ca rfl (by first|exact h1|exact h2|rfl) (by first|exact h1|exact h2|rfl) rfl (by first|exact p1|exact p2|exact p3|exact p4) (by omega) (by omega) ?_)
 case a=>rfl
theorem Yr:CQ Tryz.prog lim 36 (ak jm) (okC Eo):=
 Je uz (fun f F ok h=>by
 unfold Tx at h
 split at h
 ·rename_i hf;cases h;subst hf;exact Dv
 split at h
 ·rename_i hf;cases h;subst hf;exact Ru
 split at h
 ·rename_i hf;cases h;subst hf;exact acv
 split at h
 ·rename_i hf;cases h;subst hf;exact Rs
 cases h) (fun f s h=>by simp [Tz] at h) Tryz.func36 Tryz.call36 rfl (fun c h=>(kg h).trans rfl) (iB _) Vu
def yA:List Cm:=[.call 1 (ah (ak aI)),.call 2 (ah (ak bQ)),.call 3 (ah (ak aR)),.call 4 (ah (ak aP)),.call 5 (ah (ak aP)),.call 6 (ah (ak aP)),.call 7 (ah (ak dO)),.call 8 (ah (ak bM)),.call 9 (ah (ak iG))]
def abv:List Ck:=[.num,.sl fun m=>∀x∈m,oM x,.sl fun m=>∀x∈m,Bg x,.sl fun m=>∀x∈m,oO x,.sl fun m=>∀x∈m,jA x,.sl fun m=>∀x∈m,jA x,.sl fun m=>∀x∈m,jA x,.sl fun m=>∀x∈m,vQ x,.sl fun m=>∀x∈m,oN x,.sl fun m=>∀x∈m,En x]
def afH:Nat->Option (MF×(List AV->Prop)):=fun f=>if f=39 then some (ah (ak iG),fun m=>∀x∈m,En x) else if f=38 then some (ah (ak bM),fun m=>∀x∈m,oN x) else none
def afI:Nat->Option ((Int->ByteArray) ⊕ (MF×(List AV->Prop))):=fun f=>if f=37 then some (.inr (ak lH,okC JG)) else if f=36 then some (.inr (ak jm,okC Eo)) else none
theorem aej:Ec tab afH afI 45 Tryz.f10 (ak yA) (okC abv):=by
 refine⟨⟨_,_,_,_,_,_,_,rfl,⟨rfl,rfl,rfl,rfl,rfl,rfl,rfl⟩,rfl,rfl,rfl,by decide,?_⟩⟩
 rintro k c e hc hk hb h1 h2
 obtain⟨n0,_,rfl,m1,_,rfl,p1,m2,_,rfl,p2,m3,_,rfl,p3,m4,_,rfl,p4,m5,_,rfl,p5,m6,_,rfl,p6,m7,_,rfl,p7,m8,_,rfl,p8,m9,_,rfl,p9,rfl⟩:=hc
 simp only [ak,yA,List.set,List.getElem?_cons_zero,List.getElem?_cons_succ] at hb ⊢
 have q1:=aD mH m1 k
 have q2:=aD tL m2 (ah (ak aI) m1 k).2
 have q3:=aD mI m3 (ah (ak bQ) m2 (ah (ak aI) m1 k).2).2
 have q4:=aD dA m4 (ah (ak aR) m3 (ah (ak bQ) m2 (ah (ak aI) m1 k).2).2).2
 have q5:=aD dA m5 (ah (ak aP) m4 (ah (ak aR) m3 (ah (ak bQ) m2 (ah (ak aI) m1 k).2).2).2).2
 have q6:=aD dA m6 (ah (ak aP) m5 (ah (ak aP) m4 (ah (ak aR) m3 (ah (ak bQ) m2 (ah (ak aI) m1 k).2).2).2).2).2
 have q7:=aD ng m7 (ah (ak aP) m6 (ah (ak aP) m5 (ah (ak aP) m4 (ah (ak aR) m3 (ah (ak bQ) m2 (ah (ak aI) m1 k).2).2).2).2).2).2
 have q8:=aD jO m8 (ah (ak dO) m7 (ah (ak aP) m6 (ah (ak aP) m5 (ah (ak aP) m4 (ah (ak aR) m3 (ah (ak bQ) m2 (ah (ak aI) m1 k).2).2).2).2).2).2).2
 have q9:=aD xw m9 (ah (ak bM) m8 (ah (ak dO) m7 (ah (ak aP) m6 (ah (ak aP) m5 (ah (ak aP) m4 (ah (ak aR) m3 (ah (ak bQ) m2 (ah (ak aI) m1 k).2).2).2).2).2).2).2).2
 refine⟨?e1,?r1,?a⟩
 case r1=>(repeat' first|exact aL.nil|refine aL.mv (by first|exact h1|exact h2|rfl|exact (show _=some (MV.ptr 0) by simp [Env.put,Env.cut,h2])) ?_|refine aL.fa rfl (by first|exact h1|exact h2|rfl|exact (show _=some (MV.ptr 0) by simp [Env.put,Env.cut,h2])) ?_|refine aL.ld ⟨rfl,rfl⟩ (by first|exact h1|exact h2|rfl|exact (show _=some (MV.ptr 0) by simp [Env.put,Env.cut,h2])) rfl ?_|refine aL.ca rfl (by first|exact h1|exact h2|rfl|exact (show _=some (MV.ptr 0) by simp [Env.put,Env.cut,h2])) (by first|exact h1|exact h2|rfl|exact (show _=some (MV.ptr 0) by simp [Env.put,Env.cut,h2])) rfl (by first|exact p8|exact p9) (by omega) (by omega) ?_|(refine aL.aeV (off:=0) (n:=5) (F:=ak jm) (ok:=okC Eo) rfl (by first|exact h1|exact h2|rfl|exact (show _=some (MV.ptr 0) by simp [Env.put,Env.cut,h2])) (by first|exact h1|exact h2|rfl|exact (show _=some (MV.ptr 0) by simp [Env.put,Env.cut,h2])) (Nat.le_of_ble_eq_true rfl) (by exact⟨_,_,rfl,_,_,rfl,p1,_,_,rfl,p2,_,_,rfl,p3,_,_,rfl,p4,rfl⟩) (by omega) (by simp only [List.take,List.drop,List.take_zero,List.drop_zero,List.take_succ_cons,List.drop_succ_cons,List.take_nil,List.drop_nil,List.nil_append,List.cons_append,ak,jm,List.set,List.getElem?_cons_zero,List.getElem?_cons_succ];omega) (Nat.le_of_ble_eq_true rfl) ?_;simp only [List.take,List.drop,List.take_zero,List.drop_zero,List.take_succ_cons,List.drop_succ_cons,List.take_nil,List.drop_nil,List.nil_append,List.cons_append,ak,jm,List.set,List.getElem?_cons_zero,List.getElem?_cons_succ])|refine aL.lds (n:=5) ⟨rfl,rfl,rfl⟩ (by first|exact h1|exact h2|rfl|exact (show _=some (MV.ptr 0) by simp [Env.put,Env.cut,h2])) (Nat.le_of_ble_eq_true rfl) ?_|(refine aL.aeV (off:=5) (n:=3) (F:=ak lH) (ok:=okC JG) rfl (by first|exact h1|exact h2|rfl|exact (show _=some (MV.ptr 0) by simp [Env.put,Env.cut,h2])) (by first|exact h1|exact h2|rfl|exact (show _=some (MV.ptr 0) by simp [Env.put,Env.cut,h2])) (Nat.le_of_ble_eq_true rfl) (by exact⟨_,_,rfl,p5,_,_,rfl,p6,_,_,rfl,p7,rfl⟩) (by omega) (by simp only [List.take,List.drop,List.take_zero,List.drop_zero,List.take_succ_cons,List.drop_succ_cons,List.take_nil,List.drop_nil,List.nil_append,List.cons_append,ak,lH,List.set,List.getElem?_cons_zero,List.getElem?_cons_succ];omega) (Nat.le_of_ble_eq_true rfl) ?_;simp only [List.take,List.drop,List.take_zero,List.drop_zero,List.take_succ_cons,List.drop_succ_cons,List.take_nil,List.drop_nil,List.nil_append,List.cons_append,ak,lH,List.set,List.getElem?_cons_zero,List.getElem?_cons_succ])|refine aL.lds (n:=3) ⟨rfl,rfl,rfl⟩ (by first|exact h1|exact h2|rfl|exact (show _=some (MV.ptr 0) by simp [Env.put,Env.cut,h2])) (Nat.le_of_ble_eq_true rfl) ?_)
 case a=>rfl
theorem afg:CQ Tryz.prog lim 10 (ak yA) (okC abv):=
 Je uz (fun f F ok h=>by
 unfold afH at h
 split at h
 ·rename_i hf;cases h;subst hf;exact acu
 split at h
 ·rename_i hf;cases h;subst hf;exact JE
 cases h) (fun f s h=>by
 unfold afI at h
 split at h
 ·rename_i hf;cases h;subst hf;exact aah
 split at h
 ·rename_i hf;cases h;subst hf;exact Yr
 cases h) Tryz.func10 Tryz.call10 rfl (fun c h=>(kg h).trans rfl) (iB _) aej
def iH:List Cm:=[.call 0 (ah (ak aP)),.call 1 (ah (ak aP))]
def Bh:List Ck:=[.sl fun m=>∀x∈m,jA x,.sl fun m=>∀x∈m,jA x]
def Qq:Nat->Option (MF×(List AV->Prop)):=fun f=>if f=104 then some (ah (ak aP),fun m=>∀x∈m,jA x) else none
def Qr:Nat->Option ((Int->ByteArray) ⊕ (MF×(List AV->Prop))):=fun f=>none
theorem Rv:Ec tab Qq Qr 47 Tryz.f40 (ak iH) (okC Bh):=by
 refine⟨⟨_,_,_,_,_,_,_,rfl,⟨rfl,rfl,rfl,rfl,rfl,rfl,rfl⟩,rfl,rfl,rfl,by decide,?_⟩⟩
 rintro k c e hc hk hb h1 h2
 obtain⟨m0,_,rfl,p0,m1,_,rfl,p1,rfl⟩:=hc
 simp only [ak,iH,List.set,List.getElem?_cons_zero,List.getElem?_cons_succ] at hb ⊢
 have q1:=aD dA m0 k
 have q2:=aD dA m1 (ah (ak aP) m0 k).2
 refine⟨?e1,?r1,?a⟩
 case r1=>(repeat' first|exact aL.nil|refine aL.mv (by first|exact h1|exact h2|rfl) ?_|refine aL.fa rfl (by first|exact h1|exact h2|rfl) ?_|refine aL.ld ⟨rfl,rfl⟩ (by first|exact h1|exact h2|rfl) rfl ?_|refine aL.ca rfl (by first|exact h1|exact h2|rfl) (by first|exact h1|exact h2|rfl) rfl (by first|exact p0|exact p1) (by omega) (by omega) ?_)
 case a=>rfl
theorem Vv:CQ Tryz.prog lim 40 (ak iH) (okC Bh):=
 Je uz (fun f F ok h=>by
 unfold Qq at h
 split at h
 ·rename_i hf;cases h;subst hf;exact Dv
 cases h) (fun f s h=>by simp [Qr] at h) Tryz.func40 Tryz.call40 rfl (fun c h=>(kg h).trans rfl) (iB _) Rv
def fQ:List Cm:=[.call 1 (ah (ak aI)),.call 2 (ah (ak bQ)),.call 3 (ah (ak aR)),.call 4 (ah (ak aP)),.call 5 (ah (ak aP)),.call 6 (ah (ak aP)),.call 7 (ah (ak dO)),.call 8 (ah (ak bM)),.call 9 (ah (ak iG)),.call 10 (ah (ak aP)),.call 11 (ah (ak aP))]
def sw:List Ck:=[.num,.sl fun m=>∀x∈m,oM x,.sl fun m=>∀x∈m,Bg x,.sl fun m=>∀x∈m,oO x,.sl fun m=>∀x∈m,jA x,.sl fun m=>∀x∈m,jA x,.sl fun m=>∀x∈m,jA x,.sl fun m=>∀x∈m,vQ x,.sl fun m=>∀x∈m,oN x,.sl fun m=>∀x∈m,En x,.sl fun m=>∀x∈m,jA x,.sl fun m=>∀x∈m,jA x,.bit,.num,.bit]
def Dw:Nat->Option (MF×(List AV->Prop)):=fun f=>none
def Dx:Nat->Option ((Int->ByteArray) ⊕ (MF×(List AV->Prop))):=fun f=>if f=40 then some (.inr (ak iH,okC Bh)) else if f=10 then some (.inr (ak yA,okC abv)) else none
theorem JH:Ec tab Dw Dx 49 Tryz.f11 (ak fQ) (okC sw):=by
 refine⟨⟨_,_,_,_,_,_,_,rfl,⟨rfl,rfl,rfl,rfl,rfl,rfl,rfl⟩,rfl,rfl,rfl,by decide,?_⟩⟩
 rintro k c e hc hk hb h1 h2
 obtain⟨n0,_,rfl,m1,_,rfl,p1,m2,_,rfl,p2,m3,_,rfl,p3,m4,_,rfl,p4,m5,_,rfl,p5,m6,_,rfl,p6,m7,_,rfl,p7,m8,_,rfl,p8,m9,_,rfl,p9,m10,_,rfl,p10,m11,_,rfl,p11,n12,_,rfl,n13,_,rfl,n14,_,rfl,rfl⟩:=hc
 simp only [ak,fQ,List.set,List.getElem?_cons_zero,List.getElem?_cons_succ] at hb ⊢
 have q1:=aD mH m1 k
 have q2:=aD tL m2 (ah (ak aI) m1 k).2
 have q3:=aD mI m3 (ah (ak bQ) m2 (ah (ak aI) m1 k).2).2
 have q4:=aD dA m4 (ah (ak aR) m3 (ah (ak bQ) m2 (ah (ak aI) m1 k).2).2).2
 have q5:=aD dA m5 (ah (ak aP) m4 (ah (ak aR) m3 (ah (ak bQ) m2 (ah (ak aI) m1 k).2).2).2).2
 have q6:=aD dA m6 (ah (ak aP) m5 (ah (ak aP) m4 (ah (ak aR) m3 (ah (ak bQ) m2 (ah (ak aI) m1 k).2).2).2).2).2
 have q7:=aD ng m7 (ah (ak aP) m6 (ah (ak aP) m5 (ah (ak aP) m4 (ah (ak aR) m3 (ah (ak bQ) m2 (ah (ak aI) m1 k).2).2).2).2).2).2
 have q8:=aD jO m8 (ah (ak dO) m7 (ah (ak aP) m6 (ah (ak aP) m5 (ah (ak aP) m4 (ah (ak aR) m3 (ah (ak bQ) m2 (ah (ak aI) m1 k).2).2).2).2).2).2).2
 have q9:=aD xw m9 (ah (ak bM) m8 (ah (ak dO) m7 (ah (ak aP) m6 (ah (ak aP) m5 (ah (ak aP) m4 (ah (ak aR) m3 (ah (ak bQ) m2 (ah (ak aI) m1 k).2).2).2).2).2).2).2).2
 have q10:=aD dA m10 (ah (ak iG) m9 (ah (ak bM) m8 (ah (ak dO) m7 (ah (ak aP) m6 (ah (ak aP) m5 (ah (ak aP) m4 (ah (ak aR) m3 (ah (ak bQ) m2 (ah (ak aI) m1 k).2).2).2).2).2).2).2).2).2
 have q11:=aD dA m11 (ah (ak aP) m10 (ah (ak iG) m9 (ah (ak bM) m8 (ah (ak dO) m7 (ah (ak aP) m6 (ah (ak aP) m5 (ah (ak aP) m4 (ah (ak aR) m3 (ah (ak bQ) m2 (ah (ak aI) m1 k).2).2).2).2).2).2).2).2).2).2
 refine⟨?e1,?r1,?a⟩
 case r1=>(repeat' first|exact aL.nil|refine aL.mv (by first|exact h1|exact h2|rfl|exact (show _=some (MV.ptr 0) by simp [Env.put,Env.cut,h2])) ?_|refine aL.fa rfl (by first|exact h1|exact h2|rfl|exact (show _=some (MV.ptr 0) by simp [Env.put,Env.cut,h2])) ?_|refine aL.ld ⟨rfl,rfl⟩ (by first|exact h1|exact h2|rfl|exact (show _=some (MV.ptr 0) by simp [Env.put,Env.cut,h2])) rfl ?_|(refine aL.aeV (off:=0) (n:=10) (F:=ak yA) (ok:=okC abv) rfl (by first|exact h1|exact h2|rfl|exact (show _=some (MV.ptr 0) by simp [Env.put,Env.cut,h2])) (by first|exact h1|exact h2|rfl|exact (show _=some (MV.ptr 0) by simp [Env.put,Env.cut,h2])) (Nat.le_of_ble_eq_true rfl) (by exact⟨_,_,rfl,_,_,rfl,p1,_,_,rfl,p2,_,_,rfl,p3,_,_,rfl,p4,_,_,rfl,p5,_,_,rfl,p6,_,_,rfl,p7,_,_,rfl,p8,_,_,rfl,p9,rfl⟩) (by omega) (by simp only [List.take,List.drop,List.take_zero,List.drop_zero,List.take_succ_cons,List.drop_succ_cons,List.take_nil,List.drop_nil,List.nil_append,List.cons_append,ak,yA,List.set,List.getElem?_cons_zero,List.getElem?_cons_succ];omega) (Nat.le_of_ble_eq_true rfl) ?_;simp only [List.take,List.drop,List.take_zero,List.drop_zero,List.take_succ_cons,List.drop_succ_cons,List.take_nil,List.drop_nil,List.nil_append,List.cons_append,ak,yA,List.set,List.getElem?_cons_zero,List.getElem?_cons_succ])|refine aL.lds (n:=10) ⟨rfl,rfl,rfl⟩ (by first|exact h1|exact h2|rfl|exact (show _=some (MV.ptr 0) by simp [Env.put,Env.cut,h2])) (Nat.le_of_ble_eq_true rfl) ?_|(refine aL.aeV (off:=10) (n:=2) (F:=ak iH) (ok:=okC Bh) rfl (by first|exact h1|exact h2|rfl|exact (show _=some (MV.ptr 0) by simp [Env.put,Env.cut,h2])) (by first|exact h1|exact h2|rfl|exact (show _=some (MV.ptr 0) by simp [Env.put,Env.cut,h2])) (Nat.le_of_ble_eq_true rfl) (by exact⟨_,_,rfl,p10,_,_,rfl,p11,rfl⟩) (by omega) (by simp only [List.take,List.drop,List.take_zero,List.drop_zero,List.take_succ_cons,List.drop_succ_cons,List.take_nil,List.drop_nil,List.nil_append,List.cons_append,ak,iH,List.set,List.getElem?_cons_zero,List.getElem?_cons_succ];omega) (Nat.le_of_ble_eq_true rfl) ?_;simp only [List.take,List.drop,List.take_zero,List.drop_zero,List.take_succ_cons,List.drop_succ_cons,List.take_nil,List.drop_nil,List.nil_append,List.cons_append,ak,iH,List.set,List.getElem?_cons_zero,List.getElem?_cons_succ])|refine aL.lds (n:=2) ⟨rfl,rfl,rfl⟩ (by first|exact h1|exact h2|rfl|exact (show _=some (MV.ptr 0) by simp [Env.put,Env.cut,h2])) (Nat.le_of_ble_eq_true rfl) ?_)
 case a=>rfl
theorem KR:CQ Tryz.prog lim 11 (ak fQ) (okC sw):=
 Je uz (fun f F ok h=>by simp [Dw] at h) (fun f s h=>by
 unfold Dx at h
 split at h
 ·rename_i hf;cases h;subst hf;exact Vv
 split at h
 ·rename_i hf;cases h;subst hf;exact afg
 cases h) Tryz.func11 Tryz.call11 rfl (fun c h=>(kg h).trans rfl) (iB _) JH
end Go.Proofs.YthegbfgeochckaaGreat.Abs
