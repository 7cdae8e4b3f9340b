/- The laws' markText: which string. No statement of a claim. -/
import Derived.WalkKit
import Derived.Deep.LoopGhost
import Derived.Lib.Hide
import Derived.Laws.BytesArg
import Derived.Test.YtfhojdalheinaaaGreatProg
import Derived.Test.YtfhojdalheinaaaGreatLayB
import Derived.Test.YtfhojdalheinaaaGreatC1
import Derived.Test.YtfhojdalheinaaaGreatLmk
import Derived.Test.YtfhojdalheinaaaGreatLayC
import Derived.Test.YtfhojdalheinaaaGreatPlain
set_option linter.all false
set_option linter.unusedVariables false
set_option maxRecDepth 100000
set_option maxHeartbeats 4000000
namespace Go.Proofs.YtfhojdalheinaaaGreat.Abs
open Go.Proofs Go.RowKit
def digitsOf:Nat→Int→ByteArray→ByteArray
 | 0,_,s=>s
 | g+1,n,s=>if 0 < n then digitsOf g (n / 10) (strOfNums [48+n % 10]++s) else s
def textOf (k:Int):ByteArray:=if k≤0 then⟨#[109,48]⟩ else⟨#[109]⟩++digitsOf 63 k ⟨#[]⟩
theorem markText_is (k:Int) (hk:0≤k∧k≤4611686018427387904) (w:World):Calls Tryz.prog 129 #[.int .i64 k] w (fun e w'=>e= .returned (.string (textOf k))∧Quiet w w'):=by
 by_cases h0:k≤0
 ·rw [textOf,if_pos h0]
  go_enter Tryz.func129,Tryz.ntmps129
  go_wp2
  go_ret
  exact⟨rfl,Quiet.refl _⟩
 ·rw [textOf,if_neg h0]
  obtain⟨R,hR⟩:∃R,digitsOf 63 k ⟨#[]⟩=R:=⟨_,rfl⟩
  rw [hR]
  go_enter Tryz.func129,Tryz.ntmps129
  go_wp2
  go_loopg [0,3] 63 (fun g s0 s3 wr=>∃(n:Int) (s:ByteArray),s0= .int .i64 n∧s3= .string s∧0≤n∧n≤4611686018427387904∧n < 2 ^ g∧s.size+g≤63∧digitsOf g n s=R∧Aside (Quiet w wr))
  case atStart=>exact⟨k,⟨#[]⟩,rfl,rfl,by omega,by omega,by omega,by decide,hR,Quiet.refl _⟩
  case round=>
   obtain⟨n,s,rfl,rfl,h1,hm,h2,h3,hD,hb⟩:=hrel
   by_cases hlt:0 < n
   ·have hg:1≤gk:=by
     rcases Nat.eq_zero_or_pos gk with rfl | h
     ·simp at h2;omega
     ·exact h
    obtain⟨d,hd⟩:∃d,Hid (strOfNums [48+n % 10]=d):=⟨_,rfl⟩
    have hcv:∀T:TypeId,(convert 243 9 (.slice (some ⟨wr.heap.size,0,none⟩) 1 1)).run Tryz.prog (wr.alloc (.cells #[.int .u8 (48+n % 10)] T))= .ok (.string d) (wr.alloc (.cells #[.int .u8 (48+n % 10)] T)):=fun T=>by
     rw [← hd.out]
     exact run_convert_bytes_arg _ 243 5 Tryz.underlying243 Tryz.underlying5 _ 0 1 1 [48+n % 10] rfl (fun i hi=>by
      obtain rfl:i=0:=by omega
      simp) 9 Tryz.underlying9
    have h4:s.size≤63:=by omega
    have h5:d.size≤1:=by rw [← hd.out,strOfNums_size];simp
    obtain⟨g,rfl⟩:∃g,gk=g+1:=⟨gk - 1,by omega⟩
    have hD':digitsOf g (n / 10) (d++s)=R:=by rw [← hD,digitsOf,if_pos hlt,hd.out]
    clear hD
    have H2:=Lib.hid (half_pow h2)
    clear h2
    go_wp2
    ·go_roundg g
     case measure=>omega
     case rel=>exact⟨n / 10,d++s,by go_num,rfl,by omega,by omega,H2.out,by rw [ByteArray.size_append];omega,hD',(show Aside _ from (Quiet.then_alloc hb.out _))⟩
   ·have h4:s.size≤63:=by omega
    have hD':s=R:=by cases gk with | zero=>exact hD | succ g=>rw [← hD,digitsOf,if_neg hlt]
    subst hD'
    clear h2 hm hD
    go_wp2
    ·go_ret
     exact⟨rfl,hb.out⟩
theorem text_sem:TextSem Tryz.prog textOf 129:=
 ⟨Tryz.call129,fun w k hk=>(markText_is k hk w).mono fun _ _ h=>⟨h.1,h.2.os,h.2.tape,h.2.output,h.2.size,fun i hi _=>h.2.block i hi id,fun _ hb=>by simp at hb⟩⟩
theorem contract_text {P:Program} {T:Nat→Ty} {L f:Nat} {k:Int} {s:ByteArray} (hcf:∀(vs:Array Value) (w:World),(callFunc f vs).run P w= .ok (.enter f vs) w)
  (h:∀w:World,Calls P f #[.int .i64 k] w fun e w'=>e= .returned (.string s)∧Quiet w w'):Contract P T L f [.d (.int .i64 k)] (.d (.str s)):=by
 refine⟨hcf,fun I J O mt w vs hI _ hO _ _ ha=>?_⟩
 match vs,ha with
 | [v],ha=>
  have hv:v= .int .i64 k:=ha.1
  subst hv
  refine (h w).mono ?_
  rintro e w' ⟨rfl,hb⟩
  exact⟨_,rfl,Turn.ofQ (fun k hk=>hO k hk.1) hb,I,[],fun _ h=>h,fun _ h=>.inl h,List.nodup_nil,fun _ h=>by simp at h,by simp only [RepR];exact⟨trivial,rfl⟩⟩
 | [],ha=>exact ha.elim
 | _::_::_,ha=>exact ha.2.elim
theorem laws_markTextIs (k:Int) (hk:0≤k∧k≤4611686018427387904):Con 129 [.d (i64 k)] (.d (.str (textOf k))):=
 contract_text Tryz.call129 fun w=>markText_is k hk w
end Go.Proofs.YtfhojdalheinaaaGreat.Abs
set_option linter.unusedVariables false
set_option linter.unusedSimpArgs false
set_option maxRecDepth 20000
set_option maxHeartbeats 4000000
namespace Go.Proofs.YtfhojdalheinaaaGreat.Abs
open Go.Proofs
def xx:Nat→Option ((Int→ByteArray) ⊕ (MF×(List AV→Prop))):=fun f=>if f=129 then some (.inl textOf) else none
theorem bit3 {m:Int} (h:0≤m):(decide (m % 3=0) == decide (m.tmod 3=0))=true:=by rw [Int.tmod_eq_emod_of_nonneg h];exact beq_self_eq_true _
def cmIntS:List Cm:=[.num 0]
def okIntS:List Ck:=[.num]
def seIntS (x:AV):Prop:=∃n,x= .int .i64 n
theorem mono_IntS:∀c k,k≤(rowF cmIntS c k).2:=rowF_mono (by simp [cmIntS,Cm.mono])
def mmIntS:Nat→Option (MF×(List AV→Prop)):=fun f=>none
theorem code_IntS:MarkCode tab mmIntS xx 3 Tryz.f64 (rowF cmIntS) (okC okIntS):=by
 refine⟨⟨_,_,_,_,_,_,_,_,_,_,_,_,_,_,_,_,_,_,_,_,_,_,_,_,_,_,_,_,_,rfl,⟨rfl,rfl,rfl,rfl⟩,⟨rfl,rfl,rfl,rfl⟩,⟨rfl,⟨rfl,rfl,rfl⟩,⟨rfl,rfl,rfl⟩,⟨rfl,rfl,rfl,rfl,rfl,rfl⟩,⟨rfl,⟨_,_,rfl⟩,rfl⟩,⟨by decide,by decide,by decide⟩,by decide⟩,rfl,rfl,rfl,rfl,rfl,rfl,by decide,?_,_,_,_,rfl,rfl,rfl,rfl,rfl,rfl,rfl,by decide⟩⟩
 rintro j k c e hc hk hb hj h0 h1 h5
 obtain⟨n0,_,rfl,rfl⟩:=hc
 simp only [rowF,cmIntS,List.set,List.getElem?_cons_zero,List.getElem?_cons_succ] at hb ⊢
 refine⟨?e1,?r1,?e2,?r2,?a,?b,?c⟩
 case r1=>(repeat' first | exact MRun.nil | refine MRun.mv (by first | exact h0 | exact h1 | exact h5 | rfl) ?_ | refine MRun.ix rfl (by first | exact h0 | exact h1 | exact h5 | rfl) (by first | exact h0 | exact h1 | exact h5 | rfl) ?_ | refine MRun.fa rfl rfl ?_ | refine MRun.st ⟨rfl,rfl⟩ rfl (by first | exact h0 | exact h1 | exact h5 | rfl) rfl rfl ?_ | refine MRun.inc (by first | exact h0 | exact h1 | exact h5 | rfl) ⟨by omega,by omega⟩ ?_ | refine MRun.ld ⟨rfl,rfl⟩ rfl rfl ?_)
 case r2=>(repeat' first | exact MRun.nil | refine MRun.mv (by first | exact h5 | rfl) ?_ | refine MRun.inc (by first | exact h5 | rfl) ⟨by omega,by omega⟩ ?_)
 case a=>exact h0
 case b=>rfl
 case c=>rfl
theorem sem_IntS:MarkSem Tryz.prog lim 64 (markRow (rowF cmIntS)) (fun m=>∀x∈m,seIntS x):=
 (mark_sem tabOk (fun f F ok h=>by simp [mmIntS] at h) (fun f s h=>by
 unfold xx at h
 split at h
 ·rename_i hf;cases h;subst hf;exact text_sem
 cases h) Tryz.func64 Tryz.call64 rfl (by decide) mono_IntS (rowF_len _) (rowF_re _) (fun c h=>(okC_len h).trans rfl) code_IntS).imp fun m h x hx=>by
 obtain⟨n,rfl⟩:=h x hx;exact⟨n,[],rfl,rfl⟩
theorem laws_mheldIntS (l:List AV) (n:Int) (hn:0≤n) (ho:∀x∈l,seIntS x) (hM:(markRow (rowF cmIntS) l n).2≤4611686018427387904):Con 65 [.d (.sl (markRow (rowF cmIntS) l n).1),.d (i64 n)] (.d (i64 (markRow (rowF cmIntS) l n).2)):=by
 refine con Tryz.func65 rfl rfl Tryz.call65 rfl fun hwf=>?_
 simp only [ARs.wf,AR.wf,AV.wf,markRow_length,lim] at hwf
 have hlen:=markRow_length (rowF cmIntS) l n
 (repeat' ((conv=>whnf);first | refine gA ?_ | (refine gB ?_ ?_ <;> intro h) | (refine gI ?_;intro x hx) | (refine gJ ?_;intro j x hj hx) | refine gV ?_ | intro _)) <;> try (conv=>whnf)
 refine loopF [0] [] [] ?_
 (conv=>whnf)
 refine LoopC.go ((Nat)×(Int)) (fun⟨k,m⟩=>(k≤l.length)∧((markRow (rowF cmIntS) (l.take k) n).2=m)) (fun⟨k,m⟩=>[(5,.data (i64 k)),(1,.data (i64 m))]) (fun _=>[]) (fun _=>[]) (fun⟨k,m⟩=>l.length - k) ⟨0,n⟩ ?_ ?_
 ·exact⟨Nat.zero_le _,rfl⟩
 rintro⟨k,m⟩ ⟨hk,hm⟩
 have hmm:n≤m:=hm ▸ markRow_mono mono_IntS _ _
 by_cases hlt:k < l.length
 ·obtain⟨x,hx⟩:∃x,l[k]? =some x:=⟨_,List.getElem?_eq_getElem hlt⟩
  obtain⟨n0,rfl⟩:=ho x (List.mem_of_getElem? hx)
  have hg:=markRow_get (g:=rowF cmIntS) l n k hx
  have hs:=markRow_step (g:=rowF cmIntS) l n k hx
  have hle:=markRow_le mono_IntS l n (k+1)
  rw [hm] at hg hs
  conv at hg=>rhs;simp only [reAgg,AV.cells,rowF,cmIntS,List.set,List.headD,List.getElem?_cons_zero,List.getElem?_cons_succ]
  conv at hs=>rhs;simp only [AV.cells,rowF,cmIntS,List.set,List.getElem?_cons_zero,List.getElem?_cons_succ]
  rw [hs] at hle
  (repeat' ((conv=>whnf);first | with_reducible refine Idx.here hg rfl ?_ | refine gA ?_ | (refine gB ?_ ?_ <;> intro h) | (refine gI ?_;intro x hx) | (refine gJ ?_;intro j x hj hx) | refine gV ?_ | intro _)) <;> try (conv=>whnf)
  all_goals first
   | (exfalso;omega)
   | exact absurd trivial ‹¬True›
   | (apply Exists.intro (⟨k+1,_⟩)
      refine⟨?_,rfl,?_,?_⟩
      rotate_left
      ·(repeat' ((conv=>whnf) <;> (first | exact trivial | exact rfl | with_reducible refine And.intro ?_ ?_)))
      ·(try dsimp only);(try simp only [List.length_map]);omega
      exact⟨hlt,hs⟩)
 ·(repeat' ((conv=>whnf);first | (exfalso;omega) | refine gA ?_ | (refine gB ?_ ?_ <;> intro h) | (refine gI ?_;intro x hx) | (refine gJ ?_;intro j x hj hx) | refine gV ?_ | intro _)) <;> try (conv=>whnf)
  refine⟨?_,rfl,trivial⟩
  have:k=l.length:=by omega
  rw [← hm,this,List.take_length]
def cmModeS:List Cm:=[.num 0,.call 1 (markRow (rowF cmIntS)),.call 2 (markRow (rowF cmIntS))]
def okModeS:List Ck:=[.num,.sl fun m=>∀x∈m,seIntS x,.sl fun m=>∀x∈m,seIntS x]
def seModeS (x:AV):Prop:=∃c,x= .agg c∧okC okModeS c
theorem mono_ModeS:∀c k,k≤(rowF cmModeS c k).2:=rowF_mono (by simp [cmModeS,Cm.mono,markRow_mono mono_IntS])
def mmModeS:Nat→Option (MF×(List AV→Prop)):=fun f=>if f=64 then some (markRow (rowF cmIntS),fun m=>∀x∈m,seIntS x) else none
theorem code_ModeS:MarkCode tab mmModeS xx 145 Tryz.f130 (rowF cmModeS) (okC okModeS):=by
 refine⟨⟨_,_,_,_,_,_,_,_,_,_,_,_,_,_,_,_,_,_,_,_,_,_,_,_,_,_,_,_,_,rfl,⟨rfl,rfl,rfl,rfl⟩,⟨rfl,rfl,rfl,rfl⟩,⟨rfl,⟨rfl,rfl,rfl⟩,⟨rfl,rfl,rfl⟩,⟨rfl,rfl,rfl,rfl,rfl,rfl⟩,⟨rfl,⟨_,_,rfl⟩,rfl⟩,⟨by decide,by decide,by decide⟩,by decide⟩,rfl,rfl,rfl,rfl,rfl,rfl,by decide,?_,_,_,_,rfl,rfl,rfl,rfl,rfl,rfl,rfl,by decide⟩⟩
 rintro j k c e hc hk hb hj h0 h1 h5
 obtain⟨n0,_,rfl,m1,_,rfl,p1,m2,_,rfl,p2,rfl⟩:=hc
 simp only [rowF,cmModeS,List.set,List.getElem?_cons_zero,List.getElem?_cons_succ] at hb ⊢
 have q1:=markRow_mono mono_IntS m1 (k+1)
 have q2:=markRow_mono mono_IntS m2 (markRow (rowF cmIntS) m1 (k+1)).2
 refine⟨?e1,?r1,?e2,?r2,?a,?b,?c⟩
 case r1=>(repeat' first | exact MRun.nil | refine MRun.mv (by first | exact h0 | exact h1 | exact h5 | rfl) ?_ | refine MRun.ix rfl (by first | exact h0 | exact h1 | exact h5 | rfl) (by first | exact h0 | exact h1 | exact h5 | rfl) ?_ | refine MRun.fa rfl rfl ?_ | refine MRun.st ⟨rfl,rfl⟩ rfl (by first | exact h0 | exact h1 | exact h5 | rfl) rfl rfl ?_ | refine MRun.inc (by first | exact h0 | exact h1 | exact h5 | rfl) ⟨by omega,by omega⟩ ?_ | refine MRun.ld ⟨rfl,rfl⟩ rfl rfl ?_ | refine MRun.ca rfl (by first | exact h0 | exact h1 | exact h5 | rfl) (by first | exact h0 | exact h1 | exact h5 | rfl) rfl (by first | exact p1 | exact p2) (by omega) (by omega) ?_)
 case r2=>(repeat' first | exact MRun.nil | refine MRun.mv (by first | exact h5 | rfl) ?_ | refine MRun.inc (by first | exact h5 | rfl) ⟨by omega,by omega⟩ ?_)
 case a=>exact h0
 case b=>rfl
 case c=>rfl
theorem sem_ModeS:MarkSem Tryz.prog lim 130 (markRow (rowF cmModeS)) (fun m=>∀x∈m,seModeS x):=
 (mark_sem tabOk (fun f F ok h=>by
 unfold mmModeS at h
 split at h
 ·rename_i hf;cases h;subst hf;exact sem_IntS
 cases h) (fun f s h=>by
 unfold xx at h
 split at h
 ·rename_i hf;cases h;subst hf;exact text_sem
 cases h) Tryz.func130 Tryz.call130 rfl (by decide) mono_ModeS (rowF_len _) (rowF_re _) (fun c h=>(okC_len h).trans rfl) code_ModeS).imp fun m h x hx=>by
 obtain⟨c,rfl,k⟩:=h x hx;exact k
theorem laws_mheldModeS (l:List AV) (n:Int) (hn:0≤n) (ho:∀x∈l,seModeS x) (hM:(markRow (rowF cmModeS) l n).2≤4611686018427387904):Con 246 [.d (.sl (markRow (rowF cmModeS) l n).1),.d (i64 n)] (.d (i64 (markRow (rowF cmModeS) l n).2)):=by
 refine con Tryz.func246 rfl rfl Tryz.call246 rfl fun hwf=>?_
 simp only [ARs.wf,AR.wf,AV.wf,markRow_length,lim] at hwf
 have hlen:=markRow_length (rowF cmModeS) l n
 (repeat' ((conv=>whnf);first | refine gA ?_ | (refine gB ?_ ?_ <;> intro h) | (refine gI ?_;intro x hx) | (refine gJ ?_;intro j x hj hx) | refine gV ?_ | intro _)) <;> try (conv=>whnf)
 refine loopF [0] [] [] ?_
 (conv=>whnf)
 refine LoopC.go ((Nat)×(Int)) (fun⟨k,m⟩=>(k≤l.length)∧((markRow (rowF cmModeS) (l.take k) n).2=m)) (fun⟨k,m⟩=>[(5,.data (i64 k)),(1,.data (i64 m))]) (fun _=>[]) (fun _=>[]) (fun⟨k,m⟩=>l.length - k) ⟨0,n⟩ ?_ ?_
 ·exact⟨Nat.zero_le _,rfl⟩
 rintro⟨k,m⟩ ⟨hk,hm⟩
 have hmm:n≤m:=hm ▸ markRow_mono mono_ModeS _ _
 by_cases hlt:k < l.length
 ·obtain⟨x,hx⟩:∃x,l[k]? =some x:=⟨_,List.getElem?_eq_getElem hlt⟩
  obtain⟨c,rfl,n0,_,rfl,m1,_,rfl,p1,m2,_,rfl,p2,rfl⟩:=ho x (List.mem_of_getElem? hx)
  have hg:=markRow_get (g:=rowF cmModeS) l n k hx
  have hs:=markRow_step (g:=rowF cmModeS) l n k hx
  have hle:=markRow_le mono_ModeS l n (k+1)
  rw [hm] at hg hs
  conv at hg=>rhs;simp only [reAgg,AV.cells,rowF,cmModeS,List.set,List.headD,List.getElem?_cons_zero,List.getElem?_cons_succ]
  conv at hs=>rhs;simp only [AV.cells,rowF,cmModeS,List.set,List.getElem?_cons_zero,List.getElem?_cons_succ]
  rw [hs] at hle
  have q1:=markRow_mono mono_IntS m1 (m+1)
  have q2:=markRow_mono mono_IntS m2 (markRow (rowF cmIntS) m1 (m+1)).2
  (repeat' ((conv=>whnf);first | with_reducible refine Idx.here hg rfl ?_ | refine gA ?_ | (refine gB ?_ ?_ <;> intro h) | (refine gI ?_;intro x hx) | (refine gJ ?_;intro j x hj hx) | refine gV ?_ | refine gC (laws_mheldIntS m1 (m+1) (by omega) p1 (by omega)) ?_ | refine gC (laws_mheldIntS m2 (markRow (rowF cmIntS) m1 (m+1)).2 (by omega) p2 (by omega)) ?_ | intro _)) <;> try (conv=>whnf)
  all_goals first
   | (exfalso;omega)
   | exact absurd trivial ‹¬True›
   | (apply Exists.intro (⟨k+1,_⟩)
      refine⟨?_,rfl,?_,?_⟩
      rotate_left
      ·(repeat' ((conv=>whnf) <;> (first | exact trivial | exact rfl | with_reducible refine And.intro ?_ ?_)))
      ·(try dsimp only);(try simp only [List.length_map]);omega
      exact⟨hlt,hs⟩)
 ·(repeat' ((conv=>whnf);first | (exfalso;omega) | refine gA ?_ | (refine gB ?_ ?_ <;> intro h) | (refine gI ?_;intro x hx) | (refine gJ ?_;intro j x hj hx) | refine gV ?_ | intro _)) <;> try (conv=>whnf)
  refine⟨?_,rfl,trivial⟩
  have:k=l.length:=by omega
  rw [← hm,this,List.take_length]
def cmActivityS:List Cm:=[.txt 0 textOf,.num 1,.call 2 (markRow (rowF cmModeS))]
def okActivityS:List Ck:=[.txt,.num,.sl fun m=>∀x∈m,seModeS x]
def seActivityS (x:AV):Prop:=∃c,x= .agg c∧okC okActivityS c
theorem mono_ActivityS:∀c k,k≤(rowF cmActivityS c k).2:=rowF_mono (by simp [cmActivityS,Cm.mono,markRow_mono mono_ModeS])
def mmActivityS:Nat→Option (MF×(List AV→Prop)):=fun f=>if f=130 then some (markRow (rowF cmModeS),fun m=>∀x∈m,seModeS x) else none
theorem code_ActivityS:MarkCode tab mmActivityS xx 143 Tryz.f61 (rowF cmActivityS) (okC okActivityS):=by
 refine⟨⟨_,_,_,_,_,_,_,_,_,_,_,_,_,_,_,_,_,_,_,_,_,_,_,_,_,_,_,_,_,rfl,⟨rfl,rfl,rfl,rfl⟩,⟨rfl,rfl,rfl,rfl⟩,⟨rfl,⟨rfl,rfl,rfl⟩,⟨rfl,rfl,rfl⟩,⟨rfl,rfl,rfl,rfl,rfl,rfl⟩,⟨rfl,⟨_,_,rfl⟩,rfl⟩,⟨by decide,by decide,by decide⟩,by decide⟩,rfl,rfl,rfl,rfl,rfl,rfl,by decide,?_,_,_,_,rfl,rfl,rfl,rfl,rfl,rfl,rfl,by decide⟩⟩
 rintro j k c e hc hk hb hj h0 h1 h5
 obtain⟨n0,_,rfl,n1,_,rfl,m2,_,rfl,p2,rfl⟩:=hc
 simp only [rowF,cmActivityS,List.set,List.getElem?_cons_zero,List.getElem?_cons_succ] at hb ⊢
 have q1:=markRow_mono mono_ModeS m2 ((k+1)+1)
 refine⟨?e1,?r1,?e2,?r2,?a,?b,?c⟩
 case r1=>(repeat' first | exact MRun.nil | refine MRun.mv (by first | exact h0 | exact h1 | exact h5 | rfl) ?_ | refine MRun.ix rfl (by first | exact h0 | exact h1 | exact h5 | rfl) (by first | exact h0 | exact h1 | exact h5 | rfl) ?_ | refine MRun.fa rfl rfl ?_ | refine MRun.st ⟨rfl,rfl⟩ rfl (by first | exact h0 | exact h1 | exact h5 | rfl) rfl rfl ?_ | refine MRun.inc (by first | exact h0 | exact h1 | exact h5 | rfl) ⟨by omega,by omega⟩ ?_ | refine MRun.ld ⟨rfl,rfl⟩ rfl rfl ?_ | refine MRun.ca rfl (by first | exact h0 | exact h1 | exact h5 | rfl) (by first | exact h0 | exact h1 | exact h5 | rfl) rfl (by first | exact p2) (by omega) (by omega) ?_ | refine MRun.tx rfl (by first | exact h0 | exact h1 | exact h5 | rfl) (by omega) ?_ | refine MRun.sti ⟨rfl,rfl⟩ rfl (by first | exact h0 | exact h1 | exact h5 | rfl) rfl rfl ?_)
 case r2=>(repeat' first | exact MRun.nil | refine MRun.mv (by first | exact h5 | rfl) ?_ | refine MRun.inc (by first | exact h5 | rfl) ⟨by omega,by omega⟩ ?_)
 case a=>exact h0
 case b=>rfl
 case c=>rfl
theorem sem_ActivityS:MarkSem Tryz.prog lim 61 (markRow (rowF cmActivityS)) (fun m=>∀x∈m,seActivityS x):=
 (mark_sem tabOk (fun f F ok h=>by
 unfold mmActivityS at h
 split at h
 ·rename_i hf;cases h;subst hf;exact sem_ModeS
 cases h) (fun f s h=>by
 unfold xx at h
 split at h
 ·rename_i hf;cases h;subst hf;exact text_sem
 cases h) Tryz.func61 Tryz.call61 rfl (by decide) mono_ActivityS (rowF_len _) (rowF_re _) (fun c h=>(okC_len h).trans rfl) code_ActivityS).imp fun m h x hx=>by
 obtain⟨c,rfl,k⟩:=h x hx;exact k
theorem laws_mheldActivityS (l:List AV) (n:Int) (hn:0≤n) (ho:∀x∈l,seActivityS x) (hM:(markRow (rowF cmActivityS) l n).2≤4611686018427387904):Con 164 [.d (.sl (markRow (rowF cmActivityS) l n).1),.d (i64 n)] (.d (i64 (markRow (rowF cmActivityS) l n).2)):=by
 refine con Tryz.func164 rfl rfl Tryz.call164 rfl fun hwf=>?_
 simp only [ARs.wf,AR.wf,AV.wf,markRow_length,lim] at hwf
 have hlen:=markRow_length (rowF cmActivityS) l n
 (repeat' ((conv=>whnf);first | refine gA ?_ | (refine gB ?_ ?_ <;> intro h) | (refine gI ?_;intro x hx) | (refine gJ ?_;intro j x hj hx) | refine gV ?_ | intro _)) <;> try (conv=>whnf)
 refine loopF [0] [] [] ?_
 (conv=>whnf)
 refine LoopC.go ((Nat)×(Int)) (fun⟨k,m⟩=>(k≤l.length)∧((markRow (rowF cmActivityS) (l.take k) n).2=m)) (fun⟨k,m⟩=>[(5,.data (i64 k)),(1,.data (i64 m))]) (fun _=>[]) (fun _=>[]) (fun⟨k,m⟩=>l.length - k) ⟨0,n⟩ ?_ ?_
 ·exact⟨Nat.zero_le _,rfl⟩
 rintro⟨k,m⟩ ⟨hk,hm⟩
 have hmm:n≤m:=hm ▸ markRow_mono mono_ActivityS _ _
 by_cases hlt:k < l.length
 ·obtain⟨x,hx⟩:∃x,l[k]? =some x:=⟨_,List.getElem?_eq_getElem hlt⟩
  obtain⟨c,rfl,n0,_,rfl,n1,_,rfl,m2,_,rfl,p2,rfl⟩:=ho x (List.mem_of_getElem? hx)
  have hg:=markRow_get (g:=rowF cmActivityS) l n k hx
  have hs:=markRow_step (g:=rowF cmActivityS) l n k hx
  have hle:=markRow_le mono_ActivityS l n (k+1)
  rw [hm] at hg hs
  conv at hg=>rhs;simp only [reAgg,AV.cells,rowF,cmActivityS,List.set,List.headD,List.getElem?_cons_zero,List.getElem?_cons_succ]
  conv at hs=>rhs;simp only [AV.cells,rowF,cmActivityS,List.set,List.getElem?_cons_zero,List.getElem?_cons_succ]
  rw [hs] at hle
  have q1:=markRow_mono mono_ModeS m2 ((m+1)+1)
  (repeat' ((conv=>whnf);first | with_reducible refine Idx.here hg rfl ?_ | refine gA ?_ | (refine gB ?_ ?_ <;> intro h) | (refine gI ?_;intro x hx) | (refine gJ ?_;intro j x hj hx) | refine gV ?_ | refine gC (laws_markTextIs m (by omega)) ?_ | refine gC (laws_mheldModeS m2 ((m+1)+1) (by omega) p2 (by omega)) ?_ | intro _)) <;> try (conv=>whnf)
  all_goals first
   | (exfalso;omega)
   | exact absurd trivial ‹¬True›
   | (apply Exists.intro (⟨k+1,_⟩)
      refine⟨?_,rfl,?_,?_⟩
      rotate_left
      ·(repeat' ((conv=>whnf) <;> (first | exact trivial | exact rfl | with_reducible refine And.intro ?_ ?_)))
      ·(try dsimp only);(try simp only [List.length_map]);omega
      exact⟨hlt,hs⟩)
 ·(repeat' ((conv=>whnf);first | (exfalso;omega) | refine gA ?_ | (refine gB ?_ ?_ <;> intro h) | (refine gI ?_;intro x hx) | (refine gJ ?_;intro j x hj hx) | refine gV ?_ | intro _)) <;> try (conv=>whnf)
  refine⟨?_,rfl,trivial⟩
  have:k=l.length:=by omega
  rw [← hm,this,List.take_length]
def cmIntSS:List Cm:=[.call 0 (markRow (rowF cmIntS))]
def okIntSS:List Ck:=[.sl fun m=>∀x∈m,seIntS x]
def seIntSS (x:AV):Prop:=∃m,x= .sl m∧∀y∈m,seIntS y
theorem mono_IntSS:∀c k,k≤(rowF cmIntSS c k).2:=rowF_mono (by simp [cmIntSS,Cm.mono,markRow_mono mono_IntS])
def mmIntSS:Nat→Option (MF×(List AV→Prop)):=fun f=>if f=64 then some (markRow (rowF cmIntS),fun m=>∀x∈m,seIntS x) else none
theorem code_IntSS:MarkCode tab mmIntSS xx 25 Tryz.f132 (rowF cmIntSS) (okC okIntSS):=by
 refine⟨⟨_,_,_,_,_,_,_,_,_,_,_,_,_,_,_,_,_,_,_,_,_,_,_,_,_,_,_,_,_,rfl,⟨rfl,rfl,rfl,rfl⟩,⟨rfl,rfl,rfl,rfl⟩,⟨rfl,⟨rfl,rfl,rfl⟩,⟨rfl,rfl,rfl⟩,⟨rfl,rfl,rfl,rfl,rfl,rfl⟩,⟨rfl,⟨_,_,rfl⟩,rfl⟩,⟨by decide,by decide,by decide⟩,by decide⟩,rfl,rfl,rfl,rfl,rfl,rfl,by decide,?_,_,_,_,rfl,rfl,rfl,rfl,rfl,rfl,rfl,by decide⟩⟩
 rintro j k c e hc hk hb hj h0 h1 h5
 obtain⟨m0,_,rfl,p0,rfl⟩:=hc
 simp only [rowF,cmIntSS,List.set,List.getElem?_cons_zero,List.getElem?_cons_succ] at hb ⊢
 have q1:=markRow_mono mono_IntS m0 k
 refine⟨?e1,?r1,?e2,?r2,?a,?b,?c⟩
 case r1=>(repeat' first | exact MRun.nil | refine MRun.mv (by first | exact h0 | exact h1 | exact h5 | rfl) ?_ | refine MRun.ix rfl (by first | exact h0 | exact h1 | exact h5 | rfl) (by first | exact h0 | exact h1 | exact h5 | rfl) ?_ | refine MRun.fa rfl rfl ?_ | refine MRun.st ⟨rfl,rfl⟩ rfl (by first | exact h0 | exact h1 | exact h5 | rfl) rfl rfl ?_ | refine MRun.inc (by first | exact h0 | exact h1 | exact h5 | rfl) ⟨by omega,by omega⟩ ?_ | refine MRun.ld ⟨rfl,rfl⟩ rfl rfl ?_ | refine MRun.ca rfl (by first | exact h0 | exact h1 | exact h5 | rfl) (by first | exact h0 | exact h1 | exact h5 | rfl) rfl (by first | exact p0) (by omega) (by omega) ?_)
 case r2=>(repeat' first | exact MRun.nil | refine MRun.mv (by first | exact h5 | rfl) ?_ | refine MRun.inc (by first | exact h5 | rfl) ⟨by omega,by omega⟩ ?_)
 case a=>exact h0
 case b=>rfl
 case c=>rfl
theorem sem_IntSS:MarkSem Tryz.prog lim 132 (markRow (rowF cmIntSS)) (fun m=>∀x∈m,seIntSS x):=
 (mark_sem tabOk (fun f F ok h=>by
 unfold mmIntSS at h
 split at h
 ·rename_i hf;cases h;subst hf;exact sem_IntS
 cases h) (fun f s h=>by
 unfold xx at h
 split at h
 ·rename_i hf;cases h;subst hf;exact text_sem
 cases h) Tryz.func132 Tryz.call132 rfl (by decide) mono_IntSS (rowF_len _) (rowF_re _) (fun c h=>(okC_len h).trans rfl) code_IntSS).imp fun m h x hx=>by
 obtain⟨m,rfl,p⟩:=h x hx;exact⟨m,[],rfl,p,rfl⟩
theorem laws_mheldIntSS (l:List AV) (n:Int) (hn:0≤n) (ho:∀x∈l,seIntSS x) (hM:(markRow (rowF cmIntSS) l n).2≤4611686018427387904):Con 167 [.d (.sl (markRow (rowF cmIntSS) l n).1),.d (i64 n)] (.d (i64 (markRow (rowF cmIntSS) l n).2)):=by
 refine con Tryz.func167 rfl rfl Tryz.call167 rfl fun hwf=>?_
 simp only [ARs.wf,AR.wf,AV.wf,markRow_length,lim] at hwf
 have hlen:=markRow_length (rowF cmIntSS) l n
 (repeat' ((conv=>whnf);first | refine gA ?_ | (refine gB ?_ ?_ <;> intro h) | (refine gI ?_;intro x hx) | (refine gJ ?_;intro j x hj hx) | refine gV ?_ | intro _)) <;> try (conv=>whnf)
 refine loopF [0] [] [] ?_
 (conv=>whnf)
 refine LoopC.go ((Nat)×(Int)) (fun⟨k,m⟩=>(k≤l.length)∧((markRow (rowF cmIntSS) (l.take k) n).2=m)) (fun⟨k,m⟩=>[(5,.data (i64 k)),(1,.data (i64 m))]) (fun _=>[]) (fun _=>[]) (fun⟨k,m⟩=>l.length - k) ⟨0,n⟩ ?_ ?_
 ·exact⟨Nat.zero_le _,rfl⟩
 rintro⟨k,m⟩ ⟨hk,hm⟩
 have hmm:n≤m:=hm ▸ markRow_mono mono_IntSS _ _
 by_cases hlt:k < l.length
 ·obtain⟨x,hx⟩:∃x,l[k]? =some x:=⟨_,List.getElem?_eq_getElem hlt⟩
  obtain⟨m0,rfl,p0⟩:=ho x (List.mem_of_getElem? hx)
  have hg:=markRow_get (g:=rowF cmIntSS) l n k hx
  have hs:=markRow_step (g:=rowF cmIntSS) l n k hx
  have hle:=markRow_le mono_IntSS l n (k+1)
  rw [hm] at hg hs
  conv at hg=>rhs;simp only [reAgg,AV.cells,rowF,cmIntSS,List.set,List.headD,List.getElem?_cons_zero,List.getElem?_cons_succ]
  conv at hs=>rhs;simp only [AV.cells,rowF,cmIntSS,List.set,List.getElem?_cons_zero,List.getElem?_cons_succ]
  rw [hs] at hle
  have q1:=markRow_mono mono_IntS m0 m
  (repeat' ((conv=>whnf);first | with_reducible refine Idx.here hg rfl ?_ | refine gA ?_ | (refine gB ?_ ?_ <;> intro h) | (refine gI ?_;intro x hx) | (refine gJ ?_;intro j x hj hx) | refine gV ?_ | refine gC (laws_mheldIntS m0 m (by omega) p0 (by omega)) ?_ | intro _)) <;> try (conv=>whnf)
  all_goals first
   | (exfalso;omega)
   | exact absurd trivial ‹¬True›
   | (apply Exists.intro (⟨k+1,_⟩)
      refine⟨?_,rfl,?_,?_⟩
      rotate_left
      ·(repeat' ((conv=>whnf) <;> (first | exact trivial | exact rfl | with_reducible refine And.intro ?_ ?_)))
      ·(try dsimp only);(try simp only [List.length_map]);omega
      exact⟨hlt,hs⟩)
 ·(repeat' ((conv=>whnf);first | (exfalso;omega) | refine gA ?_ | (refine gB ?_ ?_ <;> intro h) | (refine gI ?_;intro x hx) | (refine gJ ?_;intro j x hj hx) | refine gV ?_ | intro _)) <;> try (conv=>whnf)
  refine⟨?_,rfl,trivial⟩
  have:k=l.length:=by omega
  rw [← hm,this,List.take_length]
def cmLiteralS:List Cm:=[.num 0,.num 1,.num 2]
def okLiteralS:List Ck:=[.num,.num,.num]
def seLiteralS (x:AV):Prop:=∃c,x= .agg c∧okC okLiteralS c
theorem mono_LiteralS:∀c k,k≤(rowF cmLiteralS c k).2:=rowF_mono (by simp [cmLiteralS,Cm.mono])
def mmLiteralS:Nat→Option (MF×(List AV→Prop)):=fun f=>none
theorem code_LiteralS:MarkCode tab mmLiteralS xx 69 Tryz.f82 (rowF cmLiteralS) (okC okLiteralS):=by
 refine⟨⟨_,_,_,_,_,_,_,_,_,_,_,_,_,_,_,_,_,_,_,_,_,_,_,_,_,_,_,_,_,rfl,⟨rfl,rfl,rfl,rfl⟩,⟨rfl,rfl,rfl,rfl⟩,⟨rfl,⟨rfl,rfl,rfl⟩,⟨rfl,rfl,rfl⟩,⟨rfl,rfl,rfl,rfl,rfl,rfl⟩,⟨rfl,⟨_,_,rfl⟩,rfl⟩,⟨by decide,by decide,by decide⟩,by decide⟩,rfl,rfl,rfl,rfl,rfl,rfl,by decide,?_,_,_,_,rfl,rfl,rfl,rfl,rfl,rfl,rfl,by decide⟩⟩
 rintro j k c e hc hk hb hj h0 h1 h5
 obtain⟨n0,_,rfl,n1,_,rfl,n2,_,rfl,rfl⟩:=hc
 simp only [rowF,cmLiteralS,List.set,List.getElem?_cons_zero,List.getElem?_cons_succ] at hb ⊢
 refine⟨?e1,?r1,?e2,?r2,?a,?b,?c⟩
 case r1=>(repeat' first | exact MRun.nil | refine MRun.mv (by first | exact h0 | exact h1 | exact h5 | rfl) ?_ | refine MRun.ix rfl (by first | exact h0 | exact h1 | exact h5 | rfl) (by first | exact h0 | exact h1 | exact h5 | rfl) ?_ | refine MRun.fa rfl rfl ?_ | refine MRun.st ⟨rfl,rfl⟩ rfl (by first | exact h0 | exact h1 | exact h5 | rfl) rfl rfl ?_ | refine MRun.inc (by first | exact h0 | exact h1 | exact h5 | rfl) ⟨by omega,by omega⟩ ?_ | refine MRun.ld ⟨rfl,rfl⟩ rfl rfl ?_)
 case r2=>(repeat' first | exact MRun.nil | refine MRun.mv (by first | exact h5 | rfl) ?_ | refine MRun.inc (by first | exact h5 | rfl) ⟨by omega,by omega⟩ ?_)
 case a=>exact h0
 case b=>rfl
 case c=>rfl
theorem sem_LiteralS:MarkSem Tryz.prog lim 82 (markRow (rowF cmLiteralS)) (fun m=>∀x∈m,seLiteralS x):=
 (mark_sem tabOk (fun f F ok h=>by simp [mmLiteralS] at h) (fun f s h=>by
 unfold xx at h
 split at h
 ·rename_i hf;cases h;subst hf;exact text_sem
 cases h) Tryz.func82 Tryz.call82 rfl (by decide) mono_LiteralS (rowF_len _) (rowF_re _) (fun c h=>(okC_len h).trans rfl) code_LiteralS).imp fun m h x hx=>by
 obtain⟨c,rfl,k⟩:=h x hx;exact k
theorem laws_mheldLiteralS (l:List AV) (n:Int) (hn:0≤n) (ho:∀x∈l,seLiteralS x) (hM:(markRow (rowF cmLiteralS) l n).2≤4611686018427387904):Con 86 [.d (.sl (markRow (rowF cmLiteralS) l n).1),.d (i64 n)] (.d (i64 (markRow (rowF cmLiteralS) l n).2)):=by
 refine con Tryz.func86 rfl rfl Tryz.call86 rfl fun hwf=>?_
 simp only [ARs.wf,AR.wf,AV.wf,markRow_length,lim] at hwf
 have hlen:=markRow_length (rowF cmLiteralS) l n
 (repeat' ((conv=>whnf);first | refine gA ?_ | (refine gB ?_ ?_ <;> intro h) | (refine gI ?_;intro x hx) | (refine gJ ?_;intro j x hj hx) | refine gV ?_ | intro _)) <;> try (conv=>whnf)
 refine loopF [0] [] [] ?_
 (conv=>whnf)
 refine LoopC.go ((Nat)×(Int)) (fun⟨k,m⟩=>(k≤l.length)∧((markRow (rowF cmLiteralS) (l.take k) n).2=m)) (fun⟨k,m⟩=>[(5,.data (i64 k)),(1,.data (i64 m))]) (fun _=>[]) (fun _=>[]) (fun⟨k,m⟩=>l.length - k) ⟨0,n⟩ ?_ ?_
 ·exact⟨Nat.zero_le _,rfl⟩
 rintro⟨k,m⟩ ⟨hk,hm⟩
 have hmm:n≤m:=hm ▸ markRow_mono mono_LiteralS _ _
 by_cases hlt:k < l.length
 ·obtain⟨x,hx⟩:∃x,l[k]? =some x:=⟨_,List.getElem?_eq_getElem hlt⟩
  obtain⟨c,rfl,n0,_,rfl,n1,_,rfl,n2,_,rfl,rfl⟩:=ho x (List.mem_of_getElem? hx)
  have hg:=markRow_get (g:=rowF cmLiteralS) l n k hx
  have hs:=markRow_step (g:=rowF cmLiteralS) l n k hx
  have hle:=markRow_le mono_LiteralS l n (k+1)
  rw [hm] at hg hs
  conv at hg=>rhs;simp only [reAgg,AV.cells,rowF,cmLiteralS,List.set,List.headD,List.getElem?_cons_zero,List.getElem?_cons_succ]
  conv at hs=>rhs;simp only [AV.cells,rowF,cmLiteralS,List.set,List.getElem?_cons_zero,List.getElem?_cons_succ]
  rw [hs] at hle
  (repeat' ((conv=>whnf);first | with_reducible refine Idx.here hg rfl ?_ | refine gA ?_ | (refine gB ?_ ?_ <;> intro h) | (refine gI ?_;intro x hx) | (refine gJ ?_;intro j x hj hx) | refine gV ?_ | intro _)) <;> try (conv=>whnf)
  all_goals first
   | (exfalso;omega)
   | exact absurd trivial ‹¬True›
   | (apply Exists.intro (⟨k+1,_⟩)
      refine⟨?_,rfl,?_,?_⟩
      rotate_left
      ·(repeat' ((conv=>whnf) <;> (first | exact trivial | exact rfl | with_reducible refine And.intro ?_ ?_)))
      ·(try dsimp only);(try simp only [List.length_map]);omega
      exact⟨hlt,hs⟩)
 ·(repeat' ((conv=>whnf);first | (exfalso;omega) | refine gA ?_ | (refine gB ?_ ?_ <;> intro h) | (refine gI ?_;intro x hx) | (refine gJ ?_;intro j x hj hx) | refine gV ?_ | intro _)) <;> try (conv=>whnf)
  refine⟨?_,rfl,trivial⟩
  have:k=l.length:=by omega
  rw [← hm,this,List.take_length]
def cmLineS:List Cm:=[.num 0,.num 1,.num 2,.num 3,.num 4,.call 5 (markRow (rowF cmLiteralS))]
def okLineS:List Ck:=[.num,.num,.num,.num,.num,.sl fun m=>∀x∈m,seLiteralS x]
def seLineS (x:AV):Prop:=∃c,x= .agg c∧okC okLineS c
theorem mono_LineS:∀c k,k≤(rowF cmLineS c k).2:=rowF_mono (by simp [cmLineS,Cm.mono,markRow_mono mono_LiteralS])
def mmLineS:Nat→Option (MF×(List AV→Prop)):=fun f=>if f=82 then some (markRow (rowF cmLiteralS),fun m=>∀x∈m,seLiteralS x) else none
theorem code_LineS:MarkCode tab mmLineS xx 189 Tryz.f83 (rowF cmLineS) (okC okLineS):=by
 refine⟨⟨_,_,_,_,_,_,_,_,_,_,_,_,_,_,_,_,_,_,_,_,_,_,_,_,_,_,_,_,_,rfl,⟨rfl,rfl,rfl,rfl⟩,⟨rfl,rfl,rfl,rfl⟩,⟨rfl,⟨rfl,rfl,rfl⟩,⟨rfl,rfl,rfl⟩,⟨rfl,rfl,rfl,rfl,rfl,rfl⟩,⟨rfl,⟨_,_,rfl⟩,rfl⟩,⟨by decide,by decide,by decide⟩,by decide⟩,rfl,rfl,rfl,rfl,rfl,rfl,by decide,?_,_,_,_,rfl,rfl,rfl,rfl,rfl,rfl,rfl,by decide⟩⟩
 rintro j k c e hc hk hb hj h0 h1 h5
 obtain⟨n0,_,rfl,n1,_,rfl,n2,_,rfl,n3,_,rfl,n4,_,rfl,m5,_,rfl,p5,rfl⟩:=hc
 simp only [rowF,cmLineS,List.set,List.getElem?_cons_zero,List.getElem?_cons_succ] at hb ⊢
 have q1:=markRow_mono mono_LiteralS m5 (((((k+1)+1)+1)+1)+1)
 refine⟨?e1,?r1,?e2,?r2,?a,?b,?c⟩
 case r1=>(repeat' first | exact MRun.nil | refine MRun.mv (by first | exact h0 | exact h1 | exact h5 | rfl) ?_ | refine MRun.ix rfl (by first | exact h0 | exact h1 | exact h5 | rfl) (by first | exact h0 | exact h1 | exact h5 | rfl) ?_ | refine MRun.fa rfl rfl ?_ | refine MRun.st ⟨rfl,rfl⟩ rfl (by first | exact h0 | exact h1 | exact h5 | rfl) rfl rfl ?_ | refine MRun.inc (by first | exact h0 | exact h1 | exact h5 | rfl) ⟨by omega,by omega⟩ ?_ | refine MRun.ld ⟨rfl,rfl⟩ rfl rfl ?_ | refine MRun.ca rfl (by first | exact h0 | exact h1 | exact h5 | rfl) (by first | exact h0 | exact h1 | exact h5 | rfl) rfl (by first | exact p5) (by omega) (by omega) ?_)
 case r2=>(repeat' first | exact MRun.nil | refine MRun.mv (by first | exact h5 | rfl) ?_ | refine MRun.inc (by first | exact h5 | rfl) ⟨by omega,by omega⟩ ?_)
 case a=>exact h0
 case b=>rfl
 case c=>rfl
theorem sem_LineS:MarkSem Tryz.prog lim 83 (markRow (rowF cmLineS)) (fun m=>∀x∈m,seLineS x):=
 (mark_sem tabOk (fun f F ok h=>by
 unfold mmLineS at h
 split at h
 ·rename_i hf;cases h;subst hf;exact sem_LiteralS
 cases h) (fun f s h=>by
 unfold xx at h
 split at h
 ·rename_i hf;cases h;subst hf;exact text_sem
 cases h) Tryz.func83 Tryz.call83 rfl (by decide) mono_LineS (rowF_len _) (rowF_re _) (fun c h=>(okC_len h).trans rfl) code_LineS).imp fun m h x hx=>by
 obtain⟨c,rfl,k⟩:=h x hx;exact k
theorem laws_mheldLineS (l:List AV) (n:Int) (hn:0≤n) (ho:∀x∈l,seLineS x) (hM:(markRow (rowF cmLineS) l n).2≤4611686018427387904):Con 87 [.d (.sl (markRow (rowF cmLineS) l n).1),.d (i64 n)] (.d (i64 (markRow (rowF cmLineS) l n).2)):=by
 refine con Tryz.func87 rfl rfl Tryz.call87 rfl fun hwf=>?_
 simp only [ARs.wf,AR.wf,AV.wf,markRow_length,lim] at hwf
 have hlen:=markRow_length (rowF cmLineS) l n
 (repeat' ((conv=>whnf);first | refine gA ?_ | (refine gB ?_ ?_ <;> intro h) | (refine gI ?_;intro x hx) | (refine gJ ?_;intro j x hj hx) | refine gV ?_ | intro _)) <;> try (conv=>whnf)
 refine loopF [0] [] [] ?_
 (conv=>whnf)
 refine LoopC.go ((Nat)×(Int)) (fun⟨k,m⟩=>(k≤l.length)∧((markRow (rowF cmLineS) (l.take k) n).2=m)) (fun⟨k,m⟩=>[(5,.data (i64 k)),(1,.data (i64 m))]) (fun _=>[]) (fun _=>[]) (fun⟨k,m⟩=>l.length - k) ⟨0,n⟩ ?_ ?_
 ·exact⟨Nat.zero_le _,rfl⟩
 rintro⟨k,m⟩ ⟨hk,hm⟩
 have hmm:n≤m:=hm ▸ markRow_mono mono_LineS _ _
 by_cases hlt:k < l.length
 ·obtain⟨x,hx⟩:∃x,l[k]? =some x:=⟨_,List.getElem?_eq_getElem hlt⟩
  obtain⟨c,rfl,n0,_,rfl,n1,_,rfl,n2,_,rfl,n3,_,rfl,n4,_,rfl,m5,_,rfl,p5,rfl⟩:=ho x (List.mem_of_getElem? hx)
  have hg:=markRow_get (g:=rowF cmLineS) l n k hx
  have hs:=markRow_step (g:=rowF cmLineS) l n k hx
  have hle:=markRow_le mono_LineS l n (k+1)
  rw [hm] at hg hs
  conv at hg=>rhs;simp only [reAgg,AV.cells,rowF,cmLineS,List.set,List.headD,List.getElem?_cons_zero,List.getElem?_cons_succ]
  conv at hs=>rhs;simp only [AV.cells,rowF,cmLineS,List.set,List.getElem?_cons_zero,List.getElem?_cons_succ]
  rw [hs] at hle
  have q1:=markRow_mono mono_LiteralS m5 (((((m+1)+1)+1)+1)+1)
  (repeat' ((conv=>whnf);first | with_reducible refine Idx.here hg rfl ?_ | refine gA ?_ | (refine gB ?_ ?_ <;> intro h) | (refine gI ?_;intro x hx) | (refine gJ ?_;intro j x hj hx) | refine gV ?_ | refine gC (laws_mheldLiteralS m5 (((((m+1)+1)+1)+1)+1) (by omega) p5 (by omega)) ?_ | intro _)) <;> try (conv=>whnf)
  all_goals first
   | (exfalso;omega)
   | exact absurd trivial ‹¬True›
   | (apply Exists.intro (⟨k+1,_⟩)
      refine⟨?_,rfl,?_,?_⟩
      rotate_left
      ·(repeat' ((conv=>whnf) <;> (first | exact trivial | exact rfl | with_reducible refine And.intro ?_ ?_)))
      ·(try dsimp only);(try simp only [List.length_map]);omega
      exact⟨hlt,hs⟩)
 ·(repeat' ((conv=>whnf);first | (exfalso;omega) | refine gA ?_ | (refine gB ?_ ?_ <;> intro h) | (refine gI ?_;intro x hx) | (refine gJ ?_;intro j x hj hx) | refine gV ?_ | intro _)) <;> try (conv=>whnf)
  refine⟨?_,rfl,trivial⟩
  have:k=l.length:=by omega
  rw [← hm,this,List.take_length]
def cmLinkS:List Cm:=[.num 0,.num 1,.bit 2,.num 3]
def okLinkS:List Ck:=[.num,.num,.bit,.num]
def seLinkS (x:AV):Prop:=∃c,x= .agg c∧okC okLinkS c
theorem mono_LinkS:∀c k,k≤(rowF cmLinkS c k).2:=rowF_mono (by simp [cmLinkS,Cm.mono])
def mmLinkS:Nat→Option (MF×(List AV→Prop)):=fun f=>none
theorem code_LinkS:MarkCode tab mmLinkS xx 159 Tryz.f62 (rowF cmLinkS) (okC okLinkS):=by
 refine⟨⟨_,_,_,_,_,_,_,_,_,_,_,_,_,_,_,_,_,_,_,_,_,_,_,_,_,_,_,_,_,rfl,⟨rfl,rfl,rfl,rfl⟩,⟨rfl,rfl,rfl,rfl⟩,⟨rfl,⟨rfl,rfl,rfl⟩,⟨rfl,rfl,rfl⟩,⟨rfl,rfl,rfl,rfl,rfl,rfl⟩,⟨rfl,⟨_,_,rfl⟩,rfl⟩,⟨by decide,by decide,by decide⟩,by decide⟩,rfl,rfl,rfl,rfl,rfl,rfl,by decide,?_,_,_,_,rfl,rfl,rfl,rfl,rfl,rfl,rfl,by decide⟩⟩
 rintro j k c e hc hk hb hj h0 h1 h5
 obtain⟨n0,_,rfl,n1,_,rfl,n2,_,rfl,n3,_,rfl,rfl⟩:=hc
 simp only [rowF,cmLinkS,List.set,List.getElem?_cons_zero,List.getElem?_cons_succ] at hb ⊢
 refine⟨?e1,?r1,?e2,?r2,?a,?b,?c⟩
 case r1=>(repeat' first | exact MRun.nil | refine MRun.mv (by first | exact h0 | exact h1 | exact h5 | rfl) ?_ | refine MRun.ix rfl (by first | exact h0 | exact h1 | exact h5 | rfl) (by first | exact h0 | exact h1 | exact h5 | rfl) ?_ | refine MRun.fa rfl rfl ?_ | refine MRun.st ⟨rfl,rfl⟩ rfl (by first | exact h0 | exact h1 | exact h5 | rfl) rfl rfl ?_ | refine MRun.inc (by first | exact h0 | exact h1 | exact h5 | rfl) ⟨by omega,by omega⟩ ?_ | refine MRun.ld ⟨rfl,rfl⟩ rfl rfl ?_ | refine MRun.rem (by first | exact h0 | exact h1 | exact h5 | rfl) (by omega) ?_ | refine MRun.eq0 (by first | exact h0 | exact h1 | exact h5 | rfl) ?_ | refine MRun.sti ⟨rfl,rfl⟩ rfl (by first | exact h0 | exact h1 | exact h5 | rfl) rfl rfl ?_)
 case r2=>(repeat' first | exact MRun.nil | refine MRun.mv (by first | exact h5 | rfl) ?_ | refine MRun.inc (by first | exact h5 | rfl) ⟨by omega,by omega⟩ ?_)
 case a=>exact h0
 case b=>rfl
 case c=>rfl
theorem sem_LinkS:MarkSem Tryz.prog lim 62 (markRow (rowF cmLinkS)) (fun m=>∀x∈m,seLinkS x):=
 (mark_sem tabOk (fun f F ok h=>by simp [mmLinkS] at h) (fun f s h=>by
 unfold xx at h
 split at h
 ·rename_i hf;cases h;subst hf;exact text_sem
 cases h) Tryz.func62 Tryz.call62 rfl (by decide) mono_LinkS (rowF_len _) (rowF_re _) (fun c h=>(okC_len h).trans rfl) code_LinkS).imp fun m h x hx=>by
 obtain⟨c,rfl,k⟩:=h x hx;exact k
theorem laws_mheldLinkS (l:List AV) (n:Int) (hn:0≤n) (ho:∀x∈l,seLinkS x) (hM:(markRow (rowF cmLinkS) l n).2≤4611686018427387904):Con 165 [.d (.sl (markRow (rowF cmLinkS) l n).1),.d (i64 n)] (.d (i64 (markRow (rowF cmLinkS) l n).2)):=by
 refine con Tryz.func165 rfl rfl Tryz.call165 rfl fun hwf=>?_
 simp only [ARs.wf,AR.wf,AV.wf,markRow_length,lim] at hwf
 have hlen:=markRow_length (rowF cmLinkS) l n
 (repeat' ((conv=>whnf);first | refine gA ?_ | (refine gB ?_ ?_ <;> intro h) | (refine gI ?_;intro x hx) | (refine gJ ?_;intro j x hj hx) | refine gV ?_ | intro _)) <;> try (conv=>whnf)
 refine loopF [0] [] [] ?_
 (conv=>whnf)
 refine LoopC.go ((Nat)×(Int)) (fun⟨k,m⟩=>(k≤l.length)∧((markRow (rowF cmLinkS) (l.take k) n).2=m)) (fun⟨k,m⟩=>[(5,.data (i64 k)),(1,.data (i64 m))]) (fun _=>[]) (fun _=>[]) (fun⟨k,m⟩=>l.length - k) ⟨0,n⟩ ?_ ?_
 ·exact⟨Nat.zero_le _,rfl⟩
 rintro⟨k,m⟩ ⟨hk,hm⟩
 have hmm:n≤m:=hm ▸ markRow_mono mono_LinkS _ _
 by_cases hlt:k < l.length
 ·obtain⟨x,hx⟩:∃x,l[k]? =some x:=⟨_,List.getElem?_eq_getElem hlt⟩
  obtain⟨c,rfl,n0,_,rfl,n1,_,rfl,n2,_,rfl,n3,_,rfl,rfl⟩:=ho x (List.mem_of_getElem? hx)
  have hg:=markRow_get (g:=rowF cmLinkS) l n k hx
  have hs:=markRow_step (g:=rowF cmLinkS) l n k hx
  have hle:=markRow_le mono_LinkS l n (k+1)
  rw [hm] at hg hs
  conv at hg=>rhs;simp only [reAgg,AV.cells,rowF,cmLinkS,List.set,List.headD,List.getElem?_cons_zero,List.getElem?_cons_succ]
  conv at hs=>rhs;simp only [AV.cells,rowF,cmLinkS,List.set,List.getElem?_cons_zero,List.getElem?_cons_succ]
  rw [hs] at hle
  (repeat' ((conv=>whnf);first | with_reducible refine Idx.here hg rfl ?_ | with_reducible refine Br.yes (bit3 (by omega)) ?_ | refine gA ?_ | (refine gB ?_ ?_ <;> intro h) | (refine gI ?_;intro x hx) | (refine gJ ?_;intro j x hj hx) | refine gV ?_ | intro _)) <;> try (conv=>whnf)
  all_goals first
   | (exfalso;omega)
   | exact absurd trivial ‹¬True›
   | (apply Exists.intro (⟨k+1,_⟩)
      refine⟨?_,rfl,?_,?_⟩
      rotate_left
      ·(repeat' ((conv=>whnf) <;> (first | exact trivial | exact rfl | with_reducible refine And.intro ?_ ?_)))
      ·(try dsimp only);(try simp only [List.length_map]);omega
      exact⟨hlt,hs⟩)
 ·(repeat' ((conv=>whnf);first | (exfalso;omega) | refine gA ?_ | (refine gB ?_ ?_ <;> intro h) | (refine gI ?_;intro x hx) | (refine gJ ?_;intro j x hj hx) | refine gV ?_ | intro _)) <;> try (conv=>whnf)
  refine⟨?_,rfl,trivial⟩
  have:k=l.length:=by omega
  rw [← hm,this,List.take_length]
def cmStepS:List Cm:=[.num 0,.num 1]
def okStepS:List Ck:=[.num,.num]
def seStepS (x:AV):Prop:=∃c,x= .agg c∧okC okStepS c
theorem mono_StepS:∀c k,k≤(rowF cmStepS c k).2:=rowF_mono (by simp [cmStepS,Cm.mono])
def mmStepS:Nat→Option (MF×(List AV→Prop)):=fun f=>none
theorem code_StepS:MarkCode tab mmStepS xx 222 Tryz.f131 (rowF cmStepS) (okC okStepS):=by
 refine⟨⟨_,_,_,_,_,_,_,_,_,_,_,_,_,_,_,_,_,_,_,_,_,_,_,_,_,_,_,_,_,rfl,⟨rfl,rfl,rfl,rfl⟩,⟨rfl,rfl,rfl,rfl⟩,⟨rfl,⟨rfl,rfl,rfl⟩,⟨rfl,rfl,rfl⟩,⟨rfl,rfl,rfl,rfl,rfl,rfl⟩,⟨rfl,⟨_,_,rfl⟩,rfl⟩,⟨by decide,by decide,by decide⟩,by decide⟩,rfl,rfl,rfl,rfl,rfl,rfl,by decide,?_,_,_,_,rfl,rfl,rfl,rfl,rfl,rfl,rfl,by decide⟩⟩
 rintro j k c e hc hk hb hj h0 h1 h5
 obtain⟨n0,_,rfl,n1,_,rfl,rfl⟩:=hc
 simp only [rowF,cmStepS,List.set,List.getElem?_cons_zero,List.getElem?_cons_succ] at hb ⊢
 refine⟨?e1,?r1,?e2,?r2,?a,?b,?c⟩
 case r1=>(repeat' first | exact MRun.nil | refine MRun.mv (by first | exact h0 | exact h1 | exact h5 | rfl) ?_ | refine MRun.ix rfl (by first | exact h0 | exact h1 | exact h5 | rfl) (by first | exact h0 | exact h1 | exact h5 | rfl) ?_ | refine MRun.fa rfl rfl ?_ | refine MRun.st ⟨rfl,rfl⟩ rfl (by first | exact h0 | exact h1 | exact h5 | rfl) rfl rfl ?_ | refine MRun.inc (by first | exact h0 | exact h1 | exact h5 | rfl) ⟨by omega,by omega⟩ ?_ | refine MRun.ld ⟨rfl,rfl⟩ rfl rfl ?_)
 case r2=>(repeat' first | exact MRun.nil | refine MRun.mv (by first | exact h5 | rfl) ?_ | refine MRun.inc (by first | exact h5 | rfl) ⟨by omega,by omega⟩ ?_)
 case a=>exact h0
 case b=>rfl
 case c=>rfl
theorem sem_StepS:MarkSem Tryz.prog lim 131 (markRow (rowF cmStepS)) (fun m=>∀x∈m,seStepS x):=
 (mark_sem tabOk (fun f F ok h=>by simp [mmStepS] at h) (fun f s h=>by
 unfold xx at h
 split at h
 ·rename_i hf;cases h;subst hf;exact text_sem
 cases h) Tryz.func131 Tryz.call131 rfl (by decide) mono_StepS (rowF_len _) (rowF_re _) (fun c h=>(okC_len h).trans rfl) code_StepS).imp fun m h x hx=>by
 obtain⟨c,rfl,k⟩:=h x hx;exact k
theorem laws_mheldStepS (l:List AV) (n:Int) (hn:0≤n) (ho:∀x∈l,seStepS x) (hM:(markRow (rowF cmStepS) l n).2≤4611686018427387904):Con 247 [.d (.sl (markRow (rowF cmStepS) l n).1),.d (i64 n)] (.d (i64 (markRow (rowF cmStepS) l n).2)):=by
 refine con Tryz.func247 rfl rfl Tryz.call247 rfl fun hwf=>?_
 simp only [ARs.wf,AR.wf,AV.wf,markRow_length,lim] at hwf
 have hlen:=markRow_length (rowF cmStepS) l n
 (repeat' ((conv=>whnf);first | refine gA ?_ | (refine gB ?_ ?_ <;> intro h) | (refine gI ?_;intro x hx) | (refine gJ ?_;intro j x hj hx) | refine gV ?_ | intro _)) <;> try (conv=>whnf)
 refine loopF [0] [] [] ?_
 (conv=>whnf)
 refine LoopC.go ((Nat)×(Int)) (fun⟨k,m⟩=>(k≤l.length)∧((markRow (rowF cmStepS) (l.take k) n).2=m)) (fun⟨k,m⟩=>[(5,.data (i64 k)),(1,.data (i64 m))]) (fun _=>[]) (fun _=>[]) (fun⟨k,m⟩=>l.length - k) ⟨0,n⟩ ?_ ?_
 ·exact⟨Nat.zero_le _,rfl⟩
 rintro⟨k,m⟩ ⟨hk,hm⟩
 have hmm:n≤m:=hm ▸ markRow_mono mono_StepS _ _
 by_cases hlt:k < l.length
 ·obtain⟨x,hx⟩:∃x,l[k]? =some x:=⟨_,List.getElem?_eq_getElem hlt⟩
  obtain⟨c,rfl,n0,_,rfl,n1,_,rfl,rfl⟩:=ho x (List.mem_of_getElem? hx)
  have hg:=markRow_get (g:=rowF cmStepS) l n k hx
  have hs:=markRow_step (g:=rowF cmStepS) l n k hx
  have hle:=markRow_le mono_StepS l n (k+1)
  rw [hm] at hg hs
  conv at hg=>rhs;simp only [reAgg,AV.cells,rowF,cmStepS,List.set,List.headD,List.getElem?_cons_zero,List.getElem?_cons_succ]
  conv at hs=>rhs;simp only [AV.cells,rowF,cmStepS,List.set,List.getElem?_cons_zero,List.getElem?_cons_succ]
  rw [hs] at hle
  (repeat' ((conv=>whnf);first | with_reducible refine Idx.here hg rfl ?_ | refine gA ?_ | (refine gB ?_ ?_ <;> intro h) | (refine gI ?_;intro x hx) | (refine gJ ?_;intro j x hj hx) | refine gV ?_ | intro _)) <;> try (conv=>whnf)
  all_goals first
   | (exfalso;omega)
   | exact absurd trivial ‹¬True›
   | (apply Exists.intro (⟨k+1,_⟩)
      refine⟨?_,rfl,?_,?_⟩
      rotate_left
      ·(repeat' ((conv=>whnf) <;> (first | exact trivial | exact rfl | with_reducible refine And.intro ?_ ?_)))
      ·(try dsimp only);(try simp only [List.length_map]);omega
      exact⟨hlt,hs⟩)
 ·(repeat' ((conv=>whnf);first | (exfalso;omega) | refine gA ?_ | (refine gB ?_ ?_ <;> intro h) | (refine gI ?_;intro x hx) | (refine gJ ?_;intro j x hj hx) | refine gV ?_ | intro _)) <;> try (conv=>whnf)
  refine⟨?_,rfl,trivial⟩
  have:k=l.length:=by omega
  rw [← hm,this,List.take_length]
def cmResourceS:List Cm:=[.call 0 (markRow (rowF cmStepS)),.call 1 (markRow (rowF cmIntSS))]
def okResourceS:List Ck:=[.sl fun m=>∀x∈m,seStepS x,.sl fun m=>∀x∈m,seIntSS x]
def seResourceS (x:AV):Prop:=∃c,x= .agg c∧okC okResourceS c
theorem mono_ResourceS:∀c k,k≤(rowF cmResourceS c k).2:=rowF_mono (by simp [cmResourceS,Cm.mono,markRow_mono mono_StepS,markRow_mono mono_IntSS])
def mmResourceS:Nat→Option (MF×(List AV→Prop)):=fun f=>if f=132 then some (markRow (rowF cmIntSS),fun m=>∀x∈m,seIntSS x) else if f=131 then some (markRow (rowF cmStepS),fun m=>∀x∈m,seStepS x) else none
theorem code_ResourceS:MarkCode tab mmResourceS xx 149 Tryz.f63 (rowF cmResourceS) (okC okResourceS):=by
 refine⟨⟨_,_,_,_,_,_,_,_,_,_,_,_,_,_,_,_,_,_,_,_,_,_,_,_,_,_,_,_,_,rfl,⟨rfl,rfl,rfl,rfl⟩,⟨rfl,rfl,rfl,rfl⟩,⟨rfl,⟨rfl,rfl,rfl⟩,⟨rfl,rfl,rfl⟩,⟨rfl,rfl,rfl,rfl,rfl,rfl⟩,⟨rfl,⟨_,_,rfl⟩,rfl⟩,⟨by decide,by decide,by decide⟩,by decide⟩,rfl,rfl,rfl,rfl,rfl,rfl,by decide,?_,_,_,_,rfl,rfl,rfl,rfl,rfl,rfl,rfl,by decide⟩⟩
 rintro j k c e hc hk hb hj h0 h1 h5
 obtain⟨m0,_,rfl,p0,m1,_,rfl,p1,rfl⟩:=hc
 simp only [rowF,cmResourceS,List.set,List.getElem?_cons_zero,List.getElem?_cons_succ] at hb ⊢
 have q1:=markRow_mono mono_StepS m0 k
 have q2:=markRow_mono mono_IntSS m1 (markRow (rowF cmStepS) m0 k).2
 refine⟨?e1,?r1,?e2,?r2,?a,?b,?c⟩
 case r1=>(repeat' first | exact MRun.nil | refine MRun.mv (by first | exact h0 | exact h1 | exact h5 | rfl) ?_ | refine MRun.ix rfl (by first | exact h0 | exact h1 | exact h5 | rfl) (by first | exact h0 | exact h1 | exact h5 | rfl) ?_ | refine MRun.fa rfl rfl ?_ | refine MRun.st ⟨rfl,rfl⟩ rfl (by first | exact h0 | exact h1 | exact h5 | rfl) rfl rfl ?_ | refine MRun.inc (by first | exact h0 | exact h1 | exact h5 | rfl) ⟨by omega,by omega⟩ ?_ | refine MRun.ld ⟨rfl,rfl⟩ rfl rfl ?_ | refine MRun.ca rfl (by first | exact h0 | exact h1 | exact h5 | rfl) (by first | exact h0 | exact h1 | exact h5 | rfl) rfl (by first | exact p0 | exact p1) (by omega) (by omega) ?_)
 case r2=>(repeat' first | exact MRun.nil | refine MRun.mv (by first | exact h5 | rfl) ?_ | refine MRun.inc (by first | exact h5 | rfl) ⟨by omega,by omega⟩ ?_)
 case a=>exact h0
 case b=>rfl
 case c=>rfl
theorem sem_ResourceS:MarkSem Tryz.prog lim 63 (markRow (rowF cmResourceS)) (fun m=>∀x∈m,seResourceS x):=
 (mark_sem tabOk (fun f F ok h=>by
 unfold mmResourceS at h
 split at h
 ·rename_i hf;cases h;subst hf;exact sem_IntSS
 split at h
 ·rename_i hf;cases h;subst hf;exact sem_StepS
 cases h) (fun f s h=>by
 unfold xx at h
 split at h
 ·rename_i hf;cases h;subst hf;exact text_sem
 cases h) Tryz.func63 Tryz.call63 rfl (by decide) mono_ResourceS (rowF_len _) (rowF_re _) (fun c h=>(okC_len h).trans rfl) code_ResourceS).imp fun m h x hx=>by
 obtain⟨c,rfl,k⟩:=h x hx;exact k
theorem laws_mheldResourceS (l:List AV) (n:Int) (hn:0≤n) (ho:∀x∈l,seResourceS x) (hM:(markRow (rowF cmResourceS) l n).2≤4611686018427387904):Con 166 [.d (.sl (markRow (rowF cmResourceS) l n).1),.d (i64 n)] (.d (i64 (markRow (rowF cmResourceS) l n).2)):=by
 refine con Tryz.func166 rfl rfl Tryz.call166 rfl fun hwf=>?_
 simp only [ARs.wf,AR.wf,AV.wf,markRow_length,lim] at hwf
 have hlen:=markRow_length (rowF cmResourceS) l n
 (repeat' ((conv=>whnf);first | refine gA ?_ | (refine gB ?_ ?_ <;> intro h) | (refine gI ?_;intro x hx) | (refine gJ ?_;intro j x hj hx) | refine gV ?_ | intro _)) <;> try (conv=>whnf)
 refine loopF [0] [] [] ?_
 (conv=>whnf)
 refine LoopC.go ((Nat)×(Int)) (fun⟨k,m⟩=>(k≤l.length)∧((markRow (rowF cmResourceS) (l.take k) n).2=m)) (fun⟨k,m⟩=>[(5,.data (i64 k)),(1,.data (i64 m))]) (fun _=>[]) (fun _=>[]) (fun⟨k,m⟩=>l.length - k) ⟨0,n⟩ ?_ ?_
 ·exact⟨Nat.zero_le _,rfl⟩
 rintro⟨k,m⟩ ⟨hk,hm⟩
 have hmm:n≤m:=hm ▸ markRow_mono mono_ResourceS _ _
 by_cases hlt:k < l.length
 ·obtain⟨x,hx⟩:∃x,l[k]? =some x:=⟨_,List.getElem?_eq_getElem hlt⟩
  obtain⟨c,rfl,m0,_,rfl,p0,m1,_,rfl,p1,rfl⟩:=ho x (List.mem_of_getElem? hx)
  have hg:=markRow_get (g:=rowF cmResourceS) l n k hx
  have hs:=markRow_step (g:=rowF cmResourceS) l n k hx
  have hle:=markRow_le mono_ResourceS l n (k+1)
  rw [hm] at hg hs
  conv at hg=>rhs;simp only [reAgg,AV.cells,rowF,cmResourceS,List.set,List.headD,List.getElem?_cons_zero,List.getElem?_cons_succ]
  conv at hs=>rhs;simp only [AV.cells,rowF,cmResourceS,List.set,List.getElem?_cons_zero,List.getElem?_cons_succ]
  rw [hs] at hle
  have q1:=markRow_mono mono_StepS m0 m
  have q2:=markRow_mono mono_IntSS m1 (markRow (rowF cmStepS) m0 m).2
  (repeat' ((conv=>whnf);first | with_reducible refine Idx.here hg rfl ?_ | refine gA ?_ | (refine gB ?_ ?_ <;> intro h) | (refine gI ?_;intro x hx) | (refine gJ ?_;intro j x hj hx) | refine gV ?_ | refine gC (laws_mheldStepS m0 m (by omega) p0 (by omega)) ?_ | refine gC (laws_mheldIntSS m1 (markRow (rowF cmStepS) m0 m).2 (by omega) p1 (by omega)) ?_ | intro _)) <;> try (conv=>whnf)
  all_goals first
   | (exfalso;omega)
   | exact absurd trivial ‹¬True›
   | (apply Exists.intro (⟨k+1,_⟩)
      refine⟨?_,rfl,?_,?_⟩
      rotate_left
      ·(repeat' ((conv=>whnf) <;> (first | exact trivial | exact rfl | with_reducible refine And.intro ?_ ?_)))
      ·(try dsimp only);(try simp only [List.length_map]);omega
      exact⟨hlt,hs⟩)
 ·(repeat' ((conv=>whnf);first | (exfalso;omega) | refine gA ?_ | (refine gB ?_ ?_ <;> intro h) | (refine gI ?_;intro x hx) | (refine gJ ?_;intro j x hj hx) | refine gV ?_ | intro _)) <;> try (conv=>whnf)
  refine⟨?_,rfl,trivial⟩
  have:k=l.length:=by omega
  rw [← hm,this,List.take_length]
def cmDomain:List Cm:=[.call 0 (markRow (rowF cmIntS)),.call 1 (markRow (rowF cmIntS)),.call 2 (markRow (rowF cmIntSS))]
def okDomain:List Ck:=[.sl fun m=>∀x∈m,seIntS x,.sl fun m=>∀x∈m,seIntS x,.sl fun m=>∀x∈m,seIntSS x]
def mmDomain:Nat→Option (MF×(List AV→Prop)):=fun f=>if f=132 then some (markRow (rowF cmIntSS),fun m=>∀x∈m,seIntSS x) else if f=64 then some (markRow (rowF cmIntS),fun m=>∀x∈m,seIntS x) else none
def xxDomain:Nat→Option ((Int→ByteArray) ⊕ (MF×(List AV→Prop))):=fun f=>none
theorem code_Domain:BoxCode tab mmDomain xxDomain 61 Tryz.f81 (rowF cmDomain) (okC okDomain):=by
 refine⟨⟨_,_,_,_,_,_,_,rfl,⟨rfl,rfl,rfl,rfl,rfl,rfl,rfl⟩,rfl,rfl,rfl,by decide,?_⟩⟩
 rintro k c e hc hk hb h1 h2
 obtain⟨m0,_,rfl,p0,m1,_,rfl,p1,m2,_,rfl,p2,rfl⟩:=hc
 simp only [rowF,cmDomain,List.set,List.getElem?_cons_zero,List.getElem?_cons_succ] at hb ⊢
 have q1:=markRow_mono mono_IntS m0 k
 have q2:=markRow_mono mono_IntS m1 (markRow (rowF cmIntS) m0 k).2
 have q3:=markRow_mono mono_IntSS m2 (markRow (rowF cmIntS) m1 (markRow (rowF cmIntS) m0 k).2).2
 refine⟨?e1,?r1,?a⟩
 case r1=>(repeat' first | exact MRun.nil | refine MRun.mv (by first | exact h1 | exact h2 | rfl) ?_ | refine MRun.fa rfl (by first | exact h1 | exact h2 | rfl) ?_ | refine MRun.ld ⟨rfl,rfl⟩ (by first | exact h1 | exact h2 | rfl) rfl ?_ | refine MRun.ca rfl (by first | exact h1 | exact h2 | rfl) (by first | exact h1 | exact h2 | rfl) rfl (by first | exact p0 | exact p1 | exact p2) (by omega) (by omega) ?_)
 case a=>rfl
theorem sem_Domain:BoxSem Tryz.prog lim 81 (rowF cmDomain) (okC okDomain):=
 box_sem tabOk (fun f F ok h=>by
 unfold mmDomain at h
 split at h
 ·rename_i hf;cases h;subst hf;exact sem_IntSS
 split at h
 ·rename_i hf;cases h;subst hf;exact sem_IntS
 cases h) (fun f s h=>by simp [xxDomain] at h) Tryz.func81 Tryz.call81 rfl (fun c h=>(okC_len h).trans rfl) (rowF_len _) code_Domain
def cmProject:List Cm:=[.call 1 (markRow (rowF cmActivityS)),.call 2 (markRow (rowF cmLinkS)),.call 3 (markRow (rowF cmResourceS)),.call 4 (markRow (rowF cmIntS))]
def okProject:List Ck:=[.num,.sl fun m=>∀x∈m,seActivityS x,.sl fun m=>∀x∈m,seLinkS x,.sl fun m=>∀x∈m,seResourceS x,.sl fun m=>∀x∈m,seIntS x]
def mmProject:Nat→Option (MF×(List AV→Prop)):=fun f=>if f=64 then some (markRow (rowF cmIntS),fun m=>∀x∈m,seIntS x) else if f=63 then some (markRow (rowF cmResourceS),fun m=>∀x∈m,seResourceS x) else if f=62 then some (markRow (rowF cmLinkS),fun m=>∀x∈m,seLinkS x) else if f=61 then some (markRow (rowF cmActivityS),fun m=>∀x∈m,seActivityS x) else none
def xxProject:Nat→Option ((Int→ByteArray) ⊕ (MF×(List AV→Prop))):=fun f=>none
theorem code_Project:BoxCode tab mmProject xxProject 41 Tryz.f16 (rowF cmProject) (okC okProject):=by
 refine⟨⟨_,_,_,_,_,_,_,rfl,⟨rfl,rfl,rfl,rfl,rfl,rfl,rfl⟩,rfl,rfl,rfl,by decide,?_⟩⟩
 rintro k c e hc hk hb h1 h2
 obtain⟨n0,_,rfl,m1,_,rfl,p1,m2,_,rfl,p2,m3,_,rfl,p3,m4,_,rfl,p4,rfl⟩:=hc
 simp only [rowF,cmProject,List.set,List.getElem?_cons_zero,List.getElem?_cons_succ] at hb ⊢
 have q1:=markRow_mono mono_ActivityS m1 k
 have q2:=markRow_mono mono_LinkS m2 (markRow (rowF cmActivityS) m1 k).2
 have q3:=markRow_mono mono_ResourceS m3 (markRow (rowF cmLinkS) m2 (markRow (rowF cmActivityS) m1 k).2).2
 have q4:=markRow_mono mono_IntS m4 (markRow (rowF cmResourceS) m3 (markRow (rowF cmLinkS) m2 (markRow (rowF cmActivityS) m1 k).2).2).2
 refine⟨?e1,?r1,?a⟩
 case r1=>(repeat' first | exact MRun.nil | refine MRun.mv (by first | exact h1 | exact h2 | rfl) ?_ | refine MRun.fa rfl (by first | exact h1 | exact h2 | rfl) ?_ | refine MRun.ld ⟨rfl,rfl⟩ (by first | exact h1 | exact h2 | rfl) rfl ?_ | refine MRun.ca rfl (by first | exact h1 | exact h2 | rfl) (by first | exact h1 | exact h2 | rfl) rfl (by first | exact p1 | exact p2 | exact p3 | exact p4) (by omega) (by omega) ?_)
 case a=>rfl
theorem sem_Project:BoxSem Tryz.prog lim 16 (rowF cmProject) (okC okProject):=
 box_sem tabOk (fun f F ok h=>by
 unfold mmProject at h
 split at h
 ·rename_i hf;cases h;subst hf;exact sem_IntS
 split at h
 ·rename_i hf;cases h;subst hf;exact sem_ResourceS
 split at h
 ·rename_i hf;cases h;subst hf;exact sem_LinkS
 split at h
 ·rename_i hf;cases h;subst hf;exact sem_ActivityS
 cases h) (fun f s h=>by simp [xxProject] at h) Tryz.func16 Tryz.call16 rfl (fun c h=>(okC_len h).trans rfl) (rowF_len _) code_Project
def cmLog:List Cm:=[.call 1 (markRow (rowF cmActivityS)),.call 2 (markRow (rowF cmLinkS)),.call 3 (markRow (rowF cmResourceS)),.call 4 (markRow (rowF cmIntS)),.call 5 (markRow (rowF cmIntS)),.call 6 (markRow (rowF cmIntS)),.call 7 (markRow (rowF cmIntSS)),.call 8 (markRow (rowF cmLiteralS)),.call 9 (markRow (rowF cmLineS))]
def okLog:List Ck:=[.num,.sl fun m=>∀x∈m,seActivityS x,.sl fun m=>∀x∈m,seLinkS x,.sl fun m=>∀x∈m,seResourceS x,.sl fun m=>∀x∈m,seIntS x,.sl fun m=>∀x∈m,seIntS x,.sl fun m=>∀x∈m,seIntS x,.sl fun m=>∀x∈m,seIntSS x,.sl fun m=>∀x∈m,seLiteralS x,.sl fun m=>∀x∈m,seLineS x]
def mmLog:Nat→Option (MF×(List AV→Prop)):=fun f=>if f=83 then some (markRow (rowF cmLineS),fun m=>∀x∈m,seLineS x) else if f=82 then some (markRow (rowF cmLiteralS),fun m=>∀x∈m,seLiteralS x) else none
def xxLog:Nat→Option ((Int→ByteArray) ⊕ (MF×(List AV→Prop))):=fun f=>if f=81 then some (.inr (rowF cmDomain,okC okDomain)) else if f=16 then some (.inr (rowF cmProject,okC okProject)) else none
theorem code_Log:BoxCode tab mmLog xxLog 65 Tryz.f25 (rowF cmLog) (okC okLog):=by
 refine⟨⟨_,_,_,_,_,_,_,rfl,⟨rfl,rfl,rfl,rfl,rfl,rfl,rfl⟩,rfl,rfl,rfl,by decide,?_⟩⟩
 rintro k c e hc hk hb h1 h2
 obtain⟨n0,_,rfl,m1,_,rfl,p1,m2,_,rfl,p2,m3,_,rfl,p3,m4,_,rfl,p4,m5,_,rfl,p5,m6,_,rfl,p6,m7,_,rfl,p7,m8,_,rfl,p8,m9,_,rfl,p9,rfl⟩:=hc
 simp only [rowF,cmLog,List.set,List.getElem?_cons_zero,List.getElem?_cons_succ] at hb ⊢
 have q1:=markRow_mono mono_ActivityS m1 k
 have q2:=markRow_mono mono_LinkS m2 (markRow (rowF cmActivityS) m1 k).2
 have q3:=markRow_mono mono_ResourceS m3 (markRow (rowF cmLinkS) m2 (markRow (rowF cmActivityS) m1 k).2).2
 have q4:=markRow_mono mono_IntS m4 (markRow (rowF cmResourceS) m3 (markRow (rowF cmLinkS) m2 (markRow (rowF cmActivityS) m1 k).2).2).2
 have q5:=markRow_mono mono_IntS m5 (markRow (rowF cmIntS) m4 (markRow (rowF cmResourceS) m3 (markRow (rowF cmLinkS) m2 (markRow (rowF cmActivityS) m1 k).2).2).2).2
 have q6:=markRow_mono mono_IntS m6 (markRow (rowF cmIntS) m5 (markRow (rowF cmIntS) m4 (markRow (rowF cmResourceS) m3 (markRow (rowF cmLinkS) m2 (markRow (rowF cmActivityS) m1 k).2).2).2).2).2
 have q7:=markRow_mono mono_IntSS m7 (markRow (rowF cmIntS) m6 (markRow (rowF cmIntS) m5 (markRow (rowF cmIntS) m4 (markRow (rowF cmResourceS) m3 (markRow (rowF cmLinkS) m2 (markRow (rowF cmActivityS) m1 k).2).2).2).2).2).2
 have q8:=markRow_mono mono_LiteralS m8 (markRow (rowF cmIntSS) m7 (markRow (rowF cmIntS) m6 (markRow (rowF cmIntS) m5 (markRow (rowF cmIntS) m4 (markRow (rowF cmResourceS) m3 (markRow (rowF cmLinkS) m2 (markRow (rowF cmActivityS) m1 k).2).2).2).2).2).2).2
 have q9:=markRow_mono mono_LineS m9 (markRow (rowF cmLiteralS) m8 (markRow (rowF cmIntSS) m7 (markRow (rowF cmIntS) m6 (markRow (rowF cmIntS) m5 (markRow (rowF cmIntS) m4 (markRow (rowF cmResourceS) m3 (markRow (rowF cmLinkS) m2 (markRow (rowF cmActivityS) m1 k).2).2).2).2).2).2).2).2
 refine⟨?e1,?r1,?a⟩
 case r1=>(repeat' first | exact MRun.nil | refine MRun.mv (by first | exact h1 | exact h2 | rfl | exact (show _=some (MV.ptr 0) by simp [Env.put,Env.cut,h2])) ?_ | refine MRun.fa rfl (by first | exact h1 | exact h2 | rfl | exact (show _=some (MV.ptr 0) by simp [Env.put,Env.cut,h2])) ?_ | refine MRun.ld ⟨rfl,rfl⟩ (by first | exact h1 | exact h2 | rfl | exact (show _=some (MV.ptr 0) by simp [Env.put,Env.cut,h2])) rfl ?_ | refine MRun.ca rfl (by first | exact h1 | exact h2 | rfl | exact (show _=some (MV.ptr 0) by simp [Env.put,Env.cut,h2])) (by first | exact h1 | exact h2 | rfl | exact (show _=some (MV.ptr 0) by simp [Env.put,Env.cut,h2])) rfl (by first | exact p8 | exact p9) (by omega) (by omega) ?_ | (refine MRun.cab' (off:=0) (n:=5) (F:=rowF cmProject) (ok:=okC okProject) rfl (by first | exact h1 | exact h2 | rfl | exact (show _=some (MV.ptr 0) by simp [Env.put,Env.cut,h2])) (by first | exact h1 | exact h2 | rfl | exact (show _=some (MV.ptr 0) by simp [Env.put,Env.cut,h2])) (Nat.le_of_ble_eq_true rfl) (by exact⟨_,_,rfl,_,_,rfl,p1,_,_,rfl,p2,_,_,rfl,p3,_,_,rfl,p4,rfl⟩) (by omega) (by simp only [List.take,List.drop,List.take_zero,List.drop_zero,List.take_succ_cons,List.drop_succ_cons,List.take_nil,List.drop_nil,List.nil_append,List.cons_append,rowF,cmProject,List.set,List.getElem?_cons_zero,List.getElem?_cons_succ];omega) (Nat.le_of_ble_eq_true rfl) ?_;simp only [List.take,List.drop,List.take_zero,List.drop_zero,List.take_succ_cons,List.drop_succ_cons,List.take_nil,List.drop_nil,List.nil_append,List.cons_append,rowF,cmProject,List.set,List.getElem?_cons_zero,List.getElem?_cons_succ]) | refine MRun.lds (n:=5) ⟨rfl,rfl,rfl⟩ (by first | exact h1 | exact h2 | rfl | exact (show _=some (MV.ptr 0) by simp [Env.put,Env.cut,h2])) (Nat.le_of_ble_eq_true rfl) ?_ | (refine MRun.cab' (off:=5) (n:=3) (F:=rowF cmDomain) (ok:=okC okDomain) rfl (by first | exact h1 | exact h2 | rfl | exact (show _=some (MV.ptr 0) by simp [Env.put,Env.cut,h2])) (by first | exact h1 | exact h2 | rfl | exact (show _=some (MV.ptr 0) by simp [Env.put,Env.cut,h2])) (Nat.le_of_ble_eq_true rfl) (by exact⟨_,_,rfl,p5,_,_,rfl,p6,_,_,rfl,p7,rfl⟩) (by omega) (by simp only [List.take,List.drop,List.take_zero,List.drop_zero,List.take_succ_cons,List.drop_succ_cons,List.take_nil,List.drop_nil,List.nil_append,List.cons_append,rowF,cmDomain,List.set,List.getElem?_cons_zero,List.getElem?_cons_succ];omega) (Nat.le_of_ble_eq_true rfl) ?_;simp only [List.take,List.drop,List.take_zero,List.drop_zero,List.take_succ_cons,List.drop_succ_cons,List.take_nil,List.drop_nil,List.nil_append,List.cons_append,rowF,cmDomain,List.set,List.getElem?_cons_zero,List.getElem?_cons_succ]) | refine MRun.lds (n:=3) ⟨rfl,rfl,rfl⟩ (by first | exact h1 | exact h2 | rfl | exact (show _=some (MV.ptr 0) by simp [Env.put,Env.cut,h2])) (Nat.le_of_ble_eq_true rfl) ?_)
 case a=>rfl
theorem sem_Log:BoxSem Tryz.prog lim 25 (rowF cmLog) (okC okLog):=
 box_sem tabOk (fun f F ok h=>by
 unfold mmLog at h
 split at h
 ·rename_i hf;cases h;subst hf;exact sem_LineS
 split at h
 ·rename_i hf;cases h;subst hf;exact sem_LiteralS
 cases h) (fun f s h=>by
 unfold xxLog at h
 split at h
 ·rename_i hf;cases h;subst hf;exact sem_Domain
 split at h
 ·rename_i hf;cases h;subst hf;exact sem_Project
 cases h) Tryz.func25 Tryz.call25 rfl (fun c h=>(okC_len h).trans rfl) (rowF_len _) code_Log
def cmSchedule:List Cm:=[.call 0 (markRow (rowF cmIntS)),.call 1 (markRow (rowF cmIntS))]
def okSchedule:List Ck:=[.sl fun m=>∀x∈m,seIntS x,.sl fun m=>∀x∈m,seIntS x]
def mmSchedule:Nat→Option (MF×(List AV→Prop)):=fun f=>if f=64 then some (markRow (rowF cmIntS),fun m=>∀x∈m,seIntS x) else none
def xxSchedule:Nat→Option ((Int→ByteArray) ⊕ (MF×(List AV→Prop))):=fun f=>none
end Go.Proofs.YtfhojdalheinaaaGreat.Abs
