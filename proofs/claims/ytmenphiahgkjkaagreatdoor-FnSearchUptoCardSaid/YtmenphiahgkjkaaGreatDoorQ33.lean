/- The law of searches. -/
import Derived.Test.YtmenphiahgkjkaaGreatDoorLb
import Derived.Test.YtmenphiahgkjkaaGreatDoorC75
import Derived.Test.YtmenphiahgkjkaaGreatDoorC12
import Derived.Test.YtmenphiahgkjkaaGreatDoorC15
import Derived.Test.YtmenphiahgkjkaaGreatDoorC22
set_option linter.all false
set_option maxRecDepth 20000
set_option maxHeartbeats 0
namespace Go.Proofs.YtmenphiahgkjkaaGreatDoor.Abs
open Go.Proofs
theorem Jp (code:List Int):(gD code).fine:=by
 intro a ha
 obtain⟨i,hi,rfl⟩:=List.getElem_of_mem ha
 have h:=((ng code).1.aok i _ (List.getElem?_eq_getElem hi)).1
 simp only [dD,Bool.and_eq_true,CW,within_iff] at h
 have:=h.2.1.1.2.2
 unfold lim;omega
theorem Pd {α β:Type} {f:α→List β} {c:Nat}:∀{l:List α},(∀x∈l,(f x).length≤c)→(l.flatMap f).length≤l.length*c
 |[],_=>by simp
 |x::l,h=>by
  rw [List.flatMap_cons,List.length_append,List.length_cons,Nat.succ_mul]
  have:=Pd (l:=l) fun y hy=>h y (List.mem_cons_of_mem _ hy)
  have:=h x (List.mem_cons_self ..)
  omega
theorem ME {p:Proj} (ho:aL p=true) (h3:p.acts.length≤3) {m:Nat} (hm:m≤12):(jo p m).length≤27*2197:=by
 have hL:(lJ p.acts).length≤27:=by
  refine Nat.le_trans (Dx fun a ha=>?_) (Nat.le_trans (Nat.pow_le_pow_right (by decide) h3) (by decide))
  obtain⟨j,hj,e⟩:=List.mem_iff_getElem.1 ha
  have:=jH ho hj
  have hg:=iB (p:=p) hj
  rw [List.getElem?_eq_getElem hj,Option.some.injEq,e] at hg
  rw [hg];exact this.2
 unfold jo
 refine Nat.le_trans (Pd (c:=2197) fun ms _=>?_) (Nat.mul_le_mul_right _ hL)
 refine Nat.le_trans (List.length_filter_le _ _) ?_
 rw [List.length_map,vv]
 calc (m+1) ^ p.acts.length≤13 ^ p.acts.length:=Nat.pow_le_pow_left (by omega) _
  _≤13 ^ 3:=Nat.pow_le_pow_right (by decide) h3
attribute [local irreducible] dQ gD mW tu bg nI jo
theorem VU (code:List Int):Con 3 [.d (u8s code)] (.d (.bool true)):=by
 refine con Tryz.func3 rfl rfl Tryz.call3 rfl fun hwf=>?_
 simp only [ARs.wf,AR.wf,AV.wf,AV.wfs,lm,lim] at hwf
 by_cases hbig:((code.map (AV.int .u8)).length:Int) > 1048576
 ·(repeat' ((conv=>whnf);first|with_reducible refine Br.yes (decide_eq_true hbig) ?_|refine gA ?_|(refine gB ?_ ?_<;>intro h)|intro _))<;>try (conv=>whnf)
  exact fv
 have hbig2:decide (((code.map (AV.int .u8)).length:Int) > 1048576)=false:=decide_eq_false hbig
 have hf:=Jp code
 have hok:=Ez code
 have hs:=Jl code
 have h3:(gD code).acts.length≤3:=by have:=(ng code).1.acts;omega
 have hd:=(ng code).2.2
 have BS:=Mx code
 have hl:LU (gD code)=some ⟨gD code,bf (gD code),[],[]⟩:=by unfold LU;rw [if_pos hok]
 have BL:=TP (gD code) hf
 generalize gD code=p at hf hok hs h3 hd BS hl BL
 rw [hl,zU] at BL
 dsimp only [Option.getD,Option.isSome] at BL
 have S1:=Ui ⟨p,bf p,[],[]⟩ 60 hf
 obtain⟨f1,f2,f3,f4,f5,f6,f7,f8⟩:=Rn hs
 generalize dQ ⟨p,bf p,[],[]⟩ 60=F at*
 have BC:=Ca p F.log.lines hf
 generalize mW p F.log.lines=q at f3 BC
 obtain⟨q1,q2⟩:=q
 dsimp only at f3
 subst f3
 rw [aaM] at BC
 dsimp only at BC
 obtain⟨b,hb,BF⟩:=FY F ⟨by omega,by omega⟩
 have hbne:¬ b=⟨#[]⟩:=fun e=>by rw [e] at hb;exact absurd hb (by decide)
 have BA:=FU p hf hok h3 5 (by decide)
 have hS:∀s∈jo p 5,bg p s=true:=Rp
 have hSl:=ME hok h3 (m:=5) (by decide)
 have hSa:∀s,bg p s=true→s∈jo p 5:=fun s hso=>Nu hso (by omega)
 generalize jo p 5=S at BA hS hSl hSa
 cases hst:F.stopped with
 |true=>
  have hfo:F.found=false:=by
   cases h3:F.found with
   |false=>rfl
   |true=>exact (f4 ⟨hst,h3⟩).elim
  have BO:=Ma F.log (by rw [f8];exact hf)
  rw [f5 hst] at BO
  (repeat' ((conv=>whnf);first|with_reducible refine Br.no hbig2 ?_|refine Br.no (decide_eq_false hbne) ?_|with_reducible refine Br.yes hst ?_|with_reducible refine Br.no hfo ?_|(exfalso;omega)|refine gA ?_|(refine gB ?_ ?_<;>intro h)|refine gC (BS) ?_|refine gC (BL) ?_|refine gC (S1) ?_|refine gC (BA) ?_|refine gC (BF) ?_|refine gC (BC) ?_|refine gC (BO) ?_|intro _))<;>try (conv=>whnf)
  all_goals exact fv
 |false=>
  cases hfo:F.found with
  |true=>
   have BO:=jm p F.sched hf
   rw [f6 hfo] at BO
   have hSn:0 < S.length:=List.length_pos_of_mem (hSa _ (f6 hfo))
   (repeat' ((conv=>whnf);first|with_reducible refine Br.no hbig2 ?_|refine Br.no (decide_eq_false hbne) ?_|with_reducible refine Br.no hst ?_|with_reducible refine Br.yes hfo ?_|(exfalso;omega)|refine gA ?_|(refine gB ?_ ?_<;>intro h)|refine gC (BS) ?_|refine gC (BL) ?_|refine gC (S1) ?_|refine gC (BA) ?_|refine gC (BF) ?_|refine gC (BC) ?_|refine gC (BO) ?_|intro _))<;>try (conv=>whnf)
   all_goals (repeat' ((conv=>whnf)<;>(first|exact trivial|exact VC.nod (by kernel_rfl)|refine VC.mk rfl ?_|refine VC.mk (by (rw [decide_eq_true (by rw [List.length_map];omega)])) ?_)))
  |false=>
   have hn:=f7 hfo hst
   have BO:=yS p F.log.lines hf
   rw [hn] at BO
   have hSn:S= []:=by
    cases hSS:S with
    |nil=>rfl
    |cons s r=>
     have:=GV (s:=s) hn
     rw [hS s (by rw [hSS];exact List.mem_cons_self ..)] at this
     cases this
   subst hSn
   (repeat' ((conv=>whnf);first|with_reducible refine Br.no hbig2 ?_|refine Br.no (decide_eq_false hbne) ?_|with_reducible refine Br.no hst ?_|with_reducible refine Br.no hfo ?_|(exfalso;omega)|refine gA ?_|(refine gB ?_ ?_<;>intro h)|refine gC (BS) ?_|refine gC (BL) ?_|refine gC (S1) ?_|refine gC (BA) ?_|refine gC (BF) ?_|refine gC (BC) ?_|refine gC (BO) ?_|intro _))<;>try (conv=>whnf)
   all_goals exact fv
end Go.Proofs.YtmenphiahgkjkaaGreatDoor.Abs
