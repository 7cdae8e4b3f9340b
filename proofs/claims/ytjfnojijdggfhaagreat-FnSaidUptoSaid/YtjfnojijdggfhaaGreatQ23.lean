/- The law of what is inferred. -/
import Derived.Test.YtjfnojijdggfhaaGreatBs
import Derived.Test.YtjfnojijdggfhaaGreatDr
import Derived.Test.YtjfnojijdggfhaaGreatC65
set_option linter.all false
set_option maxRecDepth 20000
set_option maxHeartbeats 0
namespace Go.Proofs.YtjfnojijdggfhaaGreat.Abs
open Go.Proofs
theorem EK (code:List Int):(fZ code).fine:=by
 intro a ha
 obtain⟨i,hi,rfl⟩:=List.getElem_of_mem ha
 have h:=((mU code).1.aok i _ (List.getElem?_eq_getElem hi)).1
 simp only [bg,Bool.and_eq_true,rz,within_iff] at h
 have:=h.2.1.1.2.2
 unfold lim;omega
theorem CY (code:List Int):Small (fZ code):=by
 obtain⟨h1,h2⟩:=mU code
 have ha:=h1.acts
 refine⟨Ad code,by omega,fun k hk=>?_⟩
 exact (h1.aok k _ (gF hk)).2.2
theorem CZ {α β:Type} {f:α→List β} {c:Nat}:∀{l:List α},(∀x∈l,(f x).length≤c)→(l.flatMap f).length≤l.length*c
 |[],_=>by simp
 |x::l,h=>by
  rw [List.flatMap_cons,List.length_append,List.length_cons,Nat.succ_mul]
  have:=CZ (l:=l) fun y hy=>h y (List.mem_cons_of_mem _ hy)
  have:=h x (List.mem_cons_self ..)
  omega
theorem Jk {p:Proj} (ho:aK p=true) (h3:p.acts.length≤3) {m:Nat} (hm:m≤12):(kF p m).length≤27*2197:=by
 have hL:(kK p.acts).length≤27:=by
  refine Nat.le_trans (zh fun a ha=>?_) (Nat.le_trans (Nat.pow_le_pow_right (by decide) h3) (by decide))
  obtain⟨j,hj,e⟩:=List.mem_iff_getElem.1 ha
  have:=iC ho hj
  have hg:=gF (p:=p) hj
  rw [List.getElem?_eq_getElem hj,Option.some.injEq,e] at hg
  rw [hg];exact this.2
 unfold kF
 refine Nat.le_trans (CZ (c:=2197) fun ms _=>?_) (Nat.mul_le_mul_right _ hL)
 refine Nat.le_trans (List.length_filter_le _ _) ?_
 rw [List.length_map,qU]
 calc (m+1) ^ p.acts.length≤13 ^ p.acts.length:=Nat.pow_le_pow_left (by omega) _
  _≤13 ^ 3:=Nat.pow_le_pow_right (by decide) h3
theorem Qw {p:Proj} {b:Dom} {r:Rul} (hf:aA p b=true):(infers p b r).length≤1000:=by
 unfold infers
 split
 ·have h1:=Ba p r
  refine Nat.le_trans (CZ (c:=5) fun a ha=>?_) (by omega:(cZ p r).length*5≤1000)
  obtain⟨k,rfl,hk⟩:=tZ ha
  unfold nQ
  rw [List.length_map,Int.toNat_natCast]
  exact HV p b r k hf hk
 ·simp
theorem Da (l:List Lit):Con 16 [.d (lits l),.d (lits l)] (.d (.bool true)):=by
 refine con Tryz.func16 rfl rfl Tryz.call16 rfl fun hwf=>?_
 (repeat' ((conv=>whnf);first|refine gA ?_|(refine gB ?_ ?_<;>intro h)|refine gC (CX l) ?_|intro _))<;>try (conv=>whnf)
 exact fv
attribute [local irreducible] fZ Ec kF iR infers status litValue aU follows iw bL contains aA cZ
theorem Um (code:List Int):Con 4 [.d (u8s code)] (.d (.bool true)):=by
 refine con Tryz.func4 rfl rfl Tryz.call4 rfl fun hwf=>?_
 simp only [ARs.wf,AR.wf,AV.wf,AV.wfs,lm,lim] at hwf
 by_cases hbig:((code.map (AV.int .u8)).length:Int) > 1048576
 ·(repeat' ((conv=>whnf);first|with_reducible refine Br.yes (decide_eq_true hbig) ?_|refine gA ?_|(refine gB ?_ ?_<;>intro h)|(refine gI ?_;intro x hx)|(refine gJ ?_;intro j x hj hx)|refine gV ?_|intro _))<;>try (conv=>whnf)
  exact fv
 have hbig2:decide (((code.map (AV.int .u8)).length:Int) > 1048576)=false:=decide_eq_false hbig
 have hf:=EK code
 have hok:=Ad code
 have hs:=CY code
 have h3:(fZ code).acts.length≤3:=by have:=(mU code).1.acts;omega
 have BS:=Ip code
 have BB:=MC (fZ code) hok hf code
 obtain⟨b1,b2,b3⟩:=Uj hok code
 generalize fZ code=p at hf hok hs h3 BS BB b1 b2 b3
 generalize Ec p code=b at BB b1 b2 b3
 have BA:=Bw p hf hok h3 5 (by decide)
 have hS:∀s∈kF p 5,dM p s=true:=Ms
 have hSl:=Jk hok h3 (m:=5) (by decide)
 have BC:=xq p b hf
 have hRl:=Jc p b
 have hR0:=Ih (p:=p) (b:=b) (by simp only [usable,Bool.and_eq_true,Bool.not_eq_true'];exact⟨b1,b3⟩)
 have BD:=bC p b hf
 rw [b1] at BD
 generalize kF p 5=S at BA hS hSl
 generalize hR:iR p b=R at BC hRl hR0
 (repeat' ((conv=>whnf);first|with_reducible refine Br.no hbig2 ?_|refine gA ?_|(refine gB ?_ ?_<;>intro h)|(refine gI ?_;intro x hx)|(refine gJ ?_;intro j x hj hx)|refine gV ?_|refine gC (BS) ?_|refine gC (BB) ?_|refine gC (BA) ?_|refine gC (BC) ?_|intro _))<;>try (conv=>whnf)
 refine aC [3,4,5,28,29] [3,4] [] ?_
 (conv=>whnf)
 refine aB.go ((Nat)) (fun i=>(i≤R.length)) (fun i=>[(30,.data (i64 i))]) (fun _=>[]) (fun _=>[]) (fun i=>R.length - i) (0) ?_ ?_
 ·exact Nat.zero_le _
 rintro i hi
 by_cases hil:i < R.length
 rotate_left
 ·(repeat' ((conv=>whnf);first|(exfalso;omega)|refine gA ?_|(refine gB ?_ ?_<;>intro h)|(refine gI ?_;intro x hx)|(refine gJ ?_;intro j x hj hx)|refine gV ?_|refine gC (BD) ?_|refine gC (BC) ?_|intro _))<;>try (conv=>whnf)
  refine⟨?_,rfl,trivial⟩
  rw [decide_eq_true (by rw [List.length_map];omega)]
 obtain⟨r,hr⟩:∃x,R[i]? =some x:=⟨R[i]'hil,by simp⟩
 have BR:=oo p r hf
 have BT:=Gl (cZ p r)
 rw [Ig p r] at BT
 have BI:=Qs p b r hf
 have hX:∀x∈infers p b r,Ul p b r x:=fun x hx=>Vs hs b1 b3 b2 hx
 have hXl:=Qw (r:=r) b1
 generalize infers p b r=X at BI hX hXl
 (repeat' ((conv=>whnf);first|with_reducible refine Idx.got hr rfl ?_|(exfalso;omega)|refine gA ?_|(refine gB ?_ ?_<;>intro h)|(refine gI ?_;intro x hx)|(refine gJ ?_;intro j x hj hx)|refine gV ?_|refine gC (BR) ?_|refine gC (BT) ?_|refine gC (BI) ?_|intro _))<;>try (conv=>whnf)
 refine aC [3,4,5,7,28,29,30,42,43] [3,4,7] [] ?_
 (conv=>whnf)
 refine aB.go ((Nat)) (fun j=>(j≤X.length)) (fun j=>[(44,.data (i64 j))]) (fun _=>[]) (fun _=>[]) (fun j=>X.length - j) (0) ?_ ?_
 ·exact Nat.zero_le _
 rintro j hj
 by_cases hjl:j < X.length
 rotate_left
 ·(repeat' ((conv=>whnf);first|(exfalso;omega)|refine gA ?_|(refine gB ?_ ?_<;>intro h)|(refine gI ?_;intro x hx)|(refine gJ ?_;intro j x hj hx)|refine gV ?_|intro _))<;>try (conv=>whnf)
  refine nx (i+1) ?_
  exact (by omega:i+1≤R.length)
 obtain⟨x,hx⟩:∃x,X[j]? =some x:=⟨X[j]'hjl,by simp⟩
 have ho:=hX x (List.mem_of_getElem? hx)
 have BE:=xu p b r x.lit hf
 rw [ho.exp,VJ] at BE
 have BU:=Al b x.clause
 rw [VG] at BU
 have BQ:=Da x.clause
 have BF:=yO p r x.clause hf
 rw [ho.fol] at BF
 have BV:=qI b x.lit
 have hv:=ho.opn
 have ht1:=ho.st1
 have ht0:=ho.st0
 generalize litValue b x.lit=v at BV hv
 generalize status b x.clause=t at BU ht1 ht0
 obtain⟨t1,t2⟩:=t
 dsimp only at BU ht1 ht0
 (repeat' ((conv=>whnf);first|with_reducible refine Idx.got hx rfl ?_|with_reducible refine Br.no (decide_eq_false hv) ?_|with_reducible refine Br.no (decide_eq_false ht1) ?_|(exfalso;omega)|refine gA ?_|(refine gB ?_ ?_<;>intro h)|(refine gI ?_;intro x hx)|(refine gJ ?_;intro j x hj hx)|refine gV ?_|refine gC (BE) ?_|refine gC (BU) ?_|refine gC (BQ) ?_|refine gC (BF) ?_|refine gC (BV) ?_|intro _))<;>try (conv=>whnf)
 all_goals first
  |(exfalso;rw [ht0 (by assumption)] at h;simp at h;done)
  |skip
 all_goals
  refine aC [3,4,5,7,9,10,28,29,30,42,43,44,101,102] [3,4,7,9] [] ?_
  (conv=>whnf)
  refine aB.go ((Nat)) (fun k=>(k≤S.length)) (fun k=>[(103,.data (i64 k))]) (fun _=>[]) (fun _=>[]) (fun k=>S.length - k) (0) ?_ ?_
  ·exact Nat.zero_le _
  rintro k hk
  by_cases hkl:k < S.length
  rotate_left
  ·(repeat' ((conv=>whnf);first|(exfalso;omega)|refine gA ?_|(refine gB ?_ ?_<;>intro h)|(refine gI ?_;intro x hx)|(refine gJ ?_;intro j x hj hx)|refine gV ?_|intro _))<;>try (conv=>whnf)
   refine nx (j+1) ?_
   exact (by omega:j+1≤X.length)
  obtain⟨s,hsk⟩:∃x,S[k]? =some x:=⟨S[k]'hkl,by simp⟩
  have hso:=hS s (List.mem_of_getElem? hsk)
  have BH:=CW x.clause s
  rw [ho.all s hso] at BH
  have BK:=Ji b s
  have BL:=qV x.lit s
  cases hc:contains b s with
  |true=>
   rw [hc] at BK
   rw [ho.one s hso ((contains_iff b1 hso).1 hc)] at BL
   (repeat' ((conv=>whnf);first|with_reducible refine Idx.got hsk rfl ?_|(exfalso;omega)|refine gA ?_|(refine gB ?_ ?_<;>intro h)|(refine gI ?_;intro x hx)|(refine gJ ?_;intro j x hj hx)|refine gV ?_|refine gC (BH) ?_|refine gC (BK) ?_|refine gC (BL) ?_|intro _))<;>try (conv=>whnf)
   refine nx (k+1) ?_
   exact (by omega:k+1≤S.length)
  |false=>
   rw [hc] at BK
   (repeat' ((conv=>whnf);first|with_reducible refine Idx.got hsk rfl ?_|(exfalso;omega)|refine gA ?_|(refine gB ?_ ?_<;>intro h)|(refine gI ?_;intro x hx)|(refine gJ ?_;intro j x hj hx)|refine gV ?_|refine gC (BH) ?_|refine gC (BK) ?_|intro _))<;>try (conv=>whnf)
   refine nx (k+1) ?_
   exact (by omega:k+1≤S.length)
end Go.Proofs.YtjfnojijdggfhaaGreat.Abs
