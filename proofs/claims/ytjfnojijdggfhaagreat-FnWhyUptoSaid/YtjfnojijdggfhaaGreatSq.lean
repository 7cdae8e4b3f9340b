/- The law of what is inferred. -/
import Derived.Test.YtjfnojijdggfhaaGreatBs
import Derived.Test.YtjfnojijdggfhaaGreatDr
import Derived.Test.YtjfnojijdggfhaaGreatC65
import Derived.Test.YtjfnojijdggfhaaGreatC15
set_option linter.all false
set_option maxRecDepth 20000
set_option maxHeartbeats 0
namespace Go.Proofs.YtjfnojijdggfhaaGreat.Abs
open Go.Proofs
theorem vZ (code:List Int):(dX code).fine:=by
 intro a ha
 obtain⟨i,hi,rfl⟩:=List.getElem_of_mem ha
 have h:=((jP code).1.aok i _ (List.getElem?_eq_getElem hi)).1
 simp only [bC,Bool.and_eq_true,sj,within_iff] at h
 have:=h.2.1.1.2.2
 unfold lim;omega
theorem uj (code:List Int):Small (dX code):=by
 obtain⟨h1,h2⟩:=jP code
 have ha:=h1.acts
 refine⟨uT code,by omega,fun k hk=>?_⟩
 exact (h1.aok k _ (gZ hk)).2.2
theorem Me {α β:Type} {f:α→List β} {c:Nat}:∀{l:List α},(∀x∈l,(f x).length≤c)→(l.flatMap f).length≤l.length*c
 |[],_=>by simp
 |x::l,h=>by
  rw [List.flatMap_cons,List.length_append,List.length_cons,Nat.succ_mul]
  have:=Me (l:=l) fun y hy=>h y (List.mem_cons_of_mem _ hy)
  have:=h x (List.mem_cons_self ..)
  omega
theorem zK {p:Proj} (ho:aL p=true) (h3:p.acts.length≤3) {m:Nat} (hm:m≤12):(gU p m).length≤27*2197:=by
 have hL:(lq p.acts).length≤27:=by
  refine Nat.le_trans (Ap fun a ha=>?_) (Nat.le_trans (Nat.pow_le_pow_right (by decide) h3) (by decide))
  obtain⟨j,hj,e⟩:=List.mem_iff_getElem.1 ha
  have:=iT ho hj
  have hg:=gZ (p:=p) hj
  rw [List.getElem?_eq_getElem hj,Option.some.injEq,e] at hg
  rw [hg];exact this.2
 unfold gU
 refine Nat.le_trans (Me (c:=2197) fun ms _=>?_) (Nat.mul_le_mul_right _ hL)
 refine Nat.le_trans (List.length_filter_le _ _) ?_
 rw [List.length_map,rT]
 calc (m+1) ^ p.acts.length≤13 ^ p.acts.length:=Nat.pow_le_pow_left (by omega) _
  _≤13 ^ 3:=Nat.pow_le_pow_right (by decide) h3
theorem ED (l:List Lit):Con 16 [.d (lits l),.d (lits l)] (.d (.bool true)):=by
 refine con Tryz.func16 rfl rfl Tryz.call16 rfl fun hwf=>?_
 (repeat' ((conv=>whnf);first|refine gA ?_|(refine gB ?_ ?_<;>intro h)|refine gC (EB l) ?_|intro _))<;>try (conv=>whnf)
 exact fv
attribute [local irreducible] dX xS gU aN infers status litValue dw follows fD bM contains ay dH
end Go.Proofs.YtjfnojijdggfhaaGreat.Abs
namespace Go.Proofs.YtjfnojijdggfhaaGreat.Abs
open Go.Proofs
theorem oW (p:Proj) (b:Dom) (hp:p.fine) (ho:aL p=true) (h3:p.acts.length≤3) (m:Nat) (hm:m≤12):Con 29 [.d p.av,.d b.av,.d (i64 m)] (.d (i64 (sP p b m))):=by
 refine con Tryz.func29 rfl rfl Tryz.call29 rfl fun hwf=>?_
 clear hwf
 have BA:=rU p hp ho h3 m hm
 have hSl:=zK ho h3 hm
 unfold sP
 generalize gU p m=S at BA hSl
 (repeat' ((conv=>whnf);first|refine gA ?_|(refine gB ?_ ?_<;>intro h)|(refine gI ?_;intro x hx)|(refine gJ ?_;intro j x hj hx)|refine gV ?_|refine gC (BA) ?_|intro _))<;>try (conv=>whnf)
 refine aB [4,12,13] [4] [] ?_
 (conv=>whnf)
 refine aA.go ((Nat)) (fun k=>(k≤S.length)) (fun k=>[(14,.data (i64 k)),(7,.data (i64 (((S.take k).filter (contains b)).length:Nat)))]) (fun _=>[]) (fun _=>[]) (fun k=>S.length - k) (0) ?_ ?_
 ·exact Nat.zero_le _
 rintro k hk
 by_cases hlt:k < S.length
 rotate_left
 ·(repeat' ((conv=>whnf);first|(exfalso;omega)|refine gA ?_|(refine gB ?_ ?_<;>intro h)|(refine gI ?_;intro x hx)|(refine gJ ?_;intro j x hj hx)|refine gV ?_|intro _))<;>try (conv=>whnf)
  refine⟨?_,rfl,trivial⟩
  rw [List.take_of_length_le (by omega)]
 obtain⟨s,hs⟩:∃x,S[k]? =some x:=⟨S[k]'hlt,by simp⟩
 have BK:=KG b s
 have hl:=List.length_filter_le (contains b) (S.take k)
 rw [List.length_take,Nat.min_eq_left hk] at hl
 have hst:(S.take (k+1)).filter (contains b)=(S.take k).filter (contains b)++(if contains b s=true then [s] else []):=by
  rw [List.take_add_one,hs,List.filter_append];simp [List.filter_cons]
 cases hc:contains b s with
 |true=>
  rw [hc] at BK hst
  (repeat' ((conv=>whnf);first|with_reducible refine Idx.got hs rfl ?_|(exfalso;omega)|refine gA ?_|(refine gB ?_ ?_<;>intro h)|(refine gI ?_;intro x hx)|(refine gJ ?_;intro j x hj hx)|refine gV ?_|refine gC (BK) ?_|intro _))<;>try (conv=>whnf)
  refine nw (k+1) ?_ ?_
  ·(repeat' ((conv=>whnf)<;>(first|exact trivial|exact rfl|with_reducible refine And.intro ?_ ?_)))<;>((conv=>whnf)<;>((rw [hst];simp)))
  exact (by omega:k+1≤S.length)
 |false=>
  rw [hc] at BK hst
  (repeat' ((conv=>whnf);first|with_reducible refine Idx.got hs rfl ?_|(exfalso;omega)|refine gA ?_|(refine gB ?_ ?_<;>intro h)|(refine gI ?_;intro x hx)|(refine gJ ?_;intro j x hj hx)|refine gV ?_|refine gC (BK) ?_|intro _))<;>try (conv=>whnf)
  refine nw (k+1) ?_ ?_
  ·(repeat' ((conv=>whnf)<;>(first|exact trivial|exact rfl|with_reducible refine And.intro ?_ ?_)))<;>((conv=>whnf)<;>((rw [hst];simp)))
  exact (by omega:k+1≤S.length)
theorem QO {p:Proj} {b:Dom} (h:(eX p b).isSome=true):∃r,refutes p b r=true:=by
 unfold eX at h
 split at h
 ·rename_i hd
  exact⟨pJ,by unfold refutes;rw [hd.1,hd.2];rfl⟩
 ·obtain⟨r,hr⟩:=Option.isSome_iff_exists.1 h
  exact⟨r,List.find?_some hr⟩
theorem SC {p:Proj} {x:Dom} (hf:ay p x=true) (h:bL p x=none):Qv p x= !(eX p x).isSome:=by
 unfold Qv
 rw [h]
 cases hn:(eX p x).isSome with
 |true=>simp
 |false=>
  have:aR x=false:=by
   cases he:aR x with
   |false=>rfl
   |true=>
    unfold eX at hn
    rw [if_pos ⟨hf,he⟩] at hn
    cases hn
  simp [usable,hf,this]
theorem QS {p:Proj} {l:List Infer} {k:Nat} {s:Infer} {d x:Dom} (hs:l[k]? =some s) (h:replay p (l.drop k) d x):bL p d=some s∧replay p (l.drop (k+1)) (restrict d s.lit) x:=by
 rw [au hs] at h;exact h
attribute [local irreducible] dX xS gU aN infers status litValue dw follows fD bM contains ay dH restrict bL eX sP jw kP Qv
theorem Wm (code:List Int):Con 5 [.d (u8s code)] (.d (.bool true)):=by
 refine con Tryz.func5 rfl rfl Tryz.call5 rfl fun hwf=>?_
 simp only [ARs.wf,AR.wf,AV.wf,AV.wfs,lm,lim] at hwf
 by_cases hbig:((code.map (AV.int .u8)).length:Int) > 1048576
 ·(repeat' ((conv=>whnf);first|with_reducible refine Br.yes (decide_eq_true hbig) ?_|refine gA ?_|(refine gB ?_ ?_<;>intro h)|(refine gI ?_;intro x hx)|(refine gJ ?_;intro j x hj hx)|refine gV ?_|intro _))<;>try (conv=>whnf)
  exact fv
 have hbig2:decide (((code.map (AV.int .u8)).length:Int) > 1048576)=false:=decide_eq_false hbig
 have hf:=vZ code
 have hok:=uT code
 have hs:=uj code
 have h2:(dX code).acts.length≤2:=by have:=(jP code).1.acts;omega
 have hd:=(jP code).2.2
 have BS:=xV code
 have BB:=DF (dX code) hok hf code
 obtain⟨b1,b2,b3⟩:=QD hok code
 generalize dX code=p at hf hok hs h2 hd BS BB b1 b2 b3
 generalize xS p code=b at BB b1 b2 b3
 obtain⟨said,x,he,hP,hE⟩:=FK hok 60 b [] b1 b2
 rw [List.nil_append] at he
 have hw:=Sv b1 b2 hd hs.two h2
 have ZI:=hP.few
 rw [if_neg (by rw [b3];decide)] at ZI
 have hne:bL p x=none:=by
  rcases hE with h|h
  ·omega
  ·exact h
 have BP:=JJ p b 60 hf
 rw [propagated,if_pos ⟨b1,by decide⟩,show (60:Int).toNat=60 from rfl,he,Wi] at BP
 dsimp only at BP
 have BD:=aQ p x hf
 rw [hP.form] at BD
 have BU:=DI x b
 rw [Sy hP.form b1 hP.sub] at BU
 have BR:=fU p x hf
 rw [NU] at BR
 have BI:=Gm p x hf
 rw [SC hP.form hne] at BI
 have BX:=oW p x hf hok (by omega) 5 (by decide)
 have BB2:=oW p b hf hok (by omega) 5 (by decide)
 rw [JI b1 hP] at BX
 have hcz:(eX p x).isSome=true→sP p b 5=0:=fun h=>by
  obtain⟨r,hr⟩:=QO h
  rw [← JI b1 hP,Sw hr]
 have BE:=EC x
 have hrep:=hP.rep
 generalize sP p b 5=n at BX BB2 hcz
 generalize (eX p x).getD pJ=rr at BR
 generalize (eX p x).isSome=no at BR BI hcz
 have hq:((!no) == no)=false:=by cases no<;>rfl
 (repeat' ((conv=>whnf);first|with_reducible refine Br.no hbig2 ?_|with_reducible refine Br.no hq ?_|with_reducible refine Br.no (decide_eq_false (by omega)) ?_|refine gA ?_|(refine gB ?_ ?_<;>intro h)|(refine gI ?_;intro x hx)|(refine gJ ?_;intro j x hj hx)|refine gV ?_|refine gC (BS) ?_|refine gC (BB) ?_|refine gC (BP) ?_|refine gC (BD) ?_|refine gC (BU) ?_|refine gC (BR) ?_|refine gC (BI) ?_|refine gC (BX) ?_|refine gC (BB2) ?_|intro _))<;>try (conv=>whnf)
 any_goals exact trivial
 refine aB [3,4,5,8,9,66,67] [3,4,5] [] ?_
 (conv=>whnf)
 refine aA.go ((Dom)×(Nat)) (fun⟨d,i⟩=>(i≤said.length)∧(replay p (said.drop i) d x)∧(qO p d)) (fun⟨d,i⟩=>[(68,.data (i64 i))]) (fun⟨d,i⟩=>[(9,[.data (ints d.lo),.data (ints d.hi),.data (.sl (d.modes.map ints))])]) (fun _=>[]) (fun⟨d,i⟩=>said.length - i) ⟨b,0⟩ ?_ ?_
 ·exact⟨Nat.zero_le _,hrep,b2⟩
 rintro⟨d,i⟩ ⟨hi,hr,hin⟩
 by_cases hil:i < said.length
 rotate_left
 ·rw [List.drop_eq_nil_of_le (by omega)] at hr
  have e:d=x:=hr
  subst e
  (repeat' ((conv=>whnf);first|(exfalso;omega)|refine gA ?_|(refine gB ?_ ?_<;>intro h)|(refine gI ?_;intro x hx)|(refine gJ ?_;intro j x hj hx)|refine gV ?_|refine gC (BE) ?_|refine gC (BB2) ?_|intro _))<;>try (conv=>whnf)
  all_goals refine⟨?_,rfl,trivial⟩
  ·rw [decide_eq_true (hcz h)]
  ·rfl
 obtain⟨s,hsi⟩:∃x,said[i]? =some x:=⟨said[i]'hil,by simp⟩
 obtain⟨n1,n2⟩:=QS hsi hr
 have st:=zG hin n1
 have hdf:=pK (xL n1).1
 have hin2:=hin.restrict hdf s.lit
 have BF:=oV p d hf
 rw [n1,YB] at BF
 dsimp only [Option.getD,Option.isSome] at BF
 have BV:=rD d s.lit
 have hv:=st.opn
 have BT:=iQ d s.lit
 generalize litValue d s.lit=v at BV hv
 generalize restrict d s.lit=d2 at BT n2 hin2
 have hl:(decide (s.lit.kind=s.lit.kind)&&(decide (s.lit.act=s.lit.act)&&(decide (s.lit.val=s.lit.val)&&true)))=true:=by simp
 have hru:(decide (s.rule.kind=s.rule.kind)&&(decide (s.rule.a=s.rule.a)&&(decide (s.rule.b=s.rule.b)&&(decide (s.rule.c=s.rule.c)&&true))))=true:=by simp
 (repeat' ((conv=>whnf);first|with_reducible refine Idx.got hsi rfl ?_|with_reducible refine Br.yes hl ?_|with_reducible refine Br.yes hru ?_|with_reducible refine Br.no (decide_eq_false hv) ?_|(exfalso;omega)|refine gA ?_|(refine gB ?_ ?_<;>intro h)|(refine gI ?_;intro x hx)|(refine gJ ?_;intro j x hj hx)|refine gV ?_|refine gC (BF) ?_|refine gC (BV) ?_|refine gC (BT) ?_|intro _))<;>try (conv=>whnf)
 refine nx ⟨d2,i+1⟩ ?_
 exact⟨by omega,n2,hin2⟩
end Go.Proofs.YtjfnojijdggfhaaGreat.Abs
