/- Contracts: a proof's numbers, the name of a check that passed. -/
import Derived.Test.YtefgamefajmdkaaGreatCz
import Derived.Test.YtefgamefajmdkaaGreatWo
set_option linter.all false
set_option maxRecDepth 20000
set_option maxHeartbeats 0
namespace Go.Proofs.YtefgamefajmdkaaGreat.Abs
open Go.Proofs
def BX (o:List Int) (j:Nat):List Int:=o.set j (o.getD j 0+1)
def nN (o:List Int) (x:Lin):List Int:=if x.kind=2 then BX o 0 else if x.kind=1∧within x.rule.kind 0 6=true then BX o (x.rule.kind+1).toNat else o
def jP (l:List Lin):List Int:=l.foldl nN (List.replicate 8 0)
theorem Mx {o:List Int} {j:Nat} {k:Int} (h:o.length=8∧∀v∈o,0≤v∧v≤k):(BX o j).length=8∧∀v∈BX o j,0≤v∧v≤k+1:=by
 unfold BX
 refine⟨by rw [List.length_set];exact h.1,fun v hv=>?_⟩
 rcases List.mem_or_eq_of_mem_set hv with hv|rfl
 ·have:=h.2 v hv;omega
 ·rw [List.getD_eq_getElem?_getD]
  cases e:o[j]? with
  |none=>exact⟨by decide,by
    have:=h.2 (o[0]'(by omega)) (List.getElem_mem _)
    show (0:Int)+1≤k+1;omega⟩
  |some x=>have:=h.2 x (List.mem_of_getElem? e);show 0≤x+1∧x+1≤k+1;omega
theorem Rm {o:List Int} {x:Lin} {k:Int} (h:o.length=8∧∀v∈o,0≤v∧v≤k):(nN o x).length=8∧∀v∈nN o x,0≤v∧v≤k+1:=by
 unfold nN
 split
 ·exact Mx h
 ·split
  ·exact Mx h
  ·exact⟨h.1,fun v hv=>by have:=h.2 v hv;omega⟩
theorem BZ (l:List Lin):∀k,k≤l.length→(jP (l.take k)).length=8∧∀v∈jP (l.take k),0≤v∧v≤k
 |0,_=>by
  rw [List.take_zero]
  exact⟨rfl,fun v hv=>by rw [jP,List.foldl_nil] at hv;rw [List.eq_of_mem_replicate hv];decide⟩
 |k+1,hk=>by
  have:=Rm (x:=l[k]'(by omega)) (BZ l k (by omega))
  rw [List.take_succ_eq_append_getElem (by omega),jP,List.foldl_append]
  exact_mod_cast this
theorem SX {l:List Lin} {k:Nat} {x:Lin} (h:l[k]? =some x):jP (l.take (k+1))=nN (jP (l.take k)) x:=by
 rw [List.take_add_one,h,jP,List.foldl_append];rfl
attribute [local irreducible] jP
theorem Hr (l:List Lin) (hl:l.length≤1000):Con 26 [.d (.sl (l.map Lin.av))] (.own 3 ((jP l).map i64)):=by
 refine con Tryz.func26 rfl rfl Tryz.call26 rfl fun hwf=>?_
 clear hwf
 (conv=>whnf)
 refine VC.mk ⟨rfl,by decide,by unfold lim;decide⟩ ?_
 (repeat' ((conv=>whnf);first|refine gA ?_|(refine gN ?_ ?_<;>intro h hw)|(refine gB ?_ ?_<;>intro h)|(refine gI ?_;intro x hx)|(refine gJ ?_;intro j x hj hx)|refine gV ?_|refine gM ?_|intro _))<;>try (conv=>whnf)
 refine aB [3,7,8] [] [6] ?_
 (conv=>whnf)
 refine aA.mk ((Nat)) (fun k=>(k≤l.length)) (fun k=>[(9,.data (i64 k))]) (fun _=>[]) (fun k=>[(6,3,(jP (l.take k)).map i64,0)]) (fun k=>l.length - k) (0) ?_ ?_ ?_
 rotate_left
 ·(repeat' ((conv=>whnf)<;>(first|exact trivial|exact rfl|with_reducible refine And.intro ?_ ?_)))<;>((conv=>whnf)<;>((unfold jP;rfl)))
 rotate_left
 ·exact Nat.zero_le _
 rintro k hk
 obtain⟨h8,hb⟩:=BZ l k hk
 by_cases hlt:k < l.length
 rotate_left
 ·(repeat' ((conv=>whnf);first|(exfalso;omega)|refine gA ?_|(refine gN ?_ ?_<;>intro h hw)|(refine gB ?_ ?_<;>intro h)|(refine gI ?_;intro x hx)|(refine gJ ?_;intro j x hj hx)|refine gV ?_|refine gM ?_|intro _))<;>try (conv=>whnf)
  refine⟨?_,rfl,trivial⟩
  rw [List.take_of_length_le (by omega)]
 obtain⟨ln,hx⟩:∃x,l[k]? =some x:=⟨l[k]'hlt,by simp⟩
 have hn:=SX hx
 have hlx:=hx
 generalize jP (l.take k)=o at h8 hb hn
 obtain⟨v0,hv0⟩:∃v,o[0]? =some v:=⟨o[0]'(by omega),by simp⟩
 have hb0:=hb v0 (List.mem_of_getElem? hv0)
 by_cases h2:ln.kind=2
 ·(repeat' ((conv=>whnf);first|with_reducible refine Idx.got hlx rfl ?_|with_reducible refine Idx.got hv0 rfl ?_|with_reducible refine Br.yes (decide_eq_true h2) ?_|(exfalso;omega)|refine gA ?_|(refine gN ?_ ?_<;>intro h hw)|(refine gB ?_ ?_<;>intro h)|(refine gI ?_;intro x hx)|(refine gJ ?_;intro j x hj hx)|refine gV ?_|refine gM ?_|intro _))<;>try (conv=>whnf)
  refine nw (k+1) ?_ ?_
  ·(repeat' ((conv=>whnf)<;>(first|exact trivial|exact rfl|with_reducible refine And.intro ?_ ?_)))<;>((conv=>whnf)<;>((rw [hn,nN,if_pos h2,BX,List.map_set,List.getD_eq_getElem?_getD,hv0];rfl)))
  exact (by omega:k+1≤l.length)
 ·have BW:=aP ln.rule.kind 0 6
  cases hw:within ln.rule.kind 0 6 with
  |false=>
   rw [hw] at BW
   (repeat' ((conv=>whnf);first|with_reducible refine Idx.got hlx rfl ?_|with_reducible refine Br.no (decide_eq_false h2) ?_|(exfalso;omega)|refine gA ?_|(refine gN ?_ ?_<;>intro h hw)|(refine gB ?_ ?_<;>intro h)|(refine gI ?_;intro x hx)|(refine gJ ?_;intro j x hj hx)|refine gV ?_|refine gM ?_|refine gC (BW) ?_|intro _))<;>try (conv=>whnf)
   all_goals
    refine nw (k+1) ?_ ?_
    ·(repeat' ((conv=>whnf)<;>(first|exact trivial|exact rfl|with_reducible refine And.intro ?_ ?_)))<;>((conv=>whnf)<;>((rw [hn,nN,if_neg h2,if_neg (by rw [hw];simp)])))
    exact (by omega:k+1≤l.length)
  |true=>
   rw [hw] at BW
   have hwr:=within_iff.1 hw
   obtain⟨vj,hvj⟩:∃v,o[(ln.rule.kind+1).toNat]? =some v:=⟨o[(ln.rule.kind+1).toNat]'(by omega),by simp⟩
   have hbj:=hb vj (List.mem_of_getElem? hvj)
   have ej:ln.rule.kind+1=(((ln.rule.kind+1).toNat:Nat):Int):=by omega
   by_cases h1:ln.kind=1
   ·(repeat' ((conv=>whnf);first|with_reducible refine Idx.got hlx rfl ?_|refine Idx.got hvj ej ?_|with_reducible refine Br.no (decide_eq_false h2) ?_|with_reducible refine Br.yes (decide_eq_true h1) ?_|(exfalso;omega)|refine gA ?_|(refine gN ?_ ?_<;>intro h hw)|(refine gB ?_ ?_<;>intro h)|(refine gI ?_;intro x hx)|(refine gJ ?_;intro j x hj hx)|refine gV ?_|refine gM ?_|refine gC (BW) ?_|intro _))<;>try (conv=>whnf)
    have hxj:=hx
    have hbx:=hb x (List.mem_of_getElem? hx)
    (repeat' ((conv=>whnf);first|(exfalso;omega)|refine gA ?_|(refine gN ?_ ?_<;>intro h hw)|(refine gB ?_ ?_<;>intro h)|(refine gI ?_;intro x hx)|(refine gJ ?_;intro j x hj hx)|refine gV ?_|refine gM ?_|intro _))<;>try (conv=>whnf)
    refine nw (k+1) ?_ ?_
    ·(repeat' ((conv=>whnf)<;>(first|exact trivial|exact rfl|with_reducible refine And.intro ?_ ?_)))<;>((conv=>whnf)<;>((rw [hn,nN,if_neg h2,if_pos ⟨h1,hw⟩,BX,List.map_set,List.getD_eq_getElem?_getD,hxj, ← (by omega:j=(ln.rule.kind+1).toNat)];rfl)))
    exact (by omega:k+1≤l.length)
   ·(repeat' ((conv=>whnf);first|with_reducible refine Idx.got hlx rfl ?_|with_reducible refine Br.no (decide_eq_false h2) ?_|with_reducible refine Br.no (decide_eq_false h1) ?_|(exfalso;omega)|refine gA ?_|(refine gN ?_ ?_<;>intro h hw)|(refine gB ?_ ?_<;>intro h)|(refine gI ?_;intro x hx)|(refine gJ ?_;intro j x hj hx)|refine gV ?_|refine gM ?_|intro _))<;>try (conv=>whnf)
    refine nw (k+1) ?_ ?_
    ·(repeat' ((conv=>whnf)<;>(first|exact trivial|exact rfl|with_reducible refine And.intro ?_ ?_)))<;>((conv=>whnf)<;>((rw [hn,nN,if_neg h2,if_neg (fun h=>h1 h.1)])))
    exact (by omega:k+1≤l.length)
end Go.Proofs.YtefgamefajmdkaaGreat.Abs
set_option maxRecDepth 1000000
set_option maxHeartbeats 4000000
namespace Go.Proofs.YtefgamefajmdkaaGreat.Abs
open Go.Proofs Go.RowKit Go.Sort
def YZ:ByteArray:=⟨#[111,107]⟩
theorem Ht:Con 24 [.d (i64 0)] (.d (.str YZ)):=by
 refine⟨Tryz.call24,fun I J O mt w vs hI _ hO _ _ ha=>?_⟩
 match vs,ha with
 |[v0],ha=>
  obtain⟨h0,_⟩:=ha
  obtain rfl:v0= .int .i64 0:=h0
  have hW:∀W:World,Calls Tryz.prog 53 #[.int .i64 0,.int .i64 0,.int .i64 3] W fun e W'=>e= .returned (.bool true)∧Quiet W W':=fun W=>by
   have h:=aP 0 0 3
   rw [show within (0:Int) 0 3=true from within_iff.2 (by omega)] at h
   exact Sy h (w:=W) (vs:=[.int .i64 0,.int .i64 0,.int .i64 3]) ⟨rfl,rfl,rfl,trivial⟩
  have HO:=Lib.hid hO
  clear hI hO
  go_enter Tryz.func24,Tryz.ntmps24
  go_wp2_with fail
  refine (hW _).mono ?_
  rintro e w2 ⟨rfl,hb⟩
  have k2:=(hb.block _ (WC _ _) id).trans (Sw _ _)
  have m1:w2.cell? ⟨w.heap.size,0,none⟩=some (.string ⟨#[111,107]⟩):=by rw [cell_of_row w2 _ _ _ _ _ k2];rfl
  have hq:Quiet w w2:=(Quiet.alloc _ _).trans hb
  have HQ:=Lib.hid hq
  clear hb k2 hq hW
  go_wp2_with fail
  go_ret
  exact⟨_,rfl,Turn.ofQ (fun k hk=>HO.out k hk.1) HQ.out,I,[],fun k hk=>hk,fun k hk=>.inl hk,List.nodup_nil,fun _ h=>by simp at h,rfl,rfl⟩
 |[],ha=>exact ha.elim
 |_::_::_,ha=>exact ha.2.elim
end Go.Proofs.YtefgamefajmdkaaGreat.Abs
