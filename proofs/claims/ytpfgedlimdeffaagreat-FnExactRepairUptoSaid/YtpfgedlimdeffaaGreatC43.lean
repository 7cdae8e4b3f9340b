/- Contracts: schedules that the program builds step by step. -/
import Derived.Test.YtpfgedlimdeffaaGreatC42
import Derived.Test.YtpfgedlimdeffaaGreatWo
set_option linter.all false
set_option maxRecDepth 20000
set_option maxHeartbeats 0
namespace Go.Proofs.YtpfgedlimdeffaaGreat.Abs
open Go.Proofs Go.RowKit
def wP:aA:=⟨[],[]⟩
def dR (p:Proj) (x:Pln):Option aA:=if x.done.length=p.acts.length∧fA p x.sched=true then some x.sched else none
def QB (o:Option aA):RV:=.tup [.agg [.lin 3 ((o.getD wP).starts.map i64),.lin 3 ((o.getD wP).modes.map i64)],.d (.bool o.isSome)]
theorem ng:QB none= .tup [.agg [.lin 3 [],.lin 3 []],.d (.bool false)]:=rfl
theorem Po (s:aA):QB (some s)= .tup [.agg [.lin 3 (s.starts.map i64),.lin 3 (s.modes.map i64)],.d (.bool true)]:=rfl
theorem Bl (p:Proj) (x:Pln) (hp:p.fine) (h:dR p x=none):Con 41 [.d p.av,.d x.av] (.tup [.agg [.aj,.aj],.d (.bool false)]):=by
 refine con Tryz.func41 rfl rfl Tryz.call41 rfl fun hwf=>?_
 have hn:¬(x.done.length=p.acts.length∧fA p x.sched=true):=fun h'=>by rw [dR,if_pos h'] at h;cases h
 (repeat' ((conv=>whnf);first|refine gA ?_|(refine gB ?_ ?_<;>intro h)|refine gC (oC p x.sched hp) ?_|intro _))<;>try (conv=>whnf)
 all_goals first
  |exact trivial
  |(exfalso;exact hn ⟨by omega,by assumption⟩)
  |exact fv
theorem Pp {α β:Type} {R:α→β→Prop} {a b c:α}:∀{l:List β},aN R [a,b,c] l→∃x y z,l= [x,y,z]∧R a x∧R b y∧R c z
 |[x,y,z],h=>⟨x,y,z,rfl,h.1,h.2.1,h.2.2.1⟩
 |[],h=>h.elim
 |[_],h=>h.2.elim
 |[_,_],h=>h.2.2.elim
 |_::_::_::_::_,h=>h.2.2.2.elim
theorem Bn {α β:Type} {R:α→β→Prop} {a b c d e:α}:∀{l:List β},aN R [a,b,c,d,e] l→∃x y z u v,l= [x,y,z,u,v]∧R a x∧R b y∧R c z∧R d u∧R e v
 |[x,y,z,u,v],h=>⟨x,y,z,u,v,rfl,h.1,h.2.1,h.2.2.1,h.2.2.2.1,h.2.2.2.2.1⟩
 |[],h=>h.elim
 |[_],h=>h.2.elim
 |[_,_],h=>h.2.2.elim
 |[_,_,_],h=>h.2.2.2.elim
 |[_,_,_,_],h=>h.2.2.2.2.elim
 |_::_::_::_::_::_::_,h=>h.2.2.2.2.2.elim
theorem FL {α β:Type} {R:α→β→Prop} {a b:α}:∀{l:List β},aN R [a,b] l→∃x y,l= [x,y]∧R a x∧R b y
 |[x,y],h=>⟨x,y,rfl,h.1,h.2.1⟩
 |[],h=>h.elim
 |[_],h=>h.2.elim
 |_::_::_::_,h=>h.2.2.elim
theorem Aa {I:Nat→Prop} {w:World} {L:Nat} {l:List AV} {v:Value} (h:aD I w L (.sl l) v):∃a cap,v= .slice a l.length cap:=by
 simp only [aD] at h
 obtain⟨a,cap,e,_⟩:=h
 exact⟨a,cap,e⟩
theorem FM {d1 d3 d4 d5:Value} {b1 b2 a2 a3:Option Addr} {n1 n2 q1 q2 cap2 Vz n:Nat} {w:World} (hcall:∀W,Quiet w W→Calls Tryz.prog 35 #[.agg #[d1,.slice a2 n cap2,d3,d4,d5],.agg #[.slice b1 n1 q1,.slice b2 n2 q2]] W fun e w'=>e= .returned (.bool true)∧Quiet W w'):
  Calls Tryz.prog 41 #[.agg #[d1,.slice a2 n cap2,d3,d4,d5],.agg #[.slice b1 n1 q1,.slice b2 n2 q2,.slice a3 n Vz]] w fun e w'=>e= .returned (.tuple #[.agg #[.slice b1 n1 q1,.slice b2 n2 q2],.bool true])∧Quiet w w':=by
 have HC:=Lib.hid hcall
 clear hcall
 go_enter Tryz.func41,Tryz.ntmps41
 go_wp2_with fail
 generalize hW:((w.alloc _).alloc _).alloc _=W
 have hq0:Quiet w W:=hW ▸ (((Quiet.alloc _ _).trans (Quiet.alloc _ _)).trans (Quiet.alloc _ _))
 have hb3:W.heap[w.heap.size+1]? =some (.cells #[.slice b1 n1 q1,.slice b2 n2 q2,.slice a3 n Vz] 61):=by
  subst hW;simp only [World.alloc,Array.getElem?_push,Array.size_push];rw [if_neg (by omega)];first|(rw [if_pos rfl];done)|(rw [if_neg (by omega),if_pos rfl];done)|rfl
 have hb4:W.heap[w.heap.size+2]? =some (.cells #[.slice none 0 0,.slice none 0 0] 34):=by
  subst hW;simp only [World.alloc,Array.getElem?_push,Array.size_push];simp
 clear hW
 refine (HC.out W hq0).mono ?_
 rintro e w4 ⟨rfl,hq⟩
 have c3:w4.heap[w.heap.size+1]? =some (.cells #[.slice b1 n1 q1,.slice b2 n2 q2,.slice a3 n Vz] 61):=by
  rw [hq.block _ (Array.getElem?_eq_some_iff.1 hb3).1 id];exact hb3
 have c4:w4.heap[w.heap.size+2]? =some (.cells #[.slice none 0 0,.slice none 0 0] 34):=by
  rw [hq.block _ (Array.getElem?_eq_some_iff.1 hb4).1 id];exact hb4
 have HB:=Lib.hid (hq0.trans hq)
 have k0:w4.cell? ⟨w.heap.size+1,0,none⟩=some (.slice b1 n1 q1):=by rw [cell_of_row w4 _ 0 _ _ _ c3];rfl
 have k1:w4.cell? ⟨w.heap.size+1,1,none⟩=some (.slice b2 n2 q2):=by rw [cell_of_row w4 _ 1 _ _ _ c3];rfl
 have k2:w4.cell? ⟨w.heap.size+1+1,0,none⟩=some (.slice none 0 0):=by rw [cell_of_row w4 _ 0 _ _ _ c4];rfl
 have k3:w4.cell? ⟨w.heap.size+1+1,1,none⟩=some (.slice none 0 0):=by rw [cell_of_row w4 _ 1 _ _ _ c4];rfl
 have f2:w4.frozen? ⟨w.heap.size+1+1,0,none⟩=false:=by simp [World.frozen?,c4]
 have f3:w4.frozen? ⟨w.heap.size+1+1,1,none⟩=false:=by simp [World.frozen?,c4]
 clear c3 c4
 clear hq hq0 hb3 hb4
 go_wp2_with fail
 have hb:=HB.out
 have ers:Tryz.f41.results= #[.cell 4 34,.tmp 5]:=rfl
 have hne:(⟨w.heap.size+1+1,0,none⟩:Addr)≠⟨w.heap.size+1+1,1,none⟩:=by simp
 have k4:(w4.setCell ⟨w.heap.size+1+1,0,none⟩ (.slice b1 n1 q1)).cell? ⟨w.heap.size+1+1,1,none⟩=some (.slice none 0 0):=by rw [World.cell?_setCell_other (h:=hne)];exact k3
 have r0:((w4.setCell ⟨w.heap.size+1+1,0,none⟩ (.slice b1 n1 q1)).setCell ⟨w.heap.size+1+1,1,none⟩ (.slice b2 n2 q2)).cell? ⟨w.heap.size+1+1,0,none⟩=some (.slice b1 n1 q1):=by
  rw [World.cell?_setCell_other (h:=hne.symm),World.cell?_setCell_same (h:=k2)]
 have r1:((w4.setCell ⟨w.heap.size+1+1,0,none⟩ (.slice b1 n1 q1)).setCell ⟨w.heap.size+1+1,1,none⟩ (.slice b2 n2 q2)).cell? ⟨w.heap.size+1+1,1,none⟩=some (.slice b2 n2 q2):=World.cell?_setCell_same _ _ _ k4
 refine bodyPost_ret (v:=.tuple #[.agg #[.slice b1 n1 q1,.slice b2 n2 q2],.bool true]) (by simp [results,ers,go_sem,r0,r1]) rfl ?_
 have hb0:Below w.heap.size w w4:=⟨hb.os,hb.tape,hb.output,hb.size,fun k hk=>hb.block k hk id⟩
 exact⟨rfl,Turn.of (fun _ h=>h.elim) ((hb0.setCell (by show w.heap.size≤w.heap.size+1+1;omega) _).setCell (by show w.heap.size≤w.heap.size+1+1;omega) _) hb.drawn⟩
theorem Ab (p:Proj) (x:Pln) (s:aA) (hp:p.fine) (h:dR p x=some s):Con 41 [.d p.av,.d x.av] (.tup [.arg 1 0 2,.d (.bool true)]):=by
 have hh:x.done.length=p.acts.length∧fA p x.sched=true:=by
  by_cases h':x.done.length=p.acts.length∧fA p x.sched=true
  ·exact h'
  ·rw [dR,if_neg h'] at h;cases h
 obtain⟨hl,hs⟩:=hh
 have hOK:=oC p x.sched hp
 rw [hs] at hOK
 refine⟨Tryz.call41,fun I J O mt w vs hI _ hO _ _ ha=>?_⟩
 obtain⟨v0,v1,rfl,h0,h1⟩:=FL ha
 have h0:aF I w lim p.av v0:=h0
 have h1:aF I w lim x.av v1:=h1
 have hp0:=h0
 obtain⟨cs,rfl,hc⟩:=h1
 obtain⟨ds,rfl,hd⟩:=h0
 obtain⟨u1,u2,u3,rfl,c1,c2,c3⟩:=Pp hc
 obtain⟨d1,d2,d3,d4,d5,rfl,_,e2,_⟩:=Bn hd
 have k1:=Aa c1
 have k2:=Aa c2
 obtain⟨a3,Vz,rfl⟩:=Aa c3
 obtain⟨a2,cap2,rfl⟩:=Aa e2
 obtain⟨b1,q1,rfl⟩:=k1
 obtain⟨b2,q2,rfl⟩:=k2
 have hcall:∀W,Quiet w W→Calls Tryz.prog 35 #[.agg #[d1,.slice a2 (p.acts.map au.av).length cap2,d3,d4,d5],.agg #[.slice b1 (x.sched.starts.map i64).length q1,.slice b2 (x.sched.modes.map i64).length q2]] W fun e w'=>e= .returned (.bool true)∧Quiet W w':=fun W hq=>by
  have hI':∀b,I b→b < W.heap.size:=fun b hb=>Nat.lt_of_lt_of_le (hI b hb) hq.size
  have hw:∀b o,I b→W.cell? ⟨b,o,none⟩=w.cell? ⟨b,o,none⟩:=fun b o hb=>World.cell?_of_block (hq.block b (hI b hb) id)
  exact qD hOK (w:=W) (vs:=[_,_]) ⟨aF.mono hI' hw hp0,⟨[_,_],rfl,c1.mono hI' hw,c2.mono hI' hw,trivial⟩,trivial⟩
 rw [show (p.acts.map au.av).length=(x.done.map i64).length by rw [List.length_map,List.length_map,hl]] at hcall ⊢
 refine (FM hcall).mono ?_
 rintro e w' ⟨rfl,hq⟩
 refine⟨_,rfl,Turn.ofQ (fun k hk=>hO k hk.1) hq,I,[],fun k hk=>hk,fun k hk=>.inl hk,List.nodup_nil,fun _ h=>by simp at h,?_⟩
 simp only [dD,iX]
 exact⟨[_,_],rfl,_,_,[],[],rfl,rfl,⟨rfl,_,rfl,rfl⟩,_,_,[],[],rfl,rfl,⟨rfl,by simp [aF,aD]⟩,rfl,rfl⟩
def Ua (p:Proj) (x:Pln) (a:Int):Bool:=bH p a&&(!x.done.contains a&&ready p a x.done)
def Ny (p:Proj) (x:Pln) (order:List Int):Int:=dz (Ua p x) order 0
theorem FN {p:Proj} {x:Pln} {s:aA} (h:dR p x=some s):aK p s=true:=by
 unfold dR at h
 split at h
 ·rename_i hh
  cases h
  have:=hh.2
  rw [fA,Bool.and_eq_true] at this
  exact this.1
 ·cases h
theorem FP {p:Proj} {x:Pln} {s:aA} (h:dR p x=some s):x.sched=s:=by
 unfold dR at h
 split at h
 ·exact Option.some.inj h
 ·cases h
attribute [local irreducible] bf bA uw Ny dR bC TW fA
def QC (p:Proj) (low:Bool) (t:Int) (x:Pln) (a:Int):Pln:=if bH p a=true∧ready p a x.done=true∧bf p x a (uw p a low) t=true then bC x a.toNat (uw p a low) t else x
def QD (p:Proj) (order:List Int) (low:Bool):Nat→Int→Pln→Pln
 |0,_,x=>x
 |n+1,t,x=>QD p order low n (t+1) (order.foldl (QC p low t) x)
attribute [local irreducible] QC QD ready
end Go.Proofs.YtpfgedlimdeffaaGreat.Abs
