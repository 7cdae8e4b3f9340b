/- Part of a proof. -/
import Derived.Test.YthegbfgeochckaaGreatC11
import Derived.Test.YthegbfgeochckaaGreatWo
set_option linter.all false
set_option maxRecDepth 20000
set_option maxHeartbeats 0
namespace Go.Proofs.YthegbfgeochckaaGreat.Abs
open Go.Proofs
def kL (p:Proj) (r:Rul) (keeps:Lit->Bool) (out:List Lit) (x:Lit):List Lit:=
 if keeps x=true then out else if refutes p (qE p (kE out x)) r=true then kE out x else out
def mE (p:Proj) (r:Rul) (keeps:Lit->Bool) (l:List Lit):List Lit:=l.foldl (kL p r keeps) l
theorem tu {α β:Type} {f:β->α->β} {l:List α} {k:Nat} {x:α} {o:β} (h:l[k]? =some x):(l.drop k).foldl f o=(l.drop (k+1)).foldl f (f o x):=by
 obtain⟨hk,rfl⟩:=List.getElem?_eq_some_iff.1 h
 rw [List.drop_eq_getElem_cons hk,List.foldl_cons]
theorem wX (p:Proj) (r:Rul) (l:List Lit) (fc:Nat) (caps:List AV) (keeps:Lit->Bool) (hp:p.fine) (hc:∀x:Lit,Con fc ([.d x.av]++caps.map .ref) (.d (.bool (keeps x)))):
  Con 239 [.d p.av,.d r.av,.d (lits l),.fn fc caps] (.lin 102 ((mE p r keeps l).map Lit.av)):=by
 refine con Tryz.func239 rfl rfl Tryz.call239 rfl fun hwf=>?_
 simp only [ARs.wf,AR.wf,AV.wf,AV.wfs,lm,lim] at hwf
 (repeat' ((conv=>whnf);first|refine gA ?_|refine gC (Ra l) ?_|intro _))<;>try (conv=>whnf)
 refine ay [3,4,5,15,16] [4,5] [15000] ?_
 (conv=>whnf)
 refine au.go ((Nat)×(List Lit)) (fun⟨k,o⟩=>(k<=l.length)/\(o.length<=l.length)/\((l.drop k).foldl (kL p r keeps) o=mE p r keeps l)) (fun⟨k,o⟩=>[(17,.data (i64 k)),(9,.own 15000 0)]) lE (fun⟨k,o⟩=>[(15000,102,o.map Lit.av,2)]) (fun⟨k,o⟩=>l.length - k) ⟨0,l⟩ ?_ ?_
 ·exact⟨Nat.zero_le _,Nat.le_refl _,rfl⟩
 rintro⟨k,o⟩ ⟨hk,ho,he⟩
 (repeat' ((conv=>whnf);first|refine gA ?_|(refine gB ?_ ?_<;>intro h)|(refine gI ?_;intro x hx)|refine gC (hc x) ?_|refine gC (Gy o x) ?_|refine gC (qF p (kE o x) hp) ?_|refine gC (jE p (qE p (kE o x)) r hp) ?_|intro _))<;>try (conv=>whnf)
 ·refine nx ⟨k+1,o⟩ ?_
  rw [tu hx,kL,if_pos h] at he
  exact⟨by omega,ho,he⟩
 ·refine nx ⟨k+1,kE o x⟩ ?_
  rw [tu hx,kL,if_neg (by simp [*]),if_pos h] at he
  exact⟨by omega,Nat.le_trans (List.length_filter_le _ _) ho,he⟩
 ·refine nx ⟨k+1,o⟩ ?_
  rw [tu hx,kL,if_neg (by simp [*]),if_neg (by simp [*])] at he
  exact⟨by omega,ho,he⟩
 ·refine⟨?_,rfl,trivial⟩
  rw [aG (by assumption)] at he
  rw [<- he];rfl
theorem Pe (p:Proj) (r:Rul) (l:List Lit) (fc:Nat) (caps:List AV) (keeps:Lit->Bool) (hp:p.fine) (hc:∀x:Lit,Con fc ([.d x.av]++caps.map .ref) (.d (.bool (keeps x)))):
  Con 239 [.d p.av,.d r.av,.d (lits l),.fn fc caps] (.fr ((mE p r keeps l).map Lit.av)):=(wX p r l fc caps keeps hp hc).agy
def GA (l:List Lit) (keep:Int):Lit:=if within keep 0 ((l.length:Int) - 1)=true then l.getD keep.toNat bL else bL
theorem AA {o:List Lit} {x y:Lit} {k:Nat} {d:List Lit} (hd:d++kE (o.drop k) x=kE o x) (hy:o[k]? =some y):(aY y x=false->(d++[y])++kE (o.drop (k+1)) x=kE o x)/\(aY y x=true->d++kE (o.drop (k+1)) x=kE o x):=by
 obtain⟨hk,rfl⟩:=List.getElem?_eq_some_iff.1 hy
 rw [List.drop_eq_getElem_cons hk] at hd
 constructor
 ·intro h
  rw [<- hd]
  simp only [kE,List.filter_cons,h,Bool.not_false,if_true,List.append_assoc,List.singleton_append]
 ·intro h
  rw [<- hd]
  simp only [kE,List.filter_cons,h,Bool.not_true,Bool.false_eq_true,if_false]
theorem Tg {l:List Lit} {keep:Int} {x:Lit} (hw:within keep 0 ((l.length:Int) - 1)=true) (hx:l[keep.toNat]? =some x):GA l keep=x:=by
 rw [GA,if_pos hw,List.getD_eq_getElem?_getD,hx];rfl
theorem Pf {l:List Lit} {keep:Int} (hw:within keep 0 ((l.length:Int) - 1)=false):GA l keep=bL:=by
 rw [GA,if_neg (by rw [hw];exact Bool.false_ne_true)]
theorem jw {a b:Lit} {c:Bool} (h:(decide (a.kind=b.kind)&&(decide (a.act=b.act)&&(decide (a.val=b.val)&&true)))=c):aY a b=c:=by
 rw [<- h,Bool.and_true];rfl
theorem Ti {d:List Lit} {o:List Lit} {z:Lit} (h:d=kE o z):d.length<=o.length:=by rw [h];exact List.length_filter_le _ _
theorem Pg (p:Proj) (r:Rul) (l:List Lit) (keep:Int) (hp:p.fine) (ho:bI p=true) (x0:Lit) (hw:within keep 0 ((l.length:Int) - 1)=true) (hx0:l[keep.toNat]? =some x0):Con 214 [.d p.av,.d r.av,.d (lits l),.d (i64 keep)] (.d (lits (mE p r (fun x=>aY x x0) l))):=by
 refine con Tryz.func214 rfl rfl Tryz.call214 rfl fun hwf=>?_
 simp only [ARs.wf,AR.wf,AV.wf,AV.wfs,lm,lim] at hwf
 have hw':within keep 0 (((l.map Lit.av).length:Int) - 1)=true:=by rw [List.length_map];exact hw
 have hb:=within_iff.1 hw
 (repeat' ((conv=>whnf);first|(with_reducible first|refine Br.yes hw' ?_|refine Idx.got hx0 (by omega) ?_)|refine gAX ?_|refine gC (dG keep 0 (((l.map Lit.av).length:Int) - 1)) ?_|intro _))
 refine ay [4,5,9,29,30] [4,5,9] [] ?_
 (conv=>whnf)
 refine au.go ((Nat)×(List Lit)) (fun⟨k,o⟩=>(k<=l.length)/\(o.length<=l.length)/\((l.drop k).foldl (kL p r fun x=>aY x x0) o=mE p r (fun x=>aY x x0) l)) (fun⟨k,o⟩=>[(31,.data (i64 k)),(10,.data (lits o))]) lE lE (fun⟨k,o⟩=>l.length - k) ⟨0,l⟩ ?_ ?_
 ·exact⟨Nat.zero_le _,Nat.le_refl _,rfl⟩
 rintro⟨k,o⟩ ⟨hk,hol,he⟩
 (repeat' ((conv=>whnf);first|refine gA ?_|(refine gB ?_ ?_<;>intro h)|(refine gI ?_;intro x hx)))
 ·refine nx ⟨k+1,o⟩ ?_
  rw [tu hx,kL,if_pos (jw h)] at he
  exact⟨by omega,hol,he⟩
 ·obtain⟨z,rfl⟩:∃z,z=x:=⟨x,rfl⟩
  have hz:=hx
  rw [tu hz,kL,if_neg (by rw [jw (b:=x0) h];exact Bool.false_ne_true),qE,rA,if_pos ho] at he
  clear hx
  refine ay [4,5,9,10,12,29,30,31,39,40] [4,5,9,12] [38] ?_
  (conv=>whnf)
  refine au.go ((Nat)×(List Lit)) (fun⟨j,d⟩=>(j<=o.length)/\(d.length<=j)/\(d++kE (o.drop j) z=kE o z)) (fun⟨j,d⟩=>[(41,.data (i64 j)),(13,.own 38 0)]) lE (fun⟨j,d⟩=>[(38,102,d.map Lit.av,0)]) (fun⟨j,d⟩=>o.length - j) ⟨0,[]⟩ ?_ ?_
  ·exact⟨Nat.zero_le _,Nat.le_refl _,rfl⟩
  rintro⟨j,d⟩ ⟨hj,hdl,hd⟩
  (repeat' ((conv=>whnf);first|refine gAX ?_|(refine gB ?_ ?_<;>intro h)|(refine gI ?_;intro x hx)|refine gC (Ag p (xP ho)) ?_|refine gC (uU (jV p) d (xO p)) ?_|refine gC (mR p (against (jV p) d) r hp) ?_|intro _))
  ·refine nx ⟨j+1,d⟩ ?_
   exact⟨by omega,by omega,(AA hd hx).2 (jw h)⟩
  ·refine nwS ⟨j+1,d++[x]⟩ ?_
   exact⟨by omega,by simp;omega,(AA hd hx).1 (jw h)⟩
  ·rw [aG (by assumption),show kE [] z= [] from rfl,List.append_nil] at hd
   refine nx ⟨k+1,d⟩ ?_
   rw [<- hd,if_pos (by assumption)] at he
   exact⟨by omega,Nat.le_trans (Ti hd) hol,he⟩
  ·rw [aG (by assumption),show kE [] z= [] from rfl,List.append_nil] at hd
   refine nx ⟨k+1,o⟩ ?_
   rw [<- hd,h,if_neg Bool.false_ne_true] at he
   exact⟨by omega,hol,he⟩
 ·refine⟨?_,rfl,trivial⟩
  rw [aG (by assumption)] at he
  rw [<- he];rfl
theorem Ph (p:Proj) (r:Rul) (l:List Lit) (keep:Int) (hp:p.fine) (ho:bI p=true) (hw:within keep 0 ((l.length:Int) - 1)=false):Con 214 [.d p.av,.d r.av,.d (lits l),.d (i64 keep)] (.d (lits (mE p r (fun x=>aY x bL) l))):=by
 refine con Tryz.func214 rfl rfl Tryz.call214 rfl fun hwf=>?_
 simp only [ARs.wf,AR.wf,AV.wf,AV.wfs,lm,lim] at hwf
 have hw':within keep 0 (((l.map Lit.av).length:Int) - 1)=false:=by rw [List.length_map];exact hw
 (repeat' ((conv=>whnf);first|with_reducible refine Br.no hw' ?_|refine gAX ?_|refine gC (dG keep 0 (((l.map Lit.av).length:Int) - 1)) ?_|intro _))
 refine ay [4,5,9,29,30] [4,5,9] [] ?_
 (conv=>whnf)
 refine au.go ((Nat)×(List Lit)) (fun⟨k,o⟩=>(k<=l.length)/\(o.length<=l.length)/\((l.drop k).foldl (kL p r fun x=>aY x bL) o=mE p r (fun x=>aY x bL) l)) (fun⟨k,o⟩=>[(31,.data (i64 k)),(10,.data (lits o))]) lE lE (fun⟨k,o⟩=>l.length - k) ⟨0,l⟩ ?_ ?_
 ·exact⟨Nat.zero_le _,Nat.le_refl _,rfl⟩
 rintro⟨k,o⟩ ⟨hk,hol,he⟩
 (repeat' ((conv=>whnf);first|refine gA ?_|(refine gB ?_ ?_<;>intro h)|(refine gI ?_;intro x hx)))
 ·refine nx ⟨k+1,o⟩ ?_
  rw [tu hx,kL,if_pos (jw h)] at he
  exact⟨by omega,hol,he⟩
 ·obtain⟨z,rfl⟩:∃z,z=x:=⟨x,rfl⟩
  have hz:=hx
  rw [tu hz,kL,if_neg (by rw [jw (b:=bL) h];exact Bool.false_ne_true),qE,rA,if_pos ho] at he
  clear hx
  refine ay [4,5,9,10,12,29,30,31,39,40] [4,5,9,12] [38] ?_
  (conv=>whnf)
  refine au.go ((Nat)×(List Lit)) (fun⟨j,d⟩=>(j<=o.length)/\(d.length<=j)/\(d++kE (o.drop j) z=kE o z)) (fun⟨j,d⟩=>[(41,.data (i64 j)),(13,.own 38 0)]) lE (fun⟨j,d⟩=>[(38,102,d.map Lit.av,0)]) (fun⟨j,d⟩=>o.length - j) ⟨0,[]⟩ ?_ ?_
  ·exact⟨Nat.zero_le _,Nat.le_refl _,rfl⟩
  rintro⟨j,d⟩ ⟨hj,hdl,hd⟩
  (repeat' ((conv=>whnf);first|refine gAX ?_|(refine gB ?_ ?_<;>intro h)|(refine gI ?_;intro x hx)|refine gC (Ag p (xP ho)) ?_|refine gC (uU (jV p) d (xO p)) ?_|refine gC (mR p (against (jV p) d) r hp) ?_|intro _))
  ·refine nx ⟨j+1,d⟩ ?_
   exact⟨by omega,by omega,(AA hd hx).2 (jw h)⟩
  ·refine nwS ⟨j+1,d++[x]⟩ ?_
   exact⟨by omega,by simp;omega,(AA hd hx).1 (jw h)⟩
  ·rw [aG (by assumption),show kE [] z= [] from rfl,List.append_nil] at hd
   refine nx ⟨k+1,d⟩ ?_
   rw [<- hd,if_pos (by assumption)] at he
   exact⟨by omega,Nat.le_trans (Ti hd) hol,he⟩
  ·rw [aG (by assumption),show kE [] z= [] from rfl,List.append_nil] at hd
   refine nx ⟨k+1,o⟩ ?_
   rw [<- hd,h,if_neg Bool.false_ne_true] at he
   exact⟨by omega,hol,he⟩
 ·refine⟨?_,rfl,trivial⟩
  rw [aG (by assumption)] at he
  rw [<- he];rfl
theorem FE (p:Proj) (r:Rul) (l:List Lit) (keep:Int) (hp:p.fine) (ho:bI p=true):Con 214 [.d p.av,.d r.av,.d (lits l),.d (i64 keep)] (.d (lits (mE p r (fun x=>aY x (GA l keep)) l))):=by
 cases hw:within keep 0 ((l.length:Int) - 1) with
 |false=>rw [Pf hw];exact Ph p r l keep hp ho hw
 |true=>
  have hb:=within_iff.1 hw
  obtain⟨x0,hx0⟩:∃x0,l[keep.toNat]? =some x0:=⟨l[keep.toNat]'(by omega),by simp⟩
  rw [Tg hw hx0]
  exact Pg p r l keep hp ho x0 hw hx0
theorem abW {a b:Lit}:jo a b < 0↔a.act < b.act\/(a.act=b.act/\(a.kind < b.kind\/(a.kind=b.kind/\a.val < b.val))):=by
 simp only [jo,orI,Ci]
 repeat' split
 all_goals omega
theorem Pj {α β:Type} {f g:β->α->β}:∀{l:List α} {b:β},(∀b,∀x∈l,f b x=g b x)->l.foldl f b=l.foldl g b
 |[],_,_=>rfl
 |x::l,b,h=>by
  rw [List.foldl_cons,List.foldl_cons,h b x (List.mem_cons_self ..)]
  exact Pj fun b y hy=>h b y (List.mem_cons_of_mem _ hy)
end Go.Proofs.YthegbfgeochckaaGreat.Abs
