/- Part of a proof. -/
import Derived.Test.YthegbfgeochckaaGreatLct
import Derived.Test.YthegbfgeochckaaGreatLh
import Derived.Test.YthegbfgeochckaaGreatLmk
import Derived.Test.YthegbfgeochckaaGreatQ3
import Derived.Test.YthegbfgeochckaaGreatVis
import Derived.Test.YthegbfgeochckaaGreatLayC
set_option linter.all false
set_option maxRecDepth 20000
set_option maxHeartbeats 0
namespace Go.Proofs.YthegbfgeochckaaGreat.Abs
open Go.Proofs
theorem ael (l:List Step) (k:Int):(ah (ak iY) (l.map Step.av) k).2=k+aU Step.cnt l:=
 jP (fun x k=>by simp only [ak,iY,AV.cells,List.set,List.getElem?_cons_zero,List.getElem?_cons_succ,Step.cnt];omega) l k
theorem afh (l:List Step):∀x∈l.map Step.av,JF x:=by
 intro x hx
 obtain⟨y,_,rfl⟩:=List.mem_map.1 hx
 exact⟨_,rfl,⟨_,_,rfl,_,_,rfl,rfl⟩⟩
theorem JO (l:List Link) (k:Int):(ah (ak bQ) (l.map Link.av) k).2=k+aU Link.cnt l:=
 jP (fun x k=>by simp only [ak,bQ,AV.cells,List.set,List.getElem?_cons_zero,List.getElem?_cons_succ,Link.cnt];omega) l k
theorem abx (l:List Link):∀x∈l.map Link.av,Bg x:=by
 intro x hx
 obtain⟨y,_,rfl⟩:=List.mem_map.1 hx
 exact⟨_,rfl,⟨_,_,rfl,_,_,rfl,_,_,rfl,_,_,rfl,rfl⟩⟩
theorem aem (l:List Mode) (k:Int):(ah (ak ku) (l.map Mode.av) k).2=k+aU Mode.cnt l:=
 jP (fun x k=>by simp only [ak,ku,AV.cells,List.set,List.getElem?_cons_zero,List.getElem?_cons_succ,ni,Mode.cnt];omega) l k
theorem afi (l:List Mode):∀x∈l.map Mode.av,JD x:=by
 intro x hx
 obtain⟨y,_,rfl⟩:=List.mem_map.1 hx
 exact⟨_,rfl,⟨_,_,rfl,_,_,rfl,tO _,_,_,rfl,tO _,rfl⟩⟩
theorem Ep (l:List aB) (k:Int):(ah (ak aI) (l.map aB.av) k).2=k+aU aB.cnt l:=
 jP (fun x k=>by simp only [ak,aI,AV.cells,List.set,List.getElem?_cons_zero,List.getElem?_cons_succ,aem,aB.cnt];omega) l k
theorem YG (l:List aB):∀x∈l.map aB.av,oM x:=by
 intro x hx
 obtain⟨y,_,rfl⟩:=List.mem_map.1 hx
 exact⟨_,rfl,⟨_,_,rfl,_,_,rfl,_,_,rfl,afi _,rfl⟩⟩
theorem Er (l:List aK) (k:Int):(ah (ak aR) (l.map aK.av) k).2=k+aU aK.cnt l:=
 jP (fun x k=>by simp only [ak,aR,AV.cells,List.set,List.getElem?_cons_zero,List.getElem?_cons_succ,ael,Dy,aK.cnt,Tv];omega) l k
theorem YH (l:List aK):∀x∈l.map aK.av,oO x:=by
 intro x hx
 obtain⟨y,_,rfl⟩:=List.mem_map.1 hx
 exact⟨_,rfl,⟨_,_,rfl,afh _,_,_,rfl,VR _,rfl⟩⟩
abbrev Proj.cellsOf (x:Proj):List AV:=[i64 x.dead,.sl (x.acts.map aB.av),.sl (x.links.map Link.av),.sl (x.aS.map aK.av),ints x.aH]
theorem JQ (x:Proj) (n:Int) (hn:0<=n/\n+x.cnt<=4611686018427387904):Con 106 [.d (.agg (ak jm x.cellsOf n).1),.d (i64 n)] (.d (i64 (n+x.cnt))):=by
 refine con Tryz.func106 rfl rfl Tryz.call106 rfl fun hwf=>?_
 have h1:=aX (f:=aB.cnt) (l:=x.acts) (fun x _=>x.bE)
 have h2:=aX (f:=Link.cnt) (l:=x.links) (fun x _=>x.bE)
 have h3:=aX (f:=aK.cnt) (l:=x.aS) (fun x _=>x.bE)
 have he:x.cnt=aU aB.cnt x.acts+aU Link.cnt x.links+aU aK.cnt x.aS+x.aH.length:=rfl
 have e1:=Ep x.acts n
 have e2:=JO x.links (n+aU aB.cnt x.acts)
 have e3:=Er x.aS (n+aU aB.cnt x.acts+aU Link.cnt x.links)
 have e4:=ni x.aH (n+aU aB.cnt x.acts+aU Link.cnt x.links+aU aK.cnt x.aS)
 have H1:=EN (x.acts.map aB.av) n (by omega) (YG _) (by omega)
 have H2:=MQ (x.links.map Link.av) (n+aU aB.cnt x.acts) (by omega) (abx _) (by omega)
 have H3:=EO (x.aS.map aK.av) (n+aU aB.cnt x.acts+aU Link.cnt x.links) (by omega) (YH _) (by omega)
 have H4:=jh (x.aH.map i64) (n+aU aB.cnt x.acts+aU Link.cnt x.links+aU aK.cnt x.aS) (by omega) (tO _) (by omega)
 have ee:(ak jm x.cellsOf n).1= [i64 x.dead,.sl (ah (ak aI) (x.acts.map aB.av) n).1,.sl (ah (ak bQ) (x.links.map Link.av) (n+aU aB.cnt x.acts)).1,.sl (ah (ak aR) (x.aS.map aK.av) (n+aU aB.cnt x.acts+aU Link.cnt x.links)).1,.sl (ah (ak aP) (x.aH.map i64) (n+aU aB.cnt x.acts+aU Link.cnt x.links+aU aK.cnt x.aS)).1]:=by
  simp only [ak,jm,List.set,List.getElem?_cons_zero,List.getElem?_cons_succ,e1,e2,e3]
 rw [ee]
 rw [e1] at H1
 rw [e2] at H2
 rw [e3] at H3
 rw [e4] at H4
 (repeat' ((conv=>whnf);first|with_reducible refine Br.no (decide_eq_false (by omega)) ?_|refine gA ?_|refine gC H1 ?_|refine gC H2 ?_|refine gC H3 ?_|refine gC H4 ?_|intro _))
 refine⟨?_,rfl,trivial⟩
 exact congrArg (AV.int .i64) (by omega)
abbrev Lg.sh (x:Lg):AV:=.agg [.any,.sl (x.proj.acts.map aB.sh),.sl (x.proj.links.map Link.sh),.sl (x.proj.aS.map aK.sh),shI x.proj.aH,shI x.dom.lo,shI x.dom.hi,.sl (x.dom.modes.map shI),.sl (x.decs.map Lit.sh),.sl (x.lines.map Lin.sh)]
abbrev Lg.cnt (x:Lg):Int:=x.proj.cnt+x.dom.cnt+aU Lit.cnt x.decs+aU Lin.cnt x.lines
theorem Lg.bE (x:Lg):0<=x.cnt:=by
 have h1:=aX (f:=Lit.cnt) (l:=x.decs) (fun x _=>x.bE)
 have h2:=aX (f:=Lin.cnt) (l:=x.lines) (fun x _=>x.bE)
 have h3:=x.proj.bE
 have h4:=x.dom.bE
 unfold Lg.cnt;omega
theorem Lg.iO (x:Lg):x.av.shape=x.sh:=by
 simp only [AV.shape,AV.shapes]
 rw [show AV.sl (AV.shapes (x.proj.acts.map aB.av))= .sl (x.proj.acts.map aB.sh) from Abs.iO aB.iO x.proj.acts,show AV.sl (AV.shapes (x.proj.links.map Link.av))= .sl (x.proj.links.map Link.sh) from Abs.iO Link.iO x.proj.links,
  show AV.sl (AV.shapes (x.proj.aS.map aK.av))= .sl (x.proj.aS.map aK.sh) from Abs.iO aK.iO x.proj.aS,show AV.sl (AV.shapes (x.proj.aH.map i64))=shI x.proj.aH from Bf x.proj.aH,
  show AV.sl (AV.shapes (x.dom.lo.map i64))=shI x.dom.lo from Bf x.dom.lo,show AV.sl (AV.shapes (x.dom.hi.map i64))=shI x.dom.hi from Bf x.dom.hi,show AV.sl (AV.shapes (x.dom.modes.map ints))= .sl (x.dom.modes.map shI) from Abs.iO Bf x.dom.modes,
  show AV.sl (AV.shapes (x.decs.map Lit.av))= .sl (x.decs.map Lit.sh) from Abs.iO Lit.iO x.decs,show AV.sl (AV.shapes (x.lines.map Lin.av))= .sl (x.lines.map Lin.sh) from Abs.iO Lin.iO x.lines]
theorem ais (x:Lg):x.av.md false=true:=by
 simp only [AV.md,AV.mds]
 exact fB rfl (fB (mdS Ym x.proj.acts) (fB (mdS abk x.proj.links) (fB (mdS Yn x.proj.aS) (fB (pK x.proj.aH) (fB (pK x.dom.lo) (fB (pK x.dom.hi) (fB (mdS pK x.dom.modes) (fB (Vt x.decs) (fB (mdS aeg x.lines) rfl)))))))))
theorem VU (x:Lg) (n:Int) (hn:0<=n/\n+x.cnt<=4611686018427387904):Con 10 [.old x.sh,.d (i64 n)] (.d (i64 (n+x.cnt))):=by
 refine con Tryz.func10 rfl rfl Tryz.call10 rfl fun hwf=>?_
 have h1:=aX (f:=Lit.cnt) (l:=x.decs) (fun x _=>x.bE)
 have h2:=aX (f:=Lin.cnt) (l:=x.lines) (fun x _=>x.bE)
 have h3:=x.proj.bE
 have h4:=x.dom.bE
 have he:x.cnt=x.proj.cnt+x.dom.cnt+aU Lit.cnt x.decs+aU Lin.cnt x.lines:=rfl
 (repeat' ((conv=>whnf);first|refine gA ?_|refine gC (KP x.proj n (by omega)) ?_|refine gC (ML x.dom _ (by omega)) ?_|refine gC (yx x.decs _ (by omega)) ?_|refine gC (Ql x.lines _ (by omega)) ?_|intro _))
 refine⟨?_,rfl,trivial⟩
 exact congrArg (AV.int .i64) (by omega)
theorem YI (x:Lg):Con 6 [.old x.av] (.d x.av):=by
 refine con Tryz.func6 rfl rfl Tryz.call6 rfl fun hwf=>?_
 (repeat' ((conv=>whnf);first|refine gA ?_|refine gC (MW x.proj) ?_|refine gC (Qt x.dom) ?_|refine gC (zM x.decs) ?_|refine gC (RA x.lines) ?_|intro _))
 exact⟨rfl,rfl,trivial⟩
theorem afj (x:Lg) (n:Int) (h:0<=JN x n):x.cnt<=5*(n - JN x n)/\JN x n<=n:=by
 unfold JN at h ⊢
 obtain⟨h1,e1⟩:=mG h;rw [e1] at h ⊢;(try dsimp only at h ⊢)
 obtain⟨h2,e2⟩:=mG h;rw [e2] at h ⊢;(try dsimp only at h ⊢)
 obtain⟨h3,e3⟩:=mG h;rw [e3] at h ⊢;(try dsimp only at h ⊢)
 obtain⟨h4,e4⟩:=mG h;rw [e4] at h ⊢;(try dsimp only at h ⊢)
 have:=Yl _ _ h1;have:=ZY _ _ h2;have:=uZ h3;have:=KQ (f:=fun x n=>tJ x n) (c:=Lin.cnt) aeh h4
 have:=uM x.decs
 unfold Lg.cnt;omega
abbrev Lg.cellsOf (x:Lg):List AV:=[i64 x.proj.dead,.sl (x.proj.acts.map aB.av),.sl (x.proj.links.map Link.av),.sl (x.proj.aS.map aK.av),ints x.proj.aH,ints x.dom.lo,ints x.dom.hi,.sl (x.dom.modes.map ints),lits x.decs,.sl (x.lines.map Lin.av)]
theorem RF (x:Lg) (n:Int) (hn:0<=n/\n+x.cnt<=4611686018427387904):Con 41 [.d (.agg (ak yA x.cellsOf n).1),.d (i64 n)] (.d (i64 (n+x.cnt))):=by
 refine con Tryz.func41 rfl rfl Tryz.call41 rfl fun hwf=>?_
 have h1:=aX (f:=Lit.cnt) (l:=x.decs) (fun x _=>x.bE)
 have h2:=aX (f:=Lin.cnt) (l:=x.lines) (fun x _=>x.bE)
 have h3:=x.proj.bE
 have h4:=x.dom.bE
 have hl:=uM x.decs
 have he:x.cnt=x.proj.cnt+x.dom.cnt+aU Lit.cnt x.decs+aU Lin.cnt x.lines:=rfl
 have H1:=JQ x.proj n (by omega)
 have H2:=La x.dom (n+x.proj.cnt) (by omega)
 have e3:=Nq x.decs (n+x.proj.cnt+x.dom.cnt)
 have e4:=VQ x.lines (n+x.proj.cnt+x.dom.cnt+3*x.decs.length)
 have H3:=xu (x.decs.map Lit.av) (n+x.proj.cnt+x.dom.cnt) (by omega) (aai _) (by omega)
 have H4:=MP (x.lines.map Lin.av) (n+x.proj.cnt+x.dom.cnt+3*x.decs.length) (by omega) (aek _) (by omega)
 have p1:=Ep x.proj.acts n
 have p2:=JO x.proj.links (n+aU aB.cnt x.proj.acts)
 have p3:=Er x.proj.aS (n+aU aB.cnt x.proj.acts+aU Link.cnt x.proj.links)
 have p4:=ni x.proj.aH (n+aU aB.cnt x.proj.acts+aU Link.cnt x.proj.links+aU aK.cnt x.proj.aS)
 have ep:n+x.proj.cnt=n+aU aB.cnt x.proj.acts+aU Link.cnt x.proj.links+aU aK.cnt x.proj.aS+x.proj.aH.length:=by unfold Proj.cnt;omega
 have d1:=ni x.dom.lo (n+x.proj.cnt)
 have d2:=ni x.dom.hi (n+x.proj.cnt+x.dom.lo.length)
 have d3:=Dy x.dom.modes (n+x.proj.cnt+x.dom.lo.length+x.dom.hi.length)
 have ed:n+x.proj.cnt+x.dom.cnt=n+x.proj.cnt+x.dom.lo.length+x.dom.hi.length+aU (fun x=>(x.length:Int)) x.dom.modes:=by unfold Dom.cnt;omega
 have ee:(ak yA x.cellsOf n).1=(ak jm x.proj.cellsOf n).1++(ak lH x.dom.cellsOf (n+x.proj.cnt)).1++[.sl (ah (ak bM) (x.decs.map Lit.av) (n+x.proj.cnt+x.dom.cnt)).1,.sl (ah (ak iG) (x.lines.map Lin.av) (n+x.proj.cnt+x.dom.cnt+3*x.decs.length)).1]:=by
  simp only [ak,yA,jm,lH,List.set,List.getElem?_cons_zero,List.getElem?_cons_succ,p1,p2,p3,p4, <- ep,d1,d2,d3, <- ed,e3,List.cons_append,List.nil_append]
 rw [ee]
 rw [e3] at H3
 rw [e4] at H4
 have g1:(ak jm x.proj.cellsOf n).1= [i64 x.proj.dead,.sl (ah (ak aI) (x.proj.acts.map aB.av) n).1,.sl (ah (ak bQ) (x.proj.links.map Link.av) (n+aU aB.cnt x.proj.acts)).1,.sl (ah (ak aR) (x.proj.aS.map aK.av) (n+aU aB.cnt x.proj.acts+aU Link.cnt x.proj.links)).1,.sl (ah (ak aP) (x.proj.aH.map i64) (n+aU aB.cnt x.proj.acts+aU Link.cnt x.proj.links+aU aK.cnt x.proj.aS)).1]:=by
  simp only [ak,jm,List.set,List.getElem?_cons_zero,List.getElem?_cons_succ,p1,p2,p3]
 have g2:(ak lH x.dom.cellsOf (n+x.proj.cnt)).1= [.sl (ah (ak aP) (x.dom.lo.map i64) (n+x.proj.cnt)).1,.sl (ah (ak aP) (x.dom.hi.map i64) (n+x.proj.cnt+x.dom.lo.length)).1,.sl (ah (ak dO) (x.dom.modes.map ints) (n+x.proj.cnt+x.dom.lo.length+x.dom.hi.length)).1]:=by
  simp only [ak,lH,List.set,List.getElem?_cons_zero,List.getElem?_cons_succ,d1,d2]
 rw [g1] at H1 ⊢
 rw [g2] at H2 ⊢
 simp only [List.cons_append,List.nil_append]
 (repeat' ((conv=>whnf);first|with_reducible refine Br.no (decide_eq_false (by omega)) ?_|refine gA ?_|refine gC H1 ?_|refine gC H2 ?_|refine gC H3 ?_|refine gC H4 ?_|intro _))
 refine⟨?_,rfl,trivial⟩
 exact congrArg (AV.int .i64) (by omega)
open Go.Proofs
abbrev yT.cnt (x:yT):Int:=x.log.cnt+x.sched.cn
theorem yT.bE (x:yT):0<=x.cnt:=by
 have h1:=x.log.bE
 have h2:=x.sched.afJ
 unfold yT.cnt;omega
theorem afk (x:yT):x.av.md false=true:=by
 simp only [AV.md,AV.mds]
 exact fB rfl (fB (mdS Ym x.log.proj.acts) (fB (mdS abk x.log.proj.links) (fB (mdS Yn x.log.proj.aS) (fB (pK x.log.proj.aH) (fB (pK x.log.dom.lo) (fB (pK x.log.dom.hi) (fB (mdS pK x.log.dom.modes) (fB (Vt x.log.decs) (fB (mdS aeg x.log.lines) (fB (pK x.sched.starts) (fB (pK x.sched.modes) rfl)))))))))))
theorem qb (x:yT):Con 8 [.d x.av,.d x.av] (.d (.bool true)):=by
 refine con Tryz.func8 rfl rfl Tryz.call8 rfl fun hwf=>?_
 (repeat' ((conv=>whnf);first|(with_reducible first|refine Br.yes (beq_self_eq_true _) ?_|refine Br.yes (decide_eq_true rfl) ?_)|refine gA ?_|refine gC (Qz x.log) ?_|refine gC (Nf x.sched) ?_|intro _))
 exact fv
theorem aen (x:yT) (k:Int):(ak fQ x.cellsOf k).2=k+x.cnt:=by
 have he:x.cnt=aU aB.cnt x.log.proj.acts+aU Link.cnt x.log.proj.links+aU aK.cnt x.log.proj.aS+x.log.proj.aH.length+(x.log.dom.lo.length+x.log.dom.hi.length+aU (fun x=>(x.length:Int)) x.log.dom.modes)+3*x.log.decs.length+aU Lin.cnt x.log.lines+x.sched.starts.length+x.sched.modes.length:=by
  have:=uM x.log.decs
  unfold yT.cnt Lg.cnt Proj.cnt Dom.cnt bB.cn;omega
 simp only [ak,fQ,List.set,List.getElem?_cons_zero,List.getElem?_cons_succ,Ep,JO,Er,ni,Dy,Nq,VQ]
 omega
theorem afl (x:yT):okC sw x.cellsOf:=⟨_,_,rfl,_,_,rfl,YG _,_,_,rfl,abx _,_,_,rfl,YH _,_,_,rfl,tO _,_,_,rfl,tO _,_,_,rfl,tO _,_,_,rfl,VR _,_,_,rfl,aai _,_,_,rfl,aek _,_,_,rfl,tO _,_,_,rfl,tO _,_,_,rfl,_,_,rfl,_,_,rfl,rfl⟩
theorem Bj (x:yT) (n:Int) (hn:0<=n/\n+x.cnt<=4611686018427387904):Con 12 [.d (.agg (ak fQ x.cellsOf n).1),.d (i64 n)] (.d (i64 (n+x.cnt))):=by
 refine con Tryz.func12 rfl rfl Tryz.call12 rfl fun hwf=>?_
 have h1:=x.log.bE
 have h2:=x.sched.afJ
 have he:x.cnt=x.log.cnt+x.sched.cn:=rfl
 have H1:=RF x.log n (by omega)
 have H2:=GX x.sched (n+x.log.cnt) (by omega)
 have q1:=Ep x.log.proj.acts n
 have q2:=JO x.log.proj.links (n+aU aB.cnt x.log.proj.acts)
 have q3:=Er x.log.proj.aS (n+aU aB.cnt x.log.proj.acts+aU Link.cnt x.log.proj.links)
 generalize hk3:n+aU aB.cnt x.log.proj.acts+aU Link.cnt x.log.proj.links+aU aK.cnt x.log.proj.aS=k3 at q3
 have q4:=ni x.log.proj.aH k3
 have q5:=ni x.log.dom.lo (k3+x.log.proj.aH.length)
 have q6:=ni x.log.dom.hi (k3+x.log.proj.aH.length+x.log.dom.lo.length)
 have q7:=Dy x.log.dom.modes (k3+x.log.proj.aH.length+x.log.dom.lo.length+x.log.dom.hi.length)
 generalize hk7:k3+x.log.proj.aH.length+x.log.dom.lo.length+x.log.dom.hi.length+aU (fun x=>(x.length:Int)) x.log.dom.modes=k7 at q7
 have q8:=Nq x.log.decs k7
 have q9:=VQ x.log.lines (k7+3*x.log.decs.length)
 have hraw:k7+3*x.log.decs.length+aU Lin.cnt x.log.lines=n+x.log.cnt:=by
  have:=uM x.log.decs
  unfold Lg.cnt Proj.cnt Dom.cnt;omega
 rw [hraw] at q9
 have q10:=ni x.sched.starts (n+x.log.cnt)
 have ee:(ak fQ x.cellsOf n).1=(ak yA x.log.cellsOf n).1++((ak iH x.sched.cellsOf (n+x.log.cnt)).1++[.bool x.found,i64 x.visits,.bool x.stopped]):=by
  simp only [ak,fQ,yA,iH,List.set,List.getElem?_cons_zero,List.getElem?_cons_succ,q1,q2,q3,q4,q5,q6,q7,q8,q9,q10,List.cons_append,List.nil_append]
 have g1:(ak yA x.log.cellsOf n).1= [i64 x.log.proj.dead,.sl (ah (ak aI) (x.log.proj.acts.map aB.av) n).1,.sl (ah (ak bQ) (x.log.proj.links.map Link.av) (n+aU aB.cnt x.log.proj.acts)).1,.sl (ah (ak aR) (x.log.proj.aS.map aK.av) (n+aU aB.cnt x.log.proj.acts+aU Link.cnt x.log.proj.links)).1,.sl (ah (ak aP) (x.log.proj.aH.map i64) k3).1,.sl (ah (ak aP) (x.log.dom.lo.map i64) (k3+x.log.proj.aH.length)).1,.sl (ah (ak aP) (x.log.dom.hi.map i64) (k3+x.log.proj.aH.length+x.log.dom.lo.length)).1,.sl (ah (ak dO) (x.log.dom.modes.map ints) (k3+x.log.proj.aH.length+x.log.dom.lo.length+x.log.dom.hi.length)).1,.sl (ah (ak bM) (x.log.decs.map Lit.av) k7).1,.sl (ah (ak iG) (x.log.lines.map Lin.av) (k7+3*x.log.decs.length)).1]:=by
  simp only [ak,yA,List.set,List.getElem?_cons_zero,List.getElem?_cons_succ,q1,q2,q3,q4,q5,q6,q7,q8]
 have g2:(ak iH x.sched.cellsOf (n+x.log.cnt)).1= [.sl (ah (ak aP) (x.sched.starts.map i64) (n+x.log.cnt)).1,.sl (ah (ak aP) (x.sched.modes.map i64) (n+x.log.cnt+x.sched.starts.length)).1]:=by
  simp only [ak,iH,List.set,List.getElem?_cons_zero,List.getElem?_cons_succ,q10]
 rw [ee]
 rw [g1] at H1 ⊢
 rw [g2] at H2 ⊢
 simp only [List.cons_append,List.nil_append]
 (repeat' ((conv=>whnf);first|with_reducible refine Br.no (decide_eq_false (by omega)) ?_|refine gA ?_|refine gC H1 ?_|refine gC H2 ?_|intro _))
 refine⟨?_,rfl,trivial⟩
 exact congrArg (AV.int .i64) (by omega)
end Go.Proofs.YthegbfgeochckaaGreat.Abs
namespace Go.Proofs.YthegbfgeochckaaGreat.Abs
open Go.Proofs Go.RowKit
attribute [local irreducible] dS eu aO status litValue single choice iX dU vis
theorem YJ {p:Proj} {a:List Lin} {l:Lin} (h:aO p a l=0):l.clause.length<=24/\a.length < 300:=by
 refine⟨?_,pI h⟩
 unfold aO at h
 split at h
 ·rename_i hn
  have h2:=hn.2.1
  simp only [Kn,ru,Bool.and_eq_true,decide_eq_true_eq] at h2
  have:=h2.1.2
  omega
 ·cases h
theorem xA {α:Type} {f:α->Int}:∀(a b:List α),aU f (a++b)=aU f a+aU f b
 |[],b=>by simp [aU]
 |x::a,b=>by simp only [List.cons_append,aU,xA a b];omega
theorem Bl {p:Proj} {a:List Lin} {l:Lin} (h:aO p a l=0):l.cnt<=80:=by
 have h1:=(YJ h).1
 have e1:=uM l.clause
 have e4:l.cnt=5+aU Lit.cnt l.clause:=rfl
 omega
abbrev lc (l:List Lin):Int:=aU Lin.cnt l
theorem VW {g h:Lg} {s:Infer} (e:qI g s=some h):h.cnt<=g.cnt+80/\lc h.lines<=lc g.lines+80:=by
 unfold qI at e
 split at e
 ·rename_i hk
  cases e
  simp only [Jr,Bool.and_eq_true,decide_eq_true_eq] at hk
  have h1:=Bl hk.1
  have h2:=VT g.dom s.lit
  have e3:aU Lin.cnt (g.lines++[rR s])=aU Lin.cnt g.lines+(rR s).cnt:=by rw [xA];simp [aU]
  unfold AP lc
  refine⟨?_,by dsimp only;omega⟩
  unfold Lg.cnt
  dsimp only
  omega
 ·cases e
theorem Bn:∀(f n:Nat) (g:Lg),(dU f n g).1.cnt<=g.cnt+80*f/\lc (dU f n g).1.lines<=lc g.lines+80*f
 |0,n,g=>by rw [yh];simp
 |f+1,n,g=>by
  rw [uK]
  cases hs:ug g with
  |none=>dsimp only;push_cast;omega
  |some h=>
   dsimp only
   have h1:=Bn f (n+1) h
   have h2:h.cnt<=g.cnt+80/\lc h.lines<=lc g.lines+80:=by
    unfold ug at hs
    split at hs
    ·cases hs
    ·exact VW hs
   push_cast;omega
theorem RG {h k:Lg} (e:iX h=some k):lc k.lines<=lc h.lines+160:=by
 rw [tF] at e
 split at e
 ·cases e
 ·split at e
  ·rename_i hk
   cases e
   have h1:=Bl hk.1
   have h2:=Bl hk.2
   unfold lc
   rw [xA,xA]
   simp only [aU]
   omega
  ·cases e
theorem aaj (h:Lg) (ls:List Lin) (v:Int):lc (jZ h ls v).lines<=lc ls+80:=by
 unfold jZ
 split
 ·rename_i hk
  have h1:=Bl hk
  dsimp only
  unfold lc
  rw [xA]
  simp only [aU];omega
 ·dsimp only;omega
theorem YK {g n:Lg} {l:Lit} (h:takeLog g l=some n):n.lines=g.lines:=(nK h).2.2.2
theorem aby (most:Int):∀(f:Nat) (v:Int) (g:Lg),v<=most->lc (vis most f v g).lines<=lc g.lines+3600*((vis most f v g).visits - v)
 |0,v,g,hv=>by rw [vis];dsimp only;omega
 |f+1,v,g,hv=>by
  by_cases h0:v=most
  ·subst h0;rw [Dq];dsimp only;omega
  rw [zL _ _ _ _ h0]
  have hr:=(Bn 40 0 g).2
  generalize (dU 40 0 g).1=h at hr ⊢
  have hrest:∀(xs:List Lit) (ls:List Lin) (w:Int),w<=most->lc (fU h (fun v g=>vis most f v g) xs ls w).lines<=lc ls+80+3600*((fU h (fun v g=>vis most f v g) xs ls w).visits - w):=by
   intro xs
   induction xs with
   |nil=>
    intro ls w hw
    rw [Ma]
    have h1:=aaj h ls w
    have h2:=(JB h ls w most hw).1
    omega
   |cons x xs ih=>
    intro ls w hw
    have hs:lc (eB h (fun v g=>vis most f v g) x ls w).lines<=lc ls+3600*((eB h (fun v g=>vis most f v g) x ls w).visits - w)/\w<=(eB h (fun v g=>vis most f v g) x ls w).visits/\(eB h (fun v g=>vis most f v g) x ls w).visits<=most:=by
     cases ht:takeLog (bC h ls) x with
     |none=>rw [mY ht];dsimp only;omega
     |some n=>
      rw [mZ ht]
      have h1:=aby most f w n hw
      rw [YK ht] at h1
      have h2:=mF most f w n hw
      exact⟨h1,h2⟩
    rcases hw2:eB h (fun v g=>vis most f v g) x ls w with⟨a,b,_|c,_|_⟩
    ·rw [hw2] at hs
     rw [oJ hw2]
     dsimp only at hs
     have h1:=ih a b hs.2.2
     have h2:=(uj (h:=h) (fun v g hv=>mF most f v g hv) xs a b hs.2.2).1
     omega
    all_goals
     rw [iL hw2 (by simp)]
     rw [hw2] at hs
     omega
  unfold kr
  split
  ·rename_i k hk
   have:=RG hk
   dsimp only;omega
  ·split
   ·dsimp only;omega
   ·split
    ·dsimp only;omega
    ·rename_i l _
     have h1:=hrest [l,negate l] h.lines (v+1) (by omega)
     have h2:=(uj (h:=h) (fun v g hv=>mF most f v g hv) [l,negate l] h.lines (v+1) (show v+1<=most by omega)).1
     refine Int.le_trans h1 ?_
     omega
theorem VX {p:Proj} {s:bB} (h:tT p s=true):s.cn<=12:=by
 simp only [tT,Bool.and_eq_true] at h
 have h1:=eT h.1
 have hna:=(bX h1.1).Cy
 unfold bB.cn
 omega
theorem TB (most:Int):∀(f:Nat) (v:Int) (g:Lg) (s:bB),(vis most f v g).found=some s->s.cn<=12
 |0,v,g,s,h=>by rw [vis] at h;cases h
 |f+1,v,g,s,h=>by
  by_cases h0:v=most
  ·subst h0;rw [Dq] at h;cases h
  rw [zL _ _ _ _ h0] at h
  generalize (dU 40 0 g).1=l at h
  have hrest:∀(xs:List Lit) (ls:List Lin) (w:Int),(fU l (fun v g=>vis most f v g) xs ls w).found=some s->s.cn<=12:=by
   intro xs
   induction xs with
   |nil=>
    intro ls w hh
    rw [Ma] at hh
    unfold jZ at hh
    split at hh<;>cases hh
   |cons x xs ih=>
    intro ls w hh
    have hs:∀t,(eB l (fun v g=>vis most f v g) x ls w).found=some t->t.cn<=12:=by
     intro t ht
     cases hk:takeLog (bC l ls) x with
     |none=>rw [mY hk] at ht;cases ht
     |some n=>rw [mZ hk] at ht;exact TB most f w n t ht
    rcases hw2:eB l (fun v g=>vis most f v g) x ls w with⟨a,b,_|c,_|_⟩
    ·rw [oJ hw2] at hh
     exact ih a b hh
    all_goals
     rw [iL hw2 (by simp)] at hh
     rw [hw2] at hs
     exact hs s hh
  unfold kr at h
  split at h
  ·cases h
  ·split at h
   ·rename_i t ht
    cases h
    exact VX (vP ht).2
   ·split at h
    ·cases h
    ·exact hrest _ _ _ h
theorem RH (h:Lg) (ls:List Lin):(bC h ls).cnt=h.cnt+lc ls - lc h.lines:=by
 unfold bC Lg.cnt lc
 dsimp only
 omega
theorem VY (g:Lg) (most:Int):(rY g most).cnt<=2*g.cnt+230000:=by
 have h0:=g.bE
 unfold rY
 split
 ·rename_i hk
  have hb:=within_iff.1 hk.2
  have h1:=(Bn 40 0 g)
  have h2:=aby most (most.toNat+1) 0 g (by omega)
  have h3:=(mF most (most.toNat+1) 0 g (by omega)).2
  have h4:=TB most (most.toNat+1) 0 g
  have h5:0<=lc (dU 40 0 g).1.lines:=aX (f:=Lin.cnt) (fun x _=>x.bE)
  have h6:lc g.lines<=g.cnt:=by
   have e1:=g.proj.bE
   have e2:=g.dom.bE
   have e3:=aX (f:=Lit.cnt) (l:=g.decs) (fun x _=>x.bE)
   unfold lc Lg.cnt;omega
  generalize vis most (most.toNat+1) 0 g=w at h2 h3 h4 ⊢
  have h8:(w.found.getD ⟨[],[]⟩).cn<=12:=by
   cases hf:w.found with
   |none=>decide
   |some s=>exact h4 s hf
  unfold aed yT.cnt
  dsimp only
  rw [RH]
  omega
 ·have:yT.cnt ⟨aaL,⟨[],[]⟩,false,0,false⟩=0:=rfl
  omega
theorem aak (g:Lg) (most:Int) (hp:g.proj.fine) (z0:0<=JN g 1048576) (x:yT) (hx:rY g most=x):
  aaU Tryz.prog tab lim Tryz.f3 (Tryz.f3.body.getD .skip) 5 1 3 3 [g.av,i64 most] [(1,false,i64 most),(2,true,g.av)] [(6,true,x.av)] [(7,true,g.av)] [] 8 10
   [.data (i64 x.log.proj.dead),.own 270002 0,.own 270003 0,.own 270004 0,.own 270005 0,.own 270006 0,.own 270007 0,.own 270008 0,.own 270009 0,.own 270010 0,.own 270011 0,.own 270012 0,.data (.bool x.found),.data (i64 x.visits),.data (.bool x.stopped)] [(270002,165,x.log.proj.acts.map aB.av,2),(270003,173,x.log.proj.links.map Link.av,2),(270004,170,x.log.proj.aS.map aK.av,2),(270005,3,x.log.proj.aH.map i64,2),(270006,3,x.log.dom.lo.map i64,2),(270007,3,x.log.dom.hi.map i64,2),(270008,25,x.log.dom.modes.map ints,2),(270009,102,x.log.decs.map Lit.av,2),(270010,130,x.log.lines.map Lin.av,2),(270011,3,x.sched.starts.map i64,2),(270012,3,x.sched.modes.map i64,2)]
   x.cellsOf (ak fQ x.cellsOf 1).1 (1+x.cnt) 11 49 (ak fQ) (okC sw):=by
 have s0:Sz 1048576:=by unfold Sz;omega
 have m0:=afj g _ z0
 have c0:=g.bE
 have c1:=x.bE
 have hc:x.cnt<=2*g.cnt+230000:=by have:=VY g most;rw [hx] at this;omega
 have hI:=Yh g most hp
 have hS:=Yi g most hp
 rw [hx] at hI
 rw [aec] at hI
 rw [hx] at hS
 have hM:=aen x 1
 refine⟨⟨by simp,by simp⟩,⟨_,.data rfl (.own rfl (by decide) (.own rfl (by decide) (.own rfl (by decide) (.own rfl (by decide) (.own rfl (by decide) (.own rfl (by decide) (.own rfl (by decide) (.own rfl (by decide) (.own rfl (by decide) (.own rfl (by decide) (.own rfl (by decide) (.data rfl (.data rfl (.data rfl .nil))))))))))))))⟩,⟨by rfl,by rfl,by rfl⟩,?_,by simp [AV.scalar],by kernel_rfl,by kernel_rfl,by kernel_rfl,by kernel_rfl,?_,?_,?_,?_,⟨KR,afl x,Prod.ext rfl hM,by omega⟩,?_⟩
 ·intro y hy
  simp only [List.mem_append,List.mem_cons,List.not_mem_nil,or_false] at hy
  rcases hy with (rfl|rfl)|rfl
  ·rfl
  ·exact ais g
  ·exact afk x
 ·(repeat' ((conv=>whnf);first|with_reducible refine Br.no (decide_eq_false (by omega)) ?_|refine gA ?_|refine gC (Qy g _ s0 hp) ?_|refine gC (GY g) ?_|refine gC hS ?_|intro _))
  (refine And.intro rfl ?_<;>(repeat' ((conv=>whnf)<;>(first|exact trivial|exact rfl|with_reducible refine And.intro ?_ ?_))))
 ·(repeat' ((conv=>whnf);first|refine gA ?_|refine gC (YI g) ?_|intro _))
  (refine And.intro rfl ?_<;>(repeat' ((conv=>whnf)<;>(first|exact trivial|exact rfl|with_reducible refine And.intro ?_ ?_))))
 ·(repeat' ((conv=>whnf);first|with_reducible refine Br.no rfl ?_|refine gA ?_|refine gC (GY g) ?_|refine gC hI ?_|refine gC (qb x) ?_|refine gC (Qz g) ?_|intro _))
  (refine And.intro rfl ?_<;>(repeat' ((conv=>whnf)<;>(first|exact trivial|exact rfl|with_reducible refine And.intro ?_ ?_))))
 ·rw [show ([(7,true,g.av)]:List Fact).map toS= [(7,.eF g.sh)] from by
   simp only [List.map_cons,List.map_nil,toS,cond_true]
   rw [Lg.iO]]
  (repeat' ((conv=>whnf);first|(with_reducible first|refine Br.no (decide_eq_false (by omega)) ?_|refine Br.no rfl ?_)|refine gA ?_|refine gC (VU g 1 (by omega)) ?_|refine gC (qb x) ?_|intro _))
  (refine And.intro rfl ?_<;>(repeat' ((conv=>whnf)<;>(first|exact trivial|exact rfl|with_reducible refine And.intro ?_ ?_))))
 ·have hH:=Bj x 1 (by omega)
  refine⟨_,_,_,_,47,48,49,_,rfl,⟨⟨_,rfl,rfl,rfl,rfl⟩,⟨_,_,_,_,_,rfl,rfl,rfl,rfl,rfl,rfl,rfl,rfl,rfl,rfl,rfl,rfl,rfl,rfl,rfl⟩⟩,by decide,by simp,by decide,by kernel_rfl,?_⟩
  (repeat' ((conv=>whnf);first|(with_reducible first|refine Br.yes (decide_eq_true rfl) ?_|refine Br.no (decide_eq_false (by omega)) ?_|refine Br.no rfl ?_)|refine gA ?_|refine gC hH ?_|refine gC (GY g) ?_|refine gC hI ?_|refine gC (qb x) ?_|intro _))
  all_goals exact⟨rfl,rfl,trivial⟩
theorem RI (g:Lg) (most:Int) (hp:g.proj.fine) (z:¬ 0<=JN g 1048576):
  Con 3 [.d g.av,.d (i64 most)] (.d (.bool true)):=by
 refine con Tryz.func3 rfl rfl Tryz.call3 rfl fun hwf=>?_
 have s0:Sz 1048576:=by unfold Sz;omega
 (repeat' ((conv=>whnf);first|with_reducible refine Br.yes (decide_eq_true (by omega)) ?_|refine gA ?_|refine gC (Qy g _ s0 hp) ?_|intro _))
 exact⟨rfl,rfl,trivial⟩
theorem Lc (g:Lg) (most:Int) (hp:g.proj.fine) {w:World} {vs:List Value} (hargs:bq (aQ (fun b=>b < w.heap.size) w lim) [g.av,i64 most] vs):
  Calls Tryz.prog 3 vs.toArray w fun e w'=>e= .returned (.bool true)/\Below w.heap.size w w':=by
 by_cases z:0<=JN g 1048576
 ·exact ZI uz (by decide) (by decide) mixed Tryz.func3 rfl (aak g most hp z _ rfl) (by simp only [List.length_cons,List.length_nil];decide) hargs
 ·exact Vb (args:=[g.av,i64 most]) (RI g most hp z) hargs
end Go.Proofs.YthegbfgeochckaaGreat.Abs
