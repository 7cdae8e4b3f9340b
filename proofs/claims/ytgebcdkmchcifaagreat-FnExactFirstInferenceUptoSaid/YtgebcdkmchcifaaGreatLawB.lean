/- Laws of functions that hand back a struct whose cells are numbers or slices of one's own. No statement of a claim. -/
import Derived.Test.YtgebcdkmchcifaaGreatLayB
set_option linter.all false
namespace Go.Proofs.YtgebcdkmchcifaaGreat.Abs
open Go.RowKit

/-- Cells of a box that were handed back: numbers, or slices of one's own. -/
inductive NewCells : List SV → List AV → Prop
  | nil : NewCells [] []
  | data {x : AV} {cs : List SV} {xs : List AV} (h : x.scalar = true) (k : NewCells cs xs) : NewCells (.data x :: cs) (x :: xs)
  | fr {l : List AV} {cs : List SV} {xs : List AV} (h : AV.flats l = true) (k : NewCells cs xs) : NewCells (.fr l :: cs) (.sl l :: xs)
section
variable {T : Nat → Ty} {L : Nat} {w0 : World} {I0 : Bs}
theorem rep1_scal {I I' : Nat → Prop} {w : World} {x : AV} {u : Value} (hs : x.scalar = true) (h : RepV I w L x u) : Rep1 I' w L x u := by
  cases x <;> simp_all [AV.scalar, RepV, Rep1]
theorem repV_rep1 {I : Nat → Prop} {w : World} {l : List AV} {u : Value} (h : RepV I w L (.sl l) u) : Rep1 I w L (.sl l) u := by simpa only [RepV] using h
theorem Gam.box_new {s : St} {a : Act} {w : World} {c : Cx} (h : Gam T L w0 I0 s a w c) {d : Nat} {cells : List SV} {xs : List AV} (hs : s.get d = .box d 0 0) (hm : s.mem d = some (0, cells)) (hc : NewCells cells xs) (hI0 : ∀ b, I0 b → b < w0.heap.size) :
    ∃ b, a.tmps.getD d undef = .pointer (some ⟨b, 0, none⟩) ∧ w0.heap.size ≤ b ∧ b < w.heap.size ∧ Thaw w b ∧ RepC (fun k => (w0.heap.size ≤ k ∧ Thaw w k ∧ k < w.heap.size) ∧ k ≠ b) w L b xs 0 := by
  obtain ⟨b, cs, E, k1, k2, k3, k4, k5⟩ := h.mems d 0 _ hm
  have hv := h.slots d
  rw [hs] at hv
  simp only [RepS] at hv
  obtain ⟨g', cells', m1, _, m3⟩ := hv
  rw [hm] at m1; cases m1
  obtain ⟨b', n1, n2⟩ := m3 rfl
  rw [k1] at n1; cases n1
  have hb := h.wlt b (by simp [k2])
  refine ⟨b, n2, hb.1, hb.2, fun o => by simp [World.frozen?, k3], ?_⟩
  have hcell : ∀ j u, cs[j]? = some u → w.cell? ⟨b, j, none⟩ = some u := fun j u hu => by
    rw [cell_of_row w b j _ _ _ k3]; simpa using hu
  have go : ∀ (cells : List SV) (xs : List AV), NewCells cells xs → ∀ (us : List Value) (o : Nat), RepSs T c s.tok s.mem w L cells us → (∀ j u, us[j]? = some u → w.cell? ⟨b, o + j, none⟩ = some u) → RepC (fun k => (w0.heap.size ≤ k ∧ Thaw w k ∧ k < w.heap.size) ∧ k ≠ b) w L b xs o := by
    intro cells xs hn
    induction hn with
    | nil => intro us o _ _; simp [RepC]
    | data hsc _ ih =>
      intro us o hr hcl
      simp only [RepSs] at hr
      obtain ⟨u, us', rfl, h1, h2⟩ := hr
      simp only [RepS] at h1
      simp only [RepC]
      refine ⟨⟨u, by simpa using hcl 0 u rfl, rep1_scal hsc h1⟩, ih us' (o + 1) h2 fun j v hj => ?_⟩
      have := hcl (j + 1) v (by simpa using hj)
      rwa [show o + (j + 1) = o + 1 + j by omega] at this
    | fr hfl _ ih =>
      intro us o hr hcl
      simp only [RepSs] at hr
      obtain ⟨u, us', rfl, h1, h2⟩ := hr
      simp only [RepS] at h1
      simp only [RepC]
      refine ⟨⟨u, by simpa using hcl 0 u rfl, repV_rep1 (repV_flat hfl h1.1 fun k hk hi => ?_)⟩, ih us' (o + 1) h2 fun j v hj => ?_⟩
      · have hge := h1.2 k hk
        rw [h.ob] at hge
        refine ⟨⟨hge, ?_, h.ilt k hi⟩, fun e => ?_⟩
        · rcases h.inew k hi with hi' | hi'
          · have := hI0 k hi'; omega
          · exact hi'.2
        · have := h.iwho k hi
          rw [e, k2] at this; cases this
      · have := hcl (j + 1) v (by simpa using hj)
        rwa [show o + (j + 1) = o + 1 + j by omega] at this
  exact go _ _ hc cs 0 k4 (fun j u hu => by rw [Nat.zero_add]; exact hcell j u hu)
end
section
variable {P : Program} {T : Nat → Ty} {L : Nat} {w0 : World} {I0 : Bs}
theorem repC_of {I : Nat → Prop} {w : World} {b : Nat} : ∀ {l : List AV} {us : List Value} {o : Nat}, All2 (Rep1 I w L) l us → (∀ j u, us[j]? = some u → w.cell? ⟨b, o + j, none⟩ = some u) → RepC I w L b l o
  | [], _, _, _, _ => by simp [RepC]
  | x :: l, [], _, h, _ => h.elim
  | x :: l, u :: us, o, h, hc => by
    simp only [RepC]
    refine ⟨⟨u, by simpa using hc 0 u rfl, h.1⟩, repC_of h.2 fun j v hj => ?_⟩
    have := hc (j + 1) v (by simpa using hj)
    rwa [show o + (j + 1) = o + 1 + j by omega] at this
/-- What mark.. does to a struct: it lays its numbers into the slices, and writes into nothing else that was there. -/
def MarksBox (P : Program) (L f : Nat) (xs xs' : List AV) (M : Int) : Prop :=
  (∀ (vs : Array Value) (w : World), (callFunc f vs).run P w = .ok (.enter f vs) w) ∧
  ∀ (G : Nat → Prop) (w : World) (v : Value), (∀ b, G b → b < w.heap.size ∧ Thaw w b) → RepV G w L (.agg xs) v → Calls P f #[v, .int .i64 1] w fun e w' => e = .returned (.int .i64 M) ∧
    w'.os = w.os ∧ w'.tape = w.tape ∧ w'.output = w.output ∧ w.heap.size ≤ w'.heap.size ∧ (∀ k, k < w.heap.size → ¬ G k → w'.heap[k]? = w.heap[k]?) ∧ RepV G w' L (.agg xs') v
/-- 'm := 1; m = mark(g, m)' where g lies in a box. -/
structure MarkOpsB (E : Nat) (ops1 ops2 : Array Oper) (f ig im t2 t3 t4 : Nat) : Prop where
  l1 : ∃ o1, ops1.toList = [o1] ∧ o1.guard = none ∧ o1.op = .assign (.const (.int .i64 1)) ∧ o1.dst = some im
  l2 : ∃ o2 o3 o4 o5 c, ops2.toList = [o2, o3, o4, o5] ∧ o2.guard = none ∧ o3.guard = none ∧ o4.guard = none ∧ o5.guard = none ∧
    o2.op = .load E (.tmp ig) ∧ o2.dst = some t2 ∧ o3.op = .move (.tmp im) ∧ o3.dst = some t3 ∧ o4.op = .call c ∧ c.callee = .value (.func f) ∧ c.args = #[.tmp t2, .tmp t3] ∧ o4.dst = some t4 ∧ o5.op = .assign (.tmp t4) ∧ o5.dst = some im
theorem mark_stepB {E : Nat} {vl : Value} {ops1 ops2 : Array Oper} {f ig im t2 t3 t4 id1 id2 : Nat} (h : MarkOpsB E ops1 ops2 f ig im t2 t3 t4) (hd : im ≠ ig ∧ t2 ≠ t3 ∧ t2 ≠ im ∧ t3 ≠ im ∧ t4 ≠ im) {S : List Nat} (hS : ∀ i ∈ S, i ≠ im ∧ i ≠ t2 ∧ i ≠ t3 ∧ i ≠ t4)
    {a : Act} {w : World} (hlt : im < a.tmps.size ∧ t2 < a.tmps.size ∧ t3 < a.tmps.size ∧ t4 < a.tmps.size) {code : Code} {Q : Exit → Act → World → Prop} {R : Int → World → Prop} (hcf : ∀ (vs : Array Value) (w : World), (callFunc f vs).run P w = .ok (.enter f vs) w)
    (hld : (Instr.loadAt E (a.tmps.getD ig undef)).run P w = .ok vl w) (hcall : Calls P f #[vl, .int .i64 1] w fun e w' => ∃ M, e = .returned (.int .i64 M) ∧ R M w')
    (hN : ∀ a' w' M, R M w' → a'.tmps.getD im undef = .int .i64 M → Held S a a' → a'.defers = a.defers → a'.tmps.size = a.tmps.size → code.wp P Q a' w') :
    (Code.seq (.region id1 ops1 false) (.seq (.region id2 ops2 false) code)).wp P Q a w := by
  obtain ⟨⟨o1, e1, g1, p1, d1⟩, o2, o3, o4, o5, c, e2, g2, g3, g4, g5, p2, d2, p3, d3, p4, pc, pa, d4, p5, d5⟩ := h
  refine wp_seq (wp_region_list ?_)
  rw [e1]
  simp only [wpList]
  rw [if_pos (by simp [Region.wanted, g1])]
  refine .inl (wp_val (v := .int .i64 1) (w' := w) (by simp [execOp, p1, Act.eval]) ?_)
  simp only [Exit.then]
  rw [d1]
  generalize ha1 : a.put (some im) (.int .i64 1) = a1
  have s1 : a1.tmps.size = a.tmps.size := by rw [← ha1, put_size]
  have f1 : a1.defers = a.defers := by rw [← ha1, put_defers]
  have v1 : a1.tmps.getD im undef = .int .i64 1 := by rw [← ha1, put_get, if_pos ⟨rfl, hlt.1⟩]
  have vg : a1.tmps.getD ig undef = a.tmps.getD ig undef := by rw [← ha1, put_get, if_neg (fun e => hd.1 e.1.symm)]
  have k1 : Held S a a1 := fun i hi => by rw [← ha1, put_get, if_neg (fun e => (hS i hi).1 e.1)]
  refine wp_seq (wp_region_list ?_)
  rw [e2]
  simp only [wpList]
  rw [if_pos (by simp [Region.wanted, g2])]
  refine .inl (wp_val (v := vl) (w' := w) (by have h1 := hld; have h2 := vg; simp only [Array.getD_eq_getD_getElem?] at h1 h2; simp [execOp, p2, Act.eval, h2, h1]) ?_)
  rw [d2]
  generalize ha2 : a1.put (some t2) vl = a2
  have s2 : a2.tmps.size = a.tmps.size := by rw [← ha2, put_size, s1]
  have f2 : a2.defers = a.defers := by rw [← ha2, put_defers, f1]
  have v2 : a2.tmps.getD t2 undef = vl := by rw [← ha2, put_get, if_pos ⟨rfl, by rw [s1]; exact hlt.2.1⟩]
  have v2m : a2.tmps.getD im undef = .int .i64 1 := by rw [← ha2, put_get, if_neg (fun e => hd.2.2.1 e.1.symm), v1]
  have k2 : Held S a a2 := fun i hi => by rw [← ha2, put_get, if_neg (fun e => (hS i hi).2.1 e.1)]; exact k1 i hi
  rw [if_pos (by simp [Region.wanted, g3])]
  refine .inl (wp_val (v := a2.tmps.getD im undef) (w' := w) (by simp [execOp, p3, Act.eval]) ?_)
  rw [d3, v2m]
  generalize ha3 : a2.put (some t3) (.int .i64 1) = a3
  have s3 : a3.tmps.size = a.tmps.size := by rw [← ha3, put_size, s2]
  have f3 : a3.defers = a.defers := by rw [← ha3, put_defers, f2]
  have v3 : a3.tmps.getD t3 undef = .int .i64 1 := by rw [← ha3, put_get, if_pos ⟨rfl, by rw [s2]; exact hlt.2.2.1⟩]
  have v32 : a3.tmps.getD t2 undef = vl := by rw [← ha3, put_get, if_neg (fun e => hd.2.1 e.1), v2]
  have k3 : Held S a a3 := fun i hi => by rw [← ha3, put_get, if_neg (fun e => (hS i hi).2.2.1 e.1)]; exact k2 i hi
  rw [if_pos (by simp [Region.wanted, g4])]
  refine .inl ?_
  unfold Oper.wp
  have hrun : (execOp a3.eval o4).run P w = .ok (.enter f #[vl, .int .i64 1]) w := by
    have : (execOp a3.eval o4).run P w = (callFunc f #[vl, .int .i64 1]).run P w := by
      have hm : c.args.map a3.eval = #[vl, .int .i64 1] := by
        rw [pa, show (#[Operand.tmp t2, .tmp t3]).map a3.eval = #[a3.tmps.getD t2 undef, a3.tmps.getD t3 undef] from by simp [Act.eval], v3, v32]
      rw [← hm]
      simp only [execOp, p4]
      simp [resolve, pc, Deferred.ofValue, Act.eval, invoke]
    rw [this, hcf]
  rw [hrun]
  simp only [Oper.upon]
  refine hcall.mono ?_
  rintro e w' ⟨M, rfl, hR⟩
  simp only
  rw [d4]
  generalize ha4 : a3.put (some t4) (.int .i64 M) = a4
  have s4 : a4.tmps.size = a.tmps.size := by rw [← ha4, put_size, s3]
  have f4 : a4.defers = a.defers := by rw [← ha4, put_defers, f3]
  have v4 : a4.tmps.getD t4 undef = .int .i64 M := by rw [← ha4, put_get, if_pos ⟨rfl, by rw [s3]; exact hlt.2.2.2⟩]
  have k4 : Held S a a4 := fun i hi => by rw [← ha4, put_get, if_neg (fun e => (hS i hi).2.2.2 e.1)]; exact k3 i hi
  rw [if_pos (by simp [Region.wanted, g5])]
  refine .inl (wp_val (v := a4.tmps.getD t4 undef) (w' := w') (by simp [execOp, p5, Act.eval]) ?_)
  simp only [Exit.then]
  rw [d5, v4]
  refine hN _ w' M hR ?_ ?_ ?_ ?_
  · rw [put_get, if_pos ⟨rfl, by rw [s4]; exact hlt.1⟩]
  · intro i hi; rw [put_get, if_neg (fun e => (hS i hi).1 e.1)]; exact k4 i hi
  · rw [put_defers, f4]
  · rw [put_size, s4]

/-- What is asked of a law's body, phase by phase. 'S': its slots are those of the facts. -/
structure LawBox (P : Program) (T : Nat → Ty) (L : Nat) (fn : Func) (code : Code) (nA nB nC nD : Nat) (args : List AV) (lP lW lX lG : List Fact) (ig im : Nat) (cs : List SV) (xs xs' : List AV) (M : Int) (f E : Nat) : Prop where
  nod : ((lP ++ lW ++ lX ++ lG).map (·.1)).Nodup ∧ ig ∉ (lP ++ lW ++ lX ++ lG).map (·.1)
  cells : NewCells cs xs
  good : (T E).good = true ∧ (T E).agg = true ∧ (T E).size = xs.length
  known : ∀ x ∈ lP ++ lW, x.2.2.md false = true
  sc : ∀ x ∈ lG, x.2.1 = false ∧ x.2.2.scalar = true
  kB : keepsC ((lP ++ lW).map (·.1)) (headC nB (tailC nA code)) = true
  kA : keepsC [] (headC nA code) = true
  kC : keepsC ((lP ++ lW ++ lX).map (·.1)) (headC nC (tailC nB (tailC nA code))) = true
  kD : keepsC (ig :: (lP ++ lW ++ lG).map (·.1)) (headC nD (tailC nC (tailC nB (tailC nA code)))) = true
  pA : awpR T (CallK P T L) L (headC nA code) (PhQ T fn.ntmps ⟨frS (lP ++ lW), frM (lP ++ lW), []⟩ fn.results.toList) ((Fr.mk (entrySlots 0 (args.map AR.d)) [] []).st fn.ntmps)
  pB : awpR T (CallK P T L) L (headC nB (tailC nA code)) (PhQ T fn.ntmps ⟨frS lX, frM lX, []⟩ fn.results.toList) ((Fr.mk (lP.map toO) [] []).st fn.ntmps)
  pC : awpR T (CallK P T L) L (headC nC (tailC nB (tailC nA code))) (PhQ T fn.ntmps ⟨(ig, .box ig 0 0) :: frS lG, (ig, cs) :: frM lG, []⟩ fn.results.toList) ((Fr.mk ((lP ++ lW ++ lX).map toD) [] []).st fn.ntmps)
  pD : awpR T (CallK P T L) L (headC nD (tailC nC (tailC nB (tailC nA code)))) (PhQ T fn.ntmps ⟨[], [], []⟩ fn.results.toList) ((Fr.mk (((ig, true, .agg xs) :: (lW ++ lG)).map toD ++ lX.map toS) [] []).st fn.ntmps)
  marks : MarksBox P L f xs xs' M
  pE : ∃ ops1 ops2 id1 id2 t2 t3 t4 rest, tailC nD (tailC nC (tailC nB (tailC nA code))) = .seq (.region id1 ops1 false) (.seq (.region id2 ops2 false) rest) ∧ MarkOpsB E ops1 ops2 f ig im t2 t3 t4 ∧
    (im ≠ ig ∧ t2 ≠ t3 ∧ t2 ≠ im ∧ t3 ≠ im ∧ t4 ≠ im) ∧ (∀ i ∈ ig :: (lP ++ lW ++ lG).map (·.1), i ≠ im ∧ i ≠ t2 ∧ i ≠ t3 ∧ i ≠ t4) ∧ (im < fn.ntmps ∧ t2 < fn.ntmps ∧ t3 < fn.ntmps ∧ t4 < fn.ntmps) ∧ plainCode rest = true ∧
    awpR T (CallK P T L) L rest (RetOk T fn.results.toList (.d (.bool true))) ((Fr.mk ((im, .data (.int .i64 M)) :: ((ig, true, .agg xs') :: (lP ++ lW ++ lG)).map toD) [] []).st fn.ntmps)

theorem law_box (hT : TabOk P T) (hL1 : 1000 ≤ L) (hL2 : L ≤ 2 ^ 38) (hm : P.follows .mixedOrders = true) {fid : Nat} {fn : Func} {code : Code} (hf : P.funcs[fid]? = some fn) (hb : fn.body = some code)
    {nA nB nC nD : Nat} {args : List AV} {lP lW lX lG : List Fact} {ig im : Nat} {cs : List SV} {xs xs' : List AV} {M : Int} {f E : Nat} (h : LawBox P T L fn code nA nB nC nD args lP lW lX lG ig im cs xs xs' M f E) (hlen : args.length ≤ fn.ntmps)
    {w : World} {vs : List Value} (hargs : All2 (RepV (fun b => b < w.heap.size) w L) args vs) : Calls P fid vs.toArray w fun e w' => e = .returned (.bool true) ∧ Below w.heap.size w w' := by
  refine calls_of_wp hf hb ?_
  have hvl := hargs.length
  -- the first phase: the reference's answer
  generalize ha0 : ({ tmps := vs.toArray ++ Array.replicate (fn.ntmps - vs.toArray.size) undef, defers := [] } : Act) = a0
  have ha0s : a0.tmps.size = fn.ntmps := by rw [← ha0]; simp; omega
  have ha0d : a0.defers = [] := by rw [← ha0]
  have start : ∀ (args : List AV) (vs : List Value) (i : Nat), All2 (RepV (fun b => b < w.heap.size) w L) args vs → (∀ k v, vs[k]? = some v → a0.tmps.getD (i + k) undef = v) → RepF T (fun b => b < w.heap.size) (fun _ => False) (fun _ => False) false w L a0 (entrySlots i (args.map AR.d)) := by
    intro args
    induction args with
    | nil => intro vs i _ _; trivial
    | cons x args ih =>
      intro vs i hr hg
      cases vs with
      | nil => exact hr.elim
      | cons v vs =>
        refine ⟨?_, ih vs (i + 1) hr.2 fun k u hu => ?_⟩
        · simp only [RepS, cx0]
          have := hg 0 v rfl
          rw [Nat.add_zero] at this
          rw [this]; exact hr.1
        · have := hg (k + 1) u (by simpa using hu)
          rwa [show i + (k + 1) = i + 1 + k by omega] at this
  have hs0 := start args vs 0 hargs fun k v hv => by
    rw [← ha0, Nat.zero_add]
    have hlt := (List.getElem?_eq_some_iff.1 hv).1
    rw [Array.getD_eq_getD_getElem?, Array.getElem?_append_left (by simpa using hlt)]
    simp at hv ⊢
    simp [hv]
  obtain ⟨hnod, hig⟩ := h.nod
  have nPWX := (nodup_app (by simpa using hnod : ((lP ++ lW ++ lX).map (·.1) ++ lG.map (·.1)).Nodup))
  have nPW := (nodup_app (by simpa using nPWX.1 : ((lP ++ lW).map (·.1) ++ lX.map (·.1)).Nodup))
  have memS : ∀ {l : List Fact} {x : Fact}, x ∈ l → x.1 ∈ l.map (·.1) := fun hx => List.mem_map.2 ⟨_, hx, rfl⟩
  refine phase hT hL1 hL2 hm nA [] _ ⟨frS (lP ++ lW), frM (lP ++ lW), []⟩ (Gam.begin ha0s ha0d (fun b h => h) (fun b h => h.elim) (fun b h => h.elim) nofun nofun hs0) h.kA h.pA ?_ (fun w' hb => ⟨rfl, hb.below0⟩)
  intro a1 w1 c1 g1 _
  have b1 : Below w.heap.size w w1 := ((show c1.M = _ from g1.om) ▸ g1.below : Turn _ w w1).below0
  have F1 := Gam.facts (pre := []) g1 nPW.1 (fun _ _ p hp => by simp at hp)
  have F1' : Fcts L (fun b => b < w1.heap.size) w1 a1 (lP ++ lW) := F1.mono (S := (lP ++ lW).map (·.1)) (fun b h => h.2) (fun _ _ _ => rfl) .refl fun _ => memS
  -- the second phase: arguments are made
  have s1 : a1.tmps.size = fn.ntmps := by have := g1.size; simpa [Fr.st] using this
  refine phase hT hL1 hL2 hm nB ((lP ++ lW).map (·.1)) _ ⟨frS lX, frM lX, []⟩ (Gam.begin (I := fun _ => False) (J := fun _ => False) (O := fun b => b < w1.heap.size) (mt := false) s1 g1.defers (fun b h => h.elim) (fun b h => h.elim) (fun b h => h) nofun nofun (repF_O (F1'.sub fun x hx => List.mem_append_left _ hx) fun x hx => h.known x (List.mem_append_left _ hx))) h.kB h.pB ?_ (fun w' hb => ⟨rfl, b1.trans (hb.below0.mono b1.size)⟩)
  intro a2 w2 c2 g2 hh2
  have b2 : Below w1.heap.size w1 w2 := ((show c2.M = _ from g2.om) ▸ g2.below : Turn _ w1 w2).below0
  have F2 := Gam.facts (pre := []) g2 nPW.2.1 (fun _ _ p hp => by simp at hp)
  generalize hXdef : (fun b => (w1.heap.size ≤ b ∧ Thaw w2 b) ∧ b < w2.heap.size) = X
  have hX : ∀ b, X b ↔ (w1.heap.size ≤ b ∧ Thaw w2 b) ∧ b < w2.heap.size := fun b => by rw [← hXdef]
  have F2X : Fcts L X w2 a2 lX := F2.mono (S := lX.map (·.1)) (fun b h => (hX b).2 ⟨h.1.resolve_left id, h.2⟩) (fun _ _ _ => rfl) .refl fun _ => memS
  have F2P : Fcts L (fun b => b < w1.heap.size) w2 a2 (lP ++ lW) := F1'.mono (fun b h => h) (fun b o hb => b2.cell (p := ⟨b, o, none⟩) hb) hh2 fun _ => memS
  have s2 : a2.tmps.size = fn.ntmps := by have := g2.size; simpa [Fr.st] using this
  have F2all : Fcts L (fun b => b < w2.heap.size) w2 a2 (lP ++ lW ++ lX) :=
    (F2P.mono (S := (lP ++ lW).map (·.1)) (fun b hb => Nat.lt_of_lt_of_le hb b2.size) (fun _ _ _ => rfl) .refl fun _ => memS).append (F2X.mono (S := lX.map (·.1)) (fun b hb => ((hX b).1 hb).2) (fun _ _ _ => rfl) .refl fun _ => memS)
  have B2 : Below w.heap.size w w2 := b1.trans (b2.mono b1.size)
  -- the third: the program's answer
  refine phase hT hL1 hL2 hm nC ((lP ++ lW ++ lX).map (·.1)) _ ⟨(ig, .box ig 0 0) :: frS lG, (ig, cs) :: frM lG, []⟩ (Gam.begin (I := fun b => b < w2.heap.size) (J := fun _ => False) (O := fun _ => False) (mt := false) s2 g2.defers (fun b h => h) (fun b h => h.elim) (fun b h => h.elim) nofun nofun (repF_D F2all)) h.kC h.pC ?_ (fun w' hb => ⟨rfl, B2.trans (hb.below0.mono B2.size)⟩)
  intro a3 w3 c3 g3 hh3
  have b3 : Below w2.heap.size w2 w3 := ((show c3.M = _ from g3.om) ▸ g3.below : Turn _ w2 w3).below0
  have B3 : Below w.heap.size w w3 := B2.trans (b3.mono B2.size)
  have s3 : a3.tmps.size = fn.ntmps := by have := g3.size; simpa [Fr.st] using this
  have hgm : ((Fr.mk ((ig, .box ig 0 0) :: frS lG) ((ig, cs) :: frM lG) []).st fn.ntmps).mem ig = some (0, cs) := by simp [Fr.st, look]
  have hgs : ((Fr.mk ((ig, .box ig 0 0) :: frS lG) ((ig, cs) :: frM lG) []).st fn.ntmps).get ig = .box ig 0 0 := by simp [Fr.st, look]
  obtain ⟨bk, hp, hbk, hblt, hbth, hrc⟩ := g3.box_new hgs hgm h.cells (fun b hb => hb)
  have F3G : Fcts L (fun b => b < w3.heap.size) w3 a3 lG := by
    intro x hx
    obtain ⟨k1, k2⟩ := h.sc x hx
    have hne : ig ≠ x.1 := by
      rintro rfl
      exact hig (memS (List.mem_append_right _ hx))
    have hs := g3.slots x.1
    have e : ((Fr.mk ((ig, .box ig 0 0) :: frS lG) ((ig, cs) :: frM lG) []).st fn.ntmps).get x.1 = .data x.2.2 := by
      have := look_frS nPWX.2.1 x hx
      simp only [Fr.st, List.cons_append, look]
      rw [beq_ne hne.symm]
      simp only [cond_false]
      rw [this]
      simp only [frV, k1, cond_false]
    rw [e] at hs
    simp only [RepS] at hs
    unfold Fct
    simp only [k1]
    exact scal_any k2 hs
  have F3P : Fcts L (fun b => b < w1.heap.size) w3 a3 (lP ++ lW) := F2P.mono (fun b h => h) (fun b o hb => b3.cell (p := ⟨b, o, none⟩) (Nat.lt_of_lt_of_le hb b2.size)) hh3 fun x hx => memS (List.mem_append_left _ hx)
  have F3X : Fcts L X w3 a3 lX := F2X.mono (fun b h => h) (fun b o hb => b3.cell (p := ⟨b, o, none⟩) ((hX b).1 hb).2) hh3 fun x hx => memS (List.mem_append_right _ hx)
  have Xlt : ∀ b, X b → b < w2.heap.size ∧ w1.heap.size ≤ b := fun b hb => ⟨((hX b).1 hb).2, ((hX b).1 hb).1.1⟩
  -- the fourth: arguments are marked
  have hbX : ¬ X bk := fun hx => by have := Xlt bk hx; omega
  have hF4 : Fcts L (fun b => b < w3.heap.size ∧ ¬ X b) w3 a3 ((ig, true, .agg xs) :: (lW ++ lG)) := by
    intro x hx
    rcases List.mem_cons.1 hx with rfl | hx
    · exact ⟨bk, hp, ⟨hblt, hbX⟩, RepC.mono (fun b hb => ⟨hb.1.2.2, fun hx => by have := Xlt b hx; omega⟩) (fun _ _ _ => rfl) bk (fun _ => rfl) _ _ hrc⟩
    · rcases List.mem_append.1 hx with hx | hx
      · exact (F3P.mono (S := (lP ++ lW).map (·.1)) (I' := fun b => b < w3.heap.size ∧ ¬ X b) (fun b hb => ⟨by have := b2.size; have := b3.size; omega, fun hx => by have := Xlt b hx; omega⟩) (fun _ _ _ => rfl) .refl fun _ => memS) x (List.mem_append_right _ hx)
      · obtain ⟨k1, k2⟩ := h.sc x hx
        have := F3G x hx
        unfold Fct at this ⊢
        simp only [k1] at this ⊢
        exact scal_any k2 this
  refine phase hT hL1 hL2 hm nD (ig :: (lP ++ lW ++ lG).map (·.1)) _ ⟨[], [], []⟩ (Gam.begin (I := fun b => b < w3.heap.size ∧ ¬ X b) (J := fun _ => False) (O := X) (mt := true) s3 g3.defers (fun b h => h.1) (fun b h => h.elim) (fun b hb => Nat.lt_of_lt_of_le (Xlt b hb).1 b3.size)
    (fun _ b hb => ((hX b).1 hb).1.2.same (b3.block b (Xlt b hb).1)) (fun _ b hb => hb.elim (fun hi => hi.2) (fun hj => hj.elim)) ((repF_D hF4 : RepF T _ (fun _ => False) X true w3 L a3 _).append (repF_S F3X))) h.kD h.pD ?_ ?_
  rotate_left
  · intro w' ht
    refine ⟨rfl, B3.trans ⟨ht.os, ht.tape, ht.output, ht.size, fun k hk => ht.block k (Nat.lt_of_lt_of_le hk B3.size) fun hx => ?_⟩⟩
    have := (Xlt k hx.1).2; have := b1.size; omega
  intro a4 w4 c4 g4 hh4
  have t4 : Turn (fun b => X b ∧ true = true) w3 w4 := by have := g4.below; rw [g4.om] at this; exact this
  have B4 : Below w.heap.size w w4 := B3.trans ⟨t4.os, t4.tape, t4.output, t4.size, fun k hk => t4.block k (Nat.lt_of_lt_of_le hk B3.size) fun hx => by have := (Xlt k hx.1).2; have := b1.size; omega⟩
  have s4 : a4.tmps.size = fn.ntmps := by have := g4.size; simpa [Fr.st] using this
  have cell4 : ∀ b o, b < w3.heap.size → ¬ X b → w4.cell? ⟨b, o, none⟩ = w3.cell? ⟨b, o, none⟩ := fun b o hb hx => t4.cell? hb fun h => hx h.1
  have hbk4 : bk < w4.heap.size := Nat.lt_of_lt_of_le hblt t4.size
  have hth4 : ∀ b, b < w3.heap.size → ¬ X b → Thaw w3 b → Thaw w4 b := fun b hb hx ht => ht.same (t4.block b hb fun h => hx h.1)
  have hrc4 : RepC (fun b => (w2.heap.size ≤ b ∧ Thaw w4 b ∧ b < w4.heap.size) ∧ b ≠ bk) w4 L bk xs 0 :=
    RepC.mono (fun b hb => ⟨⟨hb.1.1, hth4 b hb.1.2.2 (fun hx => by have := Xlt b hx; have := hb.1.1; omega) hb.1.2.1, Nat.lt_of_lt_of_le hb.1.2.2 t4.size⟩, hb.2⟩) (fun b o hb => cell4 b o hb.1.2.2 fun hx => by have := Xlt b hx; have := hb.1.1; omega) bk (fun o => cell4 bk o hblt hbX) _ _ hrc
  have hp4 : a4.tmps.getD ig undef = .pointer (some ⟨bk, 0, none⟩) := by rw [hh4 ig (by simp)]; exact hp
  have F4P : Fcts L (fun b => b < w1.heap.size) w4 a4 (lP ++ lW) := F3P.mono (fun b h => h) (fun b o hb => cell4 b o (by have := b2.size; have := b3.size; omega) fun hx => by have := Xlt b hx; omega) hh4 fun x hx => List.mem_cons_of_mem _ (memS (List.mem_append_left _ hx))
  -- the fifth: the answer is marked
  obtain ⟨ops1, ops2, id1, id2, t2, t3, t4', rest, hcode, hops, hd, hS, hlt, hpl, hF⟩ := h.pE
  rw [hcode]
  obtain ⟨us, u1, u2⟩ := hrc4.all2
  have hlen : us.length = (T E).size := by rw [h.good.2.2, u1.length]
  have hld := run_load (P := P) (w := w4) hT h.good.1 (b := bk) (off := 0) (vs := us) hlen u2
  rw [h.good.2.1, ← hp4] at hld
  simp only [if_true] at hld
  refine mark_stepB hops hd hS (by rw [s4]; exact hlt) h.marks.1 (vl := .agg us.toArray) (R := fun M' w' => M' = M ∧ w'.os = w4.os ∧ w'.tape = w4.tape ∧ w'.output = w4.output ∧ w4.heap.size ≤ w'.heap.size ∧ (∀ k, k < w4.heap.size → ¬ ((w2.heap.size ≤ k ∧ Thaw w4 k ∧ k < w4.heap.size) ∧ k ≠ bk) → w'.heap[k]? = w4.heap[k]?) ∧
    RepV (fun b => (w2.heap.size ≤ b ∧ Thaw w4 b ∧ b < w4.heap.size) ∧ b ≠ bk) w' L (.agg xs') (.agg us.toArray)) hld ((h.marks.2 _ w4 _ (fun b hb => ⟨hb.1.2.2, hb.1.2.1⟩) ⟨us, rfl, u1⟩).mono ?_) ?_
  · rintro e w' ⟨rfl, k1, k2, k3, k4, k5, k6⟩
    exact ⟨M, rfl, rfl, k1, k2, k3, k4, k5, k6⟩
  rintro a5 w5 M' ⟨rfl, k1, k2, k3, k4, k5, k6⟩ him hh5 hdf5 hsz5
  have same5 : ∀ k, k < w2.heap.size → w5.heap[k]? = w4.heap[k]? := fun k hk => k5 k (by have := b3.size; have := t4.size; omega) fun h => by have := h.1.1; omega
  have rc5 : RepC (fun b => b < w5.heap.size) w5 L bk xs' 0 := by
    obtain ⟨us', e1, e2⟩ := k6
    have e3 : us = us' := by simpa using e1
    subst e3
    refine repC_of (e2.mono fun _ _ h => h.mono (fun b hb => Nat.lt_of_lt_of_le hb.1.2.2 k4) (fun _ _ _ => rfl)) fun j u hu => ?_
    have := u2 j u hu
    rw [← this]
    exact World.cell?_of_block (k5 bk hbk4 fun h => h.2 rfl)
  have B5 : Below w.heap.size w w5 := B4.trans ⟨k1, k2, k3, by have := B4.size; omega, fun k hk => same5 k (by have := B2.size; omega)⟩
  have F5P : Fcts L (fun b => b < w5.heap.size) w5 a5 (lP ++ lW) := F4P.mono (S := ig :: (lP ++ lW ++ lG).map (·.1)) (fun b hb => by have := b2.size; have := b3.size; have := t4.size; omega) (fun b o hb => World.cell?_of_block (same5 b (by have := b2.size; omega))) hh5 fun x hx => List.mem_cons_of_mem _ (memS (List.mem_append_left _ hx))
  have hF5 : Fcts L (fun b => b < w5.heap.size) w5 a5 ((ig, true, .agg xs') :: (lP ++ lW ++ lG)) := by
    intro x hx
    rcases List.mem_cons.1 hx with rfl | hx
    · exact ⟨bk, by rw [hh5 ig (by simp)]; exact hp4, Nat.lt_of_lt_of_le hbk4 k4, rc5⟩
    · rcases List.mem_append.1 hx with hx | hx
      · exact F5P x hx
      · obtain ⟨j1, j2⟩ := h.sc x hx
        have := F3G x hx
        unfold Fct at this ⊢
        simp only [j1] at this ⊢
        have hin : x.1 ∈ ig :: (lP ++ lW ++ lG).map (·.1) := List.mem_cons_of_mem _ (memS (List.mem_append_right _ hx))
        rw [hh5 _ hin, hh4 _ hin]
        exact scal_any j2 this
  have g4s := g4.defers
  refine phase_last hT hL1 hL2 hm ((im, .data (.int .i64 M')) :: ((ig, true, .agg xs') :: (lP ++ lW ++ lG)).map toD) (Gam.begin (I := fun b => b < w5.heap.size) (J := fun _ => False) (O := fun _ => False) (mt := false) (by rw [hsz5, s4]) (by rw [hdf5, g4s]) (fun b h => h) (fun b h => h.elim) (fun b h => h.elim) nofun nofun ⟨?_, repF_D hF5⟩) hpl hF (fun w' hb => ⟨rfl, B5.trans (hb.below0.mono B5.size)⟩)
  simp only [RepS, cx0, RepV]
  exact him

end
end Go.Proofs.YtgebcdkmchcifaaGreat.Abs
