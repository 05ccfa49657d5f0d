/- Proved: a general lemma, of no statement by itself. Control, calls and loops of the evaluator are sound: what the evaluator yields for a call, the model's machine yields; no condition but those that stand in each theorem. -/
import Derived.Test.YtddocfjaofddiaaGreatDoorEvB
import Derived.AtR
import Derived.Defers
set_option linter.unusedVariables false
set_option linter.unusedSimpArgs false
namespace Go.Ev
section
variable {P : Program} {b : Frame} {a : Act} {k : List Item} {cs : List Frame} {w w' : World}
theorem s_inScope {c : Code} : Go.step P (lone (b.atR a (.inScope c :: k)) cs w) = .next (lone (b.atR a k) cs w) := step_lone_go (by simp [stepG, stepG.exec, Frame.atR])
theorem s_scope {c : Code} : Go.step P (lone (b.atR a (.code (.scope c) :: k)) cs w) = .next (lone (b.atR a (.code c :: .inScope c :: k)) cs w) := step_lone_go (by simp [stepG, stepG.exec, Frame.atR])
/-- what an act is shown to do: it yields a value, at once or behind a call -/
def Acts (P : Program) (s : Sem Next) (w : World) (v' : Value) (w' : World) : Prop := ∃ n w1, s.run P w = .ok n w1 ∧ match n with
  | .value v => v = v' ∧ w1 = w'
  | .skip => v' = undef ∧ w1 = w'
  | .enter f args => ∀ c cs, Steps P (lone (Frame.enter P f args .normal) (c :: cs) w1) (lone (c.finish v') cs w')
  | .round l f tmps assign body => ∀ c cs, Steps P (lone (Frame.round l f tmps assign body .normal) (c :: cs) w1) (lone (c.finish v') cs w')
  | _ => False
theorem apply_steps {s : Sem Next} {fr : Frame} {v' : Value} (ha : Acts P s w v' w') (hp : (match fr.todo with | .call _ true _ _ :: _ => CallKind.wrapped | _ => .normal) = .normal)
    (hs : stepG P true { frame := fr, callers := cs, status := .running, dying := none } w = stepG.apply P true fr cs none s w) : Steps P (lone fr cs w) (lone (fr.finish v') cs w') := by
  obtain ⟨n, w1, hr, hn⟩ := ha
  cases n <;> first | exact hn.elim | skip
  · obtain ⟨rfl, rfl⟩ := hn
    exact .one (step_lone_go (by rw [hs]; simp [stepG.apply, hr]))
  · obtain ⟨rfl, rfl⟩ := hn
    exact .one (step_lone_go (by rw [hs]; simp [stepG.apply, hr]))
  · exact .head (step_lone_go (by rw [hs]; simp [stepG.apply, hr]; exact congrArg (Frame.enter P _ _) hp)) (hn _ _)
  · exact .head (step_lone_go (by rw [hs]; simp [stepG.apply, hr])) (hn _ _)
/-- where a code's run ends: on the way on, or at a jump that the items behind it take as if it stood in front of them -/
def Lands (x : X) (td k : List Item) : Prop := match x with
  | .nor => td = k
  | .exit i => ∃ r, td = .code (.exit i) :: r ∧ exitTo i r = exitTo i k
  | .goto l => ∃ r, td = .code (.goto l) :: r ∧ gotoIn l r = gotoIn l k
  | .ret => ∃ r, td = .code .ret :: r
def Runs (P : Program) (b : Frame) (td0 : List Item) (a : Act) (w : World) (x : X) (a' : Act) (w' : World) : Prop := ∀ k cs, ∃ td, Lands x td k ∧ Steps P (lone (b.atR a (td0 ++ k)) cs w) (lone (b.atR a' td) cs w')
variable {a1 a2 a' : Act} {w1 w2 : World} {x : X} {c c1 c2 : Code}
theorem Lands.pass {x : X} {td k : List Item} {i : Item} (hx : x ≠ .nor) (hi : ∀ id, exitTo id (i :: k) = exitTo id k) (hg : ∀ l, gotoIn l (i :: k) = gotoIn l k) (h : Lands x td (i :: k)) : Lands x td k := by
  cases x with
  | nor => exact absurd rfl hx
  | exit id => obtain ⟨r, e1, e2⟩ := h; exact ⟨r, e1, e2.trans (hi _)⟩
  | goto l => obtain ⟨r, e1, e2⟩ := h; exact ⟨r, e1, e2.trans (hg _)⟩
  | ret => exact h
theorem Runs.seq1 (h1 : Runs P b [.code c1] a w .nor a1 w1) (h2 : Runs P b [.code c2] a1 w1 x a' w') : Runs P b [.code (.seq c1 c2)] a w x a' w' := by
  intro k cs
  obtain ⟨td, rfl, s1⟩ := h1 (.code c2 :: k) cs
  obtain ⟨td, l2, s2⟩ := h2 k cs
  exact ⟨td, l2, .head stepR_seq (s1.trans s2)⟩
theorem Runs.seq2 (hx : x ≠ .nor) (h1 : Runs P b [.code c1] a w x a' w') : Runs P b [.code (.seq c1 c2)] a w x a' w' := by
  intro k cs
  obtain ⟨td, l1, s1⟩ := h1 (.code c2 :: k) cs
  exact ⟨td, l1.pass hx (fun _ => rfl) (fun _ => rfl), .head stepR_seq s1⟩
theorem Runs.cond {o : Operand} {t : Bool} (ho : a.eval o = .bool t) (h : Runs P b [.code (if t then c1 else c2)] a w x a' w') : Runs P b [.code (.cond o c1 c2)] a w x a' w' := by
  intro k cs
  obtain ⟨td, l, s⟩ := h k cs
  exact ⟨td, l, .head (stepR_cond ho) s⟩
theorem Runs.skip : Runs P b [.code .skip] a w .nor a w := fun k cs => ⟨k, rfl, .one stepR_skip⟩
theorem Runs.label {l : Nat} : Runs P b [.code (.label l)] a w .nor a w := fun k cs => ⟨k, rfl, .one stepR_label⟩
theorem Runs.exit {i : Nat} : Runs P b [.code (.exit i)] a w (.exit i) a w := fun k cs => ⟨_, ⟨k, rfl, rfl⟩, .refl _ _⟩
theorem Runs.goto {l : Nat} : Runs P b [.code (.goto l)] a w (.goto l) a w := fun k cs => ⟨_, ⟨k, rfl, rfl⟩, .refl _ _⟩
theorem Runs.ret : Runs P b [.code .ret] a w .ret a w := fun k cs => ⟨_, ⟨k, rfl⟩, .refl _ _⟩
theorem Runs.block1 {id : Nat} (hx : x = .nor ∨ x = .exit id) (h : Runs P b [.code c] a w x a' w') : Runs P b [.code (.block id c)] a w .nor a' w' := by
  intro k cs
  obtain ⟨td, l, s⟩ := h (.inBlock id :: k) cs
  refine ⟨k, rfl, .head stepR_block (s.trans ?_)⟩
  rcases hx with rfl | rfl
  · cases l
    exact .one stepR_inBlock
  · obtain ⟨r, rfl, e⟩ := l
    exact .one (stepR_exit (e.trans (by simp [exitTo])))
theorem Runs.block2 {id : Nat} (hx : x ≠ .nor) (hi : x ≠ .exit id) (h : Runs P b [.code c] a w x a' w') : Runs P b [.code (.block id c)] a w x a' w' := by
  intro k cs
  obtain ⟨td, l, s⟩ := h (.inBlock id :: k) cs
  refine ⟨td, ?_, .head stepR_block s⟩
  cases x with
  | nor => exact absurd rfl hx
  | exit i =>
    obtain ⟨r, e1, e2⟩ := l
    refine ⟨r, e1, e2.trans ?_⟩
    have : (id == i) = false := by simp; rintro rfl; exact hi rfl
    simp [exitTo, this]
  | goto l' => exact l
  | ret => exact l
/-- rounds of a loop: behind the text there stands the loop's own item -/
def Loops (P : Program) (b : Frame) (c : Code) (a : Act) (w : World) (x : X) (a' : Act) (w' : World) : Prop := ∀ k cs, ∃ td, Lands x td (.inLoop c :: k) ∧ Steps P (lone (b.atR a (.code c :: .inLoop c :: k)) cs w) (lone (b.atR a' td) cs w')
theorem Loops.one (h : Runs P b [.code c] a w x a' w') : Loops P b c a w x a' w' := fun k cs => h (.inLoop c :: k) cs
theorem Loops.two (h1 : Loops P b c a w .nor a1 w1) (h2 : Loops P b c a1 w1 x a' w') : Loops P b c a w x a' w' := by
  intro k cs
  obtain ⟨td, rfl, s1⟩ := h1 k cs
  obtain ⟨td, l2, s2⟩ := h2 k cs
  exact ⟨td, l2, s1.trans (.head stepR_inLoop s2)⟩
theorem Runs.loop (hx : x ≠ .nor) (h : Loops P b c a w x a' w') : Runs P b [.code (.loop c)] a w x a' w' := by
  intro k cs
  obtain ⟨td, l, s⟩ := h k cs
  exact ⟨td, l.pass hx (fun _ => rfl) (fun _ => rfl), .head stepR_loop s⟩
/-- inside a scope -/
def Scopes (P : Program) (b : Frame) (body c : Code) (a : Act) (w : World) (x : X) (a' : Act) (w' : World) : Prop := ∀ k cs, ∃ td, Lands x td k ∧ Steps P (lone (b.atR a (.code c :: .inScope body :: k)) cs w) (lone (b.atR a' td) cs w')
theorem Scopes.jump {body rest : Code} {l : Nat} (hl : findLabel body l = some rest) (h1 : Runs P b [.code c] a w (.goto l) a1 w1) (h2 : Scopes P b body rest a1 w1 x a' w') : Scopes P b body c a w x a' w' := by
  intro k cs
  obtain ⟨td, ⟨r, rfl, e⟩, s1⟩ := h1 (.inScope body :: k) cs
  obtain ⟨td, l2, s2⟩ := h2 k cs
  exact ⟨td, l2, s1.trans (.head (stepR_goto (e.trans (by simp [gotoIn, hl]))) s2)⟩
theorem Scopes.out {body : Code} (hx : ∀ l, x = .goto l → findLabel body l = none) (h1 : Runs P b [.code c] a w x a' w') : Scopes P b body c a w x a' w' := by
  intro k cs
  obtain ⟨td, l, s1⟩ := h1 (.inScope body :: k) cs
  cases x with
  | nor => cases l; exact ⟨k, rfl, s1.trans (.one s_inScope)⟩
  | exit i => exact ⟨td, l, s1⟩
  | goto l' =>
    obtain ⟨r, e1, e2⟩ := l
    exact ⟨td, ⟨r, e1, e2.trans (by simp [gotoIn, hx l' rfl])⟩, s1⟩
  | ret => exact ⟨td, l, s1⟩
theorem Runs.scope (h : Scopes P b c c a w x a' w') : Runs P b [.code (.scope c)] a w x a' w' := fun k cs => let ⟨td, l, s⟩ := h k cs; ⟨td, l, .head s_scope s⟩
/-- operations of a region, one by one -/
def OpsR (P : Program) (b : Frame) (ops : Array Oper) (a : Act) (w : World) (is : List Nat) (a' : Act) (w' : World) : Prop := ∀ k cs, Steps P (lone (b.atR a (.inRegion ops is :: k)) cs w) (lone (b.atR a' k) cs w')
theorem OpsR.nil {ops : Array Oper} : OpsR P b ops a w [] a w := fun k cs => .one stepR_region_end
theorem OpsR.cons {ops : Array Oper} {i : Nat} {is : List Nat} {o : Oper} {v : Value} (ho : ops[i]? = some o) (hw : Region.wanted o (yielded ops a.tmps) = true) (hd : ∀ c, o.op ≠ .defer c)
    (ha : Acts P (execOp a.eval o) w v w1) (h : OpsR P b ops (a.put o.dst v) w1 is a' w') : OpsR P b ops a w (i :: is) a' w' := by
  intro k cs
  have hg := stepGR_op (P := P) (b := b) (a := a) (k := k) (cs := cs) (w := w) (rest := is) ho hw
  rw [Oper.semAt_eq _ _ _ hd] at hg
  have hs := apply_steps ha rfl hg
  rw [Frame.finish_atR, ho] at hs
  exact hs.trans (h k cs)
/-- a call is deferred -/
theorem OpsR.later {ops : Array Oper} {i : Nat} {is : List Nat} {o : Oper} {cl : Call} {d : Deferred} (ho : ops[i]? = some o) (hw : Region.wanted o (yielded ops a.tmps) = true) (hc : o.op = .defer cl) (hr : b.roundOf = none)
    (hd : (resolve a.eval cl o.type).run P w = .ok d w) (h : OpsR P b ops ((Act.mk a.tmps (d :: a.defers)).put o.dst undef) w is a' w') : OpsR P b ops a w (i :: is) a' w' := by
  intro k cs
  have hg := stepGR_op (P := P) (b := b) (a := a) (k := k) (cs := cs) (w := w) (rest := is) ho hw
  rw [hr, Oper.semAt_none] at hg
  have he : (execOp a.eval o).run P w = .ok (.defer d) w := by
    unfold execOp
    rw [hc]
    show (do pure (Next.defer (← resolve a.eval cl o.type)) : Sem Next).run P w = _
    rw [run_bind_ok hd]; rfl
  have hf : ({ b.atR a (.inRegion ops (i :: is) :: k) with defers := d :: (b.atR a (.inRegion ops (i :: is) :: k)).defers } : Frame).finish undef = b.atR ((Act.mk a.tmps (d :: a.defers)).put o.dst undef) (.inRegion ops is :: k) := by
    have := Frame.finish_atR (b := b) (a := Act.mk a.tmps (d :: a.defers)) (v := undef) (ops := ops) (i := i) (rest := is) (k := k)
    rw [ho] at this
    exact this
  refine .head (step_lone_go ?_) (h k cs)
  rw [hg]
  simp only [stepG.apply, Sem.runT_eq, he, GStep.bare_after]
  rw [← hf]
  rfl
theorem OpsR.pass {ops : Array Oper} {i : Nat} {is : List Nat} {o : Oper} (ho : ops[i]? = some o) (hw : Region.wanted o (yielded ops a.tmps) = false) (h : OpsR P b ops (a.put o.dst undef) w is a' w') : OpsR P b ops a w (i :: is) a' w' := by
  intro k cs
  have := stepR_op_skip (P := P) (b := b) (a := a) (k := k) (cs := cs) (w := w) (ops := ops) (i := i) (rest := is) (by simp [ho, hw])
  rw [ho] at this
  exact .head this (h k cs)
theorem Runs.region {id : Nat} {ops : Array Oper} (h : OpsR P b ops a w (List.range ops.size) a' w') : Runs P b [.code (.region id ops false)] a w .nor a' w' := fun k cs => ⟨k, rfl, .head stepR_region (h k cs)⟩
end
end Go.Ev

namespace Go.Ev
section
variable {P : Program} {σ : Nat → Value} {B : Nat} {w0 : World} {ρ ρ1 ρ2 : Rho} {G G1 G2 : Nat → Option Ent} {h h1 h2 h' : H} {c c1 c2 c' : Nat} {w w' : World}
/-- a deferred call that does nothing where the function returns -/
def IdleFn (P : Program) (g : FuncId) : Prop := ∃ fn body, P.funcs[g]? = some fn ∧ fn.body = some body ∧ (fn.name == "runtime.NumGoroutine") = false ∧
  ∀ (y : Value) (w : World), CallsD P g #[y] .returning w fun e u' w' => (∃ v, e = .returned v) ∧ u' = .returning ∧ w' = w
def IdleDef (P : Program) (d : Deferred) : Prop := ∃ fv cap f args, d.target = .fn fv cap ∧ ∀ w, (invoke d.target d.args).run P w = .ok (.enter f args) w ∧
  CallsD P f args .returning w fun e u' w' => (∃ v, e = .returned v) ∧ u' = .returning ∧ w' = w
/-- the marks among a frame's deferred calls; 0: a call that does nothing -/
inductive DfR (P : Program) (ρ : Rho) : List Nat → List Deferred → Prop
  | nil : DfR P ρ [] []
  | cons (r : Nat) (l : Loc) (ms : List Nat) (ds : List Deferred) : r ≠ 0 → ρ r = some l → DfR P ρ ms ds → DfR P ρ (r :: ms) ({ target := .collected l.b, args := #[] } :: ds)
  | idle (d : Deferred) (ms : List Nat) (ds : List Deferred) : IdleDef P d → DfR P ρ ms ds → DfR P ρ (0 :: ms) (d :: ds)
theorem DfR.le (hl : Rho.le ρ ρ1) {ms : List Nat} {ds : List Deferred} (h : DfR P ρ ms ds) : DfR P ρ1 ms ds := by
  induction h with
  | nil => exact .nil
  | cons r l ms ds h0 h _ ih => exact .cons r l ms ds h0 (hl _ _ h) ih
  | idle d ms ds h _ ih => exact .idle d ms ds h ih
theorem idle_step {d : Deferred} (hd : IdleDef P d) {ds : List Deferred} (fr : Frame) (cs : List Frame) (hm : fr.mode = .returning) : Steps P (lone { fr with defers := d :: ds } cs w) (lone { fr with defers := ds } cs w) := by
  obtain ⟨fv, cap, f, args, ht, hr⟩ := hd
  obtain ⟨hi, hc⟩ := hr w
  have h1 := step_defer (P := P) (fr := { fr with defers := d :: ds }) (cs := cs) (w := w) (d := d) (ds := ds) (by rw [show ({ fr with defers := d :: ds } : Frame).mode = fr.mode from rfl, hm]; simp) rfl ht hi
  obtain ⟨e, u', w', frX, ⟨⟨v, he⟩, hu, hw⟩, hs, hk, hgo⟩ := hc ({ fr with defers := ds } : Frame) cs hm
  subst he; subst hu; subst hw
  have h2 := step_going_returned (P := P) (c := ({ fr with defers := ds, mode := .returning } : Frame)) (cs := cs) hk hgo
  have h3 : ({ fr with defers := ds, mode := settle .returning } : Frame) = { fr with defers := ds } := by
    cases fr; dsimp only at hm; subst hm; rfl
  refine .head h1 (Steps.trans hs (.one ?_))
  rw [← h3]
  exact h2
theorem unmark_ok : ∀ (ms : List Nat) (ds : List Deferred) (h : H) (G : Nat → Option Ent) (w : World) (u : Unit), DfR P ρ ms ds → unmark ms h c = .ok u h' c' → View h G → Match σ B w0 ρ G w →
    ∃ w' G', Post σ B w0 ρ ρ G G' h h' c c' w' ∧ Okk h h' c c' ∧ ∀ (fr : Frame) cs, fr.mode = .returning → Steps P (lone { fr with defers := ds } cs w) (lone { fr with defers := [] } cs w') := by
  intro ms
  induction ms with
  | nil =>
    intro ds h G w u hd e hv hM
    cases hd
    obtain ⟨_, rfl, rfl⟩ := ret_ok.1 e
    exact ⟨w, G, Post.refl hM hv, Okk.refl _ _, fun fr cs _ => .refl _ _⟩
  | cons r ms ih =>
    intro ds h G w u hd e hv hM
    rcases sel_ok.1 (show (@Bool.rec (fun _ => M Unit) (bnd (ent r) fun e => match e with | .dfr => bnd (kill r) fun _ => unmark ms | _ => bad) (unmark ms) (Nat.beq r 0)) h c = .ok u h' c' from e) with ⟨h0, e⟩ | ⟨h0, e⟩
    · have h0 := Nat.eq_of_beq_eq_true h0
      cases hd with
      | cons _ l _ ds hne => exact absurd h0 hne
      | idle d _ ds hi hd =>
        obtain ⟨w', G', p, o, st⟩ := ih ds h G w u hd e hv hM
        exact ⟨w', G', p, o, fun fr cs hm => (idle_step hi fr cs hm).trans (st fr cs hm)⟩
    cases hd with
    | idle d _ ds hi hd => cases h0
    | cons _ l _ ds hne hl hd =>
    obtain ⟨en, h1, c1, e1, e2⟩ := bnd_ok.1 e
    obtain ⟨hg, rfl, rfl⟩ := ent_ok.1 e1
    cases en <;> first | exact (bad_ok.1 e2).elim | skip
    obtain ⟨_, h1, c1, e3, e4⟩ := bnd_ok.1 e2
    obtain ⟨rfl, rfl⟩ := kill_ok.1 e3
    obtain ⟨l', h1, hobj, hB, hlt⟩ := hM.ent r _ (hv r _ hg)
    rw [hl] at h1; cases h1
    have hobj : w.heap[l.b]? = some (.deferred (some [])) := hobj
    have p1 := Post.lose (c := c1) (w' := { w with heap := w.heap.setIfInBounds l.b (.deferred none) }) hM hv hg hl other_set.blk other_set.size rfl rfl rfl
    obtain ⟨w', G', p2, o2, st⟩ := ih ds _ _ _ u hd e4 p1.view p1.mt
    refine ⟨w', G', Post.trans Okk.kill o2 p1 p2, Okk.trans Okk.kill o2, fun fr cs hm => ?_⟩
    refine .head (step_lone_go ?_) (st fr cs hm)
    have htake : (Instr.takeDeferred l.b).run P w = .ok [] { w with heap := w.heap.setIfInBounds l.b (.deferred none) } := by
      have hgo : (getObj l.b).run P w = .ok (.deferred (some [])) w := by simp [getObj, Sem.run, hobj]
      unfold Instr.takeDeferred
      rw [run_bind_ok hgo]
      simp [setObj, Sem.run, hobj]
    simp [stepG, hm, unwind, Sem.runT_eq, htake]
theorem resultsOf_ok {ks : T Unit} {t : Env} {tmps : Array Value} (henv : EnvR σ ρ ks t tmps) : ∀ (rs : List ResultVar) (k : List Value → M Value) (v : Value), resultsOf P ks t rs k h c = .ok v h' c' → View h G → Match σ B w0 ρ G w →
    ∃ vs vs', k vs h c = .ok v h' c' ∧ VRs σ ρ vs vs' ∧ (rs.mapM fun (r : ResultVar) => match r with
      | .tmp t => (pure (tmps.getD t undef) : Sem Value)
      | .cell a t => (do Go.loadVar t (← asAddr (tmps.getD a undef)) : Sem Value)).run P w = Result.ok vs' w := by
  intro rs
  induction rs with
  | nil => intro k v e hv hM; exact ⟨[], [], e, .nil, rfl⟩
  | cons r rs ih =>
    intro k v e hv hM
    cases r with
    | tmp i =>
      obtain ⟨x, hx, e1⟩ := slot_ok.1 e
      obtain ⟨vs, vs', e2, h2, h3⟩ := ih _ _ e1 hv hM
      obtain ⟨x', hx', hr⟩ := henv i x hx
      refine ⟨x :: vs, x' :: vs', e2, .cons _ _ _ _ hr h2, ?_⟩
      have hg : tmps.getD i undef = x' := by simp [Array.getD_eq_getD_getElem?, hx']
      rw [List.mapM_cons, run_bind_ok (a := x') (by show (pure (tmps.getD i undef) : Sem Value).run P w = _; rw [hg]; rfl), run_bind_ok h3]
      rfl
    | cell i ty =>
      obtain ⟨x, hx, e1⟩ := slot_ok.1 e
      obtain ⟨ad, h1, c1, e3, e4⟩ := bnd_ok.1 e1
      obtain ⟨rfl, rfl, rfl⟩ := addr_ok e3
      obtain ⟨y, h1, c1, e5, e6⟩ := bnd_ok.1 e4
      obtain ⟨rfl, rfl⟩ := q_loadVar _ _ _ _ _ e5
      obtain ⟨vs, vs', e2, h2, h3⟩ := ih _ _ e6 hv hM
      obtain ⟨x', hx', hr⟩ := henv i _ hx
      cases hr with | ptr n o l hl =>
      obtain ⟨y', g1, g2⟩ := r_loadVar hl _ _ _ _ _ e5 G w hv hM
      refine ⟨y :: vs, y' :: vs', e2, .cons _ _ _ _ g2 h2, ?_⟩
      have hg : tmps.getD i undef = .pointer (some ⟨l.b, l.d + o, none⟩) := by simp [Array.getD_eq_getD_getElem?, hx']
      rw [List.mapM_cons, run_bind_ok (a := y') (by show (do Go.loadVar ty (← asAddr (tmps.getD i undef)) : Sem Value).run P w = _; rw [hg]; exact g1), run_bind_ok h3]
      rfl
theorem tup_ok {vs vs' : List Value} {v : Value} (e : tup vs h c = .ok v h' c') (hr : VRs σ ρ vs vs') : h' = h ∧ c' = c ∧ VR σ ρ v (if hh : (⟨vs'⟩ : Array Value).size = 1 then (⟨vs'⟩ : Array Value)[0] else .tuple ⟨vs'⟩) := by
  unfold tup at e
  split at e
  · obtain ⟨rfl, rfl, rfl⟩ := ret_ok.1 e
    obtain ⟨y, rfl, hy⟩ := args1 hr
    exact ⟨rfl, rfl, by simpa using hy⟩
  · rename_i hne
    obtain ⟨rfl, rfl, rfl⟩ := ret_ok.1 e
    have hl : ¬ (⟨vs'⟩ : Array Value).size = 1 := by
      intro h1
      have h2 := hr.length
      have h1 : vs'.length = 1 := h1
      match vs, h2, hne with
      | [x], _, hne => exact hne x rfl
      | [], h2, _ => simp [h1] at h2
      | _ :: _ :: _, h2, _ => simp [h1] at h2
    rw [dif_neg hl]
    exact ⟨rfl, rfl, .tuple _ _ hr⟩
end
end Go.Ev

namespace Go.Ev
section
variable {P : Program} {b : Frame} {a a1 a' : Act} {k : List Item} {cs : List Frame} {w w' w1 w2 w3 : World} {x : X} {c : Code}
/-- a call comes to its end -/
def CallsV (P : Program) (f : FuncId) (args : Array Value) (w : World) (v' : Value) (w' : World) : Prop := ∀ cs, ∃ fr, fr.fn = f ∧ fr.leaving P w' (.returned v') ∧ Steps P (lone (Frame.enter P f args .normal) cs w) (lone fr cs w')
theorem CallsV.back {f : FuncId} {args : Array Value} {v' : Value} (h : CallsV P f args w v' w') (c : Frame) (cs : List Frame) : Steps P (lone (Frame.enter P f args .normal) (c :: cs) w) (lone (c.finish v') cs w') := by
  obtain ⟨fr, _, h1, h2⟩ := h (c :: cs)
  exact h2.trans (.one (step_leave_returned h1))
theorem CallsV.calls {f : FuncId} {args : Array Value} {v' : Value} (h : CallsV P f args w v' w') : Calls P f args w fun e w2 => e = .returned v' ∧ w2 = w' := fun cs =>
  let ⟨fr, h0, h1, h2⟩ := h cs
  ⟨.returned v', w', fr, ⟨rfl, rfl⟩, h2, h0, h1⟩
def bodyFrame (f : FuncId) : Frame := { (default : Frame) with fn := f, kind := .normal }
theorem body_leaves {f : FuncId} {fn : Func} {args : Array Value} {v' : Value} (hf : P.funcs[f]? = some fn) (hb : fn.body = some c)
    (hr : Runs P (bodyFrame f) [.code c] { tmps := args ++ Array.replicate (fn.ntmps - args.size) undef, defers := [] } w x a1 w1) (hx : x = .nor ∨ x = .ret)
    (un : ∀ (fr : Frame) cs, fr.mode = .returning → Steps P (lone { fr with defers := a1.defers } cs w1) (lone { fr with defers := [] } cs w')) (res : (results fn a1.tmps).run P w' = .ok v' w') : CallsV P f args w v' w' := by
  intro cs
  have henter : Frame.enter P f args .normal = (bodyFrame f).atR { tmps := args ++ Array.replicate (fn.ntmps - args.size) undef, defers := [] } [.code c] := by
    simp [Frame.enter, Frame.atR, hf, hb, bodyFrame]
    rfl
  obtain ⟨td, l, s⟩ := hr [] cs
  rw [henter]
  rcases hx with rfl | rfl
  · cases l
    refine ⟨_, ?_, ?_, s.trans (.head (stepR_end rfl) (un { (bodyFrame f).atR a1 [] with mode := .returning } cs rfl))⟩
    · rfl
    · exact ⟨rfl, rfl, rfl, fn, hf, res⟩
  · obtain ⟨r, rfl⟩ := l
    refine ⟨_, ?_, ?_, s.trans (.head (stepR_ret rfl) (un { (bodyFrame f).atR a1 (.code .ret :: r) with mode := .returning } cs rfl))⟩
    · rfl
    · exact ⟨rfl, rfl, rfl, fn, hf, res⟩
/-- a round of a loop over a function -/
theorem round_runs {l : Nat} {f : FuncId} {tmps : Array Value} {assign body : Code} {v' : Value} {j : Option Code} (hj : jumpOf x = j)
    (h1 : Runs P { (default : Frame) with fn := f, kind := .normal, roundOf := some l } [.code assign] ⟨tmps, []⟩ w .nor a1 w1) (hb : (Instr.beginRound l).run P w1 = .ok () w2)
    (h2 : Runs P { (default : Frame) with fn := f, kind := .normal, roundOf := some l } [.code body] a1 w2 x a' w3) (he : (Instr.endRound l j).run P w3 = .ok v' w') (c : Frame) (cs : List Frame) :
    Steps P (lone (Frame.round l f tmps assign body .normal) (c :: cs) w) (lone (c.finish v') cs w') := by
  have h0 : Frame.round l f tmps assign body .normal = Frame.atR { (default : Frame) with fn := f, kind := .normal, roundOf := some l } ⟨tmps, []⟩ [.code assign, .beginRound, .code body] := rfl
  rw [h0]
  obtain ⟨td, rfl, s1⟩ := h1 [.beginRound, .code body] (c :: cs)
  obtain ⟨td, l2, s2⟩ := h2 [] (c :: cs)
  refine s1.trans (.head (stepR_beginRound rfl hb) (s2.trans ?_))
  subst hj
  cases x with
  | nor => cases l2; exact .one (stepR_round_end rfl rfl he)
  | exit i => obtain ⟨r, rfl, e⟩ := l2; exact .one (stepR_round_exit rfl rfl e he)
  | goto l => obtain ⟨r, rfl, e⟩ := l2; exact .one (stepR_round_goto rfl rfl e he)
  | ret => obtain ⟨r, rfl⟩ := l2; exact .one (stepR_round_ret rfl rfl he)
theorem apply_steps' {s : Sem Next} {fr0 fr : Frame} {v' : Value} (ha : Acts P s w1 v' w') (hp : (match fr.todo with | .call _ true _ _ :: _ => CallKind.wrapped | _ => .normal) = .normal)
    (hs : (stepG P true { frame := fr0, callers := cs, status := .running, dying := none } w).bare = (stepG.apply P true fr cs none s w1).bare) : Steps P (lone fr0 cs w) (lone (fr.finish v') cs w') := by
  obtain ⟨n, w1, hr, hn⟩ := ha
  cases n <;> first | exact hn.elim | skip
  · obtain ⟨rfl, rfl⟩ := hn
    exact .one (step_lone_go (by rw [hs]; simp [stepG.apply, hr]))
  · obtain ⟨rfl, rfl⟩ := hn
    exact .one (step_lone_go (by rw [hs]; simp [stepG.apply, hr]))
  · exact .head (step_lone_go (by rw [hs]; simp [stepG.apply, hr]; exact congrArg (Frame.enter P _ _) hp)) (hn _ _)
  · exact .head (step_lone_go (by rw [hs]; simp [stepG.apply, hr])) (hn _ _)
theorem s_endRange {l : Nat} {j : Option Code} (hl : (Instr.endLoop l).run P w = .ok j w') : Go.step P (lone (b.atR a (.endRangeFunc l :: k)) cs w) = .next (lone (b.atR a ((j.map Item.code).toList ++ k)) cs w') :=
  step_lone_go (by simp [stepG, stepG.exec, Frame.atR, Sem.runT_eq, hl])
/-- the loop itself, in a frame that is no round -/
theorem range_runs {f : Operand} {ps : Array Tmp} {assign body : Code} {l : Nat} {mark : List Deferred} {v' : Value} {j : Option Code} (hr : b.roundOf = none)
    (he : (Instr.enterLoop b.fn a.tmps ps assign body none).run P w = .ok (l, mark) w1)
    (hc : Acts P (do let d ← resolve a.eval { callee := .value f, args := #[.const (.func (.yield l) #[] #[])], argTypes := #[] } 0; invoke d.target d.args) w1 v' w2)
    (hl : (Instr.endLoop l).run P w2 = .ok j w3) (k : List Item) (cs : List Frame) :
    Steps P (lone (b.atR a (.code (.rangeFunc f ps assign body) :: k)) cs w) (lone (b.atR { tmps := a.tmps, defers := mark ++ a.defers } ((j.map Item.code).toList ++ k)) cs w3) := by
  generalize hS : (do let d ← resolve a.eval { callee := .value f, args := #[.const (.func (.yield l) #[] #[])], argTypes := #[] } 0; invoke d.target d.args : Sem Next) = S at hc
  have hs : (stepG P true { frame := b.atR a (.code (.rangeFunc f ps assign body) :: k), callers := cs, status := .running, dying := none } w).bare =
      (stepG.apply P true (b.atR { tmps := a.tmps, defers := mark ++ a.defers } (.inRangeFunc l :: k)) cs none S w1).bare := by
    have he' : (b.atR { tmps := a.tmps, defers := mark ++ a.defers } (.inRangeFunc l :: k)).eval = a.eval := Frame.eval_atR b { tmps := a.tmps, defers := mark ++ a.defers } (.inRangeFunc l :: k)
    show (stepG.exec P true true (b.atR a (.code (.rangeFunc f ps assign body) :: k)) cs none w).bare = _
    unfold stepG.exec
    have he2 : (Instr.enterLoop (b.atR a (.code (.rangeFunc f ps assign body) :: k)).fn (b.atR a (.code (.rangeFunc f ps assign body) :: k)).tmps ps assign body (b.atR a (.code (.rangeFunc f ps assign body) :: k)).roundOf).run P w = .ok (l, mark) w1 := by
      show (Instr.enterLoop b.fn a.tmps ps assign body b.roundOf).run P w = _
      rw [hr]; exact he
    have ht : (b.atR a (.code (.rangeFunc f ps assign body) :: k)).todo = .code (.rangeFunc f ps assign body) :: k := rfl
    rw [ht]
    dsimp only
    rw [Sem.runT_eq, he2]
    dsimp only
    rw [GStep.bare_after]
    rw [← hS, ← he']
    rfl
  have h2 := apply_steps' hc rfl hs
  have h3 : (b.atR { tmps := a.tmps, defers := mark ++ a.defers } (.inRangeFunc l :: k)).finish v' = b.atR { tmps := a.tmps, defers := mark ++ a.defers } (.endRangeFunc l :: k) := rfl
  rw [h3] at h2
  exact h2.trans (.one (s_endRange hl))
end
end Go.Ev

namespace Go.Ev
/-- numbers of blocks only grow -/
def Mono {α : Type} (m : M α) : Prop := ∀ h c a h' c', m h c = .ok a h' c' → c ≤ c'
theorem Mono.of_quiet {α : Type} {m : M α} (q : Quiet m) : Mono m := fun _ _ _ _ _ e => by obtain ⟨_, rfl⟩ := q _ _ _ _ _ e; exact Nat.le_refl _
theorem Mono.ret {α : Type} {a : α} : Mono (Ev.ret a) := .of_quiet Quiet.ret
theorem Mono.bad {α : Type} : Mono (Ev.bad : M α) := .of_quiet Quiet.bad
theorem Mono.opt {α : Type} {o : Option α} : Mono (Ev.opt o) := .of_quiet Quiet.opt
theorem Mono.ent {n : Nat} : Mono (Ev.ent n) := .of_quiet Quiet.ent
theorem Mono.bnd {α β : Type} {m : M α} {f : α → M β} (hm : Mono m) (hf : ∀ a, Mono (f a)) : Mono (bnd m f) := fun _ _ _ _ _ e => by
  obtain ⟨_, _, _, e1, e2⟩ := bnd_ok.1 e
  exact Nat.le_trans (hm _ _ _ _ _ e1) (hf _ _ _ _ _ _ e2)
theorem Mono.sel {α : Type} {b : Bool} {x y : M α} (hx : Mono x) (hy : Mono y) : Mono (@Bool.rec (fun _ => M α) y x b) := by cases b <;> assumption
theorem Mono.forceN {α : Type} {n : Nat} {f : Nat → M α} (hf : ∀ n, Mono (f n)) : Mono (forceN n f) := by rw [forceN_eq]; exact hf n
theorem Mono.forceI {α : Type} {n : Int} {f : Int → M α} (hf : ∀ n, Mono (f n)) : Mono (forceI n f) := by rw [forceI_eq]; exact hf n
theorem Mono.setEnt {n : Nat} {e : Ent} : Mono (Ev.setEnt n e) := fun _ _ _ _ _ e => by obtain ⟨_, rfl⟩ := setEnt_ok.1 e; exact Nat.le_refl _
theorem Mono.kill {n : Nat} : Mono (Ev.kill n) := fun _ _ _ _ _ e => by obtain ⟨_, rfl⟩ := kill_ok.1 e; exact Nat.le_refl _
theorem Mono.new {e : Ent} : Mono (Ev.new e) := fun _ _ _ _ _ e => by obtain ⟨_, _, rfl⟩ := new_ok.1 e; exact Nat.le_succ _
section
variable {P : Program}
theorem m_slot {α : Type} {ks : T Unit} {t : Env} {i : Nat} {k : Value → M α} (hk : ∀ v, Mono (k v)) : Mono (slot ks t i k) := fun _ _ _ _ _ e => by
  obtain ⟨v, _, e⟩ := slot_ok.1 e
  exact hk v _ _ _ _ _ e
theorem m_opk {α : Type} {ks : T Unit} {t : Env} {x : Operand} {k : Value → M α} (hk : ∀ v, Mono (k v)) : Mono (opk ks t x k) := by
  cases x with
  | tmp i => exact m_slot hk
  | const v => exact Mono.sel (hk v) Mono.bad
  | global g => exact Mono.bad
  | func f => exact hk _
theorem m_opks {α : Type} {ks : T Unit} {t : Env} : ∀ (xs : List Operand) {k : List Value → M α}, (∀ v, Mono (k v)) → Mono (opks ks t xs k) := by
  intro xs
  induction xs with
  | nil => exact fun hk => hk []
  | cons x xs ih => exact fun hk => m_opk fun v => ih fun l => hk (v :: l)
theorem m_opkp {α : Type} {ks : T Unit} {t : Env} : ∀ (xs : List (Nat × Operand)) {k : List (Nat × Value) → M α}, (∀ v, Mono (k v)) → Mono (opkp ks t xs k) := by
  intro xs
  induction xs with
  | nil => exact fun hk => hk []
  | cons x xs ih => exact fun hk => m_opk fun v => ih fun l => hk ((x.1, v) :: l)
theorem m_opko {α : Type} {ks : T Unit} {t : Env} {o : Option Operand} {k : Option Value → M α} (hk : ∀ v, Mono (k v)) : Mono (opko ks t o k) := by
  cases o with
  | none => exact hk none
  | some x => exact m_opk fun v => hk (some v)
theorem m_v1 {m : M Value} (hm : Mono m) : Mono (v1 m) := Mono.bnd hm fun _ => Mono.ret
theorem m_u1 {m : M Unit} (hm : Mono m) : Mono (u1 m) := Mono.bnd hm fun _ => Mono.ret
theorem m_cellsM {v : Value} : Mono (cellsM v) := .of_quiet q_cellsM
theorem m_newPtr {e : TypeId} {v : Value} : Mono (newPtr e v) := Mono.bnd m_cellsM fun _ => Mono.bnd Mono.new fun _ => Mono.ret
theorem m_wr {n off : Nat} {vs : List Value} : Mono (wr n off vs) := fun _ _ _ _ _ e => (t_wr e).1
theorem m_storeVar {t : TypeId} {a : Addr} {v : Value} : Mono (storeVar P t a v) := by
  refine Mono.bnd (.of_quiet q_size) fun _ => Mono.bnd m_cellsM fun _ => Mono.sel m_wr Mono.bad
theorem m_mapUpdate {t : TypeId} {m k x : Value} : Mono (mapUpdate P t m k x) := fun _ _ _ _ _ e => by
  obtain ⟨_, _, _, _, _, _, _, _, _, _, _, _, rfl, _⟩ := t_mapUpdate e
  exact Nat.le_refl _
theorem m_newMap : Mono newMap := Mono.bnd Mono.new fun _ => Mono.ret
theorem m_range {t : TypeId} {x : Value} : Mono (range P t x) := Mono.bnd (.of_quiet q_und) fun d => by
  split
  · exact Mono.bnd (.of_quiet q_mapOf) fun _ => Mono.bnd Mono.new fun _ => Mono.ret
  · exact Mono.bnd Mono.new fun _ => Mono.ret
  · exact Mono.bad
theorem m_buildSlice {t : TypeId} {n : Nat} {ps : List (Nat × Value)} : Mono (buildSlice P t n ps) := Mono.bnd (.of_quiet q_und) fun d => by
  cases d <;> first | exact Mono.bad | skip
  exact Mono.bnd (.of_quiet q_size) fun _ => Mono.sel (Mono.bnd (.of_quiet q_zero) fun _ => Mono.bnd m_cellsM fun _ => Mono.bnd (.of_quiet (q_fillA _ _)) fun _ => Mono.bnd Mono.new fun _ => Mono.ret) Mono.bad
theorem m_makeSlice {t : TypeId} {l c : Value} : Mono (makeSlice P t l c) := Mono.bnd (.of_quiet q_und) fun d => by
  cases d <;> first | exact Mono.bad | skip
  exact Mono.bnd (.of_quiet q_size) fun _ => Mono.bnd (.of_quiet q_natOf) fun _ => Mono.bnd (.of_quiet q_natOf) fun _ => Mono.sel (Mono.bnd (.of_quiet q_zero) fun _ => Mono.bnd m_cellsM fun _ => Mono.bnd Mono.new fun _ => Mono.ret) Mono.bad
theorem m_conv {s d : TypeId} {x : Value} : Mono (conv P s d x) := Mono.bnd (.of_quiet q_und) fun s => Mono.bnd (.of_quiet q_und) fun d => by
  split
  · exact .of_quiet q_unsafeP
  · split
    · exact .of_quiet q_mkInt
    · exact Mono.bad
  · split
    · exact Mono.ret
    · refine Mono.bnd (.of_quiet q_und) fun e => ?_
      split
      · exact Mono.forceN fun _ => Mono.sel (Mono.bnd Mono.new fun _ => Mono.ret) Mono.bad
      · exact Mono.bad
    · exact Mono.bad
  · split
    · refine Mono.bnd (.of_quiet q_und) fun e => ?_
      split
      · exact Mono.ret
      · exact Mono.sel Mono.ret (Mono.bnd (.of_quiet q_rd) fun _ => Mono.bnd Mono.opt fun _ => Mono.ret)
      · exact Mono.bad
    · exact Mono.bad
  · exact Mono.bad
theorem m_grown {elem : TypeId} {sz m : Nat} {s : Bool} {cs : List Value} : Mono (grown elem sz m s cs) := Mono.bnd Mono.new fun _ => Mono.forceN fun _ => Mono.ret
theorem m_inPlace {a : Addr} {sz ln n cap : Nat} {nw : List Value} : Mono (inPlace a sz ln n cap nw) := Mono.bnd m_wr fun _ => Mono.forceN fun _ => Mono.ret
theorem m_append {t : TypeId} {xt : Option TypeId} {s x : Value} : Mono (append P t xt s x) := Mono.bnd (.of_quiet q_und) fun d => by
  cases d <;> first | exact Mono.bad | skip
  refine Mono.bnd (.of_quiet q_isMk) fun mk => ?_
  cases s <;> first | exact Mono.bad | skip
  refine Mono.bnd (.of_quiet q_size) fun sz => Mono.bnd (Mono.sel (.of_quiet q_natOf) (.of_quiet q_lenOf)) fun n => Mono.sel Mono.ret (Mono.sel (Mono.bnd (.of_quiet q_newCells) fun nw => ?_) Mono.bad)
  rename_i el base ln cap
  cases base with
  | none => exact m_grown
  | some a =>
    refine Mono.sel (Mono.sel m_inPlace (Mono.bnd (.of_quiet q_rd) fun _ => m_grown)) (Mono.sel Mono.bad (Mono.bnd (.of_quiet q_row) fun r => ?_))
    cases r
    exact Mono.sel (Mono.sel m_inPlace (Mono.bnd Mono.opt fun _ => Mono.bnd Mono.kill fun _ => m_grown)) Mono.bad
theorem m_strAt {t : TypeId} {p : Option Addr} {n : Int} : Mono (strAt P t p n) := by
  unfold strAt
  split
  · exact Mono.ret
  · exact Mono.ret
  · refine Mono.bnd (.of_quiet q_und) fun d => ?_
    split
    · refine Mono.bnd (.of_quiet q_row) fun r => ?_
      cases r
      exact Mono.sel (Mono.sel (Mono.sel (Mono.bnd Mono.opt fun _ => Mono.bnd Mono.opt fun _ => Mono.bnd Mono.kill fun _ => Mono.ret) Mono.bad) Mono.bad) Mono.bad
    · exact Mono.bad
  · exact Mono.bad
theorem m_builtin {b : Builtin} {ts : List TypeId} {args : List Value} : Mono (builtin P b ts args) := Mono.bnd Mono.opt fun t => by
  cases b <;> first | exact Mono.bad | dsimp only
  · split
    · exact m_append
    · exact Mono.bad
  · split
    · exact .of_quiet q_capB
    · exact Mono.bad
  · split
    · exact .of_quiet q_copy0
    · exact Mono.bad
  · split
    · exact .of_quiet q_lenB
    · exact Mono.bad
  · split
    · exact .of_quiet (q_fold1 (fun _ _ => q_max2) _ _)
    · exact Mono.bad
  · split
    · exact .of_quiet (q_fold1 (fun _ _ => q_min2) _ _)
    · exact Mono.bad
  · split
    · exact Mono.ret
    · rename_i a n c
      exact .of_quiet (q_sliceData (x := .slice (some a) n c))
    · exact Mono.bad
  · split
    · exact Mono.ret
    · exact Mono.ret
    · rename_i a k n
      exact m_strAt (t := t) (p := some a) (n := .ofNat (n + 1))
    · exact Mono.bad
theorem m_exec1 {o : Op} {ks : T Unit} {t : Env} : Mono (exec1 P o ks t) := by
  cases o <;> first | exact (Mono.bad : Mono (Ev.bad : M Out)) | skip
  case move x => exact m_opk fun _ => Mono.ret
  case assign x => exact m_opk fun _ => Mono.ret
  case pick x a b =>
    refine m_opk fun v => ?_
    unfold pick
    split
    · exact m_opk fun _ => Mono.ret
    · exact m_opk fun _ => Mono.ret
    · exact Mono.bad
  case alloc => exact Mono.bnd (.of_quiet q_zero) fun _ => m_newPtr
  case box => exact m_opk fun _ => m_newPtr
  case build => exact m_opkp _ fun _ => m_v1 (.of_quiet q_build)
  case buildSlice => exact m_opkp _ fun _ => m_v1 m_buildSlice
  case insert => exact m_opk fun _ => m_opk fun _ => m_opk fun _ => m_u1 m_mapUpdate
  case mapUpdate => exact m_opk fun _ => m_opk fun _ => m_opk fun _ => m_u1 m_mapUpdate
  case load ty a =>
    cases a with
    | global g => exact (m_v1 (.of_quiet q_globM) : Mono (v1 (globM P ty g)))
    | tmp i =>
      show Mono (opk ks t (.tmp i) fun v => v1 (bnd (addr v) (loadVar P ty)))
      exact m_opk fun _ => m_v1 (Mono.bnd (.of_quiet q_addr) fun _ => .of_quiet q_loadVar)
    | const v =>
      show Mono (opk ks t (.const v) fun v => v1 (bnd (addr v) (loadVar P ty)))
      exact m_opk fun _ => m_v1 (Mono.bnd (.of_quiet q_addr) fun _ => .of_quiet q_loadVar)
    | func f =>
      show Mono (opk ks t (.func f) fun v => v1 (bnd (addr v) (loadVar P ty)))
      exact m_opk fun _ => m_v1 (Mono.bnd (.of_quiet q_addr) fun _ => .of_quiet q_loadVar)
  case store => exact m_opk fun _ => m_opk fun _ => m_u1 (Mono.bnd (.of_quiet q_addr) fun _ => m_storeVar)
  case nilCheck =>
    refine m_opk fun v => ?_
    unfold nilChk
    split <;> first | exact Mono.ret | exact Mono.bad
  case binOp => exact m_opk fun _ => m_opk fun _ => m_v1 (.of_quiet q_binOp)
  case unOp => exact m_opk fun _ => m_v1 (.of_quiet q_un)
  case convert => exact m_opk fun _ => m_v1 m_conv
  case makeInterface => exact m_opk fun _ => Mono.bnd (.of_quiet q_und) fun _ => Mono.sel Mono.bad Mono.ret
  case makeFunc =>
    refine m_opks _ fun _ => m_opks _ fun _ => ?_
    unfold mkF
    split <;> first | exact Mono.ret | exact Mono.bad
  case makeMap =>
    refine m_opko fun r => ?_
    cases r with
    | none => exact m_newMap
    | some x =>
      refine Mono.bnd (.of_quiet q_und) fun d => ?_
      cases d <;> first | exact Mono.bad | skip
      refine Mono.bnd (.of_quiet ?_) fun _ => m_newMap
      intro h c a h' c' e
      cases x <;> first | (cases e; done) | (cases e; exact ⟨rfl, rfl⟩)
  case makeSlice => exact m_opk fun _ => m_opk fun _ => m_v1 m_makeSlice
  case slice => exact m_opk fun _ => m_opko fun _ => m_opko fun _ => m_opko fun _ => m_v1 (.of_quiet q_slice)
  case fieldAddr => exact m_opk fun _ => m_v1 (.of_quiet q_fieldAddr)
  case field => exact m_opk fun _ => m_v1 (.of_quiet q_field)
  case indexAddr => exact m_opk fun _ => m_opk fun _ => m_v1 (.of_quiet q_indexAddr)
  case index => exact m_opk fun _ => m_opk fun _ => m_v1 (.of_quiet q_index)
  case lookup => exact m_opk fun _ => m_opk fun _ => m_v1 (.of_quiet q_lookup)
  case range => exact m_opk fun _ => m_v1 m_range
  case next => exact m_opk fun _ => m_v1 (fun _ _ _ _ _ e => Nat.le_of_eq (m_next e).symm)
  case entry => exact m_opk fun _ => m_v1 (.of_quiet q_entry)
  case typeAssert => exact m_opk fun _ => m_v1 (.of_quiet q_typeAssert)
  case extract => exact m_opk fun _ => .of_quiet q_ext
  case call cl =>
    refine m_opks _ fun args => ?_
    obtain ⟨cal, as, ats⟩ := cl
    cases cal with
    | builtin b => exact m_v1 m_builtin
    | value f =>
      refine m_opk fun v => ?_
      unfold callV
      split <;> first | exact Mono.ret | exact Mono.bad
    | invoke r n => exact (Mono.bad : Mono (Ev.bad : M Out))
end
end Go.Ev

namespace Go.Ev
section
variable {P : Program} {callF : FuncId → List Value → M Value} {yieldF : Nat → List Value → M Value}
theorem m_isB {w : Bool} {v : Value} : Mono (isB w v) := by
  unfold isB
  split <;> first | exact Mono.ret | exact Mono.bad
theorem m_wanted {all : List Oper} {ks : T Unit} {t : Env} {g : Option (Nat × Bool)} : Mono (wanted all ks t g) := by
  cases g with
  | none => exact Mono.ret
  | some p =>
    show Mono (@Option.rec Nat (fun _ => M Bool) bad (fun d => slot ks t d (isB p.2)) (guardT all p.1))
    cases guardT all p.1 with
    | none => exact Mono.bad
    | some d => exact m_slot fun _ => m_isB
theorem m_opV (hC : ∀ f l, Mono (callF f l)) (hY : ∀ f l, Mono (yieldF f l)) {all : List Oper} {ks : T Unit} {o : Oper} {t : Env} : Mono (opV P callF yieldF all ks o t) := by
  refine Mono.bnd m_wanted fun b => Mono.sel (Mono.bnd m_exec1 fun r => ?_) Mono.ret
  cases r with
  | val v => exact Mono.ret
  | call f l => exact hC f l
  | yield f l => exact hY f l
theorem putK_eq {α : Type} {ks : T Unit} {t : Env} {d : Option Tmp} {v : Value} {k : Env → α} : ∃ t', putK ks t d v k = k t' := by
  cases d with
  | none => exact ⟨t, rfl⟩
  | some d =>
    obtain ⟨vt, al, ms⟩ := t
    show ∃ t', (@Bool.rec (fun _ => α) (k (.mk vt (.c d v al) ms)) (T.putK (some v) vt d fun vt => k (.mk vt al ms)) (isP ks d)) = k t'
    cases isP ks d with
    | false => exact ⟨_, rfl⟩
    | true => exact ⟨_, T.putK_eq _ _ _ _⟩
theorem m_putK {α : Type} {ks : T Unit} {t : Env} {d : Option Tmp} {v : Value} {k : Env → M α} (hk : ∀ t, Mono (k t)) : Mono (putK ks t d v k) := by
  obtain ⟨t', e⟩ := putK_eq (ks := ks) (t := t) (d := d) (v := v) (k := k)
  rw [e]; exact hk t'
theorem m_deferV {dF : FuncId → Bool} {l : List Value} {v : Value} : Mono (deferV dF l v) := by
  unfold deferV
  split
  · exact Mono.sel Mono.ret Mono.bad
  · exact Mono.bad
theorem m_opD {dF : FuncId → Bool} {all : List Oper} {ks : T Unit} {o : Oper} {c : Call} {t : Env} : Mono (opD dF all ks o c t) := by
  refine Mono.bnd m_wanted fun b => Mono.sel ?_ Mono.bad
  split
  · exact m_opks _ fun _ => m_opk fun v => Mono.bnd m_deferV fun _ => Mono.ret
  · exact Mono.bad
theorem runOps_cons {dF : FuncId → Bool} {ks : T Unit} {all : List Oper} {o : Oper} {os : List Oper} {t : Env} : runOps P callF yieldF dF ks all (o :: os) t = (match deferOf o.op with
      | some c => bnd (opD dF all ks o c t) (runOps P callF yieldF dF ks all os)
      | none => bnd (opV P callF yieldF all ks o t) fun v => putK ks t o.dst v (runOps P callF yieldF dF ks all os)) := rfl
theorem m_runOps {dF : FuncId → Bool} (hC : ∀ f l, Mono (callF f l)) (hY : ∀ f l, Mono (yieldF f l)) {ks : T Unit} {all : List Oper} : ∀ (os : List Oper) (t : Env), Mono (runOps P callF yieldF dF ks all os t) := by
  intro os
  induction os with
  | nil => exact fun t => Mono.ret
  | cons o os ih =>
    intro t
    rw [runOps_cons]
    cases deferOf o.op with
    | some c => exact Mono.bnd m_opD fun t => ih t
    | none => exact Mono.bnd (m_opV hC hY) fun v => m_putK fun t => ih t
/-- a slot gets a value -/
noncomputable def put1 (ks : T Unit) (t : Env) (d : Option Tmp) (v : Value) : Env := putK ks t d v fun t => t
theorem putK_pure {α : Type} {ks : T Unit} {t : Env} {d : Option Tmp} {v : Value} {k : Env → α} : putK ks t d v k = k (put1 ks t d v) := by
  cases d with
  | none => rfl
  | some d =>
    obtain ⟨vt, al, ms⟩ := t
    show (@Bool.rec (fun _ => α) (k (.mk vt (.c d v al) ms)) (T.putK (some v) vt d fun vt => k (.mk vt al ms)) (isP ks d)) = k (@Bool.rec (fun _ => Env) (.mk vt (.c d v al) ms) (T.putK (some v) vt d fun vt => .mk vt al ms) (isP ks d))
    cases isP ks d with
    | false => rfl
    | true =>
      show (T.putK (some v) vt d fun vt => k (.mk vt al ms)) = k (T.putK (some v) vt d fun vt => .mk vt al ms)
      rw [T.putK_eq, T.putK_eq]
noncomputable def mrg0 (q : Nat → Bool) (al : List Al) (h : H) : H := mrg q al h fun h => h
theorem mrg_eq {α : Type} (q : Nat → Bool) : ∀ (al : List Al) (h : H) (k : H → α), mrg q al h k = k (mrg0 q al h) := by
  intro al
  induction al with
  | nil => exact fun h k => rfl
  | cons a al ih =>
    intro h k
    obtain ⟨j, n, e⟩ := a
    show (@Bool.rec (fun _ => α) (mrg q al h k) (T.putK (some e) h n fun h => mrg q al h k) (q j)) = k (@Bool.rec (fun _ => H) (mrg q al h fun h => h) (T.putK (some e) h n fun h => mrg q al h fun h => h) (q j))
    cases q j with
    | false => exact ih h k
    | true =>
      show (T.putK (some e) h n fun h => mrg q al h k) = k (T.putK (some e) h n fun h => mrg q al h fun h => h)
      rw [T.putK_eq, T.putK_eq]; exact ih _ k
theorem selR_ok {α : Type} {b : Bool} {x y : R α} {r : R α} : (@Bool.rec (fun _ => R α) y x b) = r ↔ (b = true ∧ x = r) ∨ (b = false ∧ y = r) := by
  cases b <;> simp
section
variable {β : Type} {ks : T Unit} {all : List Oper} {o : Oper} {m i : Nat} {ts : List Env} {al : List Al} {es : List Fx} {t : Env} {k : KD β} {h h' : H} {c c' : Nat} {r : β}
theorem cVal_ok {x : R Value} {k : Env → M β} (e : cVal ks t o x k h c = .ok r h' c') : ∃ v hh', x = .ok v hh' c ∧ k (put1 ks t o.dst v) h c = .ok r h' c' := by
  cases x with
  | bad => cases e
  | ok v hh' c1 =>
    rcases selR_ok.1 (show (@Bool.rec (fun _ => R β) .bad (putK ks t o.dst v (fun t => k t h c)) (Nat.beq c1 c)) = .ok r h' c' from e) with ⟨hb, e⟩ | ⟨_, e⟩
    · have := Nat.eq_of_beq_eq_true hb
      subst this
      rw [putK_pure] at e
      exact ⟨v, hh', rfl, e⟩
    · cases e
theorem cNew_ok {x : R Value} (e : cNew ks t ts o i al es x k h c = .ok r h' c') : (∃ v hh', x = .ok v hh' c ∧ k (put1 ks t o.dst v) ts al es h c = .ok r h' c') ∨
    (∃ v hh' e1, x = .ok v hh' (c + 1) ∧ T.get hh' c = some e1 ∧ k (put1 ks t o.dst v) ts (.mk i c e1 :: al) es h (c + 1) = .ok r h' c') := by
  cases x with
  | bad => cases e
  | ok v hh' c1 =>
    rcases selR_ok.1 (show (@Bool.rec (fun _ => R β)
      (@Bool.rec (fun _ => R β) .bad (Option.rec (motive := fun _ => R β) .bad (fun e => putK ks t o.dst v (fun t => k t ts (.mk i c e :: al) es h c1)) (T.get hh' c)) (Nat.beq c1 (Nat.succ c)))
      (putK ks t o.dst v (fun t => k t ts al es h c)) (Nat.beq c1 c)) = .ok r h' c' from e) with ⟨hb, e⟩ | ⟨_, e⟩
    · have := Nat.eq_of_beq_eq_true hb
      subst this
      rw [putK_pure] at e
      exact .inl ⟨v, hh', rfl, e⟩
    · rcases selR_ok.1 e with ⟨hb, e⟩ | ⟨_, e⟩
      · have := Nat.eq_of_beq_eq_true hb
        subst this
        right
        cases hg : T.get hh' c with
        | none => rw [hg] at e; cases e
        | some e1 =>
          rw [hg] at e
          replace e : putK ks t o.dst v (fun t => k t ts (.mk i c e1 :: al) es h (Nat.succ c)) = .ok r h' c' := e
          rw [putK_pure] at e
          exact ⟨v, hh', e1, rfl, hg, e⟩
      · cases e
theorem cFx_ok {x : R Value} (e : cFx ks t ts o m i al es x k h c = .ok r h' c') : ∃ v hh' c1, x = .ok v hh' c1 ∧ k (put1 ks t o.dst v) ts al (.mk i m hh' :: es) h c1 = .ok r h' c' := by
  cases x with
  | bad => cases e
  | ok v hh' c1 =>
    replace e : putK ks t o.dst v (fun t => k t ts al (.mk i m hh' :: es) h c1) = .ok r h' c' := e
    rw [putK_pure] at e
    exact ⟨v, hh', c1, rfl, e⟩
/-- one operation of a region that draws its order -/
theorem opC_ok (e : opC P callF yieldF ks all o m i ts al es t k h c = .ok r h' c') :
    (cls P o.op = .val ∧ ∃ v hh', opV P callF yieldF all ks o t .lf c = .ok v hh' c ∧ k (put1 ks t o.dst v) ts al es h c = .ok r h' c') ∨
    (cls P o.op = .rd ∧ ∃ v hh', opV P callF yieldF all ks o t (mrg0 (inM m (fxM es)) al (fxH h es)) c = .ok v hh' c ∧ k (put1 ks t o.dst v) ts al es h c = .ok r h' c') ∨
    (cls P o.op = .new ∧ ((∃ v hh', opV P callF yieldF all ks o t .lf c = .ok v hh' c ∧ k (put1 ks t o.dst v) ts al es h c = .ok r h' c') ∨
      (∃ v hh' e1, opV P callF yieldF all ks o t .lf c = .ok v hh' (c + 1) ∧ T.get hh' c = some e1 ∧ k (put1 ks t o.dst v) ts (.mk i c e1 :: al) es h (c + 1) = .ok r h' c'))) ∨
    (cls P o.op = .fx ∧ ∃ v hh' c1, opV P callF yieldF all ks o t (mrg0 (inM m (fxM es)) al (fxH h es)) c = .ok v hh' c1 ∧ k (put1 ks t o.dst v) ts al (.mk i m hh' :: es) h c1 = .ok r h' c') := by
  unfold opC at e
  cases hk : cls P o.op <;> rw [hk] at e <;> dsimp only at e
  · exact .inl ⟨rfl, cVal_ok e⟩
  · rw [mrg_eq] at e; exact .inr (.inl ⟨rfl, cVal_ok e⟩)
  · rw [mrg_eq] at e; exact .inr (.inr (.inr ⟨rfl, cFx_ok e⟩))
  · exact .inr (.inr (.inl ⟨rfl, cNew_ok e⟩))
end
theorem m_opC {β : Type} (hC : ∀ f l, Mono (callF f l)) (hY : ∀ f l, Mono (yieldF f l)) {ks : T Unit} {all : List Oper} {o : Oper} {m i : Nat} {ts : List Env} {al : List Al} {es : List Fx} {t : Env} {k : KD β} (hk : ∀ t ts al es, Mono (k t ts al es)) :
    Mono (opC P callF yieldF ks all o m i ts al es t k) := fun h c r h' c' e => by
  rcases opC_ok e with ⟨_, v, hh', e1, e2⟩ | ⟨_, v, hh', e1, e2⟩ | ⟨_, ⟨v, hh', e1, e2⟩ | ⟨v, hh', e0, e1, _, e2⟩⟩ | ⟨_, v, hh', c1, e1, e2⟩
  · exact hk _ _ _ _ _ _ _ _ _ e2
  · exact hk _ _ _ _ _ _ _ _ _ e2
  · exact hk _ _ _ _ _ _ _ _ _ e2
  · exact Nat.le_of_succ_le (hk _ _ _ _ _ _ _ _ _ e2)
  · exact Nat.le_trans (m_opV hC hY _ _ _ _ _ e1) (hk _ _ _ _ _ _ _ _ _ e2)
theorem m_runD {β : Type} (hC : ∀ f l, Mono (callF f l)) (hY : ∀ f l, Mono (yieldF f l)) {ks : T Unit} {all : List Oper} : ∀ (os : List Oper) (ms : List Nat) (i : Nat) {k : KD β} (_ : ∀ t ts al es, Mono (k t ts al es)) (t : Env) (ts : List Env) (al : List Al) (es : List Fx), Mono (runD P callF yieldF ks all os ms i k t ts al es) := by
  intro os
  induction os with
  | nil => exact fun ms i k hk t ts al es => hk t ts al es
  | cons o os ih =>
    intro ms i k hk t ts al es
    cases ms with
    | nil => exact (Mono.bad : Mono (Ev.bad : M β))
    | cons m ms => exact (m_opC hC hY fun t ts al es => ih ms (Nat.succ i) hk t ts al es : Mono (opC P callF yieldF ks all o m i (t :: ts) al es t (runD P callF yieldF ks all os ms (Nat.succ i) k)))
theorem again_ok {ks : T Unit} {all : List Oper} {al : List Al} {w t : Env} {m : Nat} {o : Oper} {es : List Fx} {h h' : H} {c c' : Nat} {u : Unit} (e : again P callF yieldF ks all al w t m o es h c = .ok u h' c') :
    h' = h ∧ c' = c ∧ ∃ v hh', opV P callF yieldF all ks o w (mrg0 (inM m (fxM es)) al (fxH h es)) c = .ok v hh' c ∧ ∀ d, o.dst = some d → ∃ r, look ks t d = some r ∧ sameV 100 v r = true := by
  unfold again at e
  rw [mrg_eq] at e
  cases hx : opV P callF yieldF all ks o w (mrg0 (inM m (fxM es)) al (fxH h es)) c with
  | bad => rw [hx] at e; cases e
  | ok v hh' c1 =>
    rw [hx] at e
    rcases selR_ok.1 (show (@Bool.rec (fun _ => R Unit) .bad ((match o.dst with
      | some d => slot ks t d fun r => @Bool.rec (fun _ => M Unit) bad (ret ()) (sameV 100 v r)
      | none => ret () : M Unit) h c) (Nat.beq c1 c)) = .ok u h' c' from e) with ⟨hb, e⟩ | ⟨_, e⟩
    · have := Nat.eq_of_beq_eq_true hb
      subst this
      cases hd : o.dst with
      | none =>
        rw [hd] at e
        obtain ⟨_, rfl, rfl⟩ := ret_ok.1 e
        exact ⟨rfl, rfl, v, hh', rfl, fun d hd => by cases hd⟩
      | some d =>
        rw [hd] at e
        obtain ⟨r, hr, e⟩ := slot_ok.1 (show slot ks t d (fun r => @Bool.rec (fun _ => M Unit) bad (ret ()) (sameV 100 v r)) h c1 = .ok u h' c' from e)
        rcases sel_ok.1 e with ⟨hs, e⟩ | ⟨_, e⟩
        · obtain ⟨_, rfl, rfl⟩ := ret_ok.1 e
          exact ⟨rfl, rfl, v, hh', rfl, fun d' hd' => by cases hd'; exact ⟨r, hr, hs⟩⟩
        · exact (bad_ok.1 e).elim
    · cases e
theorem q_againAll {ks : T Unit} {all : List Oper} {al : List Al} {w t : Env} {m i : Nat} {o : Oper} : ∀ (es : List Fx) (x : Option Nat), Quiet (againAll P callF yieldF ks all al w t m i o es x) := by
  intro es
  have ag : ∀ es, Quiet (again P callF yieldF ks all al w t m o es) := fun es h c u h' c' e => let ⟨a, b, _⟩ := again_ok e; ⟨a, b⟩
  induction es with
  | nil => exact fun x => Quiet.sel (ag _) Quiet.ret
  | cons f es ih => exact fun x => Quiet.bnd (Quiet.sel (ag _) Quiet.ret) fun _ => ih _
theorem q_readers {ks : T Unit} {all : List Oper} {al : List Al} {es : List Fx} {t : Env} : ∀ (os : List Oper) (ms : List Nat) (us : List Env) (i : Nat), Quiet (readers P callF yieldF ks all al es t os ms us i) := by
  intro os
  induction os with
  | nil => exact fun ms us i => Quiet.ret
  | cons o os ih =>
    intro ms us i
    cases ms with
    | nil => exact (Quiet.bad : Quiet (Ev.bad : M Unit))
    | cons m ms =>
      cases us with
      | nil => exact (Quiet.bad : Quiet (Ev.bad : M Unit))
      | cons u us => exact Quiet.bnd (Quiet.sel (q_againAll _ _) Quiet.ret) fun _ => ih _ _ _
theorem endD_ok {ks : T Unit} {all : List Oper} {ms : List Nat} {ts : List Env} {al : List Al} {es : List Fx} {t t' : Env} {h h' : H} {c c' : Nat} (e : endD P callF yieldF ks all ms t ts al es h c = .ok t' h' c') :
    t' = t ∧ c' = c ∧ h' = mrg0 (fun j => notB (tstBit (fxM es) j)) al (fxH h es) ∧ (es = [] ∨ ∃ u, readers P callF yieldF ks all al es t all ms (revA ts []) 0 h c = .ok u h c) := by
  obtain ⟨u, h1, c1, e1, e2⟩ := bnd_ok.1 e
  have key : h1 = h ∧ c1 = c ∧ (es = [] ∨ ∃ u, readers P callF yieldF ks all al es t all ms (revA ts []) 0 h c = .ok u h c) := by
    cases es with
    | nil => obtain ⟨_, rfl, rfl⟩ := ret_ok.1 (show (ret () : M Unit) h c = .ok u h1 c1 from e1); exact ⟨rfl, rfl, .inl rfl⟩
    | cons f es =>
      obtain ⟨rfl, rfl⟩ := q_readers _ _ _ _ _ _ _ _ _ (show readers P callF yieldF ks all al (f :: es) t all ms (revA ts []) 0 h c = .ok u h1 c1 from e1)
      exact ⟨rfl, rfl, .inr ⟨u, e1⟩⟩
  obtain ⟨rfl, rfl, hk⟩ := key
  replace e2 : mrg (fun j => notB (tstBit (fxM es) j)) al (fxH h1 es) (fun h' => setH h' t h1 c1) = .ok t' h' c' := e2
  rw [mrg_eq] at e2
  cases e2
  exact ⟨rfl, rfl, rfl, hk⟩
theorem m_drawn (hC : ∀ f l, Mono (callF f l)) (hY : ∀ f l, Mono (yieldF f l)) {ks : T Unit} {all : List Oper} {t : Env} : Mono (drawn P callF yieldF ks all t) :=
  Mono.sel (m_runD hC hY _ _ _ (fun _ _ _ _ => fun _ _ _ _ _ e => by obtain ⟨_, rfl, _⟩ := endD_ok e; exact Nat.le_refl _) _ _ _ _) Mono.bad
end
end Go.Ev

namespace Go.Ev
section
variable {P : Program} {K : FuncId → T Unit} {XT : FuncId → Xt} {ih : Rn}
theorem m_unmark : ∀ ms : List Nat, Mono (unmark ms) := by
  intro ms
  induction ms with
  | nil => exact Mono.ret
  | cons r ms ih =>
    refine Mono.sel ih (Mono.bnd Mono.ent fun e => ?_)
    cases e <;> first | exact Mono.bad | exact Mono.bnd Mono.kill fun _ => ih
theorem m_resultsOf {ks : T Unit} {t : Env} : ∀ (rs : List ResultVar) {k : List Value → M Value}, (∀ l, Mono (k l)) → Mono (resultsOf P ks t rs k) := by
  intro rs
  induction rs with
  | nil => exact fun hk => hk []
  | cons r rs ih =>
    intro k hk
    cases r with
    | tmp i => exact m_slot fun v => ih fun l => hk _
    | cell a ty => exact m_slot fun p => Mono.bnd (.of_quiet q_addr) fun a => Mono.bnd (.of_quiet q_loadVar) fun v => ih fun l => hk _
theorem m_tup {l : List Value} : Mono (tup l) := by
  unfold tup
  split <;> exact Mono.ret
theorem m_leave {ks : T Unit} {rs : List ResultVar} {r : X × Env} : Mono (leave P ks rs r) := by
  unfold leave
  split
  · exact Mono.bnd (m_unmark _) fun _ => m_resultsOf _ fun _ => m_tup
  · exact Mono.bnd (m_unmark _) fun _ => m_resultsOf _ fun _ => m_tup
  · exact Mono.bad
theorem m_extern {k : Nat} {fn : Func} {args : List Value} : Mono (extern P k fn args) := by
  unfold extern
  split
  · exact Mono.bnd (.of_quiet q_mapOf) fun _ => Mono.bnd Mono.new fun _ => Mono.ret
  · exact Mono.sel (Mono.forceN fun _ => Mono.ret) Mono.bad
  · refine Mono.sel ?_ Mono.bad
    split
    · exact Mono.forceN fun _ => Mono.ret
    · exact Mono.ret
  · exact Mono.ret
  · refine Mono.bnd Mono.opt fun t => Mono.bnd (.of_quiet q_und) fun d => ?_
    split
    · refine Mono.bnd (.of_quiet q_size) fun sz => ?_
      unfold overM
      split
      · exact Mono.sel Mono.ret (Mono.sel (.of_quiet q_mkBool) (Mono.bnd (.of_quiet q_row) fun r => Mono.bnd (.of_quiet q_row) fun q => Mono.sel Mono.bad Mono.ret))
      · exact Mono.ret
    · exact Mono.bad
  · refine Mono.bnd Mono.opt fun t => Mono.bnd (.of_quiet q_und) fun d => ?_
    split
    · exact Mono.sel (Mono.bnd Mono.new fun _ => Mono.forceN fun _ => Mono.ret) Mono.bad
    · exact Mono.bad
  · exact Mono.bad
theorem m_initT : ∀ (l : List Value) (i : Nat) (t : T Value) {k : T Value → M (X × Env)}, (∀ t, Mono (k t)) → Mono (initT l i t k) := by
  intro l
  induction l with
  | nil => exact fun i t k hk => hk t
  | cons v l ih =>
    intro i t k hk
    show Mono (T.putK (some v) t i fun t => initT l (Nat.succ i) t k)
    rw [T.putK_eq]
    exact ih _ _ hk
theorem m_putPs {ks : T Unit} : ∀ (ps : List Tmp) (vs : List Value) (t : Env) {k : Env → M Value}, (∀ t, Mono (k t)) → Mono (putPs ks ps vs t k) := by
  intro ps
  induction ps with
  | nil =>
    intro vs t k hk
    cases vs with
    | nil => exact hk t
    | cons => exact (Mono.bad : Mono (Ev.bad : M Value))
  | cons p ps ih =>
    intro vs t k hk
    cases vs with
    | nil => exact (Mono.bad : Mono (Ev.bad : M Value))
    | cons v vs =>
      show Mono (putK ks t (some p) v fun t => putPs ks ps vs t k)
      exact m_putK fun t => ih vs t hk
theorem layK_pure {α : Type} : ∀ (l : List (Nat × Ent)) (h : H) (k : H → α), layK l h k = k (layK l h fun h => h) := by
  intro l
  induction l with
  | nil => exact fun h k => rfl
  | cons p l ih =>
    intro h k
    show (T.putK (some p.2) h p.1 fun h => layK l h k) = k (T.putK (some p.2) h p.1 fun h => layK l h fun h => h)
    rw [T.putK_eq, T.putK_eq]; exact ih _ k
theorem loseK_pure {α : Type} : ∀ (l : List (Nat × Ent)) (h : H) (k : H → α), loseK l h k = k (loseK l h fun h => h) := by
  intro l
  induction l with
  | nil => exact fun h k => rfl
  | cons p l ih =>
    intro h k
    show (T.putK none h p.1 fun h => loseK l h k) = k (T.putK none h p.1 fun h => loseK l h fun h => h)
    rw [T.putK_eq, T.putK_eq]; exact ih _ k
theorem andB' {b x : Bool} : (@Bool.rec (fun _ => Bool) false x b) = true ↔ b = true ∧ x = true := by cases b <;> simp
theorem useM_ok {m : Mm} {h h' : H} {c c' : Nat} {v : Value} : useM m h c = .ok v h' c' → ∃ xs c0 pre post, m = .mk xs c0 pre v post c' ∧ h' = layK post (loseK pre h fun h => h) fun h => h := by
  obtain ⟨xs, c0, pre, v0, post, c1⟩ := m
  intro e
  replace e : (loseK pre h fun h => layK post h fun h => R.ok v0 h c1) = .ok v h' c' := e
  rw [loseK_pure, layK_pure] at e
  cases e
  exact ⟨xs, c0, pre, post, rfl, rfl⟩
theorem fitsM_ok {xs : List Value} {c0 : Nat} {pre : List (Nat × Ent)} {v : Value} {post : List (Nat × Ent)} {c1 : Nat} {args : List Value} {h : H} {c : Nat} : fitsM (.mk xs c0 pre v post c1) args h c = true → c = c0 ∧ c ≤ c1 ∧ eqL (sameV 100) xs args = true ∧ holds h pre = true := by
  intro e
  obtain ⟨h1, h2⟩ := andB'.1 (show (@Bool.rec (fun _ => Bool) false (@Bool.rec (fun _ => Bool) false (@Bool.rec (fun _ => Bool) false (holds h pre) (eqL (sameV 100) xs args)) (Nat.ble c c1)) (Nat.beq c c0)) = true from e)
  obtain ⟨h3, h4⟩ := andB'.1 h2
  obtain ⟨h5, h6⟩ := andB'.1 h4
  exact ⟨Nat.eq_of_beq_eq_true h1, Nat.le_of_ble_eq_true h3, h5, h6⟩
theorem memoM_ok {d : M Value} {args : List Value} {h h' : H} {c c' : Nat} {v : Value} : ∀ (l : List Mm), memoM d l args h c = .ok v h' c' → (∃ m, m ∈ l ∧ fitsM m args h c = true ∧ useM m h c = .ok v h' c') ∨ d h c = .ok v h' c' := by
  intro l
  induction l with
  | nil => intro e; exact .inr e
  | cons m l ih =>
    intro e
    replace e : (@Bool.rec (fun _ => R Value) (memoM d l args h c) (useM m h c) (fitsM m args h c)) = .ok v h' c' := e
    rcases selR_ok.1 e with ⟨hb, e⟩ | ⟨_, e⟩
    · exact .inl ⟨m, List.mem_cons_self, hb, e⟩
    · rcases ih e with ⟨m', h1, h2⟩ | h1
      · exact .inl ⟨m', List.mem_cons_of_mem _ h1, h2⟩
      · exact .inr h1
theorem memoM_of {d : M Value} {args : List Value} {h h' : H} {c c' : Nat} {v : Value} : ∀ (l : List Mm), memoM d l args h c = .ok v h' c' → memoM bad l args h c = .ok v h' c' ∨ d h c = .ok v h' c' := by
  intro l
  induction l with
  | nil => intro e; exact .inr e
  | cons m l ih =>
    intro e
    replace e : (@Bool.rec (fun _ => R Value) (memoM d l args h c) (useM m h c) (fitsM m args h c)) = .ok v h' c' := e
    show (@Bool.rec (fun _ => R Value) (memoM bad l args h c) (useM m h c) (fitsM m args h c)) = .ok v h' c' ∨ _
    rcases selR_ok.1 e with ⟨hb, e⟩ | ⟨hb, e⟩
    · left; rw [hb]; exact e
    · rcases ih e with h1 | h1
      · left; rw [hb]; exact h1
      · exact .inr h1
theorem m_memoM {d : M Value} (hd : Mono d) {l : List Mm} {args : List Value} : Mono (memoM d l args) := fun h c v h' c' e => by
  rcases memoM_ok l e with ⟨m, _, h1, h2⟩ | h1
  · obtain ⟨xs, c0, pre, post, rfl, _⟩ := useM_ok h2
    exact (fitsM_ok h1).2.1
  · exact hd _ _ _ _ _ h1
/-- a call but by the body -/
noncomputable def xcall (P : Program) (x : Xt) (fn : Func) (args : List Value) : M Value := match x with
  | .go => bad
  | .ext k => extern P k fn args
  | .con t => opt (t args)
  | .memo l => memoM bad l args
  | .idle => bad
  | .keep => bad
theorem m_goB (hi : ∀ sf c t, Mono (ih sf c t)) {f : FuncId} {fn : Func} {args : List Value} : Mono (goB P K ih f fn args) := Mono.bnd Mono.opt fun body => Mono.bnd (m_initT _ _ _ fun vt => hi _ _ _) fun r => m_leave
/-- what is known where a call leaves a map as it is -/
theorem keepM_ok {args : List Value} {h h' : H} {c c' : Nat} {v : Value} (e : keepM P K ih args h c = .ok v h' c') :
    (∃ r g n gn es cl m o ln cp gr et s e2, args = [.map (some r), .func (.func g) ⟨[]⟩ ⟨[.pointer (some ⟨n, 0, none⟩)]⟩] ∧ P.funcs[g]? = some gn ∧ T.get h r = some (.map es cl) ∧
      T.get h n = some (.row [.slice (some ⟨m, o, none⟩) ln cp] gr et s) ∧ T.get h m = some e2 ∧ (∀ x, x ∈ es → x.born < cl) ∧
      (∀ x, x ∈ es → stays P K ih g gn n m (.row [.slice (some ⟨m, o, none⟩) ln cp] gr et s) e2 (Nat.succ c) x = true)) ∧ (v = .tuple ⟨[]⟩ ∧ h' = h) ∧ c' = Nat.succ c := by
  unfold keepM at e
  split at e
  · rename_i r g n
    obtain ⟨gn, h1, c1, e1, e2⟩ := bnd_ok.1 e
    obtain ⟨hg, rfl, rfl⟩ := opt_ok.1 e1
    obtain ⟨es, h2, c2, e3, e4⟩ := bnd_ok.1 e2
    obtain ⟨hm, rfl, rfl⟩ := mapOf_ok e3
    obtain ⟨x1, h3, c3, e5, e6⟩ := bnd_ok.1 e4
    obtain ⟨hn, rfl, rfl⟩ := ent_ok.1 e5
    unfold keepE at e6
    split at e6
    · rename_i m o ln cp gr et s
      obtain ⟨x2, h4, c4, e7, e8⟩ := bnd_ok.1 e6
      obtain ⟨hm2, rfl, rfl⟩ := ent_ok.1 e7
      replace e8 : (@Bool.rec (fun _ => R Value) .bad (@Bool.rec (fun _ => R Value) .bad (.ok (.tuple ⟨[]⟩) h2 (Nat.succ c2)) (allV (fun e : MapEntry => Nat.blt e.born es.2) es.1)) (allV (stays P K ih g gn n m (.row [.slice (some ⟨m, o, none⟩) ln cp] gr et s) x2 (Nat.succ c2)) es.1)) = .ok v h' c' := e8
      cases ha : allV (stays P K ih g gn n m (.row [.slice (some ⟨m, o, none⟩) ln cp] gr et s) x2 (Nat.succ c2)) es.1 with
      | false => rw [ha] at e8; cases e8
      | true =>
        rw [ha] at e8
        cases hb : allV (fun e : MapEntry => Nat.blt e.born es.2) es.1 with
        | false => rw [hb] at e8; cases e8
        | true =>
          rw [hb] at e8
          cases e8
          refine ⟨⟨r, g, n, gn, es.1, es.2, m, o, ln, cp, gr, et, s, x2, rfl, hg, hm, hn, hm2, ?_, ?_⟩, ⟨rfl, rfl⟩, rfl⟩
          · intro x hx
            have := allV_mem hb x hx
            exact Nat.le_of_ble_eq_true this
          · intro x hx
            exact allV_mem ha x hx
    · exact (bad_ok.1 e6).elim
  · exact (bad_ok.1 e).elim
theorem m_callBody (hi : ∀ sf c t, Mono (ih sf c t)) {f : FuncId} {args : List Value} : Mono (callBody P K XT ih f args) := by
  refine Mono.bnd Mono.opt fun fn => ?_
  cases XT f with
  | go => exact m_goB hi
  | ext k => exact m_extern
  | con t => exact Mono.opt
  | memo l => exact m_memoM (m_goB hi)
  | idle => exact Mono.bad
  | keep => exact fun _ _ _ _ _ e => by rw [(keepM_ok e).2.2]; exact Nat.le_succ _
theorem m_beginR {l : Nat} : Mono (beginR l) := Mono.bnd Mono.ent fun e => by
  split
  · exact Mono.setEnt
  · exact Mono.bad
theorem m_endR {l : Nat} {p : Option Code} {st : LoopState} : Mono (endR l p st) := Mono.bnd Mono.ent fun e => by
  split
  · exact Mono.setEnt
  · exact Mono.bad
theorem m_outR {l : Nat} {q : X × Env} : Mono (outR l q) := by
  unfold outR
  split
  · split
    · exact Mono.bnd m_endR fun _ => Mono.ret
    · exact Mono.bnd m_endR fun _ => Mono.ret
  · exact Mono.bad
theorem m_bodyR (hi : ∀ sf c t, Mono (ih sf c t)) {l : Nat} {sf : Sf} {body : Code} {r : X × Env} : Mono (bodyR ih l sf body r) := by
  unfold bodyR
  split
  · exact Mono.bnd m_beginR fun _ => Mono.bnd (hi _ _ _) fun _ => m_outR
  · exact Mono.bad
theorem m_yieldB (hi : ∀ sf c t, Mono (ih sf c t)) {l : Nat} {args : List Value} : Mono (yieldB ih l args) := by
  refine Mono.bnd Mono.ent fun e => ?_
  split
  · exact Mono.sel (m_putPs _ _ _ fun t => Mono.bnd (hi _ _ _) fun r => m_bodyR hi) Mono.bad
  · exact Mono.bad
theorem m_kRange (hi : ∀ sf c t, Mono (ih sf c t)) {r l : Nat} {sf : Sf} {t : Env} : Mono (kRange ih r l sf t) := by
  refine Mono.bnd Mono.ent fun e => ?_
  split
  · split
    · exact Mono.bad
    · refine Mono.bnd Mono.kill fun _ => ?_
      split
      · exact Mono.ret
      · exact hi _ _ _
  · exact Mono.bad
theorem m_rounds (hi : ∀ sf c t, Mono (ih sf c t)) {b : Code} {sf : Sf} : ∀ (k : Nat) (t : Env), Mono (rounds ih b sf k t) := by
  intro k
  induction k with
  | zero => exact fun t => hi _ _ _
  | succ k ik =>
    refine fun t => Mono.bnd (ik t) fun x => ?_
    split
    · exact ik _
    · exact Mono.ret
theorem m_scopeN (hi : ∀ sf c t, Mono (ih sf c t)) {b : Code} {sf : Sf} : ∀ (k : Nat) (c : Code) (t : Env), Mono (scopeN ih b sf k c t) := by
  intro k
  induction k with
  | zero => exact fun c t => (Mono.bad : Mono (Ev.bad : M (X × Env)))
  | succ k ik =>
    refine fun c t => Mono.bnd (hi _ _ _) fun x => ?_
    split
    · split
      · exact ik _ _
      · exact Mono.ret
    · exact Mono.ret
theorem m_step (hi : ∀ sf c t, Mono (ih sf c t)) {sf : Sf} {c : Code} {t : Env} : Mono (step P K XT ih sf c t) := by
  cases c
  case skip => exact Mono.ret
  case region id ops draw =>
    refine Mono.sel ?_ Mono.bad
    refine Mono.sel (Mono.bnd (m_drawn (fun _ _ => m_callBody hi) (fun _ _ => m_yieldB hi)) fun _ => Mono.ret) (Mono.bnd (m_runOps (fun _ _ => m_callBody hi) (fun _ _ => m_yieldB hi) _ _) fun _ => Mono.ret)
  case seq a b =>
    refine Mono.bnd (hi _ _ _) fun r => ?_
    unfold kSeq
    split
    · exact hi _ _ _
    · exact Mono.ret
  case cond o a b =>
    refine m_opk fun v => ?_
    unfold kCond
    split
    · exact Mono.sel (hi _ _ _) (hi _ _ _)
    · exact Mono.bad
  case block id b =>
    refine Mono.bnd (hi _ _ _) fun r => ?_
    unfold kBlock
    split
    · exact Mono.sel Mono.ret Mono.ret
    · exact Mono.ret
  case loop b =>
    refine Mono.bnd (m_rounds hi _ _) fun r => ?_
    unfold kLoop
    split
    · exact Mono.bad
    · exact Mono.ret
  case rangeFunc f ps a b =>
    refine m_opk fun v => ?_
    split
    · exact Mono.bnd Mono.new fun _ => Mono.sel Mono.bad (Mono.bnd Mono.new fun _ => Mono.bnd (m_callBody hi) fun _ => m_kRange hi)
    · exact Mono.bad
  case exit => exact Mono.ret
  case scope b => exact (m_scopeN hi 200 b t : Mono (scopeN ih b sf 200 b t))
  case label => exact Mono.ret
  case goto => exact Mono.ret
  case ret => exact Mono.ret
  case refuse => exact Mono.bad
theorem m_run : ∀ (n : Nat) (sf : Sf) (c : Code) (t : Env), Mono (run P K XT n sf c t) := by
  intro n
  induction n with
  | zero => exact fun _ _ _ => Mono.bad
  | succ n ih => exact fun _ _ _ => m_step ih
end
end Go.Ev

namespace Go.Ev
section
variable {P : Program} {σ : Nat → Value} {B : Nat} {w0 : World} {ρ ρ1 ρ2 : Rho} {G G1 G2 : Nat → Option Ent} {h h1 h2 h' : H} {c c1 c2 c' : Nat} {w w' : World}
def Fresh (ρ : Rho) (c c' : Nat) : Prop := ∀ n, c ≤ n → n < c' → ρ n = none
/-- calls and yields are sound -/
def SimC (P : Program) (σ : Nat → Value) (B : Nat) (w0 : World) (m : M Value) (ρ : Rho) (s : Sem Next) : Prop := ∀ h c v h' c', m h c = .ok v h' c' → ∀ G w, View h G → Match σ B w0 ρ G w → Fresh ρ c c' →
  ∃ ρ' G' w' v', Acts P s w v' w' ∧ Okk h h' c c' ∧ Post σ B w0 ρ ρ' G G' h h' c c' w' ∧ VR σ ρ' v v'
def SimF (P : Program) (σ : Nat → Value) (B : Nat) (w0 : World) (callF : FuncId → List Value → M Value) : Prop := GlobOk P σ B w0 ∧ ∀ f xs ys ρ, VRs σ ρ xs ys → SimC P σ B w0 (callF f xs) ρ (callFunc f ⟨ys⟩)
def SimY (P : Program) (σ : Nat → Value) (B : Nat) (w0 : World) (yieldF : Nat → List Value → M Value) : Prop := ∀ l lc xs ys ρ, ρ l = some lc → VRs σ ρ xs ys → SimC P σ B w0 (yieldF l xs) ρ (Instr.yield lc.b ⟨ys⟩)
theorem EnvR.er {ks : T Unit} {t : Env} {a : Act} (he : EnvR σ ρ ks t a.tmps) : ER σ ρ ks t a.eval where
  tmp i v hi := by
    obtain ⟨v', h1, h2⟩ := he i v hi
    have : a.eval (.tmp i) = v' := by show a.tmps.getD i undef = v'; simp [Array.getD_eq_getD_getElem?, h1]
    rw [this]; exact h2
  const v := rfl
  func f := rfl
  glob g := rfl
theorem wanted_ok {all : List Oper} {ks : T Unit} {t : Env} {o : Oper} {bb : Bool} {tmps : Array Value} (he : EnvR σ ρ ks t tmps) (e : wanted all ks t o.guard h c = .ok bb h' c') :
    Region.wanted o (yielded ⟨all⟩ tmps) = bb ∧ h' = h ∧ c' = c := by
  unfold Region.wanted
  cases hg : o.guard with
  | none => rw [hg] at e; obtain ⟨rfl, rfl, rfl⟩ := ret_ok.1 e; exact ⟨rfl, rfl, rfl⟩
  | some p =>
    obtain ⟨j, want⟩ := p
    rw [hg] at e
    replace e : (@Option.rec Nat (fun _ => M Bool) bad (fun d => slot ks t d (isB want)) (guardT all j)) h c = .ok bb h' c' := e
    have hgt : guardT all j = ((⟨all⟩ : Array Oper)[j]?).bind (·.dst) := by unfold guardT; rw [nth_eq]; simp
    rw [hgt] at e
    unfold yielded
    dsimp only
    cases hd : ((⟨all⟩ : Array Oper)[j]?).bind (·.dst) with
    | none => rw [hd] at e; exact (bad_ok.1 (show (bad : M Bool) h c = .ok bb h' c' from e)).elim
    | some d =>
      rw [hd] at e
      obtain ⟨v, hv, e1⟩ := slot_ok.1 (show slot ks t d (isB want) h c = .ok bb h' c' from e)
      obtain ⟨v', g1, g2⟩ := he d v hv
      simp only [Option.bind_some, g1]
      unfold isB at e1
      split at e1
      · cases g2
        obtain ⟨rfl, rfl, rfl⟩ := ret_ok.1 e1
        rename_i b
        refine ⟨?_, rfl, rfl⟩
        cases b <;> cases want <;> rfl
      · cases g2
        obtain ⟨rfl, rfl, rfl⟩ := ret_ok.1 e1
        exact ⟨rfl, rfl, rfl⟩
      · exact (bad_ok.1 e1).elim
/-- what one operation of a region is shown to do -/
def OpDoes (P : Program) (all : List Oper) (o : Oper) (a : Act) (w : World) (v' : Value) (w' : World) : Prop :=
  (Region.wanted o (yielded ⟨all⟩ a.tmps) = true ∧ (∀ c, o.op ≠ .defer c) ∧ Acts P (execOp a.eval o) w v' w') ∨ (Region.wanted o (yielded ⟨all⟩ a.tmps) = false ∧ v' = undef ∧ w' = w)
theorem opV_ok {callF : FuncId → List Value → M Value} {yieldF : Nat → List Value → M Value} (hC : SimF P σ B w0 callF) (hY : SimY P σ B w0 yieldF) {all : List Oper} {ks : T Unit} {o : Oper} {t : Env} {v : Value} {a : Act}
    (e : opV P callF yieldF all ks o t h c = .ok v h' c') (hv : View h G) (hM : Match σ B w0 ρ G w) (hf : Fresh ρ c c') (he : EnvR σ ρ ks t a.tmps) :
    ∃ ρ' G' w' v', OpDoes P all o a w v' w' ∧ Okk h h' c c' ∧ Post σ B w0 ρ ρ' G G' h h' c c' w' ∧ VR σ ρ' v v' := by
  obtain ⟨bb, h1, c1, e1, e2⟩ := bnd_ok.1 e
  obtain ⟨hw, rfl, rfl⟩ := wanted_ok he e1
  rcases sel_ok.1 e2 with ⟨rfl, e3⟩ | ⟨rfl, e3⟩
  · obtain ⟨out, h2, c2, e4, e5⟩ := bnd_ok.1 e3
    have hd : ∀ c, o.op ≠ .defer c := by
      intro cl hcl
      rw [hcl] at e4
      exact (bad_ok.1 (show (bad : M Out) h1 c1 = .ok out h2 c2 from e4)).elim
    have hx := exec_ok hC.1 he.er e4
    cases out with
    | val x =>
      obtain ⟨rfl, rfl, rfl⟩ := ret_ok.1 e5
      obtain ⟨ok, k⟩ := hx
      obtain ⟨n, w', ρ', G', v', r, p, hr, hn⟩ := k G w hv hM hf
      refine ⟨ρ', G', w', v', .inl ⟨hw, hd, n, w', r, ?_⟩, ok, p, hr⟩
      rcases hn with rfl | ⟨rfl, rfl⟩
      · exact ⟨rfl, rfl⟩
      · exact ⟨rfl, rfl⟩
    | call f xs =>
      obtain ⟨rfl, rfl, ys, hys, hs⟩ := hx
      obtain ⟨ρ', G', w', v', ⟨n, w1, r, hn⟩, ok, p, hr⟩ := hC.2 f xs ys ρ hys _ _ _ _ _ e5 G w hv hM hf
      exact ⟨ρ', G', w', v', .inl ⟨hw, hd, n, w1, (hs w).trans r, hn⟩, ok, p, hr⟩
    | yield l xs =>
      obtain ⟨rfl, rfl, lc, ys, hl, hys, hs⟩ := hx
      obtain ⟨ρ', G', w', v', ⟨n, w1, r, hn⟩, ok, p, hr⟩ := hY l lc xs ys ρ hl hys _ _ _ _ _ e5 G w hv hM hf
      exact ⟨ρ', G', w', v', .inl ⟨hw, hd, n, w1, (hs w).trans r, hn⟩, ok, p, hr⟩
  · obtain ⟨rfl, rfl, rfl⟩ := ret_ok.1 e3
    exact ⟨ρ, G, w, undef, .inr ⟨hw, rfl, rfl⟩, Okk.refl _ _, Post.refl hM hv, .tuple [] [] .nil⟩
theorem look_mk {ks : T Unit} {vt : T Value} {al : A} {ms : List Nat} {i : Nat} : look ks (.mk vt al ms) i = if isP ks i then T.get vt i else alook al i := rfl
theorem look_put {ks : T Unit} {t : Env} {d : Tmp} {v : Value} {α : Type} {k : Env → α} : ∃ t', putK ks t (some d) v k = k t' ∧ marksOf t' = marksOf t ∧ ∀ i x, look ks t' i = some x → (i = d ∧ x = v) ∨ (i ≠ d ∧ look ks t i = some x) := by
  obtain ⟨vt, al, ms⟩ := t
  have e : putK ks (.mk vt al ms) (some d) v k = (@Bool.rec (fun _ => α) (k (.mk vt (.c d v al) ms)) (T.putK (some v) vt d fun vt => k (.mk vt al ms)) (isP ks d)) := rfl
  rw [e]
  cases hd : isP ks d with
  | false =>
    refine ⟨.mk vt (.c d v al) ms, rfl, rfl, fun i x hx => ?_⟩
    rw [look_mk] at hx ⊢
    by_cases hi : i = d
    · subst hi
      rw [hd, if_neg (by decide)] at hx
      have : alook (.c i v al) i = some v := by unfold alook; rw [if_pos rfl]
      rw [this] at hx
      cases hx
      exact .inl ⟨rfl, rfl⟩
    · right
      refine ⟨hi, ?_⟩
      have : alook (.c d v al) i = alook al i := by rw [alook, if_neg (fun h => hi h.symm)]
      rw [this] at hx
      exact hx
  | true =>
    refine ⟨.mk (T.put (some v) vt d) al ms, T.putK_eq _ _ _ _, rfl, fun i x hx => ?_⟩
    rw [look_mk] at hx ⊢
    by_cases hi : i = d
    · subst hi
      rw [hd, if_pos rfl] at hx
      rcases T.get_put _ _ _ _ _ hx with ⟨_, h⟩ | ⟨h, _⟩
      · cases h; exact .inl ⟨rfl, rfl⟩
      · exact absurd rfl h
    · right
      refine ⟨hi, ?_⟩
      by_cases hp : isP ks i = true
      · rw [if_pos hp] at hx ⊢
        rcases T.get_put _ _ _ _ _ hx with ⟨h, _⟩ | ⟨_, h⟩
        · exact absurd h hi
        · exact h
      · rw [if_neg hp] at hx ⊢
        exact hx
theorem EnvR.put {ks : T Unit} {t : Env} {a : Act} {d : Option Tmp} {v v' : Value} {α : Type} {k : Env → α} (he : EnvR σ ρ ks t a.tmps) (hv : VR σ ρ v v') (hd : ∀ i, d = some i → i < a.tmps.size) :
    ∃ t', putK ks t d v k = k t' ∧ marksOf t' = marksOf t ∧ EnvR σ ρ ks t' (a.put d v').tmps := by
  cases d with
  | none => exact ⟨t, rfl, rfl, he⟩
  | some d =>
    obtain ⟨t', e1, e2, e3⟩ := look_put (ks := ks) (t := t) (d := d) (v := v) (k := k)
    refine ⟨t', e1, e2, fun i x hx => ?_⟩
    have hlt := hd d rfl
    show ∃ v'_1, (a.tmps.setIfInBounds d v')[i]? = some v'_1 ∧ _
    rcases e3 i x hx with ⟨rfl, rfl⟩ | ⟨hi, hx⟩
    · exact ⟨v', Array.getElem?_setIfInBounds_self_of_lt hlt, hv⟩
    · obtain ⟨y, g1, g2⟩ := he i x hx
      exact ⟨y, by rw [Array.getElem?_setIfInBounds_ne (fun h => hi h.symm)]; exact g1, g2⟩
end
end Go.Ev

namespace Go.Ev
section
variable {P : Program} {σ : Nat → Value} {B : Nat} {w0 : World} {ρ ρ1 ρ2 : Rho} {G G1 G2 : Nat → Option Ent} {h h1 h2 h' : H} {c c1 c2 c' : Nat} {w w' : World}
theorem opDoes_cons {all : List Oper} {b : Frame} {o : Oper} {i : Nat} {is : List Nat} {a a' : Act} {w1 : World} {v' : Value} (ho : all[i]? = some o) (hd : OpDoes P all o a w v' w1) (h : OpsR P b ⟨all⟩ (a.put o.dst v') w1 is a' w') : OpsR P b ⟨all⟩ a w (i :: is) a' w' := by
  have ho : (⟨all⟩ : Array Oper)[i]? = some o := by simpa using ho
  rcases hd with ⟨hw, hnd, ha⟩ | ⟨hw, rfl, rfl⟩
  · exact OpsR.cons ho hw hnd ha h
  · exact OpsR.pass ho hw h
theorem put_size {a : Act} {d : Option Tmp} {v : Value} : (a.put d v).tmps.size = a.tmps.size := by cases d <;> simp [Act.put]
theorem put_defers {a : Act} {d : Option Tmp} {v : Value} : (a.put d v).defers = a.defers := by cases d <;> rfl
theorem allL_mem {α : Type} {p : α → Bool} : ∀ {l : List α}, allL p l = true → ∀ x, x ∈ l → p x = true := by
  intro l
  induction l with
  | nil => intro _ x hx; cases hx
  | cons y l ih =>
    intro h x hx
    replace h : (@Bool.rec (fun _ => Bool) false (allL p l) (p y)) = true := h
    cases hy : p y with
    | false => rw [hy] at h; cases h
    | true =>
      rw [hy] at h
      cases hx with
      | head => exact hy
      | tail _ hx => exact ih h x hx
theorem deferT_look {ks : T Unit} {t : Env} : look ks (deferT t) = look ks t := by cases t; rfl
theorem deferT_marks {t : Env} : marksOf (deferT t) = 0 :: marksOf t := by cases t; rfl
theorem deferOf_some {o : Op} {cl : Call} (h : deferOf o = some cl) : o = .defer cl := by
  cases o <;> first | (cases h; done) | skip
  case defer c => cases h; rfl
theorem deferOf_none {o : Op} (h : deferOf o = none) : ∀ c, o ≠ .defer c := by
  rintro c rfl
  cases h
theorem opD_ok {dF : FuncId → Bool} (hI : ∀ g, dF g = true → IdleFn P g) {all : List Oper} {ks : T Unit} {o : Oper} {cl : Call} {t t' : Env} {a : Act} (hcl : o.op = .defer cl) (e : opD dF all ks o cl t h c = .ok t' h' c') (he : EnvR σ ρ ks t a.tmps) :
    h' = h ∧ c' = c ∧ t' = deferT t ∧ o.dst = none ∧ Region.wanted o (yielded ⟨all⟩ a.tmps) = true ∧ ∃ d, IdleDef P d ∧ ∀ w, (resolve a.eval cl o.type).run P w = .ok d w := by
  obtain ⟨b, h1, c1, e1, e2⟩ := bnd_ok.1 e
  obtain ⟨hw, rfl, rfl⟩ := wanted_ok he e1
  rcases sel_ok.1 e2 with ⟨rfl, e3⟩ | ⟨_, e3⟩
  case inr => exact (bad_ok.1 e3).elim
  cases hc : cl.callee <;> rw [hc] at e3 <;> first | exact (bad_ok.1 (show (bad : M Env) h1 c1 = .ok t' h' c' from e3)).elim | skip
  rename_i f
  cases hd : o.dst with
  | some d => rw [hd] at e3; exact (bad_ok.1 (show (bad : M Env) h1 c1 = .ok t' h' c' from e3)).elim
  | none =>
    rw [hd] at e3
    obtain ⟨vs, e4, hvs⟩ := opks_ok he.er _ (show opks ks t cl.args.toList (fun l => opk ks t f fun v => bnd (deferV dF l v) fun _ => ret (deferT t)) h1 c1 = .ok t' h' c' from e3)
    obtain ⟨v, e5, hv⟩ := opk_ok he.er e4
    obtain ⟨_, h2, c2, e6, e7⟩ := bnd_ok.1 e5
    obtain ⟨rfl, rfl, rfl⟩ := ret_ok.1 e7
    generalize hF : a.eval f = F at hv
    unfold deferV at e6
    split at e6
    case h_2 => exact (bad_ok.1 e6).elim
    rename_i g z
    cases hv with | func _ _ _ xs' ys' hx hy =>
    cases hx
    cases hy with | cons _ y _ _ hy1 hy2 =>
    cases hy2
    rcases sel_ok.1 e6 with ⟨hg, e8⟩ | ⟨_, e8⟩
    case inr => exact (bad_ok.1 e8).elim
    obtain ⟨_, rfl, rfl⟩ := ret_ok.1 e8
    obtain ⟨fn, body, q1, q2, q3, q4⟩ := hI g hg
    have hargs : cl.args.map a.eval = #[] := by
      have h0 := hvs.length
      rw [List.length_map] at h0
      have h1 : cl.args = #[] := Array.eq_empty_of_size_eq_zero (by simpa using h0.symm)
      rw [h1]; simp
    refine ⟨rfl, rfl, rfl, rfl, hw, { target := .fn (.func g) ⟨[y]⟩, args := #[] }, ⟨.func g, ⟨[y]⟩, g, #[y], rfl, fun w => ⟨?_, q4 _ w⟩⟩, fun w => ?_⟩
    · have hne : ¬ fn.name = "runtime.NumGoroutine" := by simpa using q3
      show (callFunc g ((#[] : Array Value) ++ ⟨[y]⟩)).run P w = .ok (.enter g #[y]) w
      simp [callFunc, q1, q2, hne]
    · unfold resolve
      rw [hc]
      show (Deferred.ofValue (a.eval f) (cl.args.map a.eval)).run P w = _
      rw [hF, hargs]; rfl
theorem runOps_ok {callF : FuncId → List Value → M Value} {yieldF : Nat → List Value → M Value} {dF : FuncId → Bool} (hC : SimF P σ B w0 callF) (hY : SimY P σ B w0 yieldF) (hI : ∀ g, dF g = true → IdleFn P g) (mC : ∀ f l, Mono (callF f l)) (mY : ∀ f l, Mono (yieldF f l)) {all : List Oper} {ks : T Unit} {b : Frame} {nt : Nat}
    (hdst : dstOk nt all = true) : ∀ (os : List Oper) (i : Nat) (t t' : Env) (h : H) (c : Nat) (ρ : Rho) (G : Nat → Option Ent) (w : World) (a : Act), all.drop i = os → runOps P callF yieldF dF ks all os t h c = .ok t' h' c' → View h G → Match σ B w0 ρ G w → Fresh ρ c c' → EnvR σ ρ ks t a.tmps → nt ≤ a.tmps.size → DfR P ρ (marksOf t) a.defers →
    (b.roundOf = none ∨ marksOf t' = []) →
    ∃ ρ' G' w' a', OpsR P b ⟨all⟩ a w (List.range' i os.length) a' w' ∧ Okk h h' c c' ∧ Post σ B w0 ρ ρ' G G' h h' c c' w' ∧ EnvR σ ρ' ks t' a'.tmps ∧ nt ≤ a'.tmps.size ∧ DfR P ρ' (marksOf t') a'.defers ∧ ∃ l, marksOf t' = l ++ marksOf t := by
  intro os
  induction os with
  | nil =>
    intro i t t' h c ρ G w a _ e hv hM hf he hn hdf hb
    obtain ⟨rfl, rfl, rfl⟩ := ret_ok.1 e
    exact ⟨ρ, G, w, a, OpsR.nil, Okk.refl _ _, Post.refl hM hv, he, hn, hdf, [], rfl⟩
  | cons o os ih =>
    intro i t t' h c ρ G w a hdr e hv hM hf he hn hdf hb
    have ho : all[i]? = some o := by
      have : (all.drop i)[0]? = some o := by rw [hdr]; rfl
      simpa using this
    have hdr2 : all.drop (i + 1) = os := by rw [← List.drop_drop, hdr]; rfl
    rw [runOps_cons] at e
    cases hdo' : deferOf o.op with
    | some cl =>
      rw [hdo'] at e
      obtain ⟨t1, h1, c1, e1, e2⟩ := bnd_ok.1 e
      obtain ⟨rfl, rfl, rfl, hdn, hw, d, hid, hres⟩ := opD_ok hI (deferOf_some hdo') e1 he
      have hdf1 : DfR P ρ (marksOf (deferT t)) (Act.mk a.tmps (d :: a.defers)).defers := by rw [deferT_marks]; exact .idle d _ _ hid hdf
      obtain ⟨ρ2, G2, w2, a2, hops, ok2, p2, he2, hn2, hd2, l, hl⟩ := ih (i + 1) (deferT t) t' h1 c1 ρ G w (Act.mk a.tmps (d :: a.defers)) hdr2 e2 hv hM hf (by intro x v hx; rw [deferT_look] at hx; exact he x v hx) hn hdf1 hb
      rw [deferT_marks] at hl
      have hro : b.roundOf = none := by
        rcases hb with hb | hb
        · exact hb
        · rw [hl] at hb; simp at hb
      refine ⟨ρ2, G2, w2, a2, ?_, ok2, p2, he2, hn2, hd2, l ++ [0], by rw [hl]; simp⟩
      rw [List.length_cons, List.range'_succ]
      have := OpsR.later (P := P) (b := b) (ops := ⟨all⟩) (i := i) (by simpa using ho) hw (deferOf_some hdo') hro (hres w) (is := List.range' (i + 1) os.length) (a' := a2) (w' := w2)
      rw [hdn] at this
      exact this hops
    | none =>
    rw [hdo'] at e
    obtain ⟨v, h1, c1, e1, e2⟩ := bnd_ok.1 e
    have hlt : ∀ d, o.dst = some d → d < a.tmps.size := by
      intro d hd
      have := allL_mem hdst o (List.mem_of_getElem? ho)
      rw [hd] at this
      exact Nat.lt_of_lt_of_le ((blt_iff _ _).1 this) hn
    have hc1 : c ≤ c1 := m_opV mC mY _ _ _ _ _ e1
    obtain ⟨ρ1, G1, w1, v', hdo, ok1, p1, hr⟩ := opV_ok hC hY e1 hv hM (fun n a b => hf n a (Nat.lt_of_lt_of_le b (by
      obtain ⟨t1, e3⟩ := putK_eq (ks := ks) (t := t) (d := o.dst) (v := v) (k := runOps P callF yieldF dF ks all os)
      rw [e3] at e2
      exact m_runOps mC mY _ _ _ _ _ _ _ e2))) he
    obtain ⟨t1, e3, hm, he1⟩ := EnvR.put (k := runOps P callF yieldF dF ks all os) (he.le p1.le) hr hlt
    rw [e3] at e2
    obtain ⟨ρ2, G2, w2, a2, hops, ok2, p2, he2, hn2, hd2, l, hm2⟩ := ih (i + 1) t1 t' h1 c1 ρ1 G1 w1 (a.put o.dst v') hdr2 e2 p1.view p1.mt (p1.fresh ok1 (fun n a b => hf n a b)) he1 (by rw [put_size]; exact hn) (by rw [put_defers, hm]; exact hdf.le p1.le) hb
    refine ⟨ρ2, G2, w2, a2, ?_, ok1.trans ok2, Post.trans ok1 ok2 p1 p2, he2, hn2, hd2, l, by rw [hm2, hm]⟩
    rw [List.length_cons, List.range'_succ]
    exact opDoes_cons ho hdo hops
end
end Go.Ev

namespace Go.Ev
/-- marks only grow -/
def Grow (t : Env) (m : M (X × Env)) : Prop := ∀ h c x t' h' c', m h c = .ok (x, t') h' c' → ∃ l, marksOf t' = l ++ marksOf t
def Keep (t : Env) (m : M Env) : Prop := ∀ h c t' h' c', m h c = .ok t' h' c' → marksOf t' = marksOf t
section
variable {P : Program} {K : FuncId → T Unit} {XT : FuncId → Xt} {ih : Rn} {callF : FuncId → List Value → M Value} {yieldF : Nat → List Value → M Value}
theorem Grow.ret {t : Env} {x : X} : Grow t (ret (x, t)) := fun _ _ _ _ _ _ e => by
  obtain ⟨e, _, _⟩ := ret_ok.1 e
  cases e; exact ⟨[], rfl⟩
theorem Grow.bad {t : Env} : Grow t bad := fun _ _ _ _ _ _ e => (bad_ok.1 e).elim
theorem Grow.eq {t t1 : Env} {m : M (X × Env)} (he : marksOf t1 = marksOf t) (h : Grow t1 m) : Grow t m := fun h1 c x t' h' c' e => by
  obtain ⟨l, hl⟩ := h _ _ _ _ _ _ e
  exact ⟨l, by rw [hl, he]⟩
theorem Grow.le {t t1 : Env} {m : M (X × Env)} (he : ∃ l, marksOf t1 = l ++ marksOf t) (h : Grow t1 m) : Grow t m := fun h1 c x t' h' c' e => by
  obtain ⟨l, hl⟩ := h _ _ _ _ _ _ e
  obtain ⟨l0, h0⟩ := he
  exact ⟨l ++ l0, by rw [hl, h0, List.append_assoc]⟩
theorem Grow.bnd {t : Env} {m : M (X × Env)} {f : X × Env → M (X × Env)} (hm : Grow t m) (hf : ∀ x t1, Grow t1 (f (x, t1))) : Grow t (bnd m f) := fun h c x t' h' c' e => by
  obtain ⟨⟨x1, t1⟩, h1, c1, e1, e2⟩ := bnd_ok.1 e
  exact (hf x1 t1).le (hm _ _ _ _ _ _ e1) _ _ _ _ _ _ e2
theorem Grow.any {α : Type} {t : Env} {m : M α} {f : α → M (X × Env)} (hf : ∀ a, Grow t (f a)) : Grow t (Ev.bnd m f) := fun h c x t' h' c' e => by
  obtain ⟨a, h1, c1, e1, e2⟩ := bnd_ok.1 e
  exact hf a _ _ _ _ _ _ e2
theorem Grow.sel {t : Env} {b : Bool} {x y : M (X × Env)} (hx : Grow t x) (hy : Grow t y) : Grow t (@Bool.rec (fun _ => M (X × Env)) y x b) := by cases b <;> assumption
theorem g_slot {t0 : Env} {ks : T Unit} {t : Env} {i : Nat} {k : Value → M (X × Env)} (hk : ∀ v, Grow t0 (k v)) : Grow t0 (slot ks t i k) := fun _ _ _ _ _ _ e => by
  obtain ⟨v, _, e⟩ := slot_ok.1 e
  exact hk v _ _ _ _ _ _ e
theorem g_opk {t0 : Env} {ks : T Unit} {t : Env} {x : Operand} {k : Value → M (X × Env)} (hk : ∀ v, Grow t0 (k v)) : Grow t0 (opk ks t x k) := by
  cases x with
  | tmp i => exact g_slot hk
  | const v => exact Grow.sel (hk v) Grow.bad
  | global g => exact Grow.bad
  | func f => exact hk _
theorem putK_marks {α : Type} {ks : T Unit} {t : Env} {d : Option Tmp} {v : Value} {k : Env → α} : ∃ t', putK ks t d v k = k t' ∧ marksOf t' = marksOf t := by
  cases d with
  | none => exact ⟨t, rfl, rfl⟩
  | some d => obtain ⟨t', a, b, _⟩ := look_put (ks := ks) (t := t) (d := d) (v := v) (k := k); exact ⟨t', a, b⟩
theorem opD_marks {dF : FuncId → Bool} {all : List Oper} {ks : T Unit} {o : Oper} {cl : Call} {t t' : Env} {h h' : H} {c c' : Nat} (e : opD dF all ks o cl t h c = .ok t' h' c') : t' = deferT t := by
  obtain ⟨b, h1, c1, _, e2⟩ := bnd_ok.1 e
  rcases sel_ok.1 e2 with ⟨_, e3⟩ | ⟨_, e3⟩
  case inr => exact (bad_ok.1 e3).elim
  have one : ∀ (x : Operand) {k : Value → M Env} {h1 : H} {c1 : Nat}, (∀ v h1 c1, k v h1 c1 = .ok t' h' c' → t' = deferT t) → opk ks t x k h1 c1 = .ok t' h' c' → t' = deferT t := by
    intro x k h1 c1 hk e
    cases x with
    | tmp i => obtain ⟨v, _, e⟩ := slot_ok.1 e; exact hk _ _ _ e
    | const v =>
      rcases sel_ok.1 e with ⟨_, e⟩ | ⟨_, e⟩
      · exact hk _ _ _ e
      · exact (bad_ok.1 e).elim
    | global g => exact (bad_ok.1 (show (bad : M Env) h1 c1 = .ok t' h' c' from e)).elim
    | func f => exact hk _ _ _ e
  have key : ∀ (xs : List Operand) {k : List Value → M Env} {h1 : H} {c1 : Nat}, (∀ l h1 c1, k l h1 c1 = .ok t' h' c' → t' = deferT t) → opks ks t xs k h1 c1 = .ok t' h' c' → t' = deferT t := by
    intro xs
    induction xs with
    | nil => exact fun hk e => hk _ _ _ e
    | cons x xs ih => intro k h1 c1 hk e; exact one x (fun v h1 c1 e => ih (fun l h1 c1 e => hk _ _ _ e) e) e
  cases hc : cl.callee <;> rw [hc] at e3 <;> first | exact (bad_ok.1 (show (bad : M Env) h1 c1 = .ok t' h' c' from e3)).elim | skip
  rename_i f
  cases hd : o.dst with
  | some d => rw [hd] at e3; exact (bad_ok.1 (show (bad : M Env) h1 c1 = .ok t' h' c' from e3)).elim
  | none =>
    rw [hd] at e3
    refine key _ (fun l h1 c1 e => ?_) (show opks ks t cl.args.toList (fun l => opk ks t f fun v => bnd (deferV dF l v) fun _ => ret (deferT t)) h1 c1 = .ok t' h' c' from e3)
    refine one _ (fun v h1 c1 e => ?_) e
    obtain ⟨_, h2, c2, _, e2⟩ := bnd_ok.1 e
    obtain ⟨rfl, _, _⟩ := ret_ok.1 e2
    rfl
theorem k_runOps {dF : FuncId → Bool} {ks : T Unit} {all : List Oper} : ∀ (os : List Oper) (t : Env) (h : H) (c : Nat) (t' : Env) (h' : H) (c' : Nat), runOps P callF yieldF dF ks all os t h c = .ok t' h' c' → ∃ l, marksOf t' = l ++ marksOf t := by
  intro os
  induction os with
  | nil => intro t h c t' h' c' e; obtain ⟨rfl, _, _⟩ := ret_ok.1 e; exact ⟨[], rfl⟩
  | cons o os ih =>
    intro t h c t' h' c' e
    rw [runOps_cons] at e
    cases hd : deferOf o.op with
    | some cl =>
      rw [hd] at e
      obtain ⟨t1, h1, c1, e1, e2⟩ := bnd_ok.1 e
      obtain ⟨l, hl⟩ := ih t1 _ _ _ _ _ e2
      rw [opD_marks e1, deferT_marks] at hl
      exact ⟨l ++ [0], by rw [hl]; simp⟩
    | none =>
      rw [hd] at e
      obtain ⟨v, h1, c1, e1, e2⟩ := bnd_ok.1 e
      obtain ⟨t1, e3, hm⟩ := putK_marks (ks := ks) (t := t) (d := o.dst) (v := v) (k := runOps P callF yieldF dF ks all os)
      rw [e3] at e2
      obtain ⟨l, hl⟩ := ih t1 _ _ _ _ _ e2
      exact ⟨l, by rw [hl, hm]⟩
theorem put1_marks {ks : T Unit} {t : Env} {d : Option Tmp} {v : Value} : marksOf (put1 ks t d v) = marksOf t := by
  obtain ⟨t', e, hm⟩ := putK_marks (ks := ks) (t := t) (d := d) (v := v) (k := fun t => t)
  unfold put1; rw [e]; exact hm
theorem k_runD {ks : T Unit} {all : List Oper} {k : KD Env} (hk : ∀ t ts al es, Keep t (k t ts al es)) : ∀ (os : List Oper) (ms : List Nat) (i : Nat) (t : Env) (ts : List Env) (al : List Al) (es : List Fx), Keep t (runD P callF yieldF ks all os ms i k t ts al es) := by
  intro os
  induction os with
  | nil => exact fun ms i t ts al es => hk t ts al es
  | cons o os ih =>
    intro ms i t ts al es h c t' h' c' e
    cases ms with
    | nil => exact (bad_ok.1 (show (bad : M Env) h c = .ok t' h' c' from e)).elim
    | cons m ms =>
      rcases opC_ok (show opC P callF yieldF ks all o m i (t :: ts) al es t (runD P callF yieldF ks all os ms (Nat.succ i) k) h c = .ok t' h' c' from e) with ⟨_, v, hh', e1, e2⟩ | ⟨_, v, hh', e1, e2⟩ | ⟨_, ⟨v, hh', e1, e2⟩ | ⟨v, hh', e0, e1, _, e2⟩⟩ | ⟨_, v, hh', c1, e1, e2⟩ <;>
        rw [ih _ _ _ _ _ _ _ _ _ _ _ e2, put1_marks]
theorem k_drawn {ks : T Unit} {all : List Oper} {t : Env} : Keep t (drawn P callF yieldF ks all t) := by
  intro h c t' h' c' e
  rcases sel_ok.1 (show @Bool.rec (fun _ => M Env) bad (runD P callF yieldF ks all all (masks all []) 0 (endD P callF yieldF ks all (masks all [])) t [] [] []) (drawOk P all) h c = .ok t' h' c' from e) with ⟨_, e⟩ | ⟨_, e⟩
  · exact k_runD (fun t ts al es h c t' h' c' e => by obtain ⟨rfl, _⟩ := endD_ok e; rfl) _ _ _ _ _ _ _ _ _ _ _ _ e
  · exact (bad_ok.1 e).elim
theorem bare_marks {t : Env} : marksOf (bare t) = marksOf t := by cases t; rfl
theorem g_rounds (hi : ∀ sf c t, Grow t (ih sf c t)) {b : Code} {sf : Sf} : ∀ (k : Nat) (t : Env), Grow t (rounds ih b sf k t) := by
  intro k
  induction k with
  | zero => exact fun t => hi _ _ _
  | succ k ik =>
    refine fun t => Grow.bnd (ik t) fun x t1 => ?_
    cases x with
    | nor => exact ik t1
    | exit i => exact Grow.ret
    | goto l => exact Grow.ret
    | ret => exact Grow.ret
theorem g_scopeN (hi : ∀ sf c t, Grow t (ih sf c t)) {b : Code} {sf : Sf} : ∀ (k : Nat) (c : Code) (t : Env), Grow t (scopeN ih b sf k c t) := by
  intro k
  induction k with
  | zero => exact fun c t => Grow.bad
  | succ k ik =>
    refine fun c t => Grow.bnd (hi _ _ _) fun x t1 => ?_
    cases x with
    | nor => exact Grow.ret
    | exit i => exact Grow.ret
    | goto l =>
      dsimp only
      split
      · exact ik _ _
      · exact Grow.ret
    | ret => exact Grow.ret
theorem g_step (hi : ∀ sf c t, Grow t (ih sf c t)) {sf : Sf} {c : Code} {t : Env} : Grow t (step P K XT ih sf c t) := by
  cases c
  case skip => exact Grow.ret
  case region id ops draw =>
    refine Grow.sel ?_ Grow.bad
    have nor : ∀ {m : M Env}, (∀ h c t' h' c', m h c = .ok t' h' c' → ∃ l, marksOf t' = l ++ marksOf (bare t)) → Grow t (Ev.bnd m kNor) := by
      intro m hm h c x t' h' c' e
      obtain ⟨t1, h1, c1, e1, e2⟩ := bnd_ok.1 e
      obtain ⟨e3, _, _⟩ := ret_ok.1 e2
      cases e3
      obtain ⟨l, hl⟩ := hm _ _ _ _ _ e1
      exact ⟨l, by rw [hl, bare_marks]⟩
    exact Grow.sel (nor fun h c t' h' c' e => ⟨[], by rw [k_drawn _ _ _ _ _ e]; rfl⟩) (nor fun h c t' h' c' e => k_runOps _ _ _ _ _ _ _ e)
  case seq a b =>
    refine Grow.bnd (hi _ _ _) fun x t1 => ?_
    cases x with
    | nor => exact hi _ _ _
    | exit i => exact Grow.ret
    | goto l => exact Grow.ret
    | ret => exact Grow.ret
  case cond o a b =>
    refine g_opk fun v => ?_
    unfold kCond
    split
    · exact Grow.sel (hi _ _ _) (hi _ _ _)
    · exact Grow.bad
  case block id b =>
    refine Grow.bnd (hi _ _ _) fun x t1 => ?_
    cases x with
    | nor => exact Grow.ret
    | exit i => exact Grow.sel Grow.ret Grow.ret
    | goto l => exact Grow.ret
    | ret => exact Grow.ret
  case loop b =>
    refine Grow.bnd (g_rounds hi _ _) fun x t1 => ?_
    cases x with
    | nor => exact Grow.bad
    | exit i => exact Grow.ret
    | goto l => exact Grow.ret
    | ret => exact Grow.ret
  case rangeFunc f ps a b =>
    refine g_opk fun v => ?_
    split
    · refine Grow.any fun r => Grow.sel Grow.bad (Grow.any fun l => Grow.any fun _ => Grow.any fun e => ?_)
      obtain ⟨vt, al, ms⟩ := t
      cases e <;> first | exact Grow.bad | dsimp only
      split
      · exact Grow.bad
      · refine Grow.any fun _ => ?_
        split
        · exact Grow.le (t1 := .mk vt al (r :: ms)) ⟨[r], rfl⟩ Grow.ret
        · exact Grow.le (t1 := .mk vt al (r :: ms)) ⟨[r], rfl⟩ (hi _ _ _)
    · exact Grow.bad
  case exit => exact Grow.ret
  case scope b => exact (g_scopeN hi 200 b t : Grow t (scopeN ih b sf 200 b t))
  case label => exact Grow.ret
  case goto => exact Grow.ret
  case ret => exact Grow.ret
  case refuse => exact Grow.bad
theorem g_run : ∀ (n : Nat) (sf : Sf) (c : Code) (t : Env), Grow t (run P K XT n sf c t) := by
  intro n
  induction n with
  | zero => exact fun _ _ _ => Grow.bad
  | succ n ih => exact fun _ _ _ => g_step ih
end
end Go.Ev

namespace Go.Ev
section
variable {P : Program} {σ : Nat → Value} {B : Nat} {w0 : World} {ρ ρ1 ρ2 : Rho} {G G1 G2 : Nat → Option Ent} {h h1 h2 h' : H} {c c1 c2 c' : Nat} {w w' : World}
/-- a state of a frame is as the evaluator has it -/
structure At (P : Program) (σ : Nat → Value) (B : Nat) (w0 : World) (ρ : Rho) (G : Nat → Option Ent) (h : H) (sf : Sf) (t : Env) (a : Act) (w : World) : Prop where
  view : View h G
  mt : Match σ B w0 ρ G w
  env : EnvR σ ρ sf.ks t a.tmps
  size : sf.nt ≤ a.tmps.size
  dfr : DfR P ρ (marksOf t) a.defers
/-- what a run of code is shown to do; R says how the machine goes -/
def Sim (P : Program) (σ : Nat → Value) (B : Nat) (w0 : World) (R : Frame → Act → World → X → Act → World → Prop) (sf : Sf) (t : Env) (m : M (X × Env)) : Prop :=
  ∀ h c x t' h' c', m h c = .ok (x, t') h' c' → ∀ (ρ : Rho) (G : Nat → Option Ent) (w : World) (b : Frame) (a : Act), At P σ B w0 ρ G h sf t a w → Fresh ρ c c' → (b.roundOf = none ∨ marksOf t' = []) →
    ∃ ρ' G' w' a', R b a w x a' w' ∧ Okk h h' c c' ∧ Post σ B w0 ρ ρ' G G' h h' c c' w' ∧ At P σ B w0 ρ' G' h' sf t' a' w'
def RunsC (P : Program) (code : Code) : Frame → Act → World → X → Act → World → Prop := fun b a w x a' w' => Runs P b [.code code] a w x a' w'
theorem Fresh.left {c3 : Nat} (hf : Fresh ρ c c3) (h : c1 ≤ c3) : Fresh ρ c c1 := fun n a b => hf n a (Nat.lt_of_lt_of_le b h)
theorem Sim.still {R : Frame → Act → World → X → Act → World → Prop} {sf : Sf} {t : Env} {x : X} (hR : ∀ b a w, R b a w x a w) : Sim P σ B w0 R sf t (ret (x, t)) := by
  intro h c x1 t' h' c' e ρ G w b a hA hf hb
  obtain ⟨e, rfl, rfl⟩ := ret_ok.1 e
  cases e
  exact ⟨ρ, G, w, a, hR b a w, Okk.refl _ _, Post.refl hA.mt hA.view, hA⟩
theorem Sim.bad {R : Frame → Act → World → X → Act → World → Prop} {sf : Sf} {t : Env} : Sim P σ B w0 R sf t bad := fun _ _ _ _ _ _ e => (bad_ok.1 e).elim
/-- one run behind another -/
theorem Sim.bnd {R1 R : Frame → Act → World → X → Act → World → Prop} {R2 : X → Frame → Act → World → X → Act → World → Prop} {sf : Sf} {t : Env} {m : M (X × Env)} {f : X × Env → M (X × Env)} (hm : Sim P σ B w0 R1 sf t m) (hf : ∀ x t1, Sim P σ B w0 (R2 x) sf t1 (f (x, t1)))
    (gf : ∀ x t1, Grow t1 (f (x, t1))) (mf : ∀ x, Mono (f x)) (hR : ∀ b a w x a1 w1 y a2 w2, R1 b a w x a1 w1 → R2 x b a1 w1 y a2 w2 → R b a w y a2 w2) : Sim P σ B w0 R sf t (bnd m f) := by
  intro h c y t' h' c' e ρ G w b a hA hfr hb
  obtain ⟨⟨x1, t1⟩, h1, c1, e1, e2⟩ := bnd_ok.1 e
  obtain ⟨l, hl⟩ := gf x1 t1 _ _ _ _ _ _ e2
  have hb1 : b.roundOf = none ∨ marksOf t1 = [] := by
    rcases hb with hb | hb
    · exact .inl hb
    · rw [hl] at hb; exact .inr (List.append_eq_nil_iff.1 hb).2
  obtain ⟨ρ1, G1, w1, a1, r1, o1, p1, A1⟩ := hm _ _ _ _ _ _ e1 ρ G w b a hA (hfr.left (mf _ _ _ _ _ _ e2)) hb1
  obtain ⟨ρ2, G2, w2, a2, r2, o2, p2, A2⟩ := hf x1 t1 _ _ _ _ _ _ e2 ρ1 G1 w1 b a1 A1 (p1.fresh o1 hfr) hb
  exact ⟨ρ2, G2, w2, a2, hR _ _ _ _ _ _ _ _ _ r1 r2, o1.trans o2, Post.trans o1 o2 p1 p2, A2⟩
theorem Sim.mono {R R' : Frame → Act → World → X → Act → World → Prop} {sf : Sf} {t : Env} {m : M (X × Env)} (h : Sim P σ B w0 R sf t m) (hR : ∀ b a w x a' w', R b a w x a' w' → R' b a w x a' w') : Sim P σ B w0 R' sf t m :=
  fun h1 c x t' h' c' e ρ G w b a hA hf hb => let ⟨ρ', G', w', a', r, k⟩ := h h1 c x t' h' c' e ρ G w b a hA hf hb; ⟨ρ', G', w', a', hR _ _ _ _ _ _ r, k⟩
variable {ih : Rn}
def Same : Frame → Act → World → X → Act → World → Prop := fun _ _ _ _ _ _ => True
theorem sim_seq (hi : ∀ sf c t, Sim P σ B w0 (RunsC P c) sf t (ih sf c t)) (gi : ∀ sf c t, Grow t (ih sf c t)) (mi : ∀ sf c t, Mono (ih sf c t)) {c1 c2 : Code} {sf : Sf} {t : Env} : Sim P σ B w0 (RunsC P (.seq c1 c2)) sf t (cSeq ih c1 c2 sf t) := by
  refine Sim.bnd (R2 := fun x b a w y a' w' => (x = .nor ∧ Runs P b [.code c2] a w y a' w') ∨ (x ≠ .nor ∧ y = x ∧ a' = a ∧ w' = w)) (hi _ _ _) (fun x t1 => ?_) (fun x t1 => ?_) (fun x => ?_) ?_
  · cases x with
    | nor => exact (hi sf c2 t1).mono fun _ _ _ _ _ _ r => .inl ⟨rfl, r⟩
    | exit i => exact Sim.still fun _ _ _ => .inr ⟨by simp, rfl, rfl, rfl⟩
    | goto i => exact Sim.still fun _ _ _ => .inr ⟨by simp, rfl, rfl, rfl⟩
    | ret => exact Sim.still fun _ _ _ => .inr ⟨by simp, rfl, rfl, rfl⟩
  · cases x with
    | nor => exact gi _ _ _
    | exit i => exact Grow.ret
    | goto l => exact Grow.ret
    | ret => exact Grow.ret
  · obtain ⟨x, t1⟩ := x
    cases x with
    | nor => exact mi _ _ _
    | exit i => exact Mono.ret
    | goto l => exact Mono.ret
    | ret => exact Mono.ret
  · intro b a w x a1 w1 y a2 w2 r1 r2
    rcases r2 with ⟨rfl, r2⟩ | ⟨hx, rfl, rfl, rfl⟩
    · exact Runs.seq1 r1 r2
    · exact Runs.seq2 hx r1
end
end Go.Ev

namespace Go.Ev
section
variable {P : Program} {σ : Nat → Value} {B : Nat} {w0 : World} {ih : Rn}
theorem opk_at {α : Type} {sf : Sf} {t : Env} {x : Operand} {k : Value → M α} {h h' : H} {c c' : Nat} {r : α} {ρ : Rho} {G : Nat → Option Ent} {a : Act} {w : World} (hA : At P σ B w0 ρ G h sf t a w) (e : opk sf.ks t x k h c = .ok r h' c') :
    ∃ v, k v h c = .ok r h' c' ∧ VR σ ρ v (a.eval x) := opk_ok hA.env.er e
theorem sim_cond (hi : ∀ sf c t, Sim P σ B w0 (RunsC P c) sf t (ih sf c t)) {o : Operand} {c1 c2 : Code} {sf : Sf} {t : Env} : Sim P σ B w0 (RunsC P (.cond o c1 c2)) sf t (cCond ih o c1 c2 sf t) := by
  intro h c x t' h' c' e ρ G w b a hA hf hb
  obtain ⟨v, e1, hr⟩ := opk_at hA e
  unfold kCond at e1
  split at e1
  · rename_i bb
    have hv : a.eval o = .bool bb := by generalize a.eval o = y at hr; cases hr; rfl
    cases bb with
    | true =>
      obtain ⟨ρ', G', w', a', r, k⟩ := hi _ _ _ _ _ _ _ _ _ e1 ρ G w b a hA hf hb
      exact ⟨ρ', G', w', a', Runs.cond hv r, k⟩
    | false =>
      obtain ⟨ρ', G', w', a', r, k⟩ := hi _ _ _ _ _ _ _ _ _ e1 ρ G w b a hA hf hb
      exact ⟨ρ', G', w', a', Runs.cond hv r, k⟩
  · exact (bad_ok.1 e1).elim
theorem sim_block (hi : ∀ sf c t, Sim P σ B w0 (RunsC P c) sf t (ih sf c t)) {id : Nat} {c1 : Code} {sf : Sf} {t : Env} : Sim P σ B w0 (RunsC P (.block id c1)) sf t (cBlock ih id c1 sf t) := by
  intro h c y t' h' c' e ρ G w b a hA hf hb
  obtain ⟨⟨x, t1⟩, h1, c1', e1, e2⟩ := bnd_ok.1 e
  have key : ((x = .nor ∨ x = .exit id) ∧ y = .nor ∨ (x ≠ .nor ∧ x ≠ .exit id) ∧ y = x) ∧ t1 = t' ∧ h1 = h' ∧ c1' = c' := by
    cases x with
    | nor => obtain ⟨e4, rfl, rfl⟩ := ret_ok.1 e2; cases e4; exact ⟨.inl ⟨.inl rfl, rfl⟩, rfl, rfl, rfl⟩
    | exit i =>
      rcases sel_ok.1 (show (@Bool.rec (fun _ => M (X × Env)) (ret (.exit i, t1)) (ret (.nor, t1)) (Nat.beq i id)) h1 c1' = .ok (y, t') h' c' from e2) with ⟨hb, e3⟩ | ⟨hb, e3⟩
      · have := beq_of hb
        subst this
        obtain ⟨e4, rfl, rfl⟩ := ret_ok.1 e3
        cases e4
        exact ⟨.inl ⟨.inr rfl, rfl⟩, rfl, rfl, rfl⟩
      · obtain ⟨e4, rfl, rfl⟩ := ret_ok.1 e3
        cases e4
        refine ⟨.inr ⟨⟨by simp, ?_⟩, rfl⟩, rfl, rfl, rfl⟩
        intro h
        cases h
        rw [beq_eq_decide] at hb
        simp at hb
    | goto l => obtain ⟨e4, rfl, rfl⟩ := ret_ok.1 e2; cases e4; exact ⟨.inr ⟨⟨by simp, by simp⟩, rfl⟩, rfl, rfl, rfl⟩
    | ret => obtain ⟨e4, rfl, rfl⟩ := ret_ok.1 e2; cases e4; exact ⟨.inr ⟨⟨by simp, by simp⟩, rfl⟩, rfl, rfl, rfl⟩
  obtain ⟨hk, rfl, rfl, rfl⟩ := key
  obtain ⟨ρ', G', w', a', r, k⟩ := hi _ _ _ _ _ _ _ _ _ e1 ρ G w b a hA hf hb
  refine ⟨ρ', G', w', a', ?_, k⟩
  rcases hk with ⟨hx, rfl⟩ | ⟨⟨hx, hi⟩, rfl⟩
  · exact Runs.block1 hx r
  · exact Runs.block2 hx hi r
theorem sim_rounds (hi : ∀ sf c t, Sim P σ B w0 (RunsC P c) sf t (ih sf c t)) (gi : ∀ sf c t, Grow t (ih sf c t)) (mi : ∀ sf c t, Mono (ih sf c t)) {c1 : Code} {sf : Sf} : ∀ (k : Nat) (t : Env), Sim P σ B w0 (fun b a w x a' w' => Loops P b c1 a w x a' w') sf t (rounds ih c1 sf k t) := by
  intro k
  induction k with
  | zero => exact fun t => (hi sf c1 t).mono fun _ _ _ _ _ _ r => Loops.one r
  | succ k ik =>
    intro t
    refine Sim.bnd (R2 := fun x b a w y a' w' => (x = .nor ∧ Loops P b c1 a w y a' w') ∨ (x ≠ .nor ∧ y = x ∧ a' = a ∧ w' = w)) (ik t) (fun x t1 => ?_) (fun x t1 => ?_) (fun x => ?_) ?_
    · cases x with
      | nor => exact (ik t1).mono fun _ _ _ _ _ _ r => .inl ⟨rfl, r⟩
      | exit i => exact Sim.still fun _ _ _ => .inr ⟨by simp, rfl, rfl, rfl⟩
      | goto i => exact Sim.still fun _ _ _ => .inr ⟨by simp, rfl, rfl, rfl⟩
      | ret => exact Sim.still fun _ _ _ => .inr ⟨by simp, rfl, rfl, rfl⟩
    · cases x with
      | nor => exact g_rounds gi k t1
      | exit i => exact Grow.ret
      | goto l => exact Grow.ret
      | ret => exact Grow.ret
    · obtain ⟨x, t1⟩ := x
      cases x with
      | nor => exact m_rounds mi k t1
      | exit i => exact Mono.ret
      | goto l => exact Mono.ret
      | ret => exact Mono.ret
    · intro b a w x a1 w1 y a2 w2 r1 r2
      rcases r2 with ⟨rfl, r2⟩ | ⟨hx, rfl, rfl, rfl⟩
      · exact Loops.two r1 r2
      · exact r1
theorem sim_loop (hi : ∀ sf c t, Sim P σ B w0 (RunsC P c) sf t (ih sf c t)) (gi : ∀ sf c t, Grow t (ih sf c t)) (mi : ∀ sf c t, Mono (ih sf c t)) {c1 : Code} {sf : Sf} {t : Env} : Sim P σ B w0 (RunsC P (.loop c1)) sf t (cLoop ih c1 sf t) := by
  intro h c y t' h' c' e ρ G w b a hA hf hb
  obtain ⟨⟨x, t1⟩, h1, c1', e1, e2⟩ := bnd_ok.1 e
  have key : x ≠ .nor ∧ x = y ∧ t1 = t' ∧ h1 = h' ∧ c1' = c' := by
    cases x with
    | nor => exact (bad_ok.1 (show (bad : M (X × Env)) h1 c1' = .ok (y, t') h' c' from e2)).elim
    | exit i => obtain ⟨e4, rfl, rfl⟩ := ret_ok.1 e2; cases e4; exact ⟨by simp, rfl, rfl, rfl, rfl⟩
    | goto i => obtain ⟨e4, rfl, rfl⟩ := ret_ok.1 e2; cases e4; exact ⟨by simp, rfl, rfl, rfl, rfl⟩
    | ret => obtain ⟨e4, rfl, rfl⟩ := ret_ok.1 e2; cases e4; exact ⟨by simp, rfl, rfl, rfl, rfl⟩
  obtain ⟨hx, rfl, rfl, rfl, rfl⟩ := key
  obtain ⟨ρ', G', w', a', r, k⟩ := sim_rounds hi gi mi 12 t _ _ _ _ _ _ e1 ρ G w b a hA hf hb
  exact ⟨ρ', G', w', a', Runs.loop hx r, k⟩
theorem sim_scopeN (hi : ∀ sf c t, Sim P σ B w0 (RunsC P c) sf t (ih sf c t)) (gi : ∀ sf c t, Grow t (ih sf c t)) (mi : ∀ sf c t, Mono (ih sf c t)) {body : Code} {sf : Sf} : ∀ (k : Nat) (c1 : Code) (t : Env), Sim P σ B w0 (fun b a w x a' w' => Scopes P b body c1 a w x a' w') sf t (scopeN ih body sf k c1 t) := by
  intro k
  induction k with
  | zero => exact fun c1 t => Sim.bad
  | succ k ik =>
    intro c1 t
    refine Sim.bnd (R2 := fun x b a w y a' w' => (∃ l rest, x = .goto l ∧ findLabel body l = some rest ∧ Scopes P b body rest a w y a' w') ∨ ((∀ l, x = .goto l → findLabel body l = none) ∧ y = x ∧ a' = a ∧ w' = w)) (hi sf c1 t) (fun x t1 => ?_) (fun x t1 => ?_) (fun x => ?_) ?_
    · cases x with
      | nor => exact Sim.still fun _ _ _ => .inr ⟨by simp, rfl, rfl, rfl⟩
      | exit i => exact Sim.still fun _ _ _ => .inr ⟨by simp, rfl, rfl, rfl⟩
      | goto l =>
        dsimp only
        cases hl : findLabel body l with
        | some rest => exact (ik rest t1).mono fun _ _ _ _ _ _ r => .inl ⟨l, rest, rfl, hl, r⟩
        | none => exact Sim.still fun _ _ _ => .inr ⟨fun l' h => (by cases h; exact hl), rfl, rfl, rfl⟩
      | ret => exact Sim.still fun _ _ _ => .inr ⟨by simp, rfl, rfl, rfl⟩
    · cases x with
      | nor => exact Grow.ret
      | exit i => exact Grow.ret
      | goto l =>
        dsimp only
        cases hl : findLabel body l with
        | some rest => exact g_scopeN gi k rest t1
        | none => exact Grow.ret
      | ret => exact Grow.ret
    · obtain ⟨x, t1⟩ := x
      cases x with
      | nor => exact Mono.ret
      | exit i => exact Mono.ret
      | goto l =>
        dsimp only
        cases hl : findLabel body l with
        | some rest => exact m_scopeN mi k rest t1
        | none => exact Mono.ret
      | ret => exact Mono.ret
    · intro b a w x a1 w1 y a2 w2 r1 r2
      rcases r2 with ⟨l, rest, rfl, hl, r2⟩ | ⟨hx, rfl, rfl, rfl⟩
      · exact Scopes.jump hl r1 r2
      · exact Scopes.out hx r1
theorem sim_scope (hi : ∀ sf c t, Sim P σ B w0 (RunsC P c) sf t (ih sf c t)) (gi : ∀ sf c t, Grow t (ih sf c t)) (mi : ∀ sf c t, Mono (ih sf c t)) {body : Code} {sf : Sf} {t : Env} : Sim P σ B w0 (RunsC P (.scope body)) sf t (cScope ih body sf t) :=
  (sim_scopeN hi gi mi 200 body t : Sim P σ B w0 _ sf t (scopeN ih body sf 200 body t)).mono fun _ _ _ _ _ _ r => Runs.scope r
end
end Go.Ev

namespace Go.Ev
section
variable {P : Program} {σ : Nat → Value} {B : Nat} {w0 : World} {ih : Rn} {K : FuncId → T Unit} {XT : FuncId → Xt}
/-- a region that draws its order is sound (shown elsewhere) -/
def SimD (P : Program) (σ : Nat → Value) (B : Nat) (w0 : World) (callF : FuncId → List Value → M Value) (yieldF : Nat → List Value → M Value) : Prop :=
  ∀ (sf : Sf) (id : Nat) (ops : List Oper) (t t' : Env) (h h' : H) (c c' : Nat) (ρ : Rho) (G : Nat → Option Ent) (w : World) (b : Frame) (a : Act), dstOk sf.nt ops = true → drawn P callF yieldF sf.ks ops t h c = .ok t' h' c' → At P σ B w0 ρ G h sf t a w → Fresh ρ c c' →
    ∃ ρ' G' w' a', Runs P b [.code (.region id ⟨ops⟩ true)] a w .nor a' w' ∧ Okk h h' c c' ∧ Post σ B w0 ρ ρ' G G' h h' c c' w' ∧ At P σ B w0 ρ' G' h' sf t' a' w'
theorem bare_env {ρ : Rho} {ks : T Unit} {t : Env} {tmps : Array Value} (he : EnvR σ ρ ks t tmps) : EnvR σ ρ ks (bare t) tmps := by
  obtain ⟨vt, al, ms⟩ := t
  intro i v hv
  refine he i v ?_
  have hv : (if isP ks i then T.get vt i else alook .e i) = some v := hv
  rw [look_mk]
  by_cases hp : isP ks i = true
  · rw [if_pos hp] at hv ⊢; exact hv
  · rw [if_neg hp] at hv; cases hv
theorem At.bare {ρ : Rho} {G : Nat → Option Ent} {h : H} {sf : Sf} {t : Env} {a : Act} {w : World} (hA : At P σ B w0 ρ G h sf t a w) : At P σ B w0 ρ G h sf (bare t) a w :=
  ⟨hA.view, hA.mt, bare_env hA.env, hA.size, by rw [bare_marks]; exact hA.dfr⟩
theorem sim_region (hI : ∀ g, XT g = .idle → IdleFn P g) (hC : SimF P σ B w0 (callBody P K XT ih)) (hY : SimY P σ B w0 (yieldB ih)) (hD : SimD P σ B w0 (callBody P K XT ih) (yieldB ih)) (mi : ∀ sf c t, Mono (ih sf c t)) {id : Nat} {ops : Array Oper} {draw : Bool} {sf : Sf} {t : Env} :
    Sim P σ B w0 (RunsC P (.region id ops draw)) sf t (cRegion P K XT ih id ops draw sf t) := by
  intro h c y t' h' c' e ρ G w b a hA hf hb
  obtain ⟨ops⟩ := ops
  rcases sel_ok.1 e with ⟨hd, e⟩ | ⟨_, e⟩
  case inr => exact (bad_ok.1 e).elim
  rcases sel_ok.1 e with ⟨rfl, e⟩ | ⟨rfl, e⟩
  · obtain ⟨t1, h1, c1, e1, e2⟩ := bnd_ok.1 e
    obtain ⟨e3, rfl, rfl⟩ := ret_ok.1 e2
    cases e3
    exact hD sf id ops (bare t) _ h _ c _ ρ G w b a hd e1 hA.bare hf
  · obtain ⟨t1, h1, c1, e1, e2⟩ := bnd_ok.1 e
    obtain ⟨e3, rfl, rfl⟩ := ret_ok.1 e2
    cases e3
    have hI' : ∀ g, idleF XT g = true → IdleFn P g := fun g hg => hI g (by
      unfold idleF at hg
      cases hx : XT g <;> rw [hx] at hg <;> first | rfl | cases hg)
    obtain ⟨ρ', G', w', a', r, o, p, he, hn, hdf, _⟩ := runOps_ok (b := b) hC hY hI' (fun _ _ => m_callBody mi) (fun _ _ => m_yieldB mi) hd ops 0 (bare t) _ h c ρ G w a rfl e1 hA.view hA.mt hf hA.bare.env hA.size (by rw [bare_marks]; exact hA.dfr) hb
    refine ⟨ρ', G', w', a', Runs.region ?_, o, p, p.view, p.mt, he, hn, hdf⟩
    rw [show (⟨ops⟩ : Array Oper).size = ops.length from rfl, List.range_eq_range']
    exact r
end
end Go.Ev

namespace Go.Ev
section
variable {P : Program} {σ : Nat → Value} {B : Nat} {w0 : World} {ih : Rn} {K : FuncId → T Unit} {XT : FuncId → Xt}
theorem initT_eq {k : T Value → M (X × Env)} : ∀ (l : List Value) (i : Nat) (t : T Value), ∃ t', initT l i t k = k t' ∧ ∀ j v, T.get t' j = some v → (i ≤ j ∧ l[j - i]? = some v) ∨ T.get t j = some v := by
  intro l
  induction l with
  | nil => exact fun i t => ⟨t, rfl, fun j v h => .inr h⟩
  | cons x l ihl =>
    intro i t
    obtain ⟨t', e, hg⟩ := ihl (i + 1) (T.put (some x) t i)
    refine ⟨t', ?_, fun j v hj => ?_⟩
    · show (T.putK (some x) t i fun t => initT l (Nat.succ i) t k) = k t'
      rw [T.putK_eq]; exact e
    · rcases hg j v hj with ⟨h1, h2⟩ | h2
      · left
        refine ⟨by omega, ?_⟩
        rw [show j - i = (j - (i + 1)) + 1 by omega]
        simpa using h2
      · rcases T.get_put _ _ _ _ _ h2 with ⟨rfl, h3⟩ | ⟨_, h3⟩
        · cases h3; left; exact ⟨Nat.le_refl _, by simp⟩
        · exact .inr h3
/-- what a call of a function without a Go body is shown to do -/
def SimX (P : Program) (σ : Nat → Value) (B : Nat) (w0 : World) (XT : FuncId → Xt) : Prop := GlobOk P σ B w0 ∧ ∀ f fn xs ys ρ, P.funcs[f]? = some fn → XT f ≠ .go → VRs σ ρ xs ys → SimC P σ B w0 (xcall P (XT f) fn xs) ρ (callFunc f ⟨ys⟩)
/-- calls of functions with a Go body -/
def Named (P : Program) : Prop := ∀ (f : FuncId) (fn : Func), P.funcs[f]? = some fn → (fn.name == "runtime.NumGoroutine") = false
theorem run_callFunc (hN : Named P) {f : FuncId} {fn : Func} {body : Code} {args : Array Value} (hf : P.funcs[f]? = some fn) (hb : fn.body = some body) (w : World) : (callFunc f args).run P w = .ok (.enter f args) w := by
  have hne : ¬ fn.name = "runtime.NumGoroutine" := by have := hN f fn hf; simpa using this
  simp [callFunc, hf, hb, hne]
theorem leave_ok {ks : T Unit} {fn : Func} {x : X} {t : Env} {h h' : H} {c c' : Nat} {v : Value} {ρ : Rho} {G : Nat → Option Ent} {w : World} {a : Act} (e : leave P ks fn.results.toList (x, t) h c = .ok v h' c') (hv : View h G) (hM : Match σ B w0 ρ G w) (he : EnvR σ ρ ks t a.tmps) (hd : DfR P ρ (marksOf t) a.defers) :
    (x = .nor ∨ x = .ret) ∧ ∃ w' G' v', Okk h h' c c' ∧ Post σ B w0 ρ ρ G G' h h' c c' w' ∧ VR σ ρ v v' ∧ (∀ (fr : Frame) cs, fr.mode = .returning → Steps P (lone { fr with defers := a.defers } cs w) (lone { fr with defers := [] } cs w')) ∧ (results fn a.tmps).run P w' = .ok v' w' := by
  have key : (x = .nor ∨ x = .ret) ∧ bnd (unmark (marksOf t)) (fun _ => resultsOf P ks t fn.results.toList tup) h c = .ok v h' c' := by
    cases x with
    | nor => exact ⟨.inl rfl, e⟩
    | exit i => exact (bad_ok.1 (show (bad : M Value) h c = .ok v h' c' from e)).elim
    | goto l => exact (bad_ok.1 (show (bad : M Value) h c = .ok v h' c' from e)).elim
    | ret => exact ⟨.inr rfl, e⟩
  obtain ⟨hx, e⟩ := key
  refine ⟨hx, ?_⟩
  obtain ⟨u, h1, c1, e1, e2⟩ := bnd_ok.1 e
  obtain ⟨w', G', p, o, st⟩ := unmark_ok (P := P) (marksOf t) a.defers h G w u hd e1 hv hM
  obtain ⟨vs, vs', e3, h2, h3⟩ := resultsOf_ok he _ _ _ e2 p.view p.mt
  obtain ⟨rfl, rfl, h4⟩ := tup_ok e3 h2
  refine ⟨w', G', _, o, p, h4, st, ?_⟩
  unfold results
  rw [run_bind_ok (a := (⟨vs'⟩ : Array Value)) (w' := w')]
  · rfl
  · rw [Array.mapM_eq_mapM_toList]
    rw [map_eq_pure_bind]
    exact (run_bind_ok h3).trans rfl
theorem sim_body (hi : ∀ sf c t, Sim P σ B w0 (RunsC P c) sf t (ih sf c t)) (hN : Named P) {f : FuncId} {fn : Func} {xs ys : List Value} {ρ : Rho} (hfn : P.funcs[f]? = some fn) (hxy : VRs σ ρ xs ys) : SimC P σ B w0 (goB P K ih f fn xs) ρ (callFunc f ⟨ys⟩) := by
  intro h1 c1 v h' c' e2 G w hv hM hf
  obtain ⟨body, h2, c2, e3, e4⟩ := bnd_ok.1 e2
  obtain ⟨hb, rfl, rfl⟩ := opt_ok.1 e3
  obtain ⟨⟨x, t⟩, h3, c3, e5, e6⟩ := bnd_ok.1 e4
  obtain ⟨vt, e7, hvt⟩ := initT_eq (k := fun vt => ih (.mk fn.ntmps (K f)) body (.mk vt .e [])) xs 0 .lf
  rw [e7] at e5
  let a0 : Act := { tmps := (⟨ys⟩ : Array Value) ++ Array.replicate (fn.ntmps - ys.length) undef, defers := [] }
  have hA : ∀ hh, View hh G → At P σ B w0 ρ G hh (.mk fn.ntmps (K f)) (.mk vt .e []) a0 w := by
    intro hh hv
    refine ⟨hv, hM, fun i x hx => ?_, ?_, .nil⟩
    · rw [look_mk] at hx
      by_cases hp : isP (Sf.mk fn.ntmps (K f)).ks i = true
      · rw [if_pos hp] at hx
        rcases hvt i x hx with ⟨_, h2⟩ | h2
        · obtain ⟨y, g1, g2⟩ := hxy.get _ _ h2
          refine ⟨y, ?_, g2⟩
          have hil : i < ys.length := by have := (List.getElem?_eq_some_iff.1 g1).1; simpa using this
          show ((⟨ys⟩ : Array Value) ++ _)[i]? = some y
          rw [Array.getElem?_append_left (by simpa using hil)]
          simpa using g1
        · cases h2
      · rw [if_neg hp] at hx; cases hx
    · show fn.ntmps ≤ ((⟨ys⟩ : Array Value) ++ Array.replicate (fn.ntmps - ys.length) undef).size
      simp; omega
  have m6 : c3 ≤ c' := m_leave _ _ _ _ _ e6
  obtain ⟨ρ1, G1, w1, a1, r, o1, p1, A1⟩ := hi _ _ _ _ _ _ _ _ _ e5 ρ G w (bodyFrame f) a0 (hA _ hv) (hf.left m6) (.inl rfl)
  obtain ⟨hx2, w2, G2, v', o2, p2, hr, un, res⟩ := leave_ok (P := P) (fn := fn) e6 A1.view A1.mt A1.env A1.dfr
  refine ⟨ρ1, G2, w2, v', ⟨.enter f ⟨ys⟩, w, run_callFunc hN hfn hb w, (body_leaves hfn hb r hx2 un res).back⟩, o1.trans o2, Post.trans o1 o2 p1 p2, hr⟩
end
end Go.Ev

namespace Go.Ev
section
theorem allV_forall {α : Type} {p : α → Bool} {l : List α} : allL p l = true ↔ ∀ x, x ∈ l → p x = true := by
  induction l with
  | nil => simp [allL]
  | cons x l ih =>
    have : allL p (x :: l) = @Bool.rec (fun _ => Bool) false (allL p l) (p x) := rfl
    rw [this]
    cases hp : p x with
    | false => simp [hp]
    | true => simp [hp, ih]
theorem selB {b x y : Bool} : (@Bool.rec (fun _ => Bool) y x b) = true ↔ (b = true ∧ x = true) ∨ (b = false ∧ y = true) := by cases b <;> simp
theorem andB {b x : Bool} : (@Bool.rec (fun _ => Bool) false x b) = true ↔ b = true ∧ x = true := by cases b <;> simp
theorem eqL_eq {α : Type} {eq : α → α → Bool} (hq : ∀ x y, eq x y = true → x = y) : ∀ a b : List α, eqL eq a b = true → a = b := by
  intro a
  induction a with
  | nil => intro b h; cases b with
    | nil => rfl
    | cons => cases h
  | cons x a ih =>
    intro b h
    cases b with
    | nil => cases h
    | cons y b =>
      obtain ⟨h1, h2⟩ := andB.1 (show (@Bool.rec (fun _ => Bool) false (eqL eq a b) (eq x y)) = true from h)
      rw [hq _ _ h1, ih _ h2]
theorem sameV_eq : ∀ (d : Nat) (x y : Value), sameV d x y = true → x = y := by
  intro d
  induction d with
  | zero => intro x y h; cases h
  | succ d ih =>
    intro x y
    have e : sameV (d + 1) x y = (match x, y with
      | .bool a, .bool b => sel a b (notB b)
      | .int k a, .int l b => @Bool.rec (fun _ => Bool) false (eqInt a b) (Nat.beq (kid k) (kid l))
      | .string ⟨⟨a⟩⟩, .string ⟨⟨b⟩⟩ => eqBytes a b
      | .pointer none, .pointer none => true
      | .pointer (some ⟨a, o, none⟩), .pointer (some ⟨b, p, none⟩) => @Bool.rec (fun _ => Bool) false (Nat.beq o p) (Nat.beq a b)
      | .slice none n c, .slice none m d => @Bool.rec (fun _ => Bool) false (Nat.beq c d) (Nat.beq n m)
      | .slice (some ⟨a, o, none⟩) n c, .slice (some ⟨b, p, none⟩) m d => @Bool.rec (fun _ => Bool) false (@Bool.rec (fun _ => Bool) false (Nat.beq o p) (Nat.beq a b)) (@Bool.rec (fun _ => Bool) false (Nat.beq c d) (Nat.beq n m))
      | .map none, .map none => true
      | .map (some a), .map (some b) => Nat.beq a b
      | .chan (some a), .chan (some b) => Nat.beq a b
      | .func (.func f) ⟨a⟩ ⟨b⟩, .func (.func g) ⟨c⟩ ⟨e⟩ => @Bool.rec (fun _ => Bool) false (@Bool.rec (fun _ => Bool) false (eqL (sameV d) b e) (eqL (sameV d) a c)) (Nat.beq f g)
      | .func (.yield a) ⟨[]⟩ ⟨[]⟩, .func (.yield b) ⟨[]⟩ ⟨[]⟩ => Nat.beq a b
      | .nilFunc, .nilFunc => true
      | .nilIface, .nilIface => true
      | .iface t a, .iface u b => @Bool.rec (fun _ => Bool) false (sameV d a b) (Nat.beq t u)
      | .agg ⟨a⟩, .agg ⟨b⟩ => eqL (sameV d) a b
      | .tuple ⟨a⟩, .tuple ⟨b⟩ => eqL (sameV d) a b
      | _, _ => false) := rfl
    rw [e]
    intro h
    clear e
    split at h
    · rename_i a b; cases a <;> cases b <;> first | rfl | cases h
    · obtain ⟨h1, h2⟩ := andB.1 h
      rw [eqInt_eq] at h2
      have h3 := beq_iff_eq.1 h2
      rw [kid_inj h1, h3]
    · rw [eqBytes_eq] at h
      have h3 := beq_iff_eq.1 h
      rw [h3]
    · rfl
    · obtain ⟨h1, h2⟩ := andB.1 h
      rw [Nat.eq_of_beq_eq_true h1, Nat.eq_of_beq_eq_true h2]
    · obtain ⟨h1, h2⟩ := andB.1 h
      rw [Nat.eq_of_beq_eq_true h1, Nat.eq_of_beq_eq_true h2]
    · rcases selB.1 h with ⟨h1, h2⟩ | ⟨_, h2⟩
      · obtain ⟨h3, h4⟩ := andB.1 h1
        obtain ⟨h5, h6⟩ := andB.1 h2
        rw [Nat.eq_of_beq_eq_true h3, Nat.eq_of_beq_eq_true h4, Nat.eq_of_beq_eq_true h5, Nat.eq_of_beq_eq_true h6]
      · cases h2
    · rfl
    · rw [Nat.eq_of_beq_eq_true h]
    · rw [Nat.eq_of_beq_eq_true h]
    · obtain ⟨h1, h2⟩ := andB.1 h
      obtain ⟨h3, h4⟩ := andB.1 h2
      rw [Nat.eq_of_beq_eq_true h1, eqL_eq ih _ _ h3, eqL_eq ih _ _ h4]
    · rw [Nat.eq_of_beq_eq_true h]
    · rfl
    · rfl
    · obtain ⟨h1, h2⟩ := andB.1 h
      rw [Nat.eq_of_beq_eq_true h1, ih _ _ h2]
    · rw [eqL_eq ih _ _ h]
    · rw [eqL_eq ih _ _ h]
    · cases h
/-! what reads changes nothing -/
theorem sameME_eq {a b : MapEntry} (h : sameME a b = true) : a = b := by
  obtain ⟨h1, h2⟩ := andB.1 (show (@Bool.rec (fun _ => Bool) false (@Bool.rec (fun _ => Bool) false (Nat.beq a.born b.born) (sameV 100 a.val b.val)) (sameV 100 a.key b.key)) = true from h)
  obtain ⟨h3, h4⟩ := andB.1 h2
  have e1 := sameV_eq _ _ _ h1
  have e2 := sameV_eq _ _ _ h3
  have e3 := Nat.eq_of_beq_eq_true h4
  cases a; cases b
  dsimp only at e1 e2 e3
  subst e1; subst e2; subst e3
  rfl
theorem sameB_eq {a b : Bool} (h : sameB a b = true) : a = b := by cases a <;> cases b <;> first | rfl | cases h
theorem sameE_eq : ∀ (x y : Ent), sameE x y = true → x = y := by
  intro x y
  unfold sameE
  intro h
  split at h
  · obtain ⟨h1, h2⟩ := andB.1 h
    obtain ⟨h3, h4⟩ := andB.1 h2
    obtain ⟨h5, h6⟩ := andB.1 h4
    rw [Nat.eq_of_beq_eq_true h1, Nat.eq_of_beq_eq_true h3, sameB_eq h5, eqL_eq (sameV_eq 100) _ _ h6]
  · obtain ⟨h1, h2⟩ := andB.1 h
    rw [Nat.eq_of_beq_eq_true h1, eqL_eq (fun _ _ => sameME_eq) _ _ h2]
  · cases h
end
end Go.Ev

namespace Go.Ev
/-! maps.DeleteFunc where it deletes nothing -/
def IsO (o : Oper) (d : Tmp) (op : Op) : Prop := o.dst = some d ∧ o.op = op ∧ o.guard = none
/-- the text of maps.DeleteFunc -/
def KeepFn (P : Program) (f : FuncId) : Prop := ∃ (fn : Func) (mt kt et : TypeId) (j0 j1 j2 j3 j4 j5 : Nat) (o0 o1 o2 o3 o4 o5 o6 o7 o8 o9 oa ob oc : Oper) (ats : Array TypeId) (b4 : Code),
  P.funcs[f]? = some fn ∧ fn.ntmps = 19 ∧ fn.results = #[] ∧ P.underlying mt = some (.map kt et) ∧
  fn.body = some (.seq (.region j0 #[o0, o1] false) (.block j4 (.loop (.seq (.region j1 #[o2, o3] false) (.seq (.cond (.tmp 9) .skip (.exit j4)) (.block j2 (.seq (.region j3 #[o4, o5, o6, o7, o8] false) (.seq (.region j5 #[o9, oa, ob, oc] false) (.cond (.tmp 16) b4 .skip))))))))) ∧
  IsO o0 6 (.move (.tmp 0)) ∧ IsO o1 7 (.range mt (.tmp 6)) ∧ IsO o2 8 (.next (.tmp 7) false) ∧ IsO o3 9 (.extract (.tmp 8) 0) ∧
  IsO o4 10 (.entry (.tmp 7)) ∧ IsO o5 11 (.extract (.tmp 10) 0) ∧ IsO o6 12 (.extract (.tmp 10) 1) ∧ IsO o7 4 (.assign (.tmp 11)) ∧ IsO o8 5 (.assign (.tmp 12)) ∧
  IsO o9 13 (.move (.tmp 1)) ∧ IsO oa 14 (.move (.tmp 4)) ∧ IsO ob 15 (.move (.tmp 5)) ∧ IsO oc 16 (.call { callee := .value (.tmp 13), args := #[.tmp 14, .tmp 15], argTypes := ats })
section
variable {P : Program} {σ : Nat → Value} {B : Nat} {w0 : World} {ih : Rn} {K : FuncId → T Unit} {b : Frame} {a a' : Act} {w w' w1 : World}
theorem eval_tmp {i : Nat} {v : Value} (h : a.tmps[i]? = some v) : a.eval (.tmp i) = v := by
  show a.tmps.getD i undef = v
  simp [Array.getD_eq_getD_getElem?, h]
theorem put_same {d : Nat} {v : Value} (h : d < a.tmps.size) : (a.put (some d) v).tmps[d]? = some v := Array.getElem?_setIfInBounds_self_of_lt h
theorem put_other {d i : Nat} {v : Value} (h : d ≠ i) : (a.put (some d) v).tmps[i]? = a.tmps[i]? := Array.getElem?_setIfInBounds_ne h
theorem step_is {ops : Array Oper} {i : Nat} {is : List Nat} {o : Oper} {d : Tmp} {op : Op} {v : Value} (hI : IsO o d op) (ho : ops[i]? = some o) (hd : ∀ c, op ≠ .defer c) (ha : Acts P (execOp a.eval o) w v w1)
    (h : OpsR P b ops (a.put (some d) v) w1 is a' w') : OpsR P b ops a w (i :: is) a' w' := by
  obtain ⟨h1, h2, h3⟩ := hI
  refine OpsR.cons ho (by unfold Region.wanted; rw [h3]) (by rw [h2]; exact hd) ha ?_
  rw [h1]; exact h
theorem step_val {ops : Array Oper} {i : Nat} {is : List Nat} {o : Oper} {d : Tmp} {op : Op} {v : Value} {s : Sem Value} (hI : IsO o d op) (ho : ops[i]? = some o) (hd : ∀ c, op ≠ .defer c) (he : execOp a.eval o = (do pure (.value (← s)))) (hs : s.run P w = .ok v w1)
    (h : OpsR P b ops (a.put (some d) v) w1 is a' w') : OpsR P b ops a w (i :: is) a' w' :=
  step_is hI ho hd ⟨.value v, w1, by rw [he, run_bind_ok hs]; rfl, rfl, rfl⟩ h
theorem step_move {ops : Array Oper} {i : Nat} {is : List Nat} {o : Oper} {d : Tmp} {x : Operand} {v : Value} (hI : IsO o d (.move x)) (ho : ops[i]? = some o) (hv : a.eval x = v)
    (h : OpsR P b ops (a.put (some d) v) w is a' w') : OpsR P b ops a w (i :: is) a' w' :=
  step_is hI ho (fun c h => by cases h) ⟨.value v, w, by unfold execOp; rw [hI.2.1]; show Result.ok (Next.value (a.eval x)) w = _; rw [hv], rfl, rfl⟩ h
theorem step_assign {ops : Array Oper} {i : Nat} {is : List Nat} {o : Oper} {d : Tmp} {x : Operand} {v : Value} (hI : IsO o d (.assign x)) (ho : ops[i]? = some o) (hv : a.eval x = v)
    (h : OpsR P b ops (a.put (some d) v) w is a' w') : OpsR P b ops a w (i :: is) a' w' :=
  step_is hI ho (fun c h => by cases h) ⟨.value v, w, by unfold execOp; rw [hI.2.1]; show Result.ok (Next.value (a.eval x)) w = _; rw [hv], rfl, rfl⟩ h
theorem step_extract {ops : Array Oper} {i : Nat} {is : List Nat} {o : Oper} {d : Tmp} {x : Operand} {k : Nat} {vs : Array Value} {v : Value} (hI : IsO o d (.extract x k)) (ho : ops[i]? = some o) (hx : a.eval x = .tuple vs) (hv : vs[k]? = some v)
    (h : OpsR P b ops (a.put (some d) v) w is a' w') : OpsR P b ops a w (i :: is) a' w' :=
  step_val (s := Instr.extract (a.eval x) k) hI ho (fun c h => by cases h) (by unfold execOp; rw [hI.2.1]) (by rw [hx]; unfold Instr.extract; dsimp only; rw [hv]; rfl) h
/-- the next entry of a map that is gone through -/
theorem next_run {ib mb cl : Nat} {seen : List Nat} {es : Array MapEntry} {ty : TypeId} (hit : w.heap[ib]? = some (.mapIter (some mb) cl ⟨seen⟩ cl)) (hm : w.heap[mb]? = some (.map es cl)) (hlt : ∀ y, y ∈ es.toList → y.born < cl) :
    (es.toList.filter (fun e => !seen.contains e.born) = [] → (Instr.next (.pointer (some ⟨ib, 0, none⟩)) false ty).run P w = .ok (.tuple #[.bool false]) w) ∧
    (es.toList.filter (fun e => !seen.contains e.born) ≠ [] → ∃ y d, y ∈ es.toList ∧ seen.contains y.born = false ∧
      (Instr.next (.pointer (some ⟨ib, 0, none⟩)) false ty).run P w = .ok (.tuple #[.bool true, y.key, y.val]) { w with drawn := d, heap := w.heap.setIfInBounds ib (.mapIter (some mb) cl ((⟨seen⟩ : Array Nat).push y.born) cl) }) := by
  have hgi : (getObj ib).run P w = .ok (.mapIter (some mb) cl ⟨seen⟩ cl) w := by simp [getObj, Sem.run, hit]
  have hguard : (!(⟨seen⟩ : Array Nat).isEmpty && !es.isEmpty && es.all (fun e => decide (e.born ≥ cl))) = false := by
    obtain ⟨es⟩ := es
    cases es with
    | nil => simp
    | cons x xs =>
      have := hlt x (by simp)
      have h2 : ¬ cl ≤ x.born := by omega
      simp [h2]
  have hold : (es.filter (fun e => !(⟨seen⟩ : Array Nat).contains e.born)).toList = es.toList.filter (fun e => !seen.contains e.born) := by
    rw [Array.toList_filter]; simp only [List.contains_toArray]
  generalize hL : es.filter (fun e => !(⟨seen⟩ : Array Nat).contains e.born) = L at hold
  have hLlt : ∀ y, y ∈ L.toList → y.born < cl := fun y hy => by
    rw [hold] at hy
    exact hlt y (List.mem_filter.1 hy).1
  have ho : L.filter (fun e => decide (e.born < cl)) = L := by
    apply Array.ext'
    rw [Array.toList_filter, List.filter_eq_self]
    intro y hy
    simpa using hLlt y hy
  have hn : L.filter (fun e => decide (e.born ≥ cl)) = #[] := by
    apply Array.ext'
    rw [Array.toList_filter]
    show _ = []
    rw [List.filter_eq_nil_iff]
    intro y hy
    have := hLlt y hy
    simp; omega
  have hstart : ∀ {α : Type} (k : Array (Option MapEntry) → Sem α), True := fun _ => trivial
  refine ⟨fun he => ?_, fun he => ?_⟩
  · rw [he] at hold
    have hLe : L = #[] := Array.ext' hold
    unfold Instr.next
    simp only
    rw [run_bind_ok hgi]
    dsimp only
    rw [run_bind_ok (run_getMap hm)]
    dsimp only
    rw [hguard, hL, ho, hn, hLe]
    simp [Question.forced]
  · have hpos : 0 < L.size := by
      rcases Nat.eq_zero_or_pos L.size with h0 | h0
      · have : L = #[] := Array.eq_empty_of_size_eq_zero h0
        rw [this] at hold
        exact absurd hold.symm he
      · exact h0
    have hne : L.isEmpty = false := by
      rw [Array.isEmpty_eq_false_iff]
      rintro rfl
      simp at hpos
    have pick : ∀ i, i < L.size → ∃ y, L[i]? = some y ∧ y ∈ es.toList ∧ seen.contains y.born = false := fun i hi => by
      refine ⟨L[i], Array.getElem?_eq_getElem hi, ?_⟩
      have : L[i] ∈ L.toList := by simp
      rw [hold] at this
      obtain ⟨h1, h2⟩ := List.mem_filter.1 this
      exact ⟨h1, by simpa using h2⟩
    have go : ∀ i d, i < L.size → (∀ y, L[i]? = some y → (Instr.next (.pointer (some ⟨ib, 0, none⟩)) false ty).run P w = .ok (.tuple #[.bool true, y.key, y.val]) { w with drawn := d, heap := w.heap.setIfInBounds ib (.mapIter (some mb) cl ((⟨seen⟩ : Array Nat).push y.born) cl) }) →
        ∃ y d, y ∈ es.toList ∧ seen.contains y.born = false ∧ (Instr.next (.pointer (some ⟨ib, 0, none⟩)) false ty).run P w = .ok (.tuple #[.bool true, y.key, y.val]) { w with drawn := d, heap := w.heap.setIfInBounds ib (.mapIter (some mb) cl ((⟨seen⟩ : Array Nat).push y.born) cl) } := fun i d hi h => by
      obtain ⟨y, h1, h2, h3⟩ := pick i hi
      exact ⟨y, d, h2, h3, h y h1⟩
    have hdr : ∀ d : Nat, ({ w with drawn := d } : World).heap = w.heap := fun _ => rfl
    by_cases hf : (Question.mapNext L.size).forced = true
    · refine go 0 w.drawn hpos fun y hy => ?_
      unfold Instr.next
      simp only
      rw [run_bind_ok hgi]
      dsimp only
      rw [run_bind_ok (run_getMap hm)]
      dsimp only
      rw [hguard, hL, ho, hn]
      simp [hne, hf, Array.getElem?_map, hy, setObj, Sem.run, hit]
    · refine go ((Question.mapNext L.size).cut (w.tape w.drawn (.mapNext L.size))) (w.drawn + 1) (Nat.mod_lt _ hpos) fun y hy => ?_
      unfold Instr.next
      simp only
      rw [run_bind_ok hgi]
      dsimp only
      rw [run_bind_ok (run_getMap hm)]
      dsimp only
      rw [hguard, hL, ho, hn]
      simp [hne, hf, Array.getElem?_map, hy, setObj, Sem.run]
      rw [show w.drew.heap[ib]? = _ from hit]
      rfl
theorem entry_run {ib mb cl : Nat} {seen : List Nat} {es : Array MapEntry} {y : MapEntry} (hit : w.heap[ib]? = some (.mapIter (some mb) cl ((⟨seen⟩ : Array Nat).push y.born) cl)) (hm : w.heap[mb]? = some (.map es cl)) (hy : y ∈ es.toList) :
    ∃ z, z ∈ es.toList ∧ (Instr.entry (.pointer (some ⟨ib, 0, none⟩))).run P w = .ok (.tuple #[z.key, z.val]) w := by
  have hgi : (getObj ib).run P w = .ok (.mapIter (some mb) cl ((⟨seen⟩ : Array Nat).push y.born) cl) w := by simp [getObj, Sem.run, hit]
  obtain ⟨z, hz⟩ : ∃ z, es.toList.find? (fun e => e.born == y.born) = some z := by
    cases h : es.toList.find? (fun e => e.born == y.born) with
    | some z => exact ⟨z, rfl⟩
    | none =>
      rw [List.find?_eq_none] at h
      have := h y hy
      simp at this
  refine ⟨z, List.mem_of_find?_eq_some hz, ?_⟩
  have hz' : es.find? (fun e => e.born == y.born) = some z := by rw [← Array.find?_toList]; exact hz
  unfold Instr.entry
  simp only
  rw [run_bind_ok hgi]
  dsimp only
  rw [Array.back?_push]
  dsimp only
  rw [run_bind_ok (run_getMap hm)]
  dsimp only
  rw [hz']
  simp
theorem MER.mem {ρ : Rho} : ∀ {xs ys : List MapEntry}, MER σ ρ xs ys → ∀ y, y ∈ ys → ∃ x, x ∈ xs ∧ VR σ ρ x.key y.key ∧ VR σ ρ x.val y.val ∧ x.born = y.born
  | [], [], _, y, h => by cases h
  | x :: xs, z :: ys, ⟨h1, h2⟩, y, h => by
    rcases List.mem_cons.1 h with rfl | h
    · exact ⟨x, List.mem_cons_self, h1.1, h1.2.1, h1.2.2⟩
    · obtain ⟨x', a, b⟩ := MER.mem h2 y h
      exact ⟨x', List.mem_cons_of_mem _ a, b⟩
theorem MER.nil_of {ρ : Rho} {xs ys : List MapEntry} (h : MER σ ρ xs ys) : xs = [] ↔ ys = [] := by
  cases xs with
  | nil => cases ys with
    | nil => simp
    | cons _ _ => cases h
  | cons _ _ => cases ys with
    | nil => cases h
    | cons _ _ => simp
theorem leftE_filter (seen : List Nat) : ∀ (es : List MapEntry), leftE seen es = es.filter (fun e => !seen.contains e.born) := by
  intro es
  induction es with
  | nil => rfl
  | cons x xs ihx =>
    have : leftE seen (x :: xs) = @Bool.rec (fun _ => List MapEntry) (x :: leftE seen xs) (leftE seen xs) (hasB x.born seen) := rfl
    rw [this, hasB_eq, List.filter_cons, ihx]
    cases seen.contains x.born <;> rfl
theorem leftE_less {seen : List Nat} {es : List MapEntry} {x : MapEntry} (hx : x ∈ es) (hs : seen.contains x.born = false) : (leftE (seen ++ [x.born]) es).length < (leftE seen es).length := by
  have h1 : leftE (seen ++ [x.born]) es = (leftE seen es).filter (fun e => !(e.born == x.born)) := by
    rw [leftE_filter, leftE_filter, List.filter_filter]
    apply List.filter_congr
    intro e _
    simp only [List.contains_append, List.contains_cons, List.contains_nil, Bool.or_false, Bool.not_or]
    rw [Bool.and_comm]
  rw [h1, List.length_filter_lt_length_iff_exists]
  exact ⟨x, by rw [leftE_filter]; exact List.mem_filter.2 ⟨hx, by rw [hs]; rfl⟩, by simp⟩
/-- between two rounds -/
structure KS (σ : Nat → Value) (B : Nat) (w0 : World) (ρ : Rho) (G0 : Nat → Option Ent) (c r cl ib : Nat) (fv : Value) (a : Act) (w : World) (seen : List Nat) : Prop where
  size : a.tmps.size = 19
  dfr : a.defers = []
  fn : a.tmps[1]? = some fv
  it : a.tmps[7]? = some (.pointer (some ⟨ib, 0, none⟩))
  st : ∃ G', Match σ B w0 ρ G' w ∧ G' c = some (.mit r cl seen cl) ∧ ∀ n, n ≠ c → G' n = G0 n

theorem KS.put {ρ : Rho} {G0 : Nat → Option Ent} {c r cl ib : Nat} {fv : Value} {seen : List Nat} {d : Nat} {v : Value} (h : KS σ B w0 ρ G0 c r cl ib fv a w seen) (h1 : d ≠ 1) (h7 : d ≠ 7) : KS σ B w0 ρ G0 c r cl ib fv (a.put (some d) v) w seen :=
  ⟨by rw [put_size]; exact h.size, by rw [put_defers]; exact h.dfr, by rw [put_other h1]; exact h.fn, by rw [put_other h7]; exact h.it, h.st⟩
/-- what the calls of the function come to -/
def KDel (P : Program) (σ : Nat → Value) (B : Nat) (w0 : World) (ρ : Rho) (G0 : Nat → Option Ent) (c : Nat) (es : List MapEntry) (g : FuncId) (pv : Value) : Prop := ∀ x, x ∈ es → ∀ k v, VR σ ρ x.key k → VR σ ρ x.val v → ∀ (G : Nat → Option Ent) (w : World), Match σ B w0 ρ G w → (∀ n, n ≠ c → G n = G0 n) →
  ∃ w', Acts P (callFunc g ⟨[k, v, pv]⟩) w (.bool false) w' ∧ Match σ B w0 ρ G w'
section
variable {ρ : Rho} {G0 : Nat → Option Ent} {c r cl ib g : Nat} {seen : List Nat} {es : List MapEntry} {pv : Value} {j0 j1 j2 j3 j4 j5 : Nat} {o2 o3 o4 o5 o6 o7 o8 o9 oa ob oc : Oper} {ats : Array TypeId} {b4 : Code} {l : Loc}
/-- the rounds -/
theorem keep_rounds (i2 : IsO o2 8 (.next (.tmp 7) false)) (i3 : IsO o3 9 (.extract (.tmp 8) 0))
    (i4 : IsO o4 10 (.entry (.tmp 7))) (i5 : IsO o5 11 (.extract (.tmp 10) 0)) (i6 : IsO o6 12 (.extract (.tmp 10) 1)) (i7 : IsO o7 4 (.assign (.tmp 11))) (i8 : IsO o8 5 (.assign (.tmp 12)))
    (i9 : IsO o9 13 (.move (.tmp 1))) (ia : IsO oa 14 (.move (.tmp 4))) (ib' : IsO ob 15 (.move (.tmp 5))) (ic : IsO oc 16 (.call { callee := .value (.tmp 13), args := #[.tmp 14, .tmp 15], argTypes := ats }))
    (hρ : ρ c = some l) (hl : l.b = ib) (hr : G0 r = some (.map es cl)) (hrc : r ≠ c) (hlt : ∀ x, x ∈ es → x.born < cl) (hdel : KDel P σ B w0 ρ G0 c es g pv) :
    ∀ (k : Nat) (seen : List Nat) (a : Act) (w : World), (leftE seen es).length ≤ k → KS σ B w0 ρ G0 c r cl ib (.func (.func g) ⟨[]⟩ ⟨[pv]⟩) a w seen →
      ∃ a' w' seen', Loops P b (.seq (.region j1 #[o2, o3] false) (.seq (.cond (.tmp 9) .skip (.exit j4)) (.block j2 (.seq (.region j3 #[o4, o5, o6, o7, o8] false) (.seq (.region j5 #[o9, oa, ob, oc] false) (.cond (.tmp 16) b4 .skip)))))) a w (.exit j4) a' w' ∧
        KS σ B w0 ρ G0 c r cl ib (.func (.func g) ⟨[]⟩ ⟨[pv]⟩) a' w' seen' := by
  intro k
  induction k with
  | zero =>
    intro seen a w hk hS
    have hnil : leftE seen es = [] := List.eq_nil_of_length_eq_zero (Nat.le_zero.1 hk)
    obtain ⟨G', hM, hGc, hGr⟩ := hS.st
    obtain ⟨l', q1, ⟨q0, lm, q2, q3⟩, _, _⟩ := hM.ent c _ hGc
    rw [hρ] at q1; cases q1
    obtain ⟨lm', q4, ⟨es', q5, q6⟩, _, _⟩ := hM.ent r _ ((hGr r hrc).trans hr)
    rw [q2] at q4; cases q4
    rw [hl] at q3
    have hlt' : ∀ y, y ∈ es'.toList → y.born < cl := fun y hy => by
      obtain ⟨x, hx, _, _, hb⟩ := q6.mem y hy
      rw [← hb]; exact hlt x hx
    obtain ⟨n1, _⟩ := next_run (P := P) (ty := o2.type) q3 q5 hlt'
    have hrun := n1 ((leftE_rel q6).nil_of.1 hnil)
    refine ⟨(a.put (some 8) (.tuple #[.bool false])).put (some 9) (.bool false), w, seen, Loops.one (Runs.seq1 (a1 := (a.put (some 8) (.tuple #[.bool false])).put (some 9) (.bool false)) (w1 := w) (Runs.region ?_) (Runs.seq2 (by simp) (Runs.cond (t := false) ?_ Runs.exit))), ?_⟩
    · show OpsR P b #[o2, o3] a w [0, 1] _ w
      refine step_val (s := Instr.next (a.eval (.tmp 7)) false o2.type) i2 rfl (fun c h => by cases h) (by unfold execOp; rw [i2.2.1]) (by rw [eval_tmp hS.it]; exact hrun) ?_
      exact step_extract (vs := #[.bool false]) i3 rfl (eval_tmp (put_same (by rw [hS.size]; decide))) rfl OpsR.nil
    · exact eval_tmp (put_same (by rw [put_size, hS.size]; decide))
    · exact (hS.put (by decide) (by decide)).put (by decide) (by decide)
  | succ k ihk =>
    intro seen a w hk hS
    obtain ⟨G', hM, hGc, hGr⟩ := hS.st
    obtain ⟨l', q1, ⟨q0, lm, q2, q3⟩, hBl, hll⟩ := hM.ent c _ hGc
    rw [hρ] at q1; cases q1
    obtain ⟨lm', q4, ⟨es', q5, q6⟩, _, _⟩ := hM.ent r _ ((hGr r hrc).trans hr)
    rw [q2] at q4; cases q4
    rw [hl] at q3 hBl hll
    have hlt' : ∀ y, y ∈ es'.toList → y.born < cl := fun y hy => by
      obtain ⟨x, hx, _, _, hb⟩ := q6.mem y hy
      rw [← hb]; exact hlt x hx
    obtain ⟨n1, n2⟩ := next_run (P := P) (ty := o2.type) q3 q5 hlt'
    by_cases hnil : es'.toList.filter (fun e => !seen.contains e.born) = []
    · have hrun := n1 hnil
      refine ⟨(a.put (some 8) (.tuple #[.bool false])).put (some 9) (.bool false), w, seen, Loops.one (Runs.seq1 (a1 := (a.put (some 8) (.tuple #[.bool false])).put (some 9) (.bool false)) (w1 := w) (Runs.region ?_) (Runs.seq2 (by simp) (Runs.cond (t := false) ?_ Runs.exit))), ?_⟩
      · show OpsR P b #[o2, o3] a w [0, 1] _ w
        refine step_val (s := Instr.next (a.eval (.tmp 7)) false o2.type) i2 rfl (fun c h => by cases h) (by unfold execOp; rw [i2.2.1]) (by rw [eval_tmp hS.it]; exact hrun) ?_
        exact step_extract (vs := #[.bool false]) i3 rfl (eval_tmp (put_same (by rw [hS.size]; decide))) rfl OpsR.nil
      · exact eval_tmp (put_same (by rw [put_size, hS.size]; decide))
      · exact (hS.put (by decide) (by decide)).put (by decide) (by decide)
    · obtain ⟨y, d, hy, hys, hrun⟩ := n2 hnil
      obtain ⟨x, hx, _, _, hxb⟩ := q6.mem y hy
      generalize hw1 : ({ w with drawn := d, heap := w.heap.setIfInBounds ib (.mapIter (some lm.b) cl ((⟨seen⟩ : Array Nat).push y.born) cl) } : World) = w1 at hrun
      have hne : lm.b ≠ ib := fun heq => by
        rw [heq] at q5; rw [q5] at q3; cases q3
      have hh1 : w1.heap = w.heap.setIfInBounds ib (.mapIter (some lm.b) cl ((⟨seen⟩ : Array Nat).push y.born) cl) := by rw [← hw1]
      have h3 : w1.heap[ib]? = some (.mapIter (some lm.b) cl ((⟨seen⟩ : Array Nat).push y.born) cl) := by rw [hh1]; exact Array.getElem?_setIfInBounds_self_of_lt hll
      have h5 : w1.heap[lm.b]? = some (.map es' cl) := by rw [hh1, Array.getElem?_setIfInBounds_ne (fun h => hne h.symm)]; exact q5
      have hM1 : Match σ B w0 ρ (upd G' c (some (.mit r cl (seen ++ [y.born]) cl))) w1 := by
        refine hM.change hGc hρ (fun k hk => ?_) (by rw [hh1]; simp) (by rw [← hw1]) (by rw [← hw1]) (by rw [← hw1]) ⟨q0, lm, q2, ?_⟩
        · rw [hh1, Array.getElem?_setIfInBounds_ne (by rw [← hl]; exact fun h => hk h.symm)]
        · rw [hl, h3]
          have : (⟨seen ++ [y.born]⟩ : Array Nat) = (⟨seen⟩ : Array Nat).push y.born := by simp
          rw [this]
      obtain ⟨z, hz, hent⟩ := entry_run (P := P) h3 h5 hy
      obtain ⟨x', hx', hk', hv', _⟩ := q6.mem z hz
      have hG1 : ∀ n, n ≠ c → upd G' c (some (.mit r cl (seen ++ [y.born]) cl)) n = G0 n := fun n hn => by unfold upd; rw [if_neg hn]; exact hGr n hn
      obtain ⟨w2, hacts, hM2⟩ := hdel x' hx' z.key z.val hk' hv' _ w1 hM1 hG1
      let a2 := (a.put (some 8) (.tuple #[.bool true, y.key, y.val])).put (some 9) (.bool true)
      let a3 := ((((a2.put (some 10) (.tuple #[z.key, z.val])).put (some 11) z.key).put (some 12) z.val).put (some 4) z.key).put (some 5) z.val
      let a4 := (((a3.put (some 13) (.func (.func g) ⟨[]⟩ ⟨[pv]⟩)).put (some 14) z.key).put (some 15) z.val).put (some 16) (.bool false)
      have hS1 : ∀ {a : Act}, a.tmps.size = 19 → a.defers = [] → a.tmps[1]? = some (.func (.func g) ⟨[]⟩ ⟨[pv]⟩) → a.tmps[7]? = some (.pointer (some ⟨ib, 0, none⟩)) → KS σ B w0 ρ G0 c r cl ib (.func (.func g) ⟨[]⟩ ⟨[pv]⟩) a w2 (seen ++ [y.born]) := fun h1 h2 h3 h4 =>
        ⟨h1, h2, h3, h4, _, hM2, by unfold upd; rw [if_pos rfl], hG1⟩
      have hS4 : KS σ B w0 ρ G0 c r cl ib (.func (.func g) ⟨[]⟩ ⟨[pv]⟩) a4 w2 (seen ++ [y.born]) := by
        have h0 := hS1 hS.size hS.dfr hS.fn hS.it
        exact ((((((((((((h0.put (by decide) (by decide)).put (by decide) (by decide)).put (by decide) (by decide)).put (by decide) (by decide)).put (by decide) (by decide)).put (by decide) (by decide)).put (by decide) (by decide)).put (by decide) (by decide)).put (by decide) (by decide)).put (by decide) (by decide)).put (by decide) (by decide)))
      have hless : (leftE (seen ++ [y.born]) es).length ≤ k := by
        have h1 : seen.contains x.born = false := by rw [hxb]; exact hys
        have := leftE_less hx h1
        rw [hxb] at this
        omega
      obtain ⟨a', w', seen', hL, hS'⟩ := ihk _ a4 w2 hless hS4
      have sz : a.tmps.size = 19 := hS.size
      have sz2 : a2.tmps.size = 19 := by simp only [a2, put_size, sz]
      refine ⟨a', w', seen', Loops.two (Loops.one ?_) hL, hS'⟩
      refine Runs.seq1 (a1 := a2) (w1 := w1) (Runs.region ?_) (Runs.seq1 (a1 := a2) (w1 := w1) (Runs.cond (t := true) ?_ Runs.skip) (Runs.block1 (.inl rfl) (Runs.seq1 (a1 := a3) (w1 := w1) (Runs.region ?_) (Runs.seq1 (a1 := a4) (w1 := w2) (Runs.region ?_) (Runs.cond (t := false) ?_ Runs.skip)))))
      · show OpsR P b #[o2, o3] a w [0, 1] a2 w1
        refine step_val (s := Instr.next (a.eval (.tmp 7)) false o2.type) i2 rfl (fun c h => by cases h) (by unfold execOp; rw [i2.2.1]) (by rw [eval_tmp hS.it]; exact hrun) ?_
        exact step_extract (vs := #[.bool true, y.key, y.val]) i3 rfl (eval_tmp (put_same (by rw [sz]; decide))) rfl OpsR.nil
      · exact eval_tmp (put_same (by rw [put_size, sz]; decide))
      · show OpsR P b #[o4, o5, o6, o7, o8] a2 w1 [0, 1, 2, 3, 4] a3 w1
        refine step_val (s := Instr.entry (a2.eval (.tmp 7))) i4 rfl (fun c h => by cases h) (by unfold execOp; rw [i4.2.1]) (by rw [eval_tmp (v := .pointer (some ⟨ib, 0, none⟩)) (by rw [put_other (by decide), put_other (by decide)]; exact hS.it)]; exact hent) ?_
        refine step_extract (vs := #[z.key, z.val]) i5 rfl (eval_tmp (put_same (by first | (rw [sz2]; decide) | (simp only [put_size, sz2]; decide)))) rfl ?_
        refine step_extract (vs := #[z.key, z.val]) i6 rfl (eval_tmp (by rw [put_other (by decide)]; exact put_same (by first | (rw [sz2]; decide) | (simp only [put_size, sz2]; decide)))) rfl ?_
        refine step_assign i7 rfl (eval_tmp (by rw [put_other (by decide)]; exact put_same (by first | (rw [sz2]; decide) | (simp only [put_size, sz2]; decide)))) ?_
        exact step_assign i8 rfl (eval_tmp (by rw [put_other (by decide)]; exact put_same (by first | (rw [sz2]; decide) | (simp only [put_size, sz2]; decide)))) OpsR.nil
      · show OpsR P b #[o9, oa, ob, oc] a3 w1 [0, 1, 2, 3] a4 w2
        have h1 : a3.tmps[1]? = some (.func (.func g) ⟨[]⟩ ⟨[pv]⟩) := by
          show (((((((a.put (some 8) _).put (some 9) _).put (some 10) _).put (some 11) _).put (some 12) _).put (some 4) _).put (some 5) _).tmps[1]? = _
          rw [put_other (by decide), put_other (by decide), put_other (by decide), put_other (by decide), put_other (by decide), put_other (by decide), put_other (by decide)]; exact hS.fn
        have h4 : a3.tmps[4]? = some z.key := by
          show (Act.put (Act.put _ (some 4) _) (some 5) _).tmps[4]? = _
          rw [put_other (by decide)]; exact put_same (by first | (rw [sz2]; decide) | (simp only [put_size, sz2]; decide))
        have h5 : a3.tmps[5]? = some z.val := put_same (by simp only [put_size, sz2]; decide)
        have sz3 : a3.tmps.size = 19 := by simp only [a3, a2, put_size, sz]
        refine step_move i9 rfl (eval_tmp h1) ?_
        refine step_move ia rfl (eval_tmp (by rw [put_other (by decide)]; exact h4)) ?_
        refine step_move ib' rfl (eval_tmp (by rw [put_other (by decide), put_other (by decide)]; exact h5)) ?_
        refine step_is ic rfl (fun c h => by cases h) ?_ OpsR.nil
        obtain ⟨n, w3, r1, r2⟩ := hacts
        refine ⟨n, w3, ?_, r2⟩
        rw [← r1]
        unfold execOp
        rw [ic.2.1]
        have e13 : ((a3.put (some 13) (.func (.func g) ⟨[]⟩ ⟨[pv]⟩)).put (some 14) z.key |>.put (some 15) z.val).eval (.tmp 13) = .func (.func g) ⟨[]⟩ ⟨[pv]⟩ := eval_tmp (by rw [put_other (by decide), put_other (by decide)]; exact put_same (by rw [sz3]; decide))
        have e14 : ((a3.put (some 13) (.func (.func g) ⟨[]⟩ ⟨[pv]⟩)).put (some 14) z.key |>.put (some 15) z.val).eval (.tmp 14) = z.key := eval_tmp (by rw [put_other (by decide)]; exact put_same (by rw [put_size, sz3]; decide))
        have e15 : ((a3.put (some 13) (.func (.func g) ⟨[]⟩ ⟨[pv]⟩)).put (some 14) z.key |>.put (some 15) z.val).eval (.tmp 15) = z.val := eval_tmp (put_same (by rw [put_size, put_size, sz3]; decide))
        unfold resolve
        dsimp only
        rw [e13]
        simp only [List.map_toArray, List.map_cons, List.map_nil, e14, e15]
        rfl
      · exact eval_tmp (put_same (by simp only [a3, a2, put_size, sz]; decide))
end
/-- maps.DeleteFunc where it deletes nothing -/
theorem sim_keep (hi : ∀ sf c t, Sim P σ B w0 (RunsC P c) sf t (ih sf c t)) (hN : Named P) {f : FuncId} {fn : Func} {xs ys : List Value} {ρ : Rho} (hk : KeepFn P f) (hfn : P.funcs[f]? = some fn) (hxy : VRs σ ρ xs ys) : SimC P σ B w0 (keepM P K ih xs) ρ (callFunc f ⟨ys⟩) := by
  intro h c v h' c' e G w hv hM hf
  obtain ⟨⟨r, g, n, gn, es, cl, m, o, ln, cp, gr, et, s, e2, rfl, hgn, hmr, hn, hm, hlt, hst⟩, ⟨rfl, rfl⟩, rfl⟩ := keepM_ok e
  obtain ⟨fn', mt, kt, et', j0, j1, j2, j3, j4, j5, o0, o1, o2, o3, o4, o5, o6, o7, o8, o9, oa, ob, oc, ats, b4, f1, f2, f3, f4, f5, i0, i1, i2, i3, i4, i5, i6, i7, i8, i9, ia, ib, ic⟩ := hk
  rw [hfn] at f1
  obtain rfl := Option.some.inj f1
  obtain ⟨m', fv', rfl, km, kf⟩ := args2 hxy
  cases km with | map _ lr hlr =>
  cases kf with | func _ _ _ xs' zs' kx kz =>
  cases kx
  obtain ⟨pv, rfl, kp⟩ := args1 kz
  have hGr := hv r _ hmr
  obtain ⟨es', b1, b2, _, _⟩ := map_read hv hM hmr hlr
  have hfc : ρ c = none := hf c (Nat.le_refl _) (Nat.lt_succ_self _)
  have hnc : ∀ k x, T.get h' k = some x → k ≠ c := fun k x hx hkc => by
    obtain ⟨l, h1, _⟩ := hM.ent k x (hv k x hx)
    rw [hkc, hfc] at h1; cases h1
  generalize hw1 : ({ w with heap := w.heap.push (.mapIter (some lr.b) cl #[] cl) } : World) = w1
  have hrun : (Instr.range mt (.map (some lr.b))).run P w = .ok (.pointer (some ⟨w.heap.size, 0, none⟩)) w1 := by
    rw [← hw1]
    unfold Instr.range
    rw [run_bind_ok (run_und f4 w)]
    simp [run_getMap b1]
  have p1 : Post σ B w0 ρ (ext1 ρ c ⟨w.heap.size, 0, 0, 0⟩) G (upd G c (some (.mit r cl [] cl))) h' (T.put (some (.mit r cl [] cl)) h' c) c (c + 1) w1 :=
    post_obj hv hM hfc (by rw [← hw1]) (by rw [← hw1]) (by rw [← hw1]) (by rw [← hw1]) ⟨rfl, lr, ext1_le hfc _ _ hlr, by rw [← hw1]; simp⟩
  generalize hρ1 : ext1 ρ c ⟨w.heap.size, 0, 0, 0⟩ = ρ1 at p1
  have hρc : ρ1 c = some ⟨w.heap.size, 0, 0, 0⟩ := by rw [← hρ1]; unfold ext1; rw [if_pos rfl]
  -- the calls of the function
  have hdel : KDel P σ B w0 ρ1 G c es g pv := by
    intro x hx k v hk hvv G1 w2 hM1 hG1
    have hs := hst x hx
    replace hs : (layK [(n, .row [.slice (some ⟨m, o, none⟩) ln cp] gr et s), (m, e2)] .lf fun hh => R.rec (motive := fun _ => Bool) (fun v h1 c1 => match v with
      | .bool false => @Bool.rec (fun _ => Bool) false (holds h1 [(n, .row [.slice (some ⟨m, o, none⟩) ln cp] gr et s), (m, e2)]) (Nat.beq c1 (Nat.succ c))
      | _ => false) false (goB P K ih g gn [x.key, x.val, .pointer (some ⟨n, 0, none⟩)] hh (Nat.succ c))) = true := hs
    generalize hpre : [(n, Ent.row [.slice (some ⟨m, o, none⟩) ln cp] gr et s), (m, e2)] = pre at hs
    obtain ⟨hh, ehh, hget⟩ : ∃ hh, (∀ {α : Type} (k : H → α), layK pre .lf k = k hh) ∧ ∀ q y, T.get hh q = some y → (q, y) ∈ pre := by
      refine ⟨T.put (some e2) (T.put (some (.row [.slice (some ⟨m, o, none⟩) ln cp] gr et s)) .lf n) m, fun k => ?_, fun q y hq => ?_⟩
      · rw [← hpre]
        show (T.putK (some (.row [.slice (some ⟨m, o, none⟩) ln cp] gr et s)) .lf n fun h => T.putK (some e2) h m fun h => k h) = _
        rw [T.putK_eq, T.putK_eq]
      · rw [← hpre]
        rcases T.get_put _ _ _ _ _ hq with ⟨rfl, h1⟩ | ⟨_, h1⟩
        · cases h1; simp
        · rcases T.get_put _ _ _ _ _ h1 with ⟨rfl, h2⟩ | ⟨_, h2⟩
          · cases h2; simp
          · cases h2
    rw [ehh] at hs
    cases hr : goB P K ih g gn [x.key, x.val, .pointer (some ⟨n, 0, none⟩)] hh (Nat.succ c) with
    | bad => rw [hr] at hs; cases hs
    | ok v1 h1 c1 =>
      rw [hr] at hs
      dsimp only at hs
      split at hs
      case h_2 => cases hs
      case h_1 =>
        obtain ⟨a1, a2⟩ : Nat.beq c1 (Nat.succ c) = true ∧ holds h1 pre = true := by
          revert hs
          cases Nat.beq c1 (Nat.succ c) <;> cases holds h1 pre <;> simp
        have a1 := Nat.eq_of_beq_eq_true a1
        subst a1
        have hpG : ∀ q y, (q, y) ∈ pre → G1 q = some y := fun q y hq => by
          rw [← hpre] at hq
          have hq' : T.get h' q = some y := by
            simp only [List.mem_cons, List.not_mem_nil, or_false, Prod.mk.injEq] at hq
            rcases hq with ⟨rfl, rfl⟩ | ⟨rfl, rfl⟩
            · exact hn
            · exact hm
          rw [hG1 q (hnc q y hq')]
          exact hv q y hq'
        have hargs : VRs σ ρ1 [x.key, x.val, .pointer (some ⟨n, 0, none⟩)] [k, v, pv] := .cons _ _ _ _ hk (.cons _ _ _ _ hvv (.cons _ _ _ _ (kp.le (by rw [← hρ1]; exact ext1_le hfc)) .nil))
        obtain ⟨ρ2, G2, w3, v2, acts, _, p2, hv2⟩ := sim_body (K := K) hi hN hgn hargs _ _ _ _ _ hr G1 w2 (fun q y hq => hpG q y (hget q y hq)) hM1 (fun q ha hb => by omega)
        cases hv2
        have e1 : ρ2 = ρ1 := funext fun q => p2.rest q (by omega)
        have e2' : G2 = G1 := funext fun q => by
          cases hq : T.get hh q with
          | none => exact p2.frame q hq (by omega)
          | some y =>
            have hqy := hget q y hq
            have hall : ∀ p : Nat × Ent, p ∈ pre → T.get h1 p.1 = some p.2 := fun p hp => by
              have := allV_mem (show allV (fun p : Nat × Ent => Option.rec (motive := fun _ => Bool) false (fun e => sameE e p.2) (T.get h1 p.1)) pre = true from a2) p hp
              cases hg : T.get h1 p.1 with
              | none => rw [hg] at this; cases this
              | some e => rw [hg] at this; rw [sameE_eq e p.2 this]
            rw [p2.view q y (hall (q, y) hqy), hpG q y hqy]
        rw [e1, e2'] at p2
        exact ⟨w3, acts, p2.mt⟩
  -- the run
  let a0 : Act := { tmps := (⟨[.map (some lr.b), .func (.func g) ⟨[]⟩ ⟨[pv]⟩]⟩ : Array Value) ++ Array.replicate (fn.ntmps - (⟨[.map (some lr.b), .func (.func g) ⟨[]⟩ ⟨[pv]⟩]⟩ : Array Value).size) undef, defers := [] }
  have sz0 : a0.tmps.size = 19 := by simp [a0, f2]
  have g0 : a0.tmps[0]? = some (.map (some lr.b)) := by show (_ ++ _ : Array Value)[0]? = _; rw [Array.getElem?_append_left (by simp)]; rfl
  have g1 : a0.tmps[1]? = some (.func (.func g) ⟨[]⟩ ⟨[pv]⟩) := by show (_ ++ _ : Array Value)[1]? = _; rw [Array.getElem?_append_left (by simp)]; rfl
  let a1 := (a0.put (some 6) (.map (some lr.b))).put (some 7) (.pointer (some ⟨w.heap.size, 0, none⟩))
  have hS : KS σ B w0 ρ1 G c r cl w.heap.size (.func (.func g) ⟨[]⟩ ⟨[pv]⟩) a1 w1 [] :=
    ⟨by simp only [a1, put_size, sz0], by simp only [a1, put_defers]; rfl, by show (Act.put (Act.put a0 _ _) _ _).tmps[1]? = _; rw [put_other (by decide), put_other (by decide)]; exact g1, put_same (by rw [put_size, sz0]; decide), _, p1.mt, by unfold upd; rw [if_pos rfl], fun q hq => by unfold upd; rw [if_neg hq]⟩
  obtain ⟨a2, w2, seen', hL, hS2⟩ := keep_rounds (P := P) (b := bodyFrame f) (j1 := j1) (j2 := j2) (j3 := j3) (j4 := j4) (j5 := j5) (b4 := b4) i2 i3 i4 i5 i6 i7 i8 i9 ia ib ic hρc rfl hGr (hnc r _ hmr) hlt hdel _ [] a1 w1 (Nat.le_refl _) hS
  have hR : Runs P (bodyFrame f) [.code (.seq (.region j0 #[o0, o1] false) (.block j4 (.loop (.seq (.region j1 #[o2, o3] false) (.seq (.cond (.tmp 9) .skip (.exit j4)) (.block j2 (.seq (.region j3 #[o4, o5, o6, o7, o8] false) (.seq (.region j5 #[o9, oa, ob, oc] false) (.cond (.tmp 16) b4 .skip)))))))))] a0 w .nor a2 w2 := by
    refine Runs.seq1 (a1 := a1) (w1 := w1) (Runs.region ?_) (Runs.block1 (.inr rfl) (Runs.loop (by simp) hL))
    show OpsR P _ #[o0, o1] a0 w [0, 1] a1 w1
    refine step_move i0 rfl (eval_tmp g0) ?_
    exact step_val (s := Instr.range mt ((a0.put (some 6) (.map (some lr.b))).eval (.tmp 6))) i1 rfl (fun c h => by cases h) (by unfold execOp; rw [i1.2.1]) (by rw [eval_tmp (put_same (by rw [sz0]; decide))]; exact hrun) OpsR.nil
  obtain ⟨G2, hM2, hGc2, hG2⟩ := hS2.st
  have hleave : CallsV P f ⟨[.map (some lr.b), .func (.func g) ⟨[]⟩ ⟨[pv]⟩]⟩ w (.tuple #[]) w2 := by
    refine body_leaves hfn f5 hR (.inl rfl) (fun fr cs _ => ?_) ?_
    · rw [hS2.dfr]; exact .refl _ _
    · unfold results
      rw [f3]
      simp
  refine ⟨ρ1, G2, w2, .tuple #[], ⟨.enter f _, w, run_callFunc hN hfn f5 w, hleave.back⟩, ⟨Nat.le_succ _, fun q hq => .inl hq⟩, ⟨hM2, fun q y hq => ?_, by rw [← hρ1]; exact ext1_le hfc, fun q hq => ?_, fun q _ hq => ?_⟩, .tuple [] [] .nil⟩
  · rw [hG2 q (hnc q y hq)]; exact hv q y hq
  · rw [← hρ1]; unfold ext1; rw [if_neg (by omega)]
  · exact hG2 q (by omega)
end
end Go.Ev

namespace Go.Ev
section
variable {P : Program} {σ : Nat → Value} {B : Nat} {w0 : World} {ih : Rn} {K : FuncId → T Unit} {XT : FuncId → Xt}
theorem sim_call (hi : ∀ sf c t, Sim P σ B w0 (RunsC P c) sf t (ih sf c t)) (mi : ∀ sf c t, Mono (ih sf c t)) (hN : Named P) (hI : ∀ g, XT g = .keep → KeepFn P g) (hX : SimX P σ B w0 XT) : SimF P σ B w0 (callBody P K XT ih) := by
  refine ⟨hX.1, fun f xs ys ρ hxy h c v h' c' e G w hv hM hf => ?_⟩
  obtain ⟨fn, h1, c1, e1, e2⟩ := bnd_ok.1 e
  obtain ⟨hfn, rfl, rfl⟩ := opt_ok.1 e1
  have hxc : XT f ≠ .go → xcall P (XT f) fn xs h c = .ok v h' c' → ∃ ρ' G' w' v', Acts P (callFunc f ⟨ys⟩) w v' w' ∧ Okk h h' c c' ∧ Post σ B w0 ρ ρ' G G' h h' c c' w' ∧ VR σ ρ' v v' := fun hg e =>
    hX.2 f fn xs ys ρ hfn hg hxy _ _ _ _ _ e G w hv hM hf
  cases hx : XT f with
  | go => rw [hx] at e2; exact sim_body hi hN hfn hxy _ _ _ _ _ e2 G w hv hM hf
  | ext k => rw [hx] at e2 hxc; exact hxc (by simp) e2
  | con t => rw [hx] at e2 hxc; exact hxc (by simp) e2
  | memo l =>
    rw [hx] at e2 hxc
    rcases memoM_of l e2 with e3 | e3
    · exact hxc (by simp) e3
    · exact sim_body hi hN hfn hxy _ _ _ _ _ e3 G w hv hM hf
  | idle => rw [hx] at e2 hxc; exact hxc (by simp) e2
  | keep => rw [hx] at e2; exact sim_keep hi hN (hI f hx) hfn hxy _ _ _ _ _ e2 G w hv hM hf
end
end Go.Ev

namespace Go.Ev
section
variable {P : Program} {σ : Nat → Value} {B : Nat} {w0 : World} {ih : Rn} {K : FuncId → T Unit} {XT : FuncId → Xt}
theorem putPs_ok {ρ : Rho} {ks : T Unit} {k : Env → M Value} : ∀ (ps : List Tmp) (vs vs' : List Value) (t : Env) (tmps : Array Value) (h : H) (c : Nat) (v : Value) (h' : H) (c' : Nat), putPs ks ps vs t k h c = .ok v h' c' → VRs σ ρ vs vs' → EnvR σ ρ ks t tmps → (∀ p, p ∈ ps → p < tmps.size) →
    ps.length = vs'.length ∧ ∃ t', k t' h c = .ok v h' c' ∧ marksOf t' = marksOf t ∧ EnvR σ ρ ks t' ((ps.zip vs').foldl (fun tmps p => tmps.setIfInBounds p.1 p.2) tmps) ∧ ((ps.zip vs').foldl (fun tmps p => tmps.setIfInBounds p.1 p.2) tmps).size = tmps.size := by
  intro ps
  induction ps with
  | nil =>
    intro vs vs' t tmps h c v h' c' e hr he hp
    cases vs with
    | nil => cases hr; exact ⟨rfl, t, e, rfl, he, rfl⟩
    | cons => exact (bad_ok.1 (show (bad : M Value) h c = .ok v h' c' from e)).elim
  | cons p ps ih =>
    intro vs vs' t tmps h c v h' c' e hr he hp
    cases vs with
    | nil => exact (bad_ok.1 (show (bad : M Value) h c = .ok v h' c' from e)).elim
    | cons x vs =>
      cases hr with | cons _ y _ vs' hxy hr =>
      obtain ⟨t1, e1, m1, he1⟩ := EnvR.put (k := fun t => putPs ks ps vs t k) (a := ⟨tmps, []⟩) (d := some p) he hxy (fun i hi => by cases hi; exact hp p (by simp))
      replace e : putK ks t (some p) x (fun t => putPs ks ps vs t k) h c = .ok v h' c' := e
      rw [e1] at e
      obtain ⟨hl, t2, e2, m2, he2, hs2⟩ := ih vs vs' t1 (tmps.setIfInBounds p y) h c v h' c' e hr he1 (fun q hq => by simpa using hp q (List.mem_cons_of_mem _ hq))
      exact ⟨by simp [hl], t2, e2, by rw [m2, m1], he2, by rw [show ((p :: ps).zip (y :: vs')) = (p, y) :: ps.zip vs' from rfl, List.foldl_cons, hs2]; simp⟩
theorem run_getLoop {b : Nat} {r : Loop} {w : World} (hh : w.heap[b]? = some (.loop r)) : (Instr.getLoop b).run P w = .ok r w := by
  have hgo : (getObj b).run P w = .ok (.loop r) w := by simp [getObj, Sem.run, hh]
  unfold Instr.getLoop
  rw [run_bind_ok hgo]; rfl
theorem run_setLoop {b : Nat} {r r2 : Loop} {w : World} (hh : w.heap[b]? = some (.loop r)) : (setObj b (.loop r2)).run P w = .ok () { w with heap := w.heap.setIfInBounds b (.loop r2) } := by
  simp [setObj, Sem.run, hh]
theorem beginR_ok {ρ : Rho} {G : Nat → Option Ent} {h h' : H} {c c' : Nat} {u : Unit} {l : Nat} {lc : Loc} {w : World} (e : beginR l h c = .ok u h' c') (hl : ρ l = some lc) (hv : View h G) (hM : Match σ B w0 ρ G w) :
    ∃ w' G', (Instr.beginRound lc.b).run P w = .ok () w' ∧ Okk h h' c c' ∧ Post σ B w0 ρ ρ G G' h h' c c' w' := by
  obtain ⟨en, h1, c1, e1, e2⟩ := bnd_ok.1 e
  obtain ⟨hg, rfl, rfl⟩ := ent_ok.1 e1
  split at e2
  · rename_i sf ps t as bd p
    obtain ⟨rfl, rfl⟩ := setEnt_ok.1 e2
    obtain ⟨l', h1, hobj, hB, hlt⟩ := hM.ent l _ (hv l _ hg)
    rw [hl] at h1; cases h1
    obtain ⟨fn, tmps, r, hh, he, hs⟩ := hobj
    refine ⟨{ w with heap := w.heap.setIfInBounds lc.b (.loop { state := .busy, pending := p, fn, tmps, params := ⟨ps⟩, assign := as, body := bd, defers := r }) }, _, ?_, Okk.put hg, Post.change hM hv hg hl other_set.blk other_set.size rfl rfl rfl ⟨fn, tmps, r, ?_, he, hs⟩⟩
    · unfold Instr.beginRound
      rw [run_bind_ok (run_getLoop hh), run_bind_ok (run_setLoop hh)]
      rfl
    · exact Array.getElem?_setIfInBounds_self_of_lt hlt
  · exact (bad_ok.1 e2).elim
theorem endR_ok {ρ : Rho} {G : Nat → Option Ent} {h h' : H} {c c' : Nat} {u : Unit} {l : Nat} {lc : Loc} {w : World} {j : Option Code} {st : LoopState} (hst : st = if j.isNone then .ready else .done) (e : endR l j st h c = .ok u h' c') (hl : ρ l = some lc) (hv : View h G) (hM : Match σ B w0 ρ G w) :
    ∃ w' G', (Instr.endRound lc.b j).run P w = .ok (.bool j.isNone) w' ∧ Okk h h' c c' ∧ Post σ B w0 ρ ρ G G' h h' c c' w' := by
  obtain ⟨en, h1, c1, e1, e2⟩ := bnd_ok.1 e
  obtain ⟨hg, rfl, rfl⟩ := ent_ok.1 e1
  split at e2
  · rename_i sf ps t as bd p st0
    obtain ⟨rfl, rfl⟩ := setEnt_ok.1 e2
    obtain ⟨l', h1, hobj, hB, hlt⟩ := hM.ent l _ (hv l _ hg)
    rw [hl] at h1; cases h1
    obtain ⟨fn, tmps, r, hh, he, hs⟩ := hobj
    subst hst
    refine ⟨{ w with heap := w.heap.setIfInBounds lc.b (.loop { state := if j.isNone then .ready else .done, pending := j, fn, tmps, params := ⟨ps⟩, assign := as, body := bd, defers := r }) }, _, ?_, Okk.put hg, Post.change hM hv hg hl other_set.blk other_set.size rfl rfl rfl ⟨fn, tmps, r, ?_, he, hs⟩⟩
    · unfold Instr.endRound
      rw [run_bind_ok (run_getLoop hh), run_bind_ok (run_setLoop hh)]
      rfl
    · exact Array.getElem?_setIfInBounds_self_of_lt hlt
  · exact (bad_ok.1 e2).elim
end
end Go.Ev

namespace Go.Ev
section
variable {P : Program} {σ : Nat → Value} {B : Nat} {w0 : World} {ih : Rn} {K : FuncId → T Unit} {XT : FuncId → Xt}
def roundF (l : Nat) (f : FuncId) : Frame := { (default : Frame) with fn := f, kind := .normal, roundOf := some l }
theorem round_runs' {x : X} {l : Nat} {f : FuncId} {tmps : Array Value} {a1 a' : Act} {w w1 w2 w3 w' : World} {assign body : Code} {v' : Value} {j : Option Code} (hj : jumpOf x = j) (h1 : RunsC P assign (roundF l f) ⟨tmps, []⟩ w .nor a1 w1) (hb : (Instr.beginRound l).run P w1 = .ok () w2)
    (h2 : RunsC P body (roundF l f) a1 w2 x a' w3) (he : (Instr.endRound l j).run P w3 = .ok v' w') (c : Frame) (cs : List Frame) : Steps P (lone (Frame.round l f tmps assign body .normal) (c :: cs) w) (lone (c.finish v') cs w') := round_runs hj h1 hb h2 he c cs
theorem sim_yield (hi : ∀ sf c t, Sim P σ B w0 (RunsC P c) sf t (ih sf c t)) (gi : ∀ sf c t, Grow t (ih sf c t)) (mi : ∀ sf c t, Mono (ih sf c t)) : SimY P σ B w0 (yieldB ih) := by
  intro l lc xs ys ρ hl hxy h c v h' c' e G w hv hM hf
  obtain ⟨en, h1, c1, e1, e2⟩ := bnd_ok.1 e
  obtain ⟨hg, rfl, rfl⟩ := ent_ok.1 e1
  cases en <;> first | exact (bad_ok.1 e2).elim | skip
  rename_i sf ps t as bd p st
  rcases sel_ok.1 e2 with ⟨hlt, e3⟩ | ⟨_, e3⟩
  case inr => exact (bad_ok.1 e3).elim
  obtain ⟨l', h1, hobj, hB, hbl⟩ := hM.ent l _ (hv l _ hg)
  rw [hl] at h1; cases h1
  obtain ⟨fn, tmps, r, hh, he, hs⟩ := hobj
  obtain ⟨hlen, t1, e4, hm1, he1, hs1⟩ := putPs_ok (k := fun t1 => bnd (ih sf as t1) (bodyR ih l sf bd)) ps xs ys (bare t) tmps _ _ _ _ _ e3 hxy (bare_env he) (fun q hq => Nat.lt_of_lt_of_le ((blt_iff _ _).1 (allL_mem hlt q hq)) hs)
  obtain ⟨⟨x1, t2⟩, h2, c2, e5, e6⟩ := bnd_ok.1 e4
  obtain ⟨vt, al, rfl, rfl⟩ : ∃ vt al, x1 = .nor ∧ t2 = .mk vt al [] := by
    cases x1 <;> first | exact (bad_ok.1 (show (bad : M Value) h2 c2 = .ok v h' c' from e6)).elim | skip
    obtain ⟨vt, al, ms⟩ := t2
    cases ms with
    | nil => exact ⟨vt, al, rfl, rfl⟩
    | cons => exact (bad_ok.1 (show (bad : M Value) h2 c2 = .ok v h' c' from e6)).elim
  obtain ⟨l1, hl1⟩ := gi _ _ _ _ _ _ _ _ _ e5
  have hm0 : marksOf t1 = [] := (List.append_eq_nil_iff.1 (show l1 ++ marksOf t1 = [] from hl1.symm)).2
  obtain ⟨u, h3, c3, e7, e8⟩ := bnd_ok.1 e6
  obtain ⟨⟨x2, t3⟩, h4, c4, e9, e10⟩ := bnd_ok.1 e8
  have mono9 : c3 ≤ c' := Nat.le_trans (mi _ _ _ _ _ _ _ _ e9) (m_outR _ _ _ _ _ e10)
  have mono7 : c2 ≤ c3 := m_beginR _ _ _ _ _ e7
  have hA : ∀ hh, View hh G → At P σ B w0 ρ G hh sf t1 ⟨(ps.zip ys).foldl (fun tmps p => tmps.setIfInBounds p.1 p.2) tmps, []⟩ w := fun hh hv => ⟨hv, hM, he1, by rw [show (Act.tmps ⟨(ps.zip ys).foldl (fun tmps p => tmps.setIfInBounds p.1 p.2) tmps, []⟩).size = _ from hs1]; exact hs, by rw [hm0]; exact .nil⟩
  obtain ⟨ρ1, G1, w1, a1, r1, o1, p1, A1⟩ := hi _ _ _ _ _ _ _ _ _ e5 ρ G w (roundF lc.b fn) _ (hA _ hv) (hf.left (Nat.le_trans mono7 mono9)) (.inr rfl)
  have f1 : Fresh ρ1 c2 c' := p1.fresh o1 hf
  obtain ⟨w2, G2, b1, o2, p2⟩ := beginR_ok (P := P) e7 (p1.le _ _ hl) A1.view A1.mt
  have A2 : At P σ B w0 ρ1 G2 h3 sf (.mk vt al []) a1 w2 := ⟨p2.view, p2.mt, A1.env, A1.size, A1.dfr⟩
  have f2 : Fresh ρ1 c3 c' := p2.fresh o2 f1
  have m3 : marksOf t3 = [] := by
    obtain ⟨vt3, al3, ms3⟩ := t3
    cases ms3 with
    | nil => rfl
    | cons => exact (bad_ok.1 (show (bad : M Value) h4 c4 = .ok v h' c' from e10)).elim
  obtain ⟨ρ3, G3, w3, a3, r3, o3, p3, A3⟩ := hi _ _ _ _ _ _ _ _ _ e9 ρ1 G2 w2 (roundF lc.b fn) a1 A2 (f2.left (m_outR _ _ _ _ _ e10)) (.inr m3)
  have key : ∃ j st h5 c5 u, jumpOf x2 = j ∧ st = (if j.isNone then LoopState.ready else .done) ∧ endR l j st h4 c4 = .ok u h5 c5 ∧ ret (Value.bool j.isNone) h5 c5 = .ok v h' c' := by
    obtain ⟨vt3, al3, ms3⟩ := t3
    cases m3
    cases x2 <;> (obtain ⟨u, h5, c5, k1, k2⟩ := bnd_ok.1 e10; exact ⟨_, _, h5, c5, u, rfl, rfl, k1, k2⟩)
  obtain ⟨j, st, h5, c5, u5, hj, hst, k1, k2⟩ := key
  obtain ⟨rfl, rfl, rfl⟩ := ret_ok.1 k2
  obtain ⟨w4, G4, b4, o4, p4⟩ := endR_ok (P := P) hst k1 (p3.le _ _ (p1.le _ _ hl)) A3.view A3.mt
  refine ⟨ρ3, G4, w4, .bool j.isNone, ⟨.round lc.b fn ((ps.zip ys).foldl (fun tmps p => tmps.setIfInBounds p.1 p.2) tmps) as bd, w, ?_, round_runs' hj r1 b1 r3 b4⟩, o1.trans (o2.trans (o3.trans o4)), ?_, .bool _⟩
  · unfold Instr.yield
    rw [run_bind_ok (run_getLoop hh)]
    simp [hlen]
  · exact Post.trans o1 (o2.trans (o3.trans o4)) p1 (Post.trans o2 (o3.trans o4) p2 (Post.trans o3 o4 p3 p4))
end
end Go.Ev

namespace Go.Ev
section
variable {P : Program} {σ : Nat → Value} {B : Nat} {w0 : World} {ih : Rn} {K : FuncId → T Unit} {XT : FuncId → Xt}
theorem unms_env {ρ : Rho} {ks : T Unit} {t : Env} {tmps : Array Value} (he : EnvR σ ρ ks t tmps) : EnvR σ ρ ks (unms t) tmps := by
  obtain ⟨vt, al, ms⟩ := t
  exact fun i v hv => he i v hv
theorem run_newObj {o : Obj} {w : World} : (newObj o).run P w = .ok w.heap.size { w with heap := w.heap.push o } := rfl
theorem new_entry {ρ : Rho} {G : Nat → Option Ent} {h h' : H} {c c' : Nat} {n : Nat} {w : World} {e : Ent} {o : Obj} (hn : new e h c = .ok n h' c') (hv : View h G) (hM : Match σ B w0 ρ G w) (hf : ρ c = none)
    (he : ∀ ρ' l w', Rho.le ρ ρ' → w'.heap[l.b]? = some o → EntR σ ρ' l w' e) :
    n = c ∧ c' = c + 1 ∧ Okk h h' c c' ∧ Post σ B w0 ρ (ext1 ρ c ⟨w.heap.size, 0, 0, 0⟩) G (upd G c (some e)) h h' c c' { w with heap := w.heap.push o } := by
  obtain ⟨rfl, rfl, rfl⟩ := new_ok.1 hn
  refine ⟨rfl, rfl, Okk.new, Post.alloc hM hv hf (fun k hk => by simp [Array.getElem?_push, Nat.ne_of_lt hk]) (by simp) rfl rfl rfl rfl (he _ _ _ (ext1_le hf) (by simp))⟩
theorem enter_ok {fn : FuncId} {tmps : Array Value} {ps : Array Tmp} {assign body : Code} {w : World} :
    (Instr.enterLoop fn tmps ps assign body none).run P w = .ok (w.heap.size + 1, [{ target := .collected w.heap.size, args := #[] }])
      { w with heap := (w.heap.push (.deferred (some []))).push (.loop { state := .ready, pending := none, fn, tmps, params := ps, assign, body, defers := w.heap.size }) } := by
  have e1 : (Instr.enterLoop fn tmps ps assign body none).run P w = .ok ((w.heap.push (.deferred (some []))).size, [{ target := .collected w.heap.size, args := #[] }])
      { w with heap := (w.heap.push (.deferred (some []))).push (.loop { state := .ready, pending := none, fn, tmps, params := ps, assign, body, defers := w.heap.size }) } := rfl
  rw [e1]; simp
/-- the end of a loop -/
theorem endLoop_ok {ρ : Rho} {G : Nat → Option Ent} {h : H} {c : Nat} {l : Nat} {lc : Loc} {w : World} {sf : Sf} {ps : List Tmp} {t : Env} {as bd : Code} {p : Option Code} {st : LoopState} (hst : st ≠ .busy)
    (hg : T.get h l = some (.loop sf ps t as bd p st)) (hl : ρ l = some lc) (hv : View h G) (hM : Match σ B w0 ρ G w) :
    ∃ w' G', (Instr.endLoop lc.b).run P w = .ok p w' ∧ Post σ B w0 ρ ρ G G' h (T.put none h l) c c w' := by
  obtain ⟨l', h1, hobj, hB, hlt⟩ := hM.ent l _ (hv l _ hg)
  rw [hl] at h1; cases h1
  obtain ⟨fn, tmps, r, hh, he, hs⟩ := hobj
  refine ⟨{ w with heap := w.heap.setIfInBounds lc.b (.loop { state := .exhausted, pending := p, fn, tmps, params := ⟨ps⟩, assign := as, body := bd, defers := r }) }, _, ?_, Post.lose hM hv hg hl other_set.blk other_set.size rfl rfl rfl⟩
  unfold Instr.endLoop
  rw [run_bind_ok (run_getLoop hh)]
  have hb : (st == LoopState.busy) = false := by cases st <;> first | rfl | exact absurd rfl hst
  simp only [hb]
  show (do setObj lc.b _; pure p : Sem (Option Code)).run P w = _
  rw [run_bind_ok (run_setLoop hh)]
  rfl
noncomputable def tailR (ih : Rn) (sf : Sf) (t : Env) (p : Option Code) : M (X × Env) := match p with
  | none => ret (.nor, t)
  | some c => ih sf c t
theorem sim_range (hi : ∀ sf c t, Sim P σ B w0 (RunsC P c) sf t (ih sf c t)) (gi : ∀ sf c t, Grow t (ih sf c t)) (mi : ∀ sf c t, Mono (ih sf c t)) (hC : SimF P σ B w0 (callBody P K XT ih)) {f : Operand} {ps : Array Tmp} {assign body : Code} {sf : Sf} {t : Env} :
    Sim P σ B w0 (RunsC P (.rangeFunc f ps assign body)) sf t (cRange P K XT ih f ps assign body sf t) := by
  intro h c y t' h' c' e ρ G w b a hA hf hb
  obtain ⟨v, e1, hr⟩ := opk_at hA e
  split at e1
  case h_2 => exact (bad_ok.1 e1).elim
  rename_i g xs zs
  obtain ⟨r, h1, c1, e2, e3⟩ := bnd_ok.1 e1
  rcases sel_ok.1 e3 with ⟨_, e3⟩ | ⟨hr0, e3⟩
  case inl => exact (bad_ok.1 e3).elim
  have hr0 : r ≠ 0 := Nat.ne_of_beq_eq_false hr0
  obtain ⟨l, h2, c2, e4, e5⟩ := bnd_ok.1 e3
  obtain ⟨v1, h3, c3, e6, e7⟩ := bnd_ok.1 e5
  have m7 : c3 ≤ c' := m_kRange mi _ _ _ _ _ e7
  have m6 : c2 ≤ c3 := m_callBody mi _ _ _ _ _ e6
  have hcc : c1 = c + 1 ∧ c2 = c + 2 := by
    obtain ⟨_, _, rfl⟩ := new_ok.1 e2
    obtain ⟨_, _, rfl⟩ := new_ok.1 e4
    exact ⟨rfl, rfl⟩
  obtain ⟨vt, al, ms⟩ := t
  -- the end
  obtain ⟨en, h4, c4, e8, e9⟩ := bnd_ok.1 e7
  obtain ⟨hg, rfl, rfl⟩ := ent_ok.1 e8
  cases en <;> first | exact (bad_ok.1 e9).elim | skip
  rename_i sf1 ps1 t1 as1 bd1 p st
  obtain ⟨hst, h5, c5, e10, e11⟩ : st ≠ .busy ∧ ∃ h5 c5, kill l h3 c3 = .ok () h5 c5 ∧ tailR ih sf (.mk vt al (r :: ms)) p h5 c5 = .ok (y, t') h' c' := by
    cases st with
    | busy => exact (bad_ok.1 (show (bad : M (X × Env)) h3 c3 = .ok (y, t') h' c' from e9)).elim
    | ready => obtain ⟨_, h5, c5, k1, k2⟩ := bnd_ok.1 e9; exact ⟨by simp, h5, c5, k1, k2⟩
    | done => obtain ⟨_, h5, c5, k1, k2⟩ := bnd_ok.1 e9; exact ⟨by simp, h5, c5, k1, k2⟩
    | exhausted => obtain ⟨_, h5, c5, k1, k2⟩ := bnd_ok.1 e9; exact ⟨by simp, h5, c5, k1, k2⟩
  have hmark : ∃ l0, marksOf t' = l0 ++ (r :: ms) := by
    cases p with
    | none => obtain ⟨k1, _, _⟩ := ret_ok.1 e11; cases k1; exact ⟨[], rfl⟩
    | some cd => exact gi sf cd (.mk vt al (r :: ms)) _ _ _ _ _ _ e11
  have hro : b.roundOf = none := by
    rcases hb with hb | hb
    · exact hb
    · obtain ⟨l0, hl0⟩ := hmark; rw [hl0] at hb; simp at hb
  -- the two new blocks
  have n1 := new_entry (o := .deferred (some [])) e2 hA.view hA.mt (hf c (Nat.le_refl _) (by omega)) (fun _ _ _ _ hh => hh)
  obtain ⟨rfl, rfl, o1, p1⟩ := n1
  have n2 := new_entry (o := .loop { state := .ready, pending := none, fn := b.fn, tmps := a.tmps, params := ps, assign := assign, body := body, defers := w.heap.size }) e4 p1.view p1.mt (p1.fresh o1 hf (r + 1) (Nat.le_refl _) (by omega))
    (fun ρ' l w' hle hh => ⟨b.fn, a.tmps, w.heap.size, by simpa using hh, unms_env (hA.env.le (Rho.le_trans p1.le hle)), hA.size⟩)
  obtain ⟨rfl, rfl, o2, p2⟩ := n2
  have o12 := o1.trans o2
  have p12 := Post.trans o1 o2 p1 p2
  -- the call
  generalize hρ2 : ext1 (ext1 ρ r ⟨w.heap.size, 0, 0, 0⟩) (r + 1) ⟨(World.heap { w with heap := w.heap.push (.deferred (some [])) }).size, 0, 0, 0⟩ = ρ2 at p2 p12
  have hl2 : ρ2 (r + 1) = some ⟨w.heap.size + 1, 0, 0, 0⟩ := by subst hρ2; simp [ext1]
  have hr2 : ρ2 r = some ⟨w.heap.size, 0, 0, 0⟩ := by subst hρ2; simp [ext1]
  generalize hF : a.eval f = F at hr
  cases hr with | func _ _ _ xs' zs' hx hz =>
  have hargs : VRs σ ρ2 (app xs (.func (.yield (r + 1)) ⟨[]⟩ ⟨[]⟩ :: zs)) (xs' ++ (.func (.yield (w.heap.size + 1)) ⟨[]⟩ ⟨[]⟩ :: zs')) := by
    rw [app_eq]
    exact (hx.le p12.le).app (.cons _ _ _ _ (.yield _ _ hl2) (hz.le p12.le))
  obtain ⟨ρ3, G3, w3, v3, hacts, o3, p3, hv3⟩ := hC.2 g _ _ ρ2 hargs _ _ _ _ _ e6 _ _ p12.view p12.mt (fun n ha hb => p12.fresh o12 hf n ha (by omega))
  -- the end of the loop
  have hl3 := p3.le _ _ hl2
  obtain ⟨w4, G4, hend, p4⟩ := endLoop_ok (P := P) (c := c3) hst hg hl3 p3.view p3.mt
  obtain ⟨rfl, rfl⟩ := kill_ok.1 e10
  have o4 : Okk h3 (T.put none h3 (r + 1)) c5 c5 := Okk.kill
  have o34 := o3.trans o4
  have p34 := Post.trans o3 o4 p3 p4
  have oo := o12.trans o34
  have pp := Post.trans o12 o34 p12 p34
  have hdf : DfR P ρ3 (r :: ms) ([{ target := .collected w.heap.size, args := #[] }] ++ a.defers) := .cons r _ _ _ hr0 (p3.le _ _ hr2) ((hA.dfr).le pp.le)
  have hA4 : At P σ B w0 ρ3 G4 (T.put none h3 (r + 1)) sf (.mk vt al (r :: ms)) { tmps := a.tmps, defers := [{ target := .collected w.heap.size, args := #[] }] ++ a.defers } w4 :=
    ⟨pp.view, pp.mt, fun i v hv => (hA.env.le pp.le) i v hv, hA.size, hdf⟩
  have hcall : Acts P (do let d ← resolve a.eval { callee := .value f, args := #[.const (.func (.yield (w.heap.size + 1)) #[] #[])], argTypes := #[] } 0; invoke d.target d.args)
      { w with heap := (w.heap.push (.deferred (some []))).push (.loop { state := .ready, pending := none, fn := b.fn, tmps := a.tmps, params := ps, assign, body, defers := w.heap.size }) } v3 w3 := by
    have hs : ∀ u, (do let d ← resolve a.eval { callee := .value f, args := #[.const (.func (.yield (w.heap.size + 1)) #[] #[])], argTypes := #[] } 0; invoke d.target d.args : Sem Next).run P u = (callFunc g ⟨xs' ++ (.func (.yield (w.heap.size + 1)) ⟨[]⟩ ⟨[]⟩ :: zs')⟩).run P u := by
      intro u
      show (do let d ← Deferred.ofValue (a.eval f) _; invoke d.target d.args : Sem Next).run P u = _
      rw [hF]
      have hcat : (⟨xs'⟩ : Array Value) ++ #[Value.func (.yield (w.heap.size + 1)) #[] #[]] ++ (⟨zs'⟩ : Array Value) = ⟨xs' ++ (.func (.yield (w.heap.size + 1)) ⟨[]⟩ ⟨[]⟩ :: zs')⟩ := by simp
      rw [← hcat]
      have hm : Array.map a.eval #[Operand.const (Value.func (Fn.yield (w.heap.size + 1)) #[] #[])] = #[Value.func (.yield (w.heap.size + 1)) #[] #[]] := by simp [Act.eval]
      dsimp only
      rw [hm]
      rfl
    obtain ⟨n, w1, hrun, hn⟩ := hacts
    exact ⟨n, w1, (hs _).trans hrun, hn⟩
  have hruns := fun k cs => range_runs (P := P) (b := b) (a := a) (f := f) (ps := ps) (assign := assign) (body := body) hro enter_ok hcall hend k cs
  cases p with
  | none =>
    obtain ⟨k1, rfl, rfl⟩ := ret_ok.1 e11
    cases k1
    refine ⟨ρ3, G4, w4, _, fun k cs => ⟨k, rfl, hruns k cs⟩, oo, pp, hA4⟩
  | some cd =>
    obtain ⟨ρ5, G5, w5, a5, r5, o5, p5, A5⟩ := hi sf cd (.mk vt al (r :: ms)) _ _ _ _ _ _ e11 ρ3 G4 w4 b _ hA4 (pp.fresh oo hf) hb
    refine ⟨ρ5, G5, w5, a5, fun k cs => ?_, oo.trans o5, Post.trans oo o5 pp p5, A5⟩
    obtain ⟨td, l, s⟩ := r5 k cs
    exact ⟨td, l, (hruns k cs).trans s⟩
end
end Go.Ev

namespace Go.Ev
section
variable {P : Program} {σ : Nat → Value} {B : Nat} {w0 : World} {ih : Rn} {K : FuncId → T Unit} {XT : FuncId → Xt}
/-- the functions that are not called by their bodies are what they are taken for -/
def XtOk (P : Program) (XT : FuncId → Xt) : Prop := (∀ g, XT g = .idle → IdleFn P g) ∧ ∀ g, XT g = .keep → KeepFn P g
/-- regions that draw their order are sound, if what they call is -/
def DrawnOk (P : Program) (σ : Nat → Value) (B : Nat) (w0 : World) : Prop := ∀ (callF : FuncId → List Value → M Value) (yieldF : Nat → List Value → M Value), (∀ f xs, Mono (callF f xs)) → (∀ l xs, Mono (yieldF l xs)) →
  SimF P σ B w0 callF → SimY P σ B w0 yieldF → SimD P σ B w0 callF yieldF
theorem sim_step (hI : XtOk P XT) (hi : ∀ sf c t, Sim P σ B w0 (RunsC P c) sf t (ih sf c t)) (gi : ∀ sf c t, Grow t (ih sf c t)) (mi : ∀ sf c t, Mono (ih sf c t)) (hN : Named P) (hX : SimX P σ B w0 XT) (hD : DrawnOk P σ B w0) {sf : Sf} {c : Code} {t : Env} :
    Sim P σ B w0 (RunsC P c) sf t (step P K XT ih sf c t) := by
  have hC := sim_call (K := K) hi mi hN hI.2 hX
  have hY := sim_yield hi gi mi
  cases c
  case skip => exact Sim.still fun _ _ _ => Runs.skip
  case region id ops draw => exact sim_region hI.1 hC hY (hD _ _ (fun _ _ => m_callBody mi) (fun _ _ => m_yieldB mi) hC hY) mi
  case seq a b => exact sim_seq hi gi mi
  case cond o a b => exact sim_cond hi
  case block id b => exact sim_block hi
  case loop b => exact sim_loop hi gi mi
  case rangeFunc f ps a b => exact sim_range hi gi mi hC
  case exit i => exact Sim.still fun _ _ _ => Runs.exit
  case scope b => exact sim_scope hi gi mi
  case label l => exact Sim.still fun _ _ _ => Runs.label
  case goto l => exact Sim.still fun _ _ _ => Runs.goto
  case ret => exact Sim.still fun _ _ _ => Runs.ret
  case refuse => exact Sim.bad
theorem sim_run (hI : XtOk P XT) (hN : Named P) (hX : SimX P σ B w0 XT) (hD : DrawnOk P σ B w0) : ∀ (n : Nat) (sf : Sf) (c : Code) (t : Env), Sim P σ B w0 (RunsC P c) sf t (run P K XT n sf c t) := by
  intro n
  induction n with
  | zero => exact fun _ _ _ => Sim.bad
  | succ n ih => exact fun _ _ _ => sim_step hI ih (g_run n) (m_run n) hN hX hD
/-- a call that the evaluator carries out -/
theorem sim_top (hI : XtOk P XT) (hN : Named P) (hX : SimX P σ B w0 XT) (hD : DrawnOk P σ B w0) (n : Nat) : SimF P σ B w0 (call P K XT n) :=
  sim_call (sim_run hI hN hX hD n) (m_run n) hN hI.2 hX
end
end Go.Ev
