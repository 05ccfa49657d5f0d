/- Proved: a general lemma, of no statement by itself. Regions that draw their order, functions without a Go body, and a call from outside: what the evaluator yields for a call, the model's machine yields; no condition but those that stand in each theorem. -/
import Derived.Test.YtddocfjaofddiaaGreatDoorEvC
import Derived.Orders
import Derived.Lib.Bytealg
import Derived.Laws.Externs
import Derived.Lib.MakeNoZero
import GoSem.ClaimGoes
import GoSem.ClaimJoined
set_option linter.unusedVariables false
set_option linter.unusedSimpArgs false
namespace Go.Ev
section
variable {P : Program} {callF : FuncId → List Value → M Value} {yieldF : Nat → List Value → M Value}
theorem look_put1 {ks : T Unit} {t : Env} {d : Option Tmp} {v x : Value} {i : Nat} (e : look ks (put1 ks t d v) i = some x) : (d = some i ∧ x = v) ∨ (d ≠ some i ∧ look ks t i = some x) := by
  cases d with
  | none => exact .inr ⟨by simp, e⟩
  | some d =>
    obtain ⟨t', e1, _, e3⟩ := look_put (ks := ks) (t := t) (d := d) (v := v) (k := fun t => t)
    unfold put1 at e
    rw [e1] at e
    rcases e3 i x e with ⟨rfl, h⟩ | ⟨h1, h2⟩
    · exact .inl ⟨rfl, h⟩
    · exact .inr ⟨fun h => h1 (by cases h; rfl), h2⟩
theorem mrg0_get {q : Nat → Bool} {n : Nat} {e : Ent} : ∀ (al : List Al) (h : H), T.get (mrg0 q al h) n = some e → T.get h n = some e ∨ ∃ j, q j = true ∧ Al.mk j n e ∈ al := by
  intro al
  induction al with
  | nil => exact fun h e => .inl e
  | cons a al ih =>
    intro h hg
    obtain ⟨j, n', e'⟩ := a
    cases hq : q j with
    | false =>
      have : mrg0 q (.mk j n' e' :: al) h = mrg0 q al h := by
        show (@Bool.rec (fun _ => H) (mrg q al h fun h => h) (T.putK (some e') h n' fun h => mrg q al h fun h => h) (q j)) = _
        rw [hq]; rfl
      rw [this] at hg
      rcases ih h hg with h1 | ⟨j', h1, h2⟩
      · exact .inl h1
      · exact .inr ⟨j', h1, List.mem_cons_of_mem _ h2⟩
    | true =>
      have : mrg0 q (.mk j n' e' :: al) h = mrg0 q al (T.put (some e') h n') := by
        show (@Bool.rec (fun _ => H) (mrg q al h fun h => h) (T.putK (some e') h n' fun h => mrg q al h fun h => h) (q j)) = _
        rw [hq]
        show (T.putK (some e') h n' fun h => mrg q al h fun h => h) = _
        rw [T.putK_eq]; rfl
      rw [this] at hg
      rcases ih _ hg with h1 | ⟨j', h1, h2⟩
      · rcases T.get_put _ _ _ _ _ h1 with ⟨rfl, h3⟩ | ⟨_, h3⟩
        · cases h3; exact .inr ⟨j, hq, List.mem_cons_self⟩
        · exact .inl h3
      · exact .inr ⟨j', h1, List.mem_cons_of_mem _ h2⟩
/-! masks -/
theorem tst_eq (m i : Nat) : tstBit m i = m.testBit i := by
  unfold tstBit
  rw [Nat.testBit_eq_decide_div_mod_eq]
  show Nat.beq (m >>> i % 2) 1 = _
  rw [Nat.shiftRight_eq_div_pow]
  exact beq_eq_decide _ _
theorem nth_getD {α : Type} (l : List α) (i : Nat) : nth l i = l[i]? := nth_eq _ _
theorem edgeMask_tst {before : List Nat} {x : Nat} : ∀ (es : List Edge), tstBit (edgeMask before es) x = true ↔ ∃ e, e ∈ es ∧ Region.binds .any e = true ∧ (x = e.on ∨ tstBit ((before[e.on]?).getD 0) x = true) := by
  intro es
  induction es with
  | nil => simp [edgeMask, tst_eq]
  | cons e es ih =>
    have h0 : edgeMask before (e :: es) = @Bool.rec (fun _ => Nat) (edgeMask before es) (Nat.lor (Nat.lor (Nat.shiftLeft 1 e.on) ((nth before e.on).getD 0)) (edgeMask before es)) (Region.binds .any e) := rfl
    rw [h0]
    cases hb : Region.binds .any e with
    | false =>
      show tstBit (edgeMask before es) x = true ↔ _
      rw [ih]
      constructor
      · rintro ⟨e', h1, h2⟩; exact ⟨e', List.mem_cons_of_mem _ h1, h2⟩
      · rintro ⟨e', h1, h2, h3⟩
        rcases List.mem_cons.1 h1 with rfl | h1
        · rw [hb] at h2; cases h2
        · exact ⟨e', h1, h2, h3⟩
    | true =>
      show tstBit (((1 <<< e.on) ||| ((nth before e.on).getD 0)) ||| (edgeMask before es)) x = true ↔ _
      rw [nth_getD, tst_eq, Nat.testBit_or, Nat.testBit_or, Bool.or_eq_true, Bool.or_eq_true, ← tst_eq (edgeMask before es), ih, ← tst_eq ((before[e.on]?).getD 0)]
      have h1 : (1 <<< e.on).testBit x = true ↔ x = e.on := by
        rw [Nat.one_shiftLeft, Nat.testBit_two_pow]; simp; exact eq_comm
      rw [h1]
      constructor
      · rintro ((h | h) | ⟨e', k1, k2⟩)
        · exact ⟨e, List.mem_cons_self, hb, .inl h⟩
        · exact ⟨e, List.mem_cons_self, hb, .inr h⟩
        · exact ⟨e', List.mem_cons_of_mem _ k1, k2⟩
      · rintro ⟨e', k1, k2, k3⟩
        rcases List.mem_cons.1 k1 with rfl | k1
        · exact .inl k3
        · exact .inr ⟨e', k1, k2, k3⟩
theorem masks_cons (o : Oper) (os : List Oper) (acc : List Nat) : masks (o :: os) acc = masks os (acc ++ [edgeMask acc o.after.toList]) := by
  show (forceN (edgeMask acc o.after.toList) fun m => masks os (app acc [m])) = _
  rw [forceN_eq, app_eq]
theorem masks_pre : ∀ (os : List Oper) (acc : List Nat), ∃ l, masks os acc = acc ++ l ∧ l.length = os.length := by
  intro os
  induction os with
  | nil => exact fun acc => ⟨[], by simp [masks], rfl⟩
  | cons o os ih =>
    intro acc
    obtain ⟨l, e, hl⟩ := ih (acc ++ [edgeMask acc o.after.toList])
    exact ⟨edgeMask acc o.after.toList :: l, by rw [masks_cons, e]; simp, by simp [hl]⟩
theorem masks_at : ∀ (os : List Oper) (acc : List Nat) (i : Nat) (o : Oper), os[i]? = some o → (masks os acc)[acc.length + i]? = some (edgeMask ((masks os acc).take (acc.length + i)) o.after.toList) := by
  intro os
  induction os with
  | nil => intro acc i o h; simp at h
  | cons o os ih =>
    intro acc i o' h
    rw [masks_cons]
    cases i with
    | zero =>
      simp at h; subst h
      obtain ⟨l, e, _⟩ := masks_pre os (acc ++ [edgeMask acc o.after.toList])
      rw [e]; simp
    | succ i =>
      have := ih (acc ++ [edgeMask acc o.after.toList]) i o' (by simpa using h)
      rw [List.length_append, show [edgeMask acc o.after.toList].length = 1 from rfl, show acc.length + 1 + i = acc.length + (i + 1) by omega] at this
      exact this
/-- of operation i those that come before it -/
noncomputable def mkk (all : List Oper) (i : Nat) : Nat := ((masks all [])[i]?).getD 0
theorem mkk_tst {all : List Oper} {i x : Nat} {o : Oper} (ho : all[i]? = some o) (he : ∀ e, e ∈ o.after.toList → Region.binds .any e = true → e.on < i) :
    tstBit (mkk all i) x = true ↔ ∃ e, e ∈ o.after.toList ∧ Region.binds .any e = true ∧ (x = e.on ∨ tstBit (mkk all e.on) x = true) := by
  have h1 := masks_at all [] i o ho
  simp only [List.length_nil, Nat.zero_add] at h1
  unfold mkk
  rw [h1]
  show tstBit (edgeMask _ _) x = true ↔ _
  rw [edgeMask_tst]
  constructor
  · rintro ⟨e, k1, k2, k3⟩
    refine ⟨e, k1, k2, k3.imp id fun h => ?_⟩
    rw [List.getElem?_take, if_pos (he e k1 k2)] at h
    exact h
  · rintro ⟨e, k1, k2, k3⟩
    refine ⟨e, k1, k2, k3.imp id fun h => ?_⟩
    rw [List.getElem?_take, if_pos (he e k1 k2)]
    exact h
end
end Go.Ev

namespace Go.Ev
section
variable {P : Program} {callF : FuncId → List Value → M Value} {yieldF : Nat → List Value → M Value}
theorem slot_eq {α : Type} {ks : T Unit} {t : Env} {i : Nat} {k : Value → M α} : slot ks t i k = (match look ks t i with | some v => k v | none => bad) := by
  obtain ⟨vt, al, ms⟩ := t
  show (@Bool.rec (fun _ => M α) (A.getK al i k bad) (Option.rec (motive := fun _ => M α) bad k (T.get vt i)) (isP ks i)) = _
  rw [getK_alook, look_mk]
  cases isP ks i with
  | true => rw [if_pos rfl]; cases hh : T.get vt i <;> rfl
  | false => rw [if_neg (by decide)]; rfl
variable {ks ks' : T Unit} {t t' : Env}
/-- the two know the same of an operand -/
def Alike (ks ks' : T Unit) (t t' : Env) (x : Operand) : Prop := ∀ i, x = .tmp i → look ks t i = look ks' t' i
theorem opk_congr {α : Type} {x : Operand} {k k' : Value → M α} (h : Alike ks ks' t t' x) (hk : ∀ v, k v = k' v) : opk ks t x k = opk ks' t' x k' := by
  have : k = k' := funext hk
  subst this
  cases x with
  | tmp i =>
    show slot ks t i k = slot ks' t' i k
    rw [slot_eq, slot_eq, h i rfl]
  | const v => rfl
  | global g => rfl
  | func f => rfl
theorem opks_congr {α : Type} : ∀ (xs : List Operand) {k k' : List Value → M α} (_ : ∀ x, x ∈ xs → Alike ks ks' t t' x) (_ : ∀ v, k v = k' v), opks ks t xs k = opks ks' t' xs k' := by
  intro xs
  induction xs with
  | nil => exact fun h hk => hk []
  | cons x xs ih => exact fun h hk => opk_congr (h x List.mem_cons_self) fun v => ih (fun y hy => h y (List.mem_cons_of_mem _ hy)) fun l => hk _
theorem opkp_congr {α : Type} : ∀ (xs : List (Nat × Operand)) {k k' : List (Nat × Value) → M α} (_ : ∀ x, x ∈ xs → Alike ks ks' t t' x.2) (_ : ∀ v, k v = k' v), opkp ks t xs k = opkp ks' t' xs k' := by
  intro xs
  induction xs with
  | nil => exact fun h hk => hk []
  | cons x xs ih => exact fun h hk => opk_congr (h x List.mem_cons_self) fun v => ih (fun y hy => h y (List.mem_cons_of_mem _ hy)) fun l => hk _
theorem opko_congr {α : Type} {o : Option Operand} {k k' : Option Value → M α} (h : ∀ x, o = some x → Alike ks ks' t t' x) (hk : ∀ v, k v = k' v) : opko ks t o k = opko ks' t' o k' := by
  cases o with
  | none => exact hk none
  | some x => exact opk_congr (h x rfl) fun v => hk _
theorem exec1_congr {o : Op} (h : ∀ x, x ∈ o.operands → Alike ks ks' t t' x) : exec1 P o ks t = exec1 P o ks' t' := by
  cases o <;> first | rfl | skip
  case move x => exact opk_congr (h x (by simp [Op.operands])) fun _ => rfl
  case assign x => exact opk_congr (h x (by simp [Op.operands])) fun _ => rfl
  case pick c a b =>
    refine opk_congr (h c (by simp [Op.operands])) fun v => ?_
    unfold pick
    split
    · exact opk_congr (h a (by simp [Op.operands])) fun _ => rfl
    · exact opk_congr (h b (by simp [Op.operands])) fun _ => rfl
    · rfl
  case box e x => exact opk_congr (h x (by simp [Op.operands])) fun _ => rfl
  case build ty ps => exact opkp_congr _ (fun p hp => h p.2 (by simp only [Op.operands, List.mem_toArray]; exact List.mem_map_of_mem hp)) fun _ => rfl
  case buildSlice ty n ps => exact opkp_congr _ (fun p hp => h p.2 (by simp only [Op.operands, List.mem_toArray]; exact List.mem_map_of_mem hp)) fun _ => rfl
  case insert ty m k x => exact opk_congr (h m (by simp [Op.operands])) fun _ => opk_congr (h k (by simp [Op.operands])) fun _ => opk_congr (h x (by simp [Op.operands])) fun _ => rfl
  case load ty a =>
    cases a with
    | global g => rfl
    | tmp i => exact opk_congr (x := .tmp i) (h _ (by simp [Op.operands])) fun _ => rfl
    | const v => rfl
    | func f => rfl
  case store ty a x => exact opk_congr (h a (by simp [Op.operands])) fun _ => opk_congr (h x (by simp [Op.operands])) fun _ => rfl
  case nilCheck x => exact opk_congr (h x (by simp [Op.operands])) fun _ => rfl
  case binOp op ty x y yt => exact opk_congr (h x (by simp [Op.operands])) fun _ => opk_congr (h y (by simp [Op.operands])) fun _ => rfl
  case unOp op ty x => exact opk_congr (h x (by simp [Op.operands])) fun _ => rfl
  case convert s d x => exact opk_congr (h x (by simp [Op.operands])) fun _ => rfl
  case makeInterface ty x => exact opk_congr (h x (by simp [Op.operands])) fun _ => rfl
  case makeFunc fn a b => exact opks_congr _ (fun x hx => h x (by simp [Op.operands]; simp at hx; exact .inl hx)) fun _ => opks_congr _ (fun x hx => h x (by simp [Op.operands]; simp at hx; exact .inr hx)) fun _ => rfl
  case makeMap ty r => exact opko_congr (fun x hx => h x (by subst hx; simp [Op.operands])) fun _ => rfl
  case makeSlice ty l c => exact opk_congr (h l (by simp [Op.operands])) fun _ => opk_congr (h c (by simp [Op.operands])) fun _ => rfl
  case slice ty x lo hi mx =>
    exact opk_congr (h x (by simp [Op.operands])) fun _ => opko_congr (fun y hy => h y (by subst hy; simp [Op.operands])) fun _ => opko_congr (fun y hy => h y (by subst hy; simp [Op.operands])) fun _ => opko_congr (fun y hy => h y (by subst hy; simp [Op.operands])) fun _ => rfl
  case fieldAddr s x f => exact opk_congr (h x (by simp [Op.operands])) fun _ => rfl
  case field ty x f => exact opk_congr (h x (by simp [Op.operands])) fun _ => rfl
  case indexAddr ty x i => exact opk_congr (h x (by simp [Op.operands])) fun _ => opk_congr (h i (by simp [Op.operands])) fun _ => rfl
  case index ty x i => exact opk_congr (h x (by simp [Op.operands])) fun _ => opk_congr (h i (by simp [Op.operands])) fun _ => rfl
  case lookup ty x i ok => exact opk_congr (h x (by simp [Op.operands])) fun _ => opk_congr (h i (by simp [Op.operands])) fun _ => rfl
  case mapUpdate ty m k x => exact opk_congr (h m (by simp [Op.operands])) fun _ => opk_congr (h k (by simp [Op.operands])) fun _ => opk_congr (h x (by simp [Op.operands])) fun _ => rfl
  case range ty x => exact opk_congr (h x (by simp [Op.operands])) fun _ => rfl
  case next it s => exact opk_congr (h it (by simp [Op.operands])) fun _ => rfl
  case entry it => exact opk_congr (h it (by simp [Op.operands])) fun _ => rfl
  case typeAssert x ty a ok => exact opk_congr (h x (by simp [Op.operands])) fun _ => rfl
  case extract x i => exact opk_congr (h x (by simp [Op.operands])) fun _ => rfl
  case call c =>
    refine opks_congr _ (fun x hx => h x (by simp [Op.operands, Call.operands]; simp at hx; exact .inr hx)) fun args => ?_
    cases hc : c.callee with
    | builtin b => rfl
    | value f => exact opk_congr (h f (by simp [Op.operands, Call.operands, hc])) fun _ => rfl
    | invoke r n => rfl
/-- the slot of an operation's guard -/
theorem wanted_congr {all : List Oper} {g : Option (Nat × Bool)} (h : ∀ j w d, g = some (j, w) → guardT all j = some d → look ks t d = look ks' t' d) : wanted all ks t g = wanted all ks' t' g := by
  cases g with
  | none => rfl
  | some p =>
    obtain ⟨j, w⟩ := p
    show (@Option.rec Nat (fun _ => M Bool) bad (fun d => slot ks t d (isB w)) (guardT all j)) = (@Option.rec Nat (fun _ => M Bool) bad (fun d => slot ks' t' d (isB w)) (guardT all j))
    cases hg : guardT all j with
    | none => rfl
    | some d =>
      show slot ks t d (isB w) = slot ks' t' d (isB w)
      rw [slot_eq, slot_eq, h j w d rfl hg]
/-- the slots that an operation looks at -/
def Looks (all : List Oper) (o : Oper) (x : Nat) : Prop := (Operand.tmp x ∈ o.op.operands) ∨ ∃ j w, o.guard = some (j, w) ∧ guardT all j = some x
theorem opV_congr {all : List Oper} {o : Oper} (h : ∀ x, Looks all o x → look ks t x = look ks' t' x) : opV P callF yieldF all ks o t = opV P callF yieldF all ks' o t' := by
  unfold opV
  rw [wanted_congr (ks' := ks') (t' := t') fun j w d h1 h2 => h d (.inr ⟨j, w, h1, h2⟩), exec1_congr (ks' := ks') (t' := t') fun x hx i hi => h i (.inl (hi ▸ hx))]
/-! an environment of some slots alone -/
noncomputable def someA (f : Nat → Option Value) : List Nat → A
  | [] => .e
  | x :: xs => match f x with | some v => .c x v (someA f xs) | none => someA f xs
theorem someA_get {f : Nat → Option Value} {x : Nat} : ∀ (xs : List Nat), x ∈ xs → alook (someA f xs) x = f x := by
  intro xs
  induction xs with
  | nil => intro h; cases h
  | cons y xs ih =>
    intro h
    unfold someA
    by_cases hx : y = x
    · subst hx
      cases hf : f y with
      | some v => simp [alook]
      | none =>
        dsimp only
        by_cases hy : y ∈ xs
        · rw [ih hy, hf]
        · clear ih h
          have : ∀ zs : List Nat, y ∉ zs → alook (someA f zs) y = none := by
            intro zs
            induction zs with
            | nil => intro _; rfl
            | cons z zs ih =>
              intro hz
              unfold someA
              have hzy : z ≠ y := fun h => hz (by rw [h]; exact List.mem_cons_self)
              cases f z with
              | none => exact ih fun h => hz (List.mem_cons_of_mem _ h)
              | some v =>
                dsimp only
                rw [alook, if_neg hzy]
                exact ih fun h => hz (List.mem_cons_of_mem _ h)
          exact this xs hy
    · have hx' : x ∈ xs := by rcases List.mem_cons.1 h with rfl | h; exact absurd rfl hx; exact h
      cases f y with
      | some v => dsimp only; rw [alook, if_neg hx]; exact ih hx'
      | none => exact ih hx'
theorem someA_only {f : Nat → Option Value} {x : Nat} {v : Value} : ∀ (xs : List Nat), alook (someA f xs) x = some v → x ∈ xs ∧ f x = some v := by
  intro xs
  induction xs with
  | nil => intro h; cases h
  | cons y xs ih =>
    intro h
    unfold someA at h
    cases hf : f y with
    | none => rw [hf] at h; exact ⟨List.mem_cons_of_mem _ (ih h).1, (ih h).2⟩
    | some u =>
      rw [hf] at h
      dsimp only at h
      by_cases hx : y = x
      · subst hx
        rw [alook, if_pos rfl] at h
        exact ⟨List.mem_cons_self, by rw [hf]; exact h⟩
      · rw [alook, if_neg hx] at h
        exact ⟨List.mem_cons_of_mem _ (ih h).1, (ih h).2⟩
theorem isP_lf {i : Nat} : isP .lf i = false := rfl
theorem look_lf {al : A} {i : Nat} : look .lf (.mk .lf al []) i = alook al i := by rw [look_mk, isP_lf]; rfl
noncomputable def looksL (all : List Oper) (o : Oper) : List Nat := (o.op.operands.toList.filterMap fun | .tmp t => some t | _ => none) ++ (match o.guard with | some (j, _) => (guardT all j).toList | none => [])
theorem looksL_mem {all : List Oper} {o : Oper} {x : Nat} : x ∈ looksL all o ↔ Looks all o x := by
  unfold looksL Looks
  rw [List.mem_append, List.mem_filterMap]
  constructor
  · rintro (⟨y, h1, h2⟩ | h)
    · left
      cases y <;> simp at h2
      subst h2
      simpa using h1
    · right
      cases hg : o.guard with
      | none => rw [hg] at h; simp at h
      | some p => rw [hg] at h; simp at h; exact ⟨p.1, p.2, rfl, h⟩
  · rintro (h | ⟨j, w, h1, h2⟩)
    · exact .inl ⟨_, by simpa using h, rfl⟩
    · right; rw [h1]; simp [h2]
end
end Go.Ev

namespace Go.Ev
section
variable {P : Program} {callF : FuncId → List Value → M Value} {yieldF : Nat → List Value → M Value} {σ : Nat → Value} {B : Nat} {w0 : World} {ρ : Rho} {G : Nat → Option Ent} {h h' : H} {c c' : Nat} {w : World}
theorem opV_at (hC : SimF P σ B w0 callF) (hY : SimY P σ B w0 yieldF) {all : List Oper} {ks : T Unit} {o : Oper} {t : Env} {v : Value} {a : Act}
    (e : opV P callF yieldF all ks o t h c = .ok v h' c') (hv : View h G) (hM : Match σ B w0 ρ G w) (hf : Fresh ρ c c') (he : ∀ x, Looks all o x → ∀ v, look ks t x = some v → ∃ v', a.tmps[x]? = some v' ∧ VR σ ρ v v') :
    ∃ ρ' G' w' v', OpDoes P all o a w v' w' ∧ Okk h h' c c' ∧ Post σ B w0 ρ ρ' G G' h h' c c' w' ∧ VR σ ρ' v v' := by
  rw [opV_congr (ks' := .lf) (t' := .mk .lf (someA (look ks t) (looksL all o)) []) (fun x hx => by rw [look_lf, someA_get _ (looksL_mem.2 hx)])] at e
  refine opV_ok hC hY e hv hM hf fun x v hx => ?_
  rw [look_lf] at hx
  obtain ⟨h1, h2⟩ := someA_only _ hx
  exact he x (looksL_mem.1 h1) v h2
theorem opk_any {α : Type} {ks : T Unit} {t : Env} {x : Operand} {k : Value → M α} {a : α} (e : opk ks t x k h c = .ok a h' c') : ∃ v, k v h c = .ok a h' c' := by
  cases x with
  | tmp i => obtain ⟨v, _, hk⟩ := slot_ok.1 e; exact ⟨v, hk⟩
  | const v =>
    rcases sel_ok.1 e with ⟨_, e⟩ | ⟨_, e⟩
    · exact ⟨v, e⟩
    · exact (bad_ok.1 e).elim
  | global g => exact (bad_ok.1 (show (bad : M α) h c = .ok a h' c' from e)).elim
  | func f => exact ⟨_, e⟩
theorem opks_any {α : Type} {ks : T Unit} {t : Env} : ∀ (xs : List Operand) {k : List Value → M α} {a : α}, opks ks t xs k h c = .ok a h' c' → ∃ vs, k vs h c = .ok a h' c' := by
  intro xs
  induction xs with
  | nil => intro k a e; exact ⟨[], e⟩
  | cons x xs ih => intro k a e; obtain ⟨v, e1⟩ := opk_any e; exact ih e1 |>.imp' _ fun _ h => h
theorem opko_any {α : Type} {ks : T Unit} {t : Env} {o : Option Operand} {k : Option Value → M α} {a : α} (e : opko ks t o k h c = .ok a h' c') : ∃ v, k v h c = .ok a h' c' := by
  cases o with
  | none => exact ⟨none, e⟩
  | some x => obtain ⟨v, e1⟩ := opk_any e; exact ⟨some v, e1⟩
theorem v1_val {m : M Value} (q : Quiet m) {out : Out} (e : v1 m h c = .ok out h' c') : h' = h ∧ c' = c ∧ ∃ v, out = .val v := by
  obtain ⟨v, h1, c1, e1, e2⟩ := bnd_ok.1 e
  obtain ⟨rfl, rfl⟩ := q _ _ _ _ _ e1
  obtain ⟨rfl, rfl, rfl⟩ := ret_ok.1 e2
  exact ⟨rfl, rfl, v, rfl⟩
theorem conv_quiet {s d : TypeId} {x v : Value} (hd : ∀ e, P.underlying d ≠ some (.slice e)) (e : conv P s d x h c = .ok v h' c') : h' = h ∧ c' = c := by
  obtain ⟨sd, h1, c1, e1, e2⟩ := bnd_ok.1 e
  obtain ⟨hs, rfl, rfl⟩ := opt_ok.1 e1
  obtain ⟨dd, h1, c1, e3, e4⟩ := bnd_ok.1 e2
  obtain ⟨hdd, rfl, rfl⟩ := opt_ok.1 e3
  have hns : ∀ e, dd ≠ .slice e := fun e he => hd e (by rw [hdd, he])
  clear e e1 e2 e3
  split at e4
  · exact q_unsafeP _ _ _ _ _ e4
  · split at e4
    · exact q_mkInt _ _ _ _ _ e4
    · exact (bad_ok.1 e4).elim
  · split at e4
    · obtain ⟨_, rfl, rfl⟩ := ret_ok.1 e4; exact ⟨rfl, rfl⟩
    · exact absurd rfl (hns _)
    · exact (bad_ok.1 e4).elim
  · split at e4
    · refine Quiet.bnd q_und (fun e => ?_) _ _ _ _ _ e4
      split
      · exact Quiet.ret
      · exact Quiet.sel Quiet.ret (Quiet.bnd q_rd fun _ => Quiet.bnd Quiet.opt fun _ => Quiet.ret)
      · exact Quiet.bad
    · exact (bad_ok.1 e4).elim
  · exact (bad_ok.1 e4).elim
theorem rd_out {o : Op} {ks : T Unit} {t : Env} {out : Out} (hk : cls P o = .rd) (e : exec1 P o ks t h c = .ok out h' c') : h' = h ∧ c' = c ∧ ∃ v, out = .val v := by
  cases o <;> first | (cases hk; done) | skip
  case load ty a =>
    cases a with
    | global g => exact v1_val q_globM e
    | tmp i => obtain ⟨v, e1⟩ := opk_any (show opk ks t (.tmp i) (fun v => v1 (bnd (addr v) (loadVar P ty))) h c = .ok out h' c' from e); exact v1_val (Quiet.bnd q_addr fun _ => q_loadVar) e1
    | const v => obtain ⟨v, e1⟩ := opk_any (show opk ks t (.const v) (fun v => v1 (bnd (addr v) (loadVar P ty))) h c = .ok out h' c' from e); exact v1_val (Quiet.bnd q_addr fun _ => q_loadVar) e1
    | func f => obtain ⟨v, e1⟩ := opk_any (show opk ks t (.func f) (fun v => v1 (bnd (addr v) (loadVar P ty))) h c = .ok out h' c' from e); exact v1_val (Quiet.bnd q_addr fun _ => q_loadVar) e1
  case convert s d x =>
    obtain ⟨v, e1⟩ := opk_any e
    have hd : ∀ e, P.underlying d ≠ some (.slice e) := by
      intro e he
      have : cls P (.convert s d x) = .new := by show (match P.underlying d with | some (.slice _) => Kd.new | some (.int _) => .val | _ => .rd) = _; rw [he]
      rw [this] at hk; cases hk
    exact v1_val (fun _ _ _ _ _ e => conv_quiet hd e) e1
  case slice ty x lo hi mx =>
    obtain ⟨v, e1⟩ := opk_any e
    obtain ⟨v, e1⟩ := opko_any e1
    obtain ⟨v, e1⟩ := opko_any e1
    obtain ⟨v, e1⟩ := opko_any e1
    exact v1_val q_slice e1
  case lookup ty x i ok =>
    obtain ⟨v, e1⟩ := opk_any e
    obtain ⟨v, e1⟩ := opk_any e1
    exact v1_val q_lookup e1
  case call cl =>
    obtain ⟨vs, e1⟩ := opks_any _ e
    have hc : cl.callee = .builtin .len := by
      have : cls P (.call cl) = (match cl.callee with | .builtin .len => Kd.rd | .builtin .min => .val | .builtin .max => .val | .builtin .cap => .val | _ => .fx) := rfl
      rw [this] at hk
      split at hk <;> first | (cases hk; done) | assumption
    rw [hc] at e1
    refine v1_val (Quiet.bnd Quiet.opt fun t => ?_) e1
    dsimp only
    split
    · exact q_lenB
    · exact Quiet.bad
theorem rd_quiet {all : List Oper} {ks : T Unit} {o : Oper} {t : Env} {v : Value} (hk : cls P o.op = .rd) (e : opV P callF yieldF all ks o t h c = .ok v h' c') : h' = h ∧ c' = c := by
  obtain ⟨b, h1, c1, e1, e2⟩ := bnd_ok.1 e
  have q : h1 = h ∧ c1 = c := by
    cases hg : o.guard with
    | none => rw [hg] at e1; obtain ⟨_, rfl, rfl⟩ := ret_ok.1 e1; exact ⟨rfl, rfl⟩
    | some p =>
      rw [hg] at e1
      replace e1 : (@Option.rec Nat (fun _ => M Bool) bad (fun d => slot ks t d (isB p.2)) (guardT all p.1)) h c = .ok b h1 c1 := e1
      cases hd : guardT all p.1 with
      | none => rw [hd] at e1; exact (bad_ok.1 (show (bad : M Bool) h c = .ok b h1 c1 from e1)).elim
      | some d =>
        rw [hd] at e1
        obtain ⟨v, _, e3⟩ := slot_ok.1 (show slot ks t d (isB p.2) h c = .ok b h1 c1 from e1)
        unfold isB at e3
        split at e3
        · obtain ⟨_, rfl, rfl⟩ := ret_ok.1 e3; exact ⟨rfl, rfl⟩
        · obtain ⟨_, rfl, rfl⟩ := ret_ok.1 e3; exact ⟨rfl, rfl⟩
        · exact (bad_ok.1 e3).elim
  obtain ⟨rfl, rfl⟩ := q
  rcases sel_ok.1 e2 with ⟨_, e3⟩ | ⟨_, e3⟩
  · obtain ⟨out, h2, c2, e4, e5⟩ := bnd_ok.1 e3
    obtain ⟨rfl, rfl, v, rfl⟩ := rd_out hk e4
    obtain ⟨_, rfl, rfl⟩ := ret_ok.1 e5
    exact ⟨rfl, rfl⟩
  · obtain ⟨_, rfl, rfl⟩ := ret_ok.1 e3
    exact ⟨rfl, rfl⟩
end
end Go.Ev

namespace Go.Ev
section
variable {P : Program} {all : List Oper}
def Fxi (P : Program) (all : List Oper) (i : Nat) : Prop := ∃ o, all[i]? = some o ∧ cls P o.op = .fx
structure Ord (P : Program) (all : List Oper) : Prop where
  looks : ∀ i o, all[i]? = some o → ∀ x, Looks all o x → ∀ j oj, all[j]? = some oj → oj.dst = some x → tstBit (mkk all i) j = true ∨ tstBit (mkk all j) i = true
  edges : ∀ i o, all[i]? = some o → ∀ e, e ∈ o.after.toList → Region.binds .any e = true → e.on < i
  one : ∀ (i j : Nat) (oi oj : Oper) d, all[i]? = some oi → all[j]? = some oj → oi.dst = some d → oj.dst = some d → i = j
  lt : ∀ i j, tstBit (mkk all i) j = true → j < i
  trans : ∀ i j k, tstBit (mkk all i) j = true → tstBit (mkk all j) k = true → tstBit (mkk all i) k = true
  fx : ∀ i j, Fxi P all i → Fxi P all j → j < i → tstBit (mkk all i) j = true
theorem isFx_iff {k : Kd} : k.isFx = true ↔ k = .fx := by cases k <;> simp [Kd.isFx]
theorem isRd_iff {k : Kd} : k.isRd = true ↔ k = .rd := by cases k <;> simp [Kd.isRd]
theorem oneOk_ok {am : List Nat} {o : Oper} {m i : Nat} {last : Option Nat} : oneOk P all am o m i last = true → looksOk all am o m i = true ∧ (∀ d, o.dst = some d → dstIdx all d 0 = some i) ∧ edgesOk i o.after.toList = true ∧ ((cls P o.op).isFx = true → ∀ l, last = some l → tstBit m l = true) := by
  unfold oneOk
  intro h
  obtain ⟨b1, b2⟩ := andB.1 h
  obtain ⟨b3, b4⟩ := andB.1 b2
  obtain ⟨b5, b6⟩ := andB.1 b4
  refine ⟨b1, fun d hd => ?_, b5, fun hf l hl => ?_⟩
  · rw [hd] at b3
    dsimp only at b3
    cases hx : dstIdx all d 0 with
    | none => rw [hx] at b3; cases b3
    | some j => rw [hx] at b3; rw [Nat.eq_of_beq_eq_true b3]
  · rw [hf, hl] at b6
    exact b6
theorem looksOk_ok {am : List Nat} {o : Oper} {m i : Nat} : looksOk all am o m i = true → (∀ j w, o.guard = some (j, w) → tstBit m j = true) ∧ ∀ t, t ∈ tmpsOf o.op → ∀ j, dstIdx all t 0 = some j → tstBit m j = true ∨ tstBit ((am[j]?).getD 0) i = true := by
  unfold looksOk
  intro h
  obtain ⟨b1, b2⟩ := andB.1 h
  refine ⟨fun j w hg => by rw [hg] at b2; exact b2, fun t ht j hj => ?_⟩
  have := allV_forall.1 b1 t ht
  rw [hj] at this
  dsimp only at this
  rw [nth_getD] at this
  rcases selB.1 this with ⟨h1, _⟩ | ⟨_, h2⟩
  · exact .inl h1
  · exact .inr h2
theorem orderOk_at {am : List Nat} : ∀ (os : List Oper) (ms : List Nat) (i : Nat) (last : Option Nat), orderOk P all am os ms i last = true → ∀ k o, os[k]? = some o → ∃ m last', ms[k]? = some m ∧ oneOk P all am o m (i + k) last' = true ∧
    (∀ k' o', k' < k → os[k']? = some o' → cls P o'.op = .fx → ∃ l, last' = some l ∧ i + k' ≤ l) ∧ (∀ l0, last = some l0 → l0 < i → ∃ l, last' = some l ∧ l0 ≤ l) ∧
    (∀ l, last' = some l → last = some l ∨ ∃ k' o', k' < k ∧ os[k']? = some o' ∧ cls P o'.op = .fx ∧ l = i + k') := by
  intro os
  induction os with
  | nil => intro ms i last _ k o h; simp at h
  | cons o os ih =>
    intro ms i last hok k o1 hk
    cases ms with
    | nil => cases hok
    | cons m ms =>
      obtain ⟨h1, h2⟩ := andB.1 (show (@Bool.rec (fun _ => Bool) false (orderOk P all am os ms (Nat.succ i) (@Bool.rec (fun _ => Option Nat) last (some i) (cls P o.op).isFx)) (oneOk P all am o m i last)) = true from hok)
      cases k with
      | zero =>
        simp at hk; subst hk
        exact ⟨m, last, rfl, h1, fun k' o' h => absurd h (Nat.not_lt_zero _), fun l0 h _ => ⟨l0, h, Nat.le_refl _⟩, fun l h => .inl h⟩
      | succ k =>
        have hk : os[k]? = some o1 := by simpa using hk
        obtain ⟨m', last', a1, a2, a3, a4, a5⟩ := ih ms (i + 1) _ h2 k o1 hk
        have hnew : (cls P o.op).isFx = true → ∃ l, last' = some l ∧ i ≤ l := by
          intro hf
          rw [hf] at a4
          obtain ⟨l, b1, b2⟩ := a4 i rfl (Nat.lt_succ_self _)
          exact ⟨l, b1, b2⟩
        refine ⟨m', last', by simpa using a1, by rw [show i + (k + 1) = i + 1 + k by omega]; exact a2, fun k' o' hlt hk' hfx => ?_, fun l0 hl hlt => ?_, fun l hl => ?_⟩
        · cases k' with
          | zero =>
            simp at hk'; subst hk'
            exact hnew (isFx_iff.2 hfx)
          | succ k' =>
            obtain ⟨l, b1, b2⟩ := a3 k' o' (by omega) (by simpa using hk') hfx
            exact ⟨l, b1, by omega⟩
        · cases hf : (cls P o.op).isFx with
          | true =>
            obtain ⟨l, b1, b2⟩ := hnew hf
            exact ⟨l, b1, by omega⟩
          | false =>
            rw [hf] at a4
            exact a4 l0 hl (by omega)
        · rcases a5 l hl with h | ⟨k', o', b1, b2, b3, b4⟩
          · cases hf : (cls P o.op).isFx with
            | true =>
              rw [hf] at h
              cases h
              exact .inr ⟨0, o, by omega, rfl, isFx_iff.1 hf, rfl⟩
            | false => rw [hf] at h; exact .inl h
          · exact .inr ⟨k' + 1, o', by omega, by simpa using b2, b3, by omega⟩
theorem mkk_none {i : Nat} (h : all[i]? = none) {j : Nat} : tstBit (mkk all i) j = false := by
  obtain ⟨l, e, hl⟩ := masks_pre all []
  have : mkk all i = 0 := by
    unfold mkk
    rw [e]
    have h1 : all.length ≤ i := List.getElem?_eq_none_iff.1 h
    rw [List.nil_append, List.getElem?_eq_none (by omega)]; rfl
  rw [this, tst_eq]; simp
theorem ord_of (hd : drawOk P all = true) : Ord P all := by
  have hone : ∀ k o, all[k]? = some o → ∃ last', oneOk P all (masks all []) o (mkk all k) k last' = true ∧ (∀ k', k' < k → Fxi P all k' → ∃ l, last' = some l ∧ k' ≤ l) ∧ (∀ l, last' = some l → l < k ∧ Fxi P all l) := by
    intro k o hk
    obtain ⟨m, last', a1, a2, a3, _, a5⟩ := orderOk_at all (masks all []) 0 none hd k o hk
    have hm : mkk all k = m := by unfold mkk; rw [a1]; rfl
    rw [hm]
    refine ⟨last', by simpa using a2, fun k' hlt ⟨o', h1, h2⟩ => ?_, fun l hl => ?_⟩
    · obtain ⟨l, b1, b2⟩ := a3 k' o' hlt h1 h2
      exact ⟨l, b1, by omega⟩
    · rcases a5 l hl with h | ⟨k', o', b1, b2, b3, b4⟩
      · cases h
      · have : l = k' := by omega
        subst this
        exact ⟨b1, o', b2, b3⟩
  have hpart : ∀ k o, all[k]? = some o → looksOk all (masks all []) o (mkk all k) k = true ∧ (∀ d, o.dst = some d → dstIdx all d 0 = some k) ∧ (∀ e, e ∈ o.after.toList → Region.binds .any e = true → e.on < k) ∧
      (cls P o.op = .fx → ∀ j, j < k → Fxi P all j → ∃ l, l < k ∧ Fxi P all l ∧ j ≤ l ∧ tstBit (mkk all k) l = true) := by
    intro k o hk
    obtain ⟨last', a1, a2, a3⟩ := hone k o hk
    obtain ⟨b1, b2, b3, b4⟩ := oneOk_ok a1
    refine ⟨b1, b2, fun e he hb => ?_, fun hf j hj hfx => ?_⟩
    · have := allV_forall.1 b3 e he
      rw [hb] at this
      exact (blt_iff _ _).1 this
    · obtain ⟨l, c1, c2⟩ := a2 j hj hfx
      obtain ⟨c3, c4⟩ := a3 l c1
      exact ⟨l, c3, c4, c2, b4 (isFx_iff.2 hf) l c1⟩
  have hedges : ∀ i o, all[i]? = some o → ∀ e, e ∈ o.after.toList → Region.binds .any e = true → e.on < i := fun i o ho => (hpart i o ho).2.2.1
  have hone' : ∀ (i j : Nat) (oi oj : Oper) d, all[i]? = some oi → all[j]? = some oj → oi.dst = some d → oj.dst = some d → i = j := fun i j oi oj d hi hj h1 h2 => by
    have a := (hpart i oi hi).2.1 d h1
    have b := (hpart j oj hj).2.1 d h2
    rw [a] at b; cases b; rfl
  have hlt : ∀ i j, tstBit (mkk all i) j = true → j < i := by
    intro i
    induction i using Nat.strongRecOn with
    | ind i ih =>
      intro j hj
      cases ho : all[i]? with
      | none => rw [mkk_none ho] at hj; cases hj
      | some o =>
        obtain ⟨e, h1, h2, h3⟩ := (mkk_tst ho (hedges i o ho)).1 hj
        have := hedges i o ho e h1 h2
        rcases h3 with rfl | h3
        · exact this
        · have := ih e.on this j h3; omega
  have htrans : ∀ i j k, tstBit (mkk all i) j = true → tstBit (mkk all j) k = true → tstBit (mkk all i) k = true := by
    intro i
    induction i using Nat.strongRecOn with
    | ind i ih =>
      intro j k hj hk
      cases ho : all[i]? with
      | none => rw [mkk_none ho] at hj; cases hj
      | some o =>
        obtain ⟨e, h1, h2, h3⟩ := (mkk_tst ho (hedges i o ho)).1 hj
        refine (mkk_tst ho (hedges i o ho)).2 ⟨e, h1, h2, .inr ?_⟩
        rcases h3 with rfl | h3
        · exact hk
        · exact ih e.on (hedges i o ho e h1 h2) j k h3 hk
  refine ⟨fun i o ho x hx j oj hj hd => ?_, hedges, hone', hlt, htrans, ?_⟩
  · have hl := (hpart i o ho).1
    obtain ⟨b2, b1⟩ := looksOk_ok hl
    rcases hx with hx | ⟨g, w, hg, hgt⟩
    · have hm : x ∈ tmpsOf o.op := by
        unfold tmpsOf
        exact List.mem_filterMap.2 ⟨.tmp x, by simpa using hx, rfl⟩
      exact b1 x hm j ((hpart j oj hj).2.1 x hd)
    · have hgj : g = j := by
        unfold guardT at hgt
        rw [nth_eq] at hgt
        cases hag : all[g]? with
        | none => rw [hag] at hgt; cases hgt
        | some og =>
          rw [hag] at hgt
          exact hone' g j og oj x hag hj hgt hd
      subst hgj
      exact .inl (b2 _ _ hg)
  · intro i
    induction i using Nat.strongRecOn with
    | ind i ih =>
      rintro j ⟨o, ho, hf⟩ hj hlt
      obtain ⟨l, c1, c2, c3, c4⟩ := (hpart i o ho).2.2.2 hf j hlt hj
      rcases Nat.lt_or_ge j l with h | h
      · exact htrans i l j c4 (ih l c1 j c2 hj h)
      · have : j = l := by omega
        subst this; exact c4
end
end Go.Ev

namespace Go.Ev
/-- how an operation went in the text's order -/
structure St where
  hh : H
  c : Nat
  c' : Nat
  v : Value
  hh' : H
  t : Env
section
variable (P : Program) (callF : FuncId → List Value → M Value) (yieldF : Nat → List Value → M Value) (ks : T Unit) (all : List Oper) (h0 : H) (t0 : Env) (c0 : Nat)
def Made (tr : Nat → St) (j n : Nat) (e : Ent) : Prop := (∃ o, all[j]? = some o ∧ cls P o.op = .new) ∧ T.get (tr j).hh' n = some e
def baseH (tr : Nat → St) : Option Nat → H
  | none => h0
  | some e => (tr e).hh'
noncomputable def baseM : Option Nat → Nat
  | none => 0
  | some e => mkk all e
/-- memory in which operation i may be taken behind the effect e -/
def HeapOk (tr : Nat → St) (e : Option Nat) (i : Nat) (hh : H) : Prop := ∀ n x, T.get hh n = some x → T.get (baseH h0 tr e) n = some x ∨ ∃ j, tstBit (mkk all i) j = true ∧ tstBit (baseM all e) j = false ∧ Made P all tr j n x
def EnvA (tr : Nat → St) (j : Nat) (t : Env) : Prop := ∀ x v, look ks t x = some v → (∀ (k : Nat) (o : Oper), k < j → all[k]? = some o → o.dst = some x → v = (tr k).v) ∧ ((∀ (k : Nat) (o : Oper), k < j → all[k]? = some o → o.dst ≠ some x) → look ks t0 x = some v)
def LastE (e : Option Nat) (j : Nat) : Prop := (∀ y, e = some y → y < j ∧ Fxi P all y) ∧ ∀ x, x < j → Fxi P all x → ∃ y, e = some y ∧ x ≤ y
def EsAt (tr : Nat → St) : Nat → List Fx → Prop
  | i, [] => ∀ x, x < i → ¬ Fxi P all x
  | i, .mk e m hb :: es => e < i ∧ Fxi P all e ∧ m = mkk all e ∧ hb = (tr e).hh' ∧ (∀ x, e < x → x < i → ¬ Fxi P all x) ∧ EsAt tr e es
structure Facts (tr : Nat → St) (i : Nat) (ts : List Env) (al : List Al) (es : List Fx) (t : Env) (c : Nat) : Prop where
  run : ∀ j, j < i → ∃ o, all[j]? = some o ∧ opV P callF yieldF all ks o (tr j).t (tr j).hh (tr j).c = .ok (tr j).v (tr j).hh' (tr j).c'
  cc : ∀ j, j < i → c0 ≤ (tr j).c ∧ (tr j).c ≤ (tr j).c' ∧ (tr j).c' ≤ c
  ord : ∀ j k, j < k → k < i → (tr j).c' ≤ (tr k).c
  env : ∀ j, j < i → EnvA ks all t0 tr j (tr j).t
  envN : EnvA ks all t0 tr i t
  val : ∀ j o, j < i → all[j]? = some o → cls P o.op = .val → (tr j).hh = .lf ∧ (tr j).c' = (tr j).c
  new : ∀ j o, j < i → all[j]? = some o → cls P o.op = .new → (tr j).hh = .lf
  rd : ∀ j o, j < i → all[j]? = some o → cls P o.op = .rd → (tr j).c' = (tr j).c
  mem : ∀ j o, j < i → all[j]? = some o → (cls P o.op = .rd ∨ cls P o.op = .fx) → ∃ e, LastE P all e j ∧ HeapOk P all h0 tr e j (tr j).hh
  es : EsAt P all tr i es
  al : ∀ j n e, Al.mk j n e ∈ al → j < i ∧ Made P all tr j n e
  c0 : c0 ≤ c
  ts : ts.length = i ∧ ∀ j, j < i → ts[i - 1 - j]? = some (tr j).t
end
section
variable {P : Program} {callF : FuncId → List Value → M Value} {yieldF : Nat → List Value → M Value} {ks : T Unit} {all : List Oper} {h0 : H} {t0 : Env} {c0 : Nat} {tr tr' : Nat → St} {i : Nat} {ts : List Env} {al : List Al} {es : List Fx} {t : Env} {c : Nat}
theorem HeapOk.congr (hO : Ord P all) {e : Option Nat} {hh : H} (hs : ∀ j, j < i → tr' j = tr j) (he : ∀ y, e = some y → y < i) (h : HeapOk P all h0 tr e i hh) : HeapOk P all h0 tr' e i hh := by
  intro n x hx
  rcases h n x hx with h1 | ⟨j, h1, h2, h3, h4⟩
  · left
    cases e with
    | none => exact h1
    | some y => show T.get (tr' y).hh' n = _; rw [hs y (he y rfl)]; exact h1
  · exact .inr ⟨j, h1, h2, h3, by rw [hs j (hO.lt i j h1)]; exact h4⟩
theorem EnvA.congr {j : Nat} {u : Env} (hs : ∀ k, k < j → tr' k = tr k) (h : EnvA ks all t0 tr j u) : EnvA ks all t0 tr' j u := by
  intro x v hx
  obtain ⟨h1, h2⟩ := h x v hx
  exact ⟨fun k o hk ho hd => by rw [hs k hk]; exact h1 k o hk ho hd, h2⟩
theorem EsAt.congr : ∀ (es : List Fx) (i : Nat), (∀ j, j < i → tr' j = tr j) → EsAt P all tr i es → EsAt P all tr' i es := by
  intro es
  induction es with
  | nil => exact fun i _ h => h
  | cons f es ih =>
    obtain ⟨e, m, hb⟩ := f
    rintro i hs ⟨h1, h2, h3, h4, h5, h6⟩
    exact ⟨h1, h2, h3, by rw [hs e h1]; exact h4, h5, ih e (fun j hj => hs j (Nat.lt_trans hj h1)) h6⟩
/-- the effect that stands last -/
def hdE : List Fx → Option Nat
  | [] => none
  | .mk e _ _ :: _ => some e
theorem EsAt.last : ∀ {es : List Fx} {i : Nat}, EsAt P all tr i es → LastE P all (hdE es) i ∧ fxM es = baseM all (hdE es) ∧ fxH h0 es = baseH h0 tr (hdE es) := by
  intro es i h
  cases es with
  | nil => exact ⟨⟨fun y hy => (by cases hy), fun x hx hf => absurd hf (h x hx)⟩, rfl, rfl⟩
  | cons f es =>
    obtain ⟨e, m, hb⟩ := f
    obtain ⟨h1, h2, h3, h4, h5, h6⟩ := h
    refine ⟨⟨fun y hy => ?_, fun x hx hf => ⟨e, rfl, ?_⟩⟩, h3, h4⟩
    · cases hy; exact ⟨h1, h2⟩
    · rcases Nat.lt_or_ge e x with hlt | hge
      · exact absurd hf (h5 x hlt hx)
      · exact hge
theorem inM_ok {m me j : Nat} : inM m me j = true ↔ tstBit m j = true ∧ tstBit me j = false := by
  unfold inM
  rw [andB, notB_eq]
  simp
theorem Facts.heap (hF : Facts P callF yieldF ks all h0 t0 c0 tr i ts al es t c) : HeapOk P all h0 tr (hdE es) i (mrg0 (inM (mkk all i) (fxM es)) al (fxH h0 es)) := by
  intro n x hx
  obtain ⟨_, h2, h3⟩ := hF.es.last (h0 := h0)
  rw [h2, h3] at hx
  rcases mrg0_get _ _ hx with h | ⟨j, h4, h5⟩
  · exact .inl h
  · obtain ⟨h6, h7⟩ := inM_ok.1 h4
    exact .inr ⟨j, h6, h7, (hF.al j n x h5).2⟩
/-- one operation more -/
theorem Facts.step (hO : Ord P all) (hF : Facts P callF yieldF ks all h0 t0 c0 tr i ts al es t c) {o : Oper} (ho : all[i]? = some o) {s : St} {al' : List Al} {es' : List Fx} {c1 : Nat}
    (hs : s.t = t ∧ s.c = c ∧ s.c' = c1) (hrun : opV P callF yieldF all ks o t s.hh c = .ok s.v s.hh' c1) (hc : c ≤ c1)
    (hval : cls P o.op = .val → s.hh = .lf ∧ c1 = c) (hnew : cls P o.op = .new → s.hh = .lf) (hrd : cls P o.op = .rd → c1 = c)
    (hmem : (cls P o.op = .rd ∨ cls P o.op = .fx) → s.hh = mrg0 (inM (mkk all i) (fxM es)) al (fxH h0 es))
    (hes : (cls P o.op = .fx ∧ es' = .mk i (mkk all i) s.hh' :: es) ∨ (cls P o.op ≠ .fx ∧ es' = es))
    (hal : al' = al ∨ (cls P o.op = .new ∧ ∃ n e, T.get s.hh' n = some e ∧ al' = .mk i n e :: al)) :
    ∃ tr', Facts P callF yieldF ks all h0 t0 c0 tr' (i + 1) (t :: ts) al' es' (put1 ks t o.dst s.v) c1 := by
  obtain ⟨hs1, hs2, hs3⟩ := hs
  let tr' : Nat → St := fun j => if j = i then s else tr j
  have ti : tr' i = s := by simp [tr']
  have tj : ∀ j, j < i → tr' j = tr j := fun j hj => by simp [tr', Nat.ne_of_lt hj]
  have split : ∀ j, j < i + 1 → j < i ∨ j = i := fun j hj => by omega
  have oi : ∀ o', all[i]? = some o' → o' = o := fun o' h => by rw [ho] at h; cases h; rfl
  refine ⟨tr', ?_, ?_, ?_, ?_, ?_, ?_, ?_, ?_, ?_, ?_, ?_, ?_, ?_⟩
  · intro j hj
    rcases split j hj with h | rfl
    · rw [tj j h]; exact hF.run j h
    · rw [ti, hs1, hs2, hs3]; exact ⟨o, ho, hrun⟩
  · intro j hj
    rcases split j hj with h | rfl
    · rw [tj j h]; obtain ⟨a, b, d⟩ := hF.cc j h; exact ⟨a, b, Nat.le_trans d hc⟩
    · rw [ti, hs2, hs3]; exact ⟨hF.c0, hc, Nat.le_refl _⟩
  · intro j k hjk hk
    rcases split k hk with h | rfl
    · rw [tj j (Nat.lt_trans hjk h), tj k h]; exact hF.ord j k hjk h
    · rw [tj j hjk, ti, hs2]; exact (hF.cc j hjk).2.2
  · intro j hj
    rcases split j hj with h | rfl
    · rw [tj j h]; exact (hF.env j h).congr fun k hk => tj k (Nat.lt_trans hk h)
    · rw [ti, hs1]; exact hF.envN.congr fun k hk => tj k hk
  · intro x v hx
    rcases look_put1 hx with ⟨hd, rfl⟩ | ⟨hd, hx⟩
    · refine ⟨fun k o' hk ho' hd' => ?_, fun hn => absurd hd (hn i o (Nat.lt_succ_self _) ho)⟩
      have : k = i := hO.one k i o' o x ho' ho hd' hd
      subst this
      rw [ti]
    · obtain ⟨h1, h2⟩ := hF.envN x v hx
      refine ⟨fun k o' hk ho' hd' => ?_, fun hn => h2 fun k o' hk => hn k o' (Nat.lt_succ_of_lt hk)⟩
      rcases split k hk with h | rfl
      · rw [tj k h]; exact h1 k o' h ho' hd'
      · rw [oi o' ho'] at hd'; exact absurd hd' hd
  · intro j o' hj ho' hk
    rcases split j hj with h | rfl
    · rw [tj j h]; exact hF.val j o' h ho' hk
    · rw [oi o' ho'] at hk; rw [ti, hs2, hs3]; exact hval hk
  · intro j o' hj ho' hk
    rcases split j hj with h | rfl
    · rw [tj j h]; exact hF.new j o' h ho' hk
    · rw [oi o' ho'] at hk; rw [ti]; exact hnew hk
  · intro j o' hj ho' hk
    rcases split j hj with h | rfl
    · rw [tj j h]; exact hF.rd j o' h ho' hk
    · rw [oi o' ho'] at hk; rw [ti, hs2, hs3]; exact hrd hk
  · intro j o' hj ho' hk
    rcases split j hj with h | rfl
    · rw [tj j h]
      obtain ⟨e, h1, h2⟩ := hF.mem j o' h ho' hk
      exact ⟨e, h1, h2.congr hO (fun k hk => tj k (Nat.lt_trans hk h)) fun y hy => (h1.1 y hy).1⟩
    · rw [oi o' ho'] at hk
      rw [ti, hmem hk]
      obtain ⟨h1, _, _⟩ := hF.es.last (h0 := h0)
      exact ⟨hdE es, h1, hF.heap.congr hO tj fun y hy => (h1.1 y hy).1⟩
  · rcases hes with ⟨hk, rfl⟩ | ⟨hk, rfl⟩
    · exact ⟨Nat.lt_succ_self _, ⟨o, ho, hk⟩, rfl, by rw [ti], fun x h1 h2 => by omega, hF.es.congr _ _ tj⟩
    · have hni : ¬ Fxi P all i := fun ⟨o', h1, h2⟩ => hk (by rw [← oi o' h1]; exact h2)
      have := hF.es.congr _ _ tj
      cases es' with
      | nil =>
        intro x hx
        rcases split x hx with h | rfl
        · exact this x h
        · exact hni
      | cons f es =>
        obtain ⟨e, m, hb⟩ := f
        obtain ⟨h1, h2, h3, h4, h5, h6⟩ := this
        refine ⟨Nat.lt_succ_of_lt h1, h2, h3, h4, fun x hx hx2 => ?_, h6⟩
        rcases split x hx2 with h | rfl
        · exact h5 x hx h
        · exact hni
  · intro j n e hm
    have old : Al.mk j n e ∈ al → j < i + 1 ∧ Made P all tr' j n e := fun hm => by
      obtain ⟨h1, h2, h3⟩ := hF.al j n e hm
      exact ⟨Nat.lt_succ_of_lt h1, h2, by rw [tj j h1]; exact h3⟩
    rcases hal with rfl | ⟨hk, n', e', h1, rfl⟩
    · exact old hm
    · rcases List.mem_cons.1 hm with h | h
      · cases h; exact ⟨Nat.lt_succ_self _, ⟨o, ho, hk⟩, by rw [ti]; exact h1⟩
      · exact old h
  · exact Nat.le_trans hF.c0 hc
  · obtain ⟨hl, hg⟩ := hF.ts
    refine ⟨by simp [hl], fun j hj => ?_⟩
    rcases split j hj with h | rfl
    · rw [tj j h, show i + 1 - 1 - j = (i - 1 - j) + 1 by omega, List.getElem?_cons_succ]
      exact hg j h
    · rw [ti, hs1, show j + 1 - 1 - j = 0 by omega]; rfl
theorem runD_ok {β : Type} (hO : Ord P all) (hC : ∀ f l, Mono (callF f l)) (hY : ∀ f l, Mono (yieldF f l)) {k : KD β} {r : β} {h' : H} {c' : Nat} : ∀ (os : List Oper) (ms : List Nat) (i : Nat) (tr : Nat → St) (t : Env) (ts : List Env) (al : List Al) (es : List Fx) (c : Nat), all.drop i = os → (masks all []).drop i = ms →
    Facts P callF yieldF ks all h0 t0 c0 tr i ts al es t c → runD P callF yieldF ks all os ms i k t ts al es h0 c = .ok r h' c' → ∃ tr ts al es t c1, Facts P callF yieldF ks all h0 t0 c0 tr all.length ts al es t c1 ∧ k t ts al es h0 c1 = .ok r h' c' := by
  intro os
  induction os with
  | nil =>
    intro ms i tr t ts al es c ha hm hF e
    have hl : all.length ≤ i := List.drop_eq_nil_iff.1 ha
    have hi : i = all.length := by
      rcases Nat.lt_or_ge all.length i with h | h
      · obtain ⟨o, ho, _⟩ := hF.run all.length h
        simp at ho
      · omega
    subst hi
    exact ⟨tr, ts, al, es, t, c, hF, e⟩
  | cons o os ih =>
    intro ms i tr t ts al es c ha hm hF e
    cases ms with
    | nil => exact (bad_ok.1 (show (bad : M β) h0 c = .ok r h' c' from e)).elim
    | cons m ms =>
      have ho : all[i]? = some o := by
        have : (all.drop i)[0]? = some o := by rw [ha]; rfl
        simpa using this
      have hmi : mkk all i = m := by
        have : ((masks all []).drop i)[0]? = some m := by rw [hm]; rfl
        unfold mkk
        rw [show (masks all [])[i]? = some m by simpa using this]; rfl
      have ha2 : all.drop (i + 1) = os := by rw [← List.drop_drop, ha]; rfl
      have hm2 : (masks all []).drop (i + 1) = ms := by rw [← List.drop_drop, hm]; rfl
      have key : ∃ tr' ts' al' es' t' c1, Facts P callF yieldF ks all h0 t0 c0 tr' (i + 1) ts' al' es' t' c1 ∧ runD P callF yieldF ks all os ms (i + 1) k t' ts' al' es' h0 c1 = .ok r h' c' := by
        subst hmi
        rcases opC_ok (show opC P callF yieldF ks all o (mkk all i) i (t :: ts) al es t (runD P callF yieldF ks all os ms (Nat.succ i) k) h0 c = .ok r h' c' from e) with ⟨hk, v, hh', e1, e2⟩ | ⟨hk, v, hh', e1, e2⟩ | ⟨hk, ⟨v, hh', e1, e2⟩ | ⟨v, hh', e0, e1, e3, e2⟩⟩ | ⟨hk, v, hh', c1, e1, e2⟩
        · obtain ⟨tr', hF'⟩ := hF.step hO ho (s := ⟨.lf, c, c, v, hh', t⟩) (al' := al) (es' := es) (c1 := c) ⟨rfl, rfl, rfl⟩ e1 (Nat.le_refl _) (fun _ => ⟨rfl, rfl⟩) (fun _ => rfl) (fun _ => rfl) (fun h => by rw [hk] at h; rcases h with h | h <;> cases h) (.inr ⟨by rw [hk]; simp, rfl⟩) (.inl rfl)
          exact ⟨tr', _, _, _, _, _, hF', e2⟩
        · obtain ⟨tr', hF'⟩ := hF.step hO ho (s := ⟨_, c, c, v, hh', t⟩) (al' := al) (es' := es) (c1 := c) ⟨rfl, rfl, rfl⟩ e1 (Nat.le_refl _) (fun h => by rw [hk] at h; cases h) (fun h => by rw [hk] at h; cases h) (fun _ => rfl) (fun h => rfl) (.inr ⟨by rw [hk]; simp, rfl⟩) (.inl rfl)
          exact ⟨tr', _, _, _, _, _, hF', e2⟩
        · obtain ⟨tr', hF'⟩ := hF.step hO ho (s := ⟨.lf, c, c, v, hh', t⟩) (al' := al) (es' := es) (c1 := c) ⟨rfl, rfl, rfl⟩ e1 (Nat.le_refl _) (fun _ => ⟨rfl, rfl⟩) (fun _ => rfl) (fun _ => rfl) (fun h => by rw [hk] at h; rcases h with h | h <;> cases h) (.inr ⟨by rw [hk]; simp, rfl⟩) (.inl rfl)
          exact ⟨tr', _, _, _, _, _, hF', e2⟩
        · obtain ⟨tr', hF'⟩ := hF.step hO ho (s := ⟨.lf, c, c + 1, v, hh', t⟩) (al' := .mk i c e0 :: al) (es' := es) (c1 := c + 1) ⟨rfl, rfl, rfl⟩ e1 (Nat.le_succ _) (fun h => by rw [hk] at h; cases h) (fun _ => rfl) (fun h => by rw [hk] at h; cases h) (fun h => by rw [hk] at h; rcases h with h | h <;> cases h) (.inr ⟨by rw [hk]; simp, rfl⟩) (.inr ⟨hk, c, e0, e3, rfl⟩)
          exact ⟨tr', _, _, _, _, _, hF', e2⟩
        · obtain ⟨tr', hF'⟩ := hF.step hO ho (s := ⟨_, c, c1, v, hh', t⟩) (al' := al) (es' := .mk i (mkk all i) hh' :: es) (c1 := c1) ⟨rfl, rfl, rfl⟩ e1 (m_opV hC hY _ _ _ _ _ e1) (fun h => by rw [hk] at h; cases h) (fun h => by rw [hk] at h; cases h) (fun h => by rw [hk] at h; cases h) (fun h => rfl) (.inl ⟨hk, rfl⟩) (.inl rfl)
          exact ⟨tr', _, _, _, _, _, hF', e2⟩
      obtain ⟨tr', ts', al', es', t', c1, hF', e'⟩ := key
      exact ih ms (i + 1) tr' t' ts' al' es' c1 ha2 hm2 hF' e'
end
end Go.Ev

namespace Go.Ev
section
variable {P : Program} {callF : FuncId → List Value → M Value} {yieldF : Nat → List Value → M Value} {ks : T Unit} {all : List Oper} {h0 : H} {t0 : Env} {c0 : Nat} {tr : Nat → St} {i : Nat} {ts : List Env} {al : List Al} {es : List Fx} {w t : Env} {c : Nat}
/-- the effect that comes first of these (the latest stands ahead) -/
def nextE (x : Option Nat) (pre : List Fx) : Option Nat := match pre.getLast? with | none => x | some f => some (fxI f)
theorem nextE_cons {x : Option Nat} {f : Fx} {pre : List Fx} : nextE x (f :: pre) = nextE (some (fxI f)) pre := by
  cases pre with
  | nil => rfl
  | cons g pre =>
    unfold nextE
    rw [List.getLast?_cons_cons]
    cases h : (g :: pre).getLast? with
    | none => simp at h
    | some z => rfl
theorem againAll_ok {m i : Nat} {o : Oper} {u : Unit} {h h' : H} {c c' : Nat} : ∀ (es : List Fx) (x : Option Nat), againAll P callF yieldF ks all al w t m i o es x h c = .ok u h' c' → ∀ pre fs, es = pre ++ fs → meets m i fs.head? (nextE x pre) = true →
    ∃ u, again P callF yieldF ks all al w t m o fs h c = .ok u h c := by
  have ag : ∀ es u h1 c1, again P callF yieldF ks all al w t m o es h c = .ok u h1 c1 → again P callF yieldF ks all al w t m o es h c = .ok u h c := fun es u h1 c1 e => by
    obtain ⟨rfl, rfl, _⟩ := again_ok e; exact e
  intro es
  induction es with
  | nil =>
    intro x e pre fs hp hm
    obtain ⟨rfl, rfl⟩ : pre = [] ∧ fs = [] := by simpa using hp.symm
    rcases sel_ok.1 (show (@Bool.rec (fun _ => M Unit) (ret ()) (again P callF yieldF ks all al w t m o []) (meets m i none x)) h c = .ok u h' c' from e) with ⟨_, e⟩ | ⟨hn, _⟩
    · exact ⟨u, ag _ _ _ _ e⟩
    · rw [show meets m i none x = true from hm] at hn; cases hn
  | cons f es ih =>
    intro x e pre fs hp hm
    obtain ⟨u1, h1, c1, e1, e2⟩ := bnd_ok.1 (show bnd (@Bool.rec (fun _ => M Unit) (ret ()) (again P callF yieldF ks all al w t m o (f :: es)) (meets m i (some f) x)) (fun _ => againAll P callF yieldF ks all al w t m i o es (some (fxI f))) h c = .ok u h' c' from e)
    have hq : h1 = h ∧ c1 = c := (Quiet.sel (fun _ _ _ _ _ e => let ⟨a, b, _⟩ := again_ok e; ⟨a, b⟩) Quiet.ret) _ _ _ _ _ e1
    obtain ⟨rfl, rfl⟩ := hq
    cases pre with
    | nil =>
      have : fs = f :: es := by simpa using hp.symm
      subst this
      rcases sel_ok.1 e1 with ⟨_, e⟩ | ⟨hn, _⟩
      · exact ⟨u1, ag _ _ _ _ e⟩
      · rw [show meets m i (some f) x = true from hm] at hn; cases hn
    | cons g pre =>
      have hh : f = g ∧ es = pre ++ fs := by simpa using hp
      obtain ⟨rfl, hp2⟩ := hh
      rw [nextE_cons] at hm
      exact ih _ e2 pre fs hp2 hm
theorem readers_ok {u : Unit} {h h' : H} {c c' : Nat} : ∀ (os : List Oper) (ms : List Nat) (us : List Env) (i : Nat), readers P callF yieldF ks all al es t os ms us i h c = .ok u h' c' → ∀ (k : Nat) o, os[k]? = some o → cls P o.op = .rd → ∃ m w, ms[k]? = some m ∧ us[k]? = some w ∧ ∃ u, againAll P callF yieldF ks all al w t m (i + k) o es none h c = .ok u h c := by
  intro os
  induction os with
  | nil => intro ms us i e k o hk; simp at hk
  | cons o os ih =>
    intro ms us i e k o' hk hc
    cases ms with
    | nil => exact (bad_ok.1 (show (bad : M Unit) h c = .ok u h' c' from e)).elim
    | cons m ms =>
      cases us with
      | nil => exact (bad_ok.1 (show (bad : M Unit) h c = .ok u h' c' from e)).elim
      | cons w us =>
      obtain ⟨u1, h1, c1, e1, e2⟩ := bnd_ok.1 (show bnd (@Bool.rec (fun _ => M Unit) (ret ()) (againAll P callF yieldF ks all al w t m i o es none) (cls P o.op).isRd) (fun _ => readers P callF yieldF ks all al es t os ms us (Nat.succ i)) h c = .ok u h' c' from e)
      have hq : h1 = h ∧ c1 = c := (Quiet.sel (q_againAll _ _) Quiet.ret) _ _ _ _ _ e1
      obtain ⟨rfl, rfl⟩ := hq
      cases k with
      | zero =>
        simp at hk; subst hk
        rcases sel_ok.1 e1 with ⟨_, e⟩ | ⟨hn, _⟩
        · exact ⟨m, w, rfl, rfl, u1, e⟩
        · rw [isRd_iff.2 hc] at hn; cases hn
      | succ k =>
        obtain ⟨m', w', h1, h3, h2⟩ := ih ms us (i + 1) e2 k o' (by simpa using hk) hc
        exact ⟨m', w', by simpa using h1, by simpa using h3, by rw [show i + (k + 1) = i + 1 + k by omega]; exact h2⟩
theorem revA_eq {α : Type} : ∀ (l acc : List α), revA l acc = l.reverse ++ acc := by
  intro l
  induction l with
  | nil => exact fun acc => rfl
  | cons x l ih => intro acc; show revA l (x :: acc) = _; rw [ih]; simp
/-- the effects stand in the list -/
theorem EsAt.split : ∀ (es : List Fx) (i : Nat), EsAt P all tr i es → ∀ y, Fxi P all y → y < i → ∃ pre fs, es = pre ++ .mk y (mkk all y) (tr y).hh' :: fs ∧ EsAt P all tr y fs ∧ (∀ x, nextE none pre = some x → y < x ∧ x < i ∧ Fxi P all x) ∧
    (∀ z, Fxi P all z → y < z → z < i → ∃ x, nextE none pre = some x ∧ x ≤ z) := by
  intro es
  induction es with
  | nil => intro i h y hy hlt; exact absurd hy (h y hlt)
  | cons f es ih =>
    obtain ⟨e, m, hb⟩ := f
    rintro i ⟨h1, h2, h3, h4, h5, h6⟩ y hy hlt
    rcases Nat.lt_trichotomy y e with h | h | h
    · obtain ⟨pre, fs, a1, a2, a3, a4⟩ := ih e h6 y hy h
      refine ⟨.mk e m hb :: pre, fs, by rw [a1]; rfl, a2, fun x hx => ?_, fun z hz h7 h8 => ?_⟩
      · rw [nextE_cons] at hx
        cases hp : pre.getLast? with
        | none => unfold nextE at hx; rw [hp] at hx; cases hx; exact ⟨h, h1, h2⟩
        | some g =>
          obtain ⟨b1, b2, b3⟩ := a3 x (by unfold nextE at hx ⊢; rw [hp] at hx ⊢; exact hx)
          exact ⟨b1, Nat.lt_trans b2 h1, b3⟩
      · rw [nextE_cons]
        rcases Nat.lt_or_ge z e with hze | hze
        · obtain ⟨x, b1, b2⟩ := a4 z hz h7 hze
          cases hp : pre.getLast? with
          | none => unfold nextE at b1; rw [hp] at b1; cases b1
          | some g => exact ⟨x, by unfold nextE at b1 ⊢; rw [hp] at b1 ⊢; exact b1, b2⟩
        · cases hp : pre.getLast? with
          | none => exact ⟨e, by unfold nextE; rw [hp]; rfl, hze⟩
          | some g =>
            obtain ⟨b1, b2, _⟩ := a3 (fxI g) (by unfold nextE; rw [hp])
            exact ⟨fxI g, by unfold nextE; rw [hp], by omega⟩
    · subst h
      subst h3; subst h4
      exact ⟨[], es, rfl, h6, fun x hx => (by cases hx), fun z hz h7 h8 => absurd hz (h5 z h7 h8)⟩
    · exact absurd hy (h5 y h hlt)
end
end Go.Ev

namespace Go.Ev
section
variable {P : Program} {callF : FuncId → List Value → M Value} {yieldF : Nat → List Value → M Value} {ks : T Unit} {all : List Oper} {h0 : H} {t0 : Env} {c0 : Nat} {tr : Nat → St} {i : Nat} {ts : List Env} {al : List Al} {es : List Fx} {t : Env} {c : Nat}
theorem EsAt.first : ∀ (es : List Fx) (i : Nat), EsAt P all tr i es → (∀ x, nextE none es = some x → x < i ∧ Fxi P all x) ∧ ∀ z, Fxi P all z → z < i → ∃ x, nextE none es = some x ∧ x ≤ z := by
  intro es
  induction es with
  | nil => exact fun i h => ⟨fun x hx => (by cases hx), fun z hz h1 => absurd hz (h z h1)⟩
  | cons f es ih =>
    obtain ⟨e, m, hb⟩ := f
    rintro i ⟨h1, h2, h3, h4, h5, h6⟩
    obtain ⟨k1, k2⟩ := ih e h6
    refine ⟨fun x hx => ?_, fun z hz hlt => ?_⟩
    · rw [nextE_cons] at hx
      cases hp : es.getLast? with
      | none => unfold nextE at hx; rw [hp] at hx; cases hx; exact ⟨h1, h2⟩
      | some g =>
        obtain ⟨b1, b2⟩ := k1 x (by unfold nextE at hx ⊢; rw [hp] at hx ⊢; exact hx)
        exact ⟨Nat.lt_trans b1 h1, b2⟩
    · rw [nextE_cons]
      cases hp : es.getLast? with
      | none =>
        refine ⟨e, by unfold nextE; rw [hp]; rfl, ?_⟩
        rcases Nat.lt_or_ge z e with h | h
        · obtain ⟨x, b1, _⟩ := k2 z hz h
          unfold nextE at b1; rw [hp] at b1; cases b1
        · exact h
      | some g =>
        rcases Nat.lt_or_ge z e with h | h
        · obtain ⟨x, b1, b2⟩ := k2 z hz h
          exact ⟨x, by unfold nextE at b1 ⊢; rw [hp] at b1 ⊢; exact b1, b2⟩
        · obtain ⟨b1, _⟩ := k1 (fxI g) (by unfold nextE; rw [hp])
          exact ⟨fxI g, by unfold nextE; rw [hp], by omega⟩
/-- the state behind effect e is one in which the reader i may be taken -/
def Adm (P : Program) (all : List Oper) (e : Option Nat) (i : Nat) : Prop := (∀ y, e = some y → y < all.length ∧ Fxi P all y ∧ tstBit (mkk all y) i = false) ∧ ∀ x, Fxi P all x → tstBit (mkk all i) x = true → ∃ y, e = some y ∧ x ≤ y
/-- what an environment knows of the slots that operation i looks at -/
def EnvB (ks : T Unit) (all : List Oper) (t0 : Env) (tr : Nat → St) (i : Nat) (t : Env) : Prop := ∀ x v, look ks t x = some v → (∀ (k : Nat) (o : Oper), tstBit (mkk all i) k = true → all[k]? = some o → o.dst = some x → v = (tr k).v) ∧ ((∀ (k : Nat) (o : Oper), all[k]? = some o → o.dst = some x → tstBit (mkk all k) i = true) → look ks t0 x = some v)
theorem EnvA.b (hO : Ord P all) (h : EnvA ks all t0 tr i t) : EnvB ks all t0 tr i t := fun x v hx => by
  obtain ⟨h1, h2⟩ := h x v hx
  exact ⟨fun k o hk => h1 k o (hO.lt i k hk), fun hn => h2 fun k o hk ho hd => absurd (hO.lt k i (hn k o ho hd)) (by omega)⟩
theorem meets_ok {m i : Nat} {e : Option Fx} {x : Option Nat} (h1 : ¬ ((∀ y, x = some y → i < y) ∧ ∀ f, e = some f → fxI f < i)) (h2 : ∀ y, x = some y → tstBit m y = false) (h3 : ∀ f, e = some f → tstBit (fxN f) i = false) : meets m i e x = true := by
  unfold meets
  rw [andB, andB]
  refine ⟨?_, ?_, ?_⟩
  · cases e with
    | none => rfl
    | some f => dsimp only; rw [h3 f rfl]; rfl
  · cases x with
    | none => rfl
    | some y => dsimp only; rw [h2 y rfl]; rfl
  · rw [notB_eq]
    simp only [Bool.not_eq_true']
    rw [Bool.eq_false_iff]
    intro hh
    obtain ⟨a, b⟩ := andB.1 hh
    refine h1 ⟨fun y hy => ?_, fun f hf => ?_⟩
    · subst hy; exact (blt_iff _ _).1 b
    · subst hf; exact (blt_iff _ _).1 a
/-- a reader in any state in which it may be taken -/
theorem reader_at (hO : Ord P all) (hF : Facts P callF yieldF ks all h0 t0 c0 tr all.length ts al es t c) (hR : es = [] ∨ ∃ u, readers P callF yieldF ks all al es t all (masks all []) (revA ts []) 0 h0 c = .ok u h0 c)
    {o : Oper} (ho : all[i]? = some o) (hk : cls P o.op = .rd) {e : Option Nat} (hA : Adm P all e i) :
    ∃ t hh c v, opV P callF yieldF all ks o t hh c = .ok v hh c ∧ EnvB ks all t0 tr i t ∧ HeapOk P all h0 tr e i hh ∧ ∀ d, o.dst = some d → v = (tr i).v := by
  have hi : i < all.length := (List.getElem?_eq_some_iff.1 ho).1
  have hni : ¬ Fxi P all i := fun ⟨o', h1, h2⟩ => by rw [ho] at h1; cases h1; rw [hk] at h2; cases h2
  -- the text's own state
  have own : LastE P all e i → ∃ t hh c v, opV P callF yieldF all ks o t hh c = .ok v hh c ∧ EnvB ks all t0 tr i t ∧ HeapOk P all h0 tr e i hh ∧ ∀ d, o.dst = some d → v = (tr i).v := by
    intro hl
    obtain ⟨o', h1, h2⟩ := hF.run i hi
    rw [ho] at h1; cases h1
    obtain ⟨e', h3, h4⟩ := hF.mem i o hi ho (.inl hk)
    have hee : e' = e := by
      cases e' with
      | none => cases e with
        | none => rfl
        | some y => obtain ⟨a, b⟩ := hl.1 y rfl; obtain ⟨z, b1, _⟩ := h3.2 y a b; cases b1
      | some y' =>
        obtain ⟨a, b⟩ := h3.1 y' rfl
        obtain ⟨y, b1, b2⟩ := hl.2 y' a b
        subst b1
        obtain ⟨a', b'⟩ := hl.1 y rfl
        obtain ⟨z, b3, b4⟩ := h3.2 y a' b'
        cases b3
        rw [Nat.le_antisymm b2 b4]
    subst hee
    have hc := hF.rd i o hi ho hk
    rw [hc] at h2
    obtain ⟨hq, _⟩ := rd_quiet hk h2
    rw [hq] at h2
    exact ⟨_, _, _, _, h2, (hF.env i hi).b hO, h4, fun _ _ => rfl⟩
  -- the split of the effects
  obtain ⟨pre, fs, hsp, hhd, hfs, hnx1, hnx2⟩ : ∃ pre fs, es = pre ++ fs ∧ hdE fs = e ∧ (fxM fs = baseM all e ∧ fxH h0 fs = baseH h0 tr e) ∧ (∀ x, nextE none pre = some x → (x < all.length ∧ Fxi P all x) ∧ ∀ y, e = some y → y < x) ∧
      (∀ z, Fxi P all z → (∀ y, e = some y → y < z) → z < all.length → ∃ x, nextE none pre = some x ∧ x ≤ z) := by
    cases e with
    | none =>
      obtain ⟨k1, k2⟩ := hF.es.first
      exact ⟨es, [], by simp, rfl, ⟨rfl, rfl⟩, fun x hx => ⟨k1 x hx, fun y hy => (by cases hy)⟩, fun z hz _ hlt => k2 z hz hlt⟩
    | some y =>
      obtain ⟨hy1, hy2, _⟩ := hA.1 y rfl
      obtain ⟨pre, fs, a1, a2, a3, a4⟩ := hF.es.split _ _ y hy2 hy1
      exact ⟨pre, _, a1, rfl, ⟨rfl, rfl⟩, fun x hx => ⟨(a3 x hx).2, fun y' hy' => (by cases hy'; exact (a3 x hx).1)⟩, fun z hz h hlt => a4 z hz (h y rfl) hlt⟩
  by_cases hown : (∀ y, nextE none pre = some y → i < y) ∧ ∀ f, fs.head? = some f → fxI f < i
  · refine own ⟨fun y hy => ?_, fun x hx hf => ?_⟩
    · subst hy
      obtain ⟨_, hy2, _⟩ := hA.1 y rfl
      refine ⟨?_, hy2⟩
      cases fs with
      | nil => cases hhd
      | cons f fs => obtain ⟨e', m, hb⟩ := f; cases hhd; exact hown.2 _ rfl
    · cases e with
      | none =>
        obtain ⟨x', b1, b2⟩ := hnx2 x hf (fun y hy => by cases hy) (Nat.lt_trans hx hi)
        have := hown.1 x' b1; omega
      | some y =>
        refine ⟨y, rfl, ?_⟩
        rcases Nat.lt_or_ge y x with h | h
        · obtain ⟨x', b1, b2⟩ := hnx2 x hf (fun y' hy' => by cases hy'; exact h) (Nat.lt_trans hx hi)
          have := hown.1 x' b1; omega
        · exact h
  · rcases hR with hR | ⟨u, hR⟩
    · -- no effects at all
      subst hR
      obtain ⟨rfl, rfl⟩ : pre = [] ∧ fs = [] := by simpa using hsp.symm
      exact absurd ⟨fun y hy => (by cases hy), fun f hf => (by cases hf)⟩ hown
    · obtain ⟨m, w, hm, hw, u2, e2⟩ := readers_ok _ _ _ _ hR i o ho hk
      obtain ⟨htl, htg⟩ := hF.ts
      have hw : w = (tr i).t := by
        rw [revA_eq, List.append_nil, List.getElem?_reverse (by omega), htl, htg i hi] at hw
        cases hw; rfl
      subst hw
      have hmk : mkk all i = m := by unfold mkk; rw [hm]; rfl
      subst hmk
      rw [Nat.zero_add] at e2
      obtain ⟨u3, e3⟩ := againAll_ok _ _ e2 pre fs hsp (meets_ok hown (fun y hy => by
        cases hb : tstBit (mkk all i) y with
        | false => rfl
        | true =>
          exfalso
          have hyf : Fxi P all y := (hnx1 y hy).1.2
          obtain ⟨z, b1, b2⟩ := hA.2 y hyf hb
          have := (hnx1 y hy).2 z b1; omega) (fun f hf => by
        cases fs with
        | nil => cases hf
        | cons g fs =>
          cases hf
          obtain ⟨e', m', hb⟩ := f
          have he : e = some e' := hhd.symm
          have := (hA.1 e' he).2.2
          have hfm : m' = mkk all e' := by have := hfs.1; rw [he] at this; exact this
          show tstBit m' i = false
          rw [hfm]; exact this))
      obtain ⟨_, _, v, hh', e4, e5⟩ := again_ok e3
      obtain ⟨hq, _⟩ := rd_quiet hk e4
      rw [hq] at e4
      refine ⟨(tr i).t, _, c, v, e4, (hF.env i hi).b hO, fun n x hx => ?_, fun d hd => ?_⟩
      · rw [hfs.1, hfs.2] at hx
        rcases mrg0_get _ _ hx with h | ⟨j, h4, h5⟩
        · exact .inl h
        · obtain ⟨h6, h7⟩ := inM_ok.1 h4
          exact .inr ⟨j, h6, h7, (hF.al j n x h5).2⟩
      · obtain ⟨r, hr, hs⟩ := e5 d hd
        rw [sameV_eq _ _ _ hs]
        exact (hF.envN d r hr).1 i o hi ho hd
end
end Go.Ev

namespace Go.Ev
/-- what is given: the text's own run, and where the region begins -/
structure Ctx (P : Program) (σ : Nat → Value) (B : Nat) (w0 : World) (callF : FuncId → List Value → M Value) (yieldF : Nat → List Value → M Value) (ks : T Unit) (all : List Oper) (h0 : H) (t0 : Env) (c0 cN : Nat) (tr : Nat → St) (ρ0 : Rho) (G0 : Nat → Option Ent) (a0 : Act) where
  hO : Ord P all
  hC : SimF P σ B w0 callF
  hY : SimY P σ B w0 yieldF
  run : ∀ j o, all[j]? = some o → opV P callF yieldF all ks o (tr j).t (tr j).hh (tr j).c = .ok (tr j).v (tr j).hh' (tr j).c'
  cc : ∀ j, j < all.length → c0 ≤ (tr j).c ∧ (tr j).c ≤ (tr j).c' ∧ (tr j).c' ≤ cN
  ord : ∀ j k, j < k → k < all.length → (tr j).c' ≤ (tr k).c
  env : ∀ j, j < all.length → EnvB ks all t0 tr j (tr j).t
  val : ∀ j o, all[j]? = some o → cls P o.op = .val → (tr j).hh = .lf ∧ (tr j).c' = (tr j).c
  new : ∀ j o, all[j]? = some o → cls P o.op = .new → (tr j).hh = .lf
  fx : ∀ j o, all[j]? = some o → cls P o.op = .fx → ∃ e, LastE P all e j ∧ HeapOk P all h0 tr e j (tr j).hh
  rd : ∀ j o, all[j]? = some o → cls P o.op = .rd → ∀ e, Adm P all e j → ∃ t hh c v, opV P callF yieldF all ks o t hh c = .ok v hh c ∧ EnvB ks all t0 tr j t ∧ HeapOk P all h0 tr e j hh ∧ ∀ d, o.dst = some d → v = (tr j).v
  fresh : Fresh ρ0 c0 cN
  view : View h0 G0
  dom0 : ∀ n, T.get h0 n ≠ none → ¬ (c0 ≤ n ∧ n < cN)
  env0 : EnvR σ ρ0 ks t0 a0.tmps
  dst : ∀ (j : Nat) (o : Oper) d, all[j]? = some o → o.dst = some d → d < a0.tmps.size
/-- the names that operation k takes -/
def Itv (tr : Nat → St) (k n : Nat) : Prop := (tr k).c ≤ n ∧ n < (tr k).c'
structure Inv (P : Program) (σ : Nat → Value) (B : Nat) (w0 : World) (all : List Oper) (h0 : H) (tr : Nat → St) (ρ0 : Rho) (G0 : Nat → Option Ent) (a0 : Act) (S : Nat → Prop) (e : Option Nat) (ρ : Rho) (G : Nat → Option Ent) (a : Act) (w : World) : Prop where
  dn : ∀ i j, S i → tstBit (mkk all i) j = true → S j
  sz : ∀ i, S i → i < all.length
  lastA : ∀ y, e = some y → S y ∧ Fxi P all y
  lastB : ∀ x, S x → Fxi P all x → ∃ y, e = some y ∧ x ≤ y
  mt : Match σ B w0 ρ G w
  base : ∀ n x, T.get (baseH h0 tr e) n = some x → G n = some x
  mades : ∀ j n x, S j → tstBit (baseM all e) j = false → Made P all tr j n x → G n = some x
  dom : ∀ n x, T.get (baseH h0 tr e) n = some x → T.get h0 n ≠ none ∨ ∃ k, S k ∧ (e = some k ∨ tstBit (baseM all e) k = true) ∧ Itv tr k n
  domN : ∀ j n x, S j → Made P all tr j n x → Itv tr j n
  le : Rho.le ρ0 ρ
  rest : ∀ n, (∀ k, S k → ¬ Itv tr k n) → ρ n = ρ0 n
  frame : ∀ n, T.get h0 n = none → (∀ k, S k → ¬ Itv tr k n) → G n = G0 n
  env0 : ∀ x, (∀ (k : Nat) (o : Oper), S k → all[k]? = some o → o.dst ≠ some x) → a.tmps[x]? = a0.tmps[x]?
  env1 : ∀ (k : Nat) (o : Oper) x, S k → all[k]? = some o → o.dst = some x → ∃ v', a.tmps[x]? = some v' ∧ VR σ ρ (tr k).v v'
  size : a.tmps.size = a0.tmps.size
  dfr : a.defers = a0.defers
section
variable {P : Program} {σ : Nat → Value} {B : Nat} {w0 : World} {callF : FuncId → List Value → M Value} {yieldF : Nat → List Value → M Value} {ks : T Unit} {all : List Oper} {h0 : H} {t0 : Env} {c0 cN : Nat} {tr : Nat → St} {ρ0 ρ : Rho} {G0 G : Nat → Option Ent} {a0 a : Act} {w : World} {S : Nat → Prop} {e : Option Nat} {i : Nat} {o : Oper}
theorem Inv.hdom (I : Inv P σ B w0 all h0 tr ρ0 G0 a0 S e ρ G a w) (hp : ∀ j, tstBit (mkk all i) j = true → S j) {hh : H} (hh1 : HeapOk P all h0 tr e i hh) {n : Nat} {x : Ent} (hx : T.get hh n = some x) :
    T.get h0 n ≠ none ∨ ∃ k, S k ∧ (tstBit (mkk all i) k = true ∨ e = some k ∨ tstBit (baseM all e) k = true) ∧ Itv tr k n := by
  rcases hh1 n x hx with h | ⟨j, h1, _, h3⟩
  · rcases I.dom n x h with h | ⟨k, h4, h5, h6⟩
    · exact .inl h
    · exact .inr ⟨k, h4, .inr h5, h6⟩
  · exact .inr ⟨j, hp j h1, .inl h1, I.domN j n x (hp j h1) h3⟩
theorem Inv.hview (I : Inv P σ B w0 all h0 tr ρ0 G0 a0 S e ρ G a w) (hp : ∀ j, tstBit (mkk all i) j = true → S j) {hh : H} (hh1 : HeapOk P all h0 tr e i hh) : View hh G := fun n x hx => by
  rcases hh1 n x hx with h | ⟨j, h1, h2, h3⟩
  · exact I.base n x h
  · exact I.mades j n x (hp j h1) h2 h3
/-- the state behind which the next operation is taken is one in which it may be taken -/
theorem Inv.adm (I : Inv P σ B w0 all h0 tr ρ0 G0 a0 S e ρ G a w) (hi : ¬ S i) (hp : ∀ j, tstBit (mkk all i) j = true → S j) : Adm P all e i :=
  ⟨fun y hy => by
    obtain ⟨h1, h2⟩ := I.lastA y hy
    refine ⟨I.sz y h1, h2, ?_⟩
    cases hb : tstBit (mkk all y) i with
    | false => rfl
    | true => exact absurd (I.dn y i h1 hb) hi, fun x hx hb => I.lastB x (hp x hb) hx⟩
theorem Ctx.disj (X : Ctx P σ B w0 callF yieldF ks all h0 t0 c0 cN tr ρ0 G0 a0) {j k n : Nat} (hj : j < all.length) (hk : k < all.length) (h1 : Itv tr j n) (h2 : Itv tr k n) : j = k := by
  rcases Nat.lt_trichotomy j k with h | h | h
  · have := X.ord j k h hk; unfold Itv at h1 h2; omega
  · exact h
  · have := X.ord k j h hj; unfold Itv at h1 h2; omega
theorem Ctx.itv (X : Ctx P σ B w0 callF yieldF ks all h0 t0 c0 cN tr ρ0 G0 a0) {k n : Nat} (hk : k < all.length) (h : Itv tr k n) : c0 ≤ n ∧ n < cN := by
  have := X.cc k hk; unfold Itv at h; omega
theorem Ctx.looks (X : Ctx P σ B w0 callF yieldF ks all h0 t0 c0 cN tr ρ0 G0 a0) (I : Inv P σ B w0 all h0 tr ρ0 G0 a0 S e ρ G a w) (ho : all[i]? = some o) (hi : ¬ S i) (hp : ∀ j, tstBit (mkk all i) j = true → S j) {t : Env} (ht : EnvB ks all t0 tr i t) :
    ∀ x, Looks all o x → ∀ v, look ks t x = some v → ∃ v', a.tmps[x]? = some v' ∧ VR σ ρ v v' := by
  intro x hx v hv
  obtain ⟨h1, h2⟩ := ht x v hv
  by_cases hd : ∃ (k : Nat) (ok : Oper), all[k]? = some ok ∧ ok.dst = some x
  · obtain ⟨k, ok, h3, h4⟩ := hd
    rcases X.hO.looks i o ho x hx k ok h3 h4 with hm | hm
    · rw [h1 k ok hm h3 h4]
      exact I.env1 k ok x (hp k hm) h3 h4
    · -- the slot is written behind this operation: it holds what it held
      obtain ⟨v', h5, h6⟩ := X.env0 x v (h2 fun k' ok' h7 h8 => by
        have := X.hO.one k' k ok' ok x h7 h3 h8 h4
        subst this; exact hm)
      refine ⟨v', ?_, h6.le I.le⟩
      rw [I.env0 x fun k' ok' hk' h7 h8 => by
        have := X.hO.one k' k ok' ok x h7 h3 h8 h4
        subst this
        exact hi (I.dn k' i hk' hm)]
      exact h5
  · have hn : ∀ (k : Nat) (o : Oper), all[k]? = some o → o.dst ≠ some x := fun k o h3 h4 => hd ⟨k, o, h3, h4⟩
    obtain ⟨v', h3, h4⟩ := X.env0 x v (h2 fun k o h5 h6 => absurd h6 (hn k o h5))
    exact ⟨v', by rw [I.env0 x fun k o _ => hn k o]; exact h3, h4.le I.le⟩
/-- all but what hangs on the kind of the operation -/
theorem Ctx.take (X : Ctx P σ B w0 callF yieldF ks all h0 t0 c0 cN tr ρ0 G0 a0) (I : Inv P σ B w0 all h0 tr ρ0 G0 a0 S e ρ G a w) (ho : all[i]? = some o) (hi : ¬ S i) (hp : ∀ j, tstBit (mkk all i) j = true → S j) {t : Env} {hh hh' : H} {c c' : Nat} {v : Value}
    (ht : EnvB ks all t0 tr i t) (hr : opV P callF yieldF all ks o t hh c = .ok v hh' c') (hv : View hh G) (hc : ∀ n, c ≤ n → n < c' → Itv tr i n) (hvv : ∀ d, o.dst = some d → v = (tr i).v)
    (hd : ∀ n x, T.get hh n = some x → T.get h0 n ≠ none ∨ ∃ k, S k ∧ Itv tr k n)
    {e' : Option Nat} (hlA : ∀ y, e' = some y → (S y ∨ y = i) ∧ Fxi P all y) (hlB : ∀ x, (S x ∨ x = i) → Fxi P all x → ∃ y, e' = some y ∧ x ≤ y)
    (k : ∀ (G' : Nat → Option Ent), View hh' G' → (∀ n, T.get hh n = none → ¬ (c ≤ n ∧ n < c') → G' n = G n) → Okk hh hh' c c' → (∀ n x, T.get (baseH h0 tr e') n = some x → G' n = some x) ∧
      (∀ j n x, (S j ∨ j = i) → tstBit (baseM all e') j = false → Made P all tr j n x → G' n = some x) ∧
      (∀ n x, T.get (baseH h0 tr e') n = some x → T.get h0 n ≠ none ∨ ∃ k, (S k ∨ k = i) ∧ (e' = some k ∨ tstBit (baseM all e') k = true) ∧ Itv tr k n) ∧ (∀ n x, Made P all tr i n x → Itv tr i n)) :
    ∃ ρ' G' w' v', OpDoes P all o a w v' w' ∧ Inv P σ B w0 all h0 tr ρ0 G0 a0 (fun j => S j ∨ j = i) e' ρ' G' (a.put o.dst v') w' := by
  have hil : i < all.length := (List.getElem?_eq_some_iff.1 ho).1
  have hff : Fresh ρ c c' := fun n h1 h2 => by
    have hin := hc n h1 h2
    rw [I.rest n (fun k hk hk2 => by have := X.disj hil (I.sz k hk) hin hk2; subst this; exact hi hk)]
    have := X.itv hil hin
    exact X.fresh n this.1 this.2
  obtain ⟨ρ', G', w', v', hdo, ok, p, hr'⟩ := opV_at X.hC X.hY hr hv I.mt hff (X.looks I ho hi hp ht)
  obtain ⟨k1, k2, k3, k4⟩ := k G' p.view p.frame ok
  have oi : ∀ o', all[i]? = some o' → o' = o := fun o' h => by rw [ho] at h; cases h; rfl
  refine ⟨ρ', G', w', v', hdo, ⟨?_, ?_, hlA, hlB, p.mt, k1, k2, k3, ?_, Rho.le_trans I.le p.le, ?_, ?_, ?_, ?_, by rw [put_size]; exact I.size, by rw [put_defers]; exact I.dfr⟩⟩
  · rintro j j' (h | rfl) hb
    · exact .inl (I.dn j j' h hb)
    · exact .inl (hp j' hb)
  · rintro j (h | rfl)
    · exact I.sz j h
    · exact hil
  · rintro j n x (h | rfl) hm
    · exact I.domN j n x h hm
    · exact k4 n x hm
  · intro n hn
    rw [p.rest n (fun hin => hn i (.inr rfl) (hc n hin.1 hin.2)), I.rest n fun k hk => hn k (.inl hk)]
  · intro n hn0 hn
    have hnh : T.get hh n = none := by
      cases hx : T.get hh n with
      | none => rfl
      | some x =>
        rcases hd n x hx with h | ⟨k, h1, h2⟩
        · exact absurd hn0 h
        · exact absurd h2 (hn k (.inl h1))
    rw [p.frame n hnh (fun hin => hn i (.inr rfl) (hc n hin.1 hin.2)), I.frame n hn0 fun k hk => hn k (.inl hk)]
  · intro x hn
    have := hn i o (.inr rfl) ho
    rw [← I.env0 x fun k o hk => hn k o (.inl hk)]
    cases hdst : o.dst with
    | none => rfl
    | some d =>
      show (a.tmps.setIfInBounds d v')[x]? = _
      exact Array.getElem?_setIfInBounds_ne (fun h => this (by rw [hdst, h]))
  · rintro j o' x (h | rfl) ho' hd'
    · obtain ⟨y, h1, h2⟩ := I.env1 j o' x h ho' hd'
      refine ⟨y, ?_, h2.le p.le⟩
      rw [← h1]
      cases hdst : o.dst with
      | none => rfl
      | some d =>
        show (a.tmps.setIfInBounds d v')[x]? = _
        refine Array.getElem?_setIfInBounds_ne (fun hh => ?_)
        subst hh
        have := X.hO.one j i o' o d ho' ho hd' hdst
        subst this
        exact hi h
    · rw [oi o' ho'] at hd'
      rw [← hvv x hd']
      refine ⟨v', ?_, hr'⟩
      rw [hd']
      show (a.tmps.setIfInBounds x v')[x]? = _
      exact Array.getElem?_setIfInBounds_self_of_lt (by rw [I.size]; exact X.dst j o x ho hd')
end
end Go.Ev

namespace Go.Ev
section
variable {P : Program} {σ : Nat → Value} {B : Nat} {w0 : World} {callF : FuncId → List Value → M Value} {yieldF : Nat → List Value → M Value} {ks : T Unit} {all : List Oper} {h0 : H} {t0 : Env} {c0 cN : Nat} {tr : Nat → St} {ρ0 ρ : Rho} {G0 G : Nat → Option Ent} {a0 a : Act} {w : World} {S : Nat → Prop} {e : Option Nat} {i : Nat} {o : Oper}
/-- one operation more, in whatever order -/
theorem Ctx.step (X : Ctx P σ B w0 callF yieldF ks all h0 t0 c0 cN tr ρ0 G0 a0) (I : Inv P σ B w0 all h0 tr ρ0 G0 a0 S e ρ G a w) (ho : all[i]? = some o) (hi : ¬ S i) (hp : ∀ j, tstBit (mkk all i) j = true → S j) :
    ∃ e' ρ' G' w' v', OpDoes P all o a w v' w' ∧ Inv P σ B w0 all h0 tr ρ0 G0 a0 (fun j => S j ∨ j = i) e' ρ' G' (a.put o.dst v') w' := by
  have hil : i < all.length := (List.getElem?_eq_some_iff.1 ho).1
  have oi : ∀ o', all[i]? = some o' → o' = o := fun o' h => by rw [ho] at h; cases h; rfl
  have notin : ∀ n, (T.get h0 n ≠ none ∨ ∃ k, S k ∧ Itv tr k n) → ¬ Itv tr i n := fun n h hin => by
    rcases h with h | ⟨k, h1, h2⟩
    · exact X.dom0 n h (X.itv hil hin)
    · have := X.disj hil (I.sz k h1) hin h2
      subst this; exact hi h1
  -- no effect: the last one stays
  have stay : (cls P o.op ≠ .fx) → (∀ y, e = some y → (S y ∨ y = i) ∧ Fxi P all y) ∧ ∀ x, (S x ∨ x = i) → Fxi P all x → ∃ y, e = some y ∧ x ≤ y := fun hk =>
    ⟨fun y hy => ⟨.inl (I.lastA y hy).1, (I.lastA y hy).2⟩, fun x hx hf => by
      rcases hx with hx | rfl
      · exact I.lastB x hx hf
      · obtain ⟨o', h1, h2⟩ := hf
        rw [oi o' h1] at h2; exact absurd h2 hk⟩
  have dom' : ∀ n x, T.get (baseH h0 tr e) n = some x → T.get h0 n ≠ none ∨ ∃ k, (S k ∨ k = i) ∧ (e = some k ∨ tstBit (baseM all e) k = true) ∧ Itv tr k n := fun n x hx => by
    rcases I.dom n x hx with h | ⟨k, h1, h2, h3⟩
    · exact .inl h
    · exact .inr ⟨k, .inl h1, h2, h3⟩
  have notNew : cls P o.op ≠ .new → ∀ n x, ¬ Made P all tr i n x := fun hk n x ⟨⟨o', h1, h2⟩, _⟩ => by rw [oi o' h1] at h2; exact hk h2
  have hrun := X.run i o ho
  have henv := X.env i hil
  have vlf : ∀ G : Nat → Option Ent, View .lf G := fun G n x hx => by cases hx
  have dlf : ∀ n x, T.get (.lf : H) n = some x → T.get h0 n ≠ none ∨ ∃ k, S k ∧ Itv tr k n := fun n x hx => by cases hx
  cases hk : cls P o.op with
  | val =>
    obtain ⟨h1, h2⟩ := X.val i o ho hk
    rw [h1, h2] at hrun
    obtain ⟨l1, l2⟩ := stay (by rw [hk]; simp)
    refine ⟨e, X.take I ho hi hp henv hrun (vlf G) (fun n ha hb => by omega) (fun _ _ => rfl) dlf l1 l2 fun G' _ hfr _ => ?_⟩
    have hG : ∀ n, G' n = G n := fun n => hfr n rfl (fun h => by omega)
    refine ⟨fun n x hx => (hG n).trans (I.base n x hx), fun j n x hj hb hm => ?_, dom', fun n x hm => absurd hm (notNew (by rw [hk]; simp) n x)⟩
    rcases hj with hj | rfl
    · exact (hG n).trans (I.mades j n x hj hb hm)
    · exact absurd hm (notNew (by rw [hk]; simp) n x)
  | rd =>
    obtain ⟨t, hh, c, v, r1, r2, r3, r4⟩ := X.rd i o ho hk e (I.adm hi hp)
    obtain ⟨l1, l2⟩ := stay (by rw [hk]; simp)
    have hv := I.hview hp r3
    refine ⟨e, X.take I ho hi hp r2 r1 hv (fun n ha hb => by omega) r4 (fun n x hx => by
      rcases I.hdom hp r3 hx with h | ⟨k, h1, _, h3⟩
      · exact .inl h
      · exact .inr ⟨k, h1, h3⟩) l1 l2 fun G' hv' hfr _ => ?_⟩
    have hG : ∀ n, G' n = G n := fun n => by
      cases hx : T.get hh n with
      | none => exact hfr n hx (fun h => by omega)
      | some x => rw [hv n x hx, hv' n x hx]
    refine ⟨fun n x hx => (hG n).trans (I.base n x hx), fun j n x hj hb hm => ?_, dom', fun n x hm => absurd hm (notNew (by rw [hk]; simp) n x)⟩
    rcases hj with hj | rfl
    · exact (hG n).trans (I.mades j n x hj hb hm)
    · exact absurd hm (notNew (by rw [hk]; simp) n x)
  | new =>
    have h1 := X.new i o ho hk
    rw [h1] at hrun
    obtain ⟨l1, l2⟩ := stay (by rw [hk]; simp)
    refine ⟨e, X.take I ho hi hp henv hrun (vlf G) (fun n ha hb => ⟨ha, hb⟩) (fun _ _ => rfl) dlf l1 l2 fun G' hv' hfr ok => ?_⟩
    have hG : ∀ n, ¬ Itv tr i n → G' n = G n := fun n hn => hfr n rfl hn
    refine ⟨fun n x hx => ?_, fun j n x hj hb hm => ?_, dom', fun n x hm => ?_⟩
    · rw [hG n (notin n (by
        rcases I.dom n x hx with h | ⟨k, h1, _, h3⟩
        · exact .inl h
        · exact .inr ⟨k, h1, h3⟩))]
      exact I.base n x hx
    · rcases hj with hj | rfl
      · rw [hG n (notin n (.inr ⟨j, hj, I.domN j n x hj hm⟩))]
        exact I.mades j n x hj hb hm
      · exact hv' n x hm.2
    · rcases ok.dom n (by rw [hm.2]; simp) with h | h
      · exact absurd rfl h
      · exact h
  | fx =>
    obtain ⟨e'', h1, h2⟩ := X.fx i o ho hk
    have hfi : Fxi P all i := ⟨o, ho, hk⟩
    -- the last effect is the one ahead of it
    have hlt : ∀ x, S x → Fxi P all x → x < i := fun x hx hf => by
      rcases Nat.lt_trichotomy x i with h | h | h
      · exact h
      · subst h; exact absurd hx hi
      · exact absurd (I.dn x i hx (X.hO.fx x i hf hfi h)) hi
    have hee : e'' = e := by
      cases e'' with
      | none =>
        cases e with
        | none => rfl
        | some y =>
          obtain ⟨a1, a2⟩ := I.lastA y rfl
          obtain ⟨z, b1, _⟩ := h1.2 y (hlt y a1 a2) a2
          cases b1
      | some y' =>
        obtain ⟨a1, a2⟩ := h1.1 y' rfl
        obtain ⟨y, b1, b2⟩ := I.lastB y' (hp y' (X.hO.fx i y' hfi a2 a1)) a2
        subst b1
        obtain ⟨c1, c2⟩ := I.lastA y rfl
        obtain ⟨z, d1, d2⟩ := h1.2 y (hlt y c1 c2) c2
        cases d1
        rw [Nat.le_antisymm b2 d2]
    subst hee
    have hv := I.hview hp h2
    -- what comes ahead of the last effect comes ahead of this one
    have up : ∀ k, (e'' = some k ∨ tstBit (baseM all e'') k = true) → tstBit (mkk all i) k = true := fun k hk => by
      cases e'' with
      | none =>
        rcases hk with h | h
        · cases h
        · rw [show baseM all none = 0 from rfl, tst_eq] at h; simp at h
      | some y =>
        obtain ⟨a1, a2⟩ := I.lastA y rfl
        have hy := X.hO.fx i y hfi a2 (hlt y a1 a2)
        rcases hk with h | h
        · cases h; exact hy
        · exact X.hO.trans i y k hy h
    refine ⟨some i, X.take I ho hi hp henv hrun hv (fun n ha hb => ⟨ha, hb⟩) (fun _ _ => rfl) (fun n x hx => by
      rcases I.hdom hp h2 hx with h | ⟨k, h1, _, h3⟩
      · exact .inl h
      · exact .inr ⟨k, h1, h3⟩) (fun y hy => by cases hy; exact ⟨.inr rfl, hfi⟩) (fun x hx hf => ⟨i, rfl, by
      rcases hx with hx | rfl
      · exact Nat.le_of_lt (hlt x hx hf)
      · exact Nat.le_refl _⟩) fun G' hv' hfr ok => ⟨fun n x hx => hv' n x hx, fun j n x hj hb hm => ?_, fun n x hx => ?_, fun n x hm => absurd hm (notNew (by rw [hk]; simp) n x)⟩⟩
    · rcases hj with hj | rfl
      · have hbj : tstBit (mkk all i) j = false := hb
        have hn := I.domN j n x hj hm
        have hnb : tstBit (baseM all e'') j = false := by
          cases hb2 : tstBit (baseM all e'') j with
          | false => rfl
          | true => rw [up j (.inr hb2)] at hbj; cases hbj
        have hnh : T.get (tr i).hh n = none := by
          cases hx : T.get (tr i).hh n with
          | none => rfl
          | some z =>
            rcases I.hdom hp h2 hx with h | ⟨k, h3, h4, h5⟩
            · exact absurd (X.itv (I.sz j hj) hn) (X.dom0 n h)
            · have := X.disj (I.sz j hj) (I.sz k h3) hn h5
              subst this
              rcases h4 with h4 | h4
              · rw [h4] at hbj; cases hbj
              · rw [up j h4] at hbj; cases hbj
        rw [hfr n hnh (notin n (.inr ⟨j, hj, hn⟩))]
        exact I.mades j n x hj hnb hm
      · exact absurd hm (notNew (by rw [hk]; simp) n x)
    · have hx : T.get (tr i).hh' n = some x := hx
      rcases ok.dom n (by rw [hx]; simp) with h | h
      · cases hy : T.get (tr i).hh n with
        | none => exact absurd hy h
        | some z =>
          rcases I.hdom hp h2 hy with h | ⟨k, h3, h4, h5⟩
          · exact .inl h
          · refine .inr ⟨k, .inl h3, .inr ?_, h5⟩
            rcases h4 with h4 | h4
            · exact h4
            · exact up k h4
      · exact .inr ⟨i, .inr rfl, .inl rfl, h⟩
/-- at the start -/
theorem Ctx.start (X : Ctx P σ B w0 callF yieldF ks all h0 t0 c0 cN tr ρ0 G0 a0) (hM : Match σ B w0 ρ0 G0 w) : Inv P σ B w0 all h0 tr ρ0 G0 a0 (fun _ => False) none ρ0 G0 a0 w where
  dn _ _ h := h.elim
  sz _ h := h.elim
  lastA _ h := by cases h
  lastB _ h := h.elim
  mt := hM
  base n x hx := X.view n x hx
  mades _ _ _ h := h.elim
  dom n x hx := .inl (by rw [show T.get h0 n = some x from hx]; simp)
  domN _ _ _ h := h.elim
  le := Rho.le_refl _
  rest _ _ := rfl
  frame _ _ _ := rfl
  env0 _ _ := rfl
  env1 _ _ _ h := h.elim
  size := rfl
  dfr := rfl
end
end Go.Ev

namespace Go.Ev
section
variable {P : Program} {σ : Nat → Value} {B : Nat} {w0 : World} {callF : FuncId → List Value → M Value} {yieldF : Nat → List Value → M Value} {ks : T Unit} {all : List Oper} {h0 : H} {t0 : Env} {c0 cN : Nat} {tr : Nat → St} {ρ0 : Rho} {G0 : Nat → Option Ent} {a0 : Act}
def Lst (listed : Array Bool) : Nat → Prop := fun j => listed.getD j false = true
theorem Lst.set {listed : Array Bool} {i : Nat} (hi : i < listed.size) : (fun j => Lst listed j ∨ j = i) = Lst (listed.setIfInBounds i true) := by
  funext j
  apply propext
  unfold Lst
  by_cases h : i = j
  · subst h
    simp [hi]
  · rw [getD_set_ne false h]
    constructor
    · rintro (h1 | h1)
      · exact h1
      · exact absurd h1.symm h
    · exact fun h1 => .inl h1
theorem lin_ok (X : Ctx P σ B w0 callF yieldF ks all h0 t0 c0 cN tr ρ0 G0 a0) {b : Frame} : ∀ (fuel t : Nat) (listed : Array Bool) (a : Act) (w : World) (ρ : Rho) (G : Nat → Option Ent) (e : Option Nat), listed.size = all.length →
    Inv P σ B w0 all h0 tr ρ0 G0 a0 (Lst listed) e ρ G a w → (∃ l : List Nat, l.length ≤ fuel ∧ ∀ j, j < all.length → ¬ Lst listed j → j ∈ l) →
    ∃ S' e' ρ' G' a' w', OpsR P b ⟨all⟩ a w (Region.linearise.go .any ⟨all⟩ fuel t listed []) a' w' ∧ Inv P σ B w0 all h0 tr ρ0 G0 a0 S' e' ρ' G' a' w' ∧ ∀ j, j < all.length → S' j := by
  intro fuel
  induction fuel with
  | zero =>
    rintro t listed a w ρ G e hsz I ⟨l, hl, hm⟩
    refine ⟨_, e, ρ, G, a, w, OpsR.nil, I, fun j hj => ?_⟩
    apply Classical.byContradiction
    intro hn
    have := hm j hj hn
    rw [List.length_eq_zero_iff.1 (Nat.le_zero.1 hl)] at this
    cases this
  | succ fuel ih =>
    rintro t listed a w ρ G e hsz I ⟨l, hl, hm⟩
    simp only [Region.linearise.go]
    change ∃ S' e' ρ' G' a' w', OpsR P b ⟨all⟩ a w (match (Region.ready .any ⟨all⟩ listed)[t % (Region.ready .any ⟨all⟩ listed).length]? with
      | some i => Region.linearise.go .any ⟨all⟩ fuel (t / (Region.ready .any ⟨all⟩ listed).length) (listed.setIfInBounds i true) [i]
      | none => [].reverse) a' w' ∧ _
    cases hi : (Region.ready .any ⟨all⟩ listed)[t % (Region.ready .any ⟨all⟩ listed).length]? with
    | none =>
      have hnil : Region.ready .any ⟨all⟩ listed = [] := by
        cases hr : Region.ready .any ⟨all⟩ listed with
        | nil => rfl
        | cons x xs =>
          rw [hr] at hi
          have hlt : t % (x :: xs).length < (x :: xs).length := Nat.mod_lt _ (by simp)
          simp at hi
          simp at hlt
          omega
      refine ⟨_, e, ρ, G, a, w, OpsR.nil, I, fun j hj => ?_⟩
      induction j using Nat.strongRecOn with
      | ind j ihj =>
        apply Classical.byContradiction
        intro hn
        have hlj : listed.getD j true = false := by
          unfold Lst at hn
          have hjs : j < listed.size := by omega
          simp [hjs] at hn ⊢
          exact hn
        obtain ⟨oj, hoj⟩ : ∃ oj, all[j]? = some oj := ⟨_, List.getElem?_eq_getElem hj⟩
        have : j ∈ Region.ready .any ⟨all⟩ listed := mem_ready.2 ⟨hlj, oj, by simpa using hoj, fun ed he hb => by
          have hlt := X.hO.edges j oj hoj ed (by simpa using he) hb
          exact ihj ed.on hlt (Nat.lt_trans hlt hj)⟩
        rw [hnil] at this
        cases this
    | some i =>
      obtain ⟨hli, o, ho', hedge⟩ := mem_ready.1 (List.mem_of_getElem? hi)
      have ho : all[i]? = some o := by simpa using ho'
      have hil : i < all.length := (List.getElem?_eq_some_iff.1 ho).1
      have his : i < listed.size := by omega
      have hni : ¬ Lst listed i := by
        unfold Lst
        simp [his] at hli ⊢
        exact hli
      have hp : ∀ j, tstBit (mkk all i) j = true → Lst listed j := by
        intro j hj
        obtain ⟨ed, h1, h2, h3⟩ := (mkk_tst ho (X.hO.edges i o ho)).1 hj
        have hon : Lst listed ed.on := hedge ed (by simpa using h1) h2
        rcases h3 with rfl | h3
        · exact hon
        · exact I.dn ed.on j hon h3
      obtain ⟨e1, ρ1, G1, w1, v1, hdo, I1⟩ := X.step I ho hni hp
      rw [Lst.set his] at I1
      have hmi := hm i hil hni
      obtain ⟨S', e', ρ', G', a', w', hops, I', hall⟩ := ih (t / (Region.ready .any ⟨all⟩ listed).length) (listed.setIfInBounds i true) _ w1 ρ1 G1 e1 (by simpa using hsz) I1 ⟨l.erase i, by
        rw [List.length_erase_of_mem hmi]; omega, fun j hj hn => by
        rw [← Lst.set his] at hn
        have hji : j ≠ i := fun h => hn (.inr h)
        exact (List.mem_erase_of_ne hji).2 (hm j hj fun h => hn (.inl h))⟩
      refine ⟨S', e', ρ', G', a', w', ?_, I', hall⟩
      simp only []
      rw [linearise_go_acc, List.reverse_singleton, List.singleton_append]
      exact opDoes_cons ho hdo hops
/-- a region that draws its order -/
theorem drawn_ok (hm : P.follows .mixedOrders = true) : DrawnOk P σ B w0 := by
  intro callF yieldF mC mY hC hY sf id ops t t' h h' c c' ρ G w b a hdst e hA hf
  have hmarks := k_drawn _ _ _ _ _ e
  rcases sel_ok.1 (show @Bool.rec (fun _ => M Env) bad (runD P callF yieldF sf.ks ops ops (masks ops []) 0 (endD P callF yieldF sf.ks ops (masks ops [])) t [] [] []) (drawOk P ops) h c = .ok t' h' c' from e) with ⟨hd, e1⟩ | ⟨_, e1⟩
  case inr => exact (bad_ok.1 e1).elim
  have hO := ord_of hd
  have hF0 : Facts P callF yieldF sf.ks ops h t c (fun _ => ⟨.lf, 0, 0, undef, .lf, t⟩) 0 [] [] [] t c :=
    ⟨fun j hj => absurd hj (Nat.not_lt_zero _), fun j hj => absurd hj (Nat.not_lt_zero _), fun j k _ hk => absurd hk (Nat.not_lt_zero _), fun j hj => absurd hj (Nat.not_lt_zero _),
      fun x v hx => ⟨fun k o hk => absurd hk (Nat.not_lt_zero _), fun _ => hx⟩, fun j o hj => absurd hj (Nat.not_lt_zero _), fun j o hj => absurd hj (Nat.not_lt_zero _), fun j o hj => absurd hj (Nat.not_lt_zero _), fun j o hj => absurd hj (Nat.not_lt_zero _),
      fun x hx => absurd hx (Nat.not_lt_zero _), fun j n x hx => (by cases hx), Nat.le_refl _, rfl, fun j hj => absurd hj (Nat.not_lt_zero _)⟩
  obtain ⟨tr, ts, al, es, tN, c1, hF, e2⟩ := runD_ok hO mC mY ops (masks ops []) 0 _ t [] [] [] c rfl rfl hF0 e1
  obtain ⟨rfl, rfl, rfl, hR⟩ := endD_ok e2
  have hlen : ∀ (j : Nat) (o : Oper), ops[j]? = some o → j < ops.length := fun j o ho => (List.getElem?_eq_some_iff.1 ho).1
  have X : Ctx P σ B w0 callF yieldF sf.ks ops h t c c' tr ρ G a :=
    { hO := hO, hC := hC, hY := hY
      run := fun j o ho => by
        obtain ⟨o', h1, h2⟩ := hF.run j (hlen j o ho)
        rw [ho] at h1; cases h1; exact h2
      cc := hF.cc, ord := hF.ord
      env := fun j hj => (hF.env j hj).b hO
      val := fun j o ho => hF.val j o (hlen j o ho) ho
      new := fun j o ho => hF.new j o (hlen j o ho) ho
      fx := fun j o ho hk => hF.mem j o (hlen j o ho) ho (.inr hk)
      rd := fun j o ho hk e' hAd => reader_at hO hF hR ho hk hAd
      fresh := hf, view := hA.view
      dom0 := fun n hn hin => by
        cases hx : T.get h n with
        | none => exact hn hx
        | some x =>
          obtain ⟨l, h1, _⟩ := hA.mt.ent n x (hA.view n x hx)
          rw [hf n hin.1 hin.2] at h1; cases h1
      env0 := hA.env
      dst := fun j o d ho hd => by
        have := allL_mem hdst o (List.mem_of_getElem? ho)
        rw [hd] at this
        exact Nat.lt_of_lt_of_le ((blt_iff _ _).1 this) hA.size }
  have hM1 : Match σ B w0 ρ G { w with drawn := w.drawn + 1 } := hA.mt.same rfl rfl rfl rfl
  have hls : Lst (Array.replicate ops.length false) = fun _ => False := by
    funext j
    unfold Lst
    apply propext
    simp
    by_cases hj : j < ops.length
    · simp [hj]
    · simp [hj]
  have I0 : Inv P σ B w0 ops h tr ρ G a (Lst (Array.replicate ops.length false)) none ρ G a { w with drawn := w.drawn + 1 } := by rw [hls]; exact X.start hM1
  obtain ⟨S', e', ρ', G', a', w', hops, I, hall⟩ := lin_ok X (b := b) ops.length (w.tape w.drawn (.order b.fn id)) _ a _ ρ G none (by simp) I0 ⟨List.range ops.length, by simp, fun j hj _ => List.mem_range.2 hj⟩
  obtain ⟨hl1, hl2, hl3⟩ := hF.es.last (h0 := h)
  have hee : e' = hdE es := by
    cases hh : hdE es with
    | none =>
      rw [hh] at hl1
      cases e' with
      | none => rfl
      | some y =>
        obtain ⟨a1, a2⟩ := I.lastA y rfl
        obtain ⟨z, b1, _⟩ := hl1.2 y (I.sz y a1) a2
        cases b1
    | some y =>
      rw [hh] at hl1
      obtain ⟨a1, a2⟩ := hl1.1 y rfl
      obtain ⟨z, b1, b2⟩ := I.lastB y (hall y a1) a2
      subst b1
      obtain ⟨c1, c2⟩ := I.lastA z rfl
      obtain ⟨y', d1, d2⟩ := hl1.2 z (I.sz z c1) c2
      cases d1
      rw [Nat.le_antisymm b2 d2]
  subst hee
  have hget : ∀ n x, T.get (mrg0 (fun j => notB (tstBit (fxM es) j)) al (fxH h es)) n = some x → T.get (baseH h tr (hdE es)) n = some x ∨ ∃ j, S' j ∧ tstBit (baseM ops (hdE es)) j = false ∧ Made P ops tr j n x := by
    intro n x hx
    rw [hl2, hl3] at hx
    rcases mrg0_get _ _ hx with h1 | ⟨j, h1, h2⟩
    · exact .inl h1
    · obtain ⟨h3, h4⟩ := hF.al j n x h2
      rw [notB_eq] at h1
      exact .inr ⟨j, hall j h3, by simpa using h1, h4⟩
  have hview : View (mrg0 (fun j => notB (tstBit (fxM es) j)) al (fxH h es)) G' := fun n x hx => by
    rcases hget n x hx with h1 | ⟨j, h1, h2, h3⟩
    · exact I.base n x h1
    · exact I.mades j n x h1 h2 h3
  have hnit : ∀ n, ¬ (c ≤ n ∧ n < c') → ∀ k, S' k → ¬ Itv tr k n := fun n hn k hk hin => hn (X.itv (I.sz k hk) hin)
  have hpost : Post σ B w0 ρ ρ' G G' h (mrg0 (fun j => notB (tstBit (fxM es) j)) al (fxH h es)) c c' w' :=
    ⟨I.mt, hview, I.le, fun n hn => I.rest n (hnit n hn), fun n h1 h2 => I.frame n h1 (hnit n h2)⟩
  refine ⟨ρ', G', w', a', fun k cs => ⟨k, rfl, .head stepR_region_draw ?_⟩, ⟨hF.c0, fun n hn => ?_⟩, hpost, ⟨hview, I.mt, fun x v hx => ?_, by rw [I.size]; exact hA.size, by rw [hmarks, I.dfr]; exact hA.dfr.le I.le⟩⟩
  · have : Region.schedule (P.follows .mixedOrders) ⟨ops⟩ (w.tape w.drawn (.order b.fn id)) = Region.linearise.go .any ⟨ops⟩ ops.length (w.tape w.drawn (.order b.fn id)) (Array.replicate ops.length false) [] := by
      rw [Region.schedule, hm]; simp [Region.linearise]
    rw [this]
    exact hops k cs
  · cases hx : T.get (mrg0 (fun j => notB (tstBit (fxM es) j)) al (fxH h es)) n with
    | none => exact absurd hx hn
    | some x =>
      rcases hget n x hx with h1 | ⟨j, h1, _, h3⟩
      · rcases I.dom n x h1 with h2 | ⟨k, h2, _, h4⟩
        · exact .inl h2
        · exact .inr (X.itv (I.sz k h2) h4)
      · exact .inr (X.itv (I.sz j h1) (I.domN j n x h1 h3))
  · obtain ⟨h1, h2⟩ := hF.envN x v hx
    by_cases hd : ∃ (k : Nat) (ok : Oper), ops[k]? = some ok ∧ ok.dst = some x
    · obtain ⟨k, ok, h3, h4⟩ := hd
      rw [h1 k ok (hlen k ok h3) h3 h4]
      exact I.env1 k ok x (hall k (hlen k ok h3)) h3 h4
    · have hn : ∀ (k : Nat) (o : Oper), ops[k]? = some o → o.dst ≠ some x := fun k o h3 h4 => hd ⟨k, o, h3, h4⟩
      obtain ⟨v', h3, h4⟩ := hA.env x v (h2 fun k o _ => hn k o)
      exact ⟨v', by rw [I.env0 x fun k o _ => hn k o]; exact h3, h4.le I.le⟩
end
end Go.Ev

namespace Go.Ev
section
variable {P : Program} {σ : Nat → Value} {B : Nat} {w0 : World} {ρ : Rho} {G : Nat → Option Ent} {h h' : H} {c c' : Nat} {w : World}
/-- the model's stand-in for a function without a Go body -/
def RowIs (fn : Func) : Nat → (Array Value → Sem Value) → Prop
  | 1, e => e = Extern.MapsClone.clone
  | 2, e => e = Extern.BytealgCount.count
  | 3, e => e = Extern.BytealgIndexByte.indexByte
  | 4, e => e = Extern.AbiNoEscape.same
  | 5, e => e = Extern.SlicesOverlaps.overlaps fn.params fn.resultTypes
  | 6, e => e = Extern.BytealgMakeNoZero.makeNoZero fn.params fn.resultTypes ∧ fn.resultTypes.size = 1
  | _, _ => False
def XRow (P : Program) (f : FuncId) (k : Nat) : Prop := ∃ fn, P.funcs[f]? = some fn ∧ (fn.name == "runtime.NumGoroutine") = false ∧ fn.body.isNone = true ∧ Extern.findNext fn = none ∧ ∃ e, Extern.find fn = some e ∧ RowIs fn k e
theorem countB_eq (b : Nat) (hb : b < 256) : ∀ (l : List UInt8) (n : Nat), countB b l n = n + l.count b.toUInt8 := by
  intro l
  induction l with
  | nil => intro n; rfl
  | cons x l ih =>
    intro n
    show (@Bool.rec (fun _ => Nat) (countB b l n) (countB b l (Nat.succ n)) (Nat.beq x.toNat b)) = _
    have hx : (Nat.beq x.toNat b = true) ↔ x = b.toUInt8 := by
      rw [beq_eq_decide, decide_eq_true_iff]
      constructor
      · intro h; rw [← h]; simp
      · intro h; rw [h]; simp; omega
    cases hh : Nat.beq x.toNat b with
    | true =>
      have := hx.1 hh
      show countB b l (n + 1) = _
      rw [ih, this, List.count_cons_self]; omega
    | false =>
      have : x ≠ b.toUInt8 := fun h => by rw [hx.2 h] at hh; cases hh
      show countB b l n = _
      rw [ih, List.count_cons_of_ne this]
theorem findB_eq (b : Nat) (hb : b < 256) : ∀ (l : List UInt8) (n : Nat), match findB b l n with
    | some i => n ≤ i ∧ Lib.indexByte l b.toUInt8 = ((i - n : Nat) : Int)
    | none => Lib.indexByte l b.toUInt8 = -1 := by
  intro l
  induction l with
  | nil => intro n; rfl
  | cons x l ih =>
    intro n
    have e : findB b (x :: l) n = (@Bool.rec (fun _ => Option Nat) (findB b l (Nat.succ n)) (some n) (Nat.beq x.toNat b)) := rfl
    rw [e]
    have hx : (Nat.beq x.toNat b = true) ↔ x = b.toUInt8 := by
      rw [beq_eq_decide, decide_eq_true_iff]
      constructor
      · intro h; rw [← h]; simp
      · intro h; rw [h]; simp; omega
    cases hh : Nat.beq x.toNat b with
    | true =>
      refine ⟨Nat.le_refl _, ?_⟩
      rw [hx.1 hh]
      unfold Lib.indexByte
      simp
    | false =>
      have hne : (x == b.toUInt8) = false := by
        rw [beq_eq_false_iff_ne]
        exact fun h => by rw [hx.2 h] at hh; cases hh
      have := ih (n + 1)
      show match findB b l (n + 1) with
        | some i => n ≤ i ∧ Lib.indexByte (x :: l) b.toUInt8 = ((i - n : Nat) : Int)
        | none => Lib.indexByte (x :: l) b.toUInt8 = -1
      unfold Lib.indexByte
      rw [hne]
      cases hf : findB b l (n + 1) with
      | none =>
        rw [hf] at this
        dsimp only at this ⊢
        rw [this]; rfl
      | some i =>
        rw [hf] at this
        obtain ⟨h1, h2⟩ := this
        refine ⟨by omega, ?_⟩
        rw [h2]
        have hne2 : (((i - (n + 1) : Nat) : Int) == -1) = false := by
          rw [beq_eq_false_iff_ne]; omega
        rw [hne2]
        simp only [Bool.false_eq_true, if_false]
        omega
/-- a call that yields at once -/
theorem ext_acts {f : FuncId} {fn : Func} {e : Array Value → Sem Value} {args : Array Value} {v : Value} {w w' : World} (hf : P.funcs[f]? = some fn) (hn : (fn.name == "runtime.NumGoroutine") = false) (hb : fn.body.isNone = true) (h1 : Extern.findNext fn = none) (h2 : Extern.find fn = some e) (hr : (e args).run P w = .ok v w') :
    Acts P (callFunc f args) w v w' := ⟨.value v, w', by rw [run_callFunc_extern hf hn hb h1 h2, hr]; rfl, rfl, rfl⟩
theorem run_clone {t : TypeId} {r clock : Nat} {es : Array MapEntry} (hh : w.heap[r]? = some (.map es clock)) : (Extern.MapsClone.clone #[.iface t (.map (some r))]).run P w = .ok (.iface t (.map (some w.heap.size))) { w with heap := w.heap.push (.map es clock) } := by
  have hgo : (getObj r).run P w = .ok (.map es clock) w := by simp [getObj, Sem.run, hh]
  have e : Extern.MapsClone.clone #[.iface t (.map (some r))] = (getObj r >>= fun o => match o with
      | .map entries clock => do pure (.iface t (.map (some (← newObj (.map entries clock)))))
      | _ => stuck "maps.clone: a map expected") := rfl
  rw [e, run_bind_ok hgo]
  rfl
theorem row_at {n : Nat} {l : Loc} {cs : List Value} {g : Nat} {et : TypeId} (hg : T.get h n = some (.row cs g et false)) (hl : ρ n = some l) (hv : View h G) (hM : Match σ B w0 ρ G w) : ∃ c, w.heap[l.b]? = some (.cells c et (0, 0)) := by
  obtain ⟨l', h1, hobj, _, _⟩ := hM.ent n _ (hv n _ hg)
  rw [hl] at h1; cases h1
  obtain ⟨c, fz, k1, _, k3, _⟩ := hobj
  rw [k3 rfl] at k1
  exact ⟨c, k1⟩
theorem run_overlaps {t elem : TypeId} {params rs : Array TypeId} {sz : Nat} (h0 : params[0]? = some t) (hu : P.underlying t = some (.slice elem)) (hs : (sizeOf elem).run P w = .ok sz w) {a b : Addr} {la ca lb cb : Nat} :
    (la * lb * sz = 0 → (Extern.SlicesOverlaps.overlaps params rs #[.slice (some a) la ca, .slice (some b) lb cb]).run P w = .ok (.bool false) w) ∧
    (a.block = b.block → la * lb * sz ≠ 0 → (Extern.SlicesOverlaps.overlaps params rs #[.slice (some a) la ca, .slice (some b) lb cb]).run P w = .ok (.bool (a.off < b.off + lb * sz && b.off < a.off + la * sz)) w) ∧
    (a.block ≠ b.block → la * lb * sz ≠ 0 → (∃ c e, w.heap[a.block]? = some (.cells c e (0, 0))) → (∃ c e, w.heap[b.block]? = some (.cells c e (0, 0))) →
      (Extern.SlicesOverlaps.overlaps params rs #[.slice (some a) la ca, .slice (some b) lb cb]).run P w = .ok (.bool false) w) := by
  have e : Extern.SlicesOverlaps.overlaps params rs #[.slice (some a) la ca, .slice (some b) lb cb] = (do
    let some t := params[0]? | stuck "slices.overlaps: no parameter types"
    let .slice elem ← underlying t | stuck "slices.overlaps: slice type expected"
    let size ← sizeOf elem
    match (some a : Option Addr), (some b : Option Addr) with
    | some a, some b =>
      if la = 0 ∨ lb = 0 ∨ size = 0 then pure (Value.bool false)
      else if a.block != b.block && (← frozen a) && (← frozen b) then unsupported .addressObserved
      else do
        if a.block != b.block then do
          noView a; noView b
          if ← mayBeOne a b then return Value.bool ((← choose (.extern "sameAddr.stringBytes" 2)) == 1)
        pure (Value.bool (a.block == b.block && a.off < b.off + lb * size && b.off < a.off + la * size))
    | _, _ => pure (Value.bool false)) := rfl
  rw [e]
  simp only [h0]
  rw [run_bind_ok (run_und hu w)]
  dsimp only
  rw [run_bind_ok hs]
  refine ⟨fun hz => ?_, fun hb hz => ?_, fun hb hz ⟨c1, e1, k1⟩ ⟨c2, e2, k2⟩ => ?_⟩
  · have : la = 0 ∨ lb = 0 ∨ sz = 0 := by
      rcases Nat.mul_eq_zero.1 hz with h | h
      · rcases Nat.mul_eq_zero.1 h with h | h
        · exact .inl h
        · exact .inr (.inl h)
      · exact .inr (.inr h)
    rw [if_pos this]; rfl
  · have : ¬ (la = 0 ∨ lb = 0 ∨ sz = 0) := by
      rintro (h | h | h) <;> subst h <;> simp at hz
    rw [if_neg this]
    have hb1 : (a.block != b.block) = false := by simp [hb]
    have hb2 : (a.block == b.block) = true := by simp [hb]
    simp [hb]
  · have : ¬ (la = 0 ∨ lb = 0 ∨ sz = 0) := by
      rintro (h | h | h) <;> subst h <;> simp at hz
    rw [if_neg this]
    have hb1 : (a.block != b.block) = true := by simp [hb]
    have hb2 : (a.block == b.block) = false := by simp [hb]
    have f1 : ∀ o, w.frozen? ⟨a.block, o, none⟩ = false := fun o => by simp [World.frozen?, k1]
    have f2 : ∀ o, w.frozen? ⟨b.block, o, none⟩ = false := fun o => by simp [World.frozen?, k2]
    have f1' : w.frozen? a = false := by simp [World.frozen?, k1]
    have f2' : w.frozen? b = false := by simp [World.frozen?, k2]
    simp [hb1, hb2, frozen, noView, viewAt, mayBeOne, stringish, shape, Sem.run, World.shape?, k1, k2, f1, f2, f1', f2']
theorem args2' {x y : Value} {ys : List Value} (h : VRs σ ρ [x, y] ys) : ∃ a b, ys = [a, b] ∧ VR σ ρ x a ∧ VR σ ρ y b := args2 h
/-- functions without a Go body are sound -/
theorem extern_ok {f : FuncId} {fn : Func} {e : Array Value → Sem Value} {k : Nat} (hf : P.funcs[f]? = some fn) (hn : (fn.name == "runtime.NumGoroutine") = false) (hb : fn.body.isNone = true) (h1 : Extern.findNext fn = none) (h2 : Extern.find fn = some e) (hk : RowIs fn k e) {xs ys : List Value} (hxy : VRs σ ρ xs ys) :
    SimC P σ B w0 (extern P k fn xs) ρ (callFunc f ⟨ys⟩) := by
  intro h c v h' c' ev G w hv hM hfr
  unfold extern at ev
  split at ev
  · -- maps.clone
    rename_i t r
    cases hk
    obtain ⟨y, rfl, hy⟩ := args1 hxy
    cases hy with | iface _ _ y hy =>
    cases hy with | map _ l hl =>
    obtain ⟨es, h1', c1', e1, e2⟩ := bnd_ok.1 ev
    obtain ⟨en, h2', c2', e3, e4⟩ := bnd_ok.1 e1
    obtain ⟨hg, rfl, rfl⟩ := ent_ok.1 e3
    cases en <;> first | exact (bad_ok.1 e4).elim | skip
    rename_i es' clock
    obtain ⟨rfl, rfl, rfl⟩ := ret_ok.1 e4
    obtain ⟨nb, h3, c3, e5, e6⟩ := bnd_ok.1 e2
    obtain ⟨rfl, rfl, rfl⟩ := ret_ok.1 e6
    obtain ⟨l', k1, hobj, _, _⟩ := hM.ent r _ (hv r _ hg)
    rw [hl] at k1; cases k1
    obtain ⟨es2, k2, k3⟩ := hobj
    obtain ⟨_, _, hcc⟩ := new_ok.1 e5
    obtain ⟨rfl, rfl, o, p⟩ := new_entry (o := .map es2 clock) e5 hv hM (hfr _ (Nat.le_refl _) (by rw [hcc]; exact Nat.lt_succ_self _)) (fun ρ' l w' hle hh => ⟨es2, hh, k3.le hle⟩)
    exact ⟨_, _, _, _, ext_acts hf hn hb h1 h2 (run_clone k2), o, p, .iface _ _ _ (.map _ ⟨w.heap.size, 0, 0, 0⟩ (by unfold ext1; rw [if_pos rfl]))⟩
  · -- CountString
    rename_i l b
    cases hk
    obtain ⟨y, z, rfl, hy, hz⟩ := args2 hxy
    cases hy
    cases hz
    rcases sel_ok.1 ev with ⟨hlt, e1⟩ | ⟨_, e1⟩
    case inr => exact (bad_ok.1 e1).elim
    rw [forceN_eq] at e1
    obtain ⟨rfl, rfl, rfl⟩ := ret_ok.1 e1
    refine ⟨ρ, G, w, _, ext_acts hf hn hb h1 h2 (Lib.run_countString _ _ w), Okk.refl _ _, Post.refl hM hv, ?_⟩
    rw [countB_eq b ((blt_iff _ _).1 hlt), Nat.zero_add]
    exact .int _ _
  · -- IndexByteString
    rename_i l b
    cases hk
    obtain ⟨y, z, rfl, hy, hz⟩ := args2 hxy
    cases hy
    cases hz
    rcases sel_ok.1 ev with ⟨hlt, e1⟩ | ⟨_, e1⟩
    case inr => exact (bad_ok.1 e1).elim
    have hfb := findB_eq b ((blt_iff _ _).1 hlt) l 0
    have hacts := ext_acts hf hn hb h1 h2 (Lib.run_indexByteString ⟨⟨l⟩⟩ (Int.ofNat b) w)
    have hx : Lib.indexByte l (Int.ofNat b).toNat.toUInt8 = Lib.indexByte l b.toUInt8 := rfl
    cases hff : findB b l 0 with
    | none =>
      rw [hff] at hfb e1
      obtain ⟨rfl, rfl, rfl⟩ := ret_ok.1 e1
      refine ⟨ρ, G, w, _, hacts, Okk.refl _ _, Post.refl hM hv, ?_⟩
      show VR σ ρ _ (.int .i64 (Lib.indexByte l b.toUInt8))
      rw [hfb]; exact .int _ _
    | some i =>
      rw [hff] at hfb e1
      dsimp only at e1
      rw [forceN_eq] at e1
      obtain ⟨rfl, rfl, rfl⟩ := ret_ok.1 e1
      refine ⟨ρ, G, w, _, hacts, Okk.refl _ _, Post.refl hM hv, ?_⟩
      show VR σ ρ _ (.int .i64 (Lib.indexByte l b.toUInt8))
      rw [hfb.2]; exact .int _ _
  · -- NoEscape
    cases hk
    obtain ⟨y, rfl, hy⟩ := args1 hxy
    obtain ⟨rfl, rfl, rfl⟩ := ret_ok.1 ev
    exact ⟨ρ, G, w, y, ext_acts hf hn hb h1 h2 rfl, Okk.refl _ _, Post.refl hM hv, hy⟩
  · -- overlaps
    rename_i x la ca y lb cb
    cases hk
    obtain ⟨x', y', rfl, hx, hy⟩ := args2 hxy
    obtain ⟨t, h3, c3, e3, e4⟩ := bnd_ok.1 ev
    obtain ⟨ht, rfl, rfl⟩ := opt_ok.1 e3
    obtain ⟨d, h3, c3, e5, e6⟩ := bnd_ok.1 e4
    obtain ⟨hu, rfl, rfl⟩ := opt_ok.1 e5
    cases d <;> first | exact (bad_ok.1 e6).elim | skip
    rename_i el
    obtain ⟨sz, h3, c3, e7, e8⟩ := bnd_ok.1 e6
    obtain ⟨hs, rfl, rfl⟩ := opt_ok.1 e7
    have ht' : fn.params[0]? = some t := by simpa using ht
    have key : ∀ (a b : Addr) la ca lb cb, _ := fun a b la ca lb cb => run_overlaps (w := w) (rs := fn.resultTypes) ht' hu (run_size hs w) (a := a) (b := b) (la := la) (ca := ca) (lb := lb) (cb := cb)
    have nn : ∀ x y lx cx ly cy, x = none ∨ y = none → (Extern.SlicesOverlaps.overlaps fn.params fn.resultTypes #[.slice x lx cx, .slice y ly cy]).run P w = .ok (.bool false) w := by
      intro x y lx cx ly cy hxy
      have e : Extern.SlicesOverlaps.overlaps fn.params fn.resultTypes #[.slice x lx cx, .slice y ly cy] = (do
        let some t := fn.params[0]? | stuck "slices.overlaps: no parameter types"
        let .slice elem ← underlying t | stuck "slices.overlaps: slice type expected"
        let size ← sizeOf elem
        match x, y with
        | some a, some b =>
          if lx = 0 ∨ ly = 0 ∨ size = 0 then pure (Value.bool false)
          else if a.block != b.block && (← frozen a) && (← frozen b) then unsupported .addressObserved
          else do
            if a.block != b.block then do
              noView a; noView b
              if ← mayBeOne a b then return Value.bool ((← choose (.extern "sameAddr.stringBytes" 2)) == 1)
            pure (Value.bool (a.block == b.block && a.off < b.off + ly * size && b.off < a.off + lx * size))
        | _, _ => pure (Value.bool false)) := rfl
      rw [e]
      simp only [ht']
      rw [run_bind_ok (run_und hu w)]
      dsimp only
      rw [run_bind_ok (run_size hs w)]
      rcases hxy with rfl | rfl
      · rfl
      · cases x <;> rfl
    have done : ∀ {v' : Value} {b : Bool}, (Extern.SlicesOverlaps.overlaps fn.params fn.resultTypes #[x', y']).run P w = .ok v' w → v' = .bool b → v = .bool b → h' = h → c' = c →
        ∃ ρ' G' w' v', Acts P (callFunc f ⟨[x', y']⟩) w v' w' ∧ Okk h h' c c' ∧ Post σ B w0 ρ ρ' G G' h h' c c' w' ∧ VR σ ρ' v v' := by
      intro v' b hr hv' hvb hh hc
      subst hv'; subst hvb; subst hh; subst hc
      exact ⟨ρ, G, w, _, ext_acts hf hn hb h1 h2 hr, Okk.refl _ _, Post.refl hM hv, .bool _⟩
    unfold overM at e8
    split at e8
    · rename_i a b
      rcases sel_ok.1 e8 with ⟨hz, e9⟩ | ⟨hz, e9⟩
      · obtain ⟨rfl, rfl, rfl⟩ := ret_ok.1 e9
        have hz : la * lb * sz = 0 := Nat.eq_of_beq_eq_true hz
        cases hx <;> cases hy <;> exact done ((key _ _ _ _ _ _).1 hz) rfl rfl rfl rfl
      · have hz : la * lb * sz ≠ 0 := Nat.ne_of_beq_eq_false hz
        have hla : la ≠ 0 := by rintro rfl; simp at hz
        have hlb : lb ≠ 0 := by rintro rfl; simp at hz
        -- the two rows
        have hx2 : ∃ lx n o cp, a = ⟨n, o, none⟩ ∧ ρ n = some lx ∧ x' = .slice (some ⟨lx.b, lx.d + o, none⟩) la cp := by
          cases hx with
          | sliceX n o _ _ l hl _ _ => exact ⟨l, n, o, _, rfl, hl, rfl⟩
          | sliceU n o _ k l hl _ _ _ _ => exact ⟨l, n, o, _, rfl, hl, rfl⟩
          | sliceA => exact absurd rfl hla
        have hy2 : ∃ ly n o cp, b = ⟨n, o, none⟩ ∧ ρ n = some ly ∧ y' = .slice (some ⟨ly.b, ly.d + o, none⟩) lb cp := by
          cases hy with
          | sliceX n o _ _ l hl _ _ => exact ⟨l, n, o, _, rfl, hl, rfl⟩
          | sliceU n o _ k l hl _ _ _ _ => exact ⟨l, n, o, _, rfl, hl, rfl⟩
          | sliceA => exact absurd rfl hlb
        obtain ⟨lx, n, ox, cpx, rfl, hlx, rfl⟩ := hx2
        obtain ⟨ly, m, oy, cpy, rfl, hly, rfl⟩ := hy2
        rcases sel_ok.1 e9 with ⟨hb1, e10⟩ | ⟨hb1, e10⟩
        · have hnm : n = m := Nat.eq_of_beq_eq_true hb1
          subst hnm
          rw [hlx] at hly; cases hly
          obtain ⟨rfl, rfl, rfl⟩ := mkBool_ok e10
          refine done ((key _ _ _ _ _ _).2.1 rfl hz) ?_ rfl rfl rfl
          have hb : ∀ p q : Bool, (@Bool.rec (fun _ => Bool) false q p) = (p && q) := fun p q => by cases p <;> rfl
          show Value.bool _ = Value.bool (@Bool.rec (fun _ => Bool) false (Nat.blt oy (ox + la * sz)) (Nat.blt ox (oy + lb * sz)))
          rw [hb]
          congr 1
          rw [Bool.eq_iff_iff]
          simp only [Bool.and_eq_true, decide_eq_true_iff, blt_iff]
          omega
        · have hnm : n ≠ m := Nat.ne_of_beq_eq_false hb1
          obtain ⟨r, h4, c4, e11, e12⟩ := bnd_ok.1 e10
          obtain ⟨cs1, g1, et1, s1, rfl, hg1, rfl, rfl⟩ := row_ok.1 e11
          obtain ⟨q, h4, c4, e13, e14⟩ := bnd_ok.1 e12
          obtain ⟨cs2, g2, et2, s2, rfl, hg2, rfl, rfl⟩ := row_ok.1 e13
          rcases sel_ok.1 e14 with ⟨_, e15⟩ | ⟨hss, e15⟩
          · exact (bad_ok.1 e15).elim
          · obtain ⟨rfl, rfl, rfl⟩ := ret_ok.1 e15
            have hs12 : s1 = false ∧ s2 = false := by cases s1 <;> cases s2 <;> first | exact ⟨rfl, rfl⟩ | cases hss
            obtain ⟨rfl, rfl⟩ := hs12
            obtain ⟨cc1, k1⟩ := row_at hg1 hlx hv hM
            obtain ⟨cc2, k2⟩ := row_at hg2 hly hv hM
            have hbb : lx.b ≠ ly.b := fun h => hnm (hM.inj n m _ _ lx ly (hv n _ hg1) (hv m _ hg2) hlx hly h)
            exact done ((key _ _ _ _ _ _).2.2 hbb hz ⟨cc1, et1, k1⟩ ⟨cc2, et2, k2⟩) rfl rfl rfl rfl
    · rename_i hne
      obtain ⟨rfl, rfl, rfl⟩ := ret_ok.1 e8
      have hnn : x = none ∨ y = none := by
        cases x with
        | none => exact .inl rfl
        | some a =>
          cases y with
          | none => exact .inr rfl
          | some b => exact absurd rfl (hne a b rfl)
      rcases hnn with rfl | rfl
      · cases hx
        have hy2 : ∃ y l cp, y' = .slice y l cp := by cases hy <;> exact ⟨_, _, _, rfl⟩
        obtain ⟨y2, l, cp, rfl⟩ := hy2
        exact done (nn _ _ _ _ _ _ (.inl rfl)) rfl rfl rfl rfl
      · cases hy
        have hx2 : ∃ y l cp, x' = .slice y l cp := by cases hx <;> exact ⟨_, _, _, rfl⟩
        obtain ⟨x2, l, cp, rfl⟩ := hx2
        exact done (nn _ _ _ _ _ _ (.inr rfl)) rfl rfl rfl rfl
  · -- MakeNoZero
    rename_i n
    obtain ⟨rfl, hrs⟩ := hk
    obtain ⟨y, rfl, hy⟩ := args1 hxy
    cases hy
    obtain ⟨t, h3, c3, e3, e4⟩ := bnd_ok.1 ev
    obtain ⟨ht, rfl, rfl⟩ := opt_ok.1 e3
    obtain ⟨d, h3, c3, e5, e6⟩ := bnd_ok.1 e4
    obtain ⟨hu, rfl, rfl⟩ := opt_ok.1 e5
    cases d <;> first | exact (bad_ok.1 e6).elim | skip
    rename_i el
    rcases sel_ok.1 e6 with ⟨hn1, e7⟩ | ⟨_, e7⟩
    case inr => exact (bad_ok.1 e7).elim
    have hn1 : n ≤ 281474976710656 := Nat.le_of_ble_eq_true hn1
    obtain ⟨b, h4, c4, e8, e9⟩ := bnd_ok.1 e7
    obtain ⟨rfl, rfl, rfl⟩ := new_ok.1 e8
    rw [forceN_eq] at e9
    obtain ⟨rfl, rfl, rfl⟩ := ret_ok.1 e9
    have hrt : fn.resultTypes = #[t] := by
      have h0 : fn.resultTypes[0]? = some t := by simpa using ht
      apply Array.ext'
      have : fn.resultTypes.toList.length = 1 := by simpa using hrs
      match hl : fn.resultTypes.toList, this with
      | [q], _ =>
        have : fn.resultTypes.toList[0]? = some t := ht
        rw [hl] at this
        cases this; rfl
    obtain ⟨cs, hrun, hge, hle⟩ := Lib.run_makeNoZero (P := P) w fn.params t el hu n hn1
    have hfc := hfr _ (Nat.le_refl _) (Nat.lt_succ_self _)
    have hmax := hle (by unfold maxLen; omega)
    refine ⟨_, _, w.drew.drew.alloc (.cells cs el), .slice (some ⟨w.heap.size, 0, none⟩) n cs.size, ext_acts hf hn hb h1 h2 (by rw [hrt]; exact hrun), Okk.new, e_row (cs := []) (arr := cs) (gr := 1) (tot := cs.size) hv hM hfc (fun i v hi => by simp at hi) (fun h => by cases h) (fun _ => ⟨by simp, by simp, by unfold maxLen at hmax; unfold U; omega⟩) (.inl rfl) rfl rfl rfl rfl, ?_⟩
    refine VR.sliceU _ 0 n 0 ⟨w.heap.size, 0, cs.size, 1⟩ (by unfold ext1; rw [if_pos rfl]) rfl (by simpa using hge) ?_ Nat.zero_lt_one
    show cs.size < U
    unfold maxLen at hmax; unfold U; omega
  · exact (bad_ok.1 ev).elim
end
end Go.Ev

namespace Go.Ev
section
variable {P : Program} {σ : Nat → Value} {B : Nat} {w0 : World} {K : FuncId → T Unit} {XT : FuncId → Xt}
theorem holds_ok {h : H} {l : List (Nat × Ent)} (hh : holds h l = true) : ∀ p, p ∈ l → T.get h p.1 = some p.2 := by
  intro p hp
  have := allV_forall.1 hh p hp
  cases hg : T.get h p.1 with
  | none => rw [hg] at this; cases this
  | some e => rw [hg] at this; rw [sameE_eq e p.2 this]
noncomputable def lay (l : List (Nat × Ent)) (h : H) : H := layK l h fun h => h
noncomputable def lose (l : List (Nat × Ent)) (h : H) : H := loseK l h fun h => h
theorem lay_cons {p : Nat × Ent} {l : List (Nat × Ent)} {h : H} : lay (p :: l) h = lay l (T.put (some p.2) h p.1) := by
  show (T.putK (some p.2) h p.1 fun h => layK l h fun h => h) = _
  rw [T.putK_eq]; rfl
theorem lose_cons {p : Nat × Ent} {l : List (Nat × Ent)} {h : H} : lose (p :: l) h = lose l (T.put none h p.1) := by
  show (T.putK none h p.1 fun h => loseK l h fun h => h) = _
  rw [T.putK_eq]; rfl
theorem lay_get {n : Nat} {e : Ent} : ∀ (l : List (Nat × Ent)) (h : H), T.get (lay l h) n = some e → (n, e) ∈ l ∨ T.get h n = some e := by
  intro l
  induction l with
  | nil => exact fun h e => .inr e
  | cons p l ih =>
    intro h hg
    rw [lay_cons] at hg
    rcases ih _ hg with h1 | h1
    · exact .inl (List.mem_cons_of_mem _ h1)
    · rcases T.get_put _ _ _ _ _ h1 with ⟨rfl, h2⟩ | ⟨_, h2⟩
      · cases h2; exact .inl List.mem_cons_self
      · exact .inr h2
theorem lose_get {n : Nat} {e : Ent} : ∀ (l : List (Nat × Ent)) (h : H), T.get (lose l h) n = some e → (∀ p, p ∈ l → p.1 ≠ n) ∧ T.get h n = some e := by
  intro l
  induction l with
  | nil => exact fun h e => ⟨fun p hp => (by cases hp), e⟩
  | cons p l ih =>
    intro h hg
    rw [lose_cons] at hg
    obtain ⟨h1, h2⟩ := ih _ hg
    rcases T.get_put _ _ _ _ _ h2 with ⟨rfl, h3⟩ | ⟨hne, h3⟩
    · cases h3
    · refine ⟨fun q hq => ?_, h3⟩
      rcases List.mem_cons.1 hq with rfl | hq
      · exact fun h => hne h.symm
      · exact h1 q hq
/-- what a row of a memo says is so -/
def MemoIs (P : Program) (σ : Nat → Value) (f : FuncId) : Mm → Prop
  | .mk xs c pre v post c' => ∃ h1, (∀ p, p ∈ post → T.get h1 p.1 = some p.2) ∧ ∀ (B : Nat) (w0 : World), GlobOk P σ B w0 → ∀ (ρ : Rho) (ys : List Value), VRs σ ρ xs ys → ∀ (G : Nat → Option Ent) (w : World), View (lay pre .lf) G → Match σ B w0 ρ G w → Fresh ρ c c' →
      ∃ ρ' G' w' v', Acts P (callFunc f ⟨ys⟩) w v' w' ∧ Okk (lay pre .lf) h1 c c' ∧ Post σ B w0 ρ ρ' G G' (lay pre .lf) h1 c c' w' ∧ VR σ ρ' v v'
theorem memo_is (hI : XtOk P XT) (hN : Named P) (hm : P.follows .mixedOrders = true) (hX : ∀ (B : Nat) (W : World), GlobOk P σ B W → SimX P σ B W XT) {n : Nat} {f : FuncId} {m : Mm} (e : memoOk P K XT n f m = true) : MemoIs P σ f m := by
  obtain ⟨xs, c, pre, v, post, c'⟩ := m
  replace e : (layK pre .lf fun h => R.rec (motive := fun _ => Bool) (fun v1 h1 c1 => @Bool.rec (fun _ => Bool) false (@Bool.rec (fun _ => Bool) false (holds h1 post) (sameV 100 v1 v)) (Nat.beq c1 c')) false (call P K XT n f xs h c)) = true := e
  rw [layK_pure] at e
  cases hr : call P K XT n f xs (layK pre .lf fun h => h) c with
  | bad => rw [hr] at e; cases e
  | ok v1 h1 c1 =>
    rw [hr] at e
    obtain ⟨a1, a2⟩ := andB.1 (show (@Bool.rec (fun _ => Bool) false (@Bool.rec (fun _ => Bool) false (holds h1 post) (sameV 100 v1 v)) (Nat.beq c1 c')) = true from e)
    obtain ⟨a3, a4⟩ := andB.1 a2
    have b1 := Nat.eq_of_beq_eq_true a1
    have b2 := sameV_eq _ _ _ a3
    subst b1; subst b2
    exact ⟨h1, holds_ok a4, fun B w0 hg ρ ys hxy G w hv hM hf => (sim_top hI hN (hX B w0 hg) (drawn_ok hm) n).2 f xs ys ρ hxy _ _ _ _ _ hr G w hv hM hf⟩
theorem memo_sim (hg : GlobOk P σ B w0) {f : FuncId} {l : List Mm} (hl : ∀ m, m ∈ l → MemoIs P σ f m) {xs ys : List Value} {ρ : Rho} (hxy : VRs σ ρ xs ys) : SimC P σ B w0 (memoM bad l xs) ρ (callFunc f ⟨ys⟩) := by
  intro h c v h' c' e G w hv hM hf
  rcases memoM_ok l e with ⟨m, hm, h1, h2⟩ | e
  case inr => exact (bad_ok.1 e).elim
  obtain ⟨xs0, c0, pre, post, rfl, rfl⟩ := useM_ok h2
  obtain ⟨rfl, hcc, hxs, hpre⟩ := fitsM_ok h1
  have hxs := eqL_eq (sameV_eq 100) _ _ hxs
  subst hxs
  obtain ⟨hr, k1, k2⟩ := hl _ hm
  have hp := holds_ok hpre
  have hsub : ∀ n x, T.get (lay pre .lf) n = some x → T.get h n = some x := fun n x hx => by
    rcases lay_get _ _ hx with h3 | h3
    · exact hp _ h3
    · cases h3
  obtain ⟨ρ', G', w', v', ha, ok, p, hr'⟩ := k2 B w0 hg ρ ys hxy G w (fun n x hx => hv n x (hsub n x hx)) hM hf
  have hlive : ∀ n x, T.get h n = some x → ¬ (c ≤ n ∧ n < c') := fun n x hx hin => by
    obtain ⟨l', q1, _⟩ := hM.ent n x (hv n x hx)
    rw [hf n hin.1 hin.2] at q1; cases q1
  have hget : ∀ n x, T.get (lay post (lose pre h)) n = some x → (n, x) ∈ post ∨ ((∀ q, q ∈ pre → q.1 ≠ n) ∧ T.get h n = some x) := fun n x hx => by
    rcases lay_get _ _ hx with h3 | h3
    · exact .inl h3
    · exact .inr (lose_get _ _ h3)
  refine ⟨ρ', G', w', v', ha, ⟨hcc, fun n hn => ?_⟩, ⟨p.mt, fun n x hx => ?_, p.le, p.rest, fun n h3 h4 => p.frame n ?_ h4⟩, hr'⟩
  · cases hx : T.get (lay post (lose pre h)) n with
    | none => exact absurd hx hn
    | some x =>
      rcases hget n x hx with h3 | ⟨_, h3⟩
      · rcases ok.dom n (by rw [k1 _ h3]; simp) with h4 | h4
        · left
          cases hy : T.get (lay pre .lf) n with
          | none => exact absurd hy h4
          | some y => rw [hsub n y hy]; simp
        · exact .inr h4
      · left; rw [h3]; simp
  · rcases hget n x hx with h3 | ⟨h3, h4⟩
    · exact p.view n x (k1 _ h3)
    · rw [p.frame n ?_ (hlive n x h4)]
      · exact hv n x h4
      · cases hy : T.get (lay pre .lf) n with
        | none => rfl
        | some y =>
          rcases lay_get _ _ hy with h5 | h5
          · exact absurd rfl (h3 _ h5)
          · cases h5
  · cases hy : T.get (lay pre .lf) n with
    | none => rfl
    | some y => rw [hsub n y hy] at h3; cases h3
/-- what has been proved of a call, whatever memory holds -/
def ConIs (P : Program) (σ : Nat → Value) (B : Nat) (w0 : World) (f : FuncId) (t : List Value → Option Value) : Prop := ∀ xs v ρ ys, t xs = some v → VRs σ ρ xs ys → ∀ (w : World), Go.RowKit.Below B w0 w → B ≤ w0.heap.size →
  ∃ v' w', Acts P (callFunc f ⟨ys⟩) w v' w' ∧ Go.RowKit.Below w.heap.size w w' ∧ VR σ ρ v v'
/-- a contract that names the world behind -/
theorem acts_of_calls (hN : Named P) {f : FuncId} {fn : Func} {body : Code} {args : Array Value} {v : Value} {w W' : World} (hf : P.funcs[f]? = some fn) (hb : fn.body = some body) (h : Calls P f args w fun e w' => e = .returned v ∧ w' = W') : Acts P (callFunc f args) w v W' := by
  have hV : CallsV P f args w v W' := fun cs => by
    obtain ⟨e, w', fr, ⟨rfl, rfl⟩, hc, h1, h2⟩ := h cs
    exact ⟨fr, h1, h2, hc⟩
  exact ⟨.enter f args, w, run_callFunc hN hf hb w, hV.back⟩
theorem con_sim {f : FuncId} {t : List Value → Option Value} (ht : ConIs P σ B w0 f t) {xs ys : List Value} {ρ : Rho} (hxy : VRs σ ρ xs ys) : SimC P σ B w0 (opt (t xs)) ρ (callFunc f ⟨ys⟩) := by
  intro h c v h' c' e G w hv hM hf
  obtain ⟨e1, rfl, rfl⟩ := opt_ok.1 e
  obtain ⟨v', w', ha, hb, hr⟩ := ht xs v ρ ys e1 hxy w hM.below hM.base
  have hM' : Match σ B w0 ρ G w' :=
    ⟨fun n x hx => by
      obtain ⟨l, h1, h2, h3, h4⟩ := hM.ent n x hx
      exact ⟨l, h1, h2.le (Rho.le_refl _) (hb.block _ h4), h3, Nat.lt_of_lt_of_le h4 hb.size⟩, hM.inj, hM.below.trans (hb.mono (Nat.le_trans hM.base hM.below.size)), hM.base⟩
  exact ⟨ρ, G, w', v', ha, Okk.refl _ _, ⟨hM', hv, Rho.le_refl _, fun _ _ => rfl, fun _ _ _ => rfl⟩, hr⟩
end
end Go.Ev

namespace Go.Ev
open Go.RowKit (Below)
section
variable {P : Program} {σ : Nat → Value} {B : Nat} {w0 : World} {K : FuncId → T Unit} {XT : FuncId → Xt}
theorem simX_nil (hg : GlobOk P σ B w0) : SimX P σ B w0 (fun _ => .go) := ⟨hg, fun _ _ _ _ _ _ h _ => absurd rfl h⟩
/-- no package variable of the program is one that the evaluator knows -/
theorem glob_none (h : (P.globals.toList.all fun g => !(g.name == "quire/incr.errMany")) = true) : GlobOk P σ B w0 := fun g t hs _ => by
  unfold sentinel at hs
  cases hg : P.globals[g]? with
  | none => rw [hg] at hs; cases hs
  | some x =>
    rw [hg] at hs
    have := List.all_eq_true.1 h x (Array.mem_toList_iff.2 (Array.mem_of_getElem? hg))
    simp at this hs
    exact absurd hs this
/-- one function more that is not called by its body -/
noncomputable def xadd (g : Nat) (x : Xt) (XT : FuncId → Xt) : FuncId → Xt := fun f => @Bool.rec (fun _ => Xt) (XT f) x (Nat.beq f g)
theorem simX_at (h : SimX P σ B w0 XT) {g : Nat} {x : Xt} (hr : ∀ fn xs ys ρ, P.funcs[g]? = some fn → x ≠ .go → VRs σ ρ xs ys → SimC P σ B w0 (xcall P x fn xs) ρ (callFunc g ⟨ys⟩)) : SimX P σ B w0 (xadd g x XT) := by
  refine ⟨h.1, fun f fn xs ys ρ hf hj hxy => ?_⟩
  have he : xadd g x XT f = @Bool.rec (fun _ => Xt) (XT f) x (Nat.beq f g) := rfl
  rw [he] at hj ⊢
  cases hb : Nat.beq f g with
  | true =>
    rw [hb] at hj
    have hfg : f = g := Nat.eq_of_beq_eq_true hb
    subst hfg
    exact hr fn xs ys ρ hf hj hxy
  | false =>
    rw [hb] at hj
    exact h.2 f fn xs ys ρ hf hj hxy
theorem simX_add (h : SimX P σ B w0 XT) {g k : Nat} (hr : XRow P g k) : SimX P σ B w0 (xadd g (.ext k) XT) := simX_at h fun fn xs ys ρ hf _ hxy => by
  obtain ⟨fn', h1, h2, h3, h4, e, h5, h6⟩ := hr
  rw [hf] at h1; cases h1
  exact extern_ok hf h2 h3 h4 h5 h6 hxy
theorem simX_memo (h : SimX P σ B w0 XT) {g : Nat} {l : List Mm} (hl : ∀ m, m ∈ l → MemoIs P σ g m) : SimX P σ B w0 (xadd g (.memo l) XT) := simX_at h fun _ _ _ _ _ _ hxy => memo_sim h.1 hl hxy
theorem simX_con (h : SimX P σ B w0 XT) {g : Nat} {t : List Value → Option Value} (ht : ConIs P σ B w0 g t) : SimX P σ B w0 (xadd g (.con t) XT) := simX_at h fun _ _ _ _ _ _ hxy => con_sim ht hxy
theorem simX_keep (h : SimX P σ B w0 XT) {g : Nat} : SimX P σ B w0 (xadd g .keep XT) := simX_at h fun fn xs ys ρ _ _ _ => fun h1 c v h' c' e => (bad_ok.1 (show (bad : M Value) h1 c = .ok v h' c' from e)).elim
theorem simX_idle (h : SimX P σ B w0 XT) {g : Nat} : SimX P σ B w0 (xadd g .idle XT) := simX_at h fun fn xs ys ρ _ _ _ => fun h1 c v h' c' e => (bad_ok.1 (show (bad : M Value) h1 c = .ok v h' c' from e)).elim
theorem idle_nil : XtOk P (fun _ => .go) := ⟨fun g h => (by cases h), fun g h => (by cases h)⟩
theorem idle_at (h : XtOk P XT) {f : Nat} {x : Xt} (hx : x = .idle → IdleFn P f) (hk : x = .keep → KeepFn P f := by intro h; cases h) : XtOk P (xadd f x XT) := by
  have he : ∀ g, xadd f x XT g = @Bool.rec (fun _ => Xt) (XT g) x (Nat.beq g f) := fun g => rfl
  refine ⟨fun g hg => ?_, fun g hg => ?_⟩
  all_goals
    rw [he] at hg
    cases hb : Nat.beq g f with
    | true =>
      rw [hb] at hg
      have := Nat.eq_of_beq_eq_true hb
      subst this
      first | exact hx hg | exact hk hg
    | false => rw [hb] at hg; first | exact h.1 g hg | exact h.2 g hg
theorem memo_nil {g : FuncId} : ∀ m, m ∈ ([] : List Mm) → MemoIs P σ g m := fun m h => by cases h
theorem memo_cons {g : FuncId} {m : Mm} {l : List Mm} (h : MemoIs P σ g m) (hl : ∀ m, m ∈ l → MemoIs P σ g m) : ∀ m', m' ∈ m :: l → MemoIs P σ g m' := fun m' hm => by
  rcases List.mem_cons.1 hm with rfl | hm
  · exact h
  · exact hl m' hm
theorem match0 (W : World) : Match σ W.heap.size W (fun _ => none) (fun _ => none) W :=
  ⟨fun n e h => (by cases h), fun n m e f l k h => (by cases h), Below.refl _ _, Nat.le_refl _⟩
/-- a call from outside -/
theorem call_top (hI : XtOk P XT) (hN : Named P) (hm : P.follows .mixedOrders = true) (W : World) (hX : SimX P σ W.heap.size W XT) {n : Nat} {f : FuncId} {xs ys : List Value} {v : Value} {h' : H} {c c' : Nat} (hx : XT f = .go) (hxy : VRs σ (fun _ => none) xs ys)
    (e : call P K XT n f xs .lf c = .ok v h' c') : Calls P f ⟨ys⟩ W fun e W' => ∃ v' ρ, e = .returned v' ∧ VR σ ρ v v' ∧ Below W.heap.size W W' := by
  have hi := sim_run (K := K) hI hN hX (drawn_ok (σ := σ) (B := W.heap.size) (w0 := W) hm) n
  obtain ⟨fn, h1, c1, e1, e2⟩ := bnd_ok.1 e
  obtain ⟨hfn, rfl, rfl⟩ := opt_ok.1 e1
  rw [hx] at e2
  obtain ⟨body, h2, c2, e3, e4⟩ := bnd_ok.1 e2
  obtain ⟨hb, rfl, rfl⟩ := opt_ok.1 e3
  obtain ⟨⟨x, t⟩, h3, c3, e5, e6⟩ := bnd_ok.1 e4
  obtain ⟨vt, e7, hvt⟩ := initT_eq (k := fun vt => run P K XT n (.mk fn.ntmps (K f)) body (.mk vt .e [])) xs 0 .lf
  rw [e7] at e5
  let a0 : Act := { tmps := (⟨ys⟩ : Array Value) ++ Array.replicate (fn.ntmps - ys.length) undef, defers := [] }
  have hA : At P σ W.heap.size W (fun _ => none) (fun _ => none) .lf (.mk fn.ntmps (K f)) (.mk vt .e []) a0 W := by
    refine ⟨fun n x hx => (by cases hx), match0 W, fun i x hx => ?_, ?_, .nil⟩
    · rw [look_mk] at hx
      by_cases hp : isP (Sf.mk fn.ntmps (K f)).ks i = true
      · rw [if_pos hp] at hx
        rcases hvt i x hx with ⟨_, h2⟩ | h2
        · obtain ⟨y, g1, g2⟩ := hxy.get _ _ h2
          refine ⟨y, ?_, g2⟩
          have hil : i < ys.length := by have := (List.getElem?_eq_some_iff.1 g1).1; simpa using this
          show ((⟨ys⟩ : Array Value) ++ _)[i]? = some y
          rw [Array.getElem?_append_left (by simpa using hil)]
          simpa using g1
        · cases h2
      · rw [if_neg hp] at hx; cases hx
    · show fn.ntmps ≤ ((⟨ys⟩ : Array Value) ++ Array.replicate (fn.ntmps - ys.length) undef).size
      simp; omega
  obtain ⟨ρ1, G1, w1, a1, r, o1, p1, A1⟩ := hi _ _ _ _ _ _ _ _ _ e5 _ _ W (bodyFrame f) a0 hA (fun _ _ _ => rfl) (.inl rfl)
  obtain ⟨hx2, w2, G2, v', o2, p2, hr, un, res⟩ := leave_ok (P := P) (fn := fn) e6 A1.view A1.mt A1.env A1.dfr
  refine (body_leaves hfn hb r hx2 un res).calls.mono fun e w3 ⟨he, hw⟩ => ?_
  subst hw
  exact ⟨v', ρ1, he, hr, p2.mt.below⟩
theorem isTrue_ok {r : R Value} (h : isTrue r = true) : ∃ h c, r = .ok (.bool true) h c := by
  cases r with
  | bad => cases h
  | ok v h1 c1 =>
    unfold isTrue at h
    split at h
    · rename_i h1' c1' heq
      exact ⟨h1', c1', heq⟩
    · cases h
/-- a call that yields true -/
theorem call_true (hI : XtOk P XT) (hN : Named P) (hm : P.follows .mixedOrders = true) (W : World) (hX : SimX P σ W.heap.size W XT) {n : Nat} {f : FuncId} {xs ys : List Value} {c : Nat} (hx : XT f = .go) (hxy : VRs σ (fun _ => none) xs ys)
    (e : isTrue (call P K XT n f xs .lf c) = true) : Calls P f ⟨ys⟩ W fun e W' => e = .returned (.bool true) ∧ Below W.heap.size W W' := by
  obtain ⟨h', c', e⟩ := isTrue_ok e
  refine (call_top hI hN hm W hX hx hxy e).mono fun e W' ⟨v', ρ, h1, h2, h3⟩ => ?_
  cases h2
  exact ⟨h1, h3⟩
end
/-- cells that are not looked into -/
theorem VRs_opqs {σ : Nat → Value} {ρ : Rho} : ∀ (l : List Nat), (∀ k, k ∈ l → (σ k).oneCell = true) → VRs σ ρ (l.map fun k => .chan (some k)) (l.map σ)
  | [], _ => .nil
  | k :: l, h => .cons _ _ _ _ (.opq k (h k List.mem_cons_self)) (VRs_opqs l fun q hq => h q (List.mem_cons_of_mem _ hq))
theorem of_opqs {σ : Nat → Value} {ρ : Rho} : ∀ (l : List Nat) {ys : List Value}, VRs σ ρ (l.map fun k => .chan (some k)) ys → ys = l.map σ
  | [], _, h => by cases h; rfl
  | k :: l, _, h => by
    cases h with | cons _ y _ ys h1 h2 =>
    cases h1
    rw [of_opqs l h2]; rfl
theorem chans_one (l : List Nat) : ∀ x, x ∈ (l.map fun k => Value.chan (some k)) → x.oneCell = true := fun x hx => by
  obtain ⟨k, _, rfl⟩ := List.mem_map.1 hx
  rfl
/-- a function whose answer is known by its argument's form -/
noncomputable def tCon (X : List Value) (b : Bool) (xs : List Value) : Option Value := @Bool.rec (fun _ => Option Value) none (some (.bool b)) (eqL (sameV 100) xs X)
theorem con_edit {P : Program} {σ : Nat → Value} {W : World} {f : FuncId} {fn : Func} {body : Code} {l : List Nat} {b : Bool} {o : Obj} (hN : Named P) (hf : P.funcs[f]? = some fn) (hb : fn.body = some body)
    (h : ∀ w, Below W.heap.size W w → Calls P f ⟨[.agg ⟨l.map σ⟩]⟩ w fun e w' => e = .returned (.bool b) ∧ w' = w.alloc o) : ConIs P σ W.heap.size W f (tCon [.agg ⟨l.map fun k => .chan (some k)⟩] b) := by
  intro xs v ρ ys ht hxy w hw _
  replace ht : (@Bool.rec (fun _ => Option Value) none (some (.bool b)) (eqL (sameV 100) xs [.agg ⟨l.map fun k => .chan (some k)⟩])) = some v := ht
  cases hq : eqL (sameV 100) xs [.agg ⟨l.map fun k => .chan (some k)⟩] with
  | false => rw [hq] at ht; cases ht
  | true =>
    rw [hq] at ht; cases ht
    have := eqL_eq (sameV_eq 100) _ _ hq
    subst this
    obtain ⟨y, rfl, hy⟩ := args1 hxy
    cases hy with | agg _ ys h1 _ =>
    rw [of_opqs l h1]
    exact ⟨.bool b, _, acts_of_calls hN hf hb (h w hw), (Below.refl _ w).alloc (Nat.le_refl _) _, .bool b⟩
/-- no function of the program starts a goroutine: so the call starts none -/
theorem goes_false {P : Program} (h : P.funcs.toList.any Func.goes = false) (c : OpenClaim) (hs : c.start = .entering) : false = c.goesBy P := by
  have one : ∀ g : Nat, (P.funcs[g]?).any Func.goes = false := fun g => by
    cases hg : P.funcs[g]? with
    | none => rfl
    | some fn =>
      rw [List.any_eq_false] at h
      have := h fn (Array.mem_toList_iff.2 (Array.mem_of_getElem? hg))
      simpa using this
  have hall : P.funcs.any Func.goes = false := by rw [← Array.any_toList]; exact h
  have hg : ∀ f, P.goes f = false := fun f => by
    unfold Program.goes
    rw [hall, Bool.and_false, Bool.or_false, List.any_eq_false]
    intro g _
    rw [one g]; simp
  unfold OpenClaim.goesBy Program.goesAt Program.goesFrom
  rw [hs]
  cases P.funcNamed c.func with
  | none => rfl
  | some f => show false = (P.goes f || false); rw [hg f]; rfl
/-- what a call can come to, the seen ones in one number -/
noncomputable def fastC (lead : Nat → List Nat) (n : Nat) : List Nat → Nat → List Nat → List Nat :=
  Nat.rec (motive := fun _ => List Nat → Nat → List Nat → List Nat) (fun _ _ acc => acc.reverse)
    (fun _ ih todo m acc => List.rec (motive := fun _ => List Nat) acc.reverse (fun f todo _ => @Bool.rec (fun _ => List Nat) (ih (app (lead f) todo) (Nat.lor m (Nat.shiftLeft 1 f)) (f :: acc)) (ih todo m acc) (tstBit m f)) todo) n
theorem fastC_eq {P : Program} : ∀ (n : Nat) (todo : List FuncId) (m : Nat) (acc : List FuncId), (∀ f, tstBit m f = acc.contains f) → P.closureVia n todo acc = fastC (fun g => (P.funcs[g]?).elim [] P.leadsTo) n todo m acc := by
  intro n
  induction n with
  | zero => intro todo m acc _; cases todo <;> rfl
  | succ n ih =>
    intro todo m acc hm
    cases todo with
    | nil => rfl
    | cons f todo =>
      have e : fastC (fun g => (P.funcs[g]?).elim [] P.leadsTo) (n + 1) (f :: todo) m acc = @Bool.rec (fun _ => List Nat) (fastC (fun g => (P.funcs[g]?).elim [] P.leadsTo) n (app ((P.funcs[f]?).elim [] P.leadsTo) todo) (Nat.lor m (Nat.shiftLeft 1 f)) (f :: acc)) (fastC (fun g => (P.funcs[g]?).elim [] P.leadsTo) n todo m acc) (tstBit m f) := rfl
      rw [e, hm f]
      unfold Program.closureVia
      cases hc : acc.contains f with
      | true => rw [if_pos rfl]; exact ih todo m acc hm
      | false =>
        rw [if_neg (by simp)]
        show _ = fastC _ n (app _ todo) _ (f :: acc)
        rw [app_eq]
        refine ih _ _ _ fun g => ?_
        show tstBit (m ||| (1 <<< f)) g = _
        rw [tst_eq, Nat.testBit_or, ← tst_eq m g, hm g, Nat.one_shiftLeft, Nat.testBit_two_pow, List.contains_cons]
        cases acc.contains g <;> simp
        rw [Bool.eq_iff_iff]; simp; exact eq_comm
theorem closure_fast {P : Program} (f : FuncId) : P.closure f = fastC (fun g => (P.funcs[g]?).elim [] P.leadsTo) (1 + (P.funcs.toList.map fun g => (P.leadsTo g).length + 1).sum) [f] 0 [] :=
  fastC_eq _ _ _ _ fun g => by rw [tst_eq]; simp
end Go.Ev
