/- What the operations of a Go program bring about on values without memory, proved once for any program: part 2 of 3. No conditions beyond those at each theorem. -/
import Derived.Test.YtklmfpikhejemaaAm1
namespace Go.Proofs.Ytklmfpikhejemaa.Am
open Go.RowKit AV
set_option linter.unusedVariables false

section
variable {P : Program} {h0 : Array Obj} {ok O0 : Nat → Prop} {σ : St} {a : Act} {w : World} {Os : Nat → Nat → Prop}

/-- An operation that leaves a value and nothing else. -/
def PureOk (P : Program) (σ : St) (ok : Nat → Prop) (Os : Nat → Nat → Prop) (tm : Array Value) (w : World) (run : Sem Next) (K : AV → Prop) : Prop :=
  ∃ y v, K y ∧ run.run P w = .ok (.value v) w ∧ RepW w.heap (Sh ok Os) y v (fun _ => False) ∧ AliasOk w.heap σ tm y v

theorem src_move (R : Rel h0 ok O0 σ a.tmps w.heap Os) {x : Operand} (hx : opndOk a.tmps.size x = true) {K : AV → Prop} (h : moveW σ x K) :
    ∃ y, K y ∧ RepW w.heap (Sh ok Os) y (a.eval x) (fun _ => False) ∧ AliasOk w.heap σ a.tmps y (a.eval x) := by
  unfold moveW at h
  cases e : srcOf σ x with
  | slo s p sz xs =>
    rw [e] at h
    obtain ⟨u, h1, h2, h3, h4⟩ := src_slo R hx e
    exact ⟨_, h, by simp only [RepW]; exact emp_false, u, _, h1, h3, rfl, h4⟩
  | sls sz xs =>
    rw [e] at h
    obtain ⟨h1, h2, h3⟩ := src_sls R hx e
    exact ⟨_, h, h2, aliasOk_none h3⟩
  | pto s p y =>
    rw [e] at h
    obtain ⟨u, B, o, h1, h2, h3, h4, h5⟩ := src_pto R hx e
    exact ⟨_, h, by simp only [RepW]; exact emp_false, u, y, B, o, h1, h3, h4, h5⟩
  | pts y =>
    rw [e] at h
    have := src_pts R hx e
    exact ⟨_, h, by simpa only [RepW] using this, trivial⟩
  | va y =>
    rw [e] at h
    obtain ⟨h1, h2, h3⟩ := src_va R hx e
    exact ⟨_, h, h1, aliasOk_none (plain_target h3)⟩
  | bad => rw [e] at h; exact h.elim

theorem sim_move (R : Rel h0 ok O0 σ a.tmps w.heap Os) {x : Operand} (hx : opndOk a.tmps.size x = true) {K : AV → Prop} (h : moveW σ x K) :
    PureOk P σ ok Os a.tmps w (pure (.value (a.eval x))) K := by
  obtain ⟨y, h1, h2, h3⟩ := src_move R hx h
  exact ⟨y, _, h1, rfl, h2, h3⟩

theorem ev_bool (R : Rel h0 ok O0 σ a.tmps w.heap Os) {x : Operand} (hx : opndOk a.tmps.size x = true) {b : Bool} (e : ev σ x = .bool b) : a.eval x = .bool b := by
  have := (ev_rep R hx).1
  rw [e] at this
  simp only [RepW, RepC] at this
  simpa using this.1
theorem ev_int (R : Rel h0 ok O0 σ a.tmps w.heap Os) {x : Operand} (hx : opndOk a.tmps.size x = true) {k : IntKind} {n : Int} (e : ev σ x = .int k n) : a.eval x = .int k n := by
  have := (ev_rep R hx).1
  rw [e] at this
  simp only [RepW, RepC] at this
  simpa using this.1
theorem ev_str (R : Rel h0 ok O0 σ a.tmps w.heap Os) {x : Operand} (hx : opndOk a.tmps.size x = true) {s : List UInt8} (e : ev σ x = .str s) : a.eval x = .string ⟨s.toArray⟩ := by
  have := (ev_rep R hx).1
  rw [e] at this
  simp only [RepW, RepC] at this
  simpa using this.1
theorem ev_oth (R : Rel h0 ok O0 σ a.tmps w.heap Os) {x : Operand} (hx : opndOk a.tmps.size x = true) {v : Value} (e : ev σ x = .oth v) : a.eval x = v := by
  have := (ev_rep R hx).1
  rw [e] at this
  simp only [RepW, RepC] at this
  simpa using this.1.1

theorem sim_pick (R : Rel h0 ok O0 σ a.tmps w.heap Os) {c x y : Operand} (hc : opndOk a.tmps.size c = true) (hx : opndOk a.tmps.size x = true) (hy : opndOk a.tmps.size y = true) {K : AV → Prop} (h : pickW σ c x y K) :
    PureOk P σ ok Os a.tmps w (do pure (.value (if ← asBool (a.eval c) then a.eval x else a.eval y))) K := by
  unfold pickW at h
  split at h
  · rename_i t e
    have := ev_bool R hc e
    cases t
    · obtain ⟨z, h1, h2, h3⟩ := src_move R hy (by simpa using h)
      exact ⟨z, _, h1, by simp [this, asBool], h2, h3⟩
    · obtain ⟨z, h1, h2, h3⟩ := src_move R hx (by simpa using h)
      exact ⟨z, _, h1, by simp [this, asBool], h2, h3⟩
  · exact h.elim

theorem scal_int (k : IntKind) (n : Int) (h : Array Obj) (S : Nat → Prop) : RepW h S (.int k n) (.int k n) (fun _ => False) := by simp only [RepW, RepC]; exact ⟨trivial, emp_false⟩
theorem scal_bool (b : Bool) (h : Array Obj) (S : Nat → Prop) : RepW h S (.bool b) (.bool b) (fun _ => False) := by simp only [RepW, RepC]; exact ⟨trivial, emp_false⟩
theorem scal_str (s : List UInt8) (h : Array Obj) (S : Nat → Prop) : RepW h S (.str s) (.string ⟨s.toArray⟩) (fun _ => False) := by simp only [RepW, RepC]; exact ⟨trivial, emp_false⟩

theorem intOp_run {op : BinOp} {k : IntKind} {m n : Int} {y : AV} (e : intOp op k m n = some y) (t : TypeId) :
    ∃ v, (binOp op t (.int k m) (.int k n)).run P w = .ok v w ∧ ∀ (h : Array Obj) (S : Nat → Prop), RepW h S y v (fun _ => False) ∧ y.target = none := by
  unfold intOp at e
  split at e <;> try (cases e; done)
  case h_4 =>
    split at e
    · cases e
    · rename_i hn; cases e; exact ⟨.int k (k.wrap (m.tdiv n)), by simp [binOp, Op.intDiv, hn], fun h S => ⟨scal_int _ _ _ _, rfl⟩⟩
  case h_5 =>
    split at e
    · cases e
    · rename_i hn; cases e; exact ⟨.int k (m.tmod n), by simp [binOp, Op.intDiv, hn], fun h S => ⟨scal_int _ _ _ _, rfl⟩⟩
  all_goals
    cases e
    first
      | exact ⟨.int k _, by simp [binOp, Op.intArith], fun h S => ⟨scal_int _ _ _ _, rfl⟩⟩
      | exact ⟨.bool _, by simp [binOp, Op.intCmp], fun h S => ⟨scal_bool _ _ _, rfl⟩⟩

theorem strOp_run {op : BinOp} {s t : List UInt8} {y : AV} (e : strOp op s t = some y) (ty : TypeId) :
    ∃ v, (binOp op ty (.string ⟨s.toArray⟩) (.string ⟨t.toArray⟩)).run P w = .ok v w ∧ ∀ (h : Array Obj) (S : Nat → Prop), RepW h S y v (fun _ => False) ∧ y.target = none := by
  have hb : binOp op ty (.string ⟨s.toArray⟩) (.string ⟨t.toArray⟩) = Op.stringOp op ⟨s.toArray⟩ ⟨t.toArray⟩ := by cases op <;> rfl
  rw [hb]
  unfold strOp at e
  split at e <;> try (cases e; done)
  case h_1 =>
    split at e
    · rename_i hle
      cases e
      refine ⟨.string ⟨(s ++ t).toArray⟩, ?_, fun h S => ⟨scal_str _ _ _, rfl⟩⟩
      have h1 : ¬ ((((⟨s.toArray⟩ : ByteArray).size + (⟨t.toArray⟩ : ByteArray).size : Nat) : Int) > IntKind.i64.max) := by
        have : IntKind.i64.max = 9223372036854775807 := by decide
        rw [this]
        simp only [ByteArray.size, List.size_toArray]
        omega
      simp only [Op.stringOp, if_neg h1, Sem.run_pure]
      congr 2
    · cases e
  all_goals
    cases e
    refine ⟨.bool _, ?_, fun h S => ⟨scal_bool _ _ _, rfl⟩⟩
    simp only [Op.stringOp, ByteArray.toList_mk, Sem.run_pure]
end
end Go.Proofs.Ytklmfpikhejemaa.Am

namespace Go.Proofs.Ytklmfpikhejemaa.Am
open Go.RowKit AV
set_option linter.unusedVariables false

theorem run_under {P : Program} {w : World} {t : TypeId} {d : TypeDesc} (h : P.underlying t = some d) : (underlying t).run P w = .ok d w := by
  simp [underlying, h]
theorem run_allLoop {P : Program} {w : World} {α : Type} (e : α → Bool) (body : α → Option Bool × PUnit.{1} → Sem (ForInStep (Option Bool × PUnit.{1}))) : ∀ (l : List α),
    (∀ f ∈ l, (body f (none, ())).run P w = .ok (if e f then ForInStep.yield (none, ()) else ForInStep.done (some false, ())) w) →
    (forIn l (none, PUnit.unit) body).run P w = .ok (if l.all e then (none, ()) else (some false, ())) w
  | [], _ => by simp [Sem.run_pure]
  | f :: r, h => by
    rw [List.forIn_cons]
    simp only [Sem.run_bind, h f (List.mem_cons_self ..), Result.andThen_ok]
    cases he : e f with
    | true =>
      simp only [if_true, List.all_cons, he, Bool.true_and]
      exact run_allLoop e body r (fun g hg => h g (List.mem_cons_of_mem _ hg))
    | false => simp [he, Sem.run_pure]

theorem run_eqFields {P : Program} {w : World} {d : Nat} {t : TypeId} {fs : Array Field} {xs ys : Array Value} (hu : P.underlying t = some (.struct fs)) (hh : P.stoodInHeld t = false) (e : Field → Bool)
    (h : ∀ f ∈ fs.toList, f.name ≠ "_" ∧ (do Op.equalIn d f.type (← part f.type xs f.offset) (← part f.type ys f.offset) : Sem Bool).run P w = .ok (e f) w) :
    (Op.equalIn (d + 1) t (.agg xs) (.agg ys)).run P w = .ok (fs.toList.all e) w := by
  simp only [Op.equalIn, Sem.run_bind, run_under hu, Result.andThen_ok]
  simp [hh]
  rw [← Array.forIn_toList, run_allLoop e _ fs.toList ?_]
  · cases hl : fs.toList.all e
    · have : fs.all e = false := by rw [← Array.all_toList]; exact hl
      simp [this, Sem.run_pure]
    · have : fs.all e = true := by rw [← Array.all_toList]; exact hl
      simp [this, Sem.run_pure]
  · intro f hf
    obtain ⟨h1, h2⟩ := h f hf
    simp only [if_neg h1]
    have h2' := h2
    simp only [Sem.run_bind] at h2' ⊢
    cases hp : (part f.type xs f.offset).run P w with
    | halt a b => simp [hp, Result.andThen] at h2'
    | ok v w1 =>
      simp only [hp, Result.andThen_ok] at h2' ⊢
      cases hq : (part f.type ys f.offset).run P w1 with
      | halt a b => simp [hq, Result.andThen] at h2'
      | ok v2 w2 =>
        simp only [hq, Result.andThen_ok] at h2' ⊢
        rw [h2']
        simp only [Result.andThen_ok]
        cases e f <;> simp [Sem.run_pure]


def valS : AV → Value
  | .int k n => .int k n
  | .bool b => .bool b
  | .str s => .string ⟨s.toArray⟩
  | _ => .nilFunc
theorem isAgg_scalar {P : Program} {w : World} {t : TypeId} {x : AV} (h : avK x = tyK P t) : (isAgg t).run P w = .ok false w := by
  unfold tyK at h
  unfold isAgg
  simp only [Sem.run_bind]
  split at h
  · rename_i e; rw [run_under e]; rfl
  · rename_i k e; rw [run_under e]; rfl
  · rename_i e; rw [run_under e]; rfl
  · cases x <;> simp [avK] at h
theorem eqS_run {P : Program} {w : World} {t : TypeId} {x y : AV} {b : Bool} (hx : avK x = tyK P t) (hy : avK y = tyK P t) (h : eqS x y = some b) (d : Nat) : (Op.equalIn (d + 1) t (valS x) (valS y)).run P w = .ok b w := by
  unfold tyK at hx hy
  unfold eqS at h
  split at h
  · split at h
    · rename_i k m k' n hk
      subst hk
      cases h
      split at hx <;> simp only [avK] at hx <;> first | omega | skip
      rename_i kk e
      simp only [Op.equalIn, Sem.run_bind, run_under e, Result.andThen_ok, valS]
      simp [Sem.run_pure]
    · cases h
  · cases h
    split at hx <;> simp only [avK] at hx <;> first | omega | skip
    rename_i e
    simp only [Op.equalIn, Sem.run_bind, run_under e, Result.andThen_ok, valS]
    simp [Sem.run_pure]
  · cases h
    split at hx <;> simp only [avK] at hx <;> first | omega | skip
    rename_i s1 s2 _ e
    have hb : ((⟨s1.toArray⟩ : ByteArray) == ⟨s2.toArray⟩) = (s1 == s2) := by
      rw [show ((⟨s1.toArray⟩ : ByteArray) == ⟨s2.toArray⟩) = (s1.toArray == s2.toArray) from rfl]
      simp
    simp only [Op.equalIn, Sem.run_bind, run_under e, Result.andThen_ok, valS, Sem.run_pure, hb]
  · cases h

theorem valS_cells {h : Array Obj} {S : Nat → Prop} {P : Program} : ∀ (xs : List AV) (ks : List Nat) {m : List Value} {O : Nat → Prop}, RepL h S xs m O → xs.map avK = ks → (∀ k ∈ ks, 4 ≤ k) → m = xs.map valS
  | [], ks, m, O, r, _, _ => by simp only [RepL] at r; simp [r.1]
  | x :: xs, ks, m, O, r, e, hk => by
    simp only [RepL] at r
    obtain ⟨c1, c2, O1, O2, rfl, _, _, r1, r2⟩ := r
    subst e
    have h4 : 4 ≤ avK x := hk _ (by simp)
    rw [valS_cells (P := P) xs _ r2 rfl (fun k hm => hk k (by simp only [List.map_cons, List.mem_cons]; exact .inr hm))]
    cases x <;> simp [avK] at h4 <;> simp only [RepC] at r1 <;> simp [r1.1, valS]

theorem tyK_range (P : Program) (t : TypeId) : tyK P t = 1 ∨ 4 ≤ tyK P t := by unfold tyK; split <;> simp
theorem avK_ne1 (x : AV) : avK x ≠ 1 := by cases x <;> simp [avK]

theorem flat_all {P : Program} {w : World} (d : Nat) : ∀ (fl : List Field) (i : Nat) (fs gs : List AV) (b : Bool), flatGo i fl = true → fs.map avK = fl.map (fun f => tyK P f.type) → gs.map avK = fl.map (fun f => tyK P f.type) → eqSL fs gs = some b →
    ∀ (xs ys : Array Value), (∀ (j : Nat) x, fs[j]? = some x → xs[i + j]? = some (valS x)) → (∀ (j : Nat) x, gs[j]? = some x → ys[i + j]? = some (valS x)) →
    ∃ e : Nat → Bool, (∀ f ∈ fl, f.name ≠ "_" ∧ (do Op.equalIn (d + 1) f.type (← part f.type xs f.offset) (← part f.type ys f.offset) : Sem Bool).run P w = .ok (e f.offset) w ∧ i ≤ f.offset) ∧ fl.all (fun f => e f.offset) = b
  | [], i, fs, gs, b, _, hf, hg, he, xs, ys, _, _ => by
    have h1 : fs = [] := by simpa using hf
    have h2 : gs = [] := by simpa using hg
    subst h1 h2
    simp only [eqSL, Option.some.injEq] at he
    exact ⟨fun _ => true, by simp, by simpa using he⟩
  | f :: fl, i, [], gs, b, _, hf, _, _, _, _, _, _ => by simp at hf
  | f :: fl, i, x :: fs, [], b, _, _, hg, _, _, _, _, _ => by simp at hg
  | f :: fl, i, x :: fs, y :: gs, b, ho, hf, hg, he, xs, ys, hx, hy => by
    simp only [flatGo, Bool.and_eq_true, bne_iff_ne, beq_iff_eq] at ho
    simp only [List.map_cons, List.cons.injEq] at hf hg
    simp only [eqSL] at he
    split at he
    · rename_i b1 b2 e1 e2
      cases he
      obtain ⟨e, g1, g2⟩ := flat_all (w := w) d fl (i + 1) fs gs b2 ho.2 hf.2 hg.2 e2 xs ys (fun j z hz => by rw [show i + 1 + j = i + (j + 1) by omega]; exact hx (j + 1) z (by simpa using hz)) (fun j z hz => by rw [show i + 1 + j = i + (j + 1) by omega]; exact hy (j + 1) z (by simpa using hz))
      refine ⟨fun o => if o = i then b1 else e o, ?_, ?_⟩
      · intro f' hf'
        rcases List.mem_cons.1 hf' with rfl | hm
        · refine ⟨ho.1.1, ?_, by omega⟩
          have hx0 := hx 0 x rfl
          have hy0 := hy 0 y rfl
          simp only [Nat.add_zero] at hx0 hy0
          have p1 : (part f'.type xs i).run P w = .ok (valS x) w := by
            unfold part
            simp only [Sem.run_bind, isAgg_scalar hf.1, Result.andThen_ok, Bool.false_eq_true, if_false, hx0]
            rfl
          have p2 : (part f'.type ys i).run P w = .ok (valS y) w := by
            unfold part
            simp only [Sem.run_bind, isAgg_scalar hg.1, Result.andThen_ok, Bool.false_eq_true, if_false, hy0]
            rfl
          simp only [Sem.run_bind, ho.1.2, p1, p2, Result.andThen_ok, eqS_run hf.1 hg.1 e1 d, if_true]
        · obtain ⟨q1, q2, q3⟩ := g1 f' hm
          refine ⟨q1, ?_, by omega⟩
          show _ = Result.ok (if f'.offset = i then b1 else e f'.offset) w
          rw [if_neg (by omega)]
          exact q2
      · have : fl.all (fun f => if f.offset = i then b1 else e f.offset) = fl.all (fun f => e f.offset) := by
          rw [Bool.eq_iff_iff, List.all_eq_true, List.all_eq_true]
          constructor
          · intro h f' hm
            have := h f' hm
            rwa [if_neg (by have := (g1 f' hm).2.2; omega)] at this
          · intro h f' hm
            rw [if_neg (by have := (g1 f' hm).2.2; omega)]
            exact h f' hm
        simp only [List.all_cons, ho.1.2, if_true, this, g2]
    · cases he

theorem eqAgg_run {P : Program} {w : World} {op : BinOp} {t : TypeId} {fs gs : List AV} {z : AV} {xs ys : Array Value} {h : Array Obj} {S O1 O2 : Nat → Prop} (e : eqAgg (flatK P t) op fs gs = some z) (r1 : RepL h S fs xs.toList O1) (r2 : RepL h S gs ys.toList O2) :
    ∃ b : Bool, z = .bool b ∧ ∀ x y : Operand, (do eqGuard op t x y (.agg xs) (.agg ys); binOp op t (.agg xs) (.agg ys) : Sem Value).run P w = .ok (.bool b) w := by
  unfold eqAgg flatK at e
  cases hu : P.underlying t with
  | none => simp [hu] at e
  | some dsc =>
    rw [hu] at e
    cases dsc <;> simp only [reduceCtorEq] at e
    rename_i fl
    split at e
    · rename_i ks hks
      split at hks
      · rename_i hc
        simp only [Option.some.injEq] at hks
        subst hks
        simp only [Bool.and_eq_true, Bool.not_eq_true'] at hc
        split at e
        · rename_i hkk
          split at e
          · rename_i b eb
            have hk4 : ∀ (l : List AV), l.map avK = fl.toList.map (fun f => tyK P f.type) → ∀ k ∈ l.map avK, 4 ≤ k := by
              intro l hl k hm
              obtain ⟨x, hx, rfl⟩ := List.mem_map.1 hm
              have : avK x ∈ fl.toList.map (fun f => tyK P f.type) := by rw [← hl]; exact List.mem_map.2 ⟨x, hx, rfl⟩
              obtain ⟨f, _, hf⟩ := List.mem_map.1 this
              rcases tyK_range P f.type with h | h
              · exact absurd (hf.symm.trans h) (avK_ne1 x)
              · rw [← hf]; exact h
            have c1 := valS_cells (P := P) fs _ r1 rfl (hk4 fs hkk.1)
            have c2 := valS_cells (P := P) gs _ r2 rfl (hk4 gs hkk.2)
            have hget : ∀ (l : List AV) (a : Array Value), a.toList = l.map valS → ∀ (j : Nat) x, l[j]? = some x → a[0 + j]? = some (valS x) := by
              intro l a ha j x hx
              rw [Nat.zero_add, ← Array.getElem?_toList, ha, List.getElem?_map, hx]; rfl
            obtain ⟨ef, g1, g2⟩ := flat_all (P := P) (w := w) 9998 fl.toList 0 fs gs b hc.1.1 hkk.1 hkk.2 eb xs ys (hget fs xs c1) (hget gs ys c2)
            have heq : (Op.equal t (.agg xs) (.agg ys)).run P w = .ok b w := by
              have key : ∀ d, (∀ f ∈ fl.toList, f.name ≠ "_" ∧ (do Op.equalIn d f.type (← part f.type xs f.offset) (← part f.type ys f.offset) : Sem Bool).run P w = .ok (ef f.offset) w) → (Op.equalIn (d + 1) t (.agg xs) (.agg ys)).run P w = .ok b w := by
                intro d hd
                rw [run_eqFields hu hc.1.2 (fun f => ef f.offset) hd, g2]
              exact key 9999 (fun f hf => ⟨(g1 f hf).1, (g1 f hf).2.1⟩)
            have hg : ∀ x y : Operand, (eqGuard op t x y (.agg xs) (.agg ys)).run P w = .ok () w := by
              intro x y
              unfold eqGuard
              cases op <;> simp [hc.2]
            split at e
            · cases e; exact ⟨b, rfl, fun x y => by simp [hg, binOp, heq]⟩
            · cases e; exact ⟨!b, rfl, fun x y => by simp [hg, binOp, heq]⟩
            · cases e
          · cases e
        · cases e
      · cases hks
    · cases e
end Go.Proofs.Ytklmfpikhejemaa.Am

namespace Go.Proofs.Ytklmfpikhejemaa.Am
open Go.RowKit AV
set_option linter.unusedVariables false

section
variable {P : Program} {h0 : Array Obj} {ok O0 : Nat → Prop} {σ : St} {a : Act} {w : World} {Os : Nat → Nat → Prop}

theorem sim_bin (R : Rel h0 ok O0 σ a.tmps w.heap Os) {x y : Operand} (hx : opndOk a.tmps.size x = true) (hy : opndOk a.tmps.size y = true) {op : BinOp} {t : TypeId} {K : AV → Prop} (h : needW (binA P op t (ev σ x) (ev σ y)) K) :
    PureOk P σ ok Os a.tmps w (do pure (.value (← (do eqGuard op t x y (a.eval x) (a.eval y); binOp op t (a.eval x) (a.eval y) : Sem Value)))) K := by
  unfold needW at h
  cases e : binA P op t (ev σ x) (ev σ y) with
  | none => rw [e] at h; exact h.elim
  | some z =>
    rw [e] at h
    unfold binA at e
    split at e
    · rename_i k m k' n e1 e2
      split at e
      · rename_i hk
        subst hk
        obtain ⟨v, h1, h2⟩ := intOp_run (P := P) (w := w) e t
        rw [ev_int R hx e1, ev_int R hy e2]
        refine ⟨z, v, h, ?_, (h2 _ _).1, aliasOk_none (h2 w.heap (Sh ok Os)).2⟩
        have hg : (eqGuard op t x y (.int k m) (.int k n)).run P w = .ok () w := by unfold eqGuard; split <;> rfl
        simp [hg, h1]
      · cases e
    · rename_i s1 s2 e1 e2
      obtain ⟨v, h1, h2⟩ := strOp_run (P := P) (w := w) e t
      rw [ev_str R hx e1, ev_str R hy e2]
      refine ⟨z, v, h, ?_, (h2 _ _).1, aliasOk_none (h2 w.heap (Sh ok Os)).2⟩
      have hg : (eqGuard op t x y (.string ⟨s1.toArray⟩) (.string ⟨s2.toArray⟩)).run P w = .ok () w := by unfold eqGuard; split <;> rfl
      simp [hg, h1]
    · rename_i b1 b2 e1 e2
      rw [ev_bool R hx e1, ev_bool R hy e2]
      have hg : (eqGuard op t x y (.bool b1) (.bool b2)).run P w = .ok () w := by unfold eqGuard; split <;> rfl
      cases hu : P.underlying t with
      | none => simp [hu] at e
      | some d =>
        cases d <;> simp only [hu] at e <;> try (cases e; done)
        have he : (Op.equal t (.bool b1) (.bool b2)).run P w = .ok (b1 == b2) w := by
          have key : ∀ d, (Op.equalIn (d + 1) t (.bool b1) (.bool b2)).run P w = .ok (b1 == b2) w := by
            intro d
            simp only [Op.equalIn, Sem.run_bind, run_under hu, Result.andThen_ok, Sem.run_pure]
          exact key 9999
        split at e
        · cases e
          exact ⟨_, .bool (b1 == b2), h, by simp [hg, binOp, he], scal_bool _ _ _, trivial⟩
        · cases e
          exact ⟨_, .bool (b1 != b2), h, by simp [hg, binOp, he, bne], scal_bool _ _ _, trivial⟩
        · cases e
    · rename_i fs gs e1 e2
      have g1 := (ev_rep R hx).1
      have g2 := (ev_rep R hy).1
      rw [e1] at g1
      rw [e2] at g2
      simp only [RepW, RepC] at g1 g2
      obtain ⟨xs, hv1, r1⟩ := g1
      obtain ⟨ys, hv2, r2⟩ := g2
      obtain ⟨b, rfl, hrun⟩ := eqAgg_run (P := P) (w := w) e r1 r2
      rw [hv1, hv2]
      refine ⟨_, .bool b, h, ?_, scal_bool _ _ _, trivial⟩
      have := hrun x y
      rw [Sem.run_bind, this]
      rfl
    · cases e

theorem sim_un (R : Rel h0 ok O0 σ a.tmps w.heap Os) {x : Operand} (hx : opndOk a.tmps.size x = true) {op : UnOp} {K : AV → Prop} (h : needW (unA op (ev σ x)) K) :
    PureOk P σ ok Os a.tmps w (do pure (.value (← Op.unary op (a.eval x)))) K := by
  unfold needW at h
  cases e : unA op (ev σ x) with
  | none => rw [e] at h; exact h.elim
  | some z =>
    rw [e] at h
    unfold unA at e
    split at e
    · rename_i b e1
      cases e
      rw [ev_bool R hx e1]
      exact ⟨_, .bool !b, h, by simp [Op.unary], scal_bool _ _ _, trivial⟩
    · rename_i k n e1
      cases e
      rw [ev_int R hx e1]
      exact ⟨_, .int k (k.wrap (0 - n)), h, by simp [Op.unary, Op.intArith], scal_int _ _ _ _, trivial⟩
    · cases e

theorem fields_spec {t : TypeId} {f off fsz : Nat} {ag : Option Bool} (h : (tinfo P t).fields[f]? = some (off, fsz, ag)) :
    ∃ fs fl, P.underlying t = some (.struct fs) ∧ fs[f]? = some fl ∧ fl.offset = off ∧ szOf P fl.type = fsz ∧ aggTy P fl.type = ag := by
  unfold tinfo at h
  split at h <;> try (simp at h; done)
  rename_i fs hu
  simp only [List.getElem?_map, Array.getElem?_toList] at h
  cases hf : fs[f]? with
  | none => simp [hf] at h
  | some fl =>
    simp only [hf, Option.map_some, Option.some.injEq, Prod.mk.injEq] at h
    exact ⟨fs, fl, hu, hf, h.1, h.2.1, h.2.2⟩

theorem run_size {t : TypeId} (h : 0 < szOf P t) : (sizeOf t).run P w = .ok (szOf P t) w := by
  unfold szOf at h ⊢
  cases hi : P.info? t with
  | none => simp [hi] at h
  | some i => simp [sizeOf, typeInfo, hi]

theorem run_fieldAt {t : TypeId} {f off fsz : Nat} {ag : Option Bool} (h : (tinfo P t).fields[f]? = some (off, fsz, ag)) (hz : 0 < fsz) (ad : Addr) :
    (Instr.fieldAt t (.pointer (some ad)) f).run P w = .ok (.pointer (some (ad.add off))) w := by
  obtain ⟨fs, fl, h1, h2, h3, h4, h5⟩ := fields_spec h
  have hs : 0 < szOf P fl.type := by omega
  have hne : ¬ szOf P fl.type = 0 := by omega
  simp [Instr.fieldAt, run_under h1, h2, Instr.sureAddr, fieldPlace, run_size hs, hne, h3]

/-- A field of what lies readable. -/
theorem dptr_field {h : Array Obj} {S : Nat → Prop} {fs : List AV} {v : Value} (r : RepC h S (.dptr (.agg fs)) [v] (fun _ => False)) {f : Nat} (hf : f < fs.length) :
    ∃ ad : Addr, v = .pointer (some ad) ∧ RepC h S (.dptr (fs.getD f .undef)) [.pointer (some (ad.add (ncellsL (fs.take f))))] (fun _ => False) := by
  simp only [RepC] at r
  obtain ⟨⟨ad, m, h1, h2, h3, h4⟩, _⟩ := r
  have hg : fs[f]? = some (fs.getD f .undef) := by simp [List.getD, List.getElem?_eq_getElem hf]
  obtain ⟨m1, cy, m2, Oy, Ob, g1, g2, g3, g4, g5, g6⟩ := repL_at fs f _ h2 hg
  refine ⟨ad, by simpa using h1, ?_⟩
  simp only [RepC]
  refine ⟨⟨_, cy, rfl, repC_cong _ g3 (fun k => ⟨False.elim, fun hk => (g4 k).2 (.inl hk)⟩), fun hm => ?_, fun j u hu => ?_⟩, emp_false⟩
  · rw [add_block]; exact h3 (by rw [g1]; simp; omega)
  · have hj := (List.getElem?_eq_some_iff.1 hu).1
    have := h4 (m1.length + j) u (by
      rw [g1, List.append_assoc, List.getElem?_append_right (by omega), List.getElem?_append_left (by omega)]
      simpa using hu)
    rw [g2] at this
    have hadd : (ad.add (ncellsL (fs.take f))).add j = ad.add (ncellsL (fs.take f) + j) := by
      obtain ⟨b, o, sp⟩ := ad
      unfold Addr.add
      by_cases h1 : ncellsL (fs.take f) = 0
      · by_cases h2 : j = 0 <;> simp [h1, h2]
      · by_cases h2 : j = 0
        · simp [h1, h2]
        · simp [h1, h2, Nat.add_assoc]
    rw [hadd]; exact this

theorem sim_fieldAddr (R : Rel h0 ok O0 σ a.tmps w.heap Os) {x : Operand} (hx : opndOk a.tmps.size x = true) {t : TypeId} {f : Nat} {K : AV → Prop} (h : fieldAddrW P σ t x f K) :
    PureOk P σ ok Os a.tmps w (do pure (.value (← Instr.fieldAt t (a.eval x) f))) K := by
  unfold fieldAddrW at h
  split at h
  · rename_i off fsz ag hf
    obtain ⟨hz, h⟩ := h
    split at h
    · rename_i s p fs e
      obtain ⟨h1, h2, h3⟩ := h
      obtain ⟨u, B, o, k1, k2, k3, k4, k5⟩ := src_pto R hx e
      have hg : fs[f]? = some (fs.getD f .undef) := by simp [List.getD, List.getElem?_eq_getElem h1]
      refine ⟨_, .pointer (some ⟨B, o + off, none⟩), h3, by simp [k5, run_fieldAt hf hz, add_at], by simp only [RepW]; exact emp_false, u, fs.getD f .undef, B, o + off, k1, ?_, ?_, rfl⟩
      · rw [getAt_app, k3]; simp only [getAt, hg]
      · rw [adrV_app p [f] _ k3 k4]; simp only [adr, hg, h2]
    · rename_i fs e
      obtain ⟨h1, h2, h3⟩ := h
      have r := src_pts R hx e
      obtain ⟨ad, e1, r'⟩ := dptr_field r h1
      rw [h2] at r'
      refine ⟨_, .pointer (some (ad.add off)), h3, by simp [e1, run_fieldAt hf hz], by simpa only [RepW] using r', trivial⟩
    · exact h.elim
  · exact h.elim
end
end Go.Proofs.Ytklmfpikhejemaa.Am

namespace Go.Proofs.Ytklmfpikhejemaa.Am
open Go.RowKit AV
set_option linter.unusedVariables false

section
variable {P : Program} {h0 : Array Obj} {ok O0 : Nat → Prop} {σ : St} {a : Act} {w : World} {Os : Nat → Nat → Prop}

theorem kind1 {t : TypeId} (h : (tinfo P t).kind = 1) : ∃ e, P.underlying t = some (.slice e) ∧ szOf P e = (tinfo P t).esz ∧ bytesOf_ P e = (tinfo P t).ebytes ∧ aggTy P e = (tinfo P t).eagg ∧ (tinfo P t).ezero = zeroA P 12 e ∧ (tinfo P t).ezok = zokOf P e (zeroA P 12 e) := by
  unfold tinfo at h ⊢
  cases hu : P.underlying t with
  | none => simp [hu] at h
  | some d => cases d <;> simp_all
theorem kind2 {t : TypeId} (h : (tinfo P t).kind = 2) : ∃ e, P.underlying t = some (.array (tinfo P t).alen e) ∧ szOf P e = (tinfo P t).esz ∧ aggTy P e = (tinfo P t).eagg ∧ (tinfo P t).ezero = zeroA P 12 e ∧ (tinfo P t).ezok = zokOf P e (zeroA P 12 e) := by
  unfold tinfo at h ⊢
  cases hu : P.underlying t with
  | none => simp [hu] at h
  | some d => cases d <;> simp_all
theorem kind4 {t : TypeId} (h : (tinfo P t).kind = 4) : P.underlying t = some .string := by
  unfold tinfo at h
  cases hu : P.underlying t with
  | none => simp [hu] at h
  | some d => cases d <;> simp_all
theorem kind5 {t : TypeId} (h : (tinfo P t).kind = 5) : ∃ k, P.underlying t = some (.int k) := by
  unfold tinfo at h
  cases hu : P.underlying t with
  | none => simp [hu] at h
  | some d => cases d <;> simp_all
theorem tinfo_base (t : TypeId) : (tinfo P t).size = szOf P t ∧ (tinfo P t).agg = aggTy P t ∧ (tinfo P t).bytes = bytesOf_ P t ∧ (tinfo P t).zero = zeroA P 12 t ∧ (tinfo P t).zok = zokOf P t (zeroA P 12 t) := by
  unfold tinfo
  cases hu : P.underlying t with
  | none => simp
  | some d => cases d <;> simp

theorem run_index_slice {t e : TypeId} (hu : P.underlying t = some (.slice e)) (hs : 0 < szOf P e) {k : IntKind} {n : Int} {ad : Addr} {l c : Nat} (h0 : 0 ≤ n) (h1 : n < l) :
    (Instr.indexAt t (.slice (some ad) l c) (.int k n)).run P w = .ok (.pointer (some (ad.add (n.toNat * szOf P e)))) w := by
  simp [Instr.indexAt, asIntOf, run_under hu, h0, h1, run_size hs]
theorem run_index_arr {t e : TypeId} {m : Nat} (hu : P.underlying t = some (.array m e)) (hs : 0 < szOf P e) {k : IntKind} {n : Int} {ad : Addr} (h0 : 0 ≤ n) (h1 : n < m) :
    (Instr.indexAt t (.pointer (some ad)) (.int k n)).run P w = .ok (.pointer (some (ad.add (n.toNat * szOf P e)))) w := by
  simp [Instr.indexAt, asIntOf, run_under hu, h0, h1, run_size hs, Instr.sureAddr]

theorem add_add (ad : Addr) (m j : Nat) : (ad.add m).add j = ad.add (m + j) := by
  obtain ⟨b, o, sp⟩ := ad
  unfold Addr.add
  by_cases h1 : m = 0
  · by_cases h2 : j = 0 <;> simp [h1, h2]
  · by_cases h2 : j = 0
    · simp [h1, h2]
    · simp [h1, h2, Nat.add_assoc]

/-- One of those that lie readable one behind the other. -/
theorem read_elem {h : Array Obj} {S : Nat → Prop} {sz : Nat} {xs : List AV} {m : List Value} {ad : Addr} (h2 : RepL h S xs m (fun _ => False)) (hu : ∀ x ∈ xs, x.ncells = sz)
    (h3 : 0 < sz → S ad.block) (h4 : ∀ (j : Nat) u, m[j]? = some u → cellH h (ad.add j) = some u) {f : Nat} (hf : f < xs.length) :
    RepC h S (.dptr (xs.getD f .undef)) [.pointer (some (ad.add (f * sz)))] (fun _ => False) := by
  have hg : xs[f]? = some (xs.getD f .undef) := by simp [List.getD, List.getElem?_eq_getElem hf]
  obtain ⟨m1, cy, m2, Oy, Ob, g1, g2, g3, g4, g5, g6⟩ := repL_at xs f _ h2 hg
  rw [uni_take hu (by omega)] at g2
  have hl := repC_len _ g3
  rw [hu _ (List.mem_of_getElem? hg)] at hl
  simp only [RepC]
  refine ⟨⟨_, cy, rfl, repC_cong _ g3 (fun k => ⟨False.elim, fun hk => (g4 k).2 (.inl hk)⟩), fun hm => ?_, fun j u hu' => ?_⟩, emp_false⟩
  · rw [add_block]; exact h3 (by omega)
  · have hj := (List.getElem?_eq_some_iff.1 hu').1
    have := h4 (m1.length + j) u (by
      rw [g1, List.append_assoc, List.getElem?_append_right (by omega), List.getElem?_append_left (by omega)]
      simpa using hu')
    rw [g2] at this
    rw [add_add]; exact this

theorem sim_indexAddr (R : Rel h0 ok O0 σ a.tmps w.heap Os) {x i : Operand} (hx : opndOk a.tmps.size x = true) (hi : opndOk a.tmps.size i = true) {t : TypeId} {K : AV → Prop} (h : indexAddrW P σ t x i K) :
    PureOk P σ ok Os a.tmps w (do pure (.value (← Instr.indexAt t (a.eval x) (a.eval i)))) K := by
  unfold indexAddrW at h
  split at h
  · rename_i k n ei
    rw [ev_int R hi ei]
    split at h
    · rename_i s p sz xs e
      obtain ⟨h1, h2, hz, h3, h4, h5⟩ := h
      obtain ⟨el, hu, hs, _⟩ := kind1 h1
      obtain ⟨u, k1, k2, k3, k4⟩ := src_slo R hx e
      obtain ⟨⟨Oy, r, _⟩, had⟩ := slo_rep k2 k3 k4
      simp only [RepC] at r
      rcases r with ⟨rfl, _, _⟩ | ⟨hsz, b, c, te, cap, O1, r1, r2, _⟩
      · simp at h4; omega
      · have hv : a.eval x = .slice (some ⟨b, 0, none⟩) xs.length cap := by simpa using r1
        have hn : n.toNat < xs.length := by omega
        have hg : xs[n.toNat]? = some (xs.getD n.toNat .undef) := by simp [List.getD, List.getElem?_eq_getElem hn]
        rw [h2] at hs
        refine ⟨_, .pointer (some ⟨b, n.toNat * sz, none⟩), h5, ?_, by simp only [RepW]; exact emp_false, u, xs.getD n.toNat .undef, b, n.toNat * sz, k1, ?_, had b _ _ hv _ hn, rfl⟩
        · rw [hv]
          simp [run_index_slice (w := w) hu (by omega) h3 h4, add_at, hs]
        · rw [getAt_app, k3]; simp only [getAt, hg]
    · rename_i sz xs e
      obtain ⟨h1, h2, hz, h3, h4, h5⟩ := h
      obtain ⟨el, hu, hs, _⟩ := kind1 h1
      obtain ⟨r, _, _⟩ := src_sls R hx e
      simp only [RepC] at r
      obtain ⟨⟨A, cap, m, r1, r2, r3, r4, r5⟩, _⟩ := r
      have hn : n.toNat < xs.length := by omega
      obtain ⟨ad, rfl, r6, r7⟩ := r5 (by omega)
      have hv : a.eval x = .slice (some ad) xs.length cap := by simpa using r1
      have re := read_elem r3 r4 r6 r7 hn
      rw [h2] at hs
      refine ⟨_, .pointer (some (ad.add (n.toNat * sz))), h5, ?_, by simpa only [RepW] using re, trivial⟩
      rw [hv]
      simp [run_index_slice (w := w) hu (by omega) h3 h4, hs]
    · rename_i s p sz xs e
      obtain ⟨h1, h2, hz, h2', h3, h4, h5⟩ := h
      obtain ⟨el, hu, hs, _⟩ := kind2 h1
      obtain ⟨u, B, o, k1, k2, k3, k4, k5⟩ := src_pto R hx e
      have hn : n.toNat < xs.length := by omega
      have hg : xs[n.toNat]? = some (xs.getD n.toNat .undef) := by simp [List.getD, List.getElem?_eq_getElem hn]
      rw [h2] at hs
      refine ⟨_, .pointer (some ⟨B, o + n.toNat * sz, none⟩), h5, ?_, by simp only [RepW]; exact emp_false, u, xs.getD n.toNat .undef, B, o + n.toNat * sz, k1, ?_, ?_, rfl⟩
      · rw [k5]
        simp [run_index_arr (w := w) hu (by omega) h3 (by omega), add_at, hs]
      · rw [getAt_app, k3]; simp only [getAt, hg]
      · rw [adrV_app p _ _ k3 k4]; simp only [adr, hg]
    · rename_i sz xs e
      obtain ⟨h1, h2, hz, h2', h3, h4, h5⟩ := h
      obtain ⟨el, hu, hs, _⟩ := kind2 h1
      have r := src_pts R hx e
      simp only [RepC] at r
      obtain ⟨⟨ad, m, r1, ⟨r2, r2'⟩, r3, r4⟩, _⟩ := r
      have hn : n.toNat < xs.length := by omega
      have hv : a.eval x = .pointer (some ad) := by simpa using r1
      have hml := repL_len _ r2
      rw [len_of_uni r2'] at hml
      have re := read_elem r2 r2' (fun hz => r3 (by rw [hml]; exact Nat.mul_pos hz (by omega))) r4 hn
      rw [h2] at hs
      refine ⟨_, .pointer (some (ad.add (n.toNat * sz))), h5, ?_, by simpa only [RepW] using re, trivial⟩
      rw [hv]
      simp [run_index_arr (w := w) hu (by omega) h3 (by omega), hs]
    · exact h.elim
  · exact h.elim

theorem run_loadVar {t : TypeId} {y : AV} {m : List Value} {S O : Nat → Prop} (hr : RepC w.heap S y m O) (hs : y.stor = true ∨ y.isAgg = true) {ad : Addr} (ha : aggTy P t = some y.isAgg) (hz : szOf P t = ncells y)
    (h4 : ∀ (j : Nat) u, m[j]? = some u → cellH w.heap (ad.add j) = some u) :
    ∃ v, (loadVar t ad).run P w = .ok v w ∧ RepW w.heap S y v O ∧ (y.isAgg = true → v = .agg m.toArray) ∧ (y.isAgg = false → m = [v]) := by
  have hl := repC_len _ hr
  obtain ⟨d, hd⟩ : ∃ d, P.underlying t = some d := by
    unfold aggTy at ha
    cases hu : P.underlying t with
    | none => simp [hu] at ha
    | some d => exact ⟨d, rfl⟩
  by_cases hag : y.isAgg = true
  · have hia : (isAgg t).run P w = .ok true w := by
      rw [hag] at ha
      unfold aggTy at ha
      rw [hd] at ha
      cases d <;> simp_all [isAgg, run_under hd]
    refine ⟨.agg m.toArray, ?_, repW_of_C hr hag, fun _ => rfl, fun h => by simp [hag] at h⟩
    have hlc := run_loadCells_list (P := P) (w := w) ad m (fun j v hv => by rw [cell_eq]; exact h4 j v hv)
    cases hn : ncells y with
    | zero =>
      have hm : m = [] := List.eq_nil_of_length_eq_zero (by omega)
      subst hm
      have hsz : (sizeOf t).run P w = .ok 0 w := by
        have : szOf P t = 0 := by omega
        unfold szOf at this
        cases hi : P.info? t with
        | none => unfold Program.underlying at hd; simp [hi] at hd
        | some i => simp only [hi] at this; simp [sizeOf, typeInfo, hi, this]
      simp [loadVar, hia, hsz, loadCells, loadCellsFrom]
    | succ n =>
      have hsz : (sizeOf t).run P w = .ok m.length w := by rw [run_size (by omega), hz, hl]
      simp [loadVar, hia, hsz, hlc]
  · have hag' : y.isAgg = false := by simpa using hag
    have hia : (isAgg t).run P w = .ok false w := by
      rw [hag'] at ha
      unfold aggTy at ha
      rw [hd] at ha
      cases d <;> simp_all [isAgg, run_under hd]
    have h1 : ncells y = 1 := by cases y <;> simp_all [AV.isAgg, ncells]
    obtain ⟨v, rfl⟩ := List.length_eq_one_iff.1 (hl.trans h1)
    have hc := h4 0 v rfl
    refine ⟨v, ?_, repW_of_C1 hr hag', fun h => by simp [hag'] at h, fun _ => rfl⟩
    have hadd : ad.add 0 = ad := rfl
    rw [hadd, ← cell_eq] at hc
    simp [loadVar, hia, hc]
end
end Go.Proofs.Ytklmfpikhejemaa.Am

namespace Go.Proofs.Ytklmfpikhejemaa.Am
open Go.RowKit AV
set_option linter.unusedVariables false

section
variable {P : Program} {h0 : Array Obj} {ok O0 : Nat → Prop} {σ : St} {a : Act} {w : World} {Os : Nat → Nat → Prop}

theorem At_add {h : Array Obj} {B o : Nat} {cs : List Value} (H : At h B o cs) : ∀ (j : Nat) u, cs[j]? = some u → cellH h ((⟨B, o, none⟩ : Addr).add j) = some u := by
  intro j u hu
  rw [add_at]; exact H j u hu

theorem sim_load (R : Rel h0 ok O0 σ a.tmps w.heap Os) {x : Operand} (hx : opndOk a.tmps.size x = true) {t : TypeId} {K : AV → Prop} (h : loadW P σ t x K) :
    PureOk P σ ok Os a.tmps w (do pure (.value (← Instr.loadAt t (a.eval x)))) K := by
  unfold loadW at h
  split at h
  · rename_i s p y e
    obtain ⟨h1, h2, h3⟩ := h
    rw [(tinfo_base t).2.1] at h1
    rw [(tinfo_base t).1] at h2
    obtain ⟨u, B, o, k1, k2, k3, k4, k5⟩ := src_pto R hx e
    have r' := repC_of_get (y := y) k2 k4
    obtain ⟨cy, Oy, Ob, q1, q2, q3, q4, q5, q6, _⟩ := placeV p _ r' k3 k4
    unfold needW loaded at h3
    by_cases hp : plain y = true
    · simp only [hp, if_true] at h3
      have hst : y.stor = true ∧ K y := by
        cases y <;> first | exact ⟨rfl, h3⟩ | (simp at h3; done) | (simp [plain] at hp; done)
      have hemp := repC_plain _ q1 hp
      obtain ⟨v, l1, l2, _, _⟩ := run_loadVar (P := P) (repC_cong _ q1 (O' := fun _ => False) (fun k => ⟨False.elim, fun hk => (hemp k hk).elim⟩)) (.inl hst.1) h1 h2 (At_add q2)
      exact ⟨y, v, hst.2, by simp [k5, Instr.loadAt, Instr.sureAddr, l1], l2, aliasOk_none (plain_target hp)⟩
    · simp only [hp] at h3
      by_cases hh : y.hdr = true
      · simp only [hh, if_true] at h3
        have hst : y.stor = true := by cases y <;> simp_all [AV.hdr, AV.stor]
        have hag : y.isAgg = false := by cases y <;> simp_all [AV.hdr, AV.isAgg]
        obtain ⟨v, l1, l2, _, l4⟩ := run_loadVar (P := P) q1 (.inl hst) h1 h2 (At_add q2)
        have hm := l4 hag
        subst hm
        refine ⟨.vref s p, v, by simpa using h3, by simp [k5, Instr.loadAt, Instr.sureAddr, l1], by simp only [RepW]; exact emp_false, u, y, k1, k3, hh, .inr ⟨B, o, k4, ?_⟩⟩
        have := q2 0 _ rfl
        simpa using this
      · simp only [hh] at h3
        by_cases hag : y.isAgg = true
        · simp only [hag, if_true] at h3
          obtain ⟨v, l1, l2, l3, _⟩ := run_loadVar (P := P) q1 (.inr hag) h1 h2 (At_add q2)
          refine ⟨.vagg s p, v, by simpa using h3, by simp [k5, Instr.loadAt, Instr.sureAddr, l1], by simp only [RepW]; exact emp_false, u, y, B, o, cy.toArray, k1, k3, hag, k4, l3 hag, by simpa using q2, ?_⟩
          have := repC_len _ q1
          simpa using this
        · simp [hag] at h3
  · rename_i y e
    obtain ⟨h1, h2, h3⟩ := h
    rw [(tinfo_base t).2.1] at h1
    rw [(tinfo_base t).1] at h2
    have r := src_pts R hx e
    simp only [RepC] at r
    obtain ⟨⟨ad, m, r1, r2, r3, r4⟩, _⟩ := r
    have hv : a.eval x = .pointer (some ad) := by simpa using r1
    unfold needW at h3
    by_cases hp : plain y = true
    · simp only [hp, if_true] at h3
      have hst : y.stor = true ∧ K y := by
        cases y <;> first | exact ⟨rfl, h3⟩ | (simp at h3; done) | (simp [plain] at hp; done)
      obtain ⟨v, l1, l2, _, _⟩ := run_loadVar (P := P) r2 (.inl hst.1) h1 h2 r4
      exact ⟨y, v, hst.2, by simp [hv, Instr.loadAt, Instr.sureAddr, l1], l2, aliasOk_none (plain_target hp)⟩
    · simp [hp] at h3
  · exact h.elim

theorem slo_val {s : Nat} {p : List Nat} {sz : Nat} {xs : List AV} {u v : Value} (hr : RepW w.heap (Sh ok Os) (look σ s) u (Os s)) (hg : getAt (look σ s) p = some (.sl true sz xs)) (hv : ValAt w.heap (look σ s) u p v) :
    (v = .slice none 0 0 ∧ xs = []) ∨ ∃ b c, v = .slice (some ⟨b, 0, none⟩) xs.length c := by
  obtain ⟨⟨Oy, r, _⟩, _⟩ := slo_rep hr hg hv
  simp only [RepC] at r
  rcases r with ⟨r1, r2, _⟩ | ⟨hsz, b, c, te, cap, O1, r1, r2, _⟩
  · exact .inl ⟨by simpa using r2, r1⟩
  · exact .inr ⟨b, cap, by simpa using r1⟩

theorem sim_len (R : Rel h0 ok O0 σ a.tmps w.heap Os) {x : Operand} (hx : opndOk a.tmps.size x = true) {t ty : TypeId} {ts : Array TypeId} {K : AV → Prop} (h : lenW σ P t x K) (h0t : ts[0]? = some t) :
    PureOk P σ ok Os a.tmps w (do pure (.value (← Builtin.len_ ts ty #[a.eval x]))) K := by
  unfold lenW at h
  split at h
  · rename_i s p sz xs e
    obtain ⟨h1, h2⟩ := h
    obtain ⟨el, hu, _⟩ := kind1 h1
    obtain ⟨u, k1, k2, k3, k4⟩ := src_slo R hx e
    refine ⟨_, .int .i64 xs.length, h2, ?_, scal_int _ _ _ _, trivial⟩
    rcases slo_val k2 k3 k4 with ⟨hv, rfl⟩ | ⟨b, c, hv⟩ <;> simp [Builtin.len_, h0t, hv, run_under hu, goInt]
  · rename_i sz xs e
    obtain ⟨h1, h2⟩ := h
    obtain ⟨el, hu, _⟩ := kind1 h1
    obtain ⟨r, _, _⟩ := src_sls R hx e
    simp only [RepC] at r
    obtain ⟨⟨A, cap, m, r1, _⟩, _⟩ := r
    have hv : a.eval x = .slice A xs.length cap := by simpa using r1
    exact ⟨_, .int .i64 xs.length, h2, by simp [Builtin.len_, h0t, hv, run_under hu, goInt], scal_int _ _ _ _, trivial⟩
  · rename_i s e
    obtain ⟨h1, h2⟩ := h
    obtain ⟨r, e2, _⟩ := src_va R hx e
    have hv := ev_str R hx e2.symm
    refine ⟨_, .int .i64 s.length, h2, ?_, scal_int _ _ _ _, trivial⟩
    have hsz : (⟨s.toArray⟩ : ByteArray).size = s.length := by simp only [ByteArray.size, List.size_toArray]
    simp [Builtin.len_, h0t, hv, run_under (kind4 h1), goInt, hsz]
  · exact h.elim

theorem sim_index (R : Rel h0 ok O0 σ a.tmps w.heap Os) {x i : Operand} (hx : opndOk a.tmps.size x = true) (hi : opndOk a.tmps.size i = true) {t : TypeId} {K : AV → Prop} (h : indexW P σ t x i K) :
    PureOk P σ ok Os a.tmps w (do pure (.value (← Instr.index t (a.eval x) (a.eval i)))) K := by
  unfold indexW at h
  split at h
  · rename_i k n ei
    rw [ev_int R hi ei]
    split at h
    · rename_i s e
      obtain ⟨h1, h2, h3, h4⟩ := h
      have hv := ev_str R hx e
      have hn : n.toNat < s.length := by omega
      refine ⟨_, .int .u8 (s.getD n.toNat 0).toNat, h4, ?_, scal_int _ _ _ _, trivial⟩
      have hb : (if 0 ≤ n then (⟨s.toArray⟩ : ByteArray)[n.toNat]? else none) = some (s.getD n.toNat 0) := by
        rw [if_pos h2]
        have hlt : n.toNat < (⟨s.toArray⟩ : ByteArray).size := by simpa [ByteArray.size] using hn
        rw [getElem?_pos (⟨s.toArray⟩ : ByteArray) n.toNat hlt]
        simp [List.getD, List.getElem?_eq_getElem hn, ByteArray.getElem_eq_getElem_data]
      simp only [Instr.index, asIntOf, hv, Sem.run_bind, run_under (kind4 h1), Result.andThen_ok, Sem.run_pure, hb]
    · rename_i sz xs e
      obtain ⟨hpl, h1, h2, hz, h2', hall, h3, h4, h5⟩ := h
      obtain ⟨el, hu, hs, hag, _⟩ := kind2 h1
      have hr := (ev_rep R hx).1
      rw [e] at hr
      simp only [RepW] at hr
      obtain ⟨cs, hv, hr⟩ := hr
      have hn : n.toNat < xs.length := by omega
      have hg : xs[n.toNat]? = some (xs.getD n.toNat .undef) := by simp [List.getD, List.getElem?_eq_getElem hn]
      have hmem := List.mem_of_getElem? hg
      simp only [RepC] at hr
      obtain ⟨hr, hun⟩ := hr
      obtain ⟨m1, cy, m2, Oy, Ob, g1, g2, g3, g4, g5, g6⟩ := repL_at xs _ _ hr hg
      rw [uni_take hun (by omega)] at g2
      have hl := repC_len _ g3
      rw [hun _ hmem] at hl
      have hpy : plain (xs.getD n.toNat .undef) = true := by
        rw [plainL_all, List.all_eq_true] at hpl
        exact hpl _ hmem
      have hemp := repC_plain _ g3 hpy
      have g3' := repC_cong _ g3 (O' := fun _ => False) (fun k => ⟨False.elim, fun hk => (hemp k hk).elim⟩)
      rw [h2] at hs
      have hi0 : (0 : Int) ≤ n ∧ n < ((tinfo P t).alen : Int) := ⟨h3, by omega⟩
      have hag2 := (hall _ hmem).1
      rw [hag.symm] at hag2
      obtain ⟨d, hd⟩ : ∃ d, P.underlying el = some d := by
        unfold aggTy at hag2
        cases hu2 : P.underlying el with
        | none => simp [hu2] at hag2
        | some d => exact ⟨d, rfl⟩
      by_cases hA : (xs.getD n.toNat .undef).isAgg = true
      · have hia : (isAgg el).run P w = .ok true w := by
          rw [hA] at hag2
          unfold aggTy at hag2
          rw [hd] at hag2
          cases d <;> simp_all [isAgg, run_under hd]
        refine ⟨_, .agg cy.toArray, h5, ?_, repW_of_C g3' hA, aliasOk_none (plain_target hpy)⟩
        have hx2 : cs.extract (n.toNat * sz) (n.toNat * sz + sz) = cy.toArray := by
          apply Array.toList_inj.1
          simp only [Array.toList_extract, List.extract_eq_take_drop]
          rw [g1, List.append_assoc, List.drop_append_of_le_length (by omega), List.drop_of_length_le (by omega)]
          simp [hl.symm]
        simp [Instr.index, asIntOf, hv, run_under hu, hi0, run_size (P := P) (w := w) (t := el) (by omega), part, hia, hs, hx2]
      · have hA' : (xs.getD n.toNat .undef).isAgg = false := by simpa using hA
        have hia : (isAgg el).run P w = .ok false w := by
          rw [hA'] at hag2
          unfold aggTy at hag2
          rw [hd] at hag2
          cases d <;> simp_all [isAgg, run_under hd]
        have h1c : ncells (xs.getD n.toNat .undef) = 1 := by
          generalize xs.getD n.toNat .undef = z at hA'
          cases z <;> simp_all [AV.isAgg, ncells]
        obtain ⟨v, rfl⟩ := List.length_eq_one_iff.1 ((repC_len _ g3).trans h1c)
        refine ⟨_, v, h5, ?_, repW_of_C1 g3' hA', aliasOk_none (plain_target hpy)⟩
        have hx2 : cs[n.toNat * sz]? = some v := by
          rw [← Array.getElem?_toList, g1, List.append_assoc, List.getElem?_append_right (by omega)]
          simp [g2]
        simp [Instr.index, asIntOf, hv, run_under hu, hi0, run_size (P := P) (w := w) (t := el) (by omega), part, hia, hs, hx2]
    · exact h.elim
  · exact h.elim

theorem sim_conv (R : Rel h0 ok O0 σ a.tmps w.heap Os) {x : Operand} (hx : opndOk a.tmps.size x = true) {src dst : TypeId} {K : AV → Prop} (h : convW P σ src dst x K) :
    PureOk P σ ok Os a.tmps w (do pure (.value (← convert src dst (a.eval x)))) K := by
  unfold convW at h
  split at h
  · rename_i k0 n e
    rw [ev_int R hx e]
    split at h
    · rename_i k hd
      obtain ⟨h1, h2⟩ := h
      obtain ⟨k1, hs⟩ := kind5 h1
      refine ⟨_, .int k (k.wrap n), h2, ?_, scal_int _ _ _ _, trivial⟩
      simp [convert, run_under hs, run_under hd, Conv.intToInt]
    · exact h.elim
  · exact h.elim

theorem sim_sliceStr (R : Rel h0 ok O0 σ a.tmps w.heap Os) {x : Operand} (hx : opndOk a.tmps.size x = true) {lo hi : Option Operand} (hlo : ∀ l, lo = some l → opndOk a.tmps.size l = true) (hhi : ∀ l, hi = some l → opndOk a.tmps.size l = true) {t : TypeId} {K : AV → Prop} (h : sliceStrW P σ t x lo hi K) :
    PureOk P σ ok Os a.tmps w (do pure (.value (← Instr.sliceAt t (a.eval x) (lo.map a.eval) (hi.map a.eval) none))) K := by
  unfold sliceStrW at h
  split at h
  · rename_i s e
    obtain ⟨h1, h⟩ := h
    have hv := ev_str R hx e
    split at h
    · rename_i l hh e1 e2
      obtain ⟨h2, h3, h4, h5⟩ := h
      refine ⟨_, .string ⟨((s.take hh.toNat).drop l.toNat).toArray⟩, h5, ?_, scal_str _ _ _, trivial⟩
      have hsz : (⟨s.toArray⟩ : ByteArray).size = s.length := by simp [ByteArray.size]
      have hext : (⟨s.toArray⟩ : ByteArray).extract l.toNat hh.toNat = ⟨((s.take hh.toNat).drop l.toNat).toArray⟩ := by
        apply ByteArray.ext
        simp only [ByteArray.data_extract]
        apply Array.toList_inj.1
        simp [List.extract_eq_take_drop, List.drop_take]
      rw [← hext]
      cases lo with
      | none =>
        simp only [Option.some.injEq] at e1
        subst e1
        cases hi with
        | none =>
          simp only [Option.some.injEq] at e2
          subst e2
          rw [hext]
          simp [Instr.sliceAt, Instr.slice, Instr.sliceBounds, run_under (kind4 h1), hv]
        | some y =>
          simp only at e2
          split at e2
          · rename_i k m em
            cases e2
            have h2' : 0 ≤ hh ∧ hh ≤ (s.length : Int) := ⟨by omega, h4⟩
            simp [Instr.sliceAt, Instr.slice, Instr.sliceBounds, Instr.sliceBound, run_under (kind4 h1), hv, hsz, ev_int R (hhi y rfl) em, asIntOf, h2']
          · cases e2
      | some z =>
        simp only at e1
        split at e1
        · rename_i k0 m0 em0
          cases e1
          cases hi with
          | none =>
            simp only [Option.some.injEq] at e2
            subst e2
            have h2' : 0 ≤ l ∧ l ≤ (s.length : Int) := ⟨h2, by omega⟩
            simp [Instr.sliceAt, Instr.slice, Instr.sliceBounds, Instr.sliceBound, run_under (kind4 h1), hv, hsz, ev_int R (hlo z rfl) em0, asIntOf, h2']
          | some y =>
            simp only at e2
            split at e2
            · rename_i k m em
              cases e2
              have h2' : 0 ≤ hh ∧ hh ≤ (s.length : Int) := ⟨by omega, h4⟩
              have h2'' : 0 ≤ l ∧ l ≤ max hh 0 := ⟨h2, by omega⟩
              simp [Instr.sliceAt, Instr.slice, Instr.sliceBounds, Instr.sliceBound, run_under (kind4 h1), hv, hsz, ev_int R (hhi y rfl) em, ev_int R (hlo z rfl) em0, asIntOf, h2', h2'']
            · cases e2
        · cases e1
    · exact h.elim
  · exact h.elim
end
end Go.Proofs.Ytklmfpikhejemaa.Am

namespace Go.Proofs.Ytklmfpikhejemaa.Am
open Go.RowKit AV
set_option linter.unusedVariables false

/-- The one who holds the word for a value becomes its owner. -/
def pull (σ : St) : Operand → St
  | .tmp t => (match look σ t with
    | .vref s p => (match p with
      | [] => upd σ [(t, look σ s), (s, .undef)]
      | i :: p => (match getAt (look σ s) (i :: p) with | some y => upd σ [(t, y), (s, setAt (look σ s) (i :: p) .undef)] | none => σ))
    | .vagg s p => (match getAt (look σ s) p with | some y => if 0 < ncells y then upd σ [(t, y), (s, setAt (look σ s) p (dead y))] else σ | none => σ)
    | _ => σ)
  | _ => σ

theorem wrote_same {W : Nat → Prop} {h : Array Obj} {B o : Nat} {cy : List Value} (H : At h B o cy) (hl : 0 < cy.length) : Wrote W h h B o cy := by
  refine ⟨fun _ _ _ => rfl, ?_⟩
  have hc := H 0 _ (List.getElem?_eq_getElem hl)
  simp only [cellH] at hc
  cases hb : h[B]? with
  | none => simp [hb] at hc
  | some ob =>
    cases ob with
    | cells c e fr =>
      have hall : ∀ j u, cy[j]? = some u → c[o + j]? = some u := by
        intro j u hu
        have := H j u hu
        simpa [cellH, hb] using this
      refine ⟨c, c, e, fr, rfl, rfl, rfl, ?_, fun j => ?_⟩
      · have := hall (cy.length - 1) _ (List.getElem?_eq_getElem (by omega))
        have := (Array.getElem?_eq_some_iff.1 this).1
        omega
      · split
        · rename_i hj
          have hlt : j - o < cy.length := by omega
          have := hall (j - o) _ (List.getElem?_eq_getElem hlt)
          rw [show o + (j - o) = j by omega] at this
          rw [this, List.getElem?_eq_getElem hlt]
        · rfl
    | _ => simp [hb] at hc

def setO (Os : Nat → Nat → Prop) (t : Nat) (O : Nat → Prop) : Nat → Nat → Prop := fun s => if s = t then O else Os s
theorem setO_same (Os : Nat → Nat → Prop) (t : Nat) (O : Nat → Prop) : setO Os t O t = O := by simp [setO]
theorem setO_ne (Os : Nat → Nat → Prop) {t s : Nat} (O : Nat → Prop) (h : s ≠ t) : setO Os t O s = Os s := by simp [setO, h]

section
variable {h0 : Array Obj} {ok O0 : Nat → Prop} {σ : St} {tm : Array Value} {h : Array Obj} {Os : Nat → Nat → Prop}

/-- Some slots are told anew; nothing has turned. -/
theorem Rel.ghost2 (R : Rel h0 ok O0 σ tm h Os) {t s : Nat} (hts : t ≠ s) (yt ys : AV) (Ot Ob : Nat → Prop) {ut us : Value} (ht : tm[t]? = some ut) (hs : tm[s]? = some us)
    (hU : ∀ k, (Os t k ∨ Os s k) ↔ (Ot k ∨ Ob k)) (hD : ∀ k, Ot k → ¬ Ob k)
    (rt : RepW h (Sh ok Os) yt ut Ot) (rs : RepW h (Sh ok Os) ys us Ob) (at_ : yt.target = none) (as_ : ys.target = none) :
    Rel h0 ok O0 (upd σ [(t, yt), (s, ys)]) tm h (setO (setO Os s Ob) t Ot) := by
  have hsh : ∀ k, Sh ok (setO (setO Os s Ob) t Ot) k ↔ Sh ok Os k := by
    intro k
    have : (∃ r, setO (setO Os s Ob) t Ot r k) ↔ ∃ r, Os r k := by
      constructor
      · rintro ⟨r, hr⟩
        by_cases h1 : r = t
        · subst h1
          rw [setO_same] at hr
          rcases (hU k).2 (.inl hr) with hh | hh
          · exact ⟨_, hh⟩
          · exact ⟨_, hh⟩
        · rw [setO_ne _ _ h1] at hr
          by_cases h2 : r = s
          · subst h2
            rw [setO_same] at hr
            rcases (hU k).2 (.inr hr) with hh | hh
            · exact ⟨_, hh⟩
            · exact ⟨_, hh⟩
          · rw [setO_ne _ _ h2] at hr
            exact ⟨r, hr⟩
      · rintro ⟨r, hr⟩
        by_cases h1 : r = t ∨ r = s
        · have : Ot k ∨ Ob k := (hU k).1 (by rcases h1 with rfl | rfl <;> simp [hr])
          rcases this with hh | hh
          · exact ⟨t, by rw [setO_same]; exact hh⟩
          · exact ⟨s, by rw [setO_ne _ _ (Ne.symm hts), setO_same]; exact hh⟩
        · simp only [not_or] at h1
          exact ⟨r, by rw [setO_ne _ _ h1.1, setO_ne _ _ h1.2]; exact hr⟩
    simp only [Sh, ← not_exists, this]
  have hag : ∀ O : Nat → Prop, Agree h h (Sh ok Os) (Sh ok (setO (setO Os s Ob) t Ot)) O := fun O => ⟨fun k hk _ => ⟨(hsh k).2 hk, rfl⟩, fun _ _ => rfl⟩
  have hother : ∀ r, r ∉ keys [(t, yt), (s, ys)] → setO (setO Os s Ob) t Ot r = Os r := by
    intro r hr
    simp only [keys, List.mem_cons, List.not_mem_nil, or_false, not_or] at hr
    rw [setO_ne _ _ hr.1, setO_ne _ _ hr.2]
  have hO : ∀ r k, setO (setO Os s Ob) t Ot r k → (r = t ∧ Ot k) ∨ (r = s ∧ Ob k) ∨ (r ≠ t ∧ r ≠ s ∧ Os r k) := by
    intro r k hr
    by_cases h1 : r = t
    · subst h1; rw [setO_same] at hr; exact .inl ⟨rfl, hr⟩
    · rw [setO_ne _ _ h1] at hr
      by_cases h2 : r = s
      · subst h2; rw [setO_same] at hr; exact .inr (.inl ⟨rfl, hr⟩)
      · rw [setO_ne _ _ h2] at hr; exact .inr (.inr ⟨h1, h2, hr⟩)
  have hlt : t < tm.size := (Array.getElem?_eq_some_iff.1 ht).1
  have hls : s < tm.size := (Array.getElem?_eq_some_iff.1 hs).1
  refine R.step [(t, yt), (s, ys)] tm h _ rfl (fun _ _ => rfl) (fun r hr k => by rw [hother r hr]) (fun _ _ _ _ => rfl) (fun k _ hk => ⟨((hsh k).2 hk).2, rfl⟩) ?_ ?_ ?_ ?_ ?_ (Nat.le_refl _) (fun _ _ _ => rfl)
  · intro r hr v hv
    simp only [keys, List.mem_cons, List.not_mem_nil, or_false] at hr
    by_cases h1 : r = t
    · subst h1
      rw [ht] at hv; cases hv
      simp only [look, if_true, setO_same]
      exact repW_mono _ rt (hag _)
    · have h2 : r = s := hr.resolve_left h1
      subst h2
      rw [hs] at hv; cases hv
      simp only [look, if_neg (Ne.symm h1), if_true, setO_ne _ _ h1, setO_same]
      exact repW_mono _ rs (hag _)
  · intro r hr hge
    simp only [keys, List.mem_cons, List.not_mem_nil, or_false] at hr
    rcases hr with rfl | rfl <;> omega
  · intro r1 r2 k h1 h2
    rcases hO r1 k h1 with ⟨rfl, g1⟩ | ⟨rfl, g1⟩ | ⟨a1, a2, g1⟩ <;> rcases hO r2 k h2 with ⟨rfl, g2⟩ | ⟨rfl, g2⟩ | ⟨b1, b2, g2⟩
    · rfl
    · exact absurd g2 (hD k g1)
    · exfalso
      rcases (hU k).2 (.inl g1) with hh | hh
      · exact b1 (R.dis _ _ k g2 hh)
      · exact b2 (R.dis _ _ k g2 hh)
    · exact absurd g1 (hD k g2)
    · rfl
    · exfalso
      rcases (hU k).2 (.inr g1) with hh | hh
      · exact b1 (R.dis _ _ k g2 hh)
      · exact b2 (R.dis _ _ k g2 hh)
    · exfalso
      rcases (hU k).2 (.inl g2) with hh | hh
      · exact a1 (R.dis _ _ k g1 hh)
      · exact a2 (R.dis _ _ k g1 hh)
    · exfalso
      rcases (hU k).2 (.inr g2) with hh | hh
      · exact a1 (R.dis _ _ k g1 hh)
      · exact a2 (R.dis _ _ k g1 hh)
    · exact R.dis _ _ k g1 g2
  · intro r _ k hk
    rcases hO r k hk with ⟨rfl, g1⟩ | ⟨rfl, g1⟩ | ⟨_, _, g1⟩
    · rcases (hU k).2 (.inl g1) with hh | hh
      · exact R.own _ k hh
      · exact R.own _ k hh
    · rcases (hU k).2 (.inr g1) with hh | hh
      · exact R.own _ k hh
      · exact R.own _ k hh
    · exact R.own _ k g1
  · intro r hr v _
    simp only [keys, List.mem_cons, List.not_mem_nil, or_false] at hr
    by_cases h1 : r = t
    · subst h1; simp only [look, if_true]; exact aliasOk_none at_
    · have h2 : r = s := hr.resolve_left h1
      subst h2; simp only [look, if_neg (Ne.symm h1), if_true]; exact aliasOk_none as_

theorem setAt_target {x : AV} {i : Nat} {p : List Nat} {y : AV} (h : x.target = none) : (setAt x (i :: p) y).target = none := by
  cases x with
  | box x => by_cases hi : i = 0 <;> simp [setAt, hi, AV.target]
  | _ => first | rfl | (simp [AV.target] at h)
theorem dead_target {x : AV} (h : x.target = none) : (dead x).target = none := by
  cases x with
  | sl own sz xs => cases own <;> rfl
  | _ => first | rfl | (simp [AV.target] at h)

theorem setAt_noagg {h : Array Obj} {x : AV} {v : Value} {i : Nat} {p : List Nat} {q : Nat × Nat} (ha : adrV h (i :: p) x v = some q) (y : AV) : (setAt x (i :: p) y).isAgg = false := by
  cases x with
  | box x => by_cases hi : i = 0 <;> simp [setAt, hi, AV.isAgg]
  | sl own sz xs => rfl
  | _ => simp [adrV] at ha

theorem pull_ok (R : Rel h0 ok O0 σ tm h Os) (x : Operand) (hx : opndOk tm.size x = true) : ∃ Os', Rel h0 ok O0 (pull σ x) tm h Os' := by
  cases x with
  | tmp t =>
    simp only [pull]
    cases ht : tm[t]? with
    | none =>
      have h1 : t < tm.size := by simpa [opndOk] using hx
      have h2 := Array.getElem?_eq_none_iff.1 ht
      exact absurd h1 (Nat.not_lt.2 h2)
    | some v =>
      split
      · rename_i s p e
        have ha := R.ali t v ht
        rw [e] at ha
        obtain ⟨u, y, h1, h2, h3, h4⟩ := ha
        have hts : t ≠ s := by
          intro hh; subst hh
          rw [e] at h2
          cases p <;> simp [getAt] at h2
          subst h2; simp [AV.hdr] at h3
        have hOt : Emp (Os t) := by
          have := R.rep t v ht
          rw [e] at this
          simpa only [RepW] using this
        have hyn : y.target = none := by cases y <;> simp_all [AV.hdr, AV.target]
        have hxn := tgt_get h2 hyn
        split
        · rcases h4 with ⟨_, rfl⟩ | ⟨B, o, h5, _⟩
          · refine ⟨_, R.ghost2 hts _ .undef (Os s) (fun _ => False) ht h1 ?_ (by simp) (R.rep s v h1) (by simp only [RepW]; exact emp_false) hxn rfl⟩
            intro k; have := hOt k; simp [this]
          · simp [adrV] at h5
        · rename_i i p
          simp only [h2]
          rcases h4 with ⟨h4, _⟩ | ⟨B, o, h5, h6⟩
          · cases h4
          · have r' := repC_of_get (y := y) (R.rep s u h1) h5
            obtain ⟨cy, Oy, Ob, q1, q2, q3, q4, q5, q6, q7⟩ := placeV _ _ r' h2 h5
            have hl := repC_len _ q1
            have h1c : ncells y = 1 := by cases y <;> simp_all [AV.hdr, ncells]
            obtain ⟨v', rfl⟩ := List.length_eq_one_iff.1 (hl.trans h1c)
            have hc := q2 0 _ rfl
            rw [Nat.add_zero, h6] at hc
            injection hc with hc
            subst hc
            have hag : y.isAgg = false := by cases y <;> simp_all [AV.hdr, AV.isAgg]
            have hb := q7 (fun _ => True) h (Sh ok Os) .undef [v] (fun _ => False) (wrote_same q2 (by simp)) (fun _ _ => trivial) rfl (by simp only [RepC]; exact ⟨⟨v, rfl, repC_one _ q1 v (by simp)⟩, emp_false⟩) (fun k hk _ => ⟨hk, rfl⟩) (by simp)
            have hst : RepW h (Sh ok Os) (setAt (look σ s) (i :: p) .undef) u Ob := by
              have hb' := repC_cong _ hb (O' := Ob) (fun k => by simp)
              exact repW_of_C1 hb' (setAt_noagg h5 _)
            refine ⟨_, R.ghost2 hts _ _ Oy Ob ht h1 ?_ q4 (repW_of_C1 q1 hag) hst hyn (setAt_target hxn)⟩
            intro k; have := hOt k; simp [this, q3 k]
      · rename_i s p e
        have ha := R.ali t v ht
        rw [e] at ha
        obtain ⟨u, y, B, o, cs, h1, h2, h3, h4, h5, h6, h7⟩ := ha
        simp only [h2]
        split
        · rename_i hpos
          have hts : t ≠ s := by
            intro hh; subst hh
            rw [e] at h4
            cases p <;> simp [adrV] at h4
          have hOt : Emp (Os t) := by
            have := R.rep t v ht
            rw [e] at this
            simpa only [RepW] using this
          have hyn : y.target = none := by cases y <;> simp_all [AV.isAgg, AV.target]
          have hxn := tgt_get h2 hyn
          have r' := repC_of_get (y := y) (R.rep s u h1) h4
          obtain ⟨cy, Oy, Ob, q1, q2, q3, q4, q5, q6, q7⟩ := placeV _ _ r' h2 h4
          have hl := repC_len _ q1
          have hcl : cs.toList.length = cy.length := by simpa using h7.trans hl.symm
          have hcs : cs.toList = cy := by
            apply List.ext_getElem?
            intro j
            by_cases hj : j < cy.length
            · have a1 := q2 j _ (List.getElem?_eq_getElem hj)
              have hj2 : j < cs.toList.length := by omega
              have a2 := h6 j _ (List.getElem?_eq_getElem hj2)
              rw [a2] at a1
              rw [List.getElem?_eq_getElem hj, List.getElem?_eq_getElem hj2, a1]
            · rw [List.getElem?_eq_none (by omega), List.getElem?_eq_none (by omega)]
          have hb := q7 (fun _ => True) h (Sh ok Os) (dead y) cy (fun _ => False) (wrote_same q2 (by omega)) (fun _ _ => trivial) rfl (repC_dead _ q1) (fun k hk _ => ⟨hk, rfl⟩) (by simp)
          have hp : ∃ i p', p = i :: p' := by
            cases p with
            | nil => simp [adrV] at h4
            | cons i p' => exact ⟨i, p', rfl⟩
          obtain ⟨i, p', rfl⟩ := hp
          have hst : RepW h (Sh ok Os) (setAt (look σ s) (i :: p') (dead y)) u Ob := by
            have hb' := repC_cong _ hb (O' := Ob) (fun k => by simp)
            exact repW_of_C1 hb' (setAt_noagg h4 _)
          have hv : v = .agg cy.toArray := by rw [h5, ← hcs]
          refine ⟨_, R.ghost2 hts _ _ Oy Ob ht h1 ?_ q4 (by rw [hv]; exact repW_of_C q1 h3) hst hyn (setAt_target hxn)⟩
          intro k; have := hOt k; simp [this, q3 k]
        · exact ⟨Os, R⟩
      · exact ⟨Os, R⟩
  | _ => exact ⟨Os, R⟩
end
end Go.Proofs.Ytklmfpikhejemaa.Am

namespace Go.Proofs.Ytklmfpikhejemaa.Am
open Go.RowKit AV
set_option linter.unusedVariables false

def wipe (used : List Nat) : St := used.map fun t => (t, .undef)
theorem keys_wipe (used : List Nat) : keys (wipe used) = used := by
  induction used with
  | nil => rfl
  | cons a u ih => simp only [wipe, List.map_cons, keys] at *; rw [ih]
theorem look_wipe (used : List Nat) (k : Nat) : look (wipe used) k = .undef := by
  induction used with
  | nil => rfl
  | cons a u ih => simp only [wipe, List.map_cons, look] at *; split <;> simp [ih]

def put (σ : St) (d : Nat) (y : AV) (used : List Nat) : St := upd σ ((d, y) :: wipe used)

section
variable {h0 : Array Obj} {ok O0 : Nat → Prop} {σ : St} {tm : Array Value} {h : Array Obj} {Os : Nat → Nat → Prop}

/-- Owners behind a result: what was used up owns nothing more. -/
def ownR (Os : Nat → Nat → Prop) (d : Nat) (Od : Nat → Prop) (used : List Nat) : Nat → Nat → Prop := fun t => if t = d then Od else if t ∈ used then (fun _ => False) else Os t

/-- A result for slot d; some slots are used up for it; nothing but what they owned has turned, and what is new. -/
theorem Rel.result (R : Rel h0 ok O0 σ tm h Os) (d : Nat) (y : AV) (v : Value) (used : List Nat) (h' : Array Obj) (Od : Nat → Prop)
    (hd : d < tm.size)
    (hsize : h.size ≤ h'.size) (hh : ∀ k, k < h.size → (∀ t ∈ used, ¬ Os t k) → h'[k]? = h[k]?)
    (hO : ∀ k, Od k → (∃ t ∈ used, Os t k) ∨ h.size ≤ k)
    (r : RepW h' (Sh ok (ownR Os d Od used)) y v Od) (ht : AliasOk h' (put σ d y used) (tm.setIfInBounds d v) y v) :
    Rel h0 ok O0 (put σ d y used) (tm.setIfInBounds d v) h' (ownR Os d Od used) := by
  have hk : keys ((d, y) :: wipe used) = d :: used := by simp [keys, keys_wipe]
  have hO' : ∀ t k, ownR Os d Od used t k → (t = d ∧ Od k) ∨ (t ≠ d ∧ t ∉ used ∧ Os t k) := by
    intro t k htk
    unfold ownR at htk
    split at htk
    · exact .inl ⟨‹_›, htk⟩
    · split at htk
      · exact htk.elim
      · exact .inr ⟨‹_›, ‹_›, htk⟩
  refine R.step ((d, y) :: wipe used) _ h' (ownR Os d Od used) (by simp) ?_ ?_ ?_ ?_ ?_ ?_ ?_ ?_ ?_ hsize ?_
  · intro t htn
    rw [hk] at htn
    simp only [List.mem_cons, not_or] at htn
    rw [Array.getElem?_setIfInBounds_ne (Ne.symm htn.1)]
  · intro t htn k
    rw [hk] at htn
    simp only [List.mem_cons, not_or] at htn
    simp [ownR, htn.1, htn.2]
  · intro t htn k hok
    rw [hk] at htn
    simp only [List.mem_cons, not_or] at htn
    refine hh k (R.lt hok) fun s hs hos => ?_
    have := R.dis _ _ k hok hos
    subst this
    exact htn.2 hs
  · intro k hlt hsh
    refine ⟨fun t htk => ?_, hh k hlt fun s hs hos => hsh.2 s hos⟩
    rcases hO' t k htk with ⟨_, h1⟩ | ⟨_, _, h1⟩
    · rcases hO k h1 with ⟨s, _, hos⟩ | hge
      · exact hsh.2 s hos
      · omega
    · exact hsh.2 t h1
  · intro t _ u hu
    by_cases h1 : t = d
    · subst h1
      simp only [look, if_true]
      rw [Array.getElem?_setIfInBounds_self_of_lt hd] at hu
      cases hu
      simp only [ownR, if_true]; exact r
    · have : look ((d, y) :: wipe used) t = .undef := by simp only [look, if_neg (Ne.symm h1), look_wipe]
      rw [this]
      simp only [RepW]
      intro k hk'
      rename_i hm
      rw [hk] at hm
      have hm' : t ∈ used := by simpa [h1] using hm
      simp [ownR, h1, hm'] at hk'
  · intro t hm hge k hk'
    rcases hO' t k hk' with ⟨h1, _⟩ | ⟨_, _, h1⟩
    · omega
    · exact R.out t hge k h1
  · intro s t k h1 h2
    rcases hO' s k h1 with ⟨rfl, g1⟩ | ⟨a1, a2, g1⟩ <;> rcases hO' t k h2 with ⟨rfl, g2⟩ | ⟨b1, b2, g2⟩
    · rfl
    · exfalso
      rcases hO k g1 with ⟨r', hr', hos⟩ | hge
      · have := R.dis _ _ k g2 hos; subst this; exact b2 hr'
      · have := R.lt g2; omega
    · exfalso
      rcases hO k g2 with ⟨r', hr', hos⟩ | hge
      · have := R.dis _ _ k g1 hos; subst this; exact a2 hr'
      · have := R.lt g1; omega
    · exact R.dis _ _ k g1 g2
  · intro t _ k hk'
    rcases hO' t k hk' with ⟨_, h1⟩ | ⟨_, _, h1⟩
    · rcases hO k h1 with ⟨s, _, hos⟩ | hge
      · exact R.own s k hos
      · right; have := R.size; omega
    · exact R.own t k h1
  · intro t hm u hu
    by_cases h1 : t = d
    · subst h1
      simp only [look, if_true]
      rw [Array.getElem?_setIfInBounds_self_of_lt hd] at hu
      cases hu
      exact ht
    · have : look ((d, y) :: wipe used) t = .undef := by simp only [look, if_neg (Ne.symm h1), look_wipe]
      rw [this]; trivial
  · intro k hlt hn
    have := R.size
    refine hh k (by omega) fun s _ hos => ?_
    rcases R.own s k hos with hh | hh
    · exact hn hh
    · omega

/-- Which slots are used up by these operands. -/
def usedOf (σ : St) : List Operand → List Nat
  | [] => []
  | .tmp t :: r => if plain (look σ t) then usedOf σ r else t :: usedOf σ r
  | _ :: r => usedOf σ r
end

section
variable {h0 : Array Obj} {ok O0 : Nat → Prop} {σ : St} {a : Act} {h : Array Obj} {Os : Nat → Nat → Prop}

theorem gather (R : Rel h0 ok O0 σ a.tmps h Os) : ∀ (xs : List Operand), (∀ x ∈ xs, opndOk a.tmps.size x = true) → (usedOf σ xs).Nodup →
    ∃ O, RepWs h (Sh ok Os) (xs.map (ev σ)) (xs.map a.eval) O ∧ ∀ k, O k ↔ ∃ t ∈ usedOf σ xs, Os t k
  | [], _, _ => ⟨fun _ => False, by simp only [List.map_nil, RepWs]; exact ⟨trivial, emp_false⟩, by simp [usedOf]⟩
  | x :: xs, hx, hn => by
    have hx0 := hx x (List.mem_cons_self ..)
    have ih := gather R xs (fun y hy => hx y (List.mem_cons_of_mem _ hy))
    have emp_case : ∀ (hn : (usedOf σ xs).Nodup) (e : usedOf σ (x :: xs) = usedOf σ xs) (r : RepW h (Sh ok Os) (ev σ x) (a.eval x) (fun _ => False)),
        ∃ O, RepWs h (Sh ok Os) ((x :: xs).map (ev σ)) ((x :: xs).map a.eval) O ∧ ∀ k, O k ↔ ∃ t ∈ usedOf σ (x :: xs), Os t k := by
      intro hn e r
      obtain ⟨O, h1, h2⟩ := ih hn
      refine ⟨O, ?_, by rw [e]; exact h2⟩
      simp only [List.map_cons, RepWs]
      exact ⟨_, _, fun _ => False, O, rfl, by simp, by simp, r, h1⟩
    have hconst : ∀ c, x = .const c → _ := fun c hc => emp_case
    cases x with
    | tmp t =>
      have ht : t < a.tmps.size := by simpa [opndOk] using hx0
      have hv : a.tmps[t]? = some (a.eval (.tmp t)) := by simp [Act.eval, ht]
      have hr := R.rep t _ hv
      by_cases hp : plain (look σ t) = true
      · have e : usedOf σ (.tmp t :: xs) = usedOf σ xs := by simp [usedOf, hp]
        rw [e] at hn
        have hemp := repW_plain _ hr hp
        exact emp_case hn e (repW_cong _ hr (fun k => ⟨False.elim, fun hk => (hemp k hk).elim⟩))
      · have e : usedOf σ (.tmp t :: xs) = t :: usedOf σ xs := by simp [usedOf, hp]
        rw [e] at hn
        obtain ⟨hn1, hn2⟩ := List.nodup_cons.1 hn
        obtain ⟨O, h1, h2⟩ := ih hn2
        refine ⟨fun k => Os t k ∨ O k, ?_, fun k => by rw [e]; simp [h2 k]⟩
        simp only [List.map_cons, RepWs]
        refine ⟨_, _, Os t, O, rfl, fun k => Iff.rfl, ?_, hr, h1⟩
        intro k hk ho
        obtain ⟨s, hs, hos⟩ := (h2 k).1 ho
        have := R.dis _ _ k hk hos
        subst this
        exact hn1 hs
    | const c => exact emp_case (by simpa [usedOf] using hn) (by simp [usedOf]) (constV_rep _ _ _)
    | global g => exact emp_case (by simpa [usedOf] using hn) (by simp [usedOf]) (by simp only [ev, RepW]; exact emp_false)
    | func f => exact emp_case (by simpa [usedOf] using hn) (by simp [usedOf]) (by simp only [ev, RepW, RepC, Act.eval]; exact ⟨⟨trivial, rfl⟩, emp_false⟩)
end
end Go.Proofs.Ytklmfpikhejemaa.Am

namespace Go.Proofs.Ytklmfpikhejemaa.Am
open Go.RowKit AV
set_option linter.unusedVariables false

theorem foldSet (off : Nat) : ∀ (vs : List Value) (n : Nat) (cells : Array Value), off + n + vs.length ≤ cells.size →
    ((vs.zipIdx n).foldl (fun (cs : Array Value) (x : Value × Nat) => cs.setIfInBounds (off + x.2) x.1) cells).toList = cells.toList.take (off + n) ++ vs ++ cells.toList.drop (off + n + vs.length)
  | [], n, cells, h => by simp
  | v :: vs, n, cells, h => by
    simp only [List.zipIdx_cons, List.foldl_cons]
    have hl : vs.length + 1 = (v :: vs).length := rfl
    rw [foldSet off vs (n + 1) _ (by simp at h ⊢; omega)]
    have e := list_seg_step cells.toList (off + n) v vs (by simp at h ⊢; omega)
    simpa [Array.toList_setIfInBounds, Nat.add_assoc] using e

theorem nset {xs : List AV} {i : Nat} {y y' : AV} (hg : xs[i]? = some y) (hn : ncells y' = ncells y) (j : Nat) : ncellsL ((xs.set i y').take j) = ncellsL (xs.take j) := by
  induction xs generalizing i j with
  | nil => simp at hg
  | cons x xs ih =>
    cases j with
    | zero => simp
    | succ j =>
      cases i with
      | zero =>
        simp only [List.getElem?_cons_zero, Option.some.injEq] at hg
        subst hg
        simp [ncellsL, hn]
      | succ i =>
        simp only [List.getElem?_cons_succ] at hg
        simp only [List.set_cons_succ, List.take_succ_cons, ncellsL, ih hg]

/-- The parts of a literal put into their places. -/
def setParts : List AV → List (Nat × AV) → List AV
  | fs, [] => fs
  | fs, (i, y) :: r => setParts (fs.set i y) r

theorem fill_rep {h : Array Obj} {S : Nat → Prop} {place : Nat → Option (Nat × Nat)} : ∀ (is : List Nat) (ys : List AV) (vs : List Value) (fs : List AV) (cells : Array Value) (O Op : Nat → Prop),
    is.length = ys.length → RepL h S fs cells.toList O → RepWs h S ys vs Op → (∀ k, Op k → ¬ O k) → (∀ y ∈ ys, y.stor = true) →
    (∀ (j i : Nat) (y : AV), is[j]? = some i → ys[j]? = some y → ∃ f, fs[i]? = some f ∧ ncells y = ncells f) →
    (∀ i ∈ is, ∃ f, fs[i]? = some f ∧ place i = some (ncellsL (fs.take i), ncells f)) →
    ∃ cells', Instr.fill place cells (is.zip vs) = some cells' ∧ ∃ O', RepL h S (setParts fs (is.zip ys)) cells'.toList O' ∧ ∀ k, O' k → O k ∨ Op k
  | [], ys, vs, fs, cells, O, Op, hl, r, rw_, hd, hst, hn, hp => by
    cases ys with
    | nil => exact ⟨cells, rfl, O, r, fun k hk => .inl hk⟩
    | cons y ys => simp at hl
  | i :: is, ys, vs, fs, cells, O, Op, hl, r, rw_, hd, hst, hn, hp => by
    cases ys with
    | nil => simp at hl
    | cons y ys =>
      simp only [RepWs] at rw_
      obtain ⟨v, vs', O1, O2, rfl, h2, h3, h4, h5⟩ := rw_
      obtain ⟨f, hf, hnf⟩ := hn 0 i y rfl rfl
      obtain ⟨f', hf', hpl⟩ := hp i (List.mem_cons_self ..)
      rw [hf] at hf'; cases hf'
      have hc := repC_of_W h4 (hst y (List.mem_cons_self ..))
      have hcl := repC_len _ hc
      obtain ⟨m1, cz, m2, Oz, Ob, g1, g2, g3, g4, g5, g6⟩ := repL_at fs i f r hf
      have hzl := repC_len _ g3
      have hsz : v.cells.size = ncells f := by rw [← hnf, ← hcl]; simp
      have hcs : cells.size = m1.length + cz.length + m2.length := by
        have := congrArg List.length g1
        simp at this
        omega
      have hcells : (v.cells.zipIdx.foldl (fun (cs : Array Value) (x : Value × Nat) => cs.setIfInBounds (ncellsL (fs.take i) + x.2) x.1) cells).toList = m1 ++ v.cells.toList ++ m2 := by
        rw [← Array.foldl_toList, Array.toList_zipIdx, foldSet _ _ 0 _ (by simp; omega)]
        rw [g1, Nat.add_zero, ← g2]
        simp only [List.append_assoc, List.take_left']
        congr 2
        rw [← List.append_assoc, List.drop_append_of_le_length (by simp; omega), List.drop_of_length_le (by simp; omega)]
        simp
      have hd1 : ∀ k, O1 k → ¬ Ob k := fun k hk hob => hd k ((h2 k).2 (.inl hk)) ((g4 k).2 (.inr hob))
      have r' := g6 h S y v.cells.toList O1 ⟨fun k hk _ => ⟨hk, rfl⟩, fun _ _ => rfl⟩ hc hd1
      rw [← hcells] at r'
      obtain ⟨cells', e1, O', e2, e3⟩ := fill_rep (place := place) is ys vs' (fs.set i y) _ (fun k => O1 k ∨ Ob k) O2 (by simpa using hl) r' h5 (fun k hk ho => by
          rcases ho with ho | ho
          · exact h3 k ho hk
          · exact hd k ((h2 k).2 (.inr hk)) ((g4 k).2 (.inr ho)))
        (fun z hz => hst z (List.mem_cons_of_mem _ hz))
        (fun j i' z hj hz => by
          obtain ⟨f2, q1, q2⟩ := hn (j + 1) i' z (by simpa using hj) (by simpa using hz)
          by_cases hii : i' = i
          · subst hii
            rw [hf] at q1; cases q1
            refine ⟨y, ?_, by rw [q2, hnf]⟩
            rw [List.getElem?_set_self (List.getElem?_eq_some_iff.1 hf).1]
          · exact ⟨f2, by rw [List.getElem?_set_ne (Ne.symm hii)]; exact q1, q2⟩)
        (fun i' hi' => by
          obtain ⟨f2, q1, q2⟩ := hp i' (List.mem_cons_of_mem _ hi')
          rw [nset hf hnf]
          by_cases hii : i' = i
          · subst hii
            rw [hf] at q1; cases q1
            exact ⟨y, by rw [List.getElem?_set_self (List.getElem?_eq_some_iff.1 hf).1], by rw [q2, hnf]⟩
          · exact ⟨f2, by rw [List.getElem?_set_ne (Ne.symm hii)]; exact q1, q2⟩)
      refine ⟨cells', ?_, O', e2, fun k hk => ?_⟩
      · simp only [List.zip_cons_cons, Instr.fill, hpl]
        rw [if_neg (by simp [hsz]; omega)]
        exact e1
      · rcases e3 k hk with (hh | hh) | hh
        · exact .inr ((h2 k).2 (.inl hh))
        · exact .inl ((g4 k).2 (.inr hh))
        · exact .inr ((h2 k).2 (.inr hh))

mutual
theorem flatC_rep {h : Array Obj} {S : Nat → Prop} : ∀ (x : AV) (cs r : List Value), flatC x cs = some r → ∃ m, cs = m ++ r ∧ RepC h S x m (fun _ => False)
  | .int k n, cs, r, e => by
    cases cs with
    | nil => simp [flatC] at e
    | cons c cs =>
      cases c <;> simp [flatC] at e
      obtain ⟨⟨rfl, rfl⟩, rfl⟩ := e
      exact ⟨[.int k n], rfl, by simp only [RepC]; exact ⟨trivial, emp_false⟩⟩
  | .bool b, cs, r, e => by
    cases cs with
    | nil => simp [flatC] at e
    | cons c cs =>
      cases c <;> simp [flatC] at e
      obtain ⟨rfl, rfl⟩ := e
      exact ⟨[.bool b], rfl, by simp only [RepC]; exact ⟨trivial, emp_false⟩⟩
  | .str s, cs, r, e => by
    unfold flatC at e
    split at e <;> try (simp_all; done)
    · rename_i r' he
      simp only [AV.str.injEq] at he
      subst he
      cases e
      exact ⟨[.string ⟨⟨[]⟩⟩], rfl, by simp only [RepC]; exact ⟨trivial, emp_false⟩⟩
  | .sl o sz xs, cs, r, e => by
    unfold flatC at e
    split at e <;> try (simp_all; done)
    · rename_i r' he
      simp only [AV.sl.injEq] at he
      obtain ⟨rfl, rfl, rfl⟩ := he
      cases e
      exact ⟨[.slice none 0 0], rfl, by simp only [RepC]; exact .inl ⟨trivial, trivial, emp_false⟩⟩
  | .oth v, cs, r, e => by
    cases cs with
    | nil => simp [flatC] at e
    | cons w cs =>
      simp only [flatC] at e
      split at e
      · rename_i h1
        cases e
        have hw : w = v ∧ v.oneCell' = true := by
          unfold flatOth at h1
          split at h1 <;> first | exact ⟨rfl, rfl⟩ | cases h1
        obtain ⟨rfl, hw⟩ := hw
        exact ⟨[w], rfl, by simp only [RepC]; exact ⟨⟨trivial, hw⟩, emp_false⟩⟩
      · cases e
  | .agg fs, cs, r, e => by
    simp only [flatC] at e
    obtain ⟨m, h1, h2⟩ := flatL_rep (h := h) (S := S) fs cs r e
    exact ⟨m, h1, by simp only [RepC]; exact h2⟩
  | .arr sz xs, cs, r, e => by
    simp only [flatC] at e
    split at e
    · rename_i hu
      obtain ⟨m, h1, h2⟩ := flatL_rep (h := h) (S := S) xs cs r e
      exact ⟨m, h1, by simp only [RepC]; exact ⟨h2, by simpa using hu⟩⟩
    · cases e
  | .undef, cs, r, e => by simp [flatC] at e
  | .tup _, cs, r, e => by simp [flatC] at e
  | .box _, cs, r, e => by simp [flatC] at e
  | .dptr _, cs, r, e => by simp [flatC] at e
  | .vref .., cs, r, e => by simp [flatC] at e
  | .vagg .., cs, r, e => by simp [flatC] at e
  | .vsub .., cs, r, e => by simp [flatC] at e
  | .ptr .., cs, r, e => by simp [flatC] at e
theorem flatL_rep {h : Array Obj} {S : Nat → Prop} : ∀ (xs : List AV) (cs r : List Value), flatL xs cs = some r → ∃ m, cs = m ++ r ∧ RepL h S xs m (fun _ => False)
  | [], cs, r, e => by
    simp only [flatL, Option.some.injEq] at e
    subst e
    exact ⟨[], rfl, by simp only [RepL]; exact ⟨trivial, emp_false⟩⟩
  | x :: xs, cs, r, e => by
    simp only [flatL] at e
    cases hx : flatC x cs with
    | none => simp [hx] at e
    | some r1 =>
      simp only [hx] at e
      obtain ⟨m1, h1, h2⟩ := flatC_rep (h := h) (S := S) x cs r1 hx
      obtain ⟨m2, h3, h4⟩ := flatL_rep (h := h) (S := S) xs r1 r e
      refine ⟨m1 ++ m2, by rw [h1, h3, List.append_assoc], ?_⟩
      simp only [RepL]
      exact ⟨m1, m2, _, _, rfl, by simp, by simp, h2, h4⟩
end

theorem zok_rep {P : Program} {t : TypeId} {z : AV} (h : zokOf P t z = true) (hp : Array Obj) (S : Nat → Prop) : ∃ i v, P.info? t = some i ∧ i.zero = some v ∧ v.cells.size = i.size ∧ RepC hp S z v.cells.toList (fun _ => False) := by
  unfold zokOf at h
  cases hi : P.info? t with
  | none => simp [hi] at h
  | some i =>
    simp only [hi] at h
    cases hz : i.zero with
    | none => simp [hz] at h
    | some v =>
      simp only [hz] at h
      cases hf : flatC z v.cells.toList with
      | none => simp [hf] at h
      | some r =>
        cases r with
        | cons a b => simp [hf] at h
        | nil =>
          obtain ⟨m, h1, h2⟩ := flatC_rep (h := hp) (S := S) z _ _ hf
          rw [List.append_nil] at h1
          simp only [hf, beq_iff_eq] at h
          exact ⟨i, v, rfl, hz, h, by rw [h1]; exact h2⟩
end Go.Proofs.Ytklmfpikhejemaa.Am

namespace Go.Proofs.Ytklmfpikhejemaa.Am
open Go.RowKit AV
set_option linter.unusedVariables false

/-- An operation that may write and make. -/
def EffOk (P : Program) (h0 : Array Obj) (ok O0 : Nat → Prop) (a : Act) (w : World) (run : Sem Next) (dst : Option Tmp) (K : St → Prop) : Prop :=
  ∃ nx v w' σ' Os', run.run P w = .ok nx w' ∧ (nx = .value v ∨ (nx = .skip ∧ v = undef)) ∧ K σ' ∧ Rel h0 ok O0 σ' (a.put dst v).tmps w'.heap Os' ∧ w'.os = w.os ∧ w'.tape = w.tape ∧ w'.output = w.output

theorem put_tmps (a : Act) (d : Tmp) (v : Value) : (a.put (some d) v).tmps = a.tmps.setIfInBounds d v := rfl

section
variable {P : Program} {h0 : Array Obj} {ok O0 : Nat → Prop} {σ : St} {a : Act} {w : World} {Os : Nat → Nat → Prop}

theorem Rel.put1 (R : Rel h0 ok O0 σ a.tmps w.heap Os) {d : Tmp} (hd : d < a.tmps.size) {y : AV} {v : Value} (r : RepW w.heap (Sh ok Os) y v (fun _ => False)) (al : AliasOk w.heap σ a.tmps y v) (hne : y.target ≠ some d) :
    ∃ Os', Rel h0 ok O0 (put σ d y []) (a.put (some d) v).tmps w.heap Os' := by
  refine ⟨_, R.result d y v [] w.heap (fun _ => False) hd (Nat.le_refl _) (fun _ _ _ => rfl) (fun _ h => h.elim) ?_ ?_⟩
  · refine repW_mono _ r ⟨fun k hk _ => ⟨⟨hk.1, fun t ht => ?_⟩, rfl⟩, fun _ _ => rfl⟩
    unfold ownR at ht
    split at ht
    · exact ht
    · exact hk.2 t (by simpa using ht)
  · cases htg : y.target with
    | none => exact aliasOk_none htg
    | some s =>
      have hsd : s ≠ d := fun h => hne (by rw [htg, h])
      refine aliasOk_same (S := Sh ok Os) (O := Os s) al ?_ ?_ ?_ (fun _ _ => rfl)
      · intro s' u hs' hu
        rw [htg] at hs'; cases hs'
        exact R.rep s u hu
      · intro s' hs'
        rw [htg] at hs'; cases hs'
        rw [Array.getElem?_setIfInBounds_ne (Ne.symm hsd)]
      · intro s' hs' hn
        rw [htg] at hs'; cases hs'
        unfold put
        rw [look_upd, if_neg (by simp [keys, wipe, hsd]), purgeV_none _ hn]

/-- From an operation without effect. -/
def pureK (σ : St) (dst : Option Tmp) (K : St → Prop) : AV → Prop := fun y => match dst with
  | some d => y.target ≠ some d ∧ K (put σ d y [])
  | none => K σ
theorem eff_of_pure (R : Rel h0 ok O0 σ a.tmps w.heap Os) {run : Sem Next} {dst : Option Tmp} (hd : ∀ d, dst = some d → d < a.tmps.size) {K : St → Prop} (h : PureOk P σ ok Os a.tmps w run (pureK σ dst K)) : EffOk P h0 ok O0 a w run dst K := by
  obtain ⟨y, v, h1, h2, h3, h4⟩ := h
  cases dst with
  | none => exact ⟨_, v, w, σ, Os, h2, .inl rfl, h1, R, rfl, rfl, rfl⟩
  | some d =>
    obtain ⟨Os', R'⟩ := R.put1 (hd d rfl) h3 h4 h1.1
    exact ⟨_, v, w, _, Os', h2, .inl rfl, h1.2, R', rfl, rfl, rfl⟩

def pulls (σ : St) (xs : List Operand) : St := xs.foldl pull σ
theorem pulls_ok : ∀ (xs : List Operand) {σ : St} {Os : Nat → Nat → Prop}, Rel h0 ok O0 σ a.tmps w.heap Os → (∀ x ∈ xs, opndOk a.tmps.size x = true) → ∃ Os', Rel h0 ok O0 (pulls σ xs) a.tmps w.heap Os'
  | [], σ, Os, R, _ => ⟨Os, R⟩
  | x :: xs, σ, Os, R, hx => by
    obtain ⟨Os', R'⟩ := pull_ok R x (hx x (List.mem_cons_self ..))
    exact pulls_ok xs R' (fun y hy => hx y (List.mem_cons_of_mem _ hy))

theorem push_old (h : Array Obj) (o : Obj) {k : Nat} (hk : k < h.size) : (h.push o)[k]? = h[k]? := by
  rw [Array.getElem?_push, if_neg (by omega)]
theorem push_new (h : Array Obj) (o : Obj) : (h.push o)[h.size]? = some o := by
  rw [Array.getElem?_push, if_pos rfl]

/-- What is shared, behind a result. -/
theorem sh_result {d : Nat} {Od : Nat → Prop} {used : List Nat} {h : Array Obj} (R : Rel h0 ok O0 σ a.tmps h Os) (hO : ∀ k, Od k → (∃ t ∈ used, Os t k) ∨ h.size ≤ k) {k : Nat} (hlt : k < h.size) (hk : Sh ok Os k) : Sh ok (ownR Os d Od used) k := by
  refine ⟨hk.1, fun t ht => ?_⟩
  unfold ownR at ht
  split at ht
  · rcases hO k ht with ⟨s, _, hs⟩ | hge
    · exact hk.2 s hs
    · omega
  · split at ht
    · exact ht
    · exact hk.2 t ht

/-- A new block. -/
theorem sim_new (R : Rel h0 ok O0 σ a.tmps w.heap Os) {d : Tmp} (hd : d < a.tmps.size) {y : AV} {m : List Value} {O : Nat → Prop} {used : List Nat} (hr : RepC w.heap (Sh ok Os) y m O) (hO : ∀ k, O k → ∃ t ∈ used, Os t k) (e : TypeId) (c : Array Value) (hc : c.toList = m) :
    ∃ Os', Rel h0 ok O0 (put σ d (.box y) used) (a.put (some d) (.pointer (some ⟨w.heap.size, 0, none⟩))).tmps (w.heap.push (.cells c e)) Os' := by
  have hO' : ∀ k, (k = w.heap.size ∨ O k) → (∃ t ∈ used, Os t k) ∨ w.heap.size ≤ k := by
    rintro k (rfl | hk)
    · exact .inr (Nat.le_refl _)
    · exact .inl (hO k hk)
  refine ⟨_, R.result d (.box y) _ used (w.heap.push (.cells c e)) (fun k => k = w.heap.size ∨ O k) hd (by simp) (fun k hk _ => push_old _ _ hk) hO' ?_ trivial⟩
  simp only [RepW, RepC]
  refine ⟨w.heap.size, c, e, m, O, rfl, ⟨(0, 0), push_new _ _, fun j _ h => absurd h.2 (Nat.not_lt_zero _)⟩, hc, repC_mono _ hr ⟨fun k hk hlt => ⟨sh_result R hO' hlt hk, push_old _ _ hlt⟩, fun k hk => push_old _ _ (repC_lt _ hr k hk)⟩, fun hk => absurd (repC_lt _ hr _ hk) (Nat.lt_irrefl _), fun k => Iff.rfl⟩

def allocW (P : Program) (σ : St) (t : TypeId) (d : Nat) (K : St → Prop) : Prop := (tinfo P t).zok = true ∧ K (put σ d (.box (tinfo P t).zero) [])
theorem sim_alloc (R : Rel h0 ok O0 σ a.tmps w.heap Os) {t : TypeId} {d : Tmp} (hd : d < a.tmps.size) {K : St → Prop} (h : allocW P σ t d K) :
    EffOk P h0 ok O0 a w (do pure (.value (← Instr.alloc t true (.tuple #[])))) (some d) K := by
  obtain ⟨h1, h2⟩ := h
  rw [(tinfo_base t).2.2.2.2] at h1
  rw [(tinfo_base t).2.2.2.1] at h2
  obtain ⟨i, z, hi, hz, _, hr⟩ := zok_rep h1 w.heap (Sh ok Os)
  obtain ⟨Os', R'⟩ := sim_new R hd hr (fun _ h => h.elim) t z.cells rfl (used := [])
  exact ⟨.value (.pointer (some ⟨w.heap.size, 0, none⟩)), _, { w with heap := w.heap.push (.cells z.cells t) }, _, Os', by simp [Instr.alloc, zeroValue, typeInfo, hi, hz, newVar, newRow], .inl rfl, h2, R', rfl, rfl, rfl⟩

def boxW (σ : St) (x : Operand) (d : Nat) (K : St → Prop) : Prop := let σ1 := pull σ x; (ev σ1 x).stor = true ∧ K (put σ1 d (.box (ev σ1 x)) (usedOf σ1 [x]))
theorem gather1 {h : Array Obj} (R : Rel h0 ok O0 σ a.tmps h Os) {x : Operand} (hx : opndOk a.tmps.size x = true) : ∃ O, RepW h (Sh ok Os) (ev σ x) (a.eval x) O ∧ ∀ k, O k ↔ ∃ t ∈ usedOf σ [x], Os t k := by
  have hn : (usedOf σ [x]).Nodup := by
    cases x with
    | tmp t => simp only [usedOf]; split <;> simp
    | _ => simp [usedOf]
  obtain ⟨O, h1, h2⟩ := gather R [x] (by simpa using hx) hn
  simp only [List.map_cons, List.map_nil, RepWs] at h1
  obtain ⟨v, vs', O1, O2, e1, e2, e3, e4, e5, e6⟩ := h1
  simp only [List.cons.injEq] at e1
  obtain ⟨rfl, rfl⟩ := e1
  exact ⟨O1, e4, fun k => by rw [← h2 k, e2 k]; simp [e6 k]⟩

theorem sim_box (R : Rel h0 ok O0 σ a.tmps w.heap Os) {x : Operand} (hx : opndOk a.tmps.size x = true) {t : TypeId} {d : Tmp} (hd : d < a.tmps.size) {K : St → Prop} (h : boxW σ x d K) :
    EffOk P h0 ok O0 a w (do pure (.value (← Instr.box t (a.eval x)))) (some d) K := by
  obtain ⟨h1, h2⟩ := h
  obtain ⟨Os1, R1⟩ := pull_ok R x hx
  obtain ⟨O, g1, g2⟩ := gather1 R1 hx
  obtain ⟨Os', R'⟩ := sim_new R1 hd (repC_of_W g1 h1) (fun k hk => (g2 k).1 hk) t (a.eval x).cells rfl
  exact ⟨.value (.pointer (some ⟨w.heap.size, 0, none⟩)), _, { w with heap := w.heap.push (.cells (a.eval x).cells t) }, _, Os', by simp [Instr.box, newVar, newRow], .inl rfl, h2, R', rfl, rfl, rfl⟩

/-- What moves into a variable. -/
def assignW (σ : St) (x : Operand) (d : Nat) (K : St → Prop) : Prop :=
  match ev σ x with
  | .undef => False
  | .vref s (i :: p) => s ≠ d ∧ K (put σ d (.vref s (i :: p)) [])
  | .vsub s p lo hi => s ≠ d ∧ K (put σ d (.vsub s p lo hi) [])
  | .ptr s p => s ≠ d ∧ K (put σ d (.ptr s p) [])
  | _ => let σ1 := pull σ x; (ev σ1 x).target = none ∧ K (put σ1 d (ev σ1 x) (usedOf σ1 [x]))

theorem Rel.moved (R : Rel h0 ok O0 σ a.tmps w.heap Os) {x : Operand} (hx : opndOk a.tmps.size x = true) {d : Tmp} (hd : d < a.tmps.size) (ht : (ev σ x).target = none) :
    ∃ Os', Rel h0 ok O0 (put σ d (ev σ x) (usedOf σ [x])) (a.put (some d) (a.eval x)).tmps w.heap Os' := by
  obtain ⟨O, g1, g2⟩ := gather1 R hx
  have hO : ∀ k, O k → (∃ t ∈ usedOf σ [x], Os t k) ∨ w.heap.size ≤ k := fun k hk => .inl ((g2 k).1 hk)
  refine ⟨_, R.result d _ _ (usedOf σ [x]) w.heap O hd (Nat.le_refl _) (fun _ _ _ => rfl) hO ?_ (aliasOk_none ht)⟩
  exact repW_mono _ g1 ⟨fun k hk hlt => ⟨sh_result R hO hlt hk, rfl⟩, fun _ _ => rfl⟩

theorem sim_assign (R : Rel h0 ok O0 σ a.tmps w.heap Os) {x : Operand} (hx : opndOk a.tmps.size x = true) {d : Tmp} (hd : d < a.tmps.size) {K : St → Prop} (h : assignW σ x d K) :
    EffOk P h0 ok O0 a w (pure (.value (a.eval x))) (some d) K := by
  have al := ev_rep R hx
  have alias_case : ∀ y, ev σ x = y → (∀ s, y.target = some s → s ≠ d) → (∃ s, y.target = some s) → K (put σ d y []) → EffOk P h0 ok O0 a w (pure (.value (a.eval x))) (some d) K := by
    intro y hy hs he hk
    rw [hy] at al
    obtain ⟨s, hs'⟩ := he
    have hemp := repW_alias al.1 hs'
    obtain ⟨Os', R'⟩ := R.put1 hd (repW_cong _ al.1 (O' := fun _ => False) (fun k => ⟨False.elim, fun hk => (hemp k hk).elim⟩)) al.2 (fun hh => hs d hh rfl)
    exact ⟨_, _, w, _, Os', rfl, .inl rfl, hk, R', rfl, rfl, rfl⟩
  unfold assignW at h
  split at h
  · exact h.elim
  · rename_i s i p e
    exact alias_case _ e (by rintro s' hs'; simp only [AV.target, Option.some.injEq] at hs'; rw [← hs']; exact h.1) ⟨s, rfl⟩ h.2
  · rename_i s p lo hi e
    exact alias_case _ e (by rintro s' hs'; simp only [AV.target, Option.some.injEq] at hs'; rw [← hs']; exact h.1) ⟨s, rfl⟩ h.2
  · rename_i s p e
    exact alias_case _ e (by rintro s' hs'; simp only [AV.target, Option.some.injEq] at hs'; rw [← hs']; exact h.1) ⟨s, rfl⟩ h.2
  · obtain ⟨Os1, R1⟩ := pull_ok R x hx
    obtain ⟨Os', R'⟩ := R1.moved hx hd h.1
    exact ⟨_, _, w, _, Os', rfl, .inl rfl, h.2, R', rfl, rfl, rfl⟩

def extractW (σ : St) (x : Operand) (i : Nat) (d : Nat) (K : St → Prop) : Prop :=
  match x, ev σ x with
  | .tmp t, .tup vs => i < vs.length ∧ t ≠ d ∧ (vs.getD i .undef).target = none ∧ (if plain (vs.getD i .undef) then K (put σ d (vs.getD i .undef) []) else K (upd (put σ d .undef []) [(d, vs.getD i .undef), (t, .tup (vs.set i .undef))]))
  | _, _ => False

theorem repWs_at {h : Array Obj} {S : Nat → Prop} : ∀ (xs : List AV) (i : Nat) (y : AV) {vs : List Value} {O : Nat → Prop}, RepWs h S xs vs O → xs[i]? = some y →
    ∃ (v : Value) (Oy Ob : Nat → Prop), vs[i]? = some v ∧ RepW h S y v Oy ∧ (∀ k, O k ↔ Oy k ∨ Ob k) ∧ (∀ k, Oy k → ¬ Ob k) ∧ RepWs h S (xs.set i .undef) vs Ob
  | [], i, y, vs, O, r, e => by simp at e
  | x :: xs, 0, y, vs, O, r, e => by
    simp only [RepWs] at r
    obtain ⟨v, vs', O1, O2, h1, h2, h3, h4, h5⟩ := r
    obtain rfl : x = y := by simpa using e
    subst h1
    refine ⟨v, O1, O2, rfl, h4, h2, h3, ?_⟩
    simp only [List.set_cons_zero, RepWs, RepW]
    exact ⟨v, vs', fun _ => False, O2, rfl, by simp, by simp, emp_false, h5⟩
  | x :: xs, i + 1, y, vs, O, r, e => by
    simp only [RepWs] at r
    obtain ⟨v, vs', O1, O2, h1, h2, h3, h4, h5⟩ := r
    obtain ⟨w, Oy, Ob, g1, g2, g3, g4, g5⟩ := repWs_at xs i y h5 (by simpa using e)
    subst h1
    refine ⟨w, Oy, fun k => O1 k ∨ Ob k, by simpa using g1, g2, ?_, ?_, ?_⟩
    · intro k
      rw [h2 k, g3 k]
      constructor
      · rintro (h | h | h) <;> simp [h]
      · rintro (h | h | h) <;> simp [h]
    · rintro k hk (hr | hr)
      · exact h3 k hr ((g3 k).2 (.inl hk))
      · exact g4 k hk hr
    · simp only [List.set_cons_succ, RepWs]
      exact ⟨v, vs', O1, Ob, rfl, fun k => Iff.rfl, fun k hk hb => h3 k hk ((g3 k).2 (.inr hb)), h4, g5⟩

theorem sim_extract (R : Rel h0 ok O0 σ a.tmps w.heap Os) {x : Operand} (hx : opndOk a.tmps.size x = true) {i : Nat} {d : Tmp} (hd : d < a.tmps.size) {K : St → Prop} (h : extractW σ x i d K) :
    EffOk P h0 ok O0 a w (do pure (.value (← Instr.extract (a.eval x) i))) (some d) K := by
  unfold extractW at h
  split at h
  · rename_i _ _ t vs e
    obtain ⟨hi, htd, htg, h⟩ := h
    have ht : t < a.tmps.size := by simpa [opndOk] using hx
    have hv : a.tmps[t]? = some (a.eval (.tmp t)) := by simp [Act.eval, ht]
    have hr := R.rep t _ hv
    simp only [ev] at e
    rw [e] at hr
    simp only [RepW] at hr
    obtain ⟨l, hl, hr⟩ := hr
    have hg : vs[i]? = some (vs.getD i .undef) := by simp [List.getD, List.getElem?_eq_getElem hi]
    obtain ⟨v, Oy, Ob, g1, g2, g3, g4, g5⟩ := repWs_at vs i _ hr hg
    have hrun : (do pure (.value (← Instr.extract (a.eval (.tmp t)) i)) : Sem Next).run P w = .ok (.value v) w := by
      have : l[i]? = some v := by simpa using g1
      simp [Instr.extract, hl, this]
    split at h
    · rename_i hp
      have hemp := repW_plain _ g2 hp
      obtain ⟨Os', R'⟩ := R.put1 hd (repW_cong _ g2 (O' := fun _ => False) (fun k => ⟨False.elim, fun hk => (hemp k hk).elim⟩)) (aliasOk_none htg) (by rw [htg]; simp)
      exact ⟨_, v, w, _, Os', hrun, .inl rfl, h, R', rfl, rfl, rfl⟩
    · have R1 := R.result d .undef v [] w.heap (fun _ => False) hd (Nat.le_refl _) (fun _ _ _ => rfl) (fun _ h => h.elim) (by simp only [RepW]; exact emp_false) trivial
      have hsh : ∀ k, k < w.heap.size → Sh ok Os k → Sh ok (ownR Os d (fun _ => False) []) k := fun k hlt hk => sh_result R (fun _ h => h.elim) hlt hk
      have hag : ∀ O : Nat → Prop, Agree w.heap w.heap (Sh ok Os) (Sh ok (ownR Os d (fun _ => False) [])) O := fun O => ⟨fun k hk hlt => ⟨hsh k hlt hk, rfl⟩, fun _ _ => rfl⟩
      have htm : (a.tmps.setIfInBounds d v)[t]? = some (a.eval (.tmp t)) := by rw [Array.getElem?_setIfInBounds_ne (Ne.symm htd)]; exact hv
      have hdm : (a.tmps.setIfInBounds d v)[d]? = some v := Array.getElem?_setIfInBounds_self_of_lt hd
      have R2 := R1.ghost2 (Ne.symm htd) (vs.getD i .undef) (.tup (vs.set i .undef)) Oy Ob hdm htm (by
          intro k
          have e1 : ownR Os d (fun _ => False) [] d k ↔ False := by simp [ownR]
          have e2 : ownR Os d (fun _ => False) [] t k ↔ Os t k := by simp [ownR, htd]
          rw [e1, e2]
          simp only [false_or]
          exact g3 k) g4 (repW_mono _ g2 (hag _)) (by simp only [RepW]; exact ⟨l, hl, repWs_mono _ g5 (hag _)⟩) htg rfl
      exact ⟨_, v, w, _, _, hrun, .inl rfl, h, R2, rfl, rfl, rfl⟩
  · exact h.elim
end
end Go.Proofs.Ytklmfpikhejemaa.Am

namespace Go.Proofs.Ytklmfpikhejemaa.Am
open Go.RowKit AV
set_option linter.unusedVariables false

theorem run_storeRow (P : Program) (g o : Nat) (t : TypeId) (fr : Nat × Nat) : ∀ (vs : List Value) (i : Nat) (cur : Array Value) (w : World), w.heap[g]? = some (.cells cur t fr) → Free cur.size fr → o + i + vs.length ≤ cur.size → (∀ v ∈ vs, v.oneCell' = true) →
    (storeCells ⟨g, o, none⟩ vs i).run P w = .ok () (w.setRow g (cur.toList.take (o + i) ++ vs ++ cur.toList.drop (o + i + vs.length)).toArray)
  | [], i, cur, w, hg, _, _, _ => by
    simp only [storeCells, List.append_nil, List.length_nil, Nat.add_zero, List.take_append_drop, Array.toArray_toList]
    rw [setRow_self w g cur t fr hg]
    rfl
  | v :: rest, i, cur, w, hg, hf, hl, h1 => by
    have hi : o + i < cur.size := by simp at hl; omega
    have hadd : (⟨g, o, none⟩ : Addr).add i = ⟨g, o + i, none⟩ := add_at g o i
    have hcell : w.cell? ⟨g, o + i, none⟩ = some cur[o + i] := by simp [World.cell?, hg, hi]
    have hfro : w.frozen? ⟨g, o + i, none⟩ = false := by
      have := hf (o + i) hi
      obtain ⟨f1, f2⟩ := fr
      simp only [World.frozen?, hg]
      simp only [not_and, Nat.not_lt] at this
      by_cases h1 : f1 ≤ o + i
      · simp [h1, this h1]
      · simp [h1]
    have hst : (store ((⟨g, o, none⟩ : Addr).add i) v).run P w = .ok () (w.setRow g (cur.setIfInBounds (o + i) v)) := by
      rw [hadd, run_store P w _ v _ (h1 v (by simp)), hcell]
      simp [hfro, setCell_eq_setRow w g (o + i) cur t fr v hg]
    have ih := run_storeRow P g o t fr rest (i + 1) (cur.setIfInBounds (o + i) v) (w.setRow g (cur.setIfInBounds (o + i) v)) (setRow_heap w g cur _ t _ hg) (by simpa using hf) (by simp at hl ⊢; omega) (fun x hx => h1 x (by simp [hx]))
    simp only [storeCells, Sem.run_bind, hst, Result.andThen_ok, ih, setRow_setRow]
    congr 3
    have e := list_seg_step cur.toList (o + i) v rest (by simp at hl ⊢; omega)
    simpa [Array.toList_setIfInBounds, Nat.add_assoc] using e

theorem setRow_other (w : World) (g : Nat) (cs : Array Value) {k : Nat} (h : k ≠ g) : (w.setRow g cs).heap[k]? = w.heap[k]? := by
  simp only [World.setRow, Array.getElem?_modify]
  rw [if_neg (Ne.symm h)]

theorem repL_app {h : Array Obj} {S : Nat → Prop} : ∀ (xs ys : List AV) {m1 m2 : List Value} {O1 O2 : Nat → Prop}, RepL h S xs m1 O1 → RepL h S ys m2 O2 → (∀ k, O1 k → ¬ O2 k) → RepL h S (xs ++ ys) (m1 ++ m2) (fun k => O1 k ∨ O2 k)
  | [], ys, m1, m2, O1, O2, r1, r2, d => by
    simp only [RepL] at r1
    obtain ⟨rfl, hO⟩ := r1
    simp only [List.nil_append]
    exact repL_cong ys r2 (fun k => ⟨fun h => h.resolve_left (hO k), .inr⟩)
  | x :: xs, ys, m1, m2, O1, O2, r1, r2, d => by
    simp only [RepL] at r1
    obtain ⟨c1, c2, P1, P2, rfl, h2, h3, h4, h5⟩ := r1
    have ih := repL_app xs ys h5 r2 (fun k hk => d k ((h2 k).2 (.inr hk)))
    simp only [List.cons_append, RepL]
    refine ⟨c1, c2 ++ m2, P1, fun k => P2 k ∨ O2 k, by simp, fun k => by rw [h2 k, or_assoc], ?_, h4, ih⟩
    rintro k hk (hp | hp)
    · exact h3 k hk hp
    · exact d k ((h2 k).2 (.inl hk)) hp

theorem repL_replicate {h : Array Obj} {S : Nat → Prop} {x : AV} {m : List Value} (r : RepC h S x m (fun _ => False)) : ∀ n : Nat, RepL h S (List.replicate n x) (List.replicate n m).flatten (fun _ => False)
  | 0 => by simp only [List.replicate, List.flatten_nil, RepL]; exact ⟨trivial, emp_false⟩
  | n + 1 => by
    simp only [List.replicate, List.flatten_cons, RepL]
    exact ⟨m, _, _, _, rfl, by simp, by simp, r, repL_replicate r n⟩

theorem made_list (z : Array Value) (n : Nat) : (madeCells z (n * z.size)).toList = (List.replicate n z.toList).flatten := by
  have key : ∀ n, ((List.range (n * z.size)).map (z[· % z.size]!)) = (List.replicate n z.toList).flatten := by
    intro n
    induction n with
    | zero => simp
    | succ n ih =>
      rw [List.replicate_succ', List.flatten_append, ← ih, Nat.add_mul, Nat.one_mul, List.range_add, List.map_append]
      congr 1
      simp only [List.map_map, List.flatten_cons, List.flatten_nil, List.append_nil]
      apply List.ext_getElem
      · simp
      · intro j h1 h2
        simp only [List.length_map, List.length_range] at h1
        simp only [List.getElem_map, List.getElem_range, Function.comp]
        rw [Nat.add_comm, Nat.add_mul_mod_self_right, Nat.mod_eq_of_lt h1]
        simp [h1]
  simp only [madeCells, Array.toList_map, Array.toList_range]
  exact key n

theorem rep_own {h : Array Obj} {S : Nat → Prop} {b : Nat} {c : Array Value} {e : TypeId} {cap sz : Nat} {xs : List AV} {O' : Nat → Prop} (hsz : 0 < sz) (h2 : Row h b c e) (h3 : c.size = cap * sz) (h4 : xs.length ≤ cap) (h5 : cap ≤ maxLen)
    (h6 : RepL h S xs (c.toList.take (xs.length * sz)) O') (h7 : ∀ x ∈ xs, x.ncells = sz) (h8 : ¬ O' b) (h10 : ∀ u ∈ c.toList, u.oneCell' = true) :
    RepC h S (.sl true sz xs) [.slice (some ⟨b, 0, none⟩) xs.length cap] (fun k => k = b ∨ O' k) := by
  simp only [RepC]
  exact .inr ⟨hsz, b, c, e, cap, O', rfl, h2, h3, h4, h5, h6, h7, h8, fun k => Iff.rfl, h10⟩

section
variable {P : Program} {h0 : Array Obj} {ok O0 : Nat → Prop} {σ : St} {a : Act} {w : World} {Os : Nat → Nat → Prop}

def makeW (P : Program) (σ : St) (t : TypeId) (l c : Operand) (d : Nat) (K : St → Prop) : Prop :=
  match ev σ l, ev σ c with
  | .int _ n, .int _ m => n = m ∧ (tinfo P t).kind = 1 ∧ (tinfo P t).ezok = true ∧ 0 < (tinfo P t).esz ∧ 0 ≤ n ∧ (tinfo P t).ebytes * n ≤ 281474976710656 ∧ n ≤ 9223372036854775807 ∧
      K (put σ d (.sl true (tinfo P t).esz (List.replicate n.toNat (tinfo P t).ezero)) [])
  | _, _ => False

theorem sim_make (R : Rel h0 ok O0 σ a.tmps w.heap Os) {l c : Operand} (hl : opndOk a.tmps.size l = true) (hc : opndOk a.tmps.size c = true) {t : TypeId} {d : Tmp} (hd : d < a.tmps.size) {K : St → Prop} (h : makeW P σ t l c d K) :
    EffOk P h0 ok O0 a w (do pure (.value (← Instr.makeSlice t (a.eval l) (a.eval c)))) (some d) K := by
  unfold makeW at h
  split at h
  · rename_i k1 n k2 m e1 e2
    obtain ⟨rfl, h1, h2, h3, h4, h5, h6, h7⟩ := h
    obtain ⟨e, hu, hs, hb, _, hz, hzk⟩ := kind1 h1
    rw [hzk] at h2
    obtain ⟨i, z, hi, hiz, hzs, hr⟩ := zok_rep h2 w.heap (Sh ok Os)
    have hisz : i.size = (tinfo P t).esz := by rw [← hs]; simp [szOf, hi]
    have hibt : i.bytes = (tinfo P t).ebytes := by rw [← hb]; simp [bytesOf_, hi]
    have hrun := run_make (P := P) w t e i z hu hi hiz k1 k2 n n h4 (Int.le_refl _) (by rw [hibt]; exact h5) h6
    have hzl := repC_len _ hr
    have hnc : ncells (zeroA P 12 e) = (tinfo P t).esz := by rw [← hzl, ← hisz, ← hzs]; simp
    have hcs : (madeCells z.cells (n.toNat * i.size)).size = n.toNat * (tinfo P t).esz := by rw [size_madeCells, hisz]
    have hml : (madeCells z.cells (n.toNat * i.size)).toList = (List.replicate n.toNat z.cells.toList).flatten := by rw [← hzs]; exact made_list _ _
    have hcap : n.toNat ≤ maxLen := by simp only [maxLen]; omega
    have hrep := repL_replicate hr n.toNat
    rw [← hml] at hrep
    have hown := rep_own (h := w.heap.push (.cells (madeCells z.cells (n.toNat * i.size)) e)) (S := Sh ok (ownR Os d (fun k => k = w.heap.size ∨ False) [])) (b := w.heap.size) (e := e) (cap := n.toNat) (xs := List.replicate n.toNat (zeroA P 12 e)) (O' := fun _ => False) h3
      ⟨(0, 0), push_new _ _, fun j _ h => absurd h.2 (Nat.not_lt_zero _)⟩ hcs (by simp) hcap
      (by
        rw [List.length_replicate, List.take_of_length_le (by rw [Array.length_toList, hcs]; exact Nat.le_refl _)]
        exact repL_mono _ hrep ⟨fun k hk hlt => ⟨sh_result R (used := []) (fun k hk => .inr (by rcases hk with rfl | hk; exact Nat.le_refl _; exact hk.elim)) hlt hk, push_old _ _ hlt⟩, fun k hk => hk.elim⟩)
      (fun x hx => by rw [List.eq_of_mem_replicate hx]; exact hnc) (fun h => h)
      (fun u hu => by rw [hml] at hu; obtain ⟨l, hl, hu⟩ := List.mem_flatten.1 hu; rw [List.eq_of_mem_replicate hl] at hu; exact repC_one _ hr u hu)
    have R' := R.result d (.sl true (tinfo P t).esz (List.replicate n.toNat (zeroA P 12 e))) (.slice (some ⟨w.heap.size, 0, none⟩) n.toNat n.toNat) [] (w.heap.push (.cells (madeCells z.cells (n.toNat * i.size)) e)) (fun k => k = w.heap.size ∨ False) hd (by simp) (fun k hk _ => push_old _ _ hk) (fun k hk => .inr (by rcases hk with rfl | hk; exact Nat.le_refl _; exact hk.elim)) (by simpa only [RepW, List.length_replicate] using hown) trivial
    rw [hz] at h7
    refine ⟨_, .slice (some ⟨w.heap.size, 0, none⟩) n.toNat n.toNat, w.alloc (.cells (madeCells z.cells (n.toNat * i.size)) e), _, _, ?_, .inl rfl, h7, R', rfl, rfl, rfl⟩
    · rw [ev_int R hl e1, ev_int R hc e2]
      simp [hrun]
  · exact h.elim
end
end Go.Proofs.Ytklmfpikhejemaa.Am

namespace Go.Proofs.Ytklmfpikhejemaa.Am
open Go.RowKit AV
set_option linter.unusedVariables false

theorem run_mapL {P : Program} {α β : Type} (f : α → Sem β) (g : α → β) (w : World) : ∀ xs : List α, (∀ x ∈ xs, (f x).run P w = .ok (g x) w) → (xs.mapM f).run P w = .ok (xs.map g) w
  | [], _ => by simp
  | x :: xs, h => by
    have h1 := h x (List.mem_cons_self ..)
    have h2 := run_mapL f g w xs (fun y hy => h y (List.mem_cons_of_mem _ hy))
    simp [List.mapM_cons, h1, h2]
theorem run_mapA {P : Program} {α β : Type} (f : α → Sem β) (g : α → β) (w : World) (xs : Array α) (h : ∀ x ∈ xs, (f x).run P w = .ok (g x) w) : (xs.mapM f).run P w = .ok (xs.map g) w := by
  rw [Array.mapM_eq_mapM_toList]
  have := run_mapL (P := P) f g w xs.toList (fun x hx => h x (by simpa using hx))
  simp only [Sem.run_map, this, Result.andThen_ok]
  congr 1
  apply Array.toList_inj.1
  simp

section
variable {P : Program} {h0 : Array Obj} {ok O0 : Nat → Prop} {σ : St} {a : Act} {w : World} {Os : Nat → Nat → Prop}

def partsFit (σ : St) (fs : List AV) (fields : List (Nat × Nat × Option Bool)) : List (Nat × Operand) → Prop
  | [] => True
  | (i, x) :: r => (match fs[i]?, fields[i]? with
    | some f, some (off, sz, _) => off = ncellsL (fs.take i) ∧ sz = ncells f ∧ ncells (ev σ x) = ncells f ∧ (ev σ x).stor = true
    | _, _ => False) ∧ partsFit σ fs fields r
theorem partsFit_spec {fs : List AV} {fields : List (Nat × Nat × Option Bool)} : ∀ {ps : List (Nat × Operand)}, partsFit σ fs fields ps → ∀ i x, (i, x) ∈ ps →
    ∃ f ag, fs[i]? = some f ∧ fields[i]? = some (ncellsL (fs.take i), ncells f, ag) ∧ ncells (ev σ x) = ncells f ∧ (ev σ x).stor = true
  | [], _, i, x, hm => by cases hm
  | (j, y) :: r, h, i, x, hm => by
    obtain ⟨h1, h2⟩ := h
    rcases List.mem_cons.1 hm with he | hm
    · cases he
      split at h1
      · rename_i f off sz ag e1 e2
        obtain ⟨rfl, rfl, h3, h4⟩ := h1
        exact ⟨f, ag, e1, e2, h3, h4⟩
      · exact h1.elim
    · exact partsFit_spec h2 i x hm

def buildW (P : Program) (σ : St) (t : TypeId) (ps : List (Nat × Operand)) (d : Nat) (K : St → Prop) : Prop :=
  let σ1 := pulls σ (ps.map (·.2))
  (tinfo P t).kind = 3 ∧ (tinfo P t).zok = true ∧ (tinfo P t).fields.all (fun f => decide (0 < f.2.1)) = true ∧ (usedOf σ1 (ps.map (·.2))).Nodup ∧
  (match (tinfo P t).zero with
  | .agg fs => partsFit σ1 fs (tinfo P t).fields ps ∧ K (put σ1 d (.agg (setParts fs (ps.map fun x => (x.1, ev σ1 x.2)))) (usedOf σ1 (ps.map (·.2))))
  | _ => False)

theorem kind3 {t : TypeId} (h : (tinfo P t).kind = 3) : ∃ fs, P.underlying t = some (.struct fs) ∧ (tinfo P t).fields = fs.toList.map fun f => (f.offset, szOf P f.type, aggTy P f.type) := by
  unfold tinfo at h ⊢
  cases hu : P.underlying t with
  | none => simp [hu] at h
  | some d => cases d <;> simp_all

theorem zip_map_fst {α β γ : Type} (ps : List (α × β)) (f : β → γ) : (ps.map (·.1)).zip ((ps.map (·.2)).map f) = ps.map fun x => (x.1, f x.2) := by
  induction ps with
  | nil => rfl
  | cons p ps ih => simp only [List.map_cons, List.zip_cons_cons, ih]

theorem sim_build (R : Rel h0 ok O0 σ a.tmps w.heap Os) {ps : Array (Nat × Operand)} (hx : ∀ p ∈ ps.toList, opndOk a.tmps.size p.2 = true) {t : TypeId} {d : Tmp} (hd : d < a.tmps.size) {K : St → Prop} (h : buildW P σ t ps.toList d K) :
    EffOk P h0 ok O0 a w (do pure (.value (← Instr.build t (ps.map fun (i, x) => (i, a.eval x))))) (some d) K := by
  obtain ⟨h1, h2, h3, h4, h5⟩ := h
  have hx' : ∀ x ∈ ps.toList.map (·.2), opndOk a.tmps.size x = true := by
    intro x hm
    obtain ⟨p, hp, rfl⟩ := List.mem_map.1 hm
    exact hx p hp
  obtain ⟨Os1, R1⟩ := pulls_ok (ps.toList.map (·.2)) R hx'
  obtain ⟨O, g1, g2⟩ := gather R1 _ hx' h4
  obtain ⟨fl, hu, hfl⟩ := kind3 h1
  rw [(tinfo_base t).2.2.2.2] at h2
  rw [(tinfo_base t).2.2.2.1] at h5
  obtain ⟨i, z, hi, hz, hzs, hr⟩ := zok_rep h2 w.heap (Sh ok Os1)
  split at h5
  · rename_i fs hzf
    obtain ⟨h5, h6⟩ := h5
    rw [hzf] at hr
    simp only [RepC] at hr
    have hspec := partsFit_spec h5
    have hplace : ∀ i ∈ ps.toList.map (·.1), ∃ f, fs[i]? = some f ∧ ((fl.map fun f => (f.offset, szOf P f.type))[i]?) = some (ncellsL (fs.take i), ncells f) := by
      intro i hm
      obtain ⟨p, hp, rfl⟩ := List.mem_map.1 hm
      obtain ⟨f, ag, e1, e2, _⟩ := hspec p.1 p.2 hp
      refine ⟨f, e1, ?_⟩
      rw [hfl] at e2
      simp only [List.getElem?_map, Array.getElem?_toList] at e2
      cases hf : fl[p.1]? with
      | none => simp [hf] at e2
      | some q =>
        simp only [hf, Option.map_some, Option.some.injEq, Prod.mk.injEq] at e2
        simp [hf, e2.1, e2.2.1]
    obtain ⟨cells', e1, O', e2, e3⟩ := fill_rep (h := w.heap) (S := Sh ok Os1) (place := fun i => (fl.map fun f => (f.offset, szOf P f.type))[i]?) (ps.toList.map (·.1)) ((ps.toList.map (·.2)).map (ev (pulls σ (ps.toList.map (·.2))))) ((ps.toList.map (·.2)).map a.eval) fs z.cells (fun _ => False) O
      (by simp) hr g1 (fun k _ h => h) (fun y hy => by
        obtain ⟨x, hm, rfl⟩ := List.mem_map.1 hy
        obtain ⟨p, hp, rfl⟩ := List.mem_map.1 hm
        obtain ⟨_, _, _, _, _, hst⟩ := hspec p.1 p.2 hp
        exact hst)
      (fun j i y hj hy => by
        simp only [List.getElem?_map] at hj hy
        cases hp : ps.toList[j]? with
        | none => simp [hp] at hj
        | some p =>
          simp only [hp, Option.map_some, Option.some.injEq] at hj hy
          subst hj; subst hy
          obtain ⟨f, ag, q1, q2, q3, q4⟩ := hspec p.1 p.2 (List.mem_of_getElem? hp)
          exact ⟨f, q1, q3⟩)
      hplace
    rw [zip_map_fst] at e1 e2
    have hO : ∀ k, O' k → (∃ s ∈ usedOf (pulls σ (ps.toList.map (·.2))) (ps.toList.map (·.2)), Os1 s k) ∨ w.heap.size ≤ k := by
      intro k hk
      rcases e3 k hk with h | h
      · exact h.elim
      · exact .inl ((g2 k).1 h)
    have R' := R1.result d (.agg (setParts fs (ps.toList.map fun x => (x.1, ev (pulls σ (ps.toList.map (·.2))) x.2)))) (.agg cells') (usedOf (pulls σ (ps.toList.map (·.2))) (ps.toList.map (·.2))) w.heap O' hd (Nat.le_refl _) (fun _ _ _ => rfl) hO (by
      simp only [RepW]
      refine ⟨cells', rfl, ?_⟩
      simp only [RepC]
      exact repL_mono _ e2 ⟨fun k hk hlt => ⟨sh_result R1 hO hlt hk, rfl⟩, fun _ _ => rfl⟩) trivial
    refine ⟨_, .agg cells', w, _, _, ?_, .inl rfl, h6, R', rfl, rfl, rfl⟩
    have hsz : ∀ f ∈ fl, ((do pure (f.offset, ← sizeOf f.type) : Sem (Nat × Nat)).run P w = .ok (f.offset, szOf P f.type) w) := by
      intro f hf
      have : 0 < szOf P f.type := by
        rw [List.all_eq_true] at h3
        have := h3 (f.offset, szOf P f.type, aggTy P f.type) (by rw [hfl]; exact List.mem_map.2 ⟨f, by simpa using hf, rfl⟩)
        simpa using this
      simp [run_size this]
    have hm := run_mapA (P := P) (fun f : Field => (do pure (f.offset, ← sizeOf f.type) : Sem (Nat × Nat))) (fun f => (f.offset, szOf P f.type)) w fl hsz
    have hps : (ps.map fun (x : Nat × Operand) => (x.1, a.eval x.2)).toList = ps.toList.map fun x => (x.1, a.eval x.2) := by simp
    have hzv : (zeroValue t).run P w = .ok z w := by simp [zeroValue, typeInfo, hi, hz]
    simp only [Instr.build, Sem.run_bind, hzv, Result.andThen_ok, run_under hu, hm, hps, e1, Sem.run_pure]
  · exact h5.elim
end
end Go.Proofs.Ytklmfpikhejemaa.Am

namespace Go.Proofs.Ytklmfpikhejemaa.Am
open Go.RowKit AV
set_option linter.unusedVariables false

section
variable {P : Program} {h0 : Array Obj} {ok O0 : Nat → Prop} {σ : St} {a : Act} {w : World} {Os : Nat → Nat → Prop}

def elemsFit (σ : St) (n sz : Nat) : List (Nat × Operand) → Prop
  | [] => True
  | (i, x) :: r => (i < n ∧ ncells (ev σ x) = sz ∧ (ev σ x).stor = true) ∧ elemsFit σ n sz r
theorem elemsFit_spec {n sz : Nat} : ∀ {ps : List (Nat × Operand)}, elemsFit σ n sz ps → ∀ i x, (i, x) ∈ ps → i < n ∧ ncells (ev σ x) = sz ∧ (ev σ x).stor = true
  | [], _, i, x, hm => by cases hm
  | (j, y) :: r, h, i, x, hm => by
    rcases List.mem_cons.1 hm with he | hm
    · cases he; exact h.1
    · exact elemsFit_spec h.2 i x hm

def buildSliceW (P : Program) (σ : St) (t : TypeId) (n : Nat) (ps : List (Nat × Operand)) (d : Nat) (K : St → Prop) : Prop :=
  let σ1 := pulls σ (ps.map (·.2))
  (tinfo P t).kind = 1 ∧ (tinfo P t).ezok = true ∧ 0 < (tinfo P t).esz ∧ n * (tinfo P t).esz ≤ 16777216 ∧ (usedOf σ1 (ps.map (·.2))).Nodup ∧ elemsFit σ1 n (tinfo P t).esz ps ∧
    K (put σ1 d (.sl true (tinfo P t).esz (setParts (List.replicate n (tinfo P t).ezero) (ps.map fun x => (x.1, ev σ1 x.2)))) (usedOf σ1 (ps.map (·.2))))

theorem setParts_len : ∀ (fs : List AV) (ps : List (Nat × AV)), (setParts fs ps).length = fs.length
  | fs, [] => rfl
  | fs, (i, y) :: r => by simp only [setParts]; rw [setParts_len]; simp
theorem setParts_uni {sz : Nat} : ∀ (fs : List AV) (ps : List (Nat × AV)), (∀ x ∈ fs, x.ncells = sz) → (∀ i y, (i, y) ∈ ps → ncells y = sz) → ∀ x ∈ setParts fs ps, x.ncells = sz
  | fs, [], h, _ => h
  | fs, (i, y) :: r, h, hp => by
    simp only [setParts]
    refine setParts_uni _ r ?_ (fun j z hz => hp j z (List.mem_cons_of_mem _ hz))
    intro x hx
    rcases List.mem_or_eq_of_mem_set hx with hx | rfl
    · exact h x hx
    · exact hp i x (List.mem_cons_self ..)

theorem sim_buildSlice (R : Rel h0 ok O0 σ a.tmps w.heap Os) {ps : Array (Nat × Operand)} (hx : ∀ p ∈ ps.toList, opndOk a.tmps.size p.2 = true) {t : TypeId} {n : Nat} {d : Tmp} (hd : d < a.tmps.size) {K : St → Prop} (h : buildSliceW P σ t n ps.toList d K) :
    EffOk P h0 ok O0 a w (do pure (.value (← Instr.buildSlice t n (ps.map fun (i, x) => (i, a.eval x))))) (some d) K := by
  obtain ⟨h1, h2, h3, hlim, h4, h5, h6⟩ := h
  have hx' : ∀ x ∈ ps.toList.map (·.2), opndOk a.tmps.size x = true := by
    intro x hm
    obtain ⟨p, hp, rfl⟩ := List.mem_map.1 hm
    exact hx p hp
  obtain ⟨Os1, R1⟩ := pulls_ok (ps.toList.map (·.2)) R hx'
  obtain ⟨O, g1, g2⟩ := gather R1 _ hx' h4
  obtain ⟨e, hu, hs, hb, _, hz0, hzk⟩ := kind1 h1
  rw [hzk] at h2
  rw [hz0] at h6
  obtain ⟨i, z, hi, hz, hzs, hr⟩ := zok_rep h2 w.heap (Sh ok Os1)
  have hisz : i.size = (tinfo P t).esz := by rw [← hs]; simp [szOf, hi]
  have hzl := repC_len _ hr
  have hnc : ncells (zeroA P 12 e) = (tinfo P t).esz := by rw [← hzl, ← hisz, ← hzs]; simp
  have hml : (madeCells z.cells (n * i.size)).toList = (List.replicate n z.cells.toList).flatten := by rw [← hzs]; exact made_list _ _
  have hrep := repL_replicate hr n
  rw [← hml] at hrep
  have hspec := elemsFit_spec h5
  have hplace : ∀ i' ∈ ps.toList.map (·.1), ∃ f, (List.replicate n (zeroA P 12 e))[i']? = some f ∧ some (i' * szOf P e, szOf P e) = some (ncellsL ((List.replicate n (zeroA P 12 e)).take i'), ncells f) := by
    intro i' hm
    obtain ⟨p, hp, rfl⟩ := List.mem_map.1 hm
    obtain ⟨e1, _, _⟩ := hspec p.1 p.2 hp
    refine ⟨zeroA P 12 e, by simp [e1], ?_⟩
    rw [uni_take (sz := (tinfo P t).esz) (fun x hx => by rw [List.eq_of_mem_replicate hx]; exact hnc) (by simp; omega), hnc, hs]
  obtain ⟨cells', e1, O', e2, e3⟩ := fill_rep (h := w.heap) (S := Sh ok Os1) (place := fun i' => some (i' * szOf P e, szOf P e)) (ps.toList.map (·.1)) ((ps.toList.map (·.2)).map (ev (pulls σ (ps.toList.map (·.2))))) ((ps.toList.map (·.2)).map a.eval) (List.replicate n (zeroA P 12 e)) (madeCells z.cells (n * i.size)) (fun _ => False) O
    (by simp) hrep g1 (fun k _ h => h) (fun y hy => by
      obtain ⟨x, hm, rfl⟩ := List.mem_map.1 hy
      obtain ⟨p, hp, rfl⟩ := List.mem_map.1 hm
      exact (hspec p.1 p.2 hp).2.2)
    (fun j i' y hj hy => by
      simp only [List.getElem?_map] at hj hy
      cases hp : ps.toList[j]? with
      | none => simp [hp] at hj
      | some p =>
        simp only [hp, Option.map_some, Option.some.injEq] at hj hy
        subst hj; subst hy
        obtain ⟨q1, q2, q3⟩ := hspec p.1 p.2 (List.mem_of_getElem? hp)
        exact ⟨zeroA P 12 e, by simp [q1], by rw [q2, hnc]⟩)
    hplace
  rw [zip_map_fst] at e1 e2
  generalize hfs : setParts (List.replicate n (zeroA P 12 e)) (ps.toList.map fun x => (x.1, ev (pulls σ (ps.toList.map (·.2))) x.2)) = fs at *
  have hfl : fs.length = n := by rw [← hfs, setParts_len, List.length_replicate]
  have huni : ∀ x ∈ fs, x.ncells = (tinfo P t).esz := by
    rw [← hfs]
    refine setParts_uni _ _ (fun x hx => by rw [List.eq_of_mem_replicate hx]; exact hnc) ?_
    intro i' y hm
    obtain ⟨p, hp, he⟩ := List.mem_map.1 hm
    cases he
    exact (hspec p.1 p.2 hp).2.1
  have hcl := repL_len _ e2
  rw [len_of_uni huni, hfl, Array.length_toList, Nat.mul_comm] at hcl
  have hO : ∀ k, (k = w.heap.size ∨ O' k) → (∃ s ∈ usedOf (pulls σ (ps.toList.map (·.2))) (ps.toList.map (·.2)), Os1 s k) ∨ w.heap.size ≤ k := by
    rintro k (rfl | hk)
    · exact .inr (Nat.le_refl _)
    · rcases e3 k hk with h | h
      · exact h.elim
      · exact .inl ((g2 k).1 h)
  have hown := rep_own (h := w.heap.push (.cells cells' e)) (S := Sh ok (ownR Os1 d (fun k => k = w.heap.size ∨ O' k) (usedOf (pulls σ (ps.toList.map (·.2))) (ps.toList.map (·.2))))) (b := w.heap.size) (e := e) (cap := n) (xs := fs) (O' := O') h3
    ⟨(0, 0), push_new _ _, fun j _ h => absurd h.2 (Nat.not_lt_zero _)⟩ hcl (by omega) (by simp only [maxLen]; have := Nat.le_mul_of_pos_right n h3; omega)
    (by
      rw [hfl, List.take_of_length_le (by rw [Array.length_toList, hcl]; exact Nat.le_refl _)]
      exact repL_mono _ e2 ⟨fun k hk hlt => ⟨sh_result R1 hO hlt hk, push_old _ _ hlt⟩, fun k hk => push_old _ _ (repL_lt _ e2 k hk)⟩)
    huni (fun hk => absurd (repL_lt _ e2 _ hk) (Nat.lt_irrefl _)) (repL_one _ e2)
  rw [hfl] at hown
  have R' := R1.result d (.sl true (tinfo P t).esz fs) (.slice (some ⟨w.heap.size, 0, none⟩) n n) (usedOf (pulls σ (ps.toList.map (·.2))) (ps.toList.map (·.2))) (w.heap.push (.cells cells' e)) (fun k => k = w.heap.size ∨ O' k) hd (by simp) (fun k hk _ => push_old _ _ hk) hO (by simpa only [RepW] using hown) trivial
  refine ⟨_, .slice (some ⟨w.heap.size, 0, none⟩) n n, w.alloc (.cells cells' e), _, _, ?_, .inl rfl, h6, R', rfl, rfl, rfl⟩
  have hps : (ps.map fun (x : Nat × Operand) => (x.1, a.eval x.2)).toList = ps.toList.map fun x => (x.1, a.eval x.2) := by simp
  have hzv : (zeroValue e).run P w = .ok z w := by simp [zeroValue, typeInfo, hi, hz]
  have hsz : (sizeOf e).run P w = .ok (szOf P e) w := run_size (by omega)
  have hlim' : ¬ (n * szOf P e > 2 ^ 24) := by rw [hs]; omega
  have hei : i.size = szOf P e := by rw [hs, hisz]
  by_cases hn : n * szOf P e = 0
  · have hm0 : (madeCells z.cells (n * i.size)) = (Array.range (n * szOf P e)).map (fun j => (#[] : Array Value)[j % (#[] : Array Value).size]!) := by
      rw [hei, hn]; simp [madeCells, Array.range_zero']
    rw [hm0] at e1
    simp [Instr.buildSlice, run_under hu, hsz, hn, newRow] at e1 ⊢
    simp [e1]
  · simp only [madeCells, hei] at e1
    simp [Instr.buildSlice, run_under hu, hsz, hn, hzv, newRow, hlim'] at e1 ⊢
    simp [e1]
end
end Go.Proofs.Ytklmfpikhejemaa.Am
