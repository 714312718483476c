/- What the operations of a Go program bring about on values without memory, proved once for any program: part 3. No conditions beyond those at each theorem. -/
import Derived.Test.YtklmfpikhejemaaAm2
import Derived.OpenShut
import Derived.ProofKit
import Derived.Below
import Derived.Carry
import Derived.DataReads
import Derived.DataElems
namespace Go.Proofs.Ytklmfpikhejemaa.Am
open Go.RowKit AV
set_option linter.unusedVariables false

/-- A value of a type, as it comes in. -/
def Typed (P : Program) : Nat → TypeId → AV → Prop
  | 0, _, _ => False
  | n + 1, t, x => match P.underlying t with
    | some .bool => ∃ b, x = .bool b
    | some (.int k) => ∃ v, x = .int k v ∧ (Lit.int k v).wf = true
    | some .string => ∃ s, x = .str s ∧ s.length ≤ maxLen
    | some (.slice e) => ∃ xs, x = .sl false (P.cellsOf e) xs ∧ xs.length ≤ maxLen ∧ ∀ y ∈ xs, Typed P n e y
    | some (.struct fs) => ∃ ys, x = .agg ys ∧ ys.length = fs.size ∧ ∀ (i : Nat) (f : Field) (y : AV), fs[i]? = some f → ys[i]? = some y → Typed P n f.type y
    | some (.array l e) => ∃ ys, x = .arr (P.cellsOf e) ys ∧ ys.length = l ∧ ∀ y ∈ ys, Typed P n e y
    | _ => False

def fieldsGo (P : Program) (ts : List TypeId) : Nat → List Field → Option Nat
  | off, [] => some off
  | off, f :: r => if f.offset == off && ts.contains f.type then fieldsGo P ts (off + P.cellsOf f.type) r else none
/-- One level of a type whose parts are on the list. -/
def tyOk (P : Program) (ts : List TypeId) (t : TypeId) : Bool := match P.underlying t with
  | some .bool | some (.int _) | some .string => P.cellsOf t == 1
  | some (.slice e) => P.cellsOf t == 1 && ts.contains e && decide (0 < P.cellsOf e)
  | some (.struct fs) => fieldsGo P ts 0 fs.toList == some (P.cellsOf t)
  | some (.array l e) => ts.contains e && P.cellsOf e * l == P.cellsOf t
  | _ => false

theorem mapM_opt {α β : Type} {f : α → Option β} : ∀ {l : List α} {r : List β}, l.mapM f = some r → r.length = l.length ∧ ∀ (i : Nat) x, l[i]? = some x → ∃ y, r[i]? = some y ∧ f x = some y
  | [], r, h => by
    have : r = [] := by simpa using h.symm
    subst this
    exact ⟨rfl, by simp⟩
  | a :: l, r, h => by
    rw [List.mapM_cons] at h
    cases hf : f a with
    | none => simp [hf] at h
    | some y =>
      cases hm : l.mapM f with
      | none => simp [hf, hm] at h
      | some ys =>
        have : r = y :: ys := by simpa [hf, hm] using h.symm
        subst this
        obtain ⟨h1, h2⟩ := mapM_opt hm
        refine ⟨by simp [h1], ?_⟩
        intro i x hx
        cases i with
        | zero => simp only [List.getElem?_cons_zero, Option.some.injEq] at hx; subst hx; exact ⟨y, rfl, hf⟩
        | succ i => simpa using h2 i x (by simpa using hx)

section
variable {H : Type} {enc : TypeId × Value → H} {P : Program} {w : World} {ts : List TypeId}

/-- Many equal parts, one behind the other. -/
theorem many_rep {sz : Nat} : ∀ (cs : List (List Value)) (xs : List AV), cs.length = xs.length → (∀ (i : Nat) c x, cs[i]? = some c → xs[i]? = some x → RepC w.heap (fun _ => True) x c (fun _ => False) ∧ ncells x = sz) →
    RepL w.heap (fun _ => True) xs cs.flatten (fun _ => False) ∧ (∀ x ∈ xs, x.ncells = sz)
  | [], [], _, _ => by simp only [List.flatten_nil, RepL]; exact ⟨⟨trivial, emp_false⟩, by simp⟩
  | c :: cs, x :: xs, hl, h => by
    obtain ⟨h1, h2⟩ := many_rep cs xs (by simpa using hl) (fun i c' x' hc hx => h (i + 1) c' x' (by simpa using hc) (by simpa using hx))
    obtain ⟨h3, h4⟩ := h 0 c x rfl rfl
    simp only [List.flatten_cons, RepL]
    refine ⟨⟨c, _, fun _ => False, fun _ => False, rfl, by simp, by simp, h3, h1⟩, ?_⟩
    intro y hy
    rcases List.mem_cons.1 hy with rfl | hy
    · exact h4
    · exact h2 y hy
  | [], x :: xs, hl, _ => by simp at hl
  | c :: cs, [], hl, _ => by simp at hl

theorem flatten_get {sz : Nat} (hsz : 0 < sz) : ∀ (cs : List (List Value)), (∀ c ∈ cs, c.length = sz) → ∀ (j : Nat) u, cs.flatten[j]? = some u → ∃ c, cs[j / sz]? = some c ∧ c[j % sz]? = some u
  | [], _, j, u, h => by simp at h
  | c :: cs, hc, j, u, h => by
    have hcl := hc c (List.mem_cons_self ..)
    rw [List.flatten_cons] at h
    by_cases hj : j < sz
    · rw [List.getElem?_append_left (by omega)] at h
      rw [Nat.div_eq_of_lt hj, Nat.mod_eq_of_lt hj]
      exact ⟨c, rfl, h⟩
    · rw [List.getElem?_append_right (by omega), hcl] at h
      obtain ⟨c', h1, h2⟩ := flatten_get hsz cs (fun c' hm => hc c' (List.mem_cons_of_mem _ hm)) (j - sz) u h
      refine ⟨c', ?_, ?_⟩
      · rw [Nat.div_eq_sub_div hsz (by omega)]; simpa using h1
      · rw [Nat.mod_eq_sub_mod (by omega)]; exact h2

theorem list_choose {α β : Type} [Inhabited β] {p : Nat → β → Prop} : ∀ (n : Nat), (∀ i, i < n → ∃ y, p i y) → ∃ ys : List β, ys.length = n ∧ ∀ (i : Nat) y, ys[i]? = some y → p i y
  | 0, _ => ⟨[], rfl, by simp⟩
  | n + 1, h => by
    obtain ⟨ys, h1, h2⟩ := list_choose (α := α) n (fun i hi => h i (by omega))
    obtain ⟨y, hy⟩ := h n (by omega)
    refine ⟨ys ++ [y], by simp [h1], ?_⟩
    intro i z hz
    by_cases hi : i < n
    · rw [List.getElem?_append_left (by omega)] at hz
      exact h2 i z hz
    · have : i = n := by
        have := (List.getElem?_eq_some_iff.1 hz).1
        simp at this; omega
      subst this
      rw [List.getElem?_append_right (by omega), h1] at hz
      simp at hz
      subst hz; exact hy

theorem fieldsGo_le : ∀ (fs : List Field) (off tot : Nat), fieldsGo P ts off fs = some tot → off ≤ tot
  | [], off, tot, h => by simp [fieldsGo] at h; omega
  | f :: r, off, tot, h => by
    simp only [fieldsGo] at h
    split at h
    · have := fieldsGo_le r _ _ h; omega
    · cases h
theorem fields_rep {n : Nat} {cs : List Value} {tot : Nat} (hcs : cs.length = tot) : ∀ (fs : List Field) (off : Nat), fieldsGo P ts off fs = some tot →
    (∀ (i : Nat) (f : Field), fs[i]? = some f → f.type ∈ ts → ∃ y, Typed P n f.type y ∧ RepC w.heap (fun _ => True) y ((cs.drop f.offset).take (P.cellsOf f.type)) (fun _ => False) ∧ ncells y = P.cellsOf f.type) →
    ∃ ys : List AV, ys.length = fs.length ∧ (∀ (i : Nat) (f : Field) (y : AV), fs[i]? = some f → ys[i]? = some y → Typed P n f.type y) ∧ RepL w.heap (fun _ => True) ys (cs.drop off) (fun _ => False) ∧ ncellsL ys = tot - off
  | [], off, h, _ => by
    simp only [fieldsGo, Option.some.injEq] at h
    refine ⟨[], rfl, by simp, ?_, by simp [ncellsL]; omega⟩
    simp only [RepL]
    exact ⟨by apply List.drop_eq_nil_of_le; omega, emp_false⟩
  | f :: r, off, h, hf => by
    simp only [fieldsGo] at h
    split at h
    · rename_i hc
      simp only [Bool.and_eq_true, beq_iff_eq] at hc
      have hle := fieldsGo_le r _ _ h
      obtain ⟨y, h1, h2, h3⟩ := hf 0 f rfl (by simpa using hc.2)
      obtain ⟨ys, g1, g2, g3, g4⟩ := fields_rep hcs r _ h (fun i f' hi hm => hf (i + 1) f' (by simpa using hi) hm)
      refine ⟨y :: ys, by simp [g1], ?_, ?_, by simp only [ncellsL, g4, h3]; omega⟩
      · intro i f' y' hi hy
        cases i with
        | zero => simp at hi hy; subst hi; subst hy; exact h1
        | succ i => exact g2 i f' y' (by simpa using hi) (by simpa using hy)
      · simp only [RepL]
        rw [hc.1] at h2
        refine ⟨_, _, fun _ => False, fun _ => False, ?_, by simp, by simp, h2, g3⟩
        rw [← List.drop_drop, List.take_append_drop]
    · cases h

theorem trod_rep (hts : ts.all (tyOk P ts) = true) : ∀ (fuel : Nat) (t : TypeId) (cs : List Value) (x : DataW H × List MemPlace), t ∈ ts → DataW.trod enc P w 0 (fun _ => true) true fuel t cs = some x →
    ∃ y, Typed P fuel t y ∧ RepC w.heap (fun _ => True) y cs (fun _ => False) ∧ ncells y = P.cellsOf t
  | 0, t, cs, x, _, h => by simp [DataW.trod] at h
  | fuel + 1, t, cs, x, ht, h => by
    have hok := (List.all_eq_true.1 hts) t ht
    unfold tyOk at hok
    unfold Typed
    cases hu : P.underlying t with
    | none => simp [hu] at hok
    | some desc =>
      rw [hu] at hok
      cases desc <;> simp only [Bool.false_eq_true] at hok
      case bool =>
        obtain ⟨b, rfl, _⟩ := DataW.trod_bool hu h
        exact ⟨.bool b, ⟨b, rfl⟩, by simp only [RepC]; exact ⟨trivial, emp_false⟩, by simpa [ncells] using (beq_iff_eq.1 hok).symm⟩
      case int k =>
        obtain ⟨n, rfl, _, hw⟩ := DataW.trod_int hu h
        exact ⟨.int k n, ⟨n, rfl, hw⟩, by simp only [RepC]; exact ⟨trivial, emp_false⟩, by simpa [ncells] using (beq_iff_eq.1 hok).symm⟩
      case string =>
        obtain ⟨s, rfl, _, hs⟩ := DataW.trod_string hu h
        exact ⟨.str s.data.toList, ⟨_, rfl, by rw [Array.length_toList]; exact hs⟩, by simp only [RepC]; exact ⟨by simp, emp_false⟩, by simpa [ncells] using (beq_iff_eq.1 hok).symm⟩
      case slice e =>
        simp only [Bool.and_eq_true, beq_iff_eq, decide_eq_true_eq] at hok
        obtain ⟨⟨hok1, hok2⟩, hok3⟩ := hok
        have he : e ∈ ts := by simpa using hok2
        rcases DataW.trod_slice hu h with ⟨rfl, _⟩ | ⟨a, len, cap, elems, rest, n, hn, rfl, _, hb, hl, hcm, hel, hget, _⟩
        · refine ⟨.sl false (P.cellsOf e) [], ⟨[], rfl, Nat.zero_le _, by simp⟩, ?_, by simpa [ncells] using hok1.symm⟩
          simp only [RepC]
          exact ⟨⟨none, 0, [], rfl, by simp, by simp only [RepL]; exact ⟨trivial, emp_false⟩, by simp, by simp⟩, emp_false⟩
        · have hn' : n = fuel := by omega
          subst hn'
          have hall : ∀ i, i < len → ∃ cy : List Value × AV, w.cells? 0 (a.add (i * P.cellsOf e)) (P.cellsOf e) = some cy.1 ∧ Typed P n e cy.2 ∧ RepC w.heap (fun _ => True) cy.2 cy.1 (fun _ => False) ∧ ncells cy.2 = P.cellsOf e := by
            intro i hi
            have hg := hget i hi
            rw [List.getElem?_eq_getElem (by omega)] at hg
            cases hc : w.cells? 0 (a.add (i * P.cellsOf e)) (P.cellsOf e) with
            | none => simp [hc] at hg
            | some c =>
              simp only [hc, Option.bind_some] at hg
              obtain ⟨y, h1, h2, h3⟩ := trod_rep hts n e c _ he hg
              exact ⟨(c, y), rfl, h1, h2, h3⟩
          obtain ⟨cys, k1, k2⟩ := list_choose (α := Nat) len hall
          have hcs : ∀ c ∈ cys.map (·.1), c.length = P.cellsOf e := by
            intro c hc
            obtain ⟨cy, hm, rfl⟩ := List.mem_map.1 hc
            obtain ⟨i, hi⟩ := List.getElem?_of_mem hm
            exact (World.cells?_some (k2 i cy hi).1).2.1
          obtain ⟨g1, g2⟩ := many_rep (w := w) (sz := P.cellsOf e) (cys.map (·.1)) (cys.map (·.2)) (by simp) (fun i c x hc hx => by
            simp only [List.getElem?_map] at hc hx
            cases hcy : cys[i]? with
            | none => simp [hcy] at hc
            | some cy =>
              simp only [hcy, Option.map_some, Option.some.injEq] at hc hx
              subst hc; subst hx
              exact ⟨(k2 i cy hcy).2.2.1, (k2 i cy hcy).2.2.2⟩)
          refine ⟨.sl false (P.cellsOf e) (cys.map (·.2)), ⟨_, rfl, by rw [List.length_map, k1]; exact Nat.le_trans hl hcm, ?_⟩, ?_, by simpa [ncells] using hok1.symm⟩
          · intro y hy
            obtain ⟨cy, hm, rfl⟩ := List.mem_map.1 hy
            obtain ⟨i, hi⟩ := List.getElem?_of_mem hm
            exact (k2 i cy hi).2.1
          · simp only [RepC]
            refine ⟨⟨some a, cap, (cys.map (·.1)).flatten, by simp [k1], by rw [List.length_map, k1]; exact hl, g1, g2, fun _ => ⟨a, rfl, fun _ => trivial, ?_⟩⟩, emp_false⟩
            intro j u hj
            obtain ⟨c, h1, h2⟩ := flatten_get hok3 _ hcs j u hj
            simp only [List.getElem?_map] at h1
            cases hcy : cys[j / P.cellsOf e]? with
            | none => simp [hcy] at h1
            | some cy =>
              simp only [hcy, Option.map_some, Option.some.injEq] at h1
              subst h1
              have hcell := (World.cells?_some (k2 _ cy hcy).1).2.2 (j % P.cellsOf e) (Nat.mod_lt _ hok3)
              rw [h2, Addr.add_add] at hcell
              rw [show j / P.cellsOf e * P.cellsOf e + j % P.cellsOf e = j by rw [Nat.mul_comm]; exact Nat.div_add_mod j (P.cellsOf e)] at hcell
              rw [← cell_eq]; exact hcell
      case struct fs =>
        obtain ⟨xs, n, hn, _, hl, hxl, hg⟩ := DataW.trod_struct hu h
        have hn' : n = fuel := by omega
        subst hn'
        obtain ⟨ys, g1, g2, g3, g4⟩ := fields_rep (w := w) (n := n) hl fs.toList 0 (beq_iff_eq.1 hok) (fun i f hi hm => by
          have hf := hg i f (by rw [← hi]; simp)
          have hlt : i < fs.size := by simpa using (List.getElem?_eq_some_iff.1 hi).1
          rw [List.getElem?_eq_getElem (by omega)] at hf
          exact trod_rep hts n f.type _ _ hm hf)
        refine ⟨.agg ys, ⟨ys, rfl, by simpa using g1, fun i f y hi hy => g2 i f y (by rw [← hi]; simp) hy⟩, by simp only [RepC]; simpa using g3, by simp only [ncells]; simpa using g4⟩
      case array l e =>
        simp only [Bool.and_eq_true, beq_iff_eq] at hok
        have he : e ∈ ts := by simpa using hok.1
        obtain ⟨xs, n, hn, _, hl, hxl, hg⟩ := DataW.trod_array hu h
        have hn' : n = fuel := by omega
        subst hn'
        have hall : ∀ i, i < l → ∃ cy : List Value × AV, cy.1 = (cs.drop (i * P.cellsOf e)).take (P.cellsOf e) ∧ Typed P n e cy.2 ∧ RepC w.heap (fun _ => True) cy.2 cy.1 (fun _ => False) ∧ ncells cy.2 = P.cellsOf e := by
          intro i hi
          have hf := hg i hi
          rw [List.getElem?_eq_getElem (by omega)] at hf
          obtain ⟨y, h1, h2, h3⟩ := trod_rep hts n e _ _ he hf
          exact ⟨(_, y), rfl, h1, h2, h3⟩
        obtain ⟨cys, k1, k2⟩ := list_choose (α := Nat) l hall
        obtain ⟨g1, g2⟩ := many_rep (w := w) (sz := P.cellsOf e) (cys.map (·.1)) (cys.map (·.2)) (by simp) (fun i c x hc hx => by
          simp only [List.getElem?_map] at hc hx
          cases hcy : cys[i]? with
          | none => simp [hcy] at hc
          | some cy =>
            simp only [hcy, Option.map_some, Option.some.injEq] at hc hx
            subst hc; subst hx
            exact ⟨(k2 i cy hcy).2.2.1, (k2 i cy hcy).2.2.2⟩)
        have hfl : ∀ (k : Nat) (cys' : List (List Value × AV)), (∀ (i : Nat) cy, cys'[i]? = some cy → cy.1 = (cs.drop ((k + i) * P.cellsOf e)).take (P.cellsOf e)) → (k + cys'.length) * P.cellsOf e = cs.length → (cys'.map (·.1)).flatten = cs.drop (k * P.cellsOf e) := by
          intro k cys'
          induction cys' generalizing k with
          | nil =>
            intro _ hlen
            simp only [List.map_nil, List.flatten_nil]
            exact (List.drop_eq_nil_of_le (by simp at hlen; omega)).symm
          | cons cy r ih =>
            intro hi hlen
            have h0 := hi 0 cy rfl
            rw [Nat.add_zero] at h0
            simp only [List.map_cons, List.flatten_cons]
            rw [ih (k + 1) (fun i c hc => by rw [hi (i + 1) c (by simpa using hc)]; congr 2; rw [show k + (i + 1) = k + 1 + i by omega]) (by rw [← hlen]; simp; congr 1; omega), h0, Nat.add_mul, Nat.one_mul, ← List.drop_drop, List.take_append_drop]
        have hfl0 := hfl 0 cys (fun i cy hi => by rw [Nat.zero_add]; exact (k2 i cy hi).1) (by rw [Nat.zero_add, k1, hl, ← hok.2, Nat.mul_comm])
        rw [Nat.zero_mul, List.drop_zero] at hfl0
        rw [hfl0] at g1
        refine ⟨.arr (P.cellsOf e) (cys.map (·.2)), ⟨_, rfl, by rw [List.length_map, k1], ?_⟩, by simp only [RepC]; exact ⟨g1, g2⟩, ?_⟩
        · intro y hy
          obtain ⟨cy, hm, rfl⟩ := List.mem_map.1 hy
          obtain ⟨i, hi⟩ := List.getElem?_of_mem hm
          exact (k2 i cy hi).2.1
        · simp only [ncells, List.length_map, k1]; exact hok.2
end
end Go.Proofs.Ytklmfpikhejemaa.Am
namespace Go.Proofs.Ytklmfpikhejemaa.Am
open Go.RowKit AV Go.ChangeShapes Go.WideShapes Go.ChangeAt
set_option linter.unusedVariables false

def TypedL (P : Program) : List TypeId → List AV → Prop
  | [], [] => True
  | t :: ts, x :: xs => (∃ n, Typed P n t x) ∧ TypedL P ts xs
  | _, _ => False

section
variable {H : Type} {enc : TypeId × Value → H} {P : Program} {w : World} {ts : List TypeId}

theorem typed_rep {n : Nat} {t : TypeId} {v : Value} {y : AV} {base : Nat} (T : Typed P n t y) (hv : Value.okWide P w .any base t v) (r : RepC w.heap (fun _ => True) y v.cells.toList (fun _ => False)) : RepW w.heap (fun _ => True) y v (fun _ => False) := by
  cases n with
  | zero => exact T.elim
  | succ n =>
    unfold Typed at T
    split at T
    · rename_i hu
      obtain ⟨b, rfl⟩ := T
      obtain ⟨b', rfl⟩ := okWide_bool hu hv
      simpa only [RepW, Value.cells] using r
    · rename_i k hu
      obtain ⟨m, rfl, _⟩ := T
      obtain ⟨m', rfl⟩ := okWide_int hu hv
      simpa only [RepW, Value.cells] using r
    · rename_i hu
      obtain ⟨s, rfl, _⟩ := T
      obtain ⟨s', rfl⟩ := okWide_string hu hv
      simpa only [RepW, Value.cells] using r
    · rename_i e hu
      obtain ⟨xs, rfl, _⟩ := T
      obtain ⟨a, l, c, rfl⟩ := okWide_slice hu hv
      simpa only [RepW, Value.cells] using r
    · rename_i fs hu
      obtain ⟨ys, rfl, _⟩ := T
      obtain ⟨cs, rfl, _⟩ := okWide_struct hu hv
      simp only [RepW]
      exact ⟨cs, rfl, by simpa only [Value.cells] using r⟩
    · rename_i l e hu
      obtain ⟨ys, rfl, _⟩ := T
      simp only [Value.okWide, hu] at hv
      obtain ⟨cs, rfl, _⟩ := hv
      simp only [RepW]
      exact ⟨cs, rfl, by simpa only [Value.cells] using r⟩
    · exact T.elim

theorem args_in (hl : laidOutB P = true) (hts : ts.all (tyOk P ts) = true) : ∀ (ps : List TypeId) (vs : List Value) (ds : List (DataW H)) (q : List MemPlace), ps.all (fun t => ts.contains t && P.readableRec t && decide (t < P.types.size)) = true →
    (∀ (j : Nat) t v, ps[j]? = some t → vs[j]? = some v → ∃ base, Value.okWide P w .any base t v) → DataW.TrodAll enc P w 0 (fun _ => true) true ps vs ds q →
    ds.length = ps.length ∧ (∃ xs, TypedL P ps xs ∧ RepWs w.heap (fun _ => True) xs vs (fun _ => False)) ∧
    ∀ W', Below w.heap.size w W' → DataW.TrodAll enc P W' 0 (fun b => decide (b < w.heap.size)) true ps vs ds q
  | [], vs, ds, q, _, _, h => by
    obtain ⟨rfl, rfl, rfl⟩ := trodAll_nil h
    exact ⟨rfl, ⟨[], trivial, by simp only [RepWs]; exact ⟨trivial, emp_false⟩⟩, fun _ _ => rfl⟩
  | t :: ps, vs, ds, q, hp, hv, h => by
    obtain ⟨v, vs', d, ds', p, q', rfl, rfl, rfl, h0, h1⟩ := trodAll_cons h
    simp only [List.all_cons, Bool.and_eq_true, decide_eq_true_eq] at hp
    obtain ⟨⟨⟨hp1, hp2⟩, hp3⟩, hp4⟩ := hp
    obtain ⟨g1, ⟨xs, g2, g3⟩, g4⟩ := args_in hl hts ps vs' ds' q' hp4 (fun j t' v' ht hv' => hv (j + 1) t' v' (by simpa using ht) (by simpa using hv')) h1
    obtain ⟨base, hv0⟩ := hv 0 t v rfl rfl
    have h0' := h0
    obtain ⟨fuel, hf⟩ := h0
    obtain ⟨y, T, r, _⟩ := trod_rep hts fuel t v.cells.toList _ (by simpa using hp1) hf
    refine ⟨by simp [g1], ⟨y :: xs, ⟨⟨fuel, T⟩, g2⟩, ?_⟩, ?_⟩
    · simp only [RepWs]
      exact ⟨v, vs', fun _ => False, fun _ => False, rfl, by simp, by simp, typed_rep T hv0 r, g3⟩
    · intro W' hb
      exact ⟨p, q', Below.trod hl hp2 hp3 h0' hb (fun x hx => DataW.trod_lt fuel _ _ _ hf x hx), g4 W' hb, rfl⟩

/-- A row: 'whatever the input: true; the input reads as it did', from what the law does without memory. -/
theorem contract_of_fits {f : FuncId} {fn : Func} {s : ChangeSpec} (tb : TypeId) (ts : List TypeId) (hl : laidOutB P = true) (hts : ts.all (tyOk P ts) = true)
    (hpar : fn.params.toList.all (fun t => ts.contains t && P.readableRec t && decide (t < P.types.size)) = true) (hres : fn.resultTypes = #[tb]) (htb : P.underlying tb = some .bool) (hvars : s.vars = [])
    (hs : ∀ ds : List (DataW H), ds.length = fn.params.toList.length → s.fn H (ds ++ []) = { results := [.lit (.bool true)], args := ds })
    (hf : ∀ xs, TypedL P fn.params.toList xs → Fits P f xs (.bool true) [])
    (W : World) (base : Nat) (args : Array Value) (ds gs : List (DataW H)) (before : List MemPlace)
    (hval : ∀ (j : Nat) t v, fn.params[j]? = some t → args[j]? = some v → Value.okWide P W .any base t v)
    (hW : DataW.Whole enc P fn.params.toList s.vars false W args.toList ds gs before) :
    Calls P f args W fun e W' => ∃ v, e = .returned v ∧ s.post enc P fn false true false false W args v W' := by
  have hW' := hW
  obtain ⟨p, q, hA, hV, rfl, hfz, hnd⟩ := hW
  rw [hvars] at hV
  obtain ⟨rfl, rfl⟩ := trodVars_none hV
  obtain ⟨g1, ⟨xs, g2, g3⟩, g4⟩ := args_in hl hts fn.params.toList args.toList ds p hpar (fun j t v ht hv => ⟨base, hval j t v (by simpa using ht) (by simpa using hv)⟩) hA
  have hF := (hf xs g2).2 W args.toList (fun _ => True) (fun _ => False) (fun _ _ => trivial) (repWs_mono _ g3 ⟨fun k _ _ => ⟨⟨trivial, id⟩, rfl⟩, fun _ _ => rfl⟩)
  rw [Array.toArray_toList] at hF
  refine hF.mono ?_
  rintro e W' ⟨v, Or, Oo, rfl, k1, k2, k3, k4, k5, k6, _, _, _⟩
  have hv : v = .bool true := by
    simp only [RepW, RepC] at k6
    simpa using k6.1
  subst hv
  have hb : Below W.heap.size W W' := ⟨k1, k2, k3, k4, fun k hk => k5 k hk id⟩
  refine ⟨_, rfl, ds, [], p ++ [], [], p, [], hW', ?_, ?_, ?_, hb.frame _, fun h => by cases h⟩
  · rw [hs ds g1, hres]
    exact trodAll_mk1 (shut_bool htb _)
  · rw [hs ds g1]
    exact g4 W' hb
  · rw [hs ds g1, hvars]
    rfl
end
end Go.Proofs.Ytklmfpikhejemaa.Am
namespace Go.Proofs.Ytklmfpikhejemaa.Am
open Go.RowKit AV
set_option linter.unusedVariables false

/-! Great regions are written as lists that are joined. -/
theorem run_regionT {P : Program} {cw : CW} {vars : List Nat} {Q : Post} (k : List It) (σ : St) (id : Nat) (ops : List Oper) : Run P cw vars Q (.code (.region id (List.toArray ops) false) :: k) σ = Run P cw vars Q (.ops ops ops :: k) σ := rfl
theorem run_drawT {P : Program} {cw : CW} {vars : List Nat} {Q : Post} (k : List It) (σ : St) (id : Nat) (ops : List Oper) : Run P cw vars Q (.code (.region id (List.toArray ops) true) :: k) σ = (drawOk P ops = true ∧ Run P cw vars Q (.drw ops (ops.filterMap (·.dst)) ops :: k) σ) := rfl
theorem lapp_nil {α : Type} (b : List α) : List.append [] b = b := rfl
theorem lapp_cons {α : Type} (x : α) (a b : List α) : List.append (x :: a) b = x :: List.append a b := rfl
/-! Rules whose conditions 'omega' shows. -/
theorem wrap_i64 {x : Int} (h1 : -9223372036854775808 ≤ x) (h2 : x ≤ 9223372036854775807) : IntKind.wrap .i64 x = x := by
  simp [IntKind.wrap, IntKind.bits, IntKind.signed]; omega
theorem wrap_u8 {x : Int} (h1 : 0 ≤ x) (h2 : x ≤ 255) : IntKind.wrap .u8 x = x := by
  simp [IntKind.wrap, IntKind.bits, IntKind.signed]; omega
theorem ilt_t {a b : Int} (h : a < b) : (a < b) = True := eq_true h
theorem ilt_f {a b : Int} (h : b ≤ a) : (a < b) = False := eq_false (by omega)
theorem ile_t {a b : Int} (h : a ≤ b) : (a ≤ b) = True := eq_true h
theorem ile_f {a b : Int} (h : b < a) : (a ≤ b) = False := eq_false (by omega)
theorem nlt_t {a b : Nat} (h : a < b) : (a < b) = True := eq_true h
theorem nlt_f {a b : Nat} (h : b ≤ a) : (a < b) = False := eq_false (by omega)
theorem nle_t {a b : Nat} (h : a ≤ b) : (a ≤ b) = True := eq_true h
theorem nle_f {a b : Nat} (h : b < a) : (a ≤ b) = False := eq_false (by omega)
theorem ibeq_t {a b : Int} (h : a = b) : (a == b) = true := by simp [h]
theorem ibeq_f {a b : Int} (h : a ≠ b) : (a == b) = false := by simp [h]
theorem ibne_t {a b : Int} (h : a ≠ b) : (a != b) = true := by simp [h]
theorem ibne_f {a b : Int} (h : a = b) : (a != b) = false := by simp [h]
theorem getD_map' {α : Type} (f : α → AV) (xs : List α) (i : Nat) (h : i < xs.length) : (xs.map f).getD i .undef = f xs[i] := by simp [List.getD, h]
theorem get_map' {α : Type} (f : α → AV) (xs : List α) (i : Nat) (h : i < xs.length) : (xs.map f)[i]? = some (f xs[i]) := by simp [h]
theorem toNat_cast_sub {a b : Nat} (h : b ≤ a) : ((a : Int) - (b : Int)).toNat = a - b := by omega
section
variable {P : Program} {cw : CW} {vars : List Nat} {Q : Post} {p : Prop} [Decidable p] {x y : Code} {σ : St} {k : List It} {t : Bool} {a b : Int} {o : Oper} {all l : List Oper} {ds : List Nat} {want : Bool}
theorem cond_not (t : Bool) (x y : Code) (k : List It) (σ : St) : condR P cw vars Q (.bool (!t)) x y k σ = condR P cw vars Q (.bool t) y x k σ := by cases t <;> simp [condR]
theorem guard_not (t want : Bool) (o : Oper) (all l : List Oper) (k : List It) (σ : St) : guardR P cw vars Q (.bool (!t)) want o all l k σ = guardR P cw vars Q (.bool t) (!want) o all l k σ := by cases t <;> cases want <;> rfl
theorem guardD_not (t want : Bool) (o : Oper) (all : List Oper) (ds : List Nat) (l : List Oper) (k : List It) (σ : St) : guardD P cw vars Q (.bool (!t)) want o all ds l k σ = guardD P cw vars Q (.bool t) (!want) o all ds l k σ := by cases t <;> cases want <;> rfl
/-! The tests, split. -/
theorem cond_dec (h1 : p → condR P cw vars Q (.bool true) x y k σ) (h2 : ¬ p → condR P cw vars Q (.bool false) x y k σ) : condR P cw vars Q (.bool (decide p)) x y k σ := by
  by_cases h : p
  · simpa [h] using h1 h
  · simpa [h] using h2 h
theorem cond_beq (h1 : a = b → condR P cw vars Q (.bool true) x y k σ) (h2 : a ≠ b → condR P cw vars Q (.bool false) x y k σ) : condR P cw vars Q (.bool (a == b)) x y k σ := by
  by_cases h : a = b
  · simpa [h] using h1 h
  · rw [show (a == b) = false by simp [h]]; exact h2 h
theorem cond_bne (h1 : a ≠ b → condR P cw vars Q (.bool true) x y k σ) (h2 : a = b → condR P cw vars Q (.bool false) x y k σ) : condR P cw vars Q (.bool (a != b)) x y k σ := by
  by_cases h : a = b
  · simpa [h] using h2 h
  · rw [show (a != b) = true by simp [h]]; exact h1 h
theorem cond_of (h1 : t = true → condR P cw vars Q (.bool true) x y k σ) (h2 : t = false → condR P cw vars Q (.bool false) x y k σ) : condR P cw vars Q (.bool t) x y k σ := by
  cases t
  · exact h2 rfl
  · exact h1 rfl
theorem guard_dec (h1 : p → guardR P cw vars Q (.bool true) want o all l k σ) (h2 : ¬ p → guardR P cw vars Q (.bool false) want o all l k σ) : guardR P cw vars Q (.bool (decide p)) want o all l k σ := by
  by_cases h : p
  · simpa [h] using h1 h
  · simpa [h] using h2 h
theorem guard_beq (h1 : a = b → guardR P cw vars Q (.bool true) want o all l k σ) (h2 : a ≠ b → guardR P cw vars Q (.bool false) want o all l k σ) : guardR P cw vars Q (.bool (a == b)) want o all l k σ := by
  by_cases h : a = b
  · simpa [h] using h1 h
  · rw [show (a == b) = false by simp [h]]; exact h2 h
theorem guard_bne (h1 : a ≠ b → guardR P cw vars Q (.bool true) want o all l k σ) (h2 : a = b → guardR P cw vars Q (.bool false) want o all l k σ) : guardR P cw vars Q (.bool (a != b)) want o all l k σ := by
  by_cases h : a = b
  · simpa [h] using h2 h
  · rw [show (a != b) = true by simp [h]]; exact h1 h
theorem guard_of (h1 : t = true → guardR P cw vars Q (.bool true) want o all l k σ) (h2 : t = false → guardR P cw vars Q (.bool false) want o all l k σ) : guardR P cw vars Q (.bool t) want o all l k σ := by
  cases t
  · exact h2 rfl
  · exact h1 rfl
theorem guardD_dec (h1 : p → guardD P cw vars Q (.bool true) want o all ds l k σ) (h2 : ¬ p → guardD P cw vars Q (.bool false) want o all ds l k σ) : guardD P cw vars Q (.bool (decide p)) want o all ds l k σ := by
  by_cases h : p
  · simpa [h] using h1 h
  · simpa [h] using h2 h
theorem guardD_beq (h1 : a = b → guardD P cw vars Q (.bool true) want o all ds l k σ) (h2 : a ≠ b → guardD P cw vars Q (.bool false) want o all ds l k σ) : guardD P cw vars Q (.bool (a == b)) want o all ds l k σ := by
  by_cases h : a = b
  · simpa [h] using h1 h
  · rw [show (a == b) = false by simp [h]]; exact h2 h
theorem guardD_bne (h1 : a ≠ b → guardD P cw vars Q (.bool true) want o all ds l k σ) (h2 : a = b → guardD P cw vars Q (.bool false) want o all ds l k σ) : guardD P cw vars Q (.bool (a != b)) want o all ds l k σ := by
  by_cases h : a = b
  · simpa [h] using h2 h
  · rw [show (a != b) = true by simp [h]]; exact h1 h
theorem guardD_of (h1 : t = true → guardD P cw vars Q (.bool true) want o all ds l k σ) (h2 : t = false → guardD P cw vars Q (.bool false) want o all ds l k σ) : guardD P cw vars Q (.bool t) want o all ds l k σ := by
  cases t
  · exact h2 rfl
  · exact h1 rfl
end
end Go.Proofs.Ytklmfpikhejemaa.Am
namespace Go.Proofs.Ytklmfpikhejemaa.Am
open Go.RowKit AV
set_option linter.unusedVariables false
theorem am0 : type_of% @run_draw ∧ type_of% @run_drw ∧ type_of% @drw_none ∧ type_of% @drw_some ∧ type_of% @gd_tt ∧ type_of% @gd_ff ∧ type_of% @gd_tf ∧ type_of% @gd_ft ∧ type_of% @gd_skip ∧ type_of% @chk_move ∧ type_of% @chk_pick ∧ type_of% @chk_load ∧ type_of% @chk_binOp ∧ type_of% @chk_unOp ∧ type_of% @chk_fieldAddr ∧ type_of% @chk_indexAddr ∧ type_of% @chk_index ∧ type_of% @chk_slice ∧ type_of% @chk_len ∧ type_of% @chk_fn ∧ type_of% @chk_alloc ∧ type_of% @chk_assign ∧ type_of% @chk_box ∧ type_of% @chk_build ∧ type_of% @chk_buildSlice ∧ type_of% @chk_store ∧ type_of% @chk_makeSlice ∧ type_of% @chk_extract ∧ type_of% @chk_append ∧ type_of% @tmpsOf.eq_1 ∧ type_of% @tmpsOf.eq_2 ∧ type_of% @tmpsOf.eq_3 ∧ type_of% @looks_none ∧ type_of% @looks_some ∧ type_of% @gtmp_some ∧ type_of% @gtmp_none ∧ type_of% @check1_eq ∧ type_of% @ck_undef ∧ type_of% @ck_oth ∧ type_of% @ck_int ∧ type_of% @ck_bool ∧ type_of% @ck_str ∧ type_of% @ck_sl ∧ type_of% @ck_agg ∧ type_of% @ck_arr ∧ type_of% @ck_tup ∧ type_of% @ck_box ∧ type_of% @ck_dptr ∧ type_of% @ck_vref ∧ type_of% @ck_vagg ∧ type_of% @ck_vsub ∧ type_of% @ck_ptr ∧ type_of% @ct_sl ∧ type_of% @ct_agg ∧ type_of% @ct_arr ∧ type_of% @ct_box ∧ type_of% @Op.operands.eq_1 ∧ type_of% @Op.operands.eq_2 ∧ type_of% @Op.operands.eq_3 ∧ type_of% @Op.operands.eq_4 ∧ type_of% @Op.operands.eq_5 ∧ type_of% @Op.operands.eq_6 ∧ type_of% @Op.operands.eq_7 ∧ type_of% @Op.operands.eq_8 ∧ type_of% @Op.operands.eq_9 ∧ type_of% @Op.operands.eq_10 ∧ type_of% @Op.operands.eq_11 ∧ type_of% @Op.operands.eq_12 ∧ type_of% @Op.operands.eq_13 ∧ type_of% @Op.operands.eq_14 := ⟨@run_draw, @run_drw, @drw_none, @drw_some, @gd_tt, @gd_ff, @gd_tf, @gd_ft, @gd_skip, @chk_move, @chk_pick, @chk_load, @chk_binOp, @chk_unOp, @chk_fieldAddr, @chk_indexAddr, @chk_index, @chk_slice, @chk_len, @chk_fn, @chk_alloc, @chk_assign, @chk_box, @chk_build, @chk_buildSlice, @chk_store, @chk_makeSlice, @chk_extract, @chk_append, @tmpsOf.eq_1, @tmpsOf.eq_2, @tmpsOf.eq_3, @looks_none, @looks_some, @gtmp_some, @gtmp_none, @check1_eq, @ck_undef, @ck_oth, @ck_int, @ck_bool, @ck_str, @ck_sl, @ck_agg, @ck_arr, @ck_tup, @ck_box, @ck_dptr, @ck_vref, @ck_vagg, @ck_vsub, @ck_ptr, @ct_sl, @ct_agg, @ct_arr, @ct_box, @Op.operands.eq_1, @Op.operands.eq_2, @Op.operands.eq_3, @Op.operands.eq_4, @Op.operands.eq_5, @Op.operands.eq_6, @Op.operands.eq_7, @Op.operands.eq_8, @Op.operands.eq_9, @Op.operands.eq_10, @Op.operands.eq_11, @Op.operands.eq_12, @Op.operands.eq_13, @Op.operands.eq_14⟩
theorem am1 : type_of% @Op.operands.eq_15 ∧ type_of% @Op.operands.eq_16 ∧ type_of% @Op.operands.eq_17 ∧ type_of% @Op.operands.eq_18 ∧ type_of% @Op.operands.eq_19 ∧ type_of% @Op.operands.eq_20 ∧ type_of% @Op.operands.eq_21 ∧ type_of% @Op.operands.eq_22 ∧ type_of% @Op.operands.eq_23 ∧ type_of% @Op.operands.eq_24 ∧ type_of% @Op.operands.eq_25 ∧ type_of% @Op.operands.eq_26 ∧ type_of% @Op.operands.eq_27 ∧ type_of% @Op.operands.eq_28 ∧ type_of% @Op.operands.eq_29 ∧ type_of% @Op.operands.eq_30 ∧ type_of% @Op.operands.eq_31 ∧ type_of% @Op.operands.eq_32 ∧ type_of% @Op.operands.eq_33 ∧ type_of% @Op.operands.eq_34 ∧ type_of% @Op.operands.eq_35 ∧ type_of% @Op.operands.eq_36 ∧ type_of% @Op.operands.eq_37 ∧ type_of% @Op.operands.eq_38 ∧ type_of% @Op.operands.eq_39 ∧ type_of% @Op.operands.eq_40 ∧ type_of% @Op.operands.eq_41 ∧ type_of% @Op.operands.eq_42 ∧ type_of% @Op.operands.eq_43 ∧ type_of% @Call.operands.eq_1 ∧ type_of% @List.all_cons.{0} ∧ type_of% @List.all_nil.{0} ∧ type_of% @Bool.and_true ∧ type_of% @Bool.true_and ∧ type_of% @List.filterMap_cons.{0,0} ∧ type_of% @List.filterMap_nil.{0,0} ∧ type_of% @Array.toList_append.{0} ∧ type_of% @run_nil ∧ type_of% @run_skip ∧ type_of% @run_seq ∧ type_of% @run_region ∧ type_of% @run_ops ∧ type_of% @run_cond ∧ type_of% @cond_t ∧ type_of% @cond_f ∧ type_of% @run_block ∧ type_of% @run_blk ∧ type_of% @run_exit ∧ type_of% @kx_nil ∧ type_of% @kx_code ∧ type_of% @kx_blk ∧ type_of% @run_ret ∧ type_of% @kr_code ∧ type_of% @kr_blk ∧ type_of% @ops_none ∧ type_of% @ops_some ∧ type_of% @guard_tt ∧ type_of% @guard_ff ∧ type_of% @guard_tf ∧ type_of% @guard_ft ∧ type_of% @guard_skip ∧ type_of% @gslot_some ∧ type_of% @retQ_ret ∧ type_of% @retQ_normal ∧ type_of% @endQ_ret ∧ type_of% @endQ_normal ∧ type_of% @plainL.eq_1 ∧ type_of% @plainL.eq_2 ∧ type_of% @ncellsL.eq_1 ∧ type_of% @ncellsL.eq_2 := ⟨@Op.operands.eq_15, @Op.operands.eq_16, @Op.operands.eq_17, @Op.operands.eq_18, @Op.operands.eq_19, @Op.operands.eq_20, @Op.operands.eq_21, @Op.operands.eq_22, @Op.operands.eq_23, @Op.operands.eq_24, @Op.operands.eq_25, @Op.operands.eq_26, @Op.operands.eq_27, @Op.operands.eq_28, @Op.operands.eq_29, @Op.operands.eq_30, @Op.operands.eq_31, @Op.operands.eq_32, @Op.operands.eq_33, @Op.operands.eq_34, @Op.operands.eq_35, @Op.operands.eq_36, @Op.operands.eq_37, @Op.operands.eq_38, @Op.operands.eq_39, @Op.operands.eq_40, @Op.operands.eq_41, @Op.operands.eq_42, @Op.operands.eq_43, @Call.operands.eq_1, @List.all_cons.{0}, @List.all_nil.{0}, @Bool.and_true, @Bool.true_and, @List.filterMap_cons.{0,0}, @List.filterMap_nil.{0,0}, @Array.toList_append.{0}, @run_nil, @run_skip, @run_seq, @run_region, @run_ops, @run_cond, @cond_t, @cond_f, @run_block, @run_blk, @run_exit, @kx_nil, @kx_code, @kx_blk, @run_ret, @kr_code, @kr_blk, @ops_none, @ops_some, @guard_tt, @guard_ff, @guard_tf, @guard_ft, @guard_skip, @gslot_some, @retQ_ret, @retQ_normal, @endQ_ret, @endQ_normal, @plainL.eq_1, @plainL.eq_2, @ncellsL.eq_1, @ncellsL.eq_2⟩
theorem am2 : type_of% @allocW.eq_1 ∧ type_of% @boxW.eq_1 ∧ type_of% @makeW.eq_1 ∧ type_of% @extractW.eq_1 ∧ type_of% @extractW.eq_2 ∧ type_of% @List.getElem?_nil.{0} ∧ type_of% @List.length_cons.{0} ∧ type_of% @List.take_zero.{0} ∧ type_of% @List.take_succ_cons.{0} ∧ type_of% @List.set_cons_zero.{0} ∧ type_of% @List.set_cons_succ.{0} ∧ type_of% @Nat.lt_add_one ∧ type_of% @List.getD_cons_zero.{0} ∧ type_of% @List.getD_cons_succ.{0} ∧ type_of% @initGo.eq_1 ∧ type_of% @initGo.eq_2 ∧ type_of% @op_move ∧ type_of% @op_assign ∧ type_of% @op_pick ∧ type_of% @op_alloc ∧ type_of% @op_box ∧ type_of% @op_build ∧ type_of% @op_buildSlice ∧ type_of% @op_load ∧ type_of% @op_store ∧ type_of% @op_binOp ∧ type_of% @op_unOp ∧ type_of% @op_convert ∧ type_of% @op_makeSlice ∧ type_of% @op_slice ∧ type_of% @op_fieldAddr ∧ type_of% @op_indexAddr ∧ type_of% @op_index ∧ type_of% @op_extract ∧ type_of% @op_len ∧ type_of% @op_append ∧ type_of% @op_call ∧ type_of% @skip_some ∧ type_of% @skip_none ∧ type_of% @moveW.eq_1 ∧ type_of% @srcOf.eq_1 ∧ type_of% @assignW.eq_1 ∧ type_of% @ev.eq_1 ∧ type_of% @ev.eq_2 ∧ type_of% @ev.eq_3 ∧ type_of% @ev.eq_4 ∧ type_of% @constV.eq_1 ∧ type_of% @constV.eq_2 ∧ type_of% @constV.eq_3 ∧ type_of% @constV.eq_4 ∧ type_of% @constV.eq_5 ∧ type_of% @constV.eq_6 ∧ type_of% @constV.eq_7 ∧ type_of% @constV.eq_8 ∧ type_of% @constV.eq_9 ∧ type_of% @pull.eq_1 ∧ type_of% @pull.eq_2 ∧ type_of% @pulls.eq_1 ∧ type_of% @usedOf.eq_1 ∧ type_of% @usedOf.eq_2 ∧ type_of% @usedOf.eq_3 ∧ type_of% @look_put ∧ type_of% @look_upd ∧ type_of% @keys.eq_1 ∧ type_of% @keys.eq_2 ∧ type_of% @Am.look.eq_1 ∧ type_of% @Am.look.eq_2 ∧ type_of% @pu_undef ∧ type_of% @pu_oth ∧ type_of% @pu_int := ⟨@allocW.eq_1, @boxW.eq_1, @makeW.eq_1, @extractW.eq_1, @extractW.eq_2, @List.getElem?_nil.{0}, @List.length_cons.{0}, @List.take_zero.{0}, @List.take_succ_cons.{0}, @List.set_cons_zero.{0}, @List.set_cons_succ.{0}, @Nat.lt_add_one, @List.getD_cons_zero.{0}, @List.getD_cons_succ.{0}, @initGo.eq_1, @initGo.eq_2, @op_move, @op_assign, @op_pick, @op_alloc, @op_box, @op_build, @op_buildSlice, @op_load, @op_store, @op_binOp, @op_unOp, @op_convert, @op_makeSlice, @op_slice, @op_fieldAddr, @op_indexAddr, @op_index, @op_extract, @op_len, @op_append, @op_call, @skip_some, @skip_none, @moveW.eq_1, @srcOf.eq_1, @assignW.eq_1, @ev.eq_1, @ev.eq_2, @ev.eq_3, @ev.eq_4, @constV.eq_1, @constV.eq_2, @constV.eq_3, @constV.eq_4, @constV.eq_5, @constV.eq_6, @constV.eq_7, @constV.eq_8, @constV.eq_9, @pull.eq_1, @pull.eq_2, @pulls.eq_1, @usedOf.eq_1, @usedOf.eq_2, @usedOf.eq_3, @look_put, @look_upd, @keys.eq_1, @keys.eq_2, @Am.look.eq_1, @Am.look.eq_2, @pu_undef, @pu_oth, @pu_int⟩
theorem am3 : type_of% @pu_bool ∧ type_of% @pu_str ∧ type_of% @pu_sl ∧ type_of% @pu_agg ∧ type_of% @pu_arr ∧ type_of% @pu_tup ∧ type_of% @pu_box ∧ type_of% @pu_dptr ∧ type_of% @pu_vref ∧ type_of% @pu_vagg ∧ type_of% @pu_vsub ∧ type_of% @pu_ptr ∧ type_of% @kp_undef ∧ type_of% @kp_oth ∧ type_of% @kp_int ∧ type_of% @kp_bool ∧ type_of% @kp_str ∧ type_of% @kp_sl ∧ type_of% @kp_agg ∧ type_of% @kp_arr ∧ type_of% @kp_tup ∧ type_of% @kp_box ∧ type_of% @kp_dptr ∧ type_of% @kp_vref ∧ type_of% @kp_vagg ∧ type_of% @kp_vsub ∧ type_of% @kp_ptr ∧ type_of% @tidy.eq_1 ∧ type_of% @tidyGo.eq_1 ∧ type_of% @tidyGo.eq_2 ∧ type_of% @pureK_some ∧ type_of% @pureK_none ∧ type_of% @AV.target.eq_1 ∧ type_of% @AV.target.eq_2 ∧ type_of% @AV.target.eq_3 ∧ type_of% @AV.target.eq_4 ∧ type_of% @AV.target.eq_5 ∧ type_of% @plain.eq_1 ∧ type_of% @plain.eq_2 ∧ type_of% @plain.eq_3 ∧ type_of% @plain.eq_4 ∧ type_of% @plain.eq_5 ∧ type_of% @plain.eq_6 ∧ type_of% @plain.eq_7 ∧ type_of% @plain.eq_8 ∧ type_of% @plain.eq_9 ∧ type_of% @plain.eq_10 ∧ type_of% @plain.eq_11 ∧ type_of% @plain.eq_12 ∧ type_of% @plain.eq_13 ∧ type_of% @plain.eq_14 ∧ type_of% @plain.eq_15 ∧ type_of% @needW_some ∧ type_of% @needW_none ∧ type_of% @needW_if ∧ type_of% @needW_ifn ∧ type_of% @binA.eq_1 ∧ type_of% @binA.eq_2 ∧ type_of% @binA.eq_3 ∧ type_of% @binA.eq_4 ∧ type_of% @binA.eq_5 ∧ type_of% @binA.eq_6 ∧ type_of% @binA.eq_7 ∧ type_of% @eqAgg.eq_1 ∧ type_of% @eqAgg.eq_2 ∧ type_of% @eqSL.eq_1 ∧ type_of% @eqSL.eq_2 ∧ type_of% @eqSL.eq_3 ∧ type_of% @eqS.eq_1 ∧ type_of% @eqS.eq_2 := ⟨@pu_bool, @pu_str, @pu_sl, @pu_agg, @pu_arr, @pu_tup, @pu_box, @pu_dptr, @pu_vref, @pu_vagg, @pu_vsub, @pu_ptr, @kp_undef, @kp_oth, @kp_int, @kp_bool, @kp_str, @kp_sl, @kp_agg, @kp_arr, @kp_tup, @kp_box, @kp_dptr, @kp_vref, @kp_vagg, @kp_vsub, @kp_ptr, @tidy.eq_1, @tidyGo.eq_1, @tidyGo.eq_2, @pureK_some, @pureK_none, @AV.target.eq_1, @AV.target.eq_2, @AV.target.eq_3, @AV.target.eq_4, @AV.target.eq_5, @plain.eq_1, @plain.eq_2, @plain.eq_3, @plain.eq_4, @plain.eq_5, @plain.eq_6, @plain.eq_7, @plain.eq_8, @plain.eq_9, @plain.eq_10, @plain.eq_11, @plain.eq_12, @plain.eq_13, @plain.eq_14, @plain.eq_15, @needW_some, @needW_none, @needW_if, @needW_ifn, @binA.eq_1, @binA.eq_2, @binA.eq_3, @binA.eq_4, @binA.eq_5, @binA.eq_6, @binA.eq_7, @eqAgg.eq_1, @eqAgg.eq_2, @eqSL.eq_1, @eqSL.eq_2, @eqSL.eq_3, @eqS.eq_1, @eqS.eq_2⟩
theorem am4 : type_of% @eqS.eq_3 ∧ type_of% @eqS.eq_4 ∧ type_of% @avK.eq_1 ∧ type_of% @avK.eq_2 ∧ type_of% @avK.eq_3 ∧ type_of% @avK.eq_4 ∧ type_of% @and_self ∧ type_of% @intOp.eq_1 ∧ type_of% @intOp.eq_2 ∧ type_of% @intOp.eq_3 ∧ type_of% @intOp.eq_4 ∧ type_of% @intOp.eq_5 ∧ type_of% @intOp.eq_6 ∧ type_of% @intOp.eq_7 ∧ type_of% @intOp.eq_8 ∧ type_of% @intOp.eq_9 ∧ type_of% @intOp.eq_10 ∧ type_of% @intOp.eq_11 ∧ type_of% @intOp.eq_12 ∧ type_of% @strOp.eq_1 ∧ type_of% @strOp.eq_2 ∧ type_of% @strOp.eq_3 ∧ type_of% @strOp.eq_4 ∧ type_of% @strOp.eq_5 ∧ type_of% @strOp.eq_6 ∧ type_of% @strOp.eq_7 ∧ type_of% @strOp.eq_8 ∧ type_of% @unA.eq_1 ∧ type_of% @unA.eq_2 ∧ type_of% @unA.eq_3 ∧ type_of% @lenW.eq_1 ∧ type_of% @loadW.eq_1 ∧ type_of% @indexW.eq_1 ∧ type_of% @indexAddrW.eq_1 ∧ type_of% @fieldAddrW.eq_1 ∧ type_of% @sliceStrW.eq_1 ∧ type_of% @sliceStrW.eq_2 ∧ type_of% @pickW.eq_1 ∧ type_of% @storeW.eq_1 ∧ type_of% @convertW.eq_1 ∧ type_of% @convertW.eq_2 ∧ type_of% @convertW.eq_3 ∧ type_of% @convertW.eq_4 ∧ type_of% @convW.eq_1 ∧ type_of% @strBytesW.eq_1 ∧ type_of% @bytesStrW.eq_1 ∧ type_of% @getAt.eq_1 ∧ type_of% @getAt.eq_2 ∧ type_of% @getAt.eq_3 ∧ type_of% @getAt.eq_4 ∧ type_of% @getAt.eq_5 ∧ type_of% @getAt.eq_6 ∧ type_of% @setAt.eq_1 ∧ type_of% @setAt.eq_2 ∧ type_of% @setAt.eq_3 ∧ type_of% @setAt.eq_4 ∧ type_of% @setAt.eq_5 ∧ type_of% @setAt.eq_6 ∧ type_of% @loaded.eq_1 ∧ type_of% @loaded.eq_2 ∧ type_of% @loaded.eq_3 ∧ type_of% @AV.hdr.eq_1 ∧ type_of% @AV.hdr.eq_2 ∧ type_of% @AV.hdr.eq_3 ∧ type_of% @AV.isAgg.eq_1 ∧ type_of% @AV.isAgg.eq_2 ∧ type_of% @AV.isAgg.eq_3 ∧ type_of% @AV.stor.eq_1 ∧ type_of% @AV.stor.eq_2 ∧ type_of% @AV.stor.eq_3 := ⟨@eqS.eq_3, @eqS.eq_4, @avK.eq_1, @avK.eq_2, @avK.eq_3, @avK.eq_4, @and_self, @intOp.eq_1, @intOp.eq_2, @intOp.eq_3, @intOp.eq_4, @intOp.eq_5, @intOp.eq_6, @intOp.eq_7, @intOp.eq_8, @intOp.eq_9, @intOp.eq_10, @intOp.eq_11, @intOp.eq_12, @strOp.eq_1, @strOp.eq_2, @strOp.eq_3, @strOp.eq_4, @strOp.eq_5, @strOp.eq_6, @strOp.eq_7, @strOp.eq_8, @unA.eq_1, @unA.eq_2, @unA.eq_3, @lenW.eq_1, @loadW.eq_1, @indexW.eq_1, @indexAddrW.eq_1, @fieldAddrW.eq_1, @sliceStrW.eq_1, @sliceStrW.eq_2, @pickW.eq_1, @storeW.eq_1, @convertW.eq_1, @convertW.eq_2, @convertW.eq_3, @convertW.eq_4, @convW.eq_1, @strBytesW.eq_1, @bytesStrW.eq_1, @getAt.eq_1, @getAt.eq_2, @getAt.eq_3, @getAt.eq_4, @getAt.eq_5, @getAt.eq_6, @setAt.eq_1, @setAt.eq_2, @setAt.eq_3, @setAt.eq_4, @setAt.eq_5, @setAt.eq_6, @loaded.eq_1, @loaded.eq_2, @loaded.eq_3, @AV.hdr.eq_1, @AV.hdr.eq_2, @AV.hdr.eq_3, @AV.isAgg.eq_1, @AV.isAgg.eq_2, @AV.isAgg.eq_3, @AV.stor.eq_1, @AV.stor.eq_2, @AV.stor.eq_3⟩
theorem am5 : type_of% @AV.stor.eq_4 ∧ type_of% @AV.stor.eq_5 ∧ type_of% @AV.stor.eq_6 ∧ type_of% @AV.stor.eq_7 ∧ type_of% @ncells.eq_1 ∧ type_of% @ncells.eq_2 ∧ type_of% @ncells.eq_3 ∧ type_of% @List.foldl_cons.{0,0} ∧ type_of% @List.foldl_nil.{0,0} ∧ type_of% @List.mem_cons.{0} ∧ type_of% @List.not_mem_nil.{0} ∧ type_of% @List.contains_cons.{0} ∧ type_of% @List.contains_nil.{0} ∧ type_of% @or_false ∧ type_of% @false_or ∧ type_of% @or_true ∧ type_of% @true_or ∧ type_of% @or_self ∧ type_of% @and_true ∧ type_of% @true_and ∧ type_of% @and_false ∧ type_of% @false_and ∧ type_of% @ne_eq.{1} ∧ type_of% @not_false_eq_true ∧ type_of% @not_true_eq_false ∧ type_of% @Option.some.injEq.{0} ∧ type_of% @if_true.{1} ∧ type_of% @if_true.{0} ∧ type_of% @if_false.{1} ∧ type_of% @if_false.{0} ∧ type_of% @Bool.or_true ∧ type_of% @Bool.false_and ∧ type_of% @Bool.and_false ∧ type_of% @Bool.and_self ∧ type_of% @Bool.or_false ∧ type_of% @Bool.true_or ∧ type_of% @Bool.false_or ∧ type_of% @Bool.not_true ∧ type_of% @Bool.not_false ∧ type_of% @beq_self_eq_true.{0} ∧ type_of% @List.getElem?_cons_zero.{0} ∧ type_of% @List.getElem?_cons_succ.{0} ∧ type_of% @List.toList_toArray.{0} ∧ type_of% @decide_true ∧ type_of% @decide_false ∧ type_of% @Bool.false_eq_true ∧ type_of% @Nat.zero_ne_one ∧ type_of% @Nat.one_ne_zero ∧ type_of% @List.length_nil.{0} ∧ type_of% @List.map_cons.{0,0} ∧ type_of% @List.map_nil.{0,0} ∧ type_of% @isU8.eq_1 ∧ type_of% @isU8.eq_2 ∧ type_of% @szOf_ti ∧ type_of% @List.nil_append.{0} ∧ type_of% @List.cons_append.{0} ∧ type_of% @Operand.tmp.injEq ∧ type_of% @len_bytesA ∧ type_of% @set_bytesA ∧ type_of% @Int.toNat_natCast ∧ type_of% @bytesBack_bytesA ∧ type_of% @Option.map_some.{0,0} ∧ type_of% @Option.map_none.{0,0} ∧ type_of% @round_exit ∧ type_of% @round_ret ∧ type_of% @look_setP ∧ type_of% @keys_wipe ∧ type_of% @look_wipe ∧ type_of% @kP_undef ∧ type_of% @kP_oth := ⟨@AV.stor.eq_4, @AV.stor.eq_5, @AV.stor.eq_6, @AV.stor.eq_7, @ncells.eq_1, @ncells.eq_2, @ncells.eq_3, @List.foldl_cons.{0,0}, @List.foldl_nil.{0,0}, @List.mem_cons.{0}, @List.not_mem_nil.{0}, @List.contains_cons.{0}, @List.contains_nil.{0}, @or_false, @false_or, @or_true, @true_or, @or_self, @and_true, @true_and, @and_false, @false_and, @ne_eq.{1}, @not_false_eq_true, @not_true_eq_false, @Option.some.injEq.{0}, @if_true.{1}, @if_true.{0}, @if_false.{1}, @if_false.{0}, @Bool.or_true, @Bool.false_and, @Bool.and_false, @Bool.and_self, @Bool.or_false, @Bool.true_or, @Bool.false_or, @Bool.not_true, @Bool.not_false, @beq_self_eq_true.{0}, @List.getElem?_cons_zero.{0}, @List.getElem?_cons_succ.{0}, @List.toList_toArray.{0}, @decide_true, @decide_false, @Bool.false_eq_true, @Nat.zero_ne_one, @Nat.one_ne_zero, @List.length_nil.{0}, @List.map_cons.{0,0}, @List.map_nil.{0,0}, @isU8.eq_1, @isU8.eq_2, @szOf_ti, @List.nil_append.{0}, @List.cons_append.{0}, @Operand.tmp.injEq, @len_bytesA, @set_bytesA, @Int.toNat_natCast, @bytesBack_bytesA, @Option.map_some.{0,0}, @Option.map_none.{0,0}, @round_exit, @round_ret, @look_setP, @keys_wipe, @look_wipe, @kP_undef, @kP_oth⟩
theorem am6 : type_of% @kP_int ∧ type_of% @kP_bool ∧ type_of% @kP_str ∧ type_of% @kP_sl ∧ type_of% @kP_agg ∧ type_of% @kP_arr ∧ type_of% @kP_tup ∧ type_of% @kP_box ∧ type_of% @kP_dptr ∧ type_of% @kP_vref ∧ type_of% @kP_vagg ∧ type_of% @kP_vsub ∧ type_of% @kP_ptr ∧ type_of% @preB_nil ∧ type_of% @preB_cn ∧ type_of% @preB_cc ∧ type_of% @sPre_eq ∧ type_of% @op_callX ∧ type_of% @op_copyX ∧ type_of% @newsOf_some ∧ type_of% @newsOf_none ∧ type_of% @homeOf.eq_1 ∧ type_of% @homeOf.eq_2 ∧ type_of% @argsM.eq_1 ∧ type_of% @argsM.eq_2 ∧ type_of% @isVal.eq_1 ∧ type_of% @lends.eq_1 ∧ type_of% @othersVal.eq_1 ∧ type_of% @othersVal.eq_2 ∧ type_of% @copyW.eq_1 ∧ type_of% @lentOf.eq_1 ∧ type_of% @closed.eq_1 ∧ type_of% @closed.eq_2 ∧ type_of% @closed.eq_3 ∧ type_of% @closed.eq_4 ∧ type_of% @closed.eq_5 ∧ type_of% @closed.eq_6 ∧ type_of% @closed.eq_7 ∧ type_of% @closed.eq_8 ∧ type_of% @closed.eq_9 ∧ type_of% @closed.eq_10 ∧ type_of% @closed.eq_11 ∧ type_of% @closed.eq_12 ∧ type_of% @closed.eq_13 ∧ type_of% @closed.eq_14 ∧ type_of% @closed.eq_15 ∧ type_of% @closedL.eq_1 ∧ type_of% @closedL.eq_2 ∧ type_of% @argsOf.eq_1 ∧ type_of% @argsOf.eq_2 ∧ type_of% @argOf.eq_1 ∧ type_of% @valOnly.eq_1 ∧ type_of% @frzs.eq_1 ∧ type_of% @frzs.eq_2 ∧ type_of% @frz.eq_1 ∧ type_of% @frz.eq_2 ∧ type_of% @ownP.eq_1 ∧ type_of% @ownP.eq_2 ∧ type_of% @ownP.eq_3 ∧ type_of% @ownP.eq_4 ∧ type_of% @ownP.eq_5 ∧ type_of% @ownP.eq_6 ∧ type_of% @erase.eq_1 ∧ type_of% @erase.eq_2 ∧ type_of% @erase.eq_3 ∧ type_of% @erase.eq_4 ∧ type_of% @erase.eq_5 ∧ type_of% @erase.eq_6 ∧ type_of% @eraseL.eq_1 ∧ type_of% @eraseL.eq_2 := ⟨@kP_int, @kP_bool, @kP_str, @kP_sl, @kP_agg, @kP_arr, @kP_tup, @kP_box, @kP_dptr, @kP_vref, @kP_vagg, @kP_vsub, @kP_ptr, @preB_nil, @preB_cn, @preB_cc, @sPre_eq, @op_callX, @op_copyX, @newsOf_some, @newsOf_none, @homeOf.eq_1, @homeOf.eq_2, @argsM.eq_1, @argsM.eq_2, @isVal.eq_1, @lends.eq_1, @othersVal.eq_1, @othersVal.eq_2, @copyW.eq_1, @lentOf.eq_1, @closed.eq_1, @closed.eq_2, @closed.eq_3, @closed.eq_4, @closed.eq_5, @closed.eq_6, @closed.eq_7, @closed.eq_8, @closed.eq_9, @closed.eq_10, @closed.eq_11, @closed.eq_12, @closed.eq_13, @closed.eq_14, @closed.eq_15, @closedL.eq_1, @closedL.eq_2, @argsOf.eq_1, @argsOf.eq_2, @argOf.eq_1, @valOnly.eq_1, @frzs.eq_1, @frzs.eq_2, @frz.eq_1, @frz.eq_2, @ownP.eq_1, @ownP.eq_2, @ownP.eq_3, @ownP.eq_4, @ownP.eq_5, @ownP.eq_6, @erase.eq_1, @erase.eq_2, @erase.eq_3, @erase.eq_4, @erase.eq_5, @erase.eq_6, @eraseL.eq_1, @eraseL.eq_2⟩
theorem am7 : type_of% @dead.eq_1 ∧ type_of% @dead.eq_2 ∧ type_of% @dead.eq_3 ∧ type_of% @dead.eq_4 ∧ type_of% @dead.eq_5 ∧ type_of% @dead.eq_6 ∧ type_of% @deadL.eq_1 ∧ type_of% @deadL.eq_2 ∧ type_of% @retW.eq_1 ∧ type_of% @retW.eq_2 ∧ type_of% @outsW.eq_1 ∧ type_of% @outsW.eq_2 ∧ type_of% @Le.eq_1 ∧ type_of% @leGo.eq_1 ∧ type_of% @leGo.eq_2 ∧ type_of% @aimIn.eq_1 ∧ type_of% @aimIn.eq_2 ∧ type_of% @aimIn.eq_3 ∧ type_of% @aimIn.eq_4 ∧ type_of% @aimIn.eq_5 ∧ type_of% @List.dropLast_cons_cons.{0} ∧ type_of% @List.take_nil.{0} ∧ type_of% @List.drop_nil.{0} ∧ type_of% @List.drop_zero.{0} ∧ type_of% @List.drop_succ_cons.{0} ∧ type_of% @List.append_nil.{0} ∧ type_of% @List.length_append.{0} ∧ type_of% @List.nodup_nil.{0} ∧ type_of% @List.nodup_cons.{0} ∧ type_of% @appW.eq_1 ∧ type_of% @buildW.eq_1 ∧ type_of% @buildSliceW.eq_1 ∧ type_of% @partsFit.eq_1 ∧ type_of% @partsFit.eq_2 ∧ type_of% @elemsFit.eq_1 ∧ type_of% @elemsFit.eq_2 ∧ type_of% @setParts.eq_1 ∧ type_of% @setParts.eq_2 ∧ type_of% @appendW.eq_1 ∧ type_of% @appendMW.eq_1 ∧ type_of% @appFits.eq_1 ∧ type_of% @List.replicate_succ.{0} ∧ type_of% @List.replicate_zero.{0} ∧ type_of% @List.cons.injEq.{0} ∧ type_of% @retC.eq_1 ∧ type_of% @AV.int.injEq ∧ type_of% @AV.bool.injEq ∧ type_of% @AV.str.injEq ∧ type_of% @AV.sl.injEq ∧ type_of% @AV.agg.injEq ∧ type_of% @AV.arr.injEq ∧ type_of% @AV.tup.injEq ∧ type_of% @AV.box.injEq ∧ type_of% @AV.vref.injEq ∧ type_of% @AV.ptr.injEq ∧ type_of% @AV.vagg.injEq ∧ type_of% @AV.dptr.injEq ∧ type_of% @wrap_i64 ∧ type_of% @wrap_u8 ∧ type_of% @ilt_t ∧ type_of% @ilt_f ∧ type_of% @ile_t ∧ type_of% @ile_f ∧ type_of% @nlt_t ∧ type_of% @nlt_f ∧ type_of% @nle_t ∧ type_of% @nle_f ∧ type_of% @ibeq_t ∧ type_of% @ibeq_f ∧ type_of% @ibne_t := ⟨@dead.eq_1, @dead.eq_2, @dead.eq_3, @dead.eq_4, @dead.eq_5, @dead.eq_6, @deadL.eq_1, @deadL.eq_2, @retW.eq_1, @retW.eq_2, @outsW.eq_1, @outsW.eq_2, @Le.eq_1, @leGo.eq_1, @leGo.eq_2, @aimIn.eq_1, @aimIn.eq_2, @aimIn.eq_3, @aimIn.eq_4, @aimIn.eq_5, @List.dropLast_cons_cons.{0}, @List.take_nil.{0}, @List.drop_nil.{0}, @List.drop_zero.{0}, @List.drop_succ_cons.{0}, @List.append_nil.{0}, @List.length_append.{0}, @List.nodup_nil.{0}, @List.nodup_cons.{0}, @appW.eq_1, @buildW.eq_1, @buildSliceW.eq_1, @partsFit.eq_1, @partsFit.eq_2, @elemsFit.eq_1, @elemsFit.eq_2, @setParts.eq_1, @setParts.eq_2, @appendW.eq_1, @appendMW.eq_1, @appFits.eq_1, @List.replicate_succ.{0}, @List.replicate_zero.{0}, @List.cons.injEq.{0}, @retC.eq_1, @AV.int.injEq, @AV.bool.injEq, @AV.str.injEq, @AV.sl.injEq, @AV.agg.injEq, @AV.arr.injEq, @AV.tup.injEq, @AV.box.injEq, @AV.vref.injEq, @AV.ptr.injEq, @AV.vagg.injEq, @AV.dptr.injEq, @wrap_i64, @wrap_u8, @ilt_t, @ilt_f, @ile_t, @ile_f, @nlt_t, @nlt_f, @nle_t, @nle_f, @ibeq_t, @ibeq_f, @ibne_t⟩
theorem am8 : type_of% @ibne_f ∧ type_of% @getD_map' ∧ type_of% @get_map' ∧ type_of% @gt_iff_lt.{0} ∧ type_of% @ge_iff_le.{0} ∧ type_of% @List.length_map.{0,0} ∧ type_of% @Int.natCast_add ∧ type_of% @Int.natCast_one ∧ type_of% @Int.natCast_zero ∧ type_of% @Int.toNat_natCast_add_one ∧ type_of% @Nat.sub_self ∧ type_of% @List.take_length.{0} ∧ type_of% @List.drop_length.{0} ∧ type_of% @Nat.sub_zero ∧ type_of% @Nat.add_zero ∧ type_of% @Nat.zero_add ∧ type_of% @Int.add_zero ∧ type_of% @Int.zero_add ∧ type_of% @Int.mul_zero ∧ type_of% @Int.sub_zero ∧ type_of% @cond_not ∧ type_of% @guard_not ∧ type_of% @guardD_not ∧ type_of% @Bool.true_beq ∧ type_of% @Bool.false_beq ∧ type_of% @run_regionT ∧ type_of% @run_drawT ∧ type_of% @lapp_nil ∧ type_of% @lapp_cons := ⟨@ibne_f, @getD_map', @get_map', @gt_iff_lt.{0}, @ge_iff_le.{0}, @List.length_map.{0,0}, @Int.natCast_add, @Int.natCast_one, @Int.natCast_zero, @Int.toNat_natCast_add_one, @Nat.sub_self, @List.take_length.{0}, @List.drop_length.{0}, @Nat.sub_zero, @Nat.add_zero, @Nat.zero_add, @Int.add_zero, @Int.zero_add, @Int.mul_zero, @Int.sub_zero, @cond_not, @guard_not, @guardD_not, @Bool.true_beq, @Bool.false_beq, @run_regionT, @run_drawT, @lapp_nil, @lapp_cons⟩
end Go.Proofs.Ytklmfpikhejemaa.Am
