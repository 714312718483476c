/- What the operations of a Go program bring about on values without memory, proved once for any program: part 1 of 3. No conditions beyond those at each theorem. -/
import Derived.WalkKit
namespace Go.Proofs.Ytklmfpikhejemaa.Am
open Go.RowKit
set_option linter.unusedVariables false

/-- Values without memory: a slice is a list, 'own' where nobody else leads to its block. -/
inductive AV where
  | undef
  | oth (v : Value)
  | int (k : IntKind) (n : Int)
  | bool (b : Bool)
  | str (s : List UInt8)
  | sl (own : Bool) (sz : Nat) (xs : List AV)
  | agg (fs : List AV)
  | arr (sz : Nat) (xs : List AV)
  | tup (vs : List AV)
  | box (x : AV)
  | dptr (x : AV)
  | vref (s : Nat) (p : List Nat)
  | vagg (s : Nat) (p : List Nat)
  | vsub (s : Nat) (p : List Nat) (lo hi : Nat)
  | ptr (s : Nat) (p : List Nat)

instance : Inhabited AV := ⟨.undef⟩

namespace AV
mutual
def ncells : AV → Nat
  | .agg fs => ncellsL fs
  | .arr sz xs => sz * xs.length
  | _ => 1
def ncellsL : List AV → Nat
  | [] => 0
  | x :: xs => ncells x + ncellsL xs
end
mutual
/-- Nothing in it is own: it may be copied. -/
def plain : AV → Bool
  | .undef | .oth _ | .int .. | .bool _ | .str _ | .dptr _ => true
  | .sl own _ _ => !own
  | .agg fs | .arr _ fs | .tup fs => plainL fs
  | .box _ | .vref .. | .vagg .. | .vsub .. | .ptr .. => false
def plainL : List AV → Bool
  | [] => true
  | x :: xs => plain x && plainL xs
end
mutual
/-- Nothing in it leads to what others may lead to. -/
def closed : AV → Bool
  | .undef | .oth _ | .int .. | .bool _ | .str _ => true
  | .sl own _ xs => own && closedL xs
  | .agg fs | .arr _ fs | .tup fs => closedL fs
  | .box x => closed x
  | .dptr _ | .vref .. | .vagg .. | .vsub .. | .ptr .. => false
def closedL : List AV → Bool
  | [] => true
  | x :: xs => closed x && closedL xs
end
mutual
/-- What was own is shared from here on. -/
def erase : AV → AV
  | .sl _ sz xs => .sl false sz (eraseL xs)
  | .agg fs => .agg (eraseL fs)
  | .arr sz fs => .arr sz (eraseL fs)
  | .tup fs => .tup (eraseL fs)
  | .box x => .dptr (erase x)
  | x => x
def eraseL : List AV → List AV
  | [] => []
  | x :: xs => erase x :: eraseL xs
end
mutual
/-- What is left where something was taken from. -/
def dead : AV → AV
  | .sl own sz xs => if own then .undef else .sl own sz xs
  | .agg fs => .agg (deadL fs)
  | .arr sz fs => .arr sz (deadL fs)
  | .tup fs => .tup (deadL fs)
  | .box _ => .undef
  | x => x
def deadL : List AV → List AV
  | [] => []
  | x :: xs => dead x :: deadL xs
end
def getAt : AV → List Nat → Option AV
  | x, [] => some x
  | .agg fs, i :: p => match fs[i]? with | some y => getAt y p | none => none
  | .arr _ xs, i :: p => match xs[i]? with | some y => getAt y p | none => none
  | .sl _ _ xs, i :: p => match xs[i]? with | some y => getAt y p | none => none
  | .box x, i :: p => if i = 0 then getAt x p else none
  | _, _ :: _ => none
def setAt : AV → List Nat → AV → AV
  | _, [], y => y
  | .agg fs, i :: p, y => .agg (match fs[i]? with | some x => fs.set i (setAt x p y) | none => fs)
  | .arr sz xs, i :: p, y => .arr sz (match xs[i]? with | some x => xs.set i (setAt x p y) | none => xs)
  | .sl o sz xs, i :: p, y => .sl o sz (match xs[i]? with | some x => xs.set i (setAt x p y) | none => xs)
  | .box x, i :: p, y => if i = 0 then .box (setAt x p y) else .box x
  | x, _ :: _, _ => x
end AV

def Emp (O : Nat → Prop) : Prop := ∀ k, ¬ O k
def cellH (h : Array Obj) (a : Addr) : Option Value :=
  match h[a.block]? with
  | some (.cells c _ _) => if a.spot.isSome then none else c[a.off]?
  | _ => none
theorem cell_eq (w : World) (a : Addr) : w.cell? a = cellH w.heap a := rfl
def Free (n : Nat) (fr : Nat × Nat) : Prop := ∀ j, j < n → ¬ (fr.1 ≤ j ∧ j < fr.2)
/-- A block of cells, none of them frozen. -/
def Row (h : Array Obj) (b : Nat) (c : Array Value) (e : TypeId) : Prop := ∃ fr, h[b]? = some (.cells c e fr) ∧ Free c.size fr
theorem Row.same {h h' : Array Obj} {b : Nat} {c : Array Value} {e : TypeId} (r : Row h b c e) (hs : h'[b]? = h[b]?) : Row h' b c e := by
  obtain ⟨fr, h1, h2⟩ := r
  exact ⟨fr, hs.trans h1, h2⟩

mutual
/-- These cells are the value; O: the blocks that are its own; S: the blocks in which what is shared may lie. -/
def RepC (h : Array Obj) (S : Nat → Prop) : AV → List Value → (Nat → Prop) → Prop
  | .undef, cs, O => (∃ v : Value, cs = [v] ∧ v.oneCell' = true) ∧ Emp O
  | .oth v, cs, O => (cs = [v] ∧ v.oneCell' = true) ∧ Emp O
  | .int k n, cs, O => cs = [.int k n] ∧ Emp O
  | .bool b, cs, O => cs = [.bool b] ∧ Emp O
  | .str s, cs, O => cs = [.string ⟨s.toArray⟩] ∧ Emp O
  | .sl true sz xs, cs, O =>
    (xs = [] ∧ cs = [.slice none 0 0] ∧ Emp O) ∨
    (0 < sz ∧ ∃ b c e cap O', cs = [.slice (some ⟨b, 0, none⟩) xs.length cap] ∧ Row h b c e ∧ c.size = cap * sz ∧ xs.length ≤ cap ∧ cap ≤ maxLen ∧
      RepL h S xs (c.toList.take (xs.length * sz)) O' ∧ (∀ x ∈ xs, x.ncells = sz) ∧ ¬ O' b ∧ (∀ k, O k ↔ k = b ∨ O' k) ∧ ∀ u ∈ c.toList, u.oneCell' = true)
  | .sl false sz xs, cs, O =>
    (∃ A cap m, cs = [.slice A xs.length cap] ∧ xs.length ≤ cap ∧ RepL h S xs m (fun _ => False) ∧ (∀ x ∈ xs, x.ncells = sz) ∧
      (0 < xs.length → ∃ a, A = some a ∧ (0 < sz → S a.block) ∧ ∀ (j : Nat) u, m[j]? = some u → cellH h (a.add j) = some u)) ∧ Emp O
  | .agg fs, cs, O => RepL h S fs cs O
  | .arr sz xs, cs, O => RepL h S xs cs O ∧ ∀ x ∈ xs, x.ncells = sz
  | .box x, cs, O => ∃ b c e m O', cs = [.pointer (some ⟨b, 0, none⟩)] ∧ Row h b c e ∧ c.toList = m ∧ RepC h S x m O' ∧ ¬ O' b ∧ (∀ k, O k ↔ k = b ∨ O' k)
  | .dptr x, cs, O => (∃ a m, cs = [.pointer (some a)] ∧ RepC h S x m (fun _ => False) ∧ (0 < m.length → S a.block) ∧ ∀ (j : Nat) u, m[j]? = some u → cellH h (a.add j) = some u) ∧ Emp O
  | _, _, _ => False
def RepL (h : Array Obj) (S : Nat → Prop) : List AV → List Value → (Nat → Prop) → Prop
  | [], cs, O => cs = [] ∧ Emp O
  | x :: xs, cs, O => ∃ c1 c2 O1 O2, cs = c1 ++ c2 ∧ (∀ k, O k ↔ O1 k ∨ O2 k) ∧ (∀ k, O1 k → ¬ O2 k) ∧ RepC h S x c1 O1 ∧ RepL h S xs c2 O2
end
end Go.Proofs.Ytklmfpikhejemaa.Am

namespace Go.Proofs.Ytklmfpikhejemaa.Am
open Go.RowKit AV
set_option linter.unusedVariables false

theorem Emp.iff {O O' : Nat → Prop} (h : Emp O) (hi : ∀ k, O' k ↔ O k) : Emp O' := fun k hk => h k ((hi k).1 hk)
theorem emp_false : Emp (fun _ => False) := fun _ h => h

theorem len_of_uni {sz : Nat} : ∀ {xs : List AV}, (∀ x ∈ xs, x.ncells = sz) → ncellsL xs = sz * xs.length
  | [], _ => by simp [ncellsL]
  | x :: xs, h => by
    have := len_of_uni (xs := xs) (fun y hy => h y (List.mem_cons_of_mem _ hy))
    have hx := h x (List.mem_cons_self ..)
    simp only [ncellsL, List.length_cons, this, hx, Nat.mul_add, Nat.mul_one]; omega

mutual
theorem repC_len {h : Array Obj} {S : Nat → Prop} : ∀ (x : AV) {cs : List Value} {O : Nat → Prop}, RepC h S x cs O → cs.length = ncells x
  | .undef, cs, O, r => by simp only [RepC] at r; obtain ⟨⟨v, rfl, _⟩, _⟩ := r; simp [ncells]
  | .oth v, cs, O, r => by simp only [RepC] at r; obtain ⟨⟨rfl, _⟩, _⟩ := r; simp [ncells]
  | .int k n, cs, O, r => by simp only [RepC] at r; obtain ⟨rfl, _⟩ := r; simp [ncells]
  | .bool b, cs, O, r => by simp only [RepC] at r; obtain ⟨rfl, _⟩ := r; simp [ncells]
  | .str s, cs, O, r => by simp only [RepC] at r; obtain ⟨rfl, _⟩ := r; simp [ncells]
  | .sl true sz xs, cs, O, r => by
    simp only [RepC] at r
    rcases r with ⟨_, rfl, _⟩ | ⟨_, b, c, e, cap, O', rfl, _⟩ <;> simp [ncells]
  | .sl false sz xs, cs, O, r => by simp only [RepC] at r; obtain ⟨⟨A, cap, m, rfl, _⟩, _⟩ := r; simp [ncells]
  | .agg fs, cs, O, r => by simp only [RepC] at r; simp only [ncells]; exact repL_len fs r
  | .arr sz xs, cs, O, r => by
    simp only [RepC] at r
    simp only [ncells]; rw [← len_of_uni r.2]; exact repL_len xs r.1
  | .box x, cs, O, r => by simp only [RepC] at r; obtain ⟨b, c, e, m, O', rfl, _⟩ := r; simp [ncells]
  | .dptr x, cs, O, r => by simp only [RepC] at r; obtain ⟨⟨a, m, rfl, _⟩, _⟩ := r; simp [ncells]
  | .tup _, cs, O, r => by simp only [RepC] at r
  | .vref .., cs, O, r => by simp only [RepC] at r
  | .vagg .., cs, O, r => by simp only [RepC] at r
  | .vsub .., cs, O, r => by simp only [RepC] at r
  | .ptr .., cs, O, r => by simp only [RepC] at r
theorem repL_len {h : Array Obj} {S : Nat → Prop} : ∀ (xs : List AV) {cs : List Value} {O : Nat → Prop}, RepL h S xs cs O → cs.length = ncellsL xs
  | [], cs, O, r => by simp only [RepL] at r; obtain ⟨rfl, _⟩ := r; simp [ncellsL]
  | x :: xs, cs, O, r => by
    simp only [RepL] at r
    obtain ⟨c1, c2, O1, O2, rfl, _, _, h1, h2⟩ := r
    simp only [ncellsL, List.length_append, repC_len x h1, repL_len xs h2]
end

mutual
theorem repC_one {h : Array Obj} {S : Nat → Prop} : ∀ (x : AV) {cs : List Value} {O : Nat → Prop}, RepC h S x cs O → ∀ u ∈ cs, u.oneCell' = true
  | .undef, cs, O, r => by simp only [RepC] at r; obtain ⟨⟨v, rfl, hv⟩, _⟩ := r; simpa using hv
  | .oth v, cs, O, r => by simp only [RepC] at r; obtain ⟨⟨rfl, hv⟩, _⟩ := r; simpa using hv
  | .int k n, cs, O, r => by simp only [RepC] at r; obtain ⟨rfl, _⟩ := r; simp [Value.oneCell']
  | .bool b, cs, O, r => by simp only [RepC] at r; obtain ⟨rfl, _⟩ := r; simp [Value.oneCell']
  | .str s, cs, O, r => by simp only [RepC] at r; obtain ⟨rfl, _⟩ := r; simp [Value.oneCell']
  | .sl true sz xs, cs, O, r => by
    simp only [RepC] at r
    rcases r with ⟨_, rfl, _⟩ | ⟨_, b, c, e, cap, O', rfl, _⟩ <;> simp [Value.oneCell']
  | .sl false sz xs, cs, O, r => by simp only [RepC] at r; obtain ⟨⟨A, cap, m, rfl, _⟩, _⟩ := r; simp [Value.oneCell']
  | .agg fs, cs, O, r => by simp only [RepC] at r; exact repL_one fs r
  | .arr sz xs, cs, O, r => by simp only [RepC] at r; exact repL_one xs r.1
  | .box x, cs, O, r => by simp only [RepC] at r; obtain ⟨b, c, e, m, O', rfl, _⟩ := r; simp [Value.oneCell']
  | .dptr x, cs, O, r => by simp only [RepC] at r; obtain ⟨⟨a, m, rfl, _⟩, _⟩ := r; simp [Value.oneCell']
  | .tup _, cs, O, r => by simp only [RepC] at r
  | .vref .., cs, O, r => by simp only [RepC] at r
  | .vagg .., cs, O, r => by simp only [RepC] at r
  | .vsub .., cs, O, r => by simp only [RepC] at r
  | .ptr .., cs, O, r => by simp only [RepC] at r
theorem repL_one {h : Array Obj} {S : Nat → Prop} : ∀ (xs : List AV) {cs : List Value} {O : Nat → Prop}, RepL h S xs cs O → ∀ u ∈ cs, u.oneCell' = true
  | [], cs, O, r => by simp only [RepL] at r; obtain ⟨rfl, _⟩ := r; simp
  | x :: xs, cs, O, r => by
    simp only [RepL] at r
    obtain ⟨c1, c2, O1, O2, rfl, _, _, h1, h2⟩ := r
    intro u hu
    rcases List.mem_append.1 hu with hu | hu
    · exact repC_one x h1 u hu
    · exact repL_one xs h2 u hu
end

theorem cellH_lt {h : Array Obj} {a : Addr} {v : Value} (e : cellH h a = some v) : a.block < h.size := by
  unfold cellH at e
  cases hb : h[a.block]? with
  | none => simp [hb] at e
  | some o => exact (Array.getElem?_eq_some_iff.1 hb).1
theorem cellH_same {h h' : Array Obj} {a : Addr} (e : h'[a.block]? = h[a.block]?) : cellH h' a = cellH h a := by unfold cellH; rw [e]
theorem add_block (a : Addr) (n : Nat) : (a.add n).block = a.block := by unfold Addr.add; split <;> rfl

/-- Two heaps agree where what is shared may lie (as far as the first goes), and on what is own. -/
structure Agree (h h' : Array Obj) (S S' O : Nat → Prop) : Prop where
  sh : ∀ k, S k → k < h.size → S' k ∧ h'[k]? = h[k]?
  ow : ∀ k, O k → h'[k]? = h[k]?

theorem Agree.sub {h h' : Array Obj} {S S' O O' : Nat → Prop} (a : Agree h h' S S' O) (hs : ∀ k, O' k → O k) : Agree h h' S S' O' :=
  ⟨a.sh, fun k hk => a.ow k (hs k hk)⟩

theorem blk_lt {h : Array Obj} {k : Nat} {c : Array Value} {e : TypeId} (r : Row h k c e) : k < h.size := by
  obtain ⟨fr, e, _⟩ := r
  exact (Array.getElem?_eq_some_iff.1 e).1

mutual
theorem repC_mono {h h' : Array Obj} {S S' : Nat → Prop} : ∀ (x : AV) {cs : List Value} {O : Nat → Prop}, RepC h S x cs O → Agree h h' S S' O → RepC h' S' x cs O
  | .undef, cs, O, r, a => by simp only [RepC] at r ⊢; exact r
  | .oth v, cs, O, r, a => by simp only [RepC] at r ⊢; exact r
  | .int k n, cs, O, r, a => by simp only [RepC] at r ⊢; exact r
  | .bool b, cs, O, r, a => by simp only [RepC] at r ⊢; exact r
  | .str s, cs, O, r, a => by simp only [RepC] at r ⊢; exact r
  | .sl true sz xs, cs, O, r, a => by
    simp only [RepC] at r ⊢
    rcases r with r | ⟨hsz, b, c, e, cap, O', h1, h2, h3, h4, h5, h6, h7, h8, h9, h10⟩
    · exact .inl r
    · exact .inr ⟨hsz, b, c, e, cap, O', h1, h2.same (a.ow b ((h9 b).2 (.inl rfl))), h3, h4, h5, repL_mono xs h6 (a.sub fun k hk => (h9 k).2 (.inr hk)), h7, h8, h9, h10⟩
  | .sl false sz xs, cs, O, r, a => by
    simp only [RepC] at r ⊢
    obtain ⟨⟨A, cap, m, h1, h2, h3, h4, h5⟩, h6⟩ := r
    refine ⟨⟨A, cap, m, h1, h2, repL_mono xs h3 (a.sub fun k hk => hk.elim), h4, fun hn => ?_⟩, h6⟩
    obtain ⟨ad, e, hS, hc⟩ := h5 hn
    have hlen := repL_len xs h3
    rw [len_of_uni h4] at hlen
    have key : 0 < sz → ad.block < h.size := by
      intro hsz
      have : 0 < m.length := by rw [hlen]; exact Nat.mul_pos hsz hn
      have := hc 0 m[0] (List.getElem?_eq_getElem this)
      have := cellH_lt this
      rwa [add_block] at this
    refine ⟨ad, e, fun hsz => (a.sh _ (hS hsz) (key hsz)).1, fun j u hu => ?_⟩
    have hsz : 0 < sz := by
      rcases Nat.eq_zero_or_pos sz with h0 | h0
      · have : m.length = 0 := by rw [hlen, h0]; simp
        have : m = [] := List.eq_nil_of_length_eq_zero this
        subst this; simp at hu
      · exact h0
    rw [← hc j u hu]
    exact cellH_same (by rw [add_block]; exact (a.sh _ (hS hsz) (key hsz)).2)
  | .agg fs, cs, O, r, a => by simp only [RepC] at r ⊢; exact repL_mono fs r a
  | .arr sz xs, cs, O, r, a => by simp only [RepC] at r ⊢; exact ⟨repL_mono xs r.1 a, r.2⟩
  | .box x, cs, O, r, a => by
    simp only [RepC] at r ⊢
    obtain ⟨b, c, e, m, O', h1, h2, h3, h4, h5, h6⟩ := r
    exact ⟨b, c, e, m, O', h1, h2.same (a.ow b ((h6 b).2 (.inl rfl))), h3, repC_mono x h4 (a.sub fun k hk => (h6 k).2 (.inr hk)), h5, h6⟩
  | .dptr x, cs, O, r, a => by
    simp only [RepC] at r ⊢
    obtain ⟨⟨ad, m, h1, h2, h3, h4⟩, h5⟩ := r
    have key : 0 < m.length → ad.block < h.size := by
      intro hm
      have := cellH_lt (h4 0 m[0] (List.getElem?_eq_getElem hm))
      rwa [add_block] at this
    refine ⟨⟨ad, m, h1, repC_mono x h2 (a.sub fun k hk => hk.elim), fun hm => (a.sh _ (h3 hm) (key hm)).1, fun j u hu => ?_⟩, h5⟩
    have hm : 0 < m.length := by
      rcases m with _ | ⟨y, m⟩
      · simp at hu
      · simp
    rw [← h4 j u hu]
    exact cellH_same (by rw [add_block]; exact (a.sh _ (h3 hm) (key hm)).2)
  | .tup _, cs, O, r, a => by simp only [RepC] at r
  | .vref .., cs, O, r, a => by simp only [RepC] at r
  | .vagg .., cs, O, r, a => by simp only [RepC] at r
  | .vsub .., cs, O, r, a => by simp only [RepC] at r
  | .ptr .., cs, O, r, a => by simp only [RepC] at r
theorem repL_mono {h h' : Array Obj} {S S' : Nat → Prop} : ∀ (xs : List AV) {cs : List Value} {O : Nat → Prop}, RepL h S xs cs O → Agree h h' S S' O → RepL h' S' xs cs O
  | [], cs, O, r, a => by simp only [RepL] at r ⊢; exact r
  | x :: xs, cs, O, r, a => by
    simp only [RepL] at r ⊢
    obtain ⟨c1, c2, O1, O2, h1, h2, h3, h4, h5⟩ := r
    exact ⟨c1, c2, O1, O2, h1, h2, h3, repC_mono x h4 (a.sub fun k hk => (h2 k).2 (.inl hk)), repL_mono xs h5 (a.sub fun k hk => (h2 k).2 (.inr hk))⟩
end
end Go.Proofs.Ytklmfpikhejemaa.Am

namespace Go.Proofs.Ytklmfpikhejemaa.Am
open Go.RowKit AV
set_option linter.unusedVariables false

mutual
theorem repC_cong {h : Array Obj} {S : Nat → Prop} : ∀ (x : AV) {cs : List Value} {O O' : Nat → Prop}, RepC h S x cs O → (∀ k, O' k ↔ O k) → RepC h S x cs O'
  | .undef, cs, O, O', r, e => by simp only [RepC] at r ⊢; exact ⟨r.1, r.2.iff e⟩
  | .oth v, cs, O, O', r, e => by simp only [RepC] at r ⊢; exact ⟨r.1, r.2.iff e⟩
  | .int k n, cs, O, O', r, e => by simp only [RepC] at r ⊢; exact ⟨r.1, r.2.iff e⟩
  | .bool b, cs, O, O', r, e => by simp only [RepC] at r ⊢; exact ⟨r.1, r.2.iff e⟩
  | .str s, cs, O, O', r, e => by simp only [RepC] at r ⊢; exact ⟨r.1, r.2.iff e⟩
  | .sl true sz xs, cs, O, O', r, ee => by
    simp only [RepC] at r ⊢
    rcases r with ⟨r1, r2, r3⟩ | ⟨hsz, b, c, e, cap, O1, h1, h2, h3, h4, h5, h6, h7, h8, h9, h10⟩
    · exact .inl ⟨r1, r2, r3.iff ee⟩
    · exact .inr ⟨hsz, b, c, e, cap, O1, h1, h2, h3, h4, h5, h6, h7, h8, fun k => (ee k).trans (h9 k), h10⟩
  | .sl false sz xs, cs, O, O', r, e => by simp only [RepC] at r ⊢; exact ⟨r.1, r.2.iff e⟩
  | .agg fs, cs, O, O', r, e => by simp only [RepC] at r ⊢; exact repL_cong fs r e
  | .arr sz xs, cs, O, O', r, e => by simp only [RepC] at r ⊢; exact ⟨repL_cong xs r.1 e, r.2⟩
  | .box x, cs, O, O', r, ee => by
    simp only [RepC] at r ⊢
    obtain ⟨b, c, e, m, O1, h1, h2, h3, h4, h5, h6⟩ := r
    exact ⟨b, c, e, m, O1, h1, h2, h3, h4, h5, fun k => (ee k).trans (h6 k)⟩
  | .dptr x, cs, O, O', r, e => by simp only [RepC] at r ⊢; exact ⟨r.1, r.2.iff e⟩
  | .tup _, cs, O, O', r, e => by simp only [RepC] at r
  | .vref .., cs, O, O', r, e => by simp only [RepC] at r
  | .vagg .., cs, O, O', r, e => by simp only [RepC] at r
  | .vsub .., cs, O, O', r, e => by simp only [RepC] at r
  | .ptr .., cs, O, O', r, e => by simp only [RepC] at r
theorem repL_cong {h : Array Obj} {S : Nat → Prop} : ∀ (xs : List AV) {cs : List Value} {O O' : Nat → Prop}, RepL h S xs cs O → (∀ k, O' k ↔ O k) → RepL h S xs cs O'
  | [], cs, O, O', r, e => by simp only [RepL] at r ⊢; exact ⟨r.1, r.2.iff e⟩
  | x :: xs, cs, O, O', r, e => by
    simp only [RepL] at r ⊢
    obtain ⟨c1, c2, O1, O2, h1, h2, h3, h4, h5⟩ := r
    exact ⟨c1, c2, O1, O2, h1, fun k => (e k).trans (h2 k), h3, h4, h5⟩
end

mutual
/-- What is own lies in the heap. -/
theorem repC_lt {h : Array Obj} {S : Nat → Prop} : ∀ (x : AV) {cs : List Value} {O : Nat → Prop}, RepC h S x cs O → ∀ k, O k → k < h.size
  | .undef, cs, O, r => by simp only [RepC] at r; exact fun k hk => (r.2 k hk).elim
  | .oth v, cs, O, r => by simp only [RepC] at r; exact fun k hk => (r.2 k hk).elim
  | .int k n, cs, O, r => by simp only [RepC] at r; exact fun k hk => (r.2 k hk).elim
  | .bool b, cs, O, r => by simp only [RepC] at r; exact fun k hk => (r.2 k hk).elim
  | .str s, cs, O, r => by simp only [RepC] at r; exact fun k hk => (r.2 k hk).elim
  | .sl true sz xs, cs, O, r => by
    simp only [RepC] at r
    rcases r with ⟨r1, r2, r3⟩ | ⟨hsz, b, c, e, cap, O1, h1, h2, h3, h4, h5, h6, h7, h8, h9, h10⟩
    · exact fun k hk => (r3 k hk).elim
    · intro k hk
      rcases (h9 k).1 hk with rfl | hk
      · exact blk_lt h2
      · exact repL_lt xs h6 k hk
  | .sl false sz xs, cs, O, r => by simp only [RepC] at r; exact fun k hk => (r.2 k hk).elim
  | .agg fs, cs, O, r => by simp only [RepC] at r; exact repL_lt fs r
  | .arr sz xs, cs, O, r => by simp only [RepC] at r; exact repL_lt xs r.1
  | .box x, cs, O, r => by
    simp only [RepC] at r
    obtain ⟨b, c, e, m, O1, h1, h2, h3, h4, h5, h6⟩ := r
    intro k hk
    rcases (h6 k).1 hk with rfl | hk
    · exact blk_lt h2
    · exact repC_lt x h4 k hk
  | .dptr x, cs, O, r => by simp only [RepC] at r; exact fun k hk => (r.2 k hk).elim
  | .tup _, cs, O, r => by simp only [RepC] at r
  | .vref .., cs, O, r => by simp only [RepC] at r
  | .vagg .., cs, O, r => by simp only [RepC] at r
  | .vsub .., cs, O, r => by simp only [RepC] at r
  | .ptr .., cs, O, r => by simp only [RepC] at r
theorem repL_lt {h : Array Obj} {S : Nat → Prop} : ∀ (xs : List AV) {cs : List Value} {O : Nat → Prop}, RepL h S xs cs O → ∀ k, O k → k < h.size
  | [], cs, O, r => by simp only [RepL] at r; exact fun k hk => (r.2 k hk).elim
  | x :: xs, cs, O, r => by
    simp only [RepL] at r
    obtain ⟨c1, c2, O1, O2, h1, h2, h3, h4, h5⟩ := r
    intro k hk
    rcases (h2 k).1 hk with hk | hk
    · exact repC_lt x h4 k hk
    · exact repL_lt xs h5 k hk
end

mutual
theorem repC_plain {h : Array Obj} {S : Nat → Prop} : ∀ (x : AV) {cs : List Value} {O : Nat → Prop}, RepC h S x cs O → plain x = true → Emp O
  | .undef, cs, O, r, e => by simp only [RepC] at r; exact r.2
  | .oth v, cs, O, r, e => by simp only [RepC] at r; exact r.2
  | .int k n, cs, O, r, e => by simp only [RepC] at r; exact r.2
  | .bool b, cs, O, r, e => by simp only [RepC] at r; exact r.2
  | .str s, cs, O, r, e => by simp only [RepC] at r; exact r.2
  | .sl true sz xs, cs, O, r, e => by simp [plain] at e
  | .sl false sz xs, cs, O, r, e => by simp only [RepC] at r; exact r.2
  | .agg fs, cs, O, r, e => by simp only [RepC] at r; exact repL_plain fs r (by simpa [plain] using e)
  | .arr sz xs, cs, O, r, e => by simp only [RepC] at r; exact repL_plain xs r.1 (by simpa [plain] using e)
  | .box x, cs, O, r, e => by simp [plain] at e
  | .dptr x, cs, O, r, e => by simp only [RepC] at r; exact r.2
  | .tup _, cs, O, r, e => by simp only [RepC] at r
  | .vref .., cs, O, r, e => by simp only [RepC] at r
  | .vagg .., cs, O, r, e => by simp only [RepC] at r
  | .vsub .., cs, O, r, e => by simp only [RepC] at r
  | .ptr .., cs, O, r, e => by simp only [RepC] at r
theorem repL_plain {h : Array Obj} {S : Nat → Prop} : ∀ (xs : List AV) {cs : List Value} {O : Nat → Prop}, RepL h S xs cs O → plainL xs = true → Emp O
  | [], cs, O, r, e => by simp only [RepL] at r; exact r.2
  | x :: xs, cs, O, r, e => by
    simp only [RepL] at r
    simp only [plainL, Bool.and_eq_true] at e
    obtain ⟨c1, c2, O1, O2, h1, h2, h3, h4, h5⟩ := r
    intro k hk
    rcases (h2 k).1 hk with hk | hk
    · exact repC_plain x h4 e.1 k hk
    · exact repL_plain xs h5 e.2 k hk
end

mutual
/-- Where nothing is shared, S does not matter. -/
theorem repC_closed {h : Array Obj} {S S' : Nat → Prop} : ∀ (x : AV) {cs : List Value} {O : Nat → Prop}, RepC h S x cs O → closed x = true → RepC h S' x cs O
  | .undef, cs, O, r, e => by simp only [RepC] at r ⊢; exact r
  | .oth v, cs, O, r, e => by simp only [RepC] at r ⊢; exact r
  | .int k n, cs, O, r, e => by simp only [RepC] at r ⊢; exact r
  | .bool b, cs, O, r, e => by simp only [RepC] at r ⊢; exact r
  | .str s, cs, O, r, e => by simp only [RepC] at r ⊢; exact r
  | .sl true sz xs, cs, O, r, e => by
    simp only [RepC] at r ⊢
    rcases r with r | ⟨hsz, b, c, e', cap, O1, h1, h2, h3, h4, h5, h6, h7, h8, h9, h10⟩
    · exact .inl r
    · exact .inr ⟨hsz, b, c, e', cap, O1, h1, h2, h3, h4, h5, repL_closed xs h6 (by simpa [closed] using e), h7, h8, h9, h10⟩
  | .sl false sz xs, cs, O, r, e => by simp [closed] at e
  | .agg fs, cs, O, r, e => by simp only [RepC] at r ⊢; exact repL_closed fs r (by simpa [closed] using e)
  | .arr sz xs, cs, O, r, e => by simp only [RepC] at r ⊢; exact ⟨repL_closed xs r.1 (by simpa [closed] using e), r.2⟩
  | .box x, cs, O, r, e => by
    simp only [RepC] at r ⊢
    obtain ⟨b, c, e', m, O1, h1, h2, h3, h4, h5, h6⟩ := r
    exact ⟨b, c, e', m, O1, h1, h2, h3, repC_closed x h4 (by simpa [closed] using e), h5, h6⟩
  | .dptr x, cs, O, r, e => by simp [closed] at e
  | .tup _, cs, O, r, e => by simp only [RepC] at r
  | .vref .., cs, O, r, e => by simp only [RepC] at r
  | .vagg .., cs, O, r, e => by simp only [RepC] at r
  | .vsub .., cs, O, r, e => by simp only [RepC] at r
  | .ptr .., cs, O, r, e => by simp only [RepC] at r
theorem repL_closed {h : Array Obj} {S S' : Nat → Prop} : ∀ (xs : List AV) {cs : List Value} {O : Nat → Prop}, RepL h S xs cs O → closedL xs = true → RepL h S' xs cs O
  | [], cs, O, r, e => by simp only [RepL] at r ⊢; exact r
  | x :: xs, cs, O, r, e => by
    simp only [RepL] at r ⊢
    simp only [closedL, Bool.and_eq_true] at e
    obtain ⟨c1, c2, O1, O2, h1, h2, h3, h4, h5⟩ := r
    exact ⟨c1, c2, O1, O2, h1, h2, h3, repC_closed x h4 e.1, repL_closed xs h5 e.2⟩
end

theorem eraseL_map (xs : List AV) : eraseL xs = xs.map erase := by
  induction xs with
  | nil => simp [eraseL]
  | cons x xs ih => simp [eraseL, ih]
theorem deadL_map (xs : List AV) : deadL xs = xs.map dead := by
  induction xs with
  | nil => simp [deadL]
  | cons x xs ih => simp [deadL, ih]
theorem plainL_all (xs : List AV) : plainL xs = xs.all plain := by
  induction xs with
  | nil => simp [plainL]
  | cons x xs ih => simp [plainL, ih]
theorem closedL_all (xs : List AV) : closedL xs = xs.all closed := by
  induction xs with
  | nil => simp [closedL]
  | cons x xs ih => simp [closedL, ih]

mutual
theorem ncells_erase : ∀ x : AV, ncells (erase x) = ncells x
  | .undef => by simp [erase]
  | .oth v => by simp [erase]
  | .int k n => by simp [erase]
  | .bool b => by simp [erase]
  | .str s => by simp [erase]
  | .sl o sz xs => by simp [erase, ncells]
  | .agg fs => by simp only [erase, ncells]; exact ncellsL_erase fs
  | .arr sz xs => by simp [erase, ncells, eraseL_map]
  | .box x => by simp [erase, ncells]
  | .dptr x => by simp [erase]
  | .tup _ => by simp [erase, ncells]
  | .vref .. => by simp [erase]
  | .vagg .. => by simp [erase]
  | .vsub .. => by simp [erase]
  | .ptr .. => by simp [erase]
theorem ncellsL_erase : ∀ xs : List AV, ncellsL (eraseL xs) = ncellsL xs
  | [] => by simp [eraseL]
  | x :: xs => by simp only [eraseL, ncellsL, ncells_erase x, ncellsL_erase xs]
end
mutual
theorem ncells_dead : ∀ x : AV, ncells (dead x) = ncells x
  | .undef => by simp [dead]
  | .oth v => by simp [dead]
  | .int k n => by simp [dead]
  | .bool b => by simp [dead]
  | .str s => by simp [dead]
  | .sl o sz xs => by simp only [dead]; split <;> simp [ncells]
  | .agg fs => by simp only [dead, ncells]; exact ncellsL_dead fs
  | .arr sz xs => by simp [dead, ncells, deadL_map]
  | .box x => by simp [dead, ncells]
  | .dptr x => by simp [dead]
  | .tup _ => by simp [dead, ncells]
  | .vref .. => by simp [dead]
  | .vagg .. => by simp [dead]
  | .vsub .. => by simp [dead]
  | .ptr .. => by simp [dead]
theorem ncellsL_dead : ∀ xs : List AV, ncellsL (deadL xs) = ncellsL xs
  | [] => by simp [deadL]
  | x :: xs => by simp only [deadL, ncellsL, ncells_dead x, ncellsL_dead xs]
end

theorem row_cells {h : Array Obj} {b : Nat} {c : Array Value} {e : TypeId} (hb : Row h b c e) {n j : Nat} {u : Value}
    (hu : (c.toList.take n)[j]? = some u) : cellH h ((⟨b, 0, none⟩ : Addr).add j) = some u := by
  have hadd : (⟨b, 0, none⟩ : Addr).add j = ⟨b, j, none⟩ := by unfold Addr.add; split <;> simp_all
  obtain ⟨fr, hb, _⟩ := hb
  rw [hadd]
  simp only [cellH, hb]
  rw [List.getElem?_take] at hu
  split at hu
  · simpa using hu
  · cases hu

mutual
/-- What was own is shared from here on: its blocks join S. -/
theorem repC_erase {h : Array Obj} {S S' : Nat → Prop} : ∀ (x : AV) {cs : List Value} {O : Nat → Prop}, RepC h S x cs O → (∀ k, S k → S' k) → (∀ k, O k → S' k) → RepC h S' (erase x) cs (fun _ => False)
  | .undef, cs, O, r, s1, s2 => by simp only [RepC, erase] at r ⊢; exact ⟨r.1, emp_false⟩
  | .oth v, cs, O, r, s1, s2 => by simp only [RepC, erase] at r ⊢; exact ⟨r.1, emp_false⟩
  | .int k n, cs, O, r, s1, s2 => by simp only [RepC, erase] at r ⊢; exact ⟨r.1, emp_false⟩
  | .bool b, cs, O, r, s1, s2 => by simp only [RepC, erase] at r ⊢; exact ⟨r.1, emp_false⟩
  | .str s, cs, O, r, s1, s2 => by simp only [RepC, erase] at r ⊢; exact ⟨r.1, emp_false⟩
  | .sl true sz xs, cs, O, r, s1, s2 => by
    simp only [RepC, erase] at r ⊢
    refine ⟨?_, emp_false⟩
    rcases r with ⟨rfl, rfl, r3⟩ | ⟨hsz, b, c, e, cap, O1, h1, h2, h3, h4, h5, h6, h7, h8, h9, h10⟩
    · exact ⟨none, 0, [], by simp [eraseL], by simp [eraseL], by simp only [eraseL, RepL]; exact ⟨trivial, emp_false⟩, by simp [eraseL], by simp [eraseL]⟩
    · refine ⟨some ⟨b, 0, none⟩, cap, c.toList.take (xs.length * sz), by rw [eraseL_map]; simpa using h1, by rw [eraseL_map]; simpa using h4,
        repL_erase xs h6 s1 (fun k hk => s2 k ((h9 k).2 (.inr hk))), ?_, fun _ => ⟨_, rfl, fun _ => s2 b ((h9 b).2 (.inl rfl)), fun j u hu => row_cells h2 hu⟩⟩
      intro y hy
      rw [eraseL_map] at hy
      obtain ⟨x, hx, rfl⟩ := List.mem_map.1 hy
      rw [ncells_erase]; exact h7 x hx
  | .sl false sz xs, cs, O, r, s1, s2 => by
    simp only [RepC, erase] at r ⊢
    refine ⟨?_, emp_false⟩
    obtain ⟨⟨A, cap, m, h1, h2, h3, h4, h5⟩, _⟩ := r
    refine ⟨A, cap, m, by rw [eraseL_map]; simpa using h1, by rw [eraseL_map]; simpa using h2, repL_erase xs h3 s1 (fun k hk => hk.elim), ?_, ?_⟩
    · intro y hy
      rw [eraseL_map] at hy
      obtain ⟨x, hx, rfl⟩ := List.mem_map.1 hy
      rw [ncells_erase]; exact h4 x hx
    · intro hn
      rw [eraseL_map, List.length_map] at hn
      obtain ⟨a, e, hS, hc⟩ := h5 hn
      exact ⟨a, e, fun hsz => s1 _ (hS hsz), hc⟩
  | .agg fs, cs, O, r, s1, s2 => by simp only [RepC, erase] at r ⊢; exact repL_erase fs r s1 s2
  | .arr sz xs, cs, O, r, s1, s2 => by
    simp only [RepC, erase] at r ⊢
    refine ⟨repL_erase xs r.1 s1 s2, ?_⟩
    intro y hy
    rw [eraseL_map] at hy
    obtain ⟨x, hx, rfl⟩ := List.mem_map.1 hy
    rw [ncells_erase]; exact r.2 x hx
  | .box x, cs, O, r, s1, s2 => by
    simp only [RepC, erase] at r ⊢
    refine ⟨?_, emp_false⟩
    obtain ⟨b, c, e, m, O1, h1, h2, h3, h4, h5, h6⟩ := r
    refine ⟨⟨b, 0, none⟩, m, h1, repC_erase x h4 s1 (fun k hk => s2 k ((h6 k).2 (.inr hk))), fun _ => s2 b ((h6 b).2 (.inl rfl)), fun j u hu => ?_⟩
    subst h3
    exact row_cells h2 (n := c.toList.length) (by rw [List.take_length]; exact hu)
  | .dptr x, cs, O, r, s1, s2 => by
    simp only [RepC, erase] at r ⊢
    obtain ⟨⟨a, m, h1, h2, h3, h4⟩, _⟩ := r
    exact ⟨⟨a, m, h1, repC_sub x h2 s1, fun hm => s1 _ (h3 hm), h4⟩, emp_false⟩
  | .tup _, cs, O, r, s1, s2 => by simp only [RepC] at r
  | .vref .., cs, O, r, s1, s2 => by simp only [RepC] at r
  | .vagg .., cs, O, r, s1, s2 => by simp only [RepC] at r
  | .vsub .., cs, O, r, s1, s2 => by simp only [RepC] at r
  | .ptr .., cs, O, r, s1, s2 => by simp only [RepC] at r
theorem repL_erase {h : Array Obj} {S S' : Nat → Prop} : ∀ (xs : List AV) {cs : List Value} {O : Nat → Prop}, RepL h S xs cs O → (∀ k, S k → S' k) → (∀ k, O k → S' k) → RepL h S' (eraseL xs) cs (fun _ => False)
  | [], cs, O, r, s1, s2 => by simp only [RepL, eraseL] at r ⊢; exact ⟨r.1, emp_false⟩
  | x :: xs, cs, O, r, s1, s2 => by
    simp only [RepL, eraseL] at r ⊢
    obtain ⟨c1, c2, O1, O2, h1, h2, h3, h4, h5⟩ := r
    exact ⟨c1, c2, _, _, h1, by simp, by simp, repC_erase x h4 s1 (fun k hk => s2 k ((h2 k).2 (.inl hk))), repL_erase xs h5 s1 (fun k hk => s2 k ((h2 k).2 (.inr hk)))⟩
/-- S may grow. -/
theorem repC_sub {h : Array Obj} {S S' : Nat → Prop} : ∀ (x : AV) {cs : List Value} {O : Nat → Prop}, RepC h S x cs O → (∀ k, S k → S' k) → RepC h S' x cs O
  | x, cs, O, r, s => repC_mono x r ⟨fun k hk _ => ⟨s k hk, rfl⟩, fun _ _ => rfl⟩
end

mutual
/-- What is left where something was taken from. -/
theorem repC_dead {h : Array Obj} {S : Nat → Prop} : ∀ (x : AV) {cs : List Value} {O : Nat → Prop}, RepC h S x cs O → RepC h S (dead x) cs (fun _ => False)
  | .undef, cs, O, r => by simp only [RepC, dead] at r ⊢; exact ⟨r.1, emp_false⟩
  | .oth v, cs, O, r => by simp only [RepC, dead] at r ⊢; exact ⟨r.1, emp_false⟩
  | .int k n, cs, O, r => by simp only [RepC, dead] at r ⊢; exact ⟨r.1, emp_false⟩
  | .bool b, cs, O, r => by simp only [RepC, dead] at r ⊢; exact ⟨r.1, emp_false⟩
  | .str s, cs, O, r => by simp only [RepC, dead] at r ⊢; exact ⟨r.1, emp_false⟩
  | .sl true sz xs, cs, O, r => by
    have h1 := repC_one _ r
    have h2 := repC_len _ r
    simp only [dead, if_true, RepC]
    refine ⟨?_, emp_false⟩
    simp only [ncells] at h2
    obtain ⟨v, rfl⟩ := List.length_eq_one_iff.1 h2
    exact ⟨v, rfl, h1 v (by simp)⟩
  | .sl false sz xs, cs, O, r => by simp only [RepC, dead] at r ⊢; simp only [Bool.false_eq_true, if_false, RepC]; exact ⟨r.1, emp_false⟩
  | .agg fs, cs, O, r => by simp only [RepC, dead] at r ⊢; exact repL_dead fs r
  | .arr sz xs, cs, O, r => by
    simp only [RepC, dead] at r ⊢
    refine ⟨repL_dead xs r.1, ?_⟩
    intro y hy
    rw [deadL_map] at hy
    obtain ⟨x, hx, rfl⟩ := List.mem_map.1 hy
    rw [ncells_dead]; exact r.2 x hx
  | .box x, cs, O, r => by
    simp only [RepC, dead] at r ⊢
    obtain ⟨b, c, e, m, O1, h1, _⟩ := r
    exact ⟨⟨_, h1, by simp [Value.oneCell']⟩, emp_false⟩
  | .dptr x, cs, O, r => by simp only [RepC, dead] at r ⊢; exact ⟨r.1, emp_false⟩
  | .tup _, cs, O, r => by simp only [RepC] at r
  | .vref .., cs, O, r => by simp only [RepC] at r
  | .vagg .., cs, O, r => by simp only [RepC] at r
  | .vsub .., cs, O, r => by simp only [RepC] at r
  | .ptr .., cs, O, r => by simp only [RepC] at r
theorem repL_dead {h : Array Obj} {S : Nat → Prop} : ∀ (xs : List AV) {cs : List Value} {O : Nat → Prop}, RepL h S xs cs O → RepL h S (deadL xs) cs (fun _ => False)
  | [], cs, O, r => by simp only [RepL, deadL] at r ⊢; exact ⟨r.1, emp_false⟩
  | x :: xs, cs, O, r => by
    simp only [RepL, deadL] at r ⊢
    obtain ⟨c1, c2, O1, O2, h1, h2, h3, h4, h5⟩ := r
    exact ⟨c1, c2, _, _, h1, by simp, by simp, repC_dead x h4, repL_dead xs h5⟩
end
end Go.Proofs.Ytklmfpikhejemaa.Am

namespace Go.Proofs.Ytklmfpikhejemaa.Am
open Go.RowKit AV
set_option linter.unusedVariables false

/-- One of many, and how the others are joined with what is put in its place. -/
theorem repL_at {h : Array Obj} {S : Nat → Prop} : ∀ (xs : List AV) (i : Nat) (y : AV) {m : List Value} {O : Nat → Prop}, RepL h S xs m O → xs[i]? = some y →
    ∃ (m1 cy m2 : List Value) (Oy Ob : Nat → Prop), m = m1 ++ cy ++ m2 ∧ m1.length = ncellsL (xs.take i) ∧ RepC h S y cy Oy ∧ (∀ k, O k ↔ Oy k ∨ Ob k) ∧ (∀ k, Oy k → ¬ Ob k) ∧
      ∀ (h' : Array Obj) (S' : Nat → Prop) (y' : AV) (cy' : List Value) (Oy' : Nat → Prop), Agree h h' S S' Ob → RepC h' S' y' cy' Oy' → (∀ k, Oy' k → ¬ Ob k) →
        RepL h' S' (xs.set i y') (m1 ++ cy' ++ m2) (fun k => Oy' k ∨ Ob k)
  | [], i, y, m, O, r, e => by simp at e
  | x :: xs, 0, y, m, O, r, e => by
    simp only [RepL] at r
    obtain ⟨c1, c2, O1, O2, h1, h2, h3, h4, h5⟩ := r
    obtain rfl : x = y := by simpa using e
    refine ⟨[], c1, c2, O1, O2, by simpa using h1, by simp [ncellsL], h4, h2, h3, ?_⟩
    intro h' S' y' cy' Oy' a r' d
    simp only [List.set_cons_zero, RepL, List.nil_append]
    exact ⟨cy', c2, Oy', O2, rfl, fun k => Iff.rfl, d, r', repL_mono xs h5 a⟩
  | x :: xs, i + 1, y, m, O, r, e => by
    simp only [RepL] at r
    obtain ⟨c1, c2, O1, O2, h1, h2, h3, h4, h5⟩ := r
    obtain ⟨m1, cy, m2, Oy, Ob, g1, g2, g3, g4, g5, g6⟩ := repL_at xs i y h5 (by simpa using e)
    subst g1
    refine ⟨c1 ++ m1, cy, m2, Oy, fun k => O1 k ∨ Ob k, by simp [h1], by simp [ncellsL, repC_len x h4, g2], g3, ?_, ?_, ?_⟩
    · intro k
      rw [h2 k, g4 k]
      constructor
      · rintro (h | h | h) <;> simp [h]
      · rintro (h | h | h) <;> simp [h]
    · intro k hk hr
      rcases hr with hr | hr
      · exact h3 k hr ((g4 k).2 (.inl hk))
      · exact g5 k hk hr
    · intro h' S' y' cy' Oy' a r' d
      have q := g6 h' S' y' cy' Oy' (a.sub fun k hk => .inr hk) r' (fun k hk hr => d k hk (.inr hr))
      simp only [List.set_cons_succ, RepL]
      refine ⟨c1, m1 ++ cy' ++ m2, O1, fun k => Oy' k ∨ Ob k, by simp, ?_, ?_, repC_mono x h4 (a.sub fun k hk => .inl hk), q⟩
      · intro k
        constructor
        · rintro (h | h | h) <;> simp [h]
        · rintro (h | h | h) <;> simp [h]
      · intro k hk hr
        rcases hr with hr | hr
        · exact d k hr (.inl hk)
        · exact h3 k hk ((g4 k).2 (.inr hr))

theorem uni_take {sz : Nat} {xs : List AV} (h : ∀ x ∈ xs, x.ncells = sz) {i : Nat} (hi : i ≤ xs.length) : ncellsL (xs.take i) = i * sz := by
  rw [len_of_uni (sz := sz) (fun x hx => h x (List.mem_of_mem_take hx)), List.length_take, Nat.min_eq_left hi, Nat.mul_comm]

/-- The cells from o on of block B. -/
def At (h : Array Obj) (B o : Nat) (cs : List Value) : Prop := ∀ (j : Nat) u, cs[j]? = some u → cellH h ⟨B, o + j, none⟩ = some u

theorem At.app {h : Array Obj} {B o : Nat} {a b : List Value} : At h B o (a ++ b) ↔ At h B o a ∧ At h B (o + a.length) b := by
  constructor
  · intro H
    refine ⟨fun j u hu => H j u ?_, fun j u hu => ?_⟩
    · rw [List.getElem?_append_left (List.getElem?_eq_some_iff.1 hu).1]; exact hu
    · have := H (a.length + j) u (by rw [List.getElem?_append_right (by omega)]; simpa using hu)
      rwa [← Nat.add_assoc] at this
  · rintro ⟨H1, H2⟩ j u hu
    by_cases hj : j < a.length
    · exact H1 j u (by rwa [List.getElem?_append_left hj] at hu)
    · rw [List.getElem?_append_right (by omega)] at hu
      have := H2 (j - a.length) u hu
      rwa [show o + a.length + (j - a.length) = o + j by omega] at this

/-- From o on of block B these cells were written; of W nothing else. -/
structure Wrote (W : Nat → Prop) (h h' : Array Obj) (B o : Nat) (news : List Value) : Prop where
  other : ∀ k, W k → k ≠ B → h'[k]? = h[k]?
  row : ∃ c c' e fr, h[B]? = some (.cells c e fr) ∧ h'[B]? = some (.cells c' e fr) ∧ c'.size = c.size ∧ o + news.length ≤ c.size ∧ ∀ j, c'[j]? = if o ≤ j ∧ j < o + news.length then news[j - o]? else c[j]?

theorem Wrote.at_ {W : Nat → Prop} {h h' : Array Obj} {B o : Nat} {news : List Value} (w : Wrote W h h' B o news) : At h' B o news := by
  intro j u hu
  obtain ⟨c, c', e, fr, h1, h2, h3, h4, h5⟩ := w.row
  have hj := (List.getElem?_eq_some_iff.1 hu).1
  simp only [cellH, h2]
  simp only [Option.isSome_none, Bool.false_eq_true, if_false]
  rw [h5, if_pos (by omega)]
  simpa using hu
theorem Wrote.off {W : Nat → Prop} {h h' : Array Obj} {B o : Nat} {news : List Value} (w : Wrote W h h' B o news) {j : Nat} (hj : j < o ∨ o + news.length ≤ j) : cellH h' ⟨B, j, none⟩ = cellH h ⟨B, j, none⟩ := by
  obtain ⟨c, c', e, fr, h1, h2, h3, h4, h5⟩ := w.row
  simp only [cellH, h1, h2, Option.isSome_none, Bool.false_eq_true, if_false]
  rw [h5, if_neg (by omega)]
theorem Wrote.keep {W : Nat → Prop} {h h' : Array Obj} {B o : Nat} {news : List Value} (w : Wrote W h h' B o news) {B' o' : Nat} {cs : List Value} (hd : (B' ≠ B ∧ W B') ∨ (B' = B ∧ (o' + cs.length ≤ o ∨ o + news.length ≤ o'))) (H : At h B' o' cs) : At h' B' o' cs := by
  intro j u hu
  have hj := (List.getElem?_eq_some_iff.1 hu).1
  rw [← H j u hu]
  rcases hd with ⟨hb, hw⟩ | ⟨rfl, hd⟩
  · exact cellH_same (w.other _ hw hb)
  · exact w.off (by omega)

def adr (h : Array Obj) : List Nat → AV → Nat → Nat → Option (Nat × Nat)
  | [], _, B, o => some (B, o)
  | i :: p, .agg fs, B, o => match fs[i]? with | some y => adr h p y B (o + ncellsL (fs.take i)) | none => none
  | i :: p, .arr sz xs, B, o => match xs[i]? with | some y => adr h p y B (o + i * sz) | none => none
  | i :: p, .sl true sz xs, B, o => match cellH h ⟨B, o, none⟩ with
    | some (.slice (some b) _ _) => (match xs[i]? with | some y => adr h p y b.block (b.off + i * sz) | none => none)
    | _ => none
  | i :: p, .box x, B, o => match cellH h ⟨B, o, none⟩ with
    | some (.pointer (some b)) => if i = 0 then adr h p x b.block b.off else none
    | _ => none
  | _ :: _, _, _, _ => none

/-- The place at the end of a path: what lies there, and how the whole is behind a write there. -/
theorem place {h : Array Obj} {S : Nat → Prop} : ∀ (p : List Nat) (x : AV) (B o : Nat) {cs : List Value} {O : Nat → Prop} {y : AV} {B' o' : Nat},
    RepC h S x cs O → At h B o cs → ¬ O B → getAt x p = some y → adr h p x B o = some (B', o') →
    ∃ (cy : List Value) (Oy Ob : Nat → Prop), RepC h S y cy Oy ∧ At h B' o' cy ∧ (∀ k, O k ↔ Oy k ∨ Ob k) ∧ (∀ k, Oy k → ¬ Ob k) ∧ ¬ Oy B' ∧
      ((B' = B ∧ o ≤ o' ∧ o' + cy.length ≤ o + cs.length) ∨ (Ob B' ∧ B' ≠ B)) ∧
      ∀ (W : Nat → Prop) (h' : Array Obj) (S' : Nat → Prop) (y' : AV) (cy' : List Value) (Oy' : Nat → Prop), Wrote W h h' B' o' cy' → (∀ k, Ob k → W k) → W B → cy'.length = cy.length → RepC h' S' y' cy' Oy' →
        (∀ k, S k → k < h.size → S' k ∧ h'[k]? = h[k]?) → (∀ k, Oy' k → ¬ Ob k) → ¬ Oy' B → ¬ Oy' B' →
        ∃ cs', RepC h' S' (setAt x p y') cs' (fun k => Oy' k ∨ Ob k) ∧ cs'.length = cs.length ∧ At h' B o cs' ∧ (B' ≠ B → cs' = cs)
  | [], x, B, o, cs, O, y, B', o', r, hat, hB, e, ha => by
    simp only [getAt, Option.some.injEq] at e
    subst e
    simp only [adr, Option.some.injEq, Prod.mk.injEq] at ha
    obtain ⟨rfl, rfl⟩ := ha
    refine ⟨cs, O, fun _ => False, r, hat, by simp, by simp, hB, .inl ⟨rfl, by omega, by omega⟩, ?_⟩
    intro W h' S' y' cy' Oy' w _ _ hl r' _ _ _ _
    refine ⟨cy', ?_, hl, w.at_, fun hne => absurd rfl hne⟩
    have hs : setAt x [] y' = y' := by cases x <;> rfl
    rw [hs]; simp only [or_false]; exact r'
  | i :: p, .agg fs, B, o, cs, O, y, B', o', r, hat, hB, e, ha => by
    simp only [RepC] at r
    simp only [getAt] at e
    simp only [adr] at ha
    cases hf : fs[i]? with
    | none => simp [hf] at e
    | some z =>
      simp only [hf] at e ha
      obtain ⟨m1, cz, m2, Oz, Ob1, g1, g2, g3, g4, g5, g6⟩ := repL_at fs i z r hf
      subst g1
      have hat' : At h B (o + ncellsL (fs.take i)) cz := by
        have := (At.app.1 (At.app.1 hat).1).2
        rwa [g2] at this
      obtain ⟨cy, Oy, Ob, q1, q2, q3, q4, q5, q6, q7⟩ := place p z B _ g3 hat' (fun hz => hB ((g4 B).2 (.inl hz))) e ha
      have hB' : ¬ Oy B' := q5
      have hsplit : ∀ k, O k ↔ Oy k ∨ (Ob k ∨ Ob1 k) := fun k => by rw [g4 k, q3 k, or_assoc]
      refine ⟨cy, Oy, fun k => Ob k ∨ Ob1 k, q1, q2, hsplit, ?_, q5, ?_, ?_⟩
      · intro k hk hr
        rcases hr with hr | hr
        · exact q4 k hk hr
        · exact g5 k ((q3 k).2 (.inl hk)) hr
      · rcases q6 with ⟨e1, e2, e3⟩ | ⟨e1, e2⟩
        · refine .inl ⟨e1, by omega, ?_⟩
          simp only [List.length_append]; rw [g2]; omega
        · exact .inr ⟨.inl e1, e2⟩
      · intro W h' S' y' cy' Oy' w hW hWB hl r' hS hd hnB hnB'
        obtain ⟨cz', t1, t2, t3, t4⟩ := q7 W h' S' y' cy' Oy' w (fun k hk => hW k (.inl hk)) hWB hl r' hS (fun k hk hr => hd k hk (.inl hr)) hnB hnB'
        have hag : Agree h h' S S' Ob1 := by
          refine ⟨fun k hk hlt => hS k hk hlt, fun k hk => w.other k (hW k (.inr hk)) ?_⟩
          intro hkb
          subst hkb
          rcases q6 with ⟨e1, _⟩ | ⟨e1, _⟩
          · exact hB (e1 ▸ (g4 k).2 (.inr hk))
          · exact g5 k ((q3 k).2 (.inr e1)) hk
        have t := g6 h' S' _ cz' _ hag t1 (by
          intro k hk hr
          rcases hk with hk | hk
          · exact hd k hk (.inr hr)
          · exact g5 k ((q3 k).2 (.inr hk)) hr)
        refine ⟨m1 ++ cz' ++ m2, ?_, by simp [t2], ?_, ?_⟩
        · simp only [setAt, hf, RepC]
          exact repL_cong _ t fun k => by rw [or_assoc]
        · have a1 := (At.app.1 (At.app.1 hat).1).1
          have a2 := (At.app.1 hat).2
          refine At.app.2 ⟨At.app.2 ⟨?_, ?_⟩, ?_⟩
          · refine w.keep ?_ a1
            rcases q6 with ⟨e1, e2, e3⟩ | ⟨e1, e2⟩
            · right; exact ⟨e1.symm, by left; rw [g2]; omega⟩
            · exact .inl ⟨Ne.symm e2, hWB⟩
          · rw [g2]; exact t3
          · have : (m1 ++ cz').length = (m1 ++ cz).length := by simp [t2]
            rw [this]
            refine w.keep ?_ a2
            rcases q6 with ⟨e1, e2, e3⟩ | ⟨e1, e2⟩
            · right; exact ⟨e1.symm, by right; simp only [List.length_append]; rw [g2]; omega⟩
            · exact .inl ⟨Ne.symm e2, hWB⟩
        · intro hne
          rw [t4 hne]
  | i :: p, .arr sz fs, B, o, cs, O, y, B', o', r, hat, hB, e, ha => by
    simp only [RepC] at r
    obtain ⟨r, hu⟩ := r
    simp only [getAt] at e
    simp only [adr] at ha
    cases hf : fs[i]? with
    | none => simp [hf] at e
    | some z =>
      simp only [hf] at e ha
      have hil : i < fs.length := (List.getElem?_eq_some_iff.1 hf).1
      obtain ⟨m1, cz, m2, Oz, Ob1, g1, g2, g3, g4, g5, g6⟩ := repL_at fs i z r hf
      subst g1
      rw [uni_take hu (by omega)] at g2
      have hat' : At h B (o + i * sz) cz := by
        have := (At.app.1 (At.app.1 hat).1).2
        rwa [g2] at this
      obtain ⟨cy, Oy, Ob, q1, q2, q3, q4, q5, q6, q7⟩ := place p z B _ g3 hat' (fun hz => hB ((g4 B).2 (.inl hz))) e ha
      have hsplit : ∀ k, O k ↔ Oy k ∨ (Ob k ∨ Ob1 k) := fun k => by rw [g4 k, q3 k, or_assoc]
      refine ⟨cy, Oy, fun k => Ob k ∨ Ob1 k, q1, q2, hsplit, ?_, q5, ?_, ?_⟩
      · intro k hk hr
        rcases hr with hr | hr
        · exact q4 k hk hr
        · exact g5 k ((q3 k).2 (.inl hk)) hr
      · rcases q6 with ⟨e1, e2, e3⟩ | ⟨e1, e2⟩
        · refine .inl ⟨e1, by omega, ?_⟩
          simp only [List.length_append]; rw [g2]; omega
        · exact .inr ⟨.inl e1, e2⟩
      · intro W h' S' y' cy' Oy' w hW hWB hl r' hS hd hnB hnB'
        obtain ⟨cz', t1, t2, t3, t4⟩ := q7 W h' S' y' cy' Oy' w (fun k hk => hW k (.inl hk)) hWB hl r' hS (fun k hk hr => hd k hk (.inl hr)) hnB hnB'
        have hag : Agree h h' S S' Ob1 := by
          refine ⟨fun k hk hlt => hS k hk hlt, fun k hk => w.other k (hW k (.inr hk)) ?_⟩
          intro hkb
          subst hkb
          rcases q6 with ⟨e1, _⟩ | ⟨e1, _⟩
          · exact hB (e1 ▸ (g4 k).2 (.inr hk))
          · exact g5 k ((q3 k).2 (.inr e1)) hk
        have t := g6 h' S' _ cz' _ hag t1 (by
          intro k hk hr
          rcases hk with hk | hk
          · exact hd k hk (.inr hr)
          · exact g5 k ((q3 k).2 (.inr hk)) hr)
        refine ⟨m1 ++ cz' ++ m2, ?_, by simp [t2], ?_, ?_⟩
        · simp only [setAt, hf, RepC]
          refine ⟨repL_cong _ t fun k => by rw [or_assoc], ?_⟩
          intro x hx
          rcases List.mem_or_eq_of_mem_set hx with hx | rfl
          · exact hu x hx
          · rw [← repC_len _ t1, t2, repC_len _ g3]
            exact hu z (List.mem_of_getElem? hf)
        · have a1 := (At.app.1 (At.app.1 hat).1).1
          have a2 := (At.app.1 hat).2
          refine At.app.2 ⟨At.app.2 ⟨?_, ?_⟩, ?_⟩
          · refine w.keep ?_ a1
            rcases q6 with ⟨e1, e2, e3⟩ | ⟨e1, e2⟩
            · right; exact ⟨e1.symm, by left; rw [g2]; omega⟩
            · exact .inl ⟨Ne.symm e2, hWB⟩
          · rw [g2]; exact t3
          · have : (m1 ++ cz').length = (m1 ++ cz).length := by simp [t2]
            rw [this]
            refine w.keep ?_ a2
            rcases q6 with ⟨e1, e2, e3⟩ | ⟨e1, e2⟩
            · right; exact ⟨e1.symm, by right; simp only [List.length_append]; rw [g2]; omega⟩
            · exact .inl ⟨Ne.symm e2, hWB⟩
        · intro hne
          rw [t4 hne]
  | i :: p, .sl true sz xs, B, o, cs, O, y, B', o', r, hat, hB, e, ha => by
    have r0 := r
    simp only [RepC] at r
    simp only [getAt] at e
    simp only [adr] at ha
    cases hf : xs[i]? with
    | none => simp [hf] at e
    | some z =>
      simp only [hf] at e ha
      rcases r with ⟨rfl, _, _⟩ | ⟨hsz, b, c, te, cap, O1, h1, h2, h3, h4, h5, h6, h7, h8, h9, h10⟩
      · simp at hf
      · subst h1
        have hc0 : cellH h ⟨B, o, none⟩ = some (.slice (some ⟨b, 0, none⟩) xs.length cap) := by simpa using hat 0 _ rfl
        simp only [hc0] at ha
        have hil : i < xs.length := (List.getElem?_eq_some_iff.1 hf).1
        obtain ⟨m1, cz, m2, Oz, Ob1, g1, g2, g3, g4, g5, g6⟩ := repL_at xs i z h6 hf
        rw [uni_take h7 (by omega)] at g2
        have hbB : b ≠ B := fun hh => hB (hh ▸ (h9 b).2 (.inl rfl))
        have hrow : At h b 0 (c.toList.take (xs.length * sz)) := by
          intro j u hu
          have := row_cells h2 hu
          have hadd : (⟨b, 0, none⟩ : Addr).add j = ⟨b, 0 + j, none⟩ := by unfold Addr.add; split <;> simp_all
          rwa [hadd] at this
        have hrow0 := hrow
        rw [g1] at hrow
        have hat' : At h b (0 + i * sz) cz := by
          have := (At.app.1 (At.app.1 hrow).1).2
          rwa [g2] at this
        obtain ⟨cy, Oy, Ob, q1, q2, q3, q4, q5, q6, q7⟩ := place p z b _ g3 hat' (fun hz => h8 ((g4 b).2 (.inl hz))) e ha
        have hOyB : ∀ k, Oy k → O1 k := fun k hk => (g4 k).2 (.inl ((q3 k).2 (.inl hk)))
        have hne' : B' ≠ B := by
          rcases q6 with ⟨e1, _⟩ | ⟨e1, e2⟩
          · rw [e1]; exact hbB
          · intro hh
            subst hh
            exact hB ((h9 _).2 (.inr ((g4 _).2 (.inl ((q3 _).2 (.inr e1))))))
        refine ⟨cy, Oy, fun k => k = b ∨ Ob k ∨ Ob1 k, q1, q2, ?_, ?_, q5, .inr ⟨?_, hne'⟩, ?_⟩
        · intro k
          rw [h9 k, g4 k, q3 k]
          constructor
          · rintro (h | (h | h) | h) <;> simp [h]
          · rintro (h | h | h | h) <;> simp [h]
        · rintro k hk (rfl | hr | hr)
          · exact h8 (hOyB _ hk)
          · exact q4 k hk hr
          · exact g5 k ((q3 k).2 (.inl hk)) hr
        · rcases q6 with ⟨e1, _⟩ | ⟨e1, e2⟩
          · exact .inl e1
          · exact .inr (.inl e1)
        · intro W h' S' y' cy' Oy' w hW hWB hl r' hS hd hnB hnB'
          have hnb : ¬ Oy' b := fun hh => hd b hh (.inl rfl)
          obtain ⟨cz', t1, t2, t3, t4⟩ := q7 W h' S' y' cy' Oy' w (fun k hk => hW k (.inr (.inl hk))) (hW b (.inl rfl)) hl r' hS (fun k hk hr => hd k hk (.inr (.inl hr))) hnb hnB'
          have hag : Agree h h' S S' Ob1 := by
            refine ⟨fun k hk hlt => hS k hk hlt, fun k hk => w.other k (hW k (.inr (.inr hk))) ?_⟩
            intro hkb
            subst hkb
            rcases q6 with ⟨e1, _⟩ | ⟨e1, _⟩
            · exact h8 (e1 ▸ (g4 k).2 (.inr hk))
            · exact g5 k ((q3 k).2 (.inr e1)) hk
          have t := g6 h' S' _ cz' _ hag t1 (by
            intro k hk hr
            rcases hk with hk | hk
            · exact hd k hk (.inr (.inr hr))
            · exact g5 k ((q3 k).2 (.inr hk)) hr)
          -- block b behind the write
          have hb' : ∃ c', Row h' b c' te ∧ c'.size = c.size ∧ c'.toList.take (xs.length * sz) = m1 ++ cz' ++ m2 ∧ ∀ u ∈ c'.toList, u.oneCell' = true := by
            have hlen1 : (c.toList.take (xs.length * sz)).length = xs.length * sz := by
              have hcl : c.toList.length = cap * sz := by simpa using h3
              rw [List.length_take, hcl, Nat.min_eq_left (Nat.mul_le_mul_right _ h4)]
            by_cases hbb : B' = b
            · subst hbb
              obtain ⟨k1, k2, k3, k4, w1, w2, w3, w4, w5⟩ := w.row
              obtain ⟨fr, h2, hfr⟩ := h2
              rw [h2] at w1
              obtain ⟨rfl, rfl, rfl⟩ : c = k1 ∧ te = k3 ∧ fr = k4 := by injection w1 with w1; injection w1 with a b c; exact ⟨a, b, c⟩
              refine ⟨k2, ⟨fr, w2, by rw [w3]; exact hfr⟩, w3, ?_, ?_⟩
              · -- the cells of the row, one by one
                have hAt' : At h' B' 0 (m1 ++ cz' ++ m2) := by
                  have a1 := (At.app.1 (At.app.1 hrow).1).1
                  have a2 := (At.app.1 hrow).2
                  refine At.app.2 ⟨At.app.2 ⟨?_, ?_⟩, ?_⟩
                  · refine w.keep ?_ a1
                    rcases q6 with ⟨_, e2, e3⟩ | ⟨e1, e2⟩
                    · right; exact ⟨rfl, by left; rw [g2]; omega⟩
                    · exact absurd rfl e2
                  · rw [g2]; exact t3
                  · have : (m1 ++ cz').length = (m1 ++ cz).length := by simp [t2]
                    rw [this]
                    refine w.keep ?_ a2
                    rcases q6 with ⟨_, e2, e3⟩ | ⟨e1, e2⟩
                    · right; exact ⟨rfl, by right; simp only [List.length_append]; rw [g2]; omega⟩
                    · exact absurd rfl e2
                apply List.ext_getElem?
                intro j
                have hlen2 : (m1 ++ cz' ++ m2).length = xs.length * sz := by
                  rw [← hlen1, g1]; simp [t2]
                have hlen3 : (k2.toList.take (xs.length * sz)).length = xs.length * sz := by
                  have hcl : k2.toList.length = cap * sz := by simpa using w3.trans h3
                  rw [List.length_take, hcl, Nat.min_eq_left (Nat.mul_le_mul_right _ h4)]
                by_cases hj : j < xs.length * sz
                · have hj2 : j < (m1 ++ cz' ++ m2).length := by omega
                  have := hAt' j _ (List.getElem?_eq_getElem hj2)
                  simp only [cellH, w2, Option.isSome_none, Bool.false_eq_true, if_false, Nat.zero_add] at this
                  rw [List.getElem?_take, if_pos hj, Array.getElem?_toList, this, List.getElem?_eq_getElem hj2]
                · rw [List.getElem?_eq_none (by omega), List.getElem?_eq_none (by omega)]
              · intro u hu
                obtain ⟨j, hj⟩ := List.mem_iff_getElem?.1 hu
                rw [Array.getElem?_toList, w5] at hj
                split at hj
                · exact repC_one _ r' u (List.mem_of_getElem? hj)
                · exact h10 u (by rw [← Array.getElem?_toList] at hj; exact List.mem_of_getElem? hj)
            · have : cz' = cz := t4 hbb
              subst this
              exact ⟨c, h2.same (w.other b (hW b (.inl rfl)) (Ne.symm hbb)), rfl, g1, h10⟩
          obtain ⟨c', hb1, hb2, hb3, hb4⟩ := hb'
          refine ⟨[.slice (some ⟨b, 0, none⟩) xs.length cap], ?_, rfl, w.keep (.inl ⟨Ne.symm hne', hWB⟩) hat, fun _ => rfl⟩
          simp only [setAt, hf, RepC]
          refine .inr ⟨hsz, b, c', te, cap, fun k => Oy' k ∨ Ob k ∨ Ob1 k, by simp, hb1, hb2.trans h3, by simpa using h4, h5, ?_, ?_, ?_, ?_, hb4⟩
          · rw [List.length_set, hb3]
            exact repL_cong _ t fun k => by rw [or_assoc]
          · intro x hx
            rcases List.mem_or_eq_of_mem_set hx with hx | rfl
            · exact h7 x hx
            · rw [← repC_len _ t1, t2, repC_len _ g3]
              exact h7 z (List.mem_of_getElem? hf)
          · rintro (hh | hh | hh)
            · exact hnb hh
            · exact h8 ((g4 b).2 (.inl ((q3 b).2 (.inr hh))))
            · exact h8 ((g4 b).2 (.inr hh))
          · intro k
            constructor
            · rintro (h | h | h | h) <;> simp [h]
            · rintro (h | h | h | h) <;> simp [h]
  | i :: p, .box x, B, o, cs, O, y, B', o', r, hat, hB, e, ha => by
    simp only [RepC] at r
    simp only [getAt] at e
    simp only [adr] at ha
    obtain ⟨b, c, te, m, O1, h1, h2, h3, h4, h5, h6⟩ := r
    subst h1
    have hc0 : cellH h ⟨B, o, none⟩ = some (.pointer (some ⟨b, 0, none⟩)) := by simpa using hat 0 _ rfl
    simp only [hc0] at ha
    by_cases hi : i = 0
    · simp only [hi, if_true] at e ha
      have hbB : b ≠ B := fun hh => hB (hh ▸ (h6 b).2 (.inl rfl))
      have hrow : At h b 0 m := by
        intro j u hu
        subst h3
        have := row_cells h2 (n := c.toList.length) (by rw [List.take_length]; exact hu)
        have hadd : (⟨b, 0, none⟩ : Addr).add j = ⟨b, 0 + j, none⟩ := by unfold Addr.add; split <;> simp_all
        rwa [hadd] at this
      obtain ⟨cy, Oy, Ob, q1, q2, q3, q4, q5, q6, q7⟩ := place p x b 0 h4 hrow h5 e ha
      have hne' : B' ≠ B := by
        rcases q6 with ⟨e1, _⟩ | ⟨e1, e2⟩
        · rw [e1]; exact hbB
        · intro hh
          subst hh
          exact hB ((h6 _).2 (.inr ((q3 _).2 (.inr e1))))
      refine ⟨cy, Oy, fun k => k = b ∨ Ob k, q1, q2, ?_, ?_, q5, .inr ⟨?_, hne'⟩, ?_⟩
      · intro k
        rw [h6 k, q3 k]
        constructor
        · rintro (h | h | h) <;> simp [h]
        · rintro (h | h | h) <;> simp [h]
      · rintro k hk (rfl | hr)
        · exact h5 ((q3 k).2 (.inl hk))
        · exact q4 k hk hr
      · rcases q6 with ⟨e1, _⟩ | ⟨e1, e2⟩
        · exact .inl e1
        · exact .inr e1
      · intro W h' S' y' cy' Oy' w hW hWB hl r' hS hd hnB hnB'
        have hnb : ¬ Oy' b := fun hh => hd b hh (.inl rfl)
        obtain ⟨m', t1, t2, t3, t4⟩ := q7 W h' S' y' cy' Oy' w (fun k hk => hW k (.inr hk)) (hW b (.inl rfl)) hl r' hS (fun k hk hr => hd k hk (.inr hr)) hnb hnB'
        have hb' : ∃ c', Row h' b c' te ∧ c'.toList = m' := by
          by_cases hbb : B' = b
          · subst hbb
            obtain ⟨k1, k2, k3, k4, w1, w2, w3, w4, w5⟩ := w.row
            obtain ⟨fr, h2, hfr⟩ := h2
            rw [h2] at w1
            obtain ⟨rfl, rfl, rfl⟩ : c = k1 ∧ te = k3 ∧ fr = k4 := by injection w1 with w1; injection w1 with a b c; exact ⟨a, b, c⟩
            refine ⟨k2, ⟨fr, w2, by rw [w3]; exact hfr⟩, ?_⟩
            apply List.ext_getElem?
            intro j
            have hl3 : k2.toList.length = m'.length := by rw [Array.length_toList, w3, t2, ← h3, Array.length_toList]
            by_cases hj : j < m'.length
            · have := t3 j _ (List.getElem?_eq_getElem hj)
              simp only [cellH, w2, Option.isSome_none, Bool.false_eq_true, if_false, Nat.zero_add] at this
              rw [Array.getElem?_toList, this, List.getElem?_eq_getElem hj]
            · rw [List.getElem?_eq_none (by omega), List.getElem?_eq_none (by omega)]
          · exact ⟨c, h2.same (w.other b (hW b (.inl rfl)) (Ne.symm hbb)), by rw [t4 hbb]; exact h3⟩
        obtain ⟨c', hb1, hb2⟩ := hb'
        refine ⟨[.pointer (some ⟨b, 0, none⟩)], ?_, rfl, w.keep (.inl ⟨Ne.symm hne', hWB⟩) hat, fun _ => rfl⟩
        simp only [setAt, hi, if_true, RepC]
        refine ⟨b, c', te, m', fun k => Oy' k ∨ Ob k, rfl, hb1, hb2, t1, ?_, ?_⟩
        · rintro (hh | hh)
          · exact hnb hh
          · exact h5 ((q3 b).2 (.inr hh))
        · intro k
          constructor
          · rintro (h | h | h) <;> simp [h]
          · rintro (h | h | h) <;> simp [h]
    · simp [hi] at e
  | i :: p, .undef, B, o, cs, O, y, B', o', r, hat, hB, e, ha => by simp [getAt] at e
  | i :: p, .oth v, B, o, cs, O, y, B', o', r, hat, hB, e, ha => by simp [getAt] at e
  | i :: p, .int k n, B, o, cs, O, y, B', o', r, hat, hB, e, ha => by simp [getAt] at e
  | i :: p, .bool b, B, o, cs, O, y, B', o', r, hat, hB, e, ha => by simp [getAt] at e
  | i :: p, .str s, B, o, cs, O, y, B', o', r, hat, hB, e, ha => by simp [getAt] at e
  | i :: p, .sl false sz xs, B, o, cs, O, y, B', o', r, hat, hB, e, ha => by simp [adr] at ha
  | i :: p, .dptr x, B, o, cs, O, y, B', o', r, hat, hB, e, ha => by simp [getAt] at e
  | i :: p, .tup _, B, o, cs, O, y, B', o', r, hat, hB, e, ha => by simp [getAt] at e
  | i :: p, .vref .., B, o, cs, O, y, B', o', r, hat, hB, e, ha => by simp [getAt] at e
  | i :: p, .vagg .., B, o, cs, O, y, B', o', r, hat, hB, e, ha => by simp [getAt] at e
  | i :: p, .vsub .., B, o, cs, O, y, B', o', r, hat, hB, e, ha => by simp [getAt] at e
  | i :: p, .ptr .., B, o, cs, O, y, B', o', r, hat, hB, e, ha => by simp [getAt] at e
end Go.Proofs.Ytklmfpikhejemaa.Am

namespace Go.Proofs.Ytklmfpikhejemaa.Am
open Go.RowKit AV
set_option linter.unusedVariables false

/-- Where a path leads to from a slice or a pointer that stands in a slot. -/
def adrV (h : Array Obj) : List Nat → AV → Value → Option (Nat × Nat)
  | i :: p, .sl true sz xs, .slice (some b) _ _ => (match xs[i]? with | some y => adr h p y b.block (b.off + i * sz) | none => none)
  | i :: p, .box x, .pointer (some b) => if i = 0 then adr h p x b.block b.off else none
  | _, _, _ => none

/-- 'place', from a slot. -/
theorem placeV {h : Array Obj} {S : Nat → Prop} (p : List Nat) (x : AV) {v : Value} {O : Nat → Prop} {y : AV} {B' o' : Nat}
    (r : RepC h S x [v] O) (e : getAt x p = some y) (ha : adrV h p x v = some (B', o')) :
    ∃ (cy : List Value) (Oy Ob : Nat → Prop), RepC h S y cy Oy ∧ At h B' o' cy ∧ (∀ k, O k ↔ Oy k ∨ Ob k) ∧ (∀ k, Oy k → ¬ Ob k) ∧ ¬ Oy B' ∧ Ob B' ∧
      ∀ (W : Nat → Prop) (h' : Array Obj) (S' : Nat → Prop) (y' : AV) (cy' : List Value) (Oy' : Nat → Prop), Wrote W h h' B' o' cy' → (∀ k, Ob k → W k) → cy'.length = cy.length → RepC h' S' y' cy' Oy' →
        (∀ k, S k → k < h.size → S' k ∧ h'[k]? = h[k]?) → (∀ k, Oy' k → ¬ Ob k) →
        RepC h' S' (setAt x p y') [v] (fun k => Oy' k ∨ Ob k) := by
  cases p with
  | nil => simp [adrV] at ha
  | cons i p =>
  cases x with
  | sl own sz xs =>
    cases own with
    | false => simp [adrV] at ha
    | true =>
    simp only [RepC] at r
    simp only [getAt] at e
    cases hf : xs[i]? with
    | none => simp [hf] at e
    | some z =>
      simp only [hf] at e
      rcases r with ⟨rfl, _, _⟩ | ⟨hsz, b, c, te, cap, O1, h1, h2, h3, h4, h5, h6, h7, h8, h9, h10⟩
      · simp at hf
      · obtain rfl : v = .slice (some ⟨b, 0, none⟩) xs.length cap := by simpa using h1
        simp only [adrV, hf] at ha
        have hil : i < xs.length := (List.getElem?_eq_some_iff.1 hf).1
        obtain ⟨m1, cz, m2, Oz, Ob1, g1, g2, g3, g4, g5, g6⟩ := repL_at xs i z h6 hf
        rw [uni_take h7 (by omega)] at g2
        have hrow : At h b 0 (c.toList.take (xs.length * sz)) := by
          intro j u hu
          have := row_cells h2 hu
          have hadd : (⟨b, 0, none⟩ : Addr).add j = ⟨b, 0 + j, none⟩ := by unfold Addr.add; split <;> simp_all
          rwa [hadd] at this
        rw [g1] at hrow
        have hat' : At h b (0 + i * sz) cz := by
          have := (At.app.1 (At.app.1 hrow).1).2
          rwa [g2] at this
        obtain ⟨cy, Oy, Ob, q1, q2, q3, q4, q5, q6, q7⟩ := place p z b _ g3 hat' (fun hz => h8 ((g4 b).2 (.inl hz))) e ha
        have hOyB : ∀ k, Oy k → O1 k := fun k hk => (g4 k).2 (.inl ((q3 k).2 (.inl hk)))
        refine ⟨cy, Oy, fun k => k = b ∨ Ob k ∨ Ob1 k, q1, q2, ?_, ?_, q5, ?_, ?_⟩
        · intro k
          rw [h9 k, g4 k, q3 k]
          constructor
          · rintro (h | (h | h) | h) <;> simp [h]
          · rintro (h | h | h | h) <;> simp [h]
        · rintro k hk (rfl | hr | hr)
          · exact h8 (hOyB _ hk)
          · exact q4 k hk hr
          · exact g5 k ((q3 k).2 (.inl hk)) hr
        · rcases q6 with ⟨e1, _⟩ | ⟨e1, e2⟩
          · exact .inl e1
          · exact .inr (.inl e1)
        · intro W h' S' y' cy' Oy' w hW hl r' hS hd
          have hnb : ¬ Oy' b := fun hh => hd b hh (.inl rfl)
          have hnB' : ¬ Oy' B' := by
            rcases q6 with ⟨e1, _⟩ | ⟨e1, e2⟩
            · rw [e1]; exact hnb
            · exact fun hh => hd _ hh (.inr (.inl e1))
          obtain ⟨cz', t1, t2, t3, t4⟩ := q7 W h' S' y' cy' Oy' w (fun k hk => hW k (.inr (.inl hk))) (hW b (.inl rfl)) hl r' hS (fun k hk hr => hd k hk (.inr (.inl hr))) hnb hnB'
          have hag : Agree h h' S S' Ob1 := by
            refine ⟨fun k hk hlt => hS k hk hlt, fun k hk => w.other k (hW k (.inr (.inr hk))) ?_⟩
            intro hkb
            subst hkb
            rcases q6 with ⟨e1, _⟩ | ⟨e1, _⟩
            · exact h8 (e1 ▸ (g4 k).2 (.inr hk))
            · exact g5 k ((q3 k).2 (.inr e1)) hk
          have t := g6 h' S' _ cz' _ hag t1 (by
            intro k hk hr
            rcases hk with hk | hk
            · exact hd k hk (.inr (.inr hr))
            · exact g5 k ((q3 k).2 (.inr hk)) hr)
          have hb' : ∃ c', Row h' b c' te ∧ c'.size = c.size ∧ c'.toList.take (xs.length * sz) = m1 ++ cz' ++ m2 ∧ ∀ u ∈ c'.toList, u.oneCell' = true := by
            have hlen1 : (c.toList.take (xs.length * sz)).length = xs.length * sz := by
              have hcl : c.toList.length = cap * sz := by simpa using h3
              rw [List.length_take, hcl, Nat.min_eq_left (Nat.mul_le_mul_right _ h4)]
            by_cases hbb : B' = b
            · subst hbb
              obtain ⟨k1, k2, k3, k4, w1, w2, w3, w4, w5⟩ := w.row
              obtain ⟨fr, h2, hfr⟩ := h2
              rw [h2] at w1
              obtain ⟨rfl, rfl, rfl⟩ : c = k1 ∧ te = k3 ∧ fr = k4 := by injection w1 with w1; injection w1 with a b c; exact ⟨a, b, c⟩
              refine ⟨k2, ⟨fr, w2, by rw [w3]; exact hfr⟩, w3, ?_, ?_⟩
              · have hAt' : At h' B' 0 (m1 ++ cz' ++ m2) := by
                  have a1 := (At.app.1 (At.app.1 hrow).1).1
                  have a2 := (At.app.1 hrow).2
                  refine At.app.2 ⟨At.app.2 ⟨?_, ?_⟩, ?_⟩
                  · refine w.keep ?_ a1
                    rcases q6 with ⟨_, e2, e3⟩ | ⟨e1, e2⟩
                    · right; exact ⟨rfl, by left; rw [g2]; omega⟩
                    · exact absurd rfl e2
                  · rw [g2]; exact t3
                  · have : (m1 ++ cz').length = (m1 ++ cz).length := by simp [t2]
                    rw [this]
                    refine w.keep ?_ a2
                    rcases q6 with ⟨_, e2, e3⟩ | ⟨e1, e2⟩
                    · right; exact ⟨rfl, by right; simp only [List.length_append]; rw [g2]; omega⟩
                    · exact absurd rfl e2
                apply List.ext_getElem?
                intro j
                have hlen2 : (m1 ++ cz' ++ m2).length = xs.length * sz := by
                  rw [← hlen1, g1]; simp [t2]
                have hlen3 : (k2.toList.take (xs.length * sz)).length = xs.length * sz := by
                  have hcl : k2.toList.length = cap * sz := by simpa using w3.trans h3
                  rw [List.length_take, hcl, Nat.min_eq_left (Nat.mul_le_mul_right _ h4)]
                by_cases hj : j < xs.length * sz
                · have hj2 : j < (m1 ++ cz' ++ m2).length := by omega
                  have := hAt' j _ (List.getElem?_eq_getElem hj2)
                  simp only [cellH, w2, Option.isSome_none, Bool.false_eq_true, if_false, Nat.zero_add] at this
                  rw [List.getElem?_take, if_pos hj, Array.getElem?_toList, this, List.getElem?_eq_getElem hj2]
                · rw [List.getElem?_eq_none (by omega), List.getElem?_eq_none (by omega)]
              · intro u hu
                obtain ⟨j, hj⟩ := List.mem_iff_getElem?.1 hu
                rw [Array.getElem?_toList, w5] at hj
                split at hj
                · exact repC_one _ r' u (List.mem_of_getElem? hj)
                · exact h10 u (by rw [← Array.getElem?_toList] at hj; exact List.mem_of_getElem? hj)
            · have : cz' = cz := t4 hbb
              subst this
              exact ⟨c, h2.same (w.other b (hW b (.inl rfl)) (Ne.symm hbb)), rfl, g1, h10⟩
          obtain ⟨c', hb1, hb2, hb3, hb4⟩ := hb'
          simp only [setAt, hf, RepC]
          refine .inr ⟨hsz, b, c', te, cap, fun k => Oy' k ∨ Ob k ∨ Ob1 k, by simp, hb1, hb2.trans h3, by simpa using h4, h5, ?_, ?_, ?_, ?_, hb4⟩
          · rw [List.length_set, hb3]
            exact repL_cong _ t fun k => by rw [or_assoc]
          · intro x hx
            rcases List.mem_or_eq_of_mem_set hx with hx | rfl
            · exact h7 x hx
            · rw [← repC_len _ t1, t2, repC_len _ g3]
              exact h7 z (List.mem_of_getElem? hf)
          · rintro (hh | hh | hh)
            · exact hnb hh
            · exact h8 ((g4 b).2 (.inl ((q3 b).2 (.inr hh))))
            · exact h8 ((g4 b).2 (.inr hh))
          · intro k
            constructor
            · rintro (h | h | h | h) <;> simp [h]
            · rintro (h | h | h | h) <;> simp [h]
  | box x =>
    simp only [RepC] at r
    simp only [getAt] at e
    obtain ⟨b, c, te, m, O1, h1, h2, h3, h4, h5, h6⟩ := r
    obtain rfl : v = .pointer (some ⟨b, 0, none⟩) := by simpa using h1
    simp only [adrV] at ha
    by_cases hi : i = 0
    · simp only [hi, if_true] at e ha
      have hrow : At h b 0 m := by
        intro j u hu
        subst h3
        have := row_cells h2 (n := c.toList.length) (by rw [List.take_length]; exact hu)
        have hadd : (⟨b, 0, none⟩ : Addr).add j = ⟨b, 0 + j, none⟩ := by unfold Addr.add; split <;> simp_all
        rwa [hadd] at this
      obtain ⟨cy, Oy, Ob, q1, q2, q3, q4, q5, q6, q7⟩ := place p x b 0 h4 hrow h5 e ha
      refine ⟨cy, Oy, fun k => k = b ∨ Ob k, q1, q2, ?_, ?_, q5, ?_, ?_⟩
      · intro k
        rw [h6 k, q3 k]
        constructor
        · rintro (h | h | h) <;> simp [h]
        · rintro (h | h | h) <;> simp [h]
      · rintro k hk (rfl | hr)
        · exact h5 ((q3 k).2 (.inl hk))
        · exact q4 k hk hr
      · rcases q6 with ⟨e1, _⟩ | ⟨e1, e2⟩
        · exact .inl e1
        · exact .inr e1
      · intro W h' S' y' cy' Oy' w hW hl r' hS hd
        have hnb : ¬ Oy' b := fun hh => hd b hh (.inl rfl)
        have hnB' : ¬ Oy' B' := by
          rcases q6 with ⟨e1, _⟩ | ⟨e1, e2⟩
          · rw [e1]; exact hnb
          · exact fun hh => hd _ hh (.inr e1)
        obtain ⟨m', t1, t2, t3, t4⟩ := q7 W h' S' y' cy' Oy' w (fun k hk => hW k (.inr hk)) (hW b (.inl rfl)) hl r' hS (fun k hk hr => hd k hk (.inr hr)) hnb hnB'
        have hb' : ∃ c', Row h' b c' te ∧ c'.toList = m' := by
          by_cases hbb : B' = b
          · subst hbb
            obtain ⟨k1, k2, k3, k4, w1, w2, w3, w4, w5⟩ := w.row
            obtain ⟨fr, h2, hfr⟩ := h2
            rw [h2] at w1
            obtain ⟨rfl, rfl, rfl⟩ : c = k1 ∧ te = k3 ∧ fr = k4 := by injection w1 with w1; injection w1 with a b c; exact ⟨a, b, c⟩
            refine ⟨k2, ⟨fr, w2, by rw [w3]; exact hfr⟩, ?_⟩
            apply List.ext_getElem?
            intro j
            have hl3 : k2.toList.length = m'.length := by rw [Array.length_toList, w3, t2, ← h3, Array.length_toList]
            by_cases hj : j < m'.length
            · have := t3 j _ (List.getElem?_eq_getElem hj)
              simp only [cellH, w2, Option.isSome_none, Bool.false_eq_true, if_false, Nat.zero_add] at this
              rw [Array.getElem?_toList, this, List.getElem?_eq_getElem hj]
            · rw [List.getElem?_eq_none (by omega), List.getElem?_eq_none (by omega)]
          · exact ⟨c, h2.same (w.other b (hW b (.inl rfl)) (Ne.symm hbb)), by rw [t4 hbb]; exact h3⟩
        obtain ⟨c', hb1, hb2⟩ := hb'
        simp only [setAt, hi, if_true, RepC]
        refine ⟨b, c', te, m', fun k => Oy' k ∨ Ob k, rfl, hb1, hb2, t1, ?_, ?_⟩
        · rintro (hh | hh)
          · exact hnb hh
          · exact h5 ((q3 b).2 (.inr hh))
        · intro k
          constructor
          · rintro (h | h | h) <;> simp [h]
          · rintro (h | h | h) <;> simp [h]
    · simp [hi] at e
  | _ => simp [adrV] at ha

/-- The way to a place hangs on the own blocks alone (and on the cells where one begins). -/
theorem adr_same {h h' : Array Obj} {S : Nat → Prop} : ∀ (p : List Nat) (x : AV) (B o : Nat) {cs : List Value} {O : Nat → Prop},
    RepC h S x cs O → (∀ k, O k → h'[k]? = h[k]?) → (∀ j, j < ncells x → cellH h' ⟨B, o + j, none⟩ = cellH h ⟨B, o + j, none⟩) → At h B o cs → adr h' p x B o = adr h p x B o
  | [], x, B, o, cs, O, r, hO, hc, hat => rfl
  | i :: p, .agg fs, B, o, cs, O, r, hO, hc, hat => by
    simp only [RepC] at r
    simp only [adr]
    cases hf : fs[i]? with
    | none => rfl
    | some z =>
      obtain ⟨m1, cz, m2, Oz, Ob1, g1, g2, g3, g4, g5, g6⟩ := repL_at fs i z r hf
      subst g1
      have hl := repL_len fs r
      simp only [List.length_append] at hl
      have hlz := repC_len z g3
      refine adr_same p z B _ g3 (fun k hk => hO k ((g4 k).2 (.inl hk))) (fun j hj => ?_) ?_
      · have := hc (ncellsL (fs.take i) + j) (by simp only [ncells]; omega)
        rwa [← Nat.add_assoc] at this
      · have := (At.app.1 (At.app.1 hat).1).2
        rwa [g2] at this
  | i :: p, .arr sz fs, B, o, cs, O, r, hO, hc, hat => by
    have hl := repC_len _ r
    simp only [RepC] at r
    obtain ⟨r, hu⟩ := r
    simp only [adr]
    cases hf : fs[i]? with
    | none => rfl
    | some z =>
      have hil : i < fs.length := (List.getElem?_eq_some_iff.1 hf).1
      obtain ⟨m1, cz, m2, Oz, Ob1, g1, g2, g3, g4, g5, g6⟩ := repL_at fs i z r hf
      subst g1
      rw [uni_take hu (by omega)] at g2
      simp only [List.length_append] at hl
      have hlz := repC_len z g3
      refine adr_same p z B _ g3 (fun k hk => hO k ((g4 k).2 (.inl hk))) (fun j hj => ?_) ?_
      · have := hc (i * sz + j) (by omega)
        rwa [← Nat.add_assoc] at this
      · have := (At.app.1 (At.app.1 hat).1).2
        rwa [g2] at this
  | i :: p, .sl true sz xs, B, o, cs, O, r, hO, hc, hat => by
    have h0 := hc 0 (by simp [ncells])
    simp only [Nat.add_zero] at h0
    simp only [adr, h0]
    simp only [RepC] at r
    rcases r with ⟨rfl, rfl, _⟩ | ⟨hsz, b, c, te, cap, O1, h1, h2, h3, h4, h5, h6, h7, h8, h9, h10⟩
    · have := hat 0 _ rfl
      simp only [Nat.add_zero] at this
      simp [this]
    · subst h1
      have := hat 0 _ rfl
      simp only [Nat.add_zero] at this
      simp only [this]
      cases hf : xs[i]? with
      | none => rfl
      | some z =>
        have hil : i < xs.length := (List.getElem?_eq_some_iff.1 hf).1
        obtain ⟨m1, cz, m2, Oz, Ob1, g1, g2, g3, g4, g5, g6⟩ := repL_at xs i z h6 hf
        rw [uni_take h7 (by omega)] at g2
        have hb' := hO b ((h9 b).2 (.inl rfl))
        refine adr_same p z b _ g3 (fun k hk => hO k ((h9 k).2 (.inr ((g4 k).2 (.inl hk))))) (fun j _ => cellH_same hb') ?_
        have hrow : At h b 0 (c.toList.take (xs.length * sz)) := by
          intro j u hu
          have := row_cells h2 hu
          have hadd : (⟨b, 0, none⟩ : Addr).add j = ⟨b, 0 + j, none⟩ := by unfold Addr.add; split <;> simp_all
          rwa [hadd] at this
        rw [g1] at hrow
        have := (At.app.1 (At.app.1 hrow).1).2
        rwa [g2] at this
  | i :: p, .box x, B, o, cs, O, r, hO, hc, hat => by
    have h0 := hc 0 (by simp [ncells])
    simp only [Nat.add_zero] at h0
    simp only [adr, h0]
    simp only [RepC] at r
    obtain ⟨b, c, te, m, O1, h1, h2, h3, h4, h5, h6⟩ := r
    subst h1
    have := hat 0 _ rfl
    simp only [Nat.add_zero] at this
    simp only [this]
    split
    · have hb' := hO b ((h6 b).2 (.inl rfl))
      refine adr_same p x b _ h4 (fun k hk => hO k ((h6 k).2 (.inr hk))) (fun j _ => cellH_same hb') ?_
      intro j u hu
      subst h3
      have := row_cells h2 (n := c.toList.length) (by rw [List.take_length]; exact hu)
      have hadd : (⟨b, 0, none⟩ : Addr).add j = ⟨b, 0 + j, none⟩ := by unfold Addr.add; split <;> simp_all
      rwa [hadd] at this
    · rfl
  | i :: p, .undef, B, o, cs, O, r, hO, hc, hat => rfl
  | i :: p, .oth v, B, o, cs, O, r, hO, hc, hat => rfl
  | i :: p, .int k n, B, o, cs, O, r, hO, hc, hat => rfl
  | i :: p, .bool b, B, o, cs, O, r, hO, hc, hat => rfl
  | i :: p, .str s, B, o, cs, O, r, hO, hc, hat => rfl
  | i :: p, .sl false sz xs, B, o, cs, O, r, hO, hc, hat => rfl
  | i :: p, .dptr x, B, o, cs, O, r, hO, hc, hat => rfl
  | i :: p, .tup _, B, o, cs, O, r, hO, hc, hat => rfl
  | i :: p, .vref .., B, o, cs, O, r, hO, hc, hat => rfl
  | i :: p, .vagg .., B, o, cs, O, r, hO, hc, hat => rfl
  | i :: p, .vsub .., B, o, cs, O, r, hO, hc, hat => rfl
  | i :: p, .ptr .., B, o, cs, O, r, hO, hc, hat => rfl

theorem adrV_same {h h' : Array Obj} {S : Nat → Prop} (p : List Nat) (x : AV) {v : Value} {O : Nat → Prop} (r : RepC h S x [v] O) (hO : ∀ k, O k → h'[k]? = h[k]?) : adrV h' p x v = adrV h p x v := by
  cases p with
  | nil => simp [adrV]
  | cons i p =>
  cases x with
  | sl own sz xs =>
    cases own with
    | false => simp [adrV]
    | true =>
    simp only [RepC] at r
    rcases r with ⟨rfl, hv, _⟩ | ⟨hsz, b, c, te, cap, O1, h1, h2, h3, h4, h5, h6, h7, h8, h9, h10⟩
    · obtain rfl : v = .slice none 0 0 := by simpa using hv
      simp [adrV]
    · obtain rfl : v = .slice (some ⟨b, 0, none⟩) xs.length cap := by simpa using h1
      simp only [adrV]
      cases hf : xs[i]? with
      | none => rfl
      | some z =>
        have hil : i < xs.length := (List.getElem?_eq_some_iff.1 hf).1
        obtain ⟨m1, cz, m2, Oz, Ob1, g1, g2, g3, g4, g5, g6⟩ := repL_at xs i z h6 hf
        rw [uni_take h7 (by omega)] at g2
        have hb' := hO b ((h9 b).2 (.inl rfl))
        refine adr_same p z b _ g3 (fun k hk => hO k ((h9 k).2 (.inr ((g4 k).2 (.inl hk))))) (fun j _ => cellH_same hb') ?_
        have hrow : At h b 0 (c.toList.take (xs.length * sz)) := by
          intro j u hu
          have := row_cells h2 hu
          have hadd : (⟨b, 0, none⟩ : Addr).add j = ⟨b, 0 + j, none⟩ := by unfold Addr.add; split <;> simp_all
          rwa [hadd] at this
        rw [g1] at hrow
        have := (At.app.1 (At.app.1 hrow).1).2
        rwa [g2] at this
  | box x =>
    simp only [RepC] at r
    obtain ⟨b, c, te, m, O1, h1, h2, h3, h4, h5, h6⟩ := r
    obtain rfl : v = .pointer (some ⟨b, 0, none⟩) := by simpa using h1
    simp only [adrV]
    split
    · have hb' := hO b ((h6 b).2 (.inl rfl))
      refine adr_same p x b _ h4 (fun k hk => hO k ((h6 k).2 (.inr hk))) (fun j _ => cellH_same hb') ?_
      intro j u hu
      subst h3
      have := row_cells h2 (n := c.toList.length) (by rw [List.take_length]; exact hu)
      have hadd : (⟨b, 0, none⟩ : Addr).add j = ⟨b, 0 + j, none⟩ := by unfold Addr.add; split <;> simp_all
      rwa [hadd] at this
    · rfl
  | _ => simp [adrV]

theorem getAt_app : ∀ (p q : List Nat) (x : AV), getAt x (p ++ q) = (match getAt x p with | some y => getAt y q | none => none)
  | [], q, x => by cases x <;> simp [getAt]
  | i :: p, q, .agg fs => by
    simp only [List.cons_append, getAt]
    cases fs[i]? with
    | none => rfl
    | some z => exact getAt_app p q z
  | i :: p, q, .arr sz fs => by
    simp only [List.cons_append, getAt]
    cases fs[i]? with
    | none => rfl
    | some z => exact getAt_app p q z
  | i :: p, q, .sl o sz fs => by
    simp only [List.cons_append, getAt]
    cases fs[i]? with
    | none => rfl
    | some z => exact getAt_app p q z
  | i :: p, q, .box x => by
    simp only [List.cons_append, getAt]
    split
    · exact getAt_app p q x
    · rfl
  | i :: p, q, .undef => by simp [getAt]
  | i :: p, q, .oth v => by simp [getAt]
  | i :: p, q, .int k n => by simp [getAt]
  | i :: p, q, .bool b => by simp [getAt]
  | i :: p, q, .str s => by simp [getAt]
  | i :: p, q, .dptr x => by simp [getAt]
  | i :: p, q, .tup _ => by simp [getAt]
  | i :: p, q, .vref .. => by simp [getAt]
  | i :: p, q, .vagg .. => by simp [getAt]
  | i :: p, q, .vsub .. => by simp [getAt]
  | i :: p, q, .ptr .. => by simp [getAt]

theorem adr_app {h : Array Obj} : ∀ (p q : List Nat) (x : AV) (B o : Nat) {y : AV} {B' o' : Nat}, getAt x p = some y → adr h p x B o = some (B', o') → adr h (p ++ q) x B o = adr h q y B' o'
  | [], q, x, B, o, y, B', o', e, a => by
    simp only [getAt, Option.some.injEq] at e
    simp only [adr, Option.some.injEq, Prod.mk.injEq] at a
    obtain ⟨rfl, rfl⟩ := a
    subst e; rfl
  | i :: p, q, .agg fs, B, o, y, B', o', e, a => by
    simp only [List.cons_append, getAt, adr] at *
    cases hf : fs[i]? with
    | none => simp [hf] at e
    | some z => simp only [hf] at *; exact adr_app p q z _ _ e a
  | i :: p, q, .arr sz fs, B, o, y, B', o', e, a => by
    simp only [List.cons_append, getAt, adr] at *
    cases hf : fs[i]? with
    | none => simp [hf] at e
    | some z => simp only [hf] at *; exact adr_app p q z _ _ e a
  | i :: p, q, .sl true sz fs, B, o, y, B', o', e, a => by
    simp only [List.cons_append, getAt, adr] at *
    cases hf : fs[i]? with
    | none => simp [hf] at e
    | some z =>
      simp only [hf] at *
      cases hc : cellH h ⟨B, o, none⟩ with
      | none => simp [hc] at a
      | some u =>
        cases u with
        | slice b l c =>
          cases b with
          | none => simp [hc] at a
          | some b => simp only [hc] at *; exact adr_app p q z _ _ e a
        | _ => simp [hc] at a
  | i :: p, q, .box x, B, o, y, B', o', e, a => by
    simp only [List.cons_append, getAt, adr] at *
    cases hc : cellH h ⟨B, o, none⟩ with
    | none => simp [hc] at a
    | some u =>
      cases u with
      | pointer b =>
        cases b with
        | none => simp [hc] at a
        | some b =>
          simp only [hc] at *
          by_cases hi : i = 0
          · simp only [hi, if_true] at *; exact adr_app p q x _ _ e a
          · simp [hi] at e
      | _ => simp [hc] at a
  | i :: p, q, .undef, B, o, y, B', o', e, a => by simp [getAt] at e
  | i :: p, q, .oth v, B, o, y, B', o', e, a => by simp [getAt] at e
  | i :: p, q, .int k n, B, o, y, B', o', e, a => by simp [getAt] at e
  | i :: p, q, .bool b, B, o, y, B', o', e, a => by simp [getAt] at e
  | i :: p, q, .str s, B, o, y, B', o', e, a => by simp [getAt] at e
  | i :: p, q, .sl false sz xs, B, o, y, B', o', e, a => by simp [adr] at a
  | i :: p, q, .dptr x, B, o, y, B', o', e, a => by simp [getAt] at e
  | i :: p, q, .tup _, B, o, y, B', o', e, a => by simp [getAt] at e
  | i :: p, q, .vref .., B, o, y, B', o', e, a => by simp [getAt] at e
  | i :: p, q, .vagg .., B, o, y, B', o', e, a => by simp [getAt] at e
  | i :: p, q, .vsub .., B, o, y, B', o', e, a => by simp [getAt] at e
  | i :: p, q, .ptr .., B, o, y, B', o', e, a => by simp [getAt] at e

theorem adrV_app {h : Array Obj} (p q : List Nat) (x : AV) {v : Value} {y : AV} {B' o' : Nat} (e : getAt x p = some y) (a : adrV h p x v = some (B', o')) : adrV h (p ++ q) x v = adr h q y B' o' := by
  cases p with
  | nil => simp [adrV] at a
  | cons i p =>
  cases x with
  | sl own sz xs =>
    cases own with
    | false => simp [adrV] at a
    | true =>
    simp only [getAt] at e
    cases v with
    | slice b l c =>
      cases b with
      | none => simp [adrV] at a
      | some b =>
        simp only [List.cons_append, adrV] at *
        cases hf : xs[i]? with
        | none => simp [hf] at e
        | some z => simp only [hf] at *; exact adr_app p q z _ _ e a
    | _ => simp [adrV] at a
  | box x =>
    simp only [getAt] at e
    cases v with
    | pointer b =>
      cases b with
      | none => simp [adrV] at a
      | some b =>
        simp only [List.cons_append, adrV] at *
        by_cases hi : i = 0
        · simp only [hi, if_true] at *; exact adr_app p q x _ _ e a
        · simp [hi] at e
    | _ => simp [adrV] at a
  | _ => simp [adrV] at a
end Go.Proofs.Ytklmfpikhejemaa.Am

namespace Go.Proofs.Ytklmfpikhejemaa.Am
open Go.RowKit AV
set_option linter.unusedVariables false

/-- A word for what a value in a slot is. -/
def AV.cellular : AV → Bool
  | .oth _ | .int .. | .bool _ | .str _ | .sl .. | .box _ | .dptr _ => true
  | _ => false

mutual
/-- This value, in a slot or handed on, is that one. -/
def RepW (h : Array Obj) (S : Nat → Prop) : AV → Value → (Nat → Prop) → Prop
  | .undef, _, O => Emp O
  | .agg fs, v, O => ∃ cs : Array Value, v = .agg cs ∧ RepC h S (.agg fs) cs.toList O
  | .arr sz xs, v, O => ∃ cs : Array Value, v = .agg cs ∧ RepC h S (.arr sz xs) cs.toList O
  | .tup vs, v, O => ∃ l : Array Value, v = .tuple l ∧ RepWs h S vs l.toList O
  | .vref .., _, O => Emp O
  | .vagg .., _, O => Emp O
  | .vsub .., _, O => Emp O
  | .ptr .., _, O => Emp O
  | x, v, O => RepC h S x [v] O
def RepWs (h : Array Obj) (S : Nat → Prop) : List AV → List Value → (Nat → Prop) → Prop
  | [], vs, O => vs = [] ∧ Emp O
  | x :: xs, vs, O => ∃ v vs' O1 O2, vs = v :: vs' ∧ (∀ k, O k ↔ O1 k ∨ O2 k) ∧ (∀ k, O1 k → ¬ O2 k) ∧ RepW h S x v O1 ∧ RepWs h S xs vs' O2
end

mutual
theorem repW_cong {h : Array Obj} {S : Nat → Prop} : ∀ (x : AV) {v : Value} {O O' : Nat → Prop}, RepW h S x v O → (∀ k, O' k ↔ O k) → RepW h S x v O'
  | .undef, v, O, O', r, e => by simp only [RepW] at r ⊢; exact r.iff e
  | .agg fs, v, O, O', r, e => by simp only [RepW] at r ⊢; obtain ⟨cs, h1, h2⟩ := r; exact ⟨cs, h1, repC_cong _ h2 e⟩
  | .arr sz fs, v, O, O', r, e => by simp only [RepW] at r ⊢; obtain ⟨cs, h1, h2⟩ := r; exact ⟨cs, h1, repC_cong _ h2 e⟩
  | .tup vs, v, O, O', r, e => by simp only [RepW] at r ⊢; obtain ⟨cs, h1, h2⟩ := r; exact ⟨cs, h1, repWs_cong _ h2 e⟩
  | .vref .., v, O, O', r, e => by simp only [RepW] at r ⊢; exact r.iff e
  | .vagg .., v, O, O', r, e => by simp only [RepW] at r ⊢; exact r.iff e
  | .vsub .., v, O, O', r, e => by simp only [RepW] at r ⊢; exact r.iff e
  | .ptr .., v, O, O', r, e => by simp only [RepW] at r ⊢; exact r.iff e
  | .oth _, v, O, O', r, e => by simp only [RepW] at r ⊢; exact repC_cong _ r e
  | .int .., v, O, O', r, e => by simp only [RepW] at r ⊢; exact repC_cong _ r e
  | .bool _, v, O, O', r, e => by simp only [RepW] at r ⊢; exact repC_cong _ r e
  | .str _, v, O, O', r, e => by simp only [RepW] at r ⊢; exact repC_cong _ r e
  | .sl .., v, O, O', r, e => by simp only [RepW] at r ⊢; exact repC_cong _ r e
  | .box _, v, O, O', r, e => by simp only [RepW] at r ⊢; exact repC_cong _ r e
  | .dptr _, v, O, O', r, e => by simp only [RepW] at r ⊢; exact repC_cong _ r e
theorem repWs_cong {h : Array Obj} {S : Nat → Prop} : ∀ (xs : List AV) {vs : List Value} {O O' : Nat → Prop}, RepWs h S xs vs O → (∀ k, O' k ↔ O k) → RepWs h S xs vs O'
  | [], vs, O, O', r, e => by simp only [RepWs] at r ⊢; exact ⟨r.1, r.2.iff e⟩
  | x :: xs, vs, O, O', r, e => by
    simp only [RepWs] at r ⊢
    obtain ⟨v, vs', O1, O2, h1, h2, h3, h4, h5⟩ := r
    exact ⟨v, vs', O1, O2, h1, fun k => (e k).trans (h2 k), h3, h4, h5⟩
end
mutual
theorem repW_mono {h h' : Array Obj} {S S' : Nat → Prop} : ∀ (x : AV) {v : Value} {O : Nat → Prop}, RepW h S x v O → Agree h h' S S' O → RepW h' S' x v O
  | .undef, v, O, r, e => by simp only [RepW] at r ⊢; exact r
  | .agg fs, v, O, r, e => by simp only [RepW] at r ⊢; obtain ⟨cs, h1, h2⟩ := r; exact ⟨cs, h1, repC_mono _ h2 e⟩
  | .arr sz fs, v, O, r, e => by simp only [RepW] at r ⊢; obtain ⟨cs, h1, h2⟩ := r; exact ⟨cs, h1, repC_mono _ h2 e⟩
  | .tup vs, v, O, r, e => by simp only [RepW] at r ⊢; obtain ⟨cs, h1, h2⟩ := r; exact ⟨cs, h1, repWs_mono _ h2 e⟩
  | .vref .., v, O, r, e => by simp only [RepW] at r ⊢; exact r
  | .vagg .., v, O, r, e => by simp only [RepW] at r ⊢; exact r
  | .vsub .., v, O, r, e => by simp only [RepW] at r ⊢; exact r
  | .ptr .., v, O, r, e => by simp only [RepW] at r ⊢; exact r
  | .oth _, v, O, r, e => by simp only [RepW] at r ⊢; exact repC_mono _ r e
  | .int .., v, O, r, e => by simp only [RepW] at r ⊢; exact repC_mono _ r e
  | .bool _, v, O, r, e => by simp only [RepW] at r ⊢; exact repC_mono _ r e
  | .str _, v, O, r, e => by simp only [RepW] at r ⊢; exact repC_mono _ r e
  | .sl .., v, O, r, e => by simp only [RepW] at r ⊢; exact repC_mono _ r e
  | .box _, v, O, r, e => by simp only [RepW] at r ⊢; exact repC_mono _ r e
  | .dptr _, v, O, r, e => by simp only [RepW] at r ⊢; exact repC_mono _ r e
theorem repWs_mono {h h' : Array Obj} {S S' : Nat → Prop} : ∀ (xs : List AV) {vs : List Value} {O : Nat → Prop}, RepWs h S xs vs O → Agree h h' S S' O → RepWs h' S' xs vs O
  | [], vs, O, r, e => by simp only [RepWs] at r ⊢; exact r
  | x :: xs, vs, O, r, e => by
    simp only [RepWs] at r ⊢
    obtain ⟨v, vs', O1, O2, h1, h2, h3, h4, h5⟩ := r
    exact ⟨v, vs', O1, O2, h1, h2, h3, repW_mono x h4 (e.sub fun k hk => (h2 k).2 (.inl hk)), repWs_mono xs h5 (e.sub fun k hk => (h2 k).2 (.inr hk))⟩
end
mutual
theorem repW_lt {h : Array Obj} {S : Nat → Prop} : ∀ (x : AV) {v : Value} {O : Nat → Prop}, RepW h S x v O → ∀ k, O k → k < h.size
  | .undef, v, O, r => by simp only [RepW] at r; exact fun k hk => (r k hk).elim
  | .agg fs, v, O, r => by simp only [RepW] at r; obtain ⟨cs, h1, h2⟩ := r; exact repC_lt _ h2
  | .arr sz fs, v, O, r => by simp only [RepW] at r; obtain ⟨cs, h1, h2⟩ := r; exact repC_lt _ h2
  | .tup vs, v, O, r => by simp only [RepW] at r; obtain ⟨cs, h1, h2⟩ := r; exact repWs_lt _ h2
  | .vref .., v, O, r => by simp only [RepW] at r; exact fun k hk => (r k hk).elim
  | .vagg .., v, O, r => by simp only [RepW] at r; exact fun k hk => (r k hk).elim
  | .vsub .., v, O, r => by simp only [RepW] at r; exact fun k hk => (r k hk).elim
  | .ptr .., v, O, r => by simp only [RepW] at r; exact fun k hk => (r k hk).elim
  | .oth _, v, O, r => by simp only [RepW] at r; exact repC_lt _ r
  | .int .., v, O, r => by simp only [RepW] at r; exact repC_lt _ r
  | .bool _, v, O, r => by simp only [RepW] at r; exact repC_lt _ r
  | .str _, v, O, r => by simp only [RepW] at r; exact repC_lt _ r
  | .sl .., v, O, r => by simp only [RepW] at r; exact repC_lt _ r
  | .box _, v, O, r => by simp only [RepW] at r; exact repC_lt _ r
  | .dptr _, v, O, r => by simp only [RepW] at r; exact repC_lt _ r
theorem repWs_lt {h : Array Obj} {S : Nat → Prop} : ∀ (xs : List AV) {vs : List Value} {O : Nat → Prop}, RepWs h S xs vs O → ∀ k, O k → k < h.size
  | [], vs, O, r => by simp only [RepWs] at r; exact fun k hk => (r.2 k hk).elim
  | x :: xs, vs, O, r => by
    simp only [RepWs] at r
    obtain ⟨v, vs', O1, O2, h1, h2, h3, h4, h5⟩ := r
    intro k hk
    rcases (h2 k).1 hk with hk | hk
    · exact repW_lt x h4 k hk
    · exact repWs_lt xs h5 k hk
end
mutual
theorem repW_closed {h : Array Obj} {S S' : Nat → Prop} : ∀ (x : AV) {v : Value} {O : Nat → Prop}, RepW h S x v O → closed x = true → RepW h S' x v O
  | .undef, v, O, r, e => by simp only [RepW] at r ⊢; exact r
  | .agg fs, v, O, r, e => by simp only [RepW] at r ⊢; obtain ⟨cs, h1, h2⟩ := r; exact ⟨cs, h1, repC_closed _ h2 e⟩
  | .arr sz fs, v, O, r, e => by simp only [RepW] at r ⊢; obtain ⟨cs, h1, h2⟩ := r; exact ⟨cs, h1, repC_closed _ h2 e⟩
  | .tup vs, v, O, r, e => by simp only [RepW] at r ⊢; obtain ⟨cs, h1, h2⟩ := r; exact ⟨cs, h1, repWs_closed _ h2 (by simpa [closed] using e)⟩
  | .vref .., v, O, r, e => by simp [closed] at e
  | .vagg .., v, O, r, e => by simp [closed] at e
  | .vsub .., v, O, r, e => by simp [closed] at e
  | .ptr .., v, O, r, e => by simp [closed] at e
  | .oth _, v, O, r, e => by simp only [RepW] at r ⊢; exact repC_closed _ r e
  | .int .., v, O, r, e => by simp only [RepW] at r ⊢; exact repC_closed _ r e
  | .bool _, v, O, r, e => by simp only [RepW] at r ⊢; exact repC_closed _ r e
  | .str _, v, O, r, e => by simp only [RepW] at r ⊢; exact repC_closed _ r e
  | .sl .., v, O, r, e => by simp only [RepW] at r ⊢; exact repC_closed _ r e
  | .box _, v, O, r, e => by simp only [RepW] at r ⊢; exact repC_closed _ r e
  | .dptr _, v, O, r, e => by simp only [RepW] at r ⊢; exact repC_closed _ r e
theorem repWs_closed {h : Array Obj} {S S' : Nat → Prop} : ∀ (xs : List AV) {vs : List Value} {O : Nat → Prop}, RepWs h S xs vs O → closedL xs = true → RepWs h S' xs vs O
  | [], vs, O, r, e => by simp only [RepWs] at r ⊢; exact r
  | x :: xs, vs, O, r, e => by
    simp only [RepWs] at r ⊢
    simp only [closedL, Bool.and_eq_true] at e
    obtain ⟨v, vs', O1, O2, h1, h2, h3, h4, h5⟩ := r
    exact ⟨v, vs', O1, O2, h1, h2, h3, repW_closed x h4 e.1, repWs_closed xs h5 e.2⟩
end
mutual
theorem repW_erase {h : Array Obj} {S S' : Nat → Prop} : ∀ (x : AV) {v : Value} {O : Nat → Prop}, RepW h S x v O → (∀ k, S k → S' k) → (∀ k, O k → S' k) → RepW h S' (erase x) v (fun _ => False)
  | .undef, v, O, r, s1, s2 => by simp only [RepW, erase] at r ⊢; exact emp_false
  | .agg fs, v, O, r, s1, s2 => by simp only [RepW, erase] at r ⊢; obtain ⟨cs, h1, h2⟩ := r; exact ⟨cs, h1, by have := repC_erase _ h2 s1 s2; simpa only [erase] using this⟩
  | .arr sz fs, v, O, r, s1, s2 => by simp only [RepW, erase] at r ⊢; obtain ⟨cs, h1, h2⟩ := r; exact ⟨cs, h1, by have := repC_erase _ h2 s1 s2; simpa only [erase] using this⟩
  | .tup vs, v, O, r, s1, s2 => by simp only [RepW, erase] at r ⊢; obtain ⟨cs, h1, h2⟩ := r; exact ⟨cs, h1, repWs_erase _ h2 s1 s2⟩
  | .vref .., v, O, r, s1, s2 => by simp only [RepW, erase] at r ⊢; exact emp_false
  | .vagg .., v, O, r, s1, s2 => by simp only [RepW, erase] at r ⊢; exact emp_false
  | .vsub .., v, O, r, s1, s2 => by simp only [RepW, erase] at r ⊢; exact emp_false
  | .ptr .., v, O, r, s1, s2 => by simp only [RepW, erase] at r ⊢; exact emp_false
  | .oth _, v, O, r, s1, s2 => by simp only [RepW] at r; have := repC_erase _ r s1 s2; simpa only [RepW, erase] using this
  | .int .., v, O, r, s1, s2 => by simp only [RepW] at r; have := repC_erase _ r s1 s2; simpa only [RepW, erase] using this
  | .bool _, v, O, r, s1, s2 => by simp only [RepW] at r; have := repC_erase _ r s1 s2; simpa only [RepW, erase] using this
  | .str _, v, O, r, s1, s2 => by simp only [RepW] at r; have := repC_erase _ r s1 s2; simpa only [RepW, erase] using this
  | .sl .., v, O, r, s1, s2 => by simp only [RepW] at r; have := repC_erase _ r s1 s2; simpa only [RepW, erase] using this
  | .box _, v, O, r, s1, s2 => by simp only [RepW] at r; have := repC_erase _ r s1 s2; simpa only [RepW, erase] using this
  | .dptr _, v, O, r, s1, s2 => by simp only [RepW] at r; have := repC_erase _ r s1 s2; simpa only [RepW, erase] using this
theorem repWs_erase {h : Array Obj} {S S' : Nat → Prop} : ∀ (xs : List AV) {vs : List Value} {O : Nat → Prop}, RepWs h S xs vs O → (∀ k, S k → S' k) → (∀ k, O k → S' k) → RepWs h S' (eraseL xs) vs (fun _ => False)
  | [], vs, O, r, s1, s2 => by simp only [RepWs, eraseL] at r ⊢; exact ⟨r.1, emp_false⟩
  | x :: xs, vs, O, r, s1, s2 => by
    simp only [RepWs, eraseL] at r ⊢
    obtain ⟨v, vs', O1, O2, h1, h2, h3, h4, h5⟩ := r
    exact ⟨v, vs', _, _, h1, by simp, by simp, repW_erase x h4 s1 (fun k hk => s2 k ((h2 k).2 (.inl hk))), repWs_erase xs h5 s1 (fun k hk => s2 k ((h2 k).2 (.inr hk)))⟩
end
mutual
theorem repW_plain {h : Array Obj} {S : Nat → Prop} : ∀ (x : AV) {v : Value} {O : Nat → Prop}, RepW h S x v O → plain x = true → Emp O
  | .undef, v, O, r, e => by simp only [RepW] at r; exact r
  | .agg fs, v, O, r, e => by simp only [RepW] at r; obtain ⟨cs, h1, h2⟩ := r; exact repC_plain _ h2 e
  | .arr sz fs, v, O, r, e => by simp only [RepW] at r; obtain ⟨cs, h1, h2⟩ := r; exact repC_plain _ h2 e
  | .tup vs, v, O, r, e => by simp only [RepW] at r; obtain ⟨cs, h1, h2⟩ := r; exact repWs_plain _ h2 (by simpa [plain] using e)
  | .vref .., v, O, r, e => by simp [plain] at e
  | .vagg .., v, O, r, e => by simp [plain] at e
  | .vsub .., v, O, r, e => by simp [plain] at e
  | .ptr .., v, O, r, e => by simp [plain] at e
  | .oth _, v, O, r, e => by simp only [RepW] at r; exact repC_plain _ r e
  | .int .., v, O, r, e => by simp only [RepW] at r; exact repC_plain _ r e
  | .bool _, v, O, r, e => by simp only [RepW] at r; exact repC_plain _ r e
  | .str _, v, O, r, e => by simp only [RepW] at r; exact repC_plain _ r e
  | .sl .., v, O, r, e => by simp only [RepW] at r; exact repC_plain _ r e
  | .box _, v, O, r, e => by simp only [RepW] at r; exact repC_plain _ r e
  | .dptr _, v, O, r, e => by simp only [RepW] at r; exact repC_plain _ r e
theorem repWs_plain {h : Array Obj} {S : Nat → Prop} : ∀ (xs : List AV) {vs : List Value} {O : Nat → Prop}, RepWs h S xs vs O → plainL xs = true → Emp O
  | [], vs, O, r, e => by simp only [RepWs] at r; exact r.2
  | x :: xs, vs, O, r, e => by
    simp only [RepWs] at r
    simp only [plainL, Bool.and_eq_true] at e
    obtain ⟨v, vs', O1, O2, h1, h2, h3, h4, h5⟩ := r
    intro k hk
    rcases (h2 k).1 hk with hk | hk
    · exact repW_plain x h4 e.1 k hk
    · exact repWs_plain xs h5 e.2 k hk
end

/-- It can be written into memory. -/
def AV.stor : AV → Bool
  | .undef | .tup _ | .vref .. | .vagg .. | .vsub .. | .ptr .. => false
  | _ => true
def AV.isAgg : AV → Bool
  | .agg _ | .arr .. => true
  | _ => false
/-- From a slot's value to its cells, and back. -/
theorem repC_of_W {h : Array Obj} {S : Nat → Prop} {x : AV} {v : Value} {O : Nat → Prop} (r : RepW h S x v O) (hs : x.stor = true) : RepC h S x v.cells.toList O := by
  cases x <;> simp only [AV.stor, Bool.false_eq_true] at hs <;> simp only [RepW] at r
  case agg fs => obtain ⟨cs, rfl, h2⟩ := r; exact h2
  case arr sz xs => obtain ⟨cs, rfl, h2⟩ := r; exact h2
  all_goals
    have h1 := repC_one _ r v (by simp)
    have : v.cells = #[v] := by cases v <;> simp_all [Value.cells, Value.oneCell']
    rw [this]; exact r
theorem repW_of_C {h : Array Obj} {S : Nat → Prop} {x : AV} {cs : List Value} {O : Nat → Prop} (r : RepC h S x cs O) (ha : x.isAgg = true) : RepW h S x (.agg cs.toArray) O := by
  cases x <;> simp only [AV.isAgg, Bool.false_eq_true] at ha <;> simp only [RepW]
  · exact ⟨_, rfl, by simpa using r⟩
  · exact ⟨_, rfl, by simpa using r⟩
theorem repW_of_C1 {h : Array Obj} {S : Nat → Prop} {x : AV} {v : Value} {O : Nat → Prop} (r : RepC h S x [v] O) (ha : x.isAgg = false) : RepW h S x v O := by
  cases x with
  | undef => simp only [RepC] at r; simp only [RepW]; exact r.2
  | agg _ => simp [AV.isAgg] at ha
  | arr _ _ => simp [AV.isAgg] at ha
  | tup _ => simp only [RepC] at r
  | vref _ _ => simp only [RepC] at r
  | vagg _ _ => simp only [RepC] at r
  | vsub _ _ _ _ => simp only [RepC] at r
  | ptr _ _ => simp only [RepC] at r
  | _ => simp only [RepW]; exact r
end Go.Proofs.Ytklmfpikhejemaa.Am

namespace Go.Proofs.Ytklmfpikhejemaa.Am
open Go.RowKit AV
set_option linter.unusedVariables false

abbrev St := List (Nat × AV)
def look : St → Nat → AV
  | [], _ => .undef
  | (a, x) :: r, k => if a = k then x else look r k
def AV.target : AV → Option Nat
  | .vref s _ | .vagg s _ | .vsub s _ _ _ | .ptr s _ => some s
  | _ => none
def purgeV (ms : List Nat) : AV → AV
  | .vref s p => if s ∈ ms then .undef else .vref s p
  | .vagg s p => if s ∈ ms then .undef else .vagg s p
  | .vsub s p lo hi => if s ∈ ms then .undef else .vsub s p lo hi
  | .ptr s p => if s ∈ ms then .undef else .ptr s p
  | x => x
def purge (ms : List Nat) : St → St
  | [] => []
  | (a, x) :: r => (a, purgeV ms x) :: purge ms r
def keys : St → List Nat
  | [] => []
  | (a, _) :: r => a :: keys r
/-- The state behind an operation: what it wrote, and all else without what led to that. -/
def upd (σ : St) (news : St) : St := news ++ purge (keys news) σ

theorem look_app : ∀ (a b : St) (k : Nat), look (a ++ b) k = if k ∈ keys a then look a k else look b k
  | [], b, k => by simp [keys]
  | (c, x) :: a, b, k => by
    simp only [List.cons_append, look, keys, List.mem_cons, look_app a b k]
    by_cases h : c = k
    · simp [h]
    · simp only [h, if_false]; split <;> simp_all [eq_comm]
theorem look_purge (ms : List Nat) : ∀ (σ : St) (k : Nat), look (purge ms σ) k = purgeV ms (look σ k)
  | [], k => rfl
  | (c, x) :: a, k => by simp only [purge, look]; split <;> simp [look_purge ms a k]
theorem look_upd (σ news : St) (k : Nat) : look (upd σ news) k = if k ∈ keys news then look news k else purgeV (keys news) (look σ k) := by
  rw [upd, look_app, look_purge]
theorem purgeV_undef (ms : List Nat) (x : AV) : purgeV ms x = x ∨ (purgeV ms x = .undef ∧ ∃ s, x.target = some s ∧ s ∈ ms) := by
  cases x <;> simp only [purgeV, AV.target, true_or] <;> split <;> simp_all
theorem purgeV_none (ms : List Nat) {x : AV} (h : x.target = none) : purgeV ms x = x := by
  cases x <;> simp_all [purgeV, AV.target]

/-- A header: a slice of its own, or a pointer of its own. -/
def AV.hdr : AV → Bool
  | .sl true _ _ | .box _ => true
  | _ => false

/-- The value of a place. -/
def ValAt (h : Array Obj) (x : AV) (u : Value) (p : List Nat) (v : Value) : Prop :=
  (p = [] ∧ v = u) ∨ ∃ B o, adrV h p x u = some (B, o) ∧ cellH h ⟨B, o, none⟩ = some v
def AliasOk (h : Array Obj) (σ : St) (tm : Array Value) : AV → Value → Prop
  | .vref s p, v => ∃ u y, tm[s]? = some u ∧ getAt (look σ s) p = some y ∧ y.hdr = true ∧ ValAt h (look σ s) u p v
  | .vagg s p, v => ∃ u y B o cs, tm[s]? = some u ∧ getAt (look σ s) p = some y ∧ y.isAgg = true ∧ adrV h p (look σ s) u = some (B, o) ∧ v = .agg cs ∧ At h B o cs.toList ∧ cs.size = ncells y
  | .vsub s p lo hi, v => ∃ u sz xs b l c, tm[s]? = some u ∧ getAt (look σ s) p = some (.sl true sz xs) ∧ ValAt h (look σ s) u p (.slice (some ⟨b, 0, none⟩) l c) ∧ lo ≤ hi ∧ hi ≤ xs.length ∧ v = .slice (some ⟨b, (if c = lo then 0 else lo * sz), none⟩) (hi - lo) (c - lo)
  | .ptr s p, v => ∃ u y B o, tm[s]? = some u ∧ getAt (look σ s) p = some y ∧ adrV h p (look σ s) u = some (B, o) ∧ v = .pointer (some ⟨B, o, none⟩)
  | _, _ => True

def Sh (ok : Nat → Prop) (Os : Nat → Nat → Prop) : Nat → Prop := fun k => ok k ∧ ∀ t, ¬ Os t k

/-- The temporaries and the heap are as the state says. -/
structure Rel (h0 : Array Obj) (ok O0 : Nat → Prop) (σ : St) (tm : Array Value) (h : Array Obj) (Os : Nat → Nat → Prop) : Prop where
  rep : ∀ t v, tm[t]? = some v → RepW h (Sh ok Os) (look σ t) v (Os t)
  out : ∀ t, tm.size ≤ t → Emp (Os t)
  dis : ∀ s t k, Os s k → Os t k → s = t
  own : ∀ t k, Os t k → O0 k ∨ h0.size ≤ k
  ali : ∀ t v, tm[t]? = some v → AliasOk h σ tm (look σ t) v
  size : h0.size ≤ h.size
  keep : ∀ k, k < h0.size → ¬ O0 k → h[k]? = h0[k]?

theorem Rel.lt {h0 : Array Obj} {ok O0 : Nat → Prop} {σ : St} {tm : Array Value} {h : Array Obj} {Os : Nat → Nat → Prop} (R : Rel h0 ok O0 σ tm h Os) {t k : Nat} (hk : Os t k) : k < h.size := by
  cases ht : tm[t]? with
  | none => exact (R.out t (by simpa using ht) k hk).elim
  | some v => exact repW_lt _ (R.rep t v ht) k hk

theorem tgt_get {x : AV} {p : List Nat} {y : AV} (h : getAt x p = some y) (hy : y.target = none) : x.target = none := by
  cases p with
  | nil => simp only [getAt, Option.some.injEq] at h; subst h; exact hy
  | cons i p => cases x <;> simp_all [getAt, AV.target]
theorem repC_of_get {h : Array Obj} {S O : Nat → Prop} {x y : AV} {v : Value} {p : List Nat} {q : Nat × Nat} (r : RepW h S x v O) (ha : adrV h p x v = some q) : RepC h S x [v] O := by
  cases p with
  | nil => simp [adrV] at ha
  | cons i p => cases x <;> simp only [adrV] at ha <;> first | (cases ha; done) | (simp only [RepW] at r; exact r)

theorem ValAt.same {h h' : Array Obj} {S O : Nat → Prop} {x y : AV} {u v : Value} {p : List Nat} (r : RepW h S x u O) (hg : getAt x p = some y) (hO : ∀ k, O k → h'[k]? = h[k]?) (hv : ValAt h x u p v) : ValAt h' x u p v := by
  rcases hv with hv | ⟨B, o, h1, h2⟩
  · exact .inl hv
  · have r' := repC_of_get (y := y) r h1
    obtain ⟨cy, Oy, Ob, q1, q2, q3, q4, q5, q6, _⟩ := placeV p x r' hg h1
    refine .inr ⟨B, o, (adrV_same p x r' hO).trans h1, ?_⟩
    rw [← h2]
    exact cellH_same (hO B ((q3 B).2 (.inr q6)))

theorem aliasOk_same {h h' : Array Obj} {σ σ' : St} {tm tm' : Array Value} {x : AV} {v : Value} {S O : Nat → Prop} (a : AliasOk h σ tm x v)
    (hs : ∀ s u, x.target = some s → tm[s]? = some u → RepW h S (look σ s) u O) (ht : ∀ s, x.target = some s → tm'[s]? = tm[s]?)
    (hl : ∀ s, x.target = some s → (look σ s).target = none → look σ' s = look σ s) (hO : ∀ k, O k → h'[k]? = h[k]?) : AliasOk h' σ' tm' x v := by
  cases x with
  | vref s p =>
    obtain ⟨u, y, h1, h2, h3, h4⟩ := a
    have hn : y.target = none := by cases y <;> simp_all [AV.hdr, AV.target]
    have e := hl s rfl (tgt_get h2 hn)
    refine ⟨u, y, (ht s rfl).trans h1, by rw [e]; exact h2, h3, ?_⟩
    rw [e]
    exact h4.same (hs s u rfl h1) h2 hO
  | vagg s p =>
    obtain ⟨u, y, B, o, cs, h1, h2, h3, h4, h5, h6, h7⟩ := a
    have hn : y.target = none := by cases y <;> simp_all [AV.isAgg, AV.target]
    have e := hl s rfl (tgt_get h2 hn)
    have r' := repC_of_get (y := y) (hs s u rfl h1) h4
    obtain ⟨cy, Oy, Ob, q1, q2, q3, q4, q5, q6, _⟩ := placeV p _ r' h2 h4
    refine ⟨u, y, B, o, cs, (ht s rfl).trans h1, by rw [e]; exact h2, h3, by rw [e]; exact (adrV_same p _ r' hO).trans h4, h5, ?_, h7⟩
    intro j w hw
    rw [← h6 j w hw]
    exact cellH_same (hO B ((q3 B).2 (.inr q6)))
  | vsub s p lo hi =>
    obtain ⟨u, sz, xs, b, l, c, h1, h2, h3, h4, h5, h6⟩ := a
    have e := hl s rfl (tgt_get h2 rfl)
    refine ⟨u, sz, xs, b, l, c, (ht s rfl).trans h1, by rw [e]; exact h2, ?_, h4, h5, h6⟩
    rw [e]
    exact h3.same (hs s u rfl h1) h2 hO
  | ptr s p =>
    obtain ⟨u, y, B, o, h1, h2, h3, h4⟩ := a
    have hn : (look σ s).target = none := by
      cases p with
      | nil => simp [adrV] at h3
      | cons i p => cases hx : look σ s <;> simp_all [adrV, AV.target]
    have e := hl s rfl hn
    have r' := repC_of_get (y := y) (hs s u rfl h1) h3
    exact ⟨u, y, B, o, (ht s rfl).trans h1, by rw [e]; exact h2, by rw [e]; exact (adrV_same p _ r' hO).trans h3, h4⟩
  | _ => trivial

theorem aliasOk_none {h : Array Obj} {σ : St} {tm : Array Value} {x : AV} {v : Value} (e : x.target = none) : AliasOk h σ tm x v := by
  cases x <;> first | trivial | simp [AV.target] at e
theorem purge_target {ms : List Nat} {x : AV} {s : Nat} (e : purgeV ms x = x) (hs : x.target = some s) : s ∉ ms := by
  intro hm
  cases x <;> simp only [AV.target, Option.some.injEq] at hs <;> first | (cases hs; done) | (subst hs; simp [purgeV, hm] at e)
theorem repW_alias {h : Array Obj} {S : Nat → Prop} {x : AV} {v : Value} {O : Nat → Prop} {s : Nat} (r : RepW h S x v O) (hs : x.target = some s) : Emp O := by
  cases x <;> simp only [AV.target, reduceCtorEq] at hs <;> simpa only [RepW] using r

/-- One step of the machine: what it wrote is given, all else is as it was. -/
theorem Rel.step {h0 : Array Obj} {ok O0 : Nat → Prop} {σ : St} {tm : Array Value} {h : Array Obj} {Os : Nat → Nat → Prop} (R : Rel h0 ok O0 σ tm h Os)
    (news : St) (tm' : Array Value) (h' : Array Obj) (Os' : Nat → Nat → Prop)
    (hsz : tm'.size = tm.size) (h1 : ∀ t, t ∉ keys news → tm'[t]? = tm[t]?)
    (h2 : ∀ t, t ∉ keys news → ∀ k, Os' t k ↔ Os t k)
    (h3 : ∀ t, t ∉ keys news → ∀ k, Os t k → h'[k]? = h[k]?)
    (h4 : ∀ k, k < h.size → Sh ok Os k → (∀ t, ¬ Os' t k) ∧ h'[k]? = h[k]?)
    (h5 : ∀ t, t ∈ keys news → ∀ v, tm'[t]? = some v → RepW h' (Sh ok Os') (look news t) v (Os' t))
    (h5' : ∀ t, t ∈ keys news → tm.size ≤ t → Emp (Os' t))
    (h6 : ∀ s t k, Os' s k → Os' t k → s = t)
    (h7 : ∀ t, t ∈ keys news → ∀ k, Os' t k → O0 k ∨ h0.size ≤ k)
    (h8 : ∀ t, t ∈ keys news → ∀ v, tm'[t]? = some v → AliasOk h' (upd σ news) tm' (look news t) v)
    (h9 : h.size ≤ h'.size) (h10 : ∀ k, k < h0.size → ¬ O0 k → h'[k]? = h[k]?) : Rel h0 ok O0 (upd σ news) tm' h' Os' := by
  have hag : ∀ t, t ∉ keys news → Agree h h' (Sh ok Os) (Sh ok Os') (Os t) := fun t ht =>
    ⟨fun k hk hlt => ⟨⟨hk.1, (h4 k hlt hk).1⟩, (h4 k hlt hk).2⟩, h3 t ht⟩
  refine ⟨?_, ?_, h6, ?_, ?_, Nat.le_trans R.size h9, fun k hk hn => (h10 k hk hn).trans (R.keep k hk hn)⟩
  · intro t v hv
    rw [look_upd]
    by_cases ht : t ∈ keys news
    · rw [if_pos ht]; exact h5 t ht v hv
    · rw [if_neg ht]
      rw [h1 t ht] at hv
      have r := repW_cong _ (repW_mono _ (R.rep t v hv) (hag t ht)) (fun k => h2 t ht k)
      rcases purgeV_undef (keys news) (look σ t) with e | ⟨e, s, hs, _⟩
      · rw [e]; exact r
      · rw [e]
        simp only [RepW]; exact repW_alias r hs
  · intro t ht k hk
    by_cases hm : t ∈ keys news
    · exact h5' t hm (by omega) k hk
    · exact R.out t (by omega) k ((h2 t hm k).1 hk)
  · intro t k hk
    by_cases hm : t ∈ keys news
    · exact h7 t hm k hk
    · exact R.own t k ((h2 t hm k).1 hk)
  · intro t v hv
    by_cases ht : t ∈ keys news
    · have := h8 t ht v hv
      rw [look_upd, if_pos ht]; exact this
    · rw [look_upd, if_neg ht]
      rw [h1 t ht] at hv
      have a := R.ali t v hv
      rcases purgeV_undef (keys news) (look σ t) with e | ⟨e, _⟩
      · rw [e]
        cases htg : (look σ t).target with
        | none => exact aliasOk_none htg
        | some s =>
          have hs := purge_target e htg
          refine aliasOk_same (S := Sh ok Os) (O := Os s) a ?_ ?_ ?_ (h3 s hs)
          · intro s' u hs' hu
            rw [htg] at hs'; cases hs'
            exact R.rep s u hu
          · intro s' hs'
            rw [htg] at hs'; cases hs'
            exact h1 s hs
          · intro s' hs' hn
            rw [htg] at hs'; cases hs'
            rw [look_upd, if_neg hs, purgeV_none _ hn]
      · rw [e]; trivial
end Go.Proofs.Ytklmfpikhejemaa.Am

namespace Go.Proofs.Ytklmfpikhejemaa.Am
open Go.RowKit AV
set_option linter.unusedVariables false

/-! ### What is asked of types -/
def szOf (P : Program) (t : TypeId) : Nat := match P.info? t with | some i => i.size | none => 0
def bytesOf_ (P : Program) (t : TypeId) : Nat := match P.info? t with | some i => i.bytes | none => 0
def aggTy (P : Program) (t : TypeId) : Option Bool := match P.underlying t with | some (.struct _) | some (.array _ _) => some true | some _ => some false | none => none
def zeroA (P : Program) : Nat → TypeId → AV
  | 0, _ => .undef
  | n + 1, t => match P.underlying t with
    | some .bool => .bool false
    | some (.int k) => .int k 0
    | some .string => .str []
    | some (.slice _) => .sl true 0 []
    | some (.struct fs) => .agg (fs.toList.map fun f => zeroA P n f.type)
    | some (.array len e) => .arr (szOf P e) (List.replicate len (zeroA P n e))
    | some (.pointer _) => .oth (.pointer none)
    | some (.interface _) => .oth .nilIface
    | some (.func ..) => .oth .nilFunc
    | some (.map ..) => .oth (.map none)
    | _ => .undef
def flatOth : Value → Value → Bool
  | .pointer none, .pointer none | .nilIface, .nilIface | .nilFunc, .nilFunc | .map none, .map none => true
  | _, _ => false
mutual
/-- These cells are this value: what of the cells is left. -/
def flatC : AV → List Value → Option (List Value)
  | .int k n, .int k' n' :: r => if k = k' ∧ n = n' then some r else none
  | .bool b, .bool b' :: r => if b = b' then some r else none
  | .str [], .string ⟨⟨[]⟩⟩ :: r => some r
  | .sl true 0 [], .slice none 0 0 :: r => some r
  | .oth v, w :: r => if flatOth v w then some r else none
  | .agg fs, cs => flatL fs cs
  | .arr sz xs, cs => if xs.all (fun x => x.ncells == sz) then flatL xs cs else none
  | _, _ => none
def flatL : List AV → List Value → Option (List Value)
  | [], cs => some cs
  | x :: xs, cs => match flatC x cs with | some r => flatL xs r | none => none
end
structure TI where
  size : Nat
  bytes : Nat
  agg : Option Bool
  kind : Nat
  esz : Nat
  ebytes : Nat
  eagg : Option Bool
  alen : Nat
  fields : List (Nat × Nat × Option Bool)
  zero : AV
  ezero : AV
  zok : Bool
  ezok : Bool
def zokOf (P : Program) (t : TypeId) (z : AV) : Bool := match P.info? t with
  | some i => (match i.zero with | some v => (match flatC z v.cells.toList with | some [] => v.cells.size == i.size | _ => false) | none => false)
  | none => false
def tinfo (P : Program) (t : TypeId) : TI :=
  let b : TI := { size := szOf P t, bytes := bytesOf_ P t, agg := aggTy P t, kind := 0, esz := 0, ebytes := 0, eagg := none, alen := 0, fields := [], zero := zeroA P 12 t, ezero := .undef, zok := zokOf P t (zeroA P 12 t), ezok := false }
  match P.underlying t with
  | some (.slice e) => { b with kind := 1, esz := szOf P e, ebytes := bytesOf_ P e, eagg := aggTy P e, ezero := zeroA P 12 e, ezok := zokOf P e (zeroA P 12 e) }
  | some (.array n e) => { b with kind := 2, esz := szOf P e, ebytes := bytesOf_ P e, eagg := aggTy P e, alen := n, ezero := zeroA P 12 e, ezok := zokOf P e (zeroA P 12 e) }
  | some (.struct fs) => { b with kind := 3, fields := fs.toList.map fun f => (f.offset, szOf P f.type, aggTy P f.type) }
  | some .string => { b with kind := 4 }
  | some (.int _) => { b with kind := 5 }
  | some .bool => { b with kind := 6 }
  | some (.pointer _) => { b with kind := 7 }
  | _ => b

/-! ### Operands and where they lead -/
def constV : Value → AV
  | .int k n => .int k n
  | .bool b => .bool b
  | .string s => .str s.data.toList
  | .slice none 0 0 => .sl true 0 []
  | .pointer none => .oth (.pointer none)
  | .nilIface => .oth .nilIface
  | .nilFunc => .oth .nilFunc
  | .map none => .oth (.map none)
  | _ => .undef
def ev (σ : St) : Operand → AV
  | .tmp t => look σ t
  | .const v => constV v
  | .func f => .oth (.func (.func f) #[] #[])
  | .global _ => .undef
inductive Src where
  | slo (s : Nat) (p : List Nat) (sz : Nat) (xs : List AV)
  | sls (sz : Nat) (xs : List AV)
  | pto (s : Nat) (p : List Nat) (y : AV)
  | pts (y : AV)
  | va (y : AV)
  | bad
def srcOf (σ : St) (x : Operand) : Src :=
  match ev σ x with
  | .sl true sz xs => (match x with | .tmp t => .slo t [] sz xs | _ => (match xs with | [] => .sls sz [] | _ => .bad))
  | .sl false sz xs => .sls sz xs
  | .vref s p => (match getAt (look σ s) p with | some (.sl true sz xs) => .slo s p sz xs | some (.box y) => .pto s (p ++ [0]) y | _ => .bad)
  | .box y => (match x with | .tmp t => .pto t [0] y | _ => .bad)
  | .ptr s p => (match getAt (look σ s) p with | some y => .pto s p y | none => .bad)
  | .dptr y => .pts y
  | .undef => .bad
  | y => if plain y then .va y else .bad

/-! ### Operations without effect: a value for the destination -/
def moveW (σ : St) (x : Operand) (K : AV → Prop) : Prop :=
  match srcOf σ x with
  | .slo s p _ _ => K (.vref s p)
  | .sls _ _ => K (ev σ x)
  | .pto s p _ => K (.ptr s p)
  | .pts y => K (.dptr y)
  | .va y => K y
  | .bad => False
def pickW (σ : St) (c a b : Operand) (K : AV → Prop) : Prop :=
  match ev σ c with
  | .bool t => if t then moveW σ a K else moveW σ b K
  | _ => False
mutual
/-- '==' on plain data. -/
def eqA : AV → AV → Option Bool
  | .int k a, .int k' b => if k = k' then some (a == b) else none
  | .bool a, .bool b => some (a == b)
  | .str a, .str b => some (a == b)
  | .agg fs, .agg gs => eqL fs gs
  | _, _ => none
def eqL : List AV → List AV → Option Bool
  | [], [] => some true
  | x :: xs, y :: ys => match eqA x y, eqL xs ys with | some a, some b => some (a && b) | _, _ => none
  | _, _ => none
end
def intOp (op : BinOp) (k : IntKind) (a b : Int) : Option AV :=
  match op with
  | .add => some (.int k (k.wrap (a + b)))
  | .sub => some (.int k (k.wrap (a - b)))
  | .mul => some (.int k (k.wrap (a * b)))
  | .quo => if b = 0 then none else some (.int k (k.wrap (a.tdiv b)))
  | .rem => if b = 0 then none else some (.int k (a.tmod b))
  | .eql => some (.bool (a == b))
  | .neq => some (.bool (a != b))
  | .lss => some (.bool (decide (a < b)))
  | .leq => some (.bool (decide (a ≤ b)))
  | .gtr => some (.bool (decide (a > b)))
  | .geq => some (.bool (decide (a ≥ b)))
  | _ => none
def strOp (op : BinOp) (a b : List UInt8) : Option AV :=
  match op with
  | .add => if a.length + b.length ≤ 9223372036854775807 then some (.str (a ++ b)) else none
  | .eql => some (.bool (a == b))
  | .neq => some (.bool !(a == b))
  | .lss => some (.bool (Op.bytesLess a b))
  | .leq => some (.bool (Op.bytesLess a b || a == b))
  | .gtr => some (.bool !(Op.bytesLess a b || a == b))
  | .geq => some (.bool !(Op.bytesLess a b))
  | _ => none
/-- '==' on a scalar. -/
def eqS : AV → AV → Option Bool
  | .int k a, .int k' b => if k = k' then some (a == b) else none
  | .bool a, .bool b => some (a == b)
  | .str a, .str b => some (a == b)
  | _, _ => none
def eqSL : List AV → List AV → Option Bool
  | [], [] => some true
  | x :: xs, y :: ys => (match eqS x y, eqSL xs ys with | some a, some b => some (a && b) | _, _ => none)
  | _, _ => none
def avK : AV → Nat
  | .str _ => 4
  | .int _ _ => 5
  | .bool _ => 6
  | _ => 0
def tyK (P : Program) (t : TypeId) : Nat := match P.underlying t with
  | some .string => 4
  | some (.int _) => 5
  | some .bool => 6
  | _ => 1
def flatGo : Nat → List Field → Bool
  | _, [] => true
  | i, f :: r => f.name != "_" && f.offset == i && flatGo (i + 1) r
/-- A struct of scalars: of what kinds. -/
def flatK (P : Program) (t : TypeId) : Option (List Nat) := match P.underlying t with
  | some (.struct fs) => if flatGo 0 fs.toList && !P.stoodInHeld t && !P.eqGuardType P.depth t then some (fs.toList.map fun f => tyK P f.type) else none
  | _ => none
def eqAgg (ks : Option (List Nat)) (op : BinOp) (fs gs : List AV) : Option AV := match ks with
  | some ks => if fs.map avK = ks ∧ gs.map avK = ks then (match eqSL fs gs with
    | some b => (match op with | .eql => some (.bool b) | .neq => some (.bool !b) | _ => none)
    | none => none) else none
  | none => none
def binA (P : Program) (op : BinOp) (t : TypeId) (x y : AV) : Option AV :=
  match x, y with
  | .int k a, .int k' b => if k = k' then intOp op k a b else none
  | .str a, .str b => strOp op a b
  | .bool a, .bool b => (match P.underlying t with | some .bool => (match op with | .eql => some (.bool (a == b)) | .neq => some (.bool (a != b)) | _ => none) | _ => none)
  | .agg fs, .agg gs => eqAgg (flatK P t) op fs gs
  | _, _ => none
def unA (op : UnOp) (x : AV) : Option AV :=
  match op, x with
  | .not, .bool b => some (.bool !b)
  | .neg, .int k n => some (.int k (k.wrap (0 - n)))
  | _, _ => none
def needW (o : Option AV) (K : AV → Prop) : Prop := match o with | some y => K y | none => False
def fieldAddrW (P : Program) (σ : St) (t : TypeId) (x : Operand) (f : Nat) (K : AV → Prop) : Prop :=
  match (tinfo P t).fields[f]? with
  | some (off, fsz, _) => 0 < fsz ∧ (match srcOf σ x with
    | .pto s p (.agg fs) => f < fs.length ∧ ncellsL (fs.take f) = off ∧ K (.ptr s (p ++ [f]))
    | .pts (.agg fs) => f < fs.length ∧ ncellsL (fs.take f) = off ∧ K (.dptr (fs.getD f .undef))
    | _ => False)
  | none => False
def indexAddrW (P : Program) (σ : St) (t : TypeId) (x i : Operand) (K : AV → Prop) : Prop :=
  match ev σ i with
  | .int k n =>
    (match srcOf σ x with
    | .slo s p sz xs => (tinfo P t).kind = 1 ∧ (tinfo P t).esz = sz ∧ 0 < sz ∧ 0 ≤ n ∧ n < xs.length ∧ K (.ptr s (p ++ [n.toNat]))
    | .sls sz xs => (tinfo P t).kind = 1 ∧ (tinfo P t).esz = sz ∧ 0 < sz ∧ 0 ≤ n ∧ n < xs.length ∧ K (.dptr (xs.getD n.toNat .undef))
    | .pto s p (.arr sz xs) => (tinfo P t).kind = 2 ∧ (tinfo P t).esz = sz ∧ 0 < sz ∧ (tinfo P t).alen = xs.length ∧ 0 ≤ n ∧ n < xs.length ∧ K (.ptr s (p ++ [n.toNat]))
    | .pts (.arr sz xs) => (tinfo P t).kind = 2 ∧ (tinfo P t).esz = sz ∧ 0 < sz ∧ (tinfo P t).alen = xs.length ∧ 0 ≤ n ∧ n < xs.length ∧ K (.dptr (xs.getD n.toNat .undef))
    | _ => False)
  | _ => False
/-- What is loaded from a place of one's own: a copy, or the word for the value that lies there. -/
def loaded (s : Nat) (p : List Nat) (y : AV) : Option AV :=
  if plain y then (match y with | .undef => none | .tup _ => none | y => some y) else if y.hdr then some (.vref s p) else if y.isAgg then some (.vagg s p) else none
def loadW (P : Program) (σ : St) (t : TypeId) (x : Operand) (K : AV → Prop) : Prop :=
  match srcOf σ x with
  | .pto s p y => (tinfo P t).agg = some y.isAgg ∧ (tinfo P t).size = ncells y ∧ needW (loaded s p y) K
  | .pts y => (tinfo P t).agg = some y.isAgg ∧ (tinfo P t).size = ncells y ∧ needW (if plain y then (match y with | .undef => none | .tup _ => none | y => some y) else none) K
  | _ => False
def lenW (σ : St) (P : Program) (t : TypeId) (x : Operand) (K : AV → Prop) : Prop :=
  match srcOf σ x with
  | .slo _ _ _ xs => (tinfo P t).kind = 1 ∧ K (.int .i64 xs.length)
  | .sls _ xs => (tinfo P t).kind = 1 ∧ K (.int .i64 xs.length)
  | .va (.str s) => (tinfo P t).kind = 4 ∧ K (.int .i64 s.length)
  | _ => False
def indexW (P : Program) (σ : St) (t : TypeId) (x i : Operand) (K : AV → Prop) : Prop :=
  match ev σ i with
  | .int k n =>
    (match ev σ x with
    | .str s => (tinfo P t).kind = 4 ∧ 0 ≤ n ∧ n < s.length ∧ K (.int .u8 (s.getD n.toNat 0).toNat)
    | .arr sz xs => plainL xs = true ∧ (tinfo P t).kind = 2 ∧ (tinfo P t).esz = sz ∧ 0 < sz ∧ (tinfo P t).alen = xs.length ∧ (∀ x ∈ xs, (tinfo P t).eagg = some x.isAgg ∧ x.stor = true) ∧ 0 ≤ n ∧ n < xs.length ∧ K (xs.getD n.toNat .undef)
    | _ => False)
  | _ => False
def convW (P : Program) (σ : St) (src dst : TypeId) (x : Operand) (K : AV → Prop) : Prop :=
  match ev σ x with
  | .int _ n => (match P.underlying dst with | some (.int k) => (tinfo P src).kind = 5 ∧ K (.int k (k.wrap n)) | _ => False)
  | _ => False
def sliceStrW (P : Program) (σ : St) (t : TypeId) (x : Operand) (lo hi : Option Operand) (K : AV → Prop) : Prop :=
  match ev σ x with
  | .str s => (tinfo P t).kind = 4 ∧
    (match (match lo with | some l => (match ev σ l with | .int _ n => some n | _ => none) | none => some 0), (match hi with | some l => (match ev σ l with | .int _ n => some n | _ => none) | none => some (s.length : Int)) with
    | some l, some h => 0 ≤ l ∧ l ≤ h ∧ h ≤ s.length ∧ K (.str ((s.take h.toNat).drop l.toNat))
    | _, _ => False)
  | _ => False
end Go.Proofs.Ytklmfpikhejemaa.Am

namespace Go.Proofs.Ytklmfpikhejemaa.Am
open Go.RowKit AV
set_option linter.unusedVariables false

def opndOk (n : Nat) : Operand → Bool
  | .tmp t => decide (t < n)
  | _ => true

theorem constV_rep (h : Array Obj) (S : Nat → Prop) (c : Value) : RepW h S (constV c) c (fun _ => False) := by
  unfold constV
  split <;> simp only [RepW, RepC] <;> first | exact emp_false | exact ⟨rfl, emp_false⟩ | exact .inl ⟨trivial, trivial, emp_false⟩ | exact ⟨⟨rfl, rfl⟩, emp_false⟩ | exact ⟨⟨trivial, rfl⟩, emp_false⟩ | exact ⟨by simp, emp_false⟩
theorem constV_target (c : Value) : (constV c).target = none := by unfold constV; split <;> rfl

section
variable {h0 : Array Obj} {ok O0 : Nat → Prop} {σ : St} {a : Act} {w : World} {Os : Nat → Nat → Prop}

/-- The owner of what an operand holds. -/
def opO (Os : Nat → Nat → Prop) : Operand → Nat → Prop
  | .tmp t => Os t
  | _ => fun _ => False

theorem ev_rep (R : Rel h0 ok O0 σ a.tmps w.heap Os) {x : Operand} (hx : opndOk a.tmps.size x = true) :
    RepW w.heap (Sh ok Os) (ev σ x) (a.eval x) (opO Os x) ∧ AliasOk w.heap σ a.tmps (ev σ x) (a.eval x) := by
  cases x with
  | tmp t =>
    have ht : t < a.tmps.size := by simpa [opndOk] using hx
    have hv : a.tmps[t]? = some (a.eval (.tmp t)) := by simp [Act.eval, ht]
    exact ⟨R.rep t _ hv, R.ali t _ hv⟩
  | const v => exact ⟨constV_rep _ _ _, aliasOk_none (constV_target v)⟩
  | global g => exact ⟨by simp only [ev, RepW, opO]; exact emp_false, trivial⟩
  | func f => exact ⟨by simp only [ev, RepW, RepC, opO, Act.eval]; exact ⟨⟨trivial, rfl⟩, emp_false⟩, trivial⟩

theorem add_at (b o n : Nat) : (⟨b, o, none⟩ : Addr).add n = ⟨b, o + n, none⟩ := by
  unfold Addr.add; split <;> simp_all

theorem src_slo (R : Rel h0 ok O0 σ a.tmps w.heap Os) {x : Operand} (hx : opndOk a.tmps.size x = true) {s : Nat} {p : List Nat} {sz : Nat} {xs : List AV} (e : srcOf σ x = .slo s p sz xs) :
    ∃ u, a.tmps[s]? = some u ∧ RepW w.heap (Sh ok Os) (look σ s) u (Os s) ∧ getAt (look σ s) p = some (.sl true sz xs) ∧ ValAt w.heap (look σ s) u p (a.eval x) := by
  have hr := ev_rep R hx
  unfold srcOf at e
  split at e
  · rename_i sz' xs' he
    split at e
    · rename_i t
      simp only [Src.slo.injEq] at e
      obtain ⟨rfl, rfl, rfl, rfl⟩ := e
      have ht : t < a.tmps.size := by simpa [opndOk] using hx
      simp only [ev] at he
      refine ⟨a.eval (.tmp t), by simp [Act.eval, ht], hr.1, by rw [he]; rfl, .inl ⟨rfl, rfl⟩⟩
    · split at e <;> cases e
  · cases e
  · rename_i s' p' he
    rw [he] at hr
    obtain ⟨u, y, h1, h2, h3, h4⟩ := hr.2
    simp only [h2] at e
    split at e
    · rename_i sz' xs' he2
      simp only [Option.some.injEq] at he2
      subst he2
      simp only [Src.slo.injEq] at e
      obtain ⟨rfl, rfl, rfl, rfl⟩ := e
      exact ⟨u, h1, R.rep s' u h1, h2, h4⟩
    · cases e
    · cases e
  · split at e <;> cases e
  · split at e <;> cases e
  · cases e
  · cases e
  · split at e <;> cases e

theorem src_pto (R : Rel h0 ok O0 σ a.tmps w.heap Os) {x : Operand} (hx : opndOk a.tmps.size x = true) {s : Nat} {p : List Nat} {y : AV} (e : srcOf σ x = .pto s p y) :
    ∃ u B o, a.tmps[s]? = some u ∧ RepW w.heap (Sh ok Os) (look σ s) u (Os s) ∧ getAt (look σ s) p = some y ∧ adrV w.heap p (look σ s) u = some (B, o) ∧ a.eval x = .pointer (some ⟨B, o, none⟩) := by
  have hr := ev_rep R hx
  unfold srcOf at e
  split at e
  · split at e
    · cases e
    · split at e <;> cases e
  · cases e
  · rename_i s' p' he
    rw [he] at hr
    obtain ⟨u, y', h1, h2, h3, h4⟩ := hr.2
    simp only [h2] at e
    split at e
    · cases e
    · rename_i y2 he2
      simp only [Option.some.injEq] at he2
      subst he2
      simp only [Src.pto.injEq] at e
      obtain ⟨rfl, rfl, rfl⟩ := e
      have hrep := R.rep s' u h1
      rcases h4 with ⟨rfl, h4⟩ | ⟨B, o, h5, h6⟩
      · have hb : look σ s' = .box y2 := by
          have : getAt (look σ s') [] = some (look σ s') := by cases look σ s' <;> rfl
          rw [this] at h2; injection h2
        rw [hb] at hrep
        simp only [RepW, RepC] at hrep
        obtain ⟨b, c, te, m, O1, k1, k2, k3, k4, k5, k6⟩ := hrep
        obtain rfl : u = .pointer (some ⟨b, 0, none⟩) := by simpa using k1
        refine ⟨_, b, 0, h1, R.rep s' _ h1, by rw [hb]; simp [getAt], by rw [hb]; simp [adrV, adr], h4⟩
      · have r' := repC_of_get (y := .box y2) hrep h5
        obtain ⟨cy, Oy, Ob, q1, q2, q3, q4, q5, q6, _⟩ := placeV p' _ r' h2 h5
        simp only [RepC] at q1
        obtain ⟨b, c, te, m, O1, k1, k2, k3, k4, k5, k6⟩ := q1
        subst k1
        have hc := q2 0 _ rfl
        rw [Nat.add_zero, h6] at hc
        injection hc with hc
        refine ⟨u, b, 0, h1, hrep, ?_, ?_, hc⟩
        · rw [getAt_app, h2]; simp [getAt]
        · rw [adrV_app p' [0] _ h2 h5]; simp [adr, h6, hc]
    · cases e
  · rename_i y' he
    split at e
    · rename_i t
      simp only [Src.pto.injEq] at e
      obtain ⟨rfl, rfl, rfl⟩ := e
      have ht : t < a.tmps.size := by simpa [opndOk] using hx
      simp only [ev] at he
      have hr1 := hr.1
      simp only [ev] at hr1
      have hr2 := hr1
      rw [he] at hr1
      simp only [RepW, RepC] at hr1
      obtain ⟨b, c, te, m, O1, k1, k2, k3, k4, k5, k6⟩ := hr1
      have hv : a.eval (.tmp t) = .pointer (some ⟨b, 0, none⟩) := by simpa using k1
      refine ⟨a.eval (.tmp t), b, 0, by simp [Act.eval, ht], hr2, by rw [he]; simp [getAt], by rw [he, hv]; simp [adrV, adr], hv⟩
    · cases e
  · rename_i s' p' he
    split at e
    · rename_i y2 he2
      simp only [Src.pto.injEq] at e
      obtain ⟨rfl, rfl, rfl⟩ := e
      rw [he] at hr
      obtain ⟨u, y', B, o, h1, h2, h3, h4⟩ := hr.2
      exact ⟨u, B, o, h1, R.rep s' u h1, he2, h3, h4⟩
    · cases e
  · cases e
  · cases e
  · split at e <;> cases e

theorem src_sls (R : Rel h0 ok O0 σ a.tmps w.heap Os) {x : Operand} (hx : opndOk a.tmps.size x = true) {sz : Nat} {xs : List AV} (e : srcOf σ x = .sls sz xs) :
    RepC w.heap (Sh ok Os) (.sl false sz xs) [a.eval x] (fun _ => False) ∧ RepW w.heap (Sh ok Os) (ev σ x) (a.eval x) (fun _ => False) ∧ (ev σ x).target = none := by
  have hr := (ev_rep R hx).1
  unfold srcOf at e
  split at e
  · rename_i sz' xs' he
    split at e
    · cases e
    · rename_i hne
      split at e
      · simp only [Src.sls.injEq] at e
        obtain ⟨rfl, rfl⟩ := e
        cases x with
        | tmp t => exact (hne t rfl).elim
        | const v =>
          have hv : v = .slice none 0 0 := by
            simp only [ev] at he
            unfold constV at he
            split at he <;> first | (cases he; done) | rfl
          subst hv
          have q1 := constV_rep w.heap (Sh ok Os) (.slice none 0 0)
          have q2 := constV_target (.slice none 0 0)
          refine ⟨?_, q1, q2⟩
          simp only [RepC, Act.eval]
          exact ⟨⟨none, 0, [], rfl, Nat.le_refl _, by simp only [RepL]; exact ⟨trivial, emp_false⟩, by simp, by simp⟩, emp_false⟩
        | global g => cases he
        | func f => cases he
      · cases e
  · rename_i sz' xs' he
    simp only [Src.sls.injEq] at e
    obtain ⟨rfl, rfl⟩ := e
    rw [he] at hr ⊢
    have hemp := repW_plain _ hr rfl
    have hr' := repW_cong _ hr (O' := fun _ => False) (fun k => ⟨False.elim, fun hk => (hemp k hk).elim⟩)
    exact ⟨by simpa only [RepW] using hr', hr', rfl⟩
  · split at e <;> cases e
  · split at e <;> cases e
  · split at e <;> cases e
  · cases e
  · cases e
  · split at e <;> cases e

theorem src_pts (R : Rel h0 ok O0 σ a.tmps w.heap Os) {x : Operand} (hx : opndOk a.tmps.size x = true) {y : AV} (e : srcOf σ x = .pts y) :
    RepC w.heap (Sh ok Os) (.dptr y) [a.eval x] (fun _ => False) := by
  have hr := (ev_rep R hx).1
  unfold srcOf at e
  split at e
  · split at e
    · cases e
    · split at e <;> cases e
  · cases e
  · split at e <;> cases e
  · split at e <;> cases e
  · split at e <;> cases e
  · rename_i y' he
    simp only [Src.pts.injEq] at e
    subst e
    rw [he] at hr
    have hemp := repW_plain _ hr rfl
    have hr' := repW_cong _ hr (O' := fun _ => False) (fun k => ⟨False.elim, fun hk => (hemp k hk).elim⟩)
    simpa only [RepW] using hr'
  · cases e
  · split at e <;> cases e

theorem plain_target {y : AV} (h : plain y = true) : y.target = none := by cases y <;> simp_all [plain, AV.target]

theorem src_va (R : Rel h0 ok O0 σ a.tmps w.heap Os) {x : Operand} (hx : opndOk a.tmps.size x = true) {y : AV} (e : srcOf σ x = .va y) :
    RepW w.heap (Sh ok Os) y (a.eval x) (fun _ => False) ∧ y = ev σ x ∧ plain y = true := by
  have hr := (ev_rep R hx).1
  unfold srcOf at e
  split at e
  · split at e
    · cases e
    · split at e <;> cases e
  · cases e
  · split at e <;> cases e
  · split at e <;> cases e
  · split at e <;> cases e
  · cases e
  · cases e
  · split at e
    · rename_i hp
      simp only [Src.va.injEq] at e
      subst e
      have hemp := repW_plain _ hr hp
      exact ⟨repW_cong _ hr (O' := fun _ => False) (fun k => ⟨False.elim, fun hk => (hemp k hk).elim⟩), rfl, hp⟩
    · cases e

/-- The slice that lies there, and where its elements are. -/
theorem slo_rep {s : Nat} {p : List Nat} {sz : Nat} {xs : List AV} {u v : Value} (hr : RepW w.heap (Sh ok Os) (look σ s) u (Os s)) (hg : getAt (look σ s) p = some (.sl true sz xs)) (hv : ValAt w.heap (look σ s) u p v) :
    (∃ Oy, RepC w.heap (Sh ok Os) (.sl true sz xs) [v] Oy ∧ ∀ k, Oy k → Os s k) ∧
    ∀ b l c, v = .slice (some ⟨b, 0, none⟩) l c → ∀ i, i < xs.length → adrV w.heap (p ++ [i]) (look σ s) u = some (b, i * sz) := by
  rcases hv with ⟨rfl, rfl⟩ | ⟨B, o, h5, h6⟩
  · have hb : look σ s = .sl true sz xs := by
      have : getAt (look σ s) [] = some (look σ s) := by cases look σ s <;> rfl
      rw [this] at hg; injection hg
    rw [hb] at hr
    simp only [RepW] at hr
    refine ⟨⟨Os s, hr, fun k hk => hk⟩, ?_⟩
    rintro b l c rfl i hi
    rw [hb]
    simp [adrV, adr, List.getElem?_eq_getElem hi]
  · have r' := repC_of_get (y := .sl true sz xs) hr h5
    obtain ⟨cy, Oy, Ob, q1, q2, q3, q4, q5, q6, _⟩ := placeV p _ r' hg h5
    have hl := repC_len _ q1
    simp only [ncells] at hl
    obtain ⟨v', rfl⟩ := List.length_eq_one_iff.1 hl
    have hc := q2 0 _ rfl
    rw [Nat.add_zero, h6] at hc
    injection hc with hc
    subst hc
    refine ⟨⟨Oy, q1, fun k hk => (q3 k).2 (.inl hk)⟩, ?_⟩
    rintro b l c rfl i hi
    rw [adrV_app p [i] _ hg h5]
    simp [adr, h6, List.getElem?_eq_getElem hi]
end
end Go.Proofs.Ytklmfpikhejemaa.Am
