/- What functions of the program answer, on values without memory (part 2): conditions stand at each theorem. -/
import Derived.Test.YtonljcfflamccaaRows
import Derived.Test.YtonljcfflamccaaLAskAllU1
set_option linter.unusedVariables false
set_option linter.unusedSimpArgs false
set_option maxRecDepth 100000
set_option maxHeartbeats 4000000
namespace Go.Proofs.Ytonljcfflamccaa.U
open Go Go.RowKit Go.Proofs Go.Proofs.Ytonljcfflamccaa.Am AV Go.Proofs.Try
/-! What is read backwards is like a text read backwards. -/
theorem anyU_t {f : Nat → Bool} {n i : Nat} (h : i < n) (hf : f i = true) : anyU f n = true := (anyU_iff f n).2 ⟨i, h, hf⟩
theorem catB_iff (f g : Txt → Bool) (t : Txt) : catB f g t = true ↔ ∃ u v, t = u ++ v ∧ f u = true ∧ g v = true := by
  unfold catB
  rw [anyU_iff]
  constructor
  · rintro ⟨k, _, h⟩
    simp only [Bool.and_eq_true] at h
    exact ⟨t.take k, t.drop k, (List.take_append_drop k t).symm, h.1, h.2⟩
  · rintro ⟨u, v, rfl, h1, h2⟩
    refine ⟨u.length, by simp; omega, ?_⟩
    rw [List.take_left, List.drop_left, h1, h2]; rfl
theorem catB_rev {f g f' g' : Txt → Bool} (hf : ∀ u, f' u.reverse = f u) (hg : ∀ u, g' u.reverse = g u) (t : Txt) : catB g' f' t.reverse = catB f g t := by
  rw [Bool.eq_iff_iff, catB_iff, catB_iff]
  constructor
  · rintro ⟨u, v, h, h1, h2⟩
    refine ⟨v.reverse, u.reverse, ?_, ?_, ?_⟩
    · rw [← List.reverse_append, ← h, List.reverse_reverse]
    · rw [← hf, List.reverse_reverse]; exact h2
    · rw [← hg, List.reverse_reverse]; exact h1
  · rintro ⟨u, v, rfl, h1, h2⟩
    exact ⟨v.reverse, u.reverse, by rw [List.reverse_append], by rw [hg]; exact h2, by rw [hf]; exact h1⟩
theorem starP_rev {f f' : Txt → Bool} (hf : ∀ u, f' u.reverse = f u) {t : Txt} (h : StarP f t) : StarP f' t.reverse := by
  induction h with
  | nil => exact .nil
  | cons u v h1 h2 _ ih =>
    rw [List.reverse_append]
    refine ih.app (StarP.one (by simpa using h1) ?_)
    rw [hf]; exact h2
theorem starB_rev {f f' : Txt → Bool} (hf : ∀ u, f' u.reverse = f u) (t : Txt) : starB f' t.reverse = starB f t := by
  rw [Bool.eq_iff_iff, starB_iff, starB_iff]
  constructor
  · intro h
    have := starP_rev (f := f') (f' := f) (fun u => by rw [← hf, List.reverse_reverse]) h
    rwa [List.reverse_reverse] at this
  · exact starP_rev hf
theorem one_rev (t : Txt) (p : UInt8 → Bool) : (match t.reverse with | [c] => p c | _ => false) = (match t with | [c] => p c | _ => false) := by
  match t with
  | [] => rfl
  | [c] => rfl
  | a :: b :: l =>
    have : ((a :: b :: l).reverse).length = l.length + 2 := by simp
    match (a :: b :: l).reverse, this with
    | x :: y :: z, _ => rfl
theorem turn_kids {r : Rex} (h : r.kind ≠ 3) : turnR r = .mk r.kind r.set (r.kids.map turnR) := by rw [turnR_eq, if_neg h]
theorem kids_0 {r : Rex} (h : r.kids.length = 0) : r.kids = [] := List.eq_nil_of_length_eq_zero h
theorem kids_1 {r : Rex} (h : r.kids.length = 1) : ∃ a, r.kids = [a] := List.length_eq_one_iff.1 h
theorem kids_2 {r : Rex} (h : r.kids.length = 2) : ∃ a b, r.kids = [a, b] := by
  match r.kids, h with
  | [a, b], _ => exact ⟨a, b, rfl⟩
/-- What each kind is. -/
theorem fm_cases {d : Nat} {r : Rex} (h : fm (d + 1) r = true) : (r.kind = 1 ∧ r.kids = []) ∨ (r.kind = 2 ∧ r.kids = []) ∨ (∃ a b, r.kind = 3 ∧ r.kids = [a, b]) ∨ (∃ a b, r.kind = 4 ∧ r.kids = [a, b]) ∨ (∃ a, r.kind = 5 ∧ r.kids = [a]) ∨ (∃ a b, r.kind = 6 ∧ r.kids = [a, b]) ∨ (∃ a, r.kind = 7 ∧ r.kids = [a]) := by
  have h1 := (fm_ok h).1
  unfold kidsN at h1
  split at h1
  · rename_i hk
    have := kids_0 (r := r) (by omega)
    rcases hk with hk | hk
    · exact .inl ⟨hk, this⟩
    · exact .inr (.inl ⟨hk, this⟩)
  · split at h1
    · rename_i hk
      obtain ⟨a, ha⟩ := kids_1 (r := r) (by omega)
      rcases hk with hk | hk
      · exact .inr (.inr (.inr (.inr (.inl ⟨a, hk, ha⟩))))
      · exact .inr (.inr (.inr (.inr (.inr (.inr ⟨a, hk, ha⟩)))))
    · split at h1
      · rename_i hk
        obtain ⟨a, b, ha⟩ := kids_2 (r := r) (by omega)
        rcases hk with hk | hk | hk
        · exact .inr (.inr (.inl ⟨a, b, hk, ha⟩))
        · exact .inr (.inr (.inr (.inl ⟨a, b, hk, ha⟩)))
        · exact .inr (.inr (.inr (.inr (.inr (.inl ⟨a, b, hk, ha⟩)))))
      · omega
theorem mtK_1 (s : List Span) (fs : List (Txt → Bool)) (t : Txt) : mtK 1 s fs t = (match t with | [c] => hasB s c.toNat | _ => false) := rfl
theorem mtK_2 (s : List Span) (fs : List (Txt → Bool)) (t : Txt) : mtK 2 s fs t = decide (t.length = 0) := rfl
theorem mtK_3 (s : List Span) (f g : Txt → Bool) (t : Txt) : mtK 3 s [f, g] t = catB f g t := rfl
theorem mtK_4 (s : List Span) (f g : Txt → Bool) (t : Txt) : mtK 4 s [f, g] t = (f t || g t) := rfl
theorem mtK_5 (s : List Span) (f : Txt → Bool) (t : Txt) : mtK 5 s [f] t = starB f t := rfl
theorem mtK_6 (s : List Span) (f g : Txt → Bool) (t : Txt) : mtK 6 s [f, g] t = (f t && g t) := rfl
theorem mtK_7 (s : List Span) (f : Txt → Bool) (t : Txt) : mtK 7 s [f] t = !f t := rfl
theorem mt_turn : ∀ (d : Nat) (r : Rex), fm d r = true → ∀ t : Txt, mt (turnR r) t.reverse = mt r t
  | 0, r, h, t => by simp [fm] at h
  | d + 1, r, h, t => by
    have hk := (fm_ok h).2.2.2
    rw [turnR_eq, mt_eq, mt_eq r]
    show mtK r.kind r.set (List.map mt (if r.kind = 3 then (r.kids.map turnR).reverse else r.kids.map turnR)) t.reverse = _
    rcases fm_cases h with ⟨k, e⟩ | ⟨k, e⟩ | ⟨a, b, k, e⟩ | ⟨a, b, k, e⟩ | ⟨a, k, e⟩ | ⟨a, b, k, e⟩ | ⟨a, k, e⟩
    · rw [k, e, if_neg (by omega)]
      simp only [mtK_1]
      exact one_rev t _
    · rw [k, e, if_neg (by omega)]
      simp only [mtK_2, List.length_reverse]
    · rw [e] at hk
      have ha := mt_turn d a (hk a (by simp))
      have hb := mt_turn d b (hk b (by simp))
      rw [k, e, if_pos rfl]
      simp only [List.map_cons, List.map_nil, List.reverse_cons, List.reverse_nil, List.nil_append, List.cons_append, mtK_3]
      exact catB_rev ha hb t
    · rw [e] at hk
      have ha := mt_turn d a (hk a (by simp))
      have hb := mt_turn d b (hk b (by simp))
      rw [k, e, if_neg (by omega)]
      simp only [List.map_cons, List.map_nil, mtK_4, ha, hb]
    · rw [e] at hk
      have ha := mt_turn d a (hk a (by simp))
      rw [k, e, if_neg (by omega)]
      simp only [List.map_cons, List.map_nil, mtK_5]
      exact starB_rev ha t
    · rw [e] at hk
      have ha := mt_turn d a (hk a (by simp))
      have hb := mt_turn d b (hk b (by simp))
      rw [k, e, if_neg (by omega)]
      simp only [List.map_cons, List.map_nil, mtK_6, ha, hb]
    · rw [e] at hk
      have ha := mt_turn d a (hk a (by simp))
      rw [k, e, if_neg (by omega)]
      simp only [List.map_cons, List.map_nil, mtK_7, ha]
theorem turn_turn (r : Rex) : turnR (turnR r) = r := by
  induction r using Rex.ind' with
  | h r ih =>
    have e : (r.kids.map turnR).map turnR = r.kids := by
      rw [List.map_map]
      conv => rhs; rw [← List.map_id r.kids]
      exact List.map_congr_left ih
    rw [turnR_eq, turnR_eq r]
    show Rex.mk r.kind r.set (if r.kind = 3 then ((if r.kind = 3 then (r.kids.map turnR).reverse else r.kids.map turnR).map turnR).reverse else (if r.kind = 3 then (r.kids.map turnR).reverse else r.kids.map turnR).map turnR) = r
    by_cases h : r.kind = 3
    · rw [if_pos h, if_pos h, List.map_reverse, List.reverse_reverse, e, Rex.eta]
    · rw [if_neg h, if_neg h, e, Rex.eta]
theorem all_rev {α : Type} (l : List α) (p : α → Bool) : l.reverse.all p = l.all p := by
  rw [Bool.eq_iff_iff]; simp
theorem fm_turn : ∀ (d : Nat) (r : Rex), fm d (turnR r) = fm d r
  | 0, r => rfl
  | d + 1, r => by
    have e : ∀ l : List Rex, (l.map turnR).all (fm d) = l.all (fm d) := by
      intro l
      induction l with
      | nil => rfl
      | cons x l ih => simp only [List.map_cons, List.all_cons, ih, fm_turn d x]
    rw [turnR_eq]
    show (decide (kidsN r.kind = (if r.kind = 3 then (r.kids.map turnR).reverse else r.kids.map turnR).length) && (decide (r.kind = 1 ∨ r.set.length = 0) && (setB r.set && (if r.kind = 3 then (r.kids.map turnR).reverse else r.kids.map turnR).all (fm d)))) = (decide (kidsN r.kind = r.kids.length) && (decide (r.kind = 1 ∨ r.set.length = 0) && (setB r.set && r.kids.all (fm d))))
    by_cases h : r.kind = 3
    · rw [if_pos h, all_rev, List.length_reverse, List.length_map, e]
    · rw [if_neg h, List.length_map, e]
theorem ps_turn (r : Rex) : ps (turnR r) = ps r := by
  induction r using Rex.ind' with
  | h r ih =>
    have e : (r.kids.map turnR).map ps = r.kids.map ps := by rw [List.map_map]; exact List.map_congr_left ih
    rw [turnR_eq, ps_eq, ps_eq r]
    show 1 + ((if r.kind = 3 then (r.kids.map turnR).reverse else r.kids.map turnR).map ps).sum = _
    by_cases h : r.kind = 3
    · rw [if_pos h, List.map_reverse, List.sum_reverse, e]
    · rw [if_neg h, e]
theorem rexB_turn (r : Rex) : rexB (turnR r) = rexB r := by unfold rexB; rw [fm_turn, ps_turn]
/-- Whether the empty text is like it. -/
def nulB (r : Rex) : Bool := rexB r && mt r []
theorem nulB_turn (r : Rex) : nulB (turnR r) = nulB r := by
  unfold nulB
  rw [rexB_turn]
  cases h : rexB r with
  | false => rfl
  | true =>
    have := mt_turn 8 r (rexB_fm h) []
    rw [List.reverse_nil] at this
    rw [this]
/-! The reader of a code. -/
def eRd (b : List UInt8) (p : Nat) : AV := .agg [.sl false 1 (bytesA b), .int .i64 p]
theorem xor_nn {x y : Nat} (hx : x < 4611686018427387904) (hy : y < 4611686018427387904) : IntKind.wrap .i64 ((BitVec.ofInt (IntKind.bits .i64) (x : Int) ^^^ BitVec.ofInt (IntKind.bits .i64) (y : Int)).toNat) = ((x ^^^ y : Nat) : Int) ∧ x ^^^ y < 4611686018427387904 := by
  have hx' : x < 2 ^ 62 := by omega
  have hy' : y < 2 ^ 62 := by omega
  have h := Nat.xor_lt_two_pow hx' hy'
  have e : (BitVec.ofInt (IntKind.bits .i64) (x : Int) ^^^ BitVec.ofInt (IntKind.bits .i64) (y : Int)).toNat = x ^^^ y := by
    show (BitVec.ofInt 64 (x : Int) ^^^ BitVec.ofInt 64 (y : Int)).toNat = x ^^^ y
    rw [BitVec.toNat_xor, BitVec.toNat_ofInt, BitVec.toNat_ofInt]
    congr 1 <;> omega
  rw [e]
  exact ⟨wrap_i64 (by omega) (by omega), by omega⟩
theorem tmod_nn (a n : Nat) : Int.tmod (a : Int) n = ((a % n : Nat) : Int) := by
  rw [Int.tmod_eq_emod_of_nonneg (by omega)]; rfl
theorem tdiv_nn (a n : Nat) : Int.tdiv (a : Int) n = ((a / n : Nat) : Int) := by
  rw [Int.tdiv_eq_ediv_of_nonneg (by omega)]; rfl
theorem bytes_getD (b : List UInt8) (i : Nat) (h : i < b.length) : (bytesA b).getD i .undef = .int .u8 b[i].toNat := by
  have := get_bytesA b i h
  simp [List.getD, this]
/-- What pick tells. -/
def mixV (b : List UInt8) (p : Nat) : Nat := (b.getD (p % b.length) 0).toNat * 131 + (b.getD ((p * 7 + 3) % b.length) 0).toNat * 1117 + p * 29 + p / b.length * 53
def pickV (b : List UInt8) (p n : Nat) : Nat :=
  if b.length = 0 then 0 else if p < b.length then (b.getD p 0).toNat % n else (mixV b p ^^^ mixV b p / 64) % n
theorem pickV_lt (b : List UInt8) (p : Nat) {n : Nat} (hn : 0 < n) : pickV b p n < n := by
  unfold pickV
  split
  · exact hn
  · split <;> exact Nat.mod_lt _ hn
theorem getD_of (b : List UInt8) (i : Nat) (h : i < b.length) : b.getD i 0 = b[i] := by simp [List.getD, h]
/-- pick -/
theorem fits_pick (b : List UInt8) (hb : b.length ≤ 2000) (p : Nat) (hp : p ≤ 1048576) (n : Nat) (hn : 0 < n) (hn2 : n ≤ 1048576) : Fits prog 75 [.box (eRd b p), .int .i64 n] (.int .i64 (pickV b p n)) [.box (eRd b (p + 1))] := by
  have c0 : ¬ ((n : Int) = 0) := by omega
  unfold eRd pickV
  by_cases h0 : b.length = 0
  · obtain rfl := List.eq_nil_of_length_eq_zero h0
    refine fits_of_code [4] [0] [0, 1, 4, 5, 6, 24, 36] func75 rfl rfl rfl (by rfl) (by show 2 ≤ 99; decide) (by rfl) (by rfl) (by show 1 ≤ 2; decide) (by rfl) (run_of ?_)
    simp -implicitDefEqProofs (maxSteps := 100000) (disch := first | (intros; contradiction) | omega) only [am0, am1, am2, am3, am4, am5, am6, am7, am8, am9, Nat.reduceSub, ↓reduceIte, reduceCtorEq, Nat.reduceEqDiff, Nat.reduceBEq, Nat.reduceAdd, Nat.reduceLT, Nat.reduceBNe, Nat.reduceMul, ↓reduceIte, tis, fls]
  rw [if_neg h0]
  have e0 : (p : Int) + 1 - 1 = p := by omega
  by_cases h1 : p < b.length
  · rw [if_pos h1]
    have g0 := bytes_getD b p h1
    rw [getD_of b p h1]
    have hk := tmod_nn b[p].toNat n
    have hbl := b[p].toNat_lt
    refine fits_of_code [4] [0] [0, 1, 4, 5, 6, 24, 36] func75 rfl rfl rfl (by rfl) (by show 2 ≤ 99; decide) (by rfl) (by rfl) (by show 1 ≤ 2; decide) (by rfl) (run_of ?_)
    simp -implicitDefEqProofs (maxSteps := 100000) (disch := first | (intros; contradiction) | omega) only [am0, am1, am2, am3, am4, am5, am6, am7, am8, am9, Nat.reduceSub, ↓reduceIte, reduceCtorEq, Nat.reduceEqDiff, Nat.reduceBEq, Nat.reduceAdd, Nat.reduceLT, Nat.reduceBNe, Nat.reduceMul, ↓reduceIte, tis, fls, e0, g0, hk, c0]
  · rw [if_neg h1]
    have k1 := tmod_nn p b.length
    have k2 : Int.tmod ((p : Int) * 7 + 3) b.length = (((p * 7 + 3) % b.length : Nat) : Int) := tmod_nn (p * 7 + 3) b.length
    have l1 : p % b.length < b.length := Nat.mod_lt _ (by omega)
    have l2 : (p * 7 + 3) % b.length < b.length := Nat.mod_lt _ (by omega)
    have kq := tdiv_nn p b.length
    have lq : p / b.length ≤ p := Nat.div_le_self _ _
    have hM : mixV b p = (b[p % b.length]).toNat * 131 + (b[(p * 7 + 3) % b.length]).toNat * 1117 + p * 29 + p / b.length * 53 := by unfold mixV; rw [getD_of b _ l1, getD_of b _ l2]
    generalize p % b.length = j1 at *
    generalize (p * 7 + 3) % b.length = j2 at *
    generalize p / b.length = q at *
    have g1 := bytes_getD b j1 l1
    have g2 := bytes_getD b j2 l2
    have hb1 := b[j1].toNat_lt
    have hb2 := b[j2].toNat_lt
    have hX : (b[j1].toNat : Int) * 131 + (b[j2].toNat : Int) * 1117 + (p : Int) * 29 + (q : Int) * 53 = (mixV b p : Nat) := by omega
    have hX2 : mixV b p < 4294967296 := by omega
    generalize mixV b p = X at *
    have hY : Int.tdiv (X : Int) 64 = ((X / 64 : Nat) : Int) := tdiv_nn X 64
    have lY : X / 64 ≤ X := Nat.div_le_self _ _
    generalize X / 64 = Y at *
    obtain ⟨hZ, hZ2⟩ := xor_nn (x := X) (y := Y) (by omega) (by omega)
    have hk := tmod_nn (X ^^^ Y) n
    generalize X ^^^ Y = Z at *
    have hkl : Z % n < n := Nat.mod_lt _ hn
    generalize Z % n = k at *
    have c1 : ¬ ((64 : Int) = 0) := by omega
    have c2 : ¬ ((b.length : Int) = 0) := by omega
    refine fits_of_code [4] [0] [0, 1, 4, 5, 6, 24, 36] func75 rfl rfl rfl (by rfl) (by show 2 ≤ 99; decide) (by rfl) (by rfl) (by show 1 ≤ 2; decide) (by rfl) (run_of ?_)
    simp -implicitDefEqProofs (maxSteps := 100000) (disch := first | (intros; contradiction) | omega) only [am0, am1, am2, am3, am4, am5, am6, am7, am8, am9, Nat.reduceSub, ↓reduceIte, reduceCtorEq, Nat.reduceEqDiff, Nat.reduceBEq, Nat.reduceAdd, Nat.reduceLT, Nat.reduceBNe, Nat.reduceMul, ↓reduceIte, tis, fls, e0]
    refine .inl ⟨by kernel_rfl, ?_⟩
    simp -implicitDefEqProofs (maxSteps := 100000) (disch := first | (intros; contradiction) | omega) only [am0, am1, am2, am3, am4, am5, am6, am7, am8, am9, Nat.reduceSub, ↓reduceIte, reduceCtorEq, Nat.reduceEqDiff, Nat.reduceBEq, Nat.reduceAdd, Nat.reduceLT, Nat.reduceBNe, Nat.reduceMul, ↓reduceIte, tis, fls, e0, k1, k2, kq, g1, g2, hX, hY, hZ, hk, c0, c1, c2]
def numV (b : List UInt8) (p : Nat) (l : List Int) : Int := l.getD (pickV b p l.length) 0
def ofV (b : List UInt8) (p : Nat) (l : List (List UInt8)) : List UInt8 := l.getD (pickV b p l.length) []
theorem numV_mem (b : List UInt8) (p : Nat) {l : List Int} (hl : 0 < l.length) : numV b p l ∈ l := by
  have := pickV_lt b p hl
  unfold numV
  simp [List.getD, this]
theorem ofV_mem (b : List UInt8) (p : Nat) {l : List (List UInt8)} (hl : 0 < l.length) : ofV b p l ∈ l := by
  have := pickV_lt b p hl
  unfold ofV
  simp [List.getD, this]
/-- num -/
theorem fits_num (b : List UInt8) (hb : b.length ≤ 2000) (p : Nat) (hp : p ≤ 1048576) (l : List Int) (hl : 0 < l.length) (hl2 : l.length ≤ 1048576) : Fits prog 71 [.box (eRd b p), .sl false 1 (l.map eInt)] (.int .i64 (numV b p l)) [.box (eRd b (p + 1))] := by
  have cP := fits_pick b hb p hp l.length hl hl2
  have hk := pickV_lt b p hl
  have e : numV b p l = l[pickV b p l.length] := by unfold numV; simp [List.getD, hk]
  rw [e]
  generalize pickV b p l.length = k at *
  unfold eRd at *
  refine fits_of_code [4] [0] [0, 1, 4] func71 rfl rfl rfl (by rfl) (by show 2 ≤ 12; decide) (by rfl) (by rfl) (by show 1 ≤ 2; decide) (by rfl) (run_of ?_)
  simp -implicitDefEqProofs (maxSteps := 100000) (disch := first | (intros; contradiction) | omega) only [am0, am1, am2, am3, am4, am5, am6, am7, am8, am9, Nat.reduceSub, ↓reduceIte, reduceCtorEq, Nat.reduceEqDiff, Nat.reduceBEq, Nat.reduceAdd, Nat.reduceLT, Nat.reduceBNe, Nat.reduceMul, ↓reduceIte, tis, fls]
  refine callM 0 cP ?_
  simp -implicitDefEqProofs (maxSteps := 100000) (disch := first | (intros; contradiction) | omega) only [am0, am1, am2, am3, am4, am5, am6, am7, am8, am9, Nat.reduceSub, ↓reduceIte, reduceCtorEq, Nat.reduceEqDiff, Nat.reduceBEq, Nat.reduceAdd, Nat.reduceLT, Nat.reduceBNe, Nat.reduceMul, ↓reduceIte, tis, fls, List.dropLast_singleton, eInt]
/-- of -/
theorem fits_of (b : List UInt8) (hb : b.length ≤ 2000) (p : Nat) (hp : p ≤ 1048576) (l : List (List UInt8)) (hl : 0 < l.length) (hl2 : l.length ≤ 1048576) : Fits prog 70 [.box (eRd b p), .sl false 1 (l.map eStr)] (.str (ofV b p l)) [.box (eRd b (p + 1))] := by
  have cP := fits_pick b hb p hp l.length hl hl2
  have hk := pickV_lt b p hl
  have e : ofV b p l = l[pickV b p l.length] := by unfold ofV; simp [List.getD, hk]
  rw [e]
  generalize pickV b p l.length = k at *
  unfold eRd at *
  refine fits_of_code [4] [0] [0, 1, 4] func70 rfl rfl rfl (by rfl) (by show 2 ≤ 12; decide) (by rfl) (by rfl) (by show 1 ≤ 2; decide) (by rfl) (run_of ?_)
  simp -implicitDefEqProofs (maxSteps := 100000) (disch := first | (intros; contradiction) | omega) only [am0, am1, am2, am3, am4, am5, am6, am7, am8, am9, Nat.reduceSub, ↓reduceIte, reduceCtorEq, Nat.reduceEqDiff, Nat.reduceBEq, Nat.reduceAdd, Nat.reduceLT, Nat.reduceBNe, Nat.reduceMul, ↓reduceIte, tis, fls]
  refine callM 0 cP ?_
  simp -implicitDefEqProofs (maxSteps := 100000) (disch := first | (intros; contradiction) | omega) only [am0, am1, am2, am3, am4, am5, am6, am7, am8, am9, Nat.reduceSub, ↓reduceIte, reduceCtorEq, Nat.reduceEqDiff, Nat.reduceBEq, Nat.reduceAdd, Nat.reduceLT, Nat.reduceBNe, Nat.reduceMul, ↓reduceIte, tis, fls, List.dropLast_singleton, eStr]
/-- l15Open -/
theorem fits_open (c : List UInt8) (hc : c.length ≤ 9223372036854775807) : Fits prog 68 [.sl false 1 (bytesA c)] (.box (eRd (c.take 2000) 0)) [] := by
  unfold eRd
  by_cases h : (2000 : Int) < c.length
  · refine fits_of_code [2] [] [0, 2, 5] func68 rfl rfl rfl (by rfl) (by show 1 ≤ 11; decide) (by rfl) (by rfl) (by show 0 ≤ 1; decide) (by rfl) (run_of ?_)
    simp -implicitDefEqProofs (maxSteps := 100000) (disch := first | (intros; contradiction) | omega) only [am0, am1, am2, am3, am4, am5, am6, am7, am8, am9, Nat.reduceSub, ↓reduceIte, reduceCtorEq, Nat.reduceEqDiff, Nat.reduceBEq, Nat.reduceAdd, Nat.reduceLT, Nat.reduceBNe, Nat.reduceMul, ↓reduceIte, tis, fls, h]
    exact .inl (by unfold bytesA; rw [show Int.toNat 2000 = 2000 from rfl, List.map_take])
  · have e : c.take 2000 = c := List.take_of_length_le (by omega)
    rw [e]
    refine fits_of_code [2] [] [0, 2, 5] func68 rfl rfl rfl (by rfl) (by show 1 ≤ 11; decide) (by rfl) (by rfl) (by show 0 ≤ 1; decide) (by rfl) (run_of ?_)
    simp -implicitDefEqProofs (maxSteps := 100000) (disch := first | (intros; contradiction) | omega) only [am0, am1, am2, am3, am4, am5, am6, am7, am8, am9, Nat.reduceSub, ↓reduceIte, reduceCtorEq, Nat.reduceEqDiff, Nat.reduceBEq, Nat.reduceAdd, Nat.reduceLT, Nat.reduceBNe, Nat.reduceMul, ↓reduceIte, tis, fls, h]
/-- One byte more. -/
def spStep (bs : List Bool) (o : List Span) (b : Nat) : List Span :=
  if bs.getD b false = true then (if 0 < b ∧ bs.getD (b - 1) false = true then o.set (o.length - 1) ⟨(o.getD (o.length - 1) default).lo, b⟩ else o ++ [⟨b, b⟩]) else o
def spN (bs : List Bool) : Nat → List Span
  | 0 => []
  | b + 1 => spStep bs (spN bs b) b
def spansL (bs : List Bool) : List Span := spN bs 256
theorem spN_len (bs : List Bool) : ∀ b, (spN bs b).length ≤ b
  | 0 => by simp [spN]
  | b + 1 => by
    have := spN_len bs b
    simp only [spN, spStep]
    split
    · split
      · simp; omega
      · simp; omega
    · omega
/-- The last of the spans. -/
theorem spN_last (bs : List Bool) : ∀ b, (∀ x, (spN bs b)[(spN bs b).length - 1]? = some x → x.hi < b) ∧ ((0 < b ∧ bs.getD (b - 1) false = true) ↔ ∃ x, (spN bs b)[(spN bs b).length - 1]? = some x ∧ x.hi = (b : Int) - 1)
  | 0 => by simp [spN]
  | b + 1 => by
    obtain ⟨h1, h2⟩ := spN_last bs b
    simp only [spN, spStep]
    generalize spN bs b = o at *
    by_cases hb : bs.getD b false = true
    · rw [if_pos hb]
      have fin : ∀ x : Span, x.hi = b → ∀ q : List Span, q[q.length - 1]? = some x → (∀ y, q[q.length - 1]? = some y → y.hi < ((b + 1 : Nat) : Int)) ∧ ((0 < b + 1 ∧ bs.getD (b + 1 - 1) false = true) ↔ ∃ y, q[q.length - 1]? = some y ∧ y.hi = ((b + 1 : Nat) : Int) - 1) := by
        intro x hx q hq
        rw [hq]
        refine ⟨?_, fun _ => ⟨x, rfl, by omega⟩, fun _ => ⟨by omega, by simpa using hb⟩⟩
        rintro y ⟨⟩
        omega
      by_cases hp : 0 < b ∧ bs.getD (b - 1) false = true
      · rw [if_pos hp]
        obtain ⟨x, hx, _⟩ := h2.1 hp
        have := (List.getElem?_eq_some_iff.1 hx).1
        exact fin ⟨(o.getD (o.length - 1) default).lo, b⟩ rfl _ (by simp [this])
      · rw [if_neg hp]
        exact fin ⟨b, b⟩ rfl _ (by simp)
    · rw [if_neg hb]
      refine ⟨fun x h => by have := h1 x h; omega, fun h => ?_, fun ⟨x, h, e⟩ => ?_⟩
      · exact absurd (by simpa using h.2) hb
      · have := h1 x h; omega
theorem spN_hi {bs : List Bool} {b : Nat} (ho : 0 < (spN bs b).length) : ((spN bs b)[(spN bs b).length - 1]'(by omega)).hi = (b : Int) - 1 ↔ (0 < b ∧ bs.getD (b - 1) false = true) := by
  rw [(spN_last bs b).2]
  have : (spN bs b).length - 1 < (spN bs b).length := by omega
  rw [List.getElem?_eq_getElem this]
  constructor
  · intro h; exact ⟨_, rfl, h⟩
  · rintro ⟨x, ⟨⟩, h⟩; exact h
theorem spN_pos {bs : List Bool} {b : Nat} (h : 0 < b ∧ bs.getD (b - 1) false = true) : 0 < (spN bs b).length := by
  obtain ⟨x, h, _⟩ := (spN_last bs b).2.1 h
  have := (List.getElem?_eq_some_iff.1 h).1
  omega
theorem spStep_0 {bs : List Bool} {o : List Span} {b : Nat} (h : b < bs.length) (hb : bs[b] = false) : spStep bs o b = o := by
  unfold spStep; rw [if_neg (by simp [h, hb])]
theorem spStep_1 {bs : List Bool} {o : List Span} {b : Nat} (h : b < bs.length) (hb : bs[b] = true) (h0 : 0 < b) (h1 : bs[b - 1]'(by omega) = true) (ho : 0 < o.length) : spStep bs o b = o.set (o.length - 1) ⟨o[o.length - 1].lo, b⟩ := by
  have : b - 1 < bs.length := by omega
  unfold spStep; rw [if_pos (by simp [h, hb]), if_pos ⟨h0, by simp [this, h1]⟩]
  have h2 : o.length - 1 < o.length := by omega
  simp [h2]
theorem spStep_2 {bs : List Bool} {o : List Span} {b : Nat} (h : b < bs.length) (hb : bs[b] = true) (h1 : b = 0 ∨ ∃ h0 : 0 < b, bs[b - 1]'(by omega) = false) : spStep bs o b = o ++ [⟨b, b⟩] := by
  unfold spStep; rw [if_pos (by simp [h, hb]), if_neg]
  rintro ⟨h2, h3⟩
  rcases h1 with rfl | ⟨_, h1⟩
  · omega
  · have : b - 1 < bs.length := by omega
    simp [this, h1] at h3
theorem setSpan (o : List Span) (i : Nat) (x : Span) : (o.map eSpan).set i (eSpan x) = (o.set i x).map eSpan := by rw [List.map_set]
/-- impl.spans -/
theorem fits_spans (bs : List Bool) (hl : bs.length = 256) : Fits prog 150 [.arr 1 (bs.map eBool)] (.sl true 2 ((spansL bs).map eSpan)) [] := by
  have hL := spN_len bs
  have cC := fits_copiedSpan (spansL bs) (Nat.le_trans (hL 256) (by omega))
  have bl : ∀ x, x ∈ List.map eBool bs → false = x.isAgg ∧ x.stor = true := by
    intro x hx; obtain ⟨y, _, rfl⟩ := List.mem_map.1 hx; exact ⟨rfl, rfl⟩
  refine fits_of_code [2] [] [0, 1, 2, 3, 4, 5, 6, 7, 8, 17, 20] func150 rfl rfl rfl (by rfl) (by show 1 ≤ 39; decide) (by rfl) (by rfl) (by show 0 ≤ 1; decide) (by rfl) (run_of ?_)
  simp -implicitDefEqProofs (maxSteps := 100000) (disch := first | (intros; contradiction) | omega) only [am0, am1, am2, am3, am4, am5, am6, am7, am8, am9, Nat.reduceSub, ↓reduceIte, reduceCtorEq, Nat.reduceEqDiff, Nat.reduceBEq, Nat.reduceAdd, Nat.reduceLT, Nat.reduceBNe, Nat.reduceMul, ↓reduceIte, tis, fls, hl]
  refine run_loop (α := Nat) (fun i => i ≤ 256) (fun i => [(1, .box (.arr 1 (bs.map eBool))), (3, .sl true 2 ((spN bs i).map eSpan)), (6, .arr 1 (bs.map eBool)), (7, .int .i64 i)]) (fun i => 256 - i) 0 (Nat.zero_le _) ?_ ?_
  · simp -implicitDefEqProofs (maxSteps := 100000) (disch := first | (intros; contradiction) | omega) only [am0, am1, am2, am3, am4, am5, am6, am7, am8, am9, Nat.reduceSub, ↓reduceIte, reduceCtorEq, Nat.reduceEqDiff, Nat.reduceBEq, Nat.reduceAdd, Nat.reduceLT, Nat.reduceBNe, Nat.reduceMul, ↓reduceIte, tis, spN]
  · intro i hi'
    by_cases hi : i < 256
    · have hL := hL i
      have hib : i < bs.length := by omega
      cases hb : bs[i] with
      | false =>
        simp -implicitDefEqProofs (maxSteps := 100000) (disch := first | (intros; contradiction) | omega) only [am0, am1, am2, am3, am4, am5, am6, am7, am8, am9, Nat.reduceSub, ↓reduceIte, reduceCtorEq, Nat.reduceEqDiff, Nat.reduceBEq, Nat.reduceAdd, Nat.reduceLT, Nat.reduceBNe, Nat.reduceMul, ↓reduceIte, tis, fls, hl, eBool, hb]
        refine ⟨bl, ?_⟩
        refine round_normal (i + 1) (by omega) (by simp -implicitDefEqProofs (maxSteps := 100000) (disch := first | (intros; contradiction) | omega) only [am0, am1, am2, am3, am4, am5, am6, am7, am8, am9, Nat.reduceSub, ↓reduceIte, reduceCtorEq, Nat.reduceEqDiff, Nat.reduceBEq, Nat.reduceAdd, Nat.reduceLT, Nat.reduceBNe, Nat.reduceMul, ↓reduceIte, tis, spN, spStep_0 hib hb]) (by show 256 - (i + 1) < 256 - i; omega)
      | true =>
        by_cases h0 : 0 < i
        · have hib1 : i - 1 < bs.length := by omega
          have ei : ((i : Int) - 1).toNat = i - 1 := by omega
          cases h1 : bs[i - 1] with
          | true =>
            have ho := spN_pos (bs := bs) ⟨h0, by simp [hib1, h1]⟩
            have eo : (((spN bs i).length : Int) - 1).toNat = (spN bs i).length - 1 := by omega
            have es := setSpan (spN bs i) ((spN bs i).length - 1) ⟨(spN bs i)[(spN bs i).length - 1].lo, i⟩
            have e := spStep_1 (o := spN bs i) hib hb h0 h1 ho
            simp only [eSpan] at es
            simp -implicitDefEqProofs (maxSteps := 100000) (disch := first | (intros; contradiction) | omega) only [am0, am1, am2, am3, am4, am5, am6, am7, am8, am9, Nat.reduceSub, ↓reduceIte, reduceCtorEq, Nat.reduceEqDiff, Nat.reduceBEq, Nat.reduceAdd, Nat.reduceLT, Nat.reduceBNe, Nat.reduceMul, ↓reduceIte, tis, fls, hl, eBool, hb, ei, h1, eo, eSpan, es]
            refine ⟨bl, ?_⟩
            refine round_normal (i + 1) (by omega) (by simp -implicitDefEqProofs (maxSteps := 100000) (disch := first | (intros; contradiction) | omega) only [am0, am1, am2, am3, am4, am5, am6, am7, am8, am9, Nat.reduceSub, ↓reduceIte, reduceCtorEq, Nat.reduceEqDiff, Nat.reduceBEq, Nat.reduceAdd, Nat.reduceLT, Nat.reduceBNe, Nat.reduceMul, ↓reduceIte, tis, spN, e]) (by show 256 - (i + 1) < 256 - i; omega)
          | false =>
            have e := spStep_2 (o := spN bs i) hib hb (.inr ⟨h0, h1⟩)
            simp -implicitDefEqProofs (maxSteps := 100000) (disch := first | (intros; contradiction) | omega) only [am0, am1, am2, am3, am4, am5, am6, am7, am8, am9, Nat.reduceSub, ↓reduceIte, reduceCtorEq, Nat.reduceEqDiff, Nat.reduceBEq, Nat.reduceAdd, Nat.reduceLT, Nat.reduceBNe, Nat.reduceMul, ↓reduceIte, tis, fls, hl, eBool, hb, ei, h1]
            refine ⟨bl, ?_⟩
            refine round_normal (i + 1) (by omega) (by simp -implicitDefEqProofs (maxSteps := 100000) (disch := first | (intros; contradiction) | omega) only [am0, am1, am2, am3, am4, am5, am6, am7, am8, am9, Nat.reduceSub, ↓reduceIte, reduceCtorEq, Nat.reduceEqDiff, Nat.reduceBEq, Nat.reduceAdd, Nat.reduceLT, Nat.reduceBNe, Nat.reduceMul, ↓reduceIte, tis, spN, e, eSpan, List.map_append, List.map_cons, List.map_nil]) (by show 256 - (i + 1) < 256 - i; omega)
        · have e := spStep_2 (o := spN bs i) hib hb (.inl (by omega))
          simp -implicitDefEqProofs (maxSteps := 100000) (disch := first | (intros; contradiction) | omega) only [am0, am1, am2, am3, am4, am5, am6, am7, am8, am9, Nat.reduceSub, ↓reduceIte, reduceCtorEq, Nat.reduceEqDiff, Nat.reduceBEq, Nat.reduceAdd, Nat.reduceLT, Nat.reduceBNe, Nat.reduceMul, ↓reduceIte, tis, fls, hl, eBool, hb]
          refine ⟨bl, ?_⟩
          refine round_normal (i + 1) (by omega) (by simp -implicitDefEqProofs (maxSteps := 100000) (disch := first | (intros; contradiction) | omega) only [am0, am1, am2, am3, am4, am5, am6, am7, am8, am9, Nat.reduceSub, ↓reduceIte, reduceCtorEq, Nat.reduceEqDiff, Nat.reduceBEq, Nat.reduceAdd, Nat.reduceLT, Nat.reduceBNe, Nat.reduceMul, ↓reduceIte, tis, spN, e, eSpan, List.map_append, List.map_cons, List.map_nil]) (by show 256 - (i + 1) < 256 - i; omega)
    · obtain rfl : i = 256 := by omega
      simp -implicitDefEqProofs (maxSteps := 100000) (disch := first | (intros; contradiction) | omega) only [am0, am1, am2, am3, am4, am5, am6, am7, am8, am9, Nat.reduceSub, ↓reduceIte, reduceCtorEq, Nat.reduceEqDiff, Nat.reduceBEq, Nat.reduceAdd, Nat.reduceLT, Nat.reduceBNe, Nat.reduceMul, ↓reduceIte, tis, fls]
      refine callB cC ?_
      simp -implicitDefEqProofs (maxSteps := 100000) (disch := first | (intros; contradiction) | omega) only [am0, am1, am2, am3, am4, am5, am6, am7, am8, am9, Nat.reduceSub, ↓reduceIte, reduceCtorEq, Nat.reduceEqDiff, Nat.reduceBEq, Nat.reduceAdd, Nat.reduceLT, Nat.reduceBNe, Nat.reduceMul, ↓reduceIte, tis, fls, spansL]
/-- spec.l1Of -/
theorem fits_l1Of (bs : List Bool) (hl : bs.length = 256) : Fits prog 164 [.sl false 1 (bs.map eBool)] (.sl true 2 ((spansL bs).map eSpan)) [] := by
  refine fits_of_code [2] [] [0, 2, 3, 4, 7, 14, 29] func164 rfl rfl rfl (by rfl) (by show 1 ≤ 44; decide) (by rfl) (by rfl) (by show 0 ≤ 1; decide) (by rfl) (run_of ?_)
  simp -implicitDefEqProofs (maxSteps := 100000) (disch := first | (intros; contradiction) | omega) only [am0, am1, am2, am3, am4, am5, am6, am7, am8, am9, Nat.reduceSub, ↓reduceIte, reduceCtorEq, Nat.reduceEqDiff, Nat.reduceBEq, Nat.reduceAdd, Nat.reduceLT, Nat.reduceBNe, Nat.reduceMul, ↓reduceIte, tis, fls]
  refine run_loop (α := Nat) (fun i => i ≤ 256) (fun i => [(0, .sl false 1 (bs.map eBool)), (3, .sl true 2 ((spN bs i).map eSpan)), (4, .int .i64 i)]) (fun i => 256 - i) 0 (Nat.zero_le _) ?_ ?_
  · simp -implicitDefEqProofs (maxSteps := 100000) (disch := first | (intros; contradiction) | omega) only [am0, am1, am2, am3, am4, am5, am6, am7, am8, am9, Nat.reduceSub, ↓reduceIte, reduceCtorEq, Nat.reduceEqDiff, Nat.reduceBEq, Nat.reduceAdd, Nat.reduceLT, Nat.reduceBNe, Nat.reduceMul, ↓reduceIte, tis, spN]
  · intro i hi'
    by_cases hi : i < 256
    · have hL := spN_len bs i
      have hib : i < bs.length := by omega
      cases hb : bs[i] with
      | false =>
        simp -implicitDefEqProofs (maxSteps := 100000) (disch := first | (intros; contradiction) | omega) only [am0, am1, am2, am3, am4, am5, am6, am7, am8, am9, Nat.reduceSub, ↓reduceIte, reduceCtorEq, Nat.reduceEqDiff, Nat.reduceBEq, Nat.reduceAdd, Nat.reduceLT, Nat.reduceBNe, Nat.reduceMul, ↓reduceIte, tis, fls, hl, eBool, hb]
        refine round_normal (i + 1) (by omega) (by simp -implicitDefEqProofs (maxSteps := 100000) (disch := first | (intros; contradiction) | omega) only [am0, am1, am2, am3, am4, am5, am6, am7, am8, am9, Nat.reduceSub, ↓reduceIte, reduceCtorEq, Nat.reduceEqDiff, Nat.reduceBEq, Nat.reduceAdd, Nat.reduceLT, Nat.reduceBNe, Nat.reduceMul, ↓reduceIte, tis, spN, spStep_0 hib hb]) (by show 256 - (i + 1) < 256 - i; omega)
      | true =>
        by_cases h1 : 0 < i ∧ bs.getD (i - 1) false = true
        · have ho := spN_pos h1
          have h2 := (spN_hi ho).2 h1
          have hib1 : i - 1 < bs.length := by omega
          have eo : (((spN bs i).length : Int) - 1).toNat = (spN bs i).length - 1 := by omega
          have es := setSpan (spN bs i) ((spN bs i).length - 1) ⟨(spN bs i)[(spN bs i).length - 1].lo, i⟩
          have e := spStep_1 (o := spN bs i) hib hb h1.1 (by simpa [hib1] using h1.2) ho
          simp only [eSpan] at es
          simp -implicitDefEqProofs (maxSteps := 100000) (disch := first | (intros; contradiction) | omega) only [am0, am1, am2, am3, am4, am5, am6, am7, am8, am9, Nat.reduceSub, ↓reduceIte, reduceCtorEq, Nat.reduceEqDiff, Nat.reduceBEq, Nat.reduceAdd, Nat.reduceLT, Nat.reduceBNe, Nat.reduceMul, ↓reduceIte, tis, fls, hl, eBool, hb, eo, eSpan, es, h2]
          refine round_normal (i + 1) (by omega) (by simp -implicitDefEqProofs (maxSteps := 100000) (disch := first | (intros; contradiction) | omega) only [am0, am1, am2, am3, am4, am5, am6, am7, am8, am9, Nat.reduceSub, ↓reduceIte, reduceCtorEq, Nat.reduceEqDiff, Nat.reduceBEq, Nat.reduceAdd, Nat.reduceLT, Nat.reduceBNe, Nat.reduceMul, ↓reduceIte, tis, spN, e]) (by show 256 - (i + 1) < 256 - i; omega)
        · have e : spStep bs (spN bs i) i = spN bs i ++ [⟨i, i⟩] := by
            unfold spStep; rw [if_pos (by simp [hib, hb]), if_neg h1]
          by_cases ho : 0 < (spN bs i).length
          · have eo : (((spN bs i).length : Int) - 1).toNat = (spN bs i).length - 1 := by omega
            have h2 : ¬ ((spN bs i)[(spN bs i).length - 1]'(by omega)).hi = (i : Int) - 1 := fun h => h1 ((spN_hi ho).1 h)
            simp -implicitDefEqProofs (maxSteps := 100000) (disch := first | (intros; contradiction) | omega) only [am0, am1, am2, am3, am4, am5, am6, am7, am8, am9, Nat.reduceSub, ↓reduceIte, reduceCtorEq, Nat.reduceEqDiff, Nat.reduceBEq, Nat.reduceAdd, Nat.reduceLT, Nat.reduceBNe, Nat.reduceMul, ↓reduceIte, tis, fls, hl, eBool, hb, eo, eSpan, h2]
            refine round_normal (i + 1) (by omega) (by simp -implicitDefEqProofs (maxSteps := 100000) (disch := first | (intros; contradiction) | omega) only [am0, am1, am2, am3, am4, am5, am6, am7, am8, am9, Nat.reduceSub, ↓reduceIte, reduceCtorEq, Nat.reduceEqDiff, Nat.reduceBEq, Nat.reduceAdd, Nat.reduceLT, Nat.reduceBNe, Nat.reduceMul, ↓reduceIte, tis, spN, e, eSpan, List.map_append, List.map_cons, List.map_nil]) (by show 256 - (i + 1) < 256 - i; omega)
          · simp -implicitDefEqProofs (maxSteps := 100000) (disch := first | (intros; contradiction) | omega) only [am0, am1, am2, am3, am4, am5, am6, am7, am8, am9, Nat.reduceSub, ↓reduceIte, reduceCtorEq, Nat.reduceEqDiff, Nat.reduceBEq, Nat.reduceAdd, Nat.reduceLT, Nat.reduceBNe, Nat.reduceMul, ↓reduceIte, tis, fls, hl, eBool, hb]
            refine round_normal (i + 1) (by omega) (by simp -implicitDefEqProofs (maxSteps := 100000) (disch := first | (intros; contradiction) | omega) only [am0, am1, am2, am3, am4, am5, am6, am7, am8, am9, Nat.reduceSub, ↓reduceIte, reduceCtorEq, Nat.reduceEqDiff, Nat.reduceBEq, Nat.reduceAdd, Nat.reduceLT, Nat.reduceBNe, Nat.reduceMul, ↓reduceIte, tis, spN, e, eSpan, List.map_append, List.map_cons, List.map_nil]) (by show 256 - (i + 1) < 256 - i; omega)
    · obtain rfl : i = 256 := by omega
      simp -implicitDefEqProofs (maxSteps := 100000) (disch := first | (intros; contradiction) | omega) only [am0, am1, am2, am3, am4, am5, am6, am7, am8, am9, Nat.reduceSub, ↓reduceIte, reduceCtorEq, Nat.reduceEqDiff, Nat.reduceBEq, Nat.reduceAdd, Nat.reduceLT, Nat.reduceBNe, Nat.reduceMul, ↓reduceIte, tis, fls, spansL]
/-- Two bytes in each other's place. -/
def swapB (bs : List Bool) (a b : Nat) : List Bool := (bs.set a (bs.getD b false)).set b (bs.getD a false)
theorem swapB_len (bs : List Bool) (a b : Nat) : (swapB bs a b).length = bs.length := by simp [swapB]
theorem setBool (l : List Bool) (i : Nat) (x : Bool) : (l.map eBool).set i (.bool x) = (l.set i x).map eBool := by rw [List.map_set]; rfl
theorem getBool (l : List Bool) (i : Nat) (h : i < l.length) : (l.map eBool)[i]? = some (.bool (l.getD i false)) := by simp [eBool, h, List.getD]
/-- spec.l13Set -/
theorem fits_l13Set (s : List Span) (a b : Nat) (ha : a < 256) (hb : b < 256) (hp : s.length ≤ 1099511627776) : Fits prog 151 [.sl false 2 (s.map eSpan), .int .i64 a, .int .i64 b] (.sl true 2 ((spansL (swapB (bitsL s) a b)).map eSpan)) [] := by
  have hl := bitsL_len s
  have cO := fits_l1Of (swapB (bitsL s) a b) (by rw [swapB_len]; exact hl)
  refine fits_of_code [6] [] [0, 1, 2, 6, 7, 8, 9, 12] func151 rfl rfl rfl (by rfl) (by show 3 ≤ 38; decide) (by rfl) (by rfl) (by show 0 ≤ 3; decide) (by rfl) (run_of ?_)
  simp -implicitDefEqProofs (maxSteps := 100000) (disch := first | (intros; contradiction) | omega) only [am0, am1, am2, am3, am4, am5, am6, am7, am8, am9, Nat.reduceSub, ↓reduceIte, reduceCtorEq, Nat.reduceEqDiff, Nat.reduceBEq, Nat.reduceAdd, Nat.reduceLT, Nat.reduceBNe, Nat.reduceMul, ↓reduceIte, tis]
  refine run_loop (α := Nat) (fun i => i ≤ 256) (fun i => [(0, .sl false 2 (s.map eSpan)), (1, .int .i64 a), (2, .int .i64 b), (7, .sl true 1 (((bitsL s).take i).map eBool ++ List.replicate (256 - i) (.bool false))), (8, .int .i64 i)]) (fun i => 256 - i) 0 (Nat.zero_le _) ?_ ?_
  · simp -implicitDefEqProofs (maxSteps := 100000) (disch := first | (intros; contradiction) | omega) only [am0, am1, am2, am3, am4, am5, am6, am7, am8, am9, Nat.reduceSub, ↓reduceIte, reduceCtorEq, Nat.reduceEqDiff, Nat.reduceBEq, Nat.reduceAdd, Nat.reduceLT, Nat.reduceBNe, Nat.reduceMul, ↓reduceIte, tis, show Int.toNat 256 = 256 from rfl]
  · intro i hi'
    have g1 := build_len eBool (.bool false) (bitsL s) i (by omega)
    rw [hl] at g1
    by_cases hi : i < 256
    · have g2 := build_get eBool (.bool false) (bitsL s) i (by omega)
      have g3 := build_set eBool (.bool false) (bitsL s) i (by omega)
      rw [bitsL_get s i (by omega)] at g3
      rw [hl] at g2 g3
      simp -implicitDefEqProofs (maxSteps := 100000) (disch := first | (intros; contradiction) | omega) only [am0, am1, am2, am3, am4, am5, am6, am7, am8, am9, Nat.reduceSub, ↓reduceIte, reduceCtorEq, Nat.reduceEqDiff, Nat.reduceBEq, Nat.reduceAdd, Nat.reduceLT, Nat.reduceBNe, Nat.reduceMul, ↓reduceIte, tis, fls, g1, g2]
      refine callB (fits_sSetHas s i hp) ?_
      simp -implicitDefEqProofs (maxSteps := 100000) (disch := first | (intros; contradiction) | omega) only [am0, am1, am2, am3, am4, am5, am6, am7, am8, am9, Nat.reduceSub, ↓reduceIte, reduceCtorEq, Nat.reduceEqDiff, Nat.reduceBEq, Nat.reduceAdd, Nat.reduceLT, Nat.reduceBNe, Nat.reduceMul, ↓reduceIte, tis, fls, g1, g2]
      refine round_normal (i + 1) (by omega) ?_ (by show 256 - (i + 1) < 256 - i; omega)
      rw [show AV.bool (hasB s i) = eBool (hasB s i) from rfl, g3]
      simp -implicitDefEqProofs (maxSteps := 100000) (disch := first | (intros; contradiction) | omega) only [am0, am1, am2, am3, am4, am5, am6, am7, am8, am9, Nat.reduceSub, ↓reduceIte, reduceCtorEq, Nat.reduceEqDiff, Nat.reduceBEq, Nat.reduceAdd, Nat.reduceLT, Nat.reduceBNe, Nat.reduceMul, ↓reduceIte, tis]
    · obtain rfl : i = 256 := by omega
      have e : (bitsL s).take 256 = bitsL s := List.take_of_length_le (by omega)
      have e2 : List.replicate (256 - 256) (AV.bool false) = [] := rfl
      have g4 : ∀ x, (((bitsL s).map eBool).set a x).length = 256 := fun x => by simp [hl]
      have g5 : ((bitsL s).map eBool).length = 256 := by simp [hl]
      have ga := getBool (bitsL s) a (by omega)
      have gb := getBool (bitsL s) b (by omega)
      have gc := getBool ((bitsL s).set a ((bitsL s).getD b false)) b (by simp [hl]; omega)
      simp -implicitDefEqProofs (maxSteps := 100000) (disch := first | (intros; contradiction) | omega) only [am0, am1, am2, am3, am4, am5, am6, am7, am8, am9, Nat.reduceSub, ↓reduceIte, reduceCtorEq, Nat.reduceEqDiff, Nat.reduceBEq, Nat.reduceAdd, Nat.reduceLT, Nat.reduceBNe, Nat.reduceMul, ↓reduceIte, tis, e, e2, fls, List.append_nil, g5, ga, gb, setBool, gc, List.length_map, List.length_set, hl]
      unfold swapB at cO
      refine callB cO ?_
      simp -implicitDefEqProofs (maxSteps := 100000) (disch := first | (intros; contradiction) | omega) only [am0, am1, am2, am3, am4, am5, am6, am7, am8, am9, Nat.reduceSub, ↓reduceIte, reduceCtorEq, Nat.reduceEqDiff, Nat.reduceBEq, Nat.reduceAdd, Nat.reduceLT, Nat.reduceBNe, Nat.reduceMul, ↓reduceIte, tis, fls, swapB]
/-- Two bytes in each other's place. -/
def swapR (a b : Nat) : Rex → Rex
  | .mk k s ks => .mk k (if k = 1 then spansL (swapB (bitsL s) a b) else []) (ks.map (swapR a b))
theorem swapR_eq (a b : Nat) (r : Rex) : swapR a b r = .mk r.kind (if r.kind = 1 then spansL (swapB (bitsL r.set) a b) else []) (r.kids.map (swapR a b)) := by cases r; rw [swapR]; rfl
theorem bd_swap (a b : Nat) (r : Rex) : bd (swapR a b r) + 1 ≤ 257 * ps r := by
  induction r using Rex.ind' with
  | h r ih =>
    rw [swapR_eq, bd_eq, ps_eq r]
    show (if r.kind = 1 then spansL (swapB (bitsL r.set) a b) else []).length + ((r.kids.map (swapR a b)).length + ((r.kids.map (swapR a b)).map bd).sum) + 1 ≤ _
    have h1 : (if r.kind = 1 then spansL (swapB (bitsL r.set) a b) else []).length ≤ 256 := by
      split
      · exact spN_len _ 256
      · simp
    have h2 : (r.kids.map (swapR a b)).length + ((r.kids.map (swapR a b)).map bd).sum ≤ 257 * (r.kids.map ps).sum := by
      generalize r.kids = l at ih
      induction l with
      | nil => simp
      | cons x l ihl =>
        have h1 := ih x (List.mem_cons_self ..)
        have h2 := ihl (fun y hy => ih y (List.mem_cons_of_mem _ hy))
        simp only [List.map_cons, List.sum_cons, List.length_cons]
        omega
    omega
def swap1 (r : Rex) (a b : Nat) : List Span := if r.kind = 1 then spansL (swapB (bitsL r.set) a b) else []
/-- impl.swapped -/
theorem fits_swapped (r : Rex) (d : Nat) (hf : fm d r = true) (hb : bd r ≤ 1048576) (a b : Nat) (ha : a < 256) (hbb : b < 256) : Fits prog 98 [eRex false r, .int .i64 a, .int .i64 b] (eRex true (swapR a b r)) [] := by
  induction d generalizing r with
  | zero => simp [fm] at hf
  | succ d ih =>
    have hb' := bd_eq r
    have h4 := (fm_ok hf).2.2.2
    have cB := fits_bitsOf r.set (by omega)
    have hl := bitsL_len r.set
    have cS := fits_spans (swapB (bitsL r.set) a b) (by rw [swapB_len]; exact hl)
    have g5 : ((bitsL r.set).map eBool).length = 256 := by simp [hl]
    have ga := getBool (bitsL r.set) a (by omega)
    have gb := getBool (bitsL r.set) b (by omega)
    have gc := getBool ((bitsL r.set).set a ((bitsL r.set).getD b false)) b (by simp [hl]; omega)
    have hSl : (swap1 r a b).length ≤ 256 := by
      unfold swap1; split
      · exact spN_len _ 256
      · simp
    have hS : (r.kind = 1 → swap1 r a b = spansL (swapB (bitsL r.set) a b)) ∧ (r.kind ≠ 1 → swap1 r a b = []) := ⟨fun h => by simp [swap1, h], fun h => by simp [swap1, h]⟩
    rw [eRex_eq, swapR_eq, eRex]
    rw [show (if r.kind = 1 then spansL (swapB (bitsL r.set) a b) else []) = swap1 r a b from rfl]
    generalize swap1 r a b = S1 at *
    refine fits_of_cell 6 26 [] [0, 1, 2, 3, 6, 7, 8, 10, 16, 34, 35, 36, 37] func98 rfl rfl rfl (by show 6 < 51; decide) (by show 3 ≤ 51; decide) (by rfl) (by rfl) (by show 0 ≤ 3; decide) (by rfl) (run_of ?_)
    by_cases h1 : r.kind = 1
    · have hS := hS.1 h1
      rw [← hS] at cS
      unfold swapB at cS
      simp -implicitDefEqProofs (maxSteps := 100000) (disch := first | (intros; contradiction) | omega) only [am0, am1, am2, am3, am4, am5, am6, am7, am8, am9, Nat.reduceSub, ↓reduceIte, reduceCtorEq, Nat.reduceEqDiff, Nat.reduceBEq, Nat.reduceAdd, Nat.reduceLT, Nat.reduceBNe, Nat.reduceMul, ↓reduceIte, tis, h1]
      refine callB cB ?_
      simp -implicitDefEqProofs (maxSteps := 100000) (disch := first | (intros; contradiction) | omega) only [am0, am1, am2, am3, am4, am5, am6, am7, am8, am9, Nat.reduceSub, ↓reduceIte, reduceCtorEq, Nat.reduceEqDiff, Nat.reduceBEq, Nat.reduceAdd, Nat.reduceLT, Nat.reduceBNe, Nat.reduceMul, ↓reduceIte, tis, h1, fls, hl]
      refine .inr (run_late 9 [[1], []] (by kernel_rfl) ?_)
      simp -implicitDefEqProofs (maxSteps := 100000) (disch := first | (intros; contradiction) | omega) only [am0, am1, am2, am3, am4, am5, am6, am7, am8, am9, Nat.reduceSub, ↓reduceIte, reduceCtorEq, Nat.reduceEqDiff, Nat.reduceBEq, Nat.reduceAdd, Nat.reduceLT, Nat.reduceBNe, Nat.reduceMul, ↓reduceIte, tis, h1, fls, g5, ga, gb, setBool, gc, List.length_map, List.length_set, hl]
      refine callB cS ?_
      simp -implicitDefEqProofs (maxSteps := 100000) (disch := first | (intros; contradiction) | omega) only [am0, am1, am2, am3, am4, am5, am6, am7, am8, am9, Nat.reduceSub, ↓reduceIte, reduceCtorEq, Nat.reduceEqDiff, Nat.reduceBEq, Nat.reduceAdd, Nat.reduceLT, Nat.reduceBNe, Nat.reduceMul, ↓reduceIte, tis, h1, fls]
      refine run_loop (α := Nat) (fun i => i ≤ r.kids.length) (fun i => [(1, .int .i64 a), (2, .int .i64 b), (6, .box (.agg [.int .i64 0, .sl true 0 [], .sl true 0 []])), (7, .box (.agg [.int .i64 r.kind, .sl true 2 (S1.map eSpan), .sl true 3 ((r.kids.take i).map (fun x => eRex true (swapR a b x)))])), (34, .sl false 3 (r.kids.map (eRex false))), (35, .int .i64 r.kids.length), (36, .int .i64 i)]) (fun i => r.kids.length - i) 0 (Nat.zero_le _) ?_ ?_
      · simp -implicitDefEqProofs (maxSteps := 100000) (disch := first | (intros; contradiction) | omega) only [am0, am1, am2, am3, am4, am5, am6, am7, am8, am9, Nat.reduceSub, ↓reduceIte, reduceCtorEq, Nat.reduceEqDiff, Nat.reduceBEq, Nat.reduceAdd, Nat.reduceLT, Nat.reduceBNe, Nat.reduceMul, ↓reduceIte, tis, h1, List.map_nil]
      · intro i hi'
        by_cases hi : i < r.kids.length
        · have hm := List.getElem_mem hi
          have cF := ih r.kids[i] (h4 _ hm) (Nat.le_trans (bd_kid hm) hb)
          rw [eRex_eq false r.kids[i], eRex_eq true (swapR a b r.kids[i])] at cF
          simp -implicitDefEqProofs (maxSteps := 100000) (disch := first | (intros; contradiction) | omega) only [am0, am1, am2, am3, am4, am5, am6, am7, am8, am9, Nat.reduceSub, ↓reduceIte, reduceCtorEq, Nat.reduceEqDiff, Nat.reduceBEq, Nat.reduceAdd, Nat.reduceLT, Nat.reduceBNe, Nat.reduceMul, ↓reduceIte, tis, rx, fls, eRex_eq false r.kids[i]]
          refine .inl ⟨by kernel_rfl, ?_⟩
          refine callL cF ?_
          have hlt : (r.kids.take i).length = i := by simp; omega
          simp -implicitDefEqProofs (maxSteps := 100000) (disch := first | (intros; contradiction) | omega) only [am0, am1, am2, am3, am4, am5, am6, am7, am8, am9, Nat.reduceSub, ↓reduceIte, reduceCtorEq, Nat.reduceEqDiff, Nat.reduceBEq, Nat.reduceAdd, Nat.reduceLT, Nat.reduceBNe, Nat.reduceMul, ↓reduceIte, tis, rx, fls, hlt]
          refine round_normal (i + 1) (by omega) ?_ (by show r.kids.length - (i + 1) < r.kids.length - i; omega)
          rw [List.take_succ_eq_append_getElem hi, List.map_append, List.map_cons, List.map_nil, eRex_eq true (swapR a b r.kids[i])]
          simp -implicitDefEqProofs (maxSteps := 100000) (disch := first | (intros; contradiction) | omega) only [am0, am1, am2, am3, am4, am5, am6, am7, am8, am9, Nat.reduceSub, ↓reduceIte, reduceCtorEq, Nat.reduceEqDiff, Nat.reduceBEq, Nat.reduceAdd, Nat.reduceLT, Nat.reduceBNe, Nat.reduceMul, ↓reduceIte, tis]
        · obtain rfl : i = r.kids.length := by omega
          have e : (r.kids.map (swapR a b)).map (eRex true) = r.kids.map (fun x => eRex true (swapR a b x)) := by rw [List.map_map]; rfl
          simp -implicitDefEqProofs (maxSteps := 100000) (disch := first | (intros; contradiction) | omega) only [am0, am1, am2, am3, am4, am5, am6, am7, am8, am9, Nat.reduceSub, ↓reduceIte, reduceCtorEq, Nat.reduceEqDiff, Nat.reduceBEq, Nat.reduceAdd, Nat.reduceLT, Nat.reduceBNe, Nat.reduceMul, ↓reduceIte, tis, h1, e, rx, fls]
    · have hS := hS.2 h1
      simp -implicitDefEqProofs (maxSteps := 100000) (disch := first | (intros; contradiction) | omega) only [am0, am1, am2, am3, am4, am5, am6, am7, am8, am9, Nat.reduceSub, ↓reduceIte, reduceCtorEq, Nat.reduceEqDiff, Nat.reduceBEq, Nat.reduceAdd, Nat.reduceLT, Nat.reduceBNe, Nat.reduceMul, ↓reduceIte, tis, h1]
      refine run_loop (α := Nat) (fun i => i ≤ r.kids.length) (fun i => [(1, .int .i64 a), (2, .int .i64 b), (6, .box (.agg [.int .i64 0, .sl true 0 [], .sl true 0 []])), (7, .box (.agg [.int .i64 r.kind, .sl true 2 (S1.map eSpan), .sl true 3 ((r.kids.take i).map (fun x => eRex true (swapR a b x)))])), (34, .sl false 3 (r.kids.map (eRex false))), (35, .int .i64 r.kids.length), (36, .int .i64 i)]) (fun i => r.kids.length - i) 0 (Nat.zero_le _) ?_ ?_
      · simp -implicitDefEqProofs (maxSteps := 100000) (disch := first | (intros; contradiction) | omega) only [am0, am1, am2, am3, am4, am5, am6, am7, am8, am9, Nat.reduceSub, ↓reduceIte, reduceCtorEq, Nat.reduceEqDiff, Nat.reduceBEq, Nat.reduceAdd, Nat.reduceLT, Nat.reduceBNe, Nat.reduceMul, ↓reduceIte, tis, h1, hS, List.map_nil]
      · intro i hi'
        by_cases hi : i < r.kids.length
        · have hm := List.getElem_mem hi
          have cF := ih r.kids[i] (h4 _ hm) (Nat.le_trans (bd_kid hm) hb)
          rw [eRex_eq false r.kids[i], eRex_eq true (swapR a b r.kids[i])] at cF
          simp -implicitDefEqProofs (maxSteps := 100000) (disch := first | (intros; contradiction) | omega) only [am0, am1, am2, am3, am4, am5, am6, am7, am8, am9, Nat.reduceSub, ↓reduceIte, reduceCtorEq, Nat.reduceEqDiff, Nat.reduceBEq, Nat.reduceAdd, Nat.reduceLT, Nat.reduceBNe, Nat.reduceMul, ↓reduceIte, tis, rx, fls, eRex_eq false r.kids[i]]
          refine .inl ⟨by kernel_rfl, ?_⟩
          refine callL cF ?_
          have hlt : (r.kids.take i).length = i := by simp; omega
          simp -implicitDefEqProofs (maxSteps := 100000) (disch := first | (intros; contradiction) | omega) only [am0, am1, am2, am3, am4, am5, am6, am7, am8, am9, Nat.reduceSub, ↓reduceIte, reduceCtorEq, Nat.reduceEqDiff, Nat.reduceBEq, Nat.reduceAdd, Nat.reduceLT, Nat.reduceBNe, Nat.reduceMul, ↓reduceIte, tis, rx, fls, hlt]
          refine round_normal (i + 1) (by omega) ?_ (by show r.kids.length - (i + 1) < r.kids.length - i; omega)
          rw [List.take_succ_eq_append_getElem hi, List.map_append, List.map_cons, List.map_nil, eRex_eq true (swapR a b r.kids[i])]
          simp -implicitDefEqProofs (maxSteps := 100000) (disch := first | (intros; contradiction) | omega) only [am0, am1, am2, am3, am4, am5, am6, am7, am8, am9, Nat.reduceSub, ↓reduceIte, reduceCtorEq, Nat.reduceEqDiff, Nat.reduceBEq, Nat.reduceAdd, Nat.reduceLT, Nat.reduceBNe, Nat.reduceMul, ↓reduceIte, tis]
        · obtain rfl : i = r.kids.length := by omega
          have e : (r.kids.map (swapR a b)).map (eRex true) = r.kids.map (fun x => eRex true (swapR a b x)) := by rw [List.map_map]; rfl
          simp -implicitDefEqProofs (maxSteps := 100000) (disch := first | (intros; contradiction) | omega) only [am0, am1, am2, am3, am4, am5, am6, am7, am8, am9, Nat.reduceSub, ↓reduceIte, reduceCtorEq, Nat.reduceEqDiff, Nat.reduceBEq, Nat.reduceAdd, Nat.reduceLT, Nat.reduceBNe, Nat.reduceMul, ↓reduceIte, tis, h1, e, rx, fls]
/-! Spans in order are what their bytes make. -/
/-- Spans in order, all from lo on. -/
def Can (lo : Int) : List Span → Prop
  | [] => True
  | x :: l => lo ≤ x.lo ∧ x.lo ≤ x.hi ∧ Can (x.hi + 2) l
def nxt (lo : Int) : List Span → Int
  | [] => lo
  | x :: l => nxt (x.hi + 2) l
theorem can_app : ∀ (l : List Span) (lo : Int) (m : List Span), Can lo (l ++ m) ↔ Can lo l ∧ Can (nxt lo l) m
  | [], lo, m => by simp [Can, nxt]
  | x :: l, lo, m => by simp only [List.cons_append, Can, nxt, can_app l (x.hi + 2) m, and_assoc]
theorem nxt_app : ∀ (l : List Span) (lo : Int) (x : Span), nxt lo (l ++ [x]) = x.hi + 2
  | [], lo, x => rfl
  | y :: l, lo, x => nxt_app l _ x
theorem can_lo {lo lo' : Int} (h : lo' ≤ lo) : ∀ {l : List Span}, Can lo l → Can lo' l
  | [], _ => trivial
  | x :: l, ⟨h1, h2, h3⟩ => ⟨by omega, h2, h3⟩
theorem can_mem : ∀ {l : List Span} {lo : Int}, Can lo l → ∀ x ∈ l, lo ≤ x.lo ∧ x.lo ≤ x.hi
  | x :: l, lo, ⟨h1, h2, h3⟩, y, hy => by
    rcases List.mem_cons.1 hy with rfl | hy
    · exact ⟨h1, h2⟩
    · have := can_mem h3 y hy
      exact ⟨by omega, this.2⟩
theorem hasB_cons (x : Span) (l : List Span) (b : Int) : hasB (x :: l) b = (decide (x.lo ≤ b ∧ b ≤ x.hi) || hasB l b) := by simp [hasB]
theorem hasB_app (l m : List Span) (b : Int) : hasB (l ++ m) b = (hasB l b || hasB m b) := by simp [hasB]
theorem can_has {l : List Span} {lo b : Int} (h : Can lo l) (hb : hasB l b = true) : lo ≤ b := by
  unfold hasB at hb
  rw [List.any_eq_true] at hb
  obtain ⟨x, hx, hh⟩ := hb
  have := can_mem h x hx
  simp only [decide_eq_true_eq] at hh
  omega
theorem can_same : ∀ {l m : List Span} {lo : Int}, Can lo l → Can lo m → (∀ b, lo ≤ b → hasB l b = hasB m b) → l = m
  | [], [], _, _, _, _ => rfl
  | [], y :: m, lo, _, ⟨h1, h2, h3⟩, h => by
    have := h y.lo h1
    rw [hasB_cons, decide_eq_true (by omega)] at this
    simp [hasB] at this
  | x :: l, [], lo, ⟨h1, h2, h3⟩, _, h => by
    have := h x.lo h1
    rw [hasB_cons, decide_eq_true (by omega)] at this
    simp [hasB] at this
  | x :: l, y :: m, lo, ⟨h1, h2, h3⟩, ⟨g1, g2, g3⟩, h => by
    have ge : ∀ {z : Span} {n : List Span}, Can (z.hi + 2) n → ∀ b, b < z.hi + 2 → hasB n b = false := by
      intro z n hn b hb
      cases hh : hasB n b with
      | false => rfl
      | true => have := can_has hn hh; omega
    have e1 : x.lo = y.lo := by
      rcases Int.lt_trichotomy x.lo y.lo with hl | hl | hl
      · have := h x.lo h1
        rw [hasB_cons, hasB_cons, decide_eq_true (by omega), decide_eq_false (by omega), ge g3 x.lo (by omega)] at this
        simp at this
      · exact hl
      · have := h y.lo g1
        rw [hasB_cons, hasB_cons, decide_eq_false (by omega), decide_eq_true (by omega), ge h3 y.lo (by omega)] at this
        simp at this
    have e2 : x.hi = y.hi := by
      rcases Int.lt_trichotomy x.hi y.hi with hl | hl | hl
      · have := h (x.hi + 1) (by omega)
        rw [hasB_cons, hasB_cons, decide_eq_false (by omega), decide_eq_true (by omega), ge h3 (x.hi + 1) (by omega)] at this
        simp at this
      · exact hl
      · have := h (y.hi + 1) (by omega)
        rw [hasB_cons, hasB_cons, decide_eq_true (by omega), decide_eq_false (by omega), ge g3 (y.hi + 1) (by omega)] at this
        simp at this
    have e : x = y := by cases x; cases y; simp only at e1 e2; rw [e1, e2]
    subst e
    rw [can_same h3 g3 fun b hb => ?_]
    have := h b (by omega)
    rwa [hasB_cons, hasB_cons, decide_eq_false (by omega), Bool.false_or, Bool.false_or] at this
/-- Right sets are spans in order. -/
theorem setB_at {s : List Span} (h : setB s = true) (i : Nat) (hi : i < s.length) : (0 ≤ s[i].lo ∧ s[i].lo ≤ s[i].hi ∧ s[i].hi ≤ 255) ∧ (∀ h0 : i ≠ 0, (s[i - 1]'(by omega)).hi + 1 < s[i].lo) := by
  unfold setB at h
  rw [List.all_eq_true] at h
  have := h i (by simpa using hi)
  refine ⟨setN_b hi this, fun h0 => ?_⟩
  rw [setN_1 hi h0] at this
  simp only [Bool.and_eq_true, decide_eq_true_eq] at this
  exact this.2
theorem can_of_at : ∀ (s : List Span) (lo : Int), (∀ i (hi : i < s.length), s[i].lo ≤ s[i].hi) → (∀ h : 0 < s.length, lo ≤ s[0].lo) → (∀ i (hi : i + 1 < s.length), s[i].hi + 1 < s[i + 1].lo) → Can lo s
  | [], _, _, _, _ => trivial
  | x :: l, lo, h1, h2, h3 => ⟨h2 (by simp), h1 0 (by simp), can_of_at l _ (fun i hi => h1 (i + 1) (by simpa using hi)) (fun h => by have := h3 0 (by simpa using h); simp only [List.getElem_cons_zero, List.getElem_cons_succ] at this; omega) (fun i hi => h3 (i + 1) (by simpa using hi))⟩
theorem can_at : ∀ {s : List Span} {lo : Int}, Can lo s → (∀ i (hi : i + 1 < s.length), s[i].hi + 1 < s[i + 1].lo)
  | x :: y :: l, lo, ⟨_, _, h3⟩, 0, _ => by have := h3.1; simp only [List.getElem_cons_zero, List.getElem_cons_succ]; omega
  | x :: l, lo, ⟨_, _, h3⟩, i + 1, hi => by
    have := can_at h3 i (by simpa using hi)
    simpa using this
theorem setB_can {s : List Span} (h : setB s = true) : Can 0 s :=
  can_of_at s 0 (fun i hi => (setB_at h i hi).1.2.1) (fun hl => (setB_at h 0 hl).1.1) (fun i hi => (setB_at h (i + 1) hi).2 (by omega))
theorem can_setB {s : List Span} (h : Can 0 s) (hh : ∀ x ∈ s, x.hi ≤ 255) : setB s = true := by
  apply setB_true
  intro i hi
  have hm := can_mem h s[i] (List.getElem_mem hi)
  have h2 := hh s[i] (List.getElem_mem hi)
  by_cases h0 : i = 0
  · rw [setN_0 hi h0, decide_eq_true (by omega)]
  · have := can_at h (i - 1) (by omega)
    simp only [show i - 1 + 1 = i by omega] at this
    rw [setN_1 hi h0, decide_eq_true (by omega), decide_eq_true this]; rfl
theorem snoc_of {l : List Span} (h : 0 < l.length) : ∃ m x, l = m ++ [x] := ⟨l.dropLast, l.getLast (by intro e; simp [e] at h), (List.dropLast_concat_getLast _).symm⟩
/-- What the spans of marked bytes are. -/
theorem spN_is (bs : List Bool) : ∀ b : Nat, Can 0 (spN bs b) ∧ nxt 0 (spN bs b) ≤ b + 1 ∧ ∀ i : Nat, hasB (spN bs b) i = (decide (i < b) && bs.getD i false)
  | 0 => ⟨trivial, by simp [spN, nxt], fun i => by simp [spN, hasB]⟩
  | b + 1 => by
    obtain ⟨h1, h2, h3⟩ := spN_is bs b
    obtain ⟨l1, l2⟩ := spN_last bs b
    simp only [spN, spStep]
    by_cases hb : bs.getD b false = true
    · rw [if_pos hb]
      have dec : ∀ i : Nat, (decide (i < b + 1) && bs.getD i false) = (decide (i = b) || (decide (i < b) && bs.getD i false)) := by
        intro i
        rcases Nat.lt_trichotomy i b with h | h | h
        · simp [h, show i < b + 1 by omega, show i ≠ b by omega]
        · subst h; simpa using hb
        · simp [show ¬ i < b by omega, show ¬ i < b + 1 by omega, show i ≠ b by omega]
      by_cases hp : 0 < b ∧ bs.getD (b - 1) false = true
      · rw [if_pos hp]
        obtain ⟨x, hx, hxh⟩ := l2.1 hp
        obtain ⟨m, y, hm⟩ := snoc_of (spN_pos hp)
        rw [hm] at h1 h2 h3 hx
        have hxy : y = x := by simpa using hx
        subst hxy
        rw [hm]
        have e : (m ++ [y]).set ((m ++ [y]).length - 1) ⟨((m ++ [y]).getD ((m ++ [y]).length - 1) default).lo, b⟩ = m ++ [⟨y.lo, b⟩] := by
          simp
        rw [e]
        have hc := (can_app m 0 [y]).1 h1
        refine ⟨(can_app m 0 _).2 ⟨hc.1, hc.2.1, ?_, trivial⟩, ?_, fun i => ?_⟩
        · have := hc.2.2.1; show y.lo ≤ (b : Int); omega
        · rw [nxt_app]; show (b : Int) + 2 ≤ _; omega
        · have h3i := h3 i
          rw [hasB_app, hasB_cons] at h3i ⊢
          have hn : hasB [] (i : Int) = false := rfl
          rw [hn, Bool.or_false] at h3i ⊢
          rw [dec, ← h3i]
          have := hc.2.2.1
          by_cases hi : i = b
          · subst hi
            rw [decide_eq_true (show y.lo ≤ ((i : Nat) : Int) ∧ ((i : Nat) : Int) ≤ ((i : Nat) : Int) by omega)]; simp
          · rw [decide_eq_false hi, Bool.false_or]
            congr 1
            rw [decide_eq_decide]
            show (y.lo ≤ (i : Int) ∧ (i : Int) ≤ (b : Int)) ↔ (y.lo ≤ (i : Int) ∧ (i : Int) ≤ y.hi)
            omega
      · rw [if_neg hp]
        refine ⟨(can_app _ 0 _).2 ⟨h1, ?_, Int.le_refl _, trivial⟩, ?_, fun i => ?_⟩
        · show nxt 0 (spN bs b) ≤ (b : Int)
          rcases Nat.eq_zero_or_pos (spN bs b).length with h0 | h0
          · rw [List.eq_nil_of_length_eq_zero h0]; show (0 : Int) ≤ b; omega
          · obtain ⟨m, y, hm⟩ := snoc_of h0
            have hy : y.hi ≠ (b : Int) - 1 := fun hy => hp (l2.2 ⟨y, by rw [hm]; simp, hy⟩)
            rw [hm, nxt_app] at h2 ⊢
            omega
        · rw [nxt_app]; show (b : Int) + 2 ≤ _; omega
        · rw [hasB_app, h3 i, dec, hasB_cons]
          have hn : hasB [] (i : Int) = false := rfl
          rw [hn, Bool.or_false, Bool.or_comm]
          congr 1
          rw [decide_eq_decide]
          show ((b : Int) ≤ (i : Int) ∧ (i : Int) ≤ (b : Int)) ↔ i = b
          omega
    · rw [if_neg hb]
      refine ⟨h1, by omega, fun i => ?_⟩
      rw [h3 i]
      by_cases hi : i = b
      · subst hi
        have : bs.getD i false = false := by simpa using hb
        rw [this, Bool.and_false, Bool.and_false]
      · congr 1
        rw [decide_eq_decide]; omega
theorem spansL_has {bs : List Bool} (hl : bs.length = 256) (i : Nat) : hasB (spansL bs) i = bs.getD i false := by
  unfold spansL
  rw [(spN_is bs 256).2.2 i]
  by_cases h : i < 256
  · rw [decide_eq_true h, Bool.true_and]
  · rw [decide_eq_false h, Bool.false_and]
    simp [List.getD, List.getElem?_eq_none (show bs.length ≤ i by omega)]
theorem spN_hi255 (bs : List Bool) : ∀ b : Nat, ∀ x ∈ spN bs b, x.hi < b
  | 0, x, h => by simp [spN] at h
  | b + 1, x, h => by
    have ih := spN_hi255 bs b
    simp only [spN, spStep] at h
    split at h
    · split at h
      · rcases List.mem_or_eq_of_mem_set h with h | h
        · have := ih x h; omega
        · subst h; show (b : Int) < _; omega
      · rcases List.mem_append.1 h with h | h
        · have := ih x h; omega
        · rw [List.mem_singleton] at h; subst h; show (b : Int) < _; omega
    · have := ih x h; omega
theorem setB_spansL (bs : List Bool) : setB (spansL bs) = true := can_setB (spN_is bs 256).1 (fun x hx => by have := spN_hi255 bs 256 x hx; omega)
theorem bits_spans {bs : List Bool} (hl : bs.length = 256) : bitsL (spansL bs) = bs := by
  apply List.ext_getElem
  · rw [bitsL_len, hl]
  · intro i h1 h2
    rw [bitsL_get, spansL_has hl]
    simp [h2]
theorem bitsL_getD (s : List Span) (i : Nat) (h : i < 256) : (bitsL s).getD i false = hasB s i := by
  have h2 : i < (bitsL s).length := by rw [bitsL_len]; exact h
  have := bitsL_get s i h2
  simp [List.getD, h2, this]
theorem spans_bits {s : List Span} (h : setB s = true) : spansL (bitsL s) = s := by
  have hc := setB_can h
  have hd : Can 0 (spansL (bitsL s)) := (spN_is (bitsL s) 256).1
  refine can_same hd hc fun b hb => ?_
  obtain ⟨n, rfl⟩ : ∃ n : Nat, b = n := ⟨b.toNat, by omega⟩
  rw [spansL_has (bitsL_len s)]
  by_cases hn : n < 256
  · exact bitsL_getD s n hn
  · have e1 : (bitsL s).getD n false = false := by
      have := bitsL_len s
      simp [List.getD, List.getElem?_eq_none (show (bitsL s).length ≤ n by omega)]
    rw [e1]
    symm
    refine hasB_f fun i hi => ?_
    have := (setB_at h i hi).1
    omega
/-- spec.l1Min -/
theorem fits_l1Min (a b : Int) : Fits prog 181 [.int .i64 a, .int .i64 b] (.int .i64 (if a < b then a else b)) [] := by
  by_cases h : a < b
  · refine fits_of_code [4] [] [0, 1, 4, 7] func181 rfl rfl rfl (by rfl) (by show 2 ≤ 10; decide) (by rfl) (by rfl) (by show 0 ≤ 2; decide) (by rfl) (run_of ?_)
    simp -implicitDefEqProofs (maxSteps := 100000) (disch := first | (intros; contradiction) | omega) only [am0, am1, am2, am3, am4, am5, am6, am7, am8, am9, Nat.reduceSub, ↓reduceIte, reduceCtorEq, Nat.reduceEqDiff, Nat.reduceBEq, Nat.reduceAdd, Nat.reduceLT, Nat.reduceBNe, Nat.reduceMul, ↓reduceIte, tis, h]
  · refine fits_of_code [4] [] [0, 1, 4, 7] func181 rfl rfl rfl (by rfl) (by show 2 ≤ 10; decide) (by rfl) (by rfl) (by show 0 ≤ 2; decide) (by rfl) (run_of ?_)
    simp -implicitDefEqProofs (maxSteps := 100000) (disch := first | (intros; contradiction) | omega) only [am0, am1, am2, am3, am4, am5, am6, am7, am8, am9, Nat.reduceSub, ↓reduceIte, reduceCtorEq, Nat.reduceEqDiff, Nat.reduceBEq, Nat.reduceAdd, Nat.reduceLT, Nat.reduceBNe, Nat.reduceMul, ↓reduceIte, tis, h]
def lo9 : List Int := [0, 48, 97, 97, 98, 99, 120, 254, 255]
def by7 : List Int := [0, 0, 1, 2, 9, 25, 200]
def fillR (bs : List Bool) (a : Nat) : Nat → List Bool
  | 0 => bs
  | n + 1 => (fillR bs a n).set (a + n) true
theorem fillR_len (bs : List Bool) (a : Nat) : ∀ n, (fillR bs a n).length = bs.length
  | 0 => rfl
  | n + 1 => by simp [fillR, fillR_len bs a n]
def loV (b : List UInt8) (p : Nat) : Int := numV b p lo9
def hiV (b : List UInt8) (p : Nat) : Int := if 255 < loV b p + numV b (p + 1) by7 then 255 else loV b p + numV b (p + 1) by7
theorem loV_b (b : List UInt8) (p : Nat) : 0 ≤ loV b p ∧ loV b p ≤ 255 := by
  have h := numV_mem b p (l := lo9) (by decide)
  unfold loV
  generalize numV b p lo9 = x at *
  simp only [lo9, List.mem_cons, List.not_mem_nil, or_false] at h
  omega
theorem by7_b (b : List UInt8) (p : Nat) : 0 ≤ numV b p by7 ∧ numV b p by7 ≤ 200 := by
  have h := numV_mem b p (l := by7) (by decide)
  generalize numV b p by7 = x at *
  simp only [by7, List.mem_cons, List.not_mem_nil, or_false] at h
  omega
theorem hiV_b (b : List UInt8) (p : Nat) : loV b p ≤ hiV b p ∧ hiV b p ≤ 255 := by
  have h1 := loV_b b p
  have h2 := by7_b b (p + 1)
  unfold hiV
  split <;> omega
def setStep (b : List UInt8) (p : Nat) (bs : List Bool) : List Bool := fillR bs (loV b p).toNat ((hiV b p).toNat + 1 - (loV b p).toNat)
def setIt (b : List UInt8) (p : Nat) : Nat → List Bool
  | 0 => List.replicate 256 false
  | j + 1 => setStep b (p + 2 * j) (setIt b p j)
theorem setIt_len (b : List UInt8) (p : Nat) : ∀ j, (setIt b p j).length = 256
  | 0 => by simp [setIt]
  | j + 1 => by simp [setIt, setStep, fillR_len, setIt_len b p j]
def setV (b : List UInt8) (p : Nat) : List Span := spansL (setIt b (p + 1) (1 + pickV b p 3))
def setQ (b : List UInt8) (p : Nat) : Nat := p + 1 + 2 * (1 + pickV b p 3)
theorem setQ_le (b : List UInt8) (p : Nat) : p ≤ setQ b p ∧ setQ b p ≤ p + 7 := by
  have := pickV_lt b p (n := 3) (by omega)
  unfold setQ
  omega
theorem setV_len (b : List UInt8) (p : Nat) : (setV b p).length ≤ 256 := spN_len _ 256
theorem repFalse (n : Nat) : (List.replicate n false).map eBool = List.replicate n (.bool false) := by simp [eBool]
/-- spec.l1Set -/
theorem fits_l1Set (b : List UInt8) (hb : b.length ≤ 2000) (p : Nat) (hp : p ≤ 1000000) : Fits prog 174 [.box (eRd b p)] (.sl true 2 ((setV b p).map eSpan)) [.box (eRd b (setQ b p))] := by
  have hk := pickV_lt b p (n := 3) (by omega)
  have cP : Fits prog 75 [.box (eRd b p), .int .i64 3] (.int .i64 (pickV b p 3)) [.box (eRd b (p + 1))] := fits_pick b hb p (by omega) 3 (by omega) (by omega)
  unfold setV setQ
  generalize pickV b p 3 = m at *
  have cO := fits_l1Of (setIt b (p + 1) (1 + m)) (setIt_len b (p + 1) (1 + m))
  have cN1 := fun j (hj : j ≤ 3) => fits_num b hb (p + 1 + 2 * j) (by omega) lo9 (by decide) (by decide)
  have cN2 := fun j (hj : j ≤ 3) => fits_num b hb (p + 1 + 2 * j + 1) (by omega) by7 (by decide) (by decide)
  have e0 : (setIt b (p + 1) 0).map eBool = List.replicate (Int.toNat 256) (.bool false) := repFalse 256
  unfold eRd at *
  refine fits_of_code [2] [0] [0, 2, 3, 4, 5, 6, 7, 13, 28] func174 rfl rfl rfl (by rfl) (by show 1 ≤ 36; decide) (by rfl) (by rfl) (by show 1 ≤ 1; decide) (by rfl) (run_of ?_)
  simp -implicitDefEqProofs (maxSteps := 100000) (disch := first | (intros; contradiction) | omega) only [am0, am1, am2, am3, am4, am5, am6, am7, am8, am9, Nat.reduceSub, ↓reduceIte, reduceCtorEq, Nat.reduceEqDiff, Nat.reduceBEq, Nat.reduceAdd, Nat.reduceLT, Nat.reduceBNe, Nat.reduceMul, ↓reduceIte, tis, fls]
  refine callM 0 cP ?_
  simp -implicitDefEqProofs (maxSteps := 100000) (disch := first | (intros; contradiction) | omega) only [am0, am1, am2, am3, am4, am5, am6, am7, am8, am9, Nat.reduceSub, ↓reduceIte, reduceCtorEq, Nat.reduceEqDiff, Nat.reduceBEq, Nat.reduceAdd, Nat.reduceLT, Nat.reduceBNe, Nat.reduceMul, ↓reduceIte, tis, fls, List.dropLast_singleton]
  refine run_loop (α := Nat) (fun j => j ≤ 1 + m) (fun j => [(0, .box (.agg [.sl false 1 (bytesA b), .int .i64 (p + 1 + 2 * j : Nat)])), (3, .sl true 1 ((setIt b (p + 1) j).map eBool)), (4, .int .i64 ((1 + m : Nat) - (j : Int)))]) (fun j => 1 + m - j) 0 (Nat.zero_le _) ?_ ?_
  · simp -implicitDefEqProofs (maxSteps := 100000) (disch := first | (intros; contradiction) | omega) only [am0, am1, am2, am3, am4, am5, am6, am7, am8, am9, Nat.reduceSub, ↓reduceIte, reduceCtorEq, Nat.reduceEqDiff, Nat.reduceBEq, Nat.reduceAdd, Nat.reduceLT, Nat.reduceBNe, Nat.reduceMul, ↓reduceIte, tis, fls, e0]
  · intro j hj'
    by_cases hj : j < 1 + m
    · have hl := setIt_len b (p + 1) j
      have c1 := cN1 j (by omega)
      have c2 := cN2 j (by omega)
      have h1 := loV_b b (p + 1 + 2 * j)
      have h2 := by7_b b (p + 1 + 2 * j + 1)
      have h3 := hiV_b b (p + 1 + 2 * j)
      have e3 : hiV b (p + 1 + 2 * j) = if 255 < loV b (p + 1 + 2 * j) + numV b (p + 1 + 2 * j + 1) by7 then 255 else loV b (p + 1 + 2 * j) + numV b (p + 1 + 2 * j + 1) by7 := rfl
      have eS : setIt b (p + 1) (j + 1) = fillR (setIt b (p + 1) j) (loV b (p + 1 + 2 * j)).toNat ((hiV b (p + 1 + 2 * j)).toNat + 1 - (loV b (p + 1 + 2 * j)).toNat) := rfl
      have cM := fits_l1Min 255 (loV b (p + 1 + 2 * j) + numV b (p + 1 + 2 * j + 1) by7)
      rw [← e3] at cM
      rw [show numV b (p + 1 + 2 * j) lo9 = loV b (p + 1 + 2 * j) from rfl] at c1
      generalize hiV b (p + 1 + 2 * j) = hi at *
      generalize loV b (p + 1 + 2 * j) = lo at *
      generalize numV b (p + 1 + 2 * j + 1) by7 = dl at *
      generalize setIt b (p + 1) j = bs at *
      obtain ⟨lo, rfl⟩ : ∃ n : Nat, lo = n := ⟨lo.toNat, by omega⟩
      obtain ⟨hi, rfl⟩ : ∃ n : Nat, hi = n := ⟨hi.toNat, by omega⟩
      rw [Int.toNat_natCast, Int.toNat_natCast] at eS
      simp -implicitDefEqProofs (maxSteps := 100000) (disch := first | (intros; contradiction) | omega) only [am0, am1, am2, am3, am4, am5, am6, am7, am8, am9, Nat.reduceSub, ↓reduceIte, reduceCtorEq, Nat.reduceEqDiff, Nat.reduceBEq, Nat.reduceAdd, Nat.reduceLT, Nat.reduceBNe, Nat.reduceMul, ↓reduceIte, tis, fls]
      refine callMF [(17, [])] 0 c1 ?_
      simp -implicitDefEqProofs (maxSteps := 100000) (disch := first | (intros; contradiction) | omega) only [am0, am1, am2, am3, am4, am5, am6, am7, am8, am9, Nat.reduceSub, ↓reduceIte, reduceCtorEq, Nat.reduceEqDiff, Nat.reduceBEq, Nat.reduceAdd, Nat.reduceLT, Nat.reduceBNe, Nat.reduceMul, ↓reduceIte, tis, fls, List.dropLast_singleton, lo9, eInt]
      refine callMF [(21, [])] 0 c2 ?_
      simp -implicitDefEqProofs (maxSteps := 100000) (disch := first | (intros; contradiction) | omega) only [am0, am1, am2, am3, am4, am5, am6, am7, am8, am9, Nat.reduceSub, ↓reduceIte, reduceCtorEq, Nat.reduceEqDiff, Nat.reduceBEq, Nat.reduceAdd, Nat.reduceLT, Nat.reduceBNe, Nat.reduceMul, ↓reduceIte, tis, fls, List.dropLast_singleton, by7, eInt]
      refine callB cM ?_
      simp -implicitDefEqProofs (maxSteps := 100000) (disch := first | (intros; contradiction) | omega) only [am0, am1, am2, am3, am4, am5, am6, am7, am8, am9, Nat.reduceSub, ↓reduceIte, reduceCtorEq, Nat.reduceEqDiff, Nat.reduceBEq, Nat.reduceAdd, Nat.reduceLT, Nat.reduceBNe, Nat.reduceMul, ↓reduceIte, tis, fls]
      refine run_loop (α := Nat) (fun i => i ≤ hi + 1 - lo) (fun i => [(0, .box (.agg [.sl false 1 (bytesA b), .int .i64 (p + 1 + 2 * (j + 1) : Nat)])), (3, .sl true 1 ((fillR bs lo i).map eBool)), (4, .int .i64 ((1 + m : Nat) - (j : Int))), (6, .int .i64 hi), (7, .int .i64 ((lo : Int) + i))]) (fun i => hi + 1 - lo - i) 0 (Nat.zero_le _) ?_ ?_
      · simp -implicitDefEqProofs (maxSteps := 100000) (disch := first | (intros; contradiction) | omega) only [am0, am1, am2, am3, am4, am5, am6, am7, am8, am9, Nat.reduceSub, ↓reduceIte, reduceCtorEq, Nat.reduceEqDiff, Nat.reduceBEq, Nat.reduceAdd, Nat.reduceLT, Nat.reduceBNe, Nat.reduceMul, ↓reduceIte, tis, fls, fillR]
        try omega
      · intro i hi'
        have hfl := fillR_len bs lo i
        by_cases hi2 : i < hi + 1 - lo
        · have ei : ((lo : Int) + i).toNat = lo + i := by omega
          have eB : ∀ x, ncells (eBool x) = 1 := fun _ => rfl
          have eB2 := setBool (fillR bs lo i) (lo + i) true
          simp -implicitDefEqProofs (maxSteps := 100000) (disch := first | (intros; contradiction) | omega) only [am0, am1, am2, am3, am4, am5, am6, am7, am8, am9, Nat.reduceSub, ↓reduceIte, reduceCtorEq, Nat.reduceEqDiff, Nat.reduceBEq, Nat.reduceAdd, Nat.reduceLT, Nat.reduceBNe, Nat.reduceMul, ↓reduceIte, tis, fls, ei, hl, hfl, eB, eB2]
          refine round_normal (i + 1) (by omega) ?_ (by show hi + 1 - lo - (i + 1) < hi + 1 - lo - i; omega)
          simp -implicitDefEqProofs (maxSteps := 100000) (disch := first | (intros; contradiction) | omega) only [am0, am1, am2, am3, am4, am5, am6, am7, am8, am9, Nat.reduceSub, ↓reduceIte, reduceCtorEq, Nat.reduceEqDiff, Nat.reduceBEq, Nat.reduceAdd, Nat.reduceLT, Nat.reduceBNe, Nat.reduceMul, ↓reduceIte, tis, fillR]
          omega
        · obtain rfl : i = hi + 1 - lo := by omega
          simp -implicitDefEqProofs (maxSteps := 100000) (disch := first | (intros; contradiction) | omega) only [am0, am1, am2, am3, am4, am5, am6, am7, am8, am9, Nat.reduceSub, ↓reduceIte, reduceCtorEq, Nat.reduceEqDiff, Nat.reduceBEq, Nat.reduceAdd, Nat.reduceLT, Nat.reduceBNe, Nat.reduceMul, ↓reduceIte, tis, fls]
          refine round_normal (j + 1) (by omega) ?_ (by show 1 + m - (j + 1) < 1 + m - j; omega)
          simp -implicitDefEqProofs (maxSteps := 100000) (disch := first | (intros; contradiction) | omega) only [am0, am1, am2, am3, am4, am5, am6, am7, am8, am9, Nat.reduceSub, ↓reduceIte, reduceCtorEq, Nat.reduceEqDiff, Nat.reduceBEq, Nat.reduceAdd, Nat.reduceLT, Nat.reduceBNe, Nat.reduceMul, ↓reduceIte, tis, eS]
          try omega
    · obtain rfl : j = 1 + m := by omega
      simp -implicitDefEqProofs (maxSteps := 100000) (disch := first | (intros; contradiction) | omega) only [am0, am1, am2, am3, am4, am5, am6, am7, am8, am9, Nat.reduceSub, ↓reduceIte, reduceCtorEq, Nat.reduceEqDiff, Nat.reduceBEq, Nat.reduceAdd, Nat.reduceLT, Nat.reduceBNe, Nat.reduceMul, ↓reduceIte, tis, fls]
      refine callB cO ?_
      simp -implicitDefEqProofs (maxSteps := 100000) (disch := first | (intros; contradiction) | omega) only [am0, am1, am2, am3, am4, am5, am6, am7, am8, am9, Nat.reduceSub, ↓reduceIte, reduceCtorEq, Nat.reduceEqDiff, Nat.reduceBEq, Nat.reduceAdd, Nat.reduceLT, Nat.reduceBNe, Nat.reduceMul, ↓reduceIte, tis, fls]
/-- spec.l13Swap -/
theorem fits_l13Swap (r : Rex) (d : Nat) (hf : fm d r = true) (hb : bd r ≤ 1048576) (a b : Nat) (ha : a < 256) (hbb : b < 256) : Fits prog 99 [eRex false r, .int .i64 a, .int .i64 b] (eRex true (swapR a b r)) [] := by
  induction d generalizing r with
  | zero => simp [fm] at hf
  | succ d ih =>
    have hb' := bd_eq r
    have h4 := (fm_ok hf).2.2.2
    have cS := fits_l13Set r.set a b ha hbb (by omega)
    have hSl : (swap1 r a b).length ≤ 256 := by
      unfold swap1; split
      · exact spN_len _ 256
      · simp
    have hS : (r.kind = 1 → swap1 r a b = spansL (swapB (bitsL r.set) a b)) ∧ (r.kind ≠ 1 → swap1 r a b = []) := ⟨fun h => by simp [swap1, h], fun h => by simp [swap1, h]⟩
    rw [eRex_eq, swapR_eq, eRex]
    rw [show (if r.kind = 1 then spansL (swapB (bitsL r.set) a b) else []) = swap1 r a b from rfl]
    generalize swap1 r a b = S1 at *
    refine fits_of_cell 6 26 [] [0, 1, 2, 3, 6, 7, 8, 14, 25] func99 rfl rfl rfl (by show 6 < 42; decide) (by show 3 ≤ 42; decide) (by rfl) (by rfl) (by show 0 ≤ 3; decide) (by rfl) (run_of ?_)
    by_cases h1 : r.kind = 1
    · have hS := hS.1 h1
      rw [← hS] at cS
      simp -implicitDefEqProofs (maxSteps := 100000) (disch := first | (intros; contradiction) | omega) only [am0, am1, am2, am3, am4, am5, am6, am7, am8, am9, Nat.reduceSub, ↓reduceIte, reduceCtorEq, Nat.reduceEqDiff, Nat.reduceBEq, Nat.reduceAdd, Nat.reduceLT, Nat.reduceBNe, Nat.reduceMul, ↓reduceIte, tis, h1]
      refine callB cS ?_
      simp -implicitDefEqProofs (maxSteps := 100000) (disch := first | (intros; contradiction) | omega) only [am0, am1, am2, am3, am4, am5, am6, am7, am8, am9, Nat.reduceSub, ↓reduceIte, reduceCtorEq, Nat.reduceEqDiff, Nat.reduceBEq, Nat.reduceAdd, Nat.reduceLT, Nat.reduceBNe, Nat.reduceMul, ↓reduceIte, tis, h1, fls]
      refine run_loop (α := Nat) (fun i => i ≤ r.kids.length) (fun i => [(1, .int .i64 a), (2, .int .i64 b), (3, .box (.agg [.int .i64 r.kind, .sl false 2 (r.set.map eSpan), .sl false 3 (r.kids.map (eRex false))])), (6, .box (.agg [.int .i64 0, .sl true 0 [], .sl true 0 []])), (7, .box (.agg [.int .i64 r.kind, .sl true 2 (S1.map eSpan), .sl true 3 ((r.kids.take i).map (fun x => eRex true (swapR a b x)))])), (8, .int .i64 i)]) (fun i => r.kids.length - i) 0 (Nat.zero_le _) ?_ ?_
      · simp -implicitDefEqProofs (maxSteps := 100000) (disch := first | (intros; contradiction) | omega) only [am0, am1, am2, am3, am4, am5, am6, am7, am8, am9, Nat.reduceSub, ↓reduceIte, reduceCtorEq, Nat.reduceEqDiff, Nat.reduceBEq, Nat.reduceAdd, Nat.reduceLT, Nat.reduceBNe, Nat.reduceMul, ↓reduceIte, tis, h1, List.map_nil]
      · intro i hi'
        by_cases hi : i < r.kids.length
        · have hm := List.getElem_mem hi
          have cF := ih r.kids[i] (h4 _ hm) (Nat.le_trans (bd_kid hm) hb)
          rw [eRex_eq false r.kids[i], eRex_eq true (swapR a b r.kids[i])] at cF
          simp -implicitDefEqProofs (maxSteps := 100000) (disch := first | (intros; contradiction) | omega) only [am0, am1, am2, am3, am4, am5, am6, am7, am8, am9, Nat.reduceSub, ↓reduceIte, reduceCtorEq, Nat.reduceEqDiff, Nat.reduceBEq, Nat.reduceAdd, Nat.reduceLT, Nat.reduceBNe, Nat.reduceMul, ↓reduceIte, tis, rx, fls, eRex_eq false r.kids[i]]
          refine .inl ⟨by kernel_rfl, ?_⟩
          refine callL cF ?_
          have hlt : (r.kids.take i).length = i := by simp; omega
          simp -implicitDefEqProofs (maxSteps := 100000) (disch := first | (intros; contradiction) | omega) only [am0, am1, am2, am3, am4, am5, am6, am7, am8, am9, Nat.reduceSub, ↓reduceIte, reduceCtorEq, Nat.reduceEqDiff, Nat.reduceBEq, Nat.reduceAdd, Nat.reduceLT, Nat.reduceBNe, Nat.reduceMul, ↓reduceIte, tis, rx, fls, hlt]
          refine round_normal (i + 1) (by omega) ?_ (by show r.kids.length - (i + 1) < r.kids.length - i; omega)
          rw [List.take_succ_eq_append_getElem hi, List.map_append, List.map_cons, List.map_nil, eRex_eq true (swapR a b r.kids[i])]
          simp -implicitDefEqProofs (maxSteps := 100000) (disch := first | (intros; contradiction) | omega) only [am0, am1, am2, am3, am4, am5, am6, am7, am8, am9, Nat.reduceSub, ↓reduceIte, reduceCtorEq, Nat.reduceEqDiff, Nat.reduceBEq, Nat.reduceAdd, Nat.reduceLT, Nat.reduceBNe, Nat.reduceMul, ↓reduceIte, tis]
        · obtain rfl : i = r.kids.length := by omega
          have e : (r.kids.map (swapR a b)).map (eRex true) = r.kids.map (fun x => eRex true (swapR a b x)) := by rw [List.map_map]; rfl
          simp -implicitDefEqProofs (maxSteps := 100000) (disch := first | (intros; contradiction) | omega) only [am0, am1, am2, am3, am4, am5, am6, am7, am8, am9, Nat.reduceSub, ↓reduceIte, reduceCtorEq, Nat.reduceEqDiff, Nat.reduceBEq, Nat.reduceAdd, Nat.reduceLT, Nat.reduceBNe, Nat.reduceMul, ↓reduceIte, tis, h1, e, rx, fls]
    · have hS := hS.2 h1
      simp -implicitDefEqProofs (maxSteps := 100000) (disch := first | (intros; contradiction) | omega) only [am0, am1, am2, am3, am4, am5, am6, am7, am8, am9, Nat.reduceSub, ↓reduceIte, reduceCtorEq, Nat.reduceEqDiff, Nat.reduceBEq, Nat.reduceAdd, Nat.reduceLT, Nat.reduceBNe, Nat.reduceMul, ↓reduceIte, tis, h1]
      refine run_loop (α := Nat) (fun i => i ≤ r.kids.length) (fun i => [(1, .int .i64 a), (2, .int .i64 b), (3, .box (.agg [.int .i64 r.kind, .sl false 2 (r.set.map eSpan), .sl false 3 (r.kids.map (eRex false))])), (6, .box (.agg [.int .i64 0, .sl true 0 [], .sl true 0 []])), (7, .box (.agg [.int .i64 r.kind, .sl true 2 (S1.map eSpan), .sl true 3 ((r.kids.take i).map (fun x => eRex true (swapR a b x)))])), (8, .int .i64 i)]) (fun i => r.kids.length - i) 0 (Nat.zero_le _) ?_ ?_
      · simp -implicitDefEqProofs (maxSteps := 100000) (disch := first | (intros; contradiction) | omega) only [am0, am1, am2, am3, am4, am5, am6, am7, am8, am9, Nat.reduceSub, ↓reduceIte, reduceCtorEq, Nat.reduceEqDiff, Nat.reduceBEq, Nat.reduceAdd, Nat.reduceLT, Nat.reduceBNe, Nat.reduceMul, ↓reduceIte, tis, h1, hS, List.map_nil]
      · intro i hi'
        by_cases hi : i < r.kids.length
        · have hm := List.getElem_mem hi
          have cF := ih r.kids[i] (h4 _ hm) (Nat.le_trans (bd_kid hm) hb)
          rw [eRex_eq false r.kids[i], eRex_eq true (swapR a b r.kids[i])] at cF
          simp -implicitDefEqProofs (maxSteps := 100000) (disch := first | (intros; contradiction) | omega) only [am0, am1, am2, am3, am4, am5, am6, am7, am8, am9, Nat.reduceSub, ↓reduceIte, reduceCtorEq, Nat.reduceEqDiff, Nat.reduceBEq, Nat.reduceAdd, Nat.reduceLT, Nat.reduceBNe, Nat.reduceMul, ↓reduceIte, tis, rx, fls, eRex_eq false r.kids[i]]
          refine .inl ⟨by kernel_rfl, ?_⟩
          refine callL cF ?_
          have hlt : (r.kids.take i).length = i := by simp; omega
          simp -implicitDefEqProofs (maxSteps := 100000) (disch := first | (intros; contradiction) | omega) only [am0, am1, am2, am3, am4, am5, am6, am7, am8, am9, Nat.reduceSub, ↓reduceIte, reduceCtorEq, Nat.reduceEqDiff, Nat.reduceBEq, Nat.reduceAdd, Nat.reduceLT, Nat.reduceBNe, Nat.reduceMul, ↓reduceIte, tis, rx, fls, hlt]
          refine round_normal (i + 1) (by omega) ?_ (by show r.kids.length - (i + 1) < r.kids.length - i; omega)
          rw [List.take_succ_eq_append_getElem hi, List.map_append, List.map_cons, List.map_nil, eRex_eq true (swapR a b r.kids[i])]
          simp -implicitDefEqProofs (maxSteps := 100000) (disch := first | (intros; contradiction) | omega) only [am0, am1, am2, am3, am4, am5, am6, am7, am8, am9, Nat.reduceSub, ↓reduceIte, reduceCtorEq, Nat.reduceEqDiff, Nat.reduceBEq, Nat.reduceAdd, Nat.reduceLT, Nat.reduceBNe, Nat.reduceMul, ↓reduceIte, tis]
        · obtain rfl : i = r.kids.length := by omega
          have e : (r.kids.map (swapR a b)).map (eRex true) = r.kids.map (fun x => eRex true (swapR a b x)) := by rw [List.map_map]; rfl
          simp -implicitDefEqProofs (maxSteps := 100000) (disch := first | (intros; contradiction) | omega) only [am0, am1, am2, am3, am4, am5, am6, am7, am8, am9, Nat.reduceSub, ↓reduceIte, reduceCtorEq, Nat.reduceEqDiff, Nat.reduceBEq, Nat.reduceAdd, Nat.reduceLT, Nat.reduceBNe, Nat.reduceMul, ↓reduceIte, tis, h1, e, rx, fls]
def swapP (r : Rex) (a b : Int) : Rex := if rexB r = true ∧ (0 ≤ a ∧ a ≤ 255) ∧ (0 ≤ b ∧ b ≤ 255) then swapR a.toNat b.toNat r else zRex
/-- impl.TurnSwap -/
theorem fits_turnSwap (r : Rex) (hb : bd r ≤ 1048576) (a b : Int) : Fits prog 35 [eRex false r, .int .i64 a, .int .i64 b] (eRex true (swapP r a b)) [] := by
  have cO := fits_rexOk r hb
  have cA := fits_in a 0 255
  have cB := fits_in b 0 255
  by_cases hg : rexB r = true ∧ (0 ≤ a ∧ a ≤ 255) ∧ (0 ≤ b ∧ b ≤ 255)
  · obtain ⟨h, ha, hbb⟩ := id hg
    have e : swapP r a b = swapR a.toNat b.toNat r := by simp only [swapP, if_pos hg]
    obtain ⟨a, rfl⟩ : ∃ n : Nat, a = n := ⟨a.toNat, by omega⟩
    obtain ⟨b, rfl⟩ : ∃ n : Nat, b = n := ⟨b.toNat, by omega⟩
    rw [h] at cO
    rw [decide_eq_true ha] at cA
    rw [decide_eq_true hbb] at cB
    rw [e, show Int.toNat (a : Int) = a from rfl, show Int.toNat (b : Int) = b from rfl]
    have hps : ps r ≤ 24 := by simp only [rexB, Bool.and_eq_true, decide_eq_true_eq] at h; exact h.2
    have hbs := bd_swap a b r
    have cT := fits_swapped r 8 (rexB_fm h) hb a b (by omega) (by omega)
    have cC := fits_rexCopy (swapR a b r) (by omega)
    simp only [eRex_eq] at *
    refine fits_of_cell 6 26 [] [0, 1, 2, 3, 6, 19] func35 rfl rfl rfl (by show 6 < 26; decide) (by show 3 ≤ 26; decide) (by rfl) (by rfl) (by show 0 ≤ 3; decide) (by rfl) (run_of ?_)
    simp -implicitDefEqProofs (maxSteps := 100000) (disch := first | (intros; contradiction) | omega) only [am0, am1, am2, am3, am4, am5, am6, am7, am8, am9, Nat.reduceSub, ↓reduceIte, reduceCtorEq, Nat.reduceEqDiff, Nat.reduceBEq, Nat.reduceAdd, Nat.reduceLT, Nat.reduceBNe, Nat.reduceMul, ↓reduceIte, tis, fls, rx]
    refine callB cO ?_
    simp -implicitDefEqProofs (maxSteps := 100000) (disch := first | (intros; contradiction) | omega) only [am0, am1, am2, am3, am4, am5, am6, am7, am8, am9, Nat.reduceSub, ↓reduceIte, reduceCtorEq, Nat.reduceEqDiff, Nat.reduceBEq, Nat.reduceAdd, Nat.reduceLT, Nat.reduceBNe, Nat.reduceMul, ↓reduceIte, tis, fls, rx]
    refine callB cA ?_
    simp -implicitDefEqProofs (maxSteps := 100000) (disch := first | (intros; contradiction) | omega) only [am0, am1, am2, am3, am4, am5, am6, am7, am8, am9, Nat.reduceSub, ↓reduceIte, reduceCtorEq, Nat.reduceEqDiff, Nat.reduceBEq, Nat.reduceAdd, Nat.reduceLT, Nat.reduceBNe, Nat.reduceMul, ↓reduceIte, tis, fls, rx]
    refine callB cB ?_
    simp -implicitDefEqProofs (maxSteps := 100000) (disch := first | (intros; contradiction) | omega) only [am0, am1, am2, am3, am4, am5, am6, am7, am8, am9, Nat.reduceSub, ↓reduceIte, reduceCtorEq, Nat.reduceEqDiff, Nat.reduceBEq, Nat.reduceAdd, Nat.reduceLT, Nat.reduceBNe, Nat.reduceMul, ↓reduceIte, tis, fls, rx]
    refine callB cT ?_
    simp -implicitDefEqProofs (maxSteps := 100000) (disch := first | (intros; contradiction) | omega) only [am0, am1, am2, am3, am4, am5, am6, am7, am8, am9, Nat.reduceSub, ↓reduceIte, reduceCtorEq, Nat.reduceEqDiff, Nat.reduceBEq, Nat.reduceAdd, Nat.reduceLT, Nat.reduceBNe, Nat.reduceMul, ↓reduceIte, tis, fls, rx]
    refine callB cC ?_
    simp -implicitDefEqProofs (maxSteps := 100000) (disch := first | (intros; contradiction) | omega) only [am0, am1, am2, am3, am4, am5, am6, am7, am8, am9, Nat.reduceSub, ↓reduceIte, reduceCtorEq, Nat.reduceEqDiff, Nat.reduceBEq, Nat.reduceAdd, Nat.reduceLT, Nat.reduceBNe, Nat.reduceMul, ↓reduceIte, tis, fls, rx]
  · have e : swapP r a b = zRex := by simp only [swapP, if_neg hg]
    rw [e, eRex_eq, eRex_eq] at *
    cases h : rexB r with
    | false =>
      rw [h] at cO
      refine fits_of_cell 6 26 [] [0, 1, 2, 3, 6, 19] func35 rfl rfl rfl (by show 6 < 26; decide) (by show 3 ≤ 26; decide) (by rfl) (by rfl) (by show 0 ≤ 3; decide) (by rfl) (run_of ?_)
      simp -implicitDefEqProofs (maxSteps := 100000) (disch := first | (intros; contradiction) | omega) only [am0, am1, am2, am3, am4, am5, am6, am7, am8, am9, Nat.reduceSub, ↓reduceIte, reduceCtorEq, Nat.reduceEqDiff, Nat.reduceBEq, Nat.reduceAdd, Nat.reduceLT, Nat.reduceBNe, Nat.reduceMul, ↓reduceIte, tis]
      refine callB cO ?_
      simp -implicitDefEqProofs (maxSteps := 100000) (disch := first | (intros; contradiction) | omega) only [am0, am1, am2, am3, am4, am5, am6, am7, am8, am9, Nat.reduceSub, ↓reduceIte, reduceCtorEq, Nat.reduceEqDiff, Nat.reduceBEq, Nat.reduceAdd, Nat.reduceLT, Nat.reduceBNe, Nat.reduceMul, ↓reduceIte, tis, zRex, Rex.kind, Rex.set, Rex.kids, List.map_nil]
    | true =>
      rw [h] at cO
      by_cases ha : 0 ≤ a ∧ a ≤ 255
      · by_cases hbb : 0 ≤ b ∧ b ≤ 255
        · exact absurd ⟨h, ha, hbb⟩ hg
        · rw [decide_eq_true ha] at cA
          rw [decide_eq_false hbb] at cB
          refine fits_of_cell 6 26 [] [0, 1, 2, 3, 6, 19] func35 rfl rfl rfl (by show 6 < 26; decide) (by show 3 ≤ 26; decide) (by rfl) (by rfl) (by show 0 ≤ 3; decide) (by rfl) (run_of ?_)
          simp -implicitDefEqProofs (maxSteps := 100000) (disch := first | (intros; contradiction) | omega) only [am0, am1, am2, am3, am4, am5, am6, am7, am8, am9, Nat.reduceSub, ↓reduceIte, reduceCtorEq, Nat.reduceEqDiff, Nat.reduceBEq, Nat.reduceAdd, Nat.reduceLT, Nat.reduceBNe, Nat.reduceMul, ↓reduceIte, tis]
          refine callB cO ?_
          simp -implicitDefEqProofs (maxSteps := 100000) (disch := first | (intros; contradiction) | omega) only [am0, am1, am2, am3, am4, am5, am6, am7, am8, am9, Nat.reduceSub, ↓reduceIte, reduceCtorEq, Nat.reduceEqDiff, Nat.reduceBEq, Nat.reduceAdd, Nat.reduceLT, Nat.reduceBNe, Nat.reduceMul, ↓reduceIte, tis]
          refine callB cA ?_
          simp -implicitDefEqProofs (maxSteps := 100000) (disch := first | (intros; contradiction) | omega) only [am0, am1, am2, am3, am4, am5, am6, am7, am8, am9, Nat.reduceSub, ↓reduceIte, reduceCtorEq, Nat.reduceEqDiff, Nat.reduceBEq, Nat.reduceAdd, Nat.reduceLT, Nat.reduceBNe, Nat.reduceMul, ↓reduceIte, tis]
          refine callB cB ?_
          simp -implicitDefEqProofs (maxSteps := 100000) (disch := first | (intros; contradiction) | omega) only [am0, am1, am2, am3, am4, am5, am6, am7, am8, am9, Nat.reduceSub, ↓reduceIte, reduceCtorEq, Nat.reduceEqDiff, Nat.reduceBEq, Nat.reduceAdd, Nat.reduceLT, Nat.reduceBNe, Nat.reduceMul, ↓reduceIte, tis, zRex, Rex.kind, Rex.set, Rex.kids, List.map_nil]
      · rw [decide_eq_false ha] at cA
        refine fits_of_cell 6 26 [] [0, 1, 2, 3, 6, 19] func35 rfl rfl rfl (by show 6 < 26; decide) (by show 3 ≤ 26; decide) (by rfl) (by rfl) (by show 0 ≤ 3; decide) (by rfl) (run_of ?_)
        simp -implicitDefEqProofs (maxSteps := 100000) (disch := first | (intros; contradiction) | omega) only [am0, am1, am2, am3, am4, am5, am6, am7, am8, am9, Nat.reduceSub, ↓reduceIte, reduceCtorEq, Nat.reduceEqDiff, Nat.reduceBEq, Nat.reduceAdd, Nat.reduceLT, Nat.reduceBNe, Nat.reduceMul, ↓reduceIte, tis]
        refine callB cO ?_
        simp -implicitDefEqProofs (maxSteps := 100000) (disch := first | (intros; contradiction) | omega) only [am0, am1, am2, am3, am4, am5, am6, am7, am8, am9, Nat.reduceSub, ↓reduceIte, reduceCtorEq, Nat.reduceEqDiff, Nat.reduceBEq, Nat.reduceAdd, Nat.reduceLT, Nat.reduceBNe, Nat.reduceMul, ↓reduceIte, tis]
        refine callB cA ?_
        simp -implicitDefEqProofs (maxSteps := 100000) (disch := first | (intros; contradiction) | omega) only [am0, am1, am2, am3, am4, am5, am6, am7, am8, am9, Nat.reduceSub, ↓reduceIte, reduceCtorEq, Nat.reduceEqDiff, Nat.reduceBEq, Nat.reduceAdd, Nat.reduceLT, Nat.reduceBNe, Nat.reduceMul, ↓reduceIte, tis, zRex, Rex.kind, Rex.set, Rex.kids, List.map_nil]
/-- spec.TurnSwap -/
theorem fits_sTurnSwap (r : Rex) (hb : bd r ≤ 1048576) (a b : Int) : Fits prog 36 [eRex false r, .int .i64 a, .int .i64 b] (eRex true (swapP r a b)) [] := by
  have cO := fits_sRexOk r hb
  by_cases hg : rexB r = true ∧ (0 ≤ a ∧ a ≤ 255) ∧ (0 ≤ b ∧ b ≤ 255)
  · obtain ⟨h, ha, hbb⟩ := id hg
    have e : swapP r a b = swapR a.toNat b.toNat r := by simp only [swapP, if_pos hg]
    obtain ⟨a, rfl⟩ : ∃ n : Nat, a = n := ⟨a.toNat, by omega⟩
    obtain ⟨b, rfl⟩ : ∃ n : Nat, b = n := ⟨b.toNat, by omega⟩
    rw [h] at cO
    rw [e, show Int.toNat (a : Int) = a from rfl, show Int.toNat (b : Int) = b from rfl]
    have cT := fits_l13Swap r 8 (rexB_fm h) hb a b (by omega) (by omega)
    simp only [eRex_eq] at *
    refine fits_of_cell 6 26 [] [0, 1, 2, 3, 6, 25] func36 rfl rfl rfl (by show 6 < 31; decide) (by show 3 ≤ 31; decide) (by rfl) (by rfl) (by show 0 ≤ 3; decide) (by rfl) (run_of ?_)
    simp -implicitDefEqProofs (maxSteps := 100000) (disch := first | (intros; contradiction) | omega) only [am0, am1, am2, am3, am4, am5, am6, am7, am8, am9, Nat.reduceSub, ↓reduceIte, reduceCtorEq, Nat.reduceEqDiff, Nat.reduceBEq, Nat.reduceAdd, Nat.reduceLT, Nat.reduceBNe, Nat.reduceMul, ↓reduceIte, tis, fls, rx]
    refine callB cO ?_
    simp -implicitDefEqProofs (maxSteps := 100000) (disch := first | (intros; contradiction) | omega) only [am0, am1, am2, am3, am4, am5, am6, am7, am8, am9, Nat.reduceSub, ↓reduceIte, reduceCtorEq, Nat.reduceEqDiff, Nat.reduceBEq, Nat.reduceAdd, Nat.reduceLT, Nat.reduceBNe, Nat.reduceMul, ↓reduceIte, tis, fls, rx]
    refine callB cT ?_
    simp -implicitDefEqProofs (maxSteps := 100000) (disch := first | (intros; contradiction) | omega) only [am0, am1, am2, am3, am4, am5, am6, am7, am8, am9, Nat.reduceSub, ↓reduceIte, reduceCtorEq, Nat.reduceEqDiff, Nat.reduceBEq, Nat.reduceAdd, Nat.reduceLT, Nat.reduceBNe, Nat.reduceMul, ↓reduceIte, tis, fls, rx]
  · have e : swapP r a b = zRex := by simp only [swapP, if_neg hg]
    rw [e, eRex_eq, eRex_eq] at *
    cases h : rexB r with
    | false =>
      rw [h] at cO
      refine fits_of_cell 6 26 [] [0, 1, 2, 3, 6, 25] func36 rfl rfl rfl (by show 6 < 31; decide) (by show 3 ≤ 31; decide) (by rfl) (by rfl) (by show 0 ≤ 3; decide) (by rfl) (run_of ?_)
      simp -implicitDefEqProofs (maxSteps := 100000) (disch := first | (intros; contradiction) | omega) only [am0, am1, am2, am3, am4, am5, am6, am7, am8, am9, Nat.reduceSub, ↓reduceIte, reduceCtorEq, Nat.reduceEqDiff, Nat.reduceBEq, Nat.reduceAdd, Nat.reduceLT, Nat.reduceBNe, Nat.reduceMul, ↓reduceIte, tis]
      refine callB cO ?_
      simp -implicitDefEqProofs (maxSteps := 100000) (disch := first | (intros; contradiction) | omega) only [am0, am1, am2, am3, am4, am5, am6, am7, am8, am9, Nat.reduceSub, ↓reduceIte, reduceCtorEq, Nat.reduceEqDiff, Nat.reduceBEq, Nat.reduceAdd, Nat.reduceLT, Nat.reduceBNe, Nat.reduceMul, ↓reduceIte, tis, zRex, Rex.kind, Rex.set, Rex.kids, List.map_nil]
    | true =>
      rw [h] at cO
      have hg : ¬ ((0 ≤ a ∧ a ≤ 255) ∧ (0 ≤ b ∧ b ≤ 255)) := fun hh => hg ⟨h, hh⟩
      by_cases a1 : a < 0
      · refine fits_of_cell 6 26 [] [0, 1, 2, 3, 6, 25] func36 rfl rfl rfl (by show 6 < 31; decide) (by show 3 ≤ 31; decide) (by rfl) (by rfl) (by show 0 ≤ 3; decide) (by rfl) (run_of ?_)
        simp -implicitDefEqProofs (maxSteps := 100000) (disch := first | (intros; contradiction) | omega) only [am0, am1, am2, am3, am4, am5, am6, am7, am8, am9, Nat.reduceSub, ↓reduceIte, reduceCtorEq, Nat.reduceEqDiff, Nat.reduceBEq, Nat.reduceAdd, Nat.reduceLT, Nat.reduceBNe, Nat.reduceMul, ↓reduceIte, tis]
        refine callB cO ?_
        simp -implicitDefEqProofs (maxSteps := 100000) (disch := first | (intros; contradiction) | omega) only [am0, am1, am2, am3, am4, am5, am6, am7, am8, am9, Nat.reduceSub, ↓reduceIte, reduceCtorEq, Nat.reduceEqDiff, Nat.reduceBEq, Nat.reduceAdd, Nat.reduceLT, Nat.reduceBNe, Nat.reduceMul, ↓reduceIte, tis, zRex, Rex.kind, Rex.set, Rex.kids, List.map_nil]
      by_cases a2 : 255 < a
      · refine fits_of_cell 6 26 [] [0, 1, 2, 3, 6, 25] func36 rfl rfl rfl (by show 6 < 31; decide) (by show 3 ≤ 31; decide) (by rfl) (by rfl) (by show 0 ≤ 3; decide) (by rfl) (run_of ?_)
        simp -implicitDefEqProofs (maxSteps := 100000) (disch := first | (intros; contradiction) | omega) only [am0, am1, am2, am3, am4, am5, am6, am7, am8, am9, Nat.reduceSub, ↓reduceIte, reduceCtorEq, Nat.reduceEqDiff, Nat.reduceBEq, Nat.reduceAdd, Nat.reduceLT, Nat.reduceBNe, Nat.reduceMul, ↓reduceIte, tis]
        refine callB cO ?_
        simp -implicitDefEqProofs (maxSteps := 100000) (disch := first | (intros; contradiction) | omega) only [am0, am1, am2, am3, am4, am5, am6, am7, am8, am9, Nat.reduceSub, ↓reduceIte, reduceCtorEq, Nat.reduceEqDiff, Nat.reduceBEq, Nat.reduceAdd, Nat.reduceLT, Nat.reduceBNe, Nat.reduceMul, ↓reduceIte, tis, zRex, Rex.kind, Rex.set, Rex.kids, List.map_nil]
      by_cases a3 : b < 0
      · refine fits_of_cell 6 26 [] [0, 1, 2, 3, 6, 25] func36 rfl rfl rfl (by show 6 < 31; decide) (by show 3 ≤ 31; decide) (by rfl) (by rfl) (by show 0 ≤ 3; decide) (by rfl) (run_of ?_)
        simp -implicitDefEqProofs (maxSteps := 100000) (disch := first | (intros; contradiction) | omega) only [am0, am1, am2, am3, am4, am5, am6, am7, am8, am9, Nat.reduceSub, ↓reduceIte, reduceCtorEq, Nat.reduceEqDiff, Nat.reduceBEq, Nat.reduceAdd, Nat.reduceLT, Nat.reduceBNe, Nat.reduceMul, ↓reduceIte, tis]
        refine callB cO ?_
        simp -implicitDefEqProofs (maxSteps := 100000) (disch := first | (intros; contradiction) | omega) only [am0, am1, am2, am3, am4, am5, am6, am7, am8, am9, Nat.reduceSub, ↓reduceIte, reduceCtorEq, Nat.reduceEqDiff, Nat.reduceBEq, Nat.reduceAdd, Nat.reduceLT, Nat.reduceBNe, Nat.reduceMul, ↓reduceIte, tis, zRex, Rex.kind, Rex.set, Rex.kids, List.map_nil]
      have a4 : 255 < b := by omega
      refine fits_of_cell 6 26 [] [0, 1, 2, 3, 6, 25] func36 rfl rfl rfl (by show 6 < 31; decide) (by show 3 ≤ 31; decide) (by rfl) (by rfl) (by show 0 ≤ 3; decide) (by rfl) (run_of ?_)
      simp -implicitDefEqProofs (maxSteps := 100000) (disch := first | (intros; contradiction) | omega) only [am0, am1, am2, am3, am4, am5, am6, am7, am8, am9, Nat.reduceSub, ↓reduceIte, reduceCtorEq, Nat.reduceEqDiff, Nat.reduceBEq, Nat.reduceAdd, Nat.reduceLT, Nat.reduceBNe, Nat.reduceMul, ↓reduceIte, tis]
      refine callB cO ?_
      simp -implicitDefEqProofs (maxSteps := 100000) (disch := first | (intros; contradiction) | omega) only [am0, am1, am2, am3, am4, am5, am6, am7, am8, am9, Nat.reduceSub, ↓reduceIte, reduceCtorEq, Nat.reduceEqDiff, Nat.reduceBEq, Nat.reduceAdd, Nat.reduceLT, Nat.reduceBNe, Nat.reduceMul, ↓reduceIte, tis, zRex, Rex.kind, Rex.set, Rex.kids, List.map_nil]
/-- spec.l2Copy -/
theorem fits_l2Copy (r : Rex) (hb : bd r ≤ 1048576) : Fits prog 136 [eRex false r] (eRex true r) [] := by
  induction r using Rex.ind' with
  | h r ih =>
    have hb' := bd_eq r
    rw [eRex_eq, eRex_eq]
    refine fits_of_cell 2 26 [] [0, 1, 2, 3, 4, 16] func136 rfl rfl rfl (by show 2 < 31; decide) (by show 1 ≤ 31; decide) (by rfl) (by rfl) (by show 0 ≤ 1; decide) (by rfl) (run_of ?_)
    simp -implicitDefEqProofs (maxSteps := 100000) (disch := first | (intros; contradiction) | omega) only [am0, am1, am2, am3, am4, am5, am6, am7, am8, am9, Nat.reduceSub, ↓reduceIte, reduceCtorEq, Nat.reduceEqDiff, Nat.reduceBEq, Nat.reduceAdd, Nat.reduceLT, Nat.reduceBNe, Nat.reduceMul, ↓reduceIte, tis]
    refine .inl ⟨by kernel_rfl, ?_⟩
    refine run_loop (α := Nat) (fun i => i ≤ r.kids.length) (fun i => [(1, .box (.agg [.int .i64 r.kind, .sl false 2 (r.set.map eSpan), .sl false 3 (r.kids.map (eRex false))])), (2, .box (.agg [.int .i64 0, .sl true 0 [], .sl true 0 []])), (3, .box (.agg [.int .i64 r.kind, .sl true 2 (r.set.map eSpan), .sl true 3 ((r.kids.take i).map (eRex true))])), (4, .int .i64 i)]) (fun i => r.kids.length - i) 0 (Nat.zero_le _) ?_ ?_
    · simp -implicitDefEqProofs (maxSteps := 100000) (disch := first | (intros; contradiction) | omega) only [am0, am1, am2, am3, am4, am5, am6, am7, am8, am9, Nat.reduceSub, ↓reduceIte, reduceCtorEq, Nat.reduceEqDiff, Nat.reduceBEq, Nat.reduceAdd, Nat.reduceLT, Nat.reduceBNe, Nat.reduceMul, ↓reduceIte, tis, List.map_nil]
    · intro i hi'
      by_cases hi : i < r.kids.length
      · have hm := List.getElem_mem hi
        have cF := ih r.kids[i] hm (Nat.le_trans (bd_kid hm) hb)
        rw [eRex_eq false r.kids[i], eRex_eq true r.kids[i]] at cF
        simp -implicitDefEqProofs (maxSteps := 100000) (disch := first | (intros; contradiction) | omega) only [am0, am1, am2, am3, am4, am5, am6, am7, am8, am9, Nat.reduceSub, ↓reduceIte, reduceCtorEq, Nat.reduceEqDiff, Nat.reduceBEq, Nat.reduceAdd, Nat.reduceLT, Nat.reduceBNe, Nat.reduceMul, ↓reduceIte, tis, rx, fls, eRex_eq false r.kids[i]]
        refine .inl ⟨by kernel_rfl, ?_⟩
        refine callL cF ?_
        have hlt : (r.kids.take i).length = i := by simp; omega
        simp -implicitDefEqProofs (maxSteps := 100000) (disch := first | (intros; contradiction) | omega) only [am0, am1, am2, am3, am4, am5, am6, am7, am8, am9, Nat.reduceSub, ↓reduceIte, reduceCtorEq, Nat.reduceEqDiff, Nat.reduceBEq, Nat.reduceAdd, Nat.reduceLT, Nat.reduceBNe, Nat.reduceMul, ↓reduceIte, tis, rx, fls, hlt]
        refine round_normal (i + 1) (by omega) ?_ (by show r.kids.length - (i + 1) < r.kids.length - i; omega)
        rw [List.take_succ_eq_append_getElem hi, List.map_append, List.map_cons, List.map_nil, eRex_eq true r.kids[i]]
        simp -implicitDefEqProofs (maxSteps := 100000) (disch := first | (intros; contradiction) | omega) only [am0, am1, am2, am3, am4, am5, am6, am7, am8, am9, Nat.reduceSub, ↓reduceIte, reduceCtorEq, Nat.reduceEqDiff, Nat.reduceBEq, Nat.reduceAdd, Nat.reduceLT, Nat.reduceBNe, Nat.reduceMul, ↓reduceIte, tis]
      · obtain rfl : i = r.kids.length := by omega
        simp -implicitDefEqProofs (maxSteps := 100000) (disch := first | (intros; contradiction) | omega) only [am0, am1, am2, am3, am4, am5, am6, am7, am8, am9, Nat.reduceSub, ↓reduceIte, reduceCtorEq, Nat.reduceEqDiff, Nat.reduceBEq, Nat.reduceAdd, Nat.reduceLT, Nat.reduceBNe, Nat.reduceMul, ↓reduceIte, tis, rx, fls]
def byteR (c : Int) : Rex := .mk 1 [⟨c, c⟩] []
/-- spec.l2Byte -/
theorem fits_l2Byte (c : Int) : Fits prog 175 [.int .i64 c] (eRex true (byteR c)) [] := by
  unfold byteR
  rw [eRex_eq]
  refine fits_of_cell 2 26 [] [0, 2] func175 rfl rfl rfl (by show 2 < 8; decide) (by show 1 ≤ 8; decide) (by rfl) (by rfl) (by show 0 ≤ 1; decide) (by rfl) (run_of ?_)
  simp -implicitDefEqProofs (maxSteps := 100000) (disch := first | (intros; contradiction) | omega) only [am0, am1, am2, am3, am4, am5, am6, am7, am8, am9, Nat.reduceSub, ↓reduceIte, reduceCtorEq, Nat.reduceEqDiff, Nat.reduceBEq, Nat.reduceAdd, Nat.reduceLT, Nat.reduceBNe, Nat.reduceMul, ↓reduceIte, tis, fls, Rex.kind, Rex.set, Rex.kids, List.map_nil, List.map_cons, eSpan]
def leafV (b : List UInt8) (p : Nat) : Rex × Nat :=
  if pickV b p 9 = 0 then (.mk 2 [] [], p + 1)
  else if pickV b p 9 = 1 then (.mk 1 [⟨97, 98⟩] [], p + 1)
  else if pickV b p 9 = 2 then (.mk 1 (setV b (p + 1)) [], setQ b (p + 1))
  else if pickV b p 9 = 3 then (if pickV b (p + 1) 3 = 0 then (.mk 1 [] [], p + 1 + 1) else (byteR (97 + pickV b (p + 1 + 1) 3), p + 1 + 1 + 1))
  else (byteR (97 + pickV b (p + 1) 3), p + 1 + 1)
theorem leafV_le (b : List UInt8) (p : Nat) : (leafV b p).2 ≤ p + 8 ∧ bd (leafV b p).1 ≤ 256 := by
  have h1 := setQ_le b (p + 1)
  have h2 := setV_len b (p + 1)
  unfold leafV
  split
  · exact ⟨by simp, by simp [bd]⟩
  · split
    · exact ⟨by simp, by simp [bd]⟩
    · split
      · exact ⟨by simp only; omega, by simp only [bd, List.map_nil, List.sum_nil, List.length_nil]; omega⟩
      · split
        · split
          · exact ⟨by simp, by simp [bd]⟩
          · exact ⟨by simp, by simp [bd, byteR]⟩
        · exact ⟨by simp, by simp [bd, byteR]⟩
/-- spec.l2Leaf -/
theorem fits_l2Leaf (b : List UInt8) (hb : b.length ≤ 2000) (p : Nat) (hp : p ≤ 900000) : Fits prog 163 [.box (eRd b p)] (eRex true (leafV b p).1) [.box (eRd b (leafV b p).2)] := by
  have c1 : Fits prog 75 [.box (eRd b p), .int .i64 9] (.int .i64 (pickV b p 9)) [.box (eRd b (p + 1))] := fits_pick b hb p (by omega) 9 (by omega) (by omega)
  have cS := fits_l1Set b hb (p + 1) (by omega)
  have c2 : Fits prog 75 [.box (eRd b (p + 1)), .int .i64 3] (.int .i64 (pickV b (p + 1) 3)) [.box (eRd b (p + 1 + 1))] := fits_pick b hb (p + 1) (by omega) 3 (by omega) (by omega)
  have c3 : Fits prog 75 [.box (eRd b (p + 1 + 1)), .int .i64 3] (.int .i64 (pickV b (p + 1 + 1) 3)) [.box (eRd b (p + 1 + 1 + 1))] := fits_pick b hb (p + 1 + 1) (by omega) 3 (by omega) (by omega)
  have cB2 := fits_l2Byte (97 + pickV b (p + 1) 3)
  have cB3 := fits_l2Byte (97 + pickV b (p + 1 + 1) 3)
  have h2 := pickV_lt b (p + 1) (n := 3) (by omega)
  have h3 := pickV_lt b (p + 1 + 1) (n := 3) (by omega)
  unfold leafV
  generalize pickV b (p + 1) 3 = k2 at *
  generalize pickV b (p + 1 + 1) 3 = k3 at *
  generalize pickV b p 9 = k at *
  generalize setQ b (p + 1) = q at *
  generalize setV b (p + 1) = s at *
  unfold eRd at *
  by_cases g0 : k = 0
  · subst g0
    rw [if_pos rfl, eRex_eq]
    refine fits_of_cell 2 26 [0] [0, 2, 4, 5, 8, 13, 18, 22] func163 rfl rfl rfl (by show 2 < 28; decide) (by show 1 ≤ 28; decide) (by rfl) (by rfl) (by show 1 ≤ 1; decide) (by rfl) (run_of ?_)
    simp -implicitDefEqProofs (maxSteps := 100000) (disch := first | (intros; contradiction) | omega) only [am0, am1, am2, am3, am4, am5, am6, am7, am8, am9, Nat.reduceSub, ↓reduceIte, reduceCtorEq, Nat.reduceEqDiff, Nat.reduceBEq, Nat.reduceAdd, Nat.reduceLT, Nat.reduceBNe, Nat.reduceMul, ↓reduceIte, tis, fls, Rex.kind, Rex.set, Rex.kids, List.map_nil]
    refine callM 0 c1 ?_
    simp -implicitDefEqProofs (maxSteps := 100000) (disch := first | (intros; contradiction) | omega) only [am0, am1, am2, am3, am4, am5, am6, am7, am8, am9, Nat.reduceSub, ↓reduceIte, reduceCtorEq, Nat.reduceEqDiff, Nat.reduceBEq, Nat.reduceAdd, Nat.reduceLT, Nat.reduceBNe, Nat.reduceMul, ↓reduceIte, tis, fls, List.dropLast_singleton]
  rw [if_neg g0]
  by_cases g1 : k = 1
  · subst g1
    rw [if_pos rfl, eRex_eq]
    refine fits_of_cell 2 26 [0] [0, 2, 4, 5, 8, 13, 18, 22] func163 rfl rfl rfl (by show 2 < 28; decide) (by show 1 ≤ 28; decide) (by rfl) (by rfl) (by show 1 ≤ 1; decide) (by rfl) (run_of ?_)
    simp -implicitDefEqProofs (maxSteps := 100000) (disch := first | (intros; contradiction) | omega) only [am0, am1, am2, am3, am4, am5, am6, am7, am8, am9, Nat.reduceSub, ↓reduceIte, reduceCtorEq, Nat.reduceEqDiff, Nat.reduceBEq, Nat.reduceAdd, Nat.reduceLT, Nat.reduceBNe, Nat.reduceMul, ↓reduceIte, tis, fls, Rex.kind, Rex.set, Rex.kids, List.map_nil, List.map_cons, eSpan]
    refine callM 0 c1 ?_
    simp -implicitDefEqProofs (maxSteps := 100000) (disch := first | (intros; contradiction) | omega) only [am0, am1, am2, am3, am4, am5, am6, am7, am8, am9, Nat.reduceSub, ↓reduceIte, reduceCtorEq, Nat.reduceEqDiff, Nat.reduceBEq, Nat.reduceAdd, Nat.reduceLT, Nat.reduceBNe, Nat.reduceMul, ↓reduceIte, tis, fls, List.dropLast_singleton, Rex.kind, Rex.set, Rex.kids, List.map_nil, List.map_cons, eSpan]
  rw [if_neg g1]
  by_cases g2 : k = 2
  · subst g2
    rw [if_pos rfl, eRex_eq]
    refine fits_of_cell 2 26 [0] [0, 2, 4, 5, 8, 13, 18, 22] func163 rfl rfl rfl (by show 2 < 28; decide) (by show 1 ≤ 28; decide) (by rfl) (by rfl) (by show 1 ≤ 1; decide) (by rfl) (run_of ?_)
    simp -implicitDefEqProofs (maxSteps := 100000) (disch := first | (intros; contradiction) | omega) only [am0, am1, am2, am3, am4, am5, am6, am7, am8, am9, Nat.reduceSub, ↓reduceIte, reduceCtorEq, Nat.reduceEqDiff, Nat.reduceBEq, Nat.reduceAdd, Nat.reduceLT, Nat.reduceBNe, Nat.reduceMul, ↓reduceIte, tis, fls, Rex.kind, Rex.set, Rex.kids, List.map_nil]
    refine callM 0 c1 ?_
    simp -implicitDefEqProofs (maxSteps := 100000) (disch := first | (intros; contradiction) | omega) only [am0, am1, am2, am3, am4, am5, am6, am7, am8, am9, Nat.reduceSub, ↓reduceIte, reduceCtorEq, Nat.reduceEqDiff, Nat.reduceBEq, Nat.reduceAdd, Nat.reduceLT, Nat.reduceBNe, Nat.reduceMul, ↓reduceIte, tis, fls, List.dropLast_singleton]
    refine callM 0 cS ?_
    simp -implicitDefEqProofs (maxSteps := 100000) (disch := first | (intros; contradiction) | omega) only [am0, am1, am2, am3, am4, am5, am6, am7, am8, am9, Nat.reduceSub, ↓reduceIte, reduceCtorEq, Nat.reduceEqDiff, Nat.reduceBEq, Nat.reduceAdd, Nat.reduceLT, Nat.reduceBNe, Nat.reduceMul, ↓reduceIte, tis, fls, List.dropLast_singleton]
  rw [if_neg g2]
  have i0 : ¬ ((k : Int) = 0) := by omega
  have i1 : ¬ ((k : Int) = 1) := by omega
  have i2 : ¬ ((k : Int) = 2) := by omega
  by_cases g3 : k = 3
  · subst g3
    rw [if_pos rfl]
    by_cases g4 : k2 = 0
    · subst g4
      rw [if_pos rfl, eRex_eq]
      refine fits_of_cell 2 26 [0] [0, 2, 4, 5, 8, 13, 18, 22] func163 rfl rfl rfl (by show 2 < 28; decide) (by show 1 ≤ 28; decide) (by rfl) (by rfl) (by show 1 ≤ 1; decide) (by rfl) (run_of ?_)
      simp -implicitDefEqProofs (maxSteps := 100000) (disch := first | (intros; contradiction) | omega) only [am0, am1, am2, am3, am4, am5, am6, am7, am8, am9, Nat.reduceSub, ↓reduceIte, reduceCtorEq, Nat.reduceEqDiff, Nat.reduceBEq, Nat.reduceAdd, Nat.reduceLT, Nat.reduceBNe, Nat.reduceMul, ↓reduceIte, tis, fls, Rex.kind, Rex.set, Rex.kids, List.map_nil]
      refine callM 0 c1 ?_
      simp -implicitDefEqProofs (maxSteps := 100000) (disch := first | (intros; contradiction) | omega) only [am0, am1, am2, am3, am4, am5, am6, am7, am8, am9, Nat.reduceSub, ↓reduceIte, reduceCtorEq, Nat.reduceEqDiff, Nat.reduceBEq, Nat.reduceAdd, Nat.reduceLT, Nat.reduceBNe, Nat.reduceMul, ↓reduceIte, tis, fls, List.dropLast_singleton]
      refine callM 0 c2 ?_
      simp -implicitDefEqProofs (maxSteps := 100000) (disch := first | (intros; contradiction) | omega) only [am0, am1, am2, am3, am4, am5, am6, am7, am8, am9, Nat.reduceSub, ↓reduceIte, reduceCtorEq, Nat.reduceEqDiff, Nat.reduceBEq, Nat.reduceAdd, Nat.reduceLT, Nat.reduceBNe, Nat.reduceMul, ↓reduceIte, tis, fls, List.dropLast_singleton, List.map_nil]
    · have i4 : ¬ ((k2 : Int) = 0) := by omega
      rw [if_neg g4]
      simp only [eRex_eq] at *
      refine fits_of_cell 2 26 [0] [0, 2, 4, 5, 8, 13, 18, 22] func163 rfl rfl rfl (by show 2 < 28; decide) (by show 1 ≤ 28; decide) (by rfl) (by rfl) (by show 1 ≤ 1; decide) (by rfl) (run_of ?_)
      simp -implicitDefEqProofs (maxSteps := 100000) (disch := first | (intros; contradiction) | omega) only [am0, am1, am2, am3, am4, am5, am6, am7, am8, am9, Nat.reduceSub, ↓reduceIte, reduceCtorEq, Nat.reduceEqDiff, Nat.reduceBEq, Nat.reduceAdd, Nat.reduceLT, Nat.reduceBNe, Nat.reduceMul, ↓reduceIte, tis, fls]
      refine callM 0 c1 ?_
      simp -implicitDefEqProofs (maxSteps := 100000) (disch := first | (intros; contradiction) | omega) only [am0, am1, am2, am3, am4, am5, am6, am7, am8, am9, Nat.reduceSub, ↓reduceIte, reduceCtorEq, Nat.reduceEqDiff, Nat.reduceBEq, Nat.reduceAdd, Nat.reduceLT, Nat.reduceBNe, Nat.reduceMul, ↓reduceIte, tis, fls, List.dropLast_singleton]
      refine callM 0 c2 ?_
      simp -implicitDefEqProofs (maxSteps := 100000) (disch := first | (intros; contradiction) | omega) only [am0, am1, am2, am3, am4, am5, am6, am7, am8, am9, Nat.reduceSub, ↓reduceIte, reduceCtorEq, Nat.reduceEqDiff, Nat.reduceBEq, Nat.reduceAdd, Nat.reduceLT, Nat.reduceBNe, Nat.reduceMul, ↓reduceIte, tis, fls, List.dropLast_singleton, i4]
      refine callM 0 c3 ?_
      simp -implicitDefEqProofs (maxSteps := 100000) (disch := first | (intros; contradiction) | omega) only [am0, am1, am2, am3, am4, am5, am6, am7, am8, am9, Nat.reduceSub, ↓reduceIte, reduceCtorEq, Nat.reduceEqDiff, Nat.reduceBEq, Nat.reduceAdd, Nat.reduceLT, Nat.reduceBNe, Nat.reduceMul, ↓reduceIte, tis, fls, List.dropLast_singleton]
      refine callB cB3 ?_
      simp -implicitDefEqProofs (maxSteps := 100000) (disch := first | (intros; contradiction) | omega) only [am0, am1, am2, am3, am4, am5, am6, am7, am8, am9, Nat.reduceSub, ↓reduceIte, reduceCtorEq, Nat.reduceEqDiff, Nat.reduceBEq, Nat.reduceAdd, Nat.reduceLT, Nat.reduceBNe, Nat.reduceMul, ↓reduceIte, tis, fls, rx]
  · rw [if_neg g3]
    have i3 : ¬ ((k : Int) = 3) := by omega
    simp only [eRex_eq] at *
    refine fits_of_cell 2 26 [0] [0, 2, 4, 5, 8, 13, 18, 22] func163 rfl rfl rfl (by show 2 < 28; decide) (by show 1 ≤ 28; decide) (by rfl) (by rfl) (by show 1 ≤ 1; decide) (by rfl) (run_of ?_)
    simp -implicitDefEqProofs (maxSteps := 100000) (disch := first | (intros; contradiction) | omega) only [am0, am1, am2, am3, am4, am5, am6, am7, am8, am9, Nat.reduceSub, ↓reduceIte, reduceCtorEq, Nat.reduceEqDiff, Nat.reduceBEq, Nat.reduceAdd, Nat.reduceLT, Nat.reduceBNe, Nat.reduceMul, ↓reduceIte, tis, fls]
    refine callM 0 c1 ?_
    simp -implicitDefEqProofs (maxSteps := 100000) (disch := first | (intros; contradiction) | omega) only [am0, am1, am2, am3, am4, am5, am6, am7, am8, am9, Nat.reduceSub, ↓reduceIte, reduceCtorEq, Nat.reduceEqDiff, Nat.reduceBEq, Nat.reduceAdd, Nat.reduceLT, Nat.reduceBNe, Nat.reduceMul, ↓reduceIte, tis, fls, List.dropLast_singleton, i0, i1, i2, i3]
    refine callM 0 c2 ?_
    simp -implicitDefEqProofs (maxSteps := 100000) (disch := first | (intros; contradiction) | omega) only [am0, am1, am2, am3, am4, am5, am6, am7, am8, am9, Nat.reduceSub, ↓reduceIte, reduceCtorEq, Nat.reduceEqDiff, Nat.reduceBEq, Nat.reduceAdd, Nat.reduceLT, Nat.reduceBNe, Nat.reduceMul, ↓reduceIte, tis, fls, List.dropLast_singleton]
    refine callB cB2 ?_
    simp -implicitDefEqProofs (maxSteps := 100000) (disch := first | (intros; contradiction) | omega) only [am0, am1, am2, am3, am4, am5, am6, am7, am8, am9, Nat.reduceSub, ↓reduceIte, reduceCtorEq, Nat.reduceEqDiff, Nat.reduceBEq, Nat.reduceAdd, Nat.reduceLT, Nat.reduceBNe, Nat.reduceMul, ↓reduceIte, tis, fls, rx]
def kin9 : List Int := [3, 3, 3, 4, 4, 5, 5, 6, 7]
def kidsV (f : Nat → Rex × Nat) (p : Nat) : Nat → List Rex × Nat
  | 0 => ([], p)
  | i + 1 => ((kidsV f p i).1 ++ [(f (kidsV f p i).2).1], (f (kidsV f p i).2).2)
def rexV (b : List UInt8) : Nat → Nat → Rex × Nat
  | 0, p => leafV b p
  | d + 1, p => if pickV b p 4 = 0 then leafV b (p + 1) else (.mk (numV b (p + 1) kin9) [] (kidsV (rexV b d) (p + 1 + 1) (kidsN (numV b (p + 1) kin9)).toNat).1, (kidsV (rexV b d) (p + 1 + 1) (kidsN (numV b (p + 1) kin9)).toNat).2)
theorem kidsV_len (f : Nat → Rex × Nat) (p : Nat) : ∀ i, (kidsV f p i).1.length = i
  | 0 => rfl
  | i + 1 => by simp [kidsV, kidsV_len f p i]
theorem kidsV_le (f : Nat → Rex × Nat) (c m : Nat) (hf : ∀ q, (f q).2 ≤ q + c ∧ bd (f q).1 ≤ m) (p : Nat) : ∀ i, (kidsV f p i).2 ≤ p + i * c ∧ ((kidsV f p i).1.map bd).sum ≤ i * m
  | 0 => by simp [kidsV]
  | i + 1 => by
    obtain ⟨h1, h2⟩ := kidsV_le f c m hf p i
    obtain ⟨h3, h4⟩ := hf (kidsV f p i).2
    have e1 : (i + 1) * c = i * c + c := Nat.succ_mul i c
    have e2 : (i + 1) * m = i * m + m := Nat.succ_mul i m
    simp only [kidsV, List.map_append, List.map_cons, List.map_nil, List.sum_append, List.sum_cons, List.sum_nil]
    omega
theorem kin9_k (b : List UInt8) (p : Nat) : (kidsN (numV b p kin9)).toNat ≤ 2 ∧ ((kidsN (numV b p kin9)).toNat : Int) = kidsN (numV b p kin9) ∧ 0 < (kidsN (numV b p kin9)).toNat := by
  have h := numV_mem b p (l := kin9) (by decide)
  generalize numV b p kin9 = x at *
  simp only [kin9, List.mem_cons, List.not_mem_nil, or_false] at h
  rcases h with rfl | rfl | rfl | rfl | rfl | rfl | rfl | rfl | rfl <;> decide
theorem rexV_le (b : List UInt8) : ∀ (d p : Nat), (rexV b d p).2 ≤ p + 8 * 4 ^ d ∧ bd (rexV b d p).1 ≤ 256 * 4 ^ d
  | 0, p => by have := leafV_le b p; simp only [rexV]; omega
  | d + 1, p => by
    have h1 := leafV_le b (p + 1)
    have h2 := kidsV_le (rexV b d) _ _ (rexV_le b d) (p + 1 + 1) (kidsN (numV b (p + 1) kin9)).toNat
    have h3 := (kin9_k b (p + 1)).1
    have h4 := kidsV_len (rexV b d) (p + 1 + 1) (kidsN (numV b (p + 1) kin9)).toNat
    have h5 : 0 < 4 ^ d := Nat.pow_pos (by omega)
    have h6 : 4 ^ (d + 1) = 4 * 4 ^ d := by rw [Nat.pow_succ]; omega
    simp only [rexV]
    split
    · omega
    · simp only [bd]
      generalize (kidsN (numV b (p + 1) kin9)).toNat = n at *
      have a1 : n * (8 * 4 ^ d) ≤ 2 * (8 * 4 ^ d) := Nat.mul_le_mul_right _ h3
      have a2 : n * (256 * 4 ^ d) ≤ 2 * (256 * 4 ^ d) := Nat.mul_le_mul_right _ h3
      constructor
      · omega
      · simp only [List.length_nil]; omega
/-- spec.l2Rex -/
theorem fits_l2Rex (b : List UInt8) (hb : b.length ≤ 2000) (d : Nat) (hd : d ≤ 3) : ∀ (p : Nat), p ≤ 800000 + 2000 * (3 - d) → Fits prog 162 [.box (eRd b p), .int .i64 ((d : Int) + 1)] (eRex true (rexV b d p).1) [.box (eRd b (rexV b d p).2)] := by
  induction d with
  | zero =>
    intro p hp
    have cL := fits_l2Leaf b hb p (by omega)
    simp only [rexV]
    generalize leafV b p = x at *
    rw [eRex_eq] at *
    unfold eRd at *
    refine fits_of_cell 4 26 [0] [0, 1, 4, 5, 6, 7, 14, 25] func162 rfl rfl rfl (by show 4 < 38; decide) (by show 2 ≤ 38; decide) (by rfl) (by rfl) (by show 1 ≤ 2; decide) (by rfl) (run_of ?_)
    simp -implicitDefEqProofs (maxSteps := 100000) (disch := first | (intros; contradiction) | omega) only [am0, am1, am2, am3, am4, am5, am6, am7, am8, am9, Nat.reduceSub, ↓reduceIte, reduceCtorEq, Nat.reduceEqDiff, Nat.reduceBEq, Nat.reduceAdd, Nat.reduceLT, Nat.reduceBNe, Nat.reduceMul, ↓reduceIte, tis, fls, rx]
    refine callM 0 cL ?_
    simp -implicitDefEqProofs (maxSteps := 100000) (disch := first | (intros; contradiction) | omega) only [am0, am1, am2, am3, am4, am5, am6, am7, am8, am9, Nat.reduceSub, ↓reduceIte, reduceCtorEq, Nat.reduceEqDiff, Nat.reduceBEq, Nat.reduceAdd, Nat.reduceLT, Nat.reduceBNe, Nat.reduceMul, ↓reduceIte, tis, fls, rx, List.dropLast_singleton]
  | succ d ih =>
    intro p hp
    have ih := ih (by omega)
    have h5 : 4 ^ d ≤ 4 ^ 2 := Nat.pow_le_pow_right (by omega) (by omega)
    have c1 : Fits prog 75 [.box (eRd b p), .int .i64 4] (.int .i64 (pickV b p 4)) [.box (eRd b (p + 1))] := fits_pick b hb p (by omega) 4 (by omega) (by omega)
    have hd1 : ¬ ((d : Int) + 1 + 1 ≤ 1) := by omega
    have hd2 : (d : Int) + 1 + 1 - 1 = d + 1 := by omega
    simp only [rexV]
    generalize pickV b p 4 = k at *
    by_cases hk : k = 0
    · subst hk
      rw [if_pos rfl]
      have cL := fits_l2Leaf b hb (p + 1) (by omega)
      generalize leafV b (p + 1) = x at *
      rw [eRex_eq] at *
      unfold eRd at *
      refine fits_of_cell 4 26 [0] [0, 1, 4, 5, 6, 7, 14, 25] func162 rfl rfl rfl (by show 4 < 38; decide) (by show 2 ≤ 38; decide) (by rfl) (by rfl) (by show 1 ≤ 2; decide) (by rfl) (run_of ?_)
      simp -implicitDefEqProofs (maxSteps := 100000) (disch := first | (intros; contradiction) | omega) only [am0, am1, am2, am3, am4, am5, am6, am7, am8, am9, Nat.reduceSub, ↓reduceIte, reduceCtorEq, Nat.reduceEqDiff, Nat.reduceBEq, Nat.reduceAdd, Nat.reduceLT, Nat.reduceBNe, Nat.reduceMul, ↓reduceIte, tis, fls, rx, hd1]
      refine callM 0 c1 ?_
      simp -implicitDefEqProofs (maxSteps := 100000) (disch := first | (intros; contradiction) | omega) only [am0, am1, am2, am3, am4, am5, am6, am7, am8, am9, Nat.reduceSub, ↓reduceIte, reduceCtorEq, Nat.reduceEqDiff, Nat.reduceBEq, Nat.reduceAdd, Nat.reduceLT, Nat.reduceBNe, Nat.reduceMul, ↓reduceIte, tis, fls, rx, List.dropLast_singleton]
      refine callM 0 cL ?_
      simp -implicitDefEqProofs (maxSteps := 100000) (disch := first | (intros; contradiction) | omega) only [am0, am1, am2, am3, am4, am5, am6, am7, am8, am9, Nat.reduceSub, ↓reduceIte, reduceCtorEq, Nat.reduceEqDiff, Nat.reduceBEq, Nat.reduceAdd, Nat.reduceLT, Nat.reduceBNe, Nat.reduceMul, ↓reduceIte, tis, fls, rx, List.dropLast_singleton]
    · rw [if_neg hk]
      have hk0 : ¬ ((k : Int) = 0) := by omega
      have cN := fits_num b hb (p + 1) (by omega) kin9 (by decide) (by decide)
      obtain ⟨q1, q2, q3⟩ := kin9_k b (p + 1)
      generalize numV b (p + 1) kin9 = kk at *
      have cK := fits_sKids kk
      rw [← q2] at cK
      generalize (kidsN kk).toNat = n at *
      have hle := fun i => kidsV_le (rexV b d) _ _ (rexV_le b d) (p + 1 + 1) i
      have hln := fun i => kidsV_len (rexV b d) (p + 1 + 1) i
      have cF := fun i (hi : i < n) => ih (kidsV (rexV b d) (p + 1 + 1) i).2 (by
        have := (hle i).1
        have : i * (8 * 4 ^ d) ≤ 1 * (8 * 4 ^ d) := Nat.mul_le_mul_right _ (by omega)
        omega)
      have hS : ∀ i, kidsV (rexV b d) (p + 1 + 1) (i + 1) = ((kidsV (rexV b d) (p + 1 + 1) i).1 ++ [(rexV b d (kidsV (rexV b d) (p + 1 + 1) i).2).1], (rexV b d (kidsV (rexV b d) (p + 1 + 1) i).2).2) := fun i => rfl
      have hZ : kidsV (rexV b d) (p + 1 + 1) 0 = ([], p + 1 + 1) := rfl
      generalize kidsV (rexV b d) (p + 1 + 1) = V at *
      rw [eRex_eq]
      show Fits prog _ _ (.agg [.int .i64 kk, .sl true 2 [], .sl true 3 ((V n).1.map (eRex true))]) _
      unfold eRd at *
      refine fits_of_cell 4 26 [0] [0, 1, 4, 5, 6, 7, 14, 25] func162 rfl rfl rfl (by show 4 < 38; decide) (by show 2 ≤ 38; decide) (by rfl) (by rfl) (by show 1 ≤ 2; decide) (by rfl) (run_of ?_)
      simp -implicitDefEqProofs (maxSteps := 100000) (disch := first | (intros; contradiction) | omega) only [am0, am1, am2, am3, am4, am5, am6, am7, am8, am9, Nat.reduceSub, ↓reduceIte, reduceCtorEq, Nat.reduceEqDiff, Nat.reduceBEq, Nat.reduceAdd, Nat.reduceLT, Nat.reduceBNe, Nat.reduceMul, ↓reduceIte, tis, fls, rx, hd1]
      refine callM 0 c1 ?_
      simp -implicitDefEqProofs (maxSteps := 100000) (disch := first | (intros; contradiction) | omega) only [am0, am1, am2, am3, am4, am5, am6, am7, am8, am9, Nat.reduceSub, ↓reduceIte, reduceCtorEq, Nat.reduceEqDiff, Nat.reduceBEq, Nat.reduceAdd, Nat.reduceLT, Nat.reduceBNe, Nat.reduceMul, ↓reduceIte, tis, fls, rx, List.dropLast_singleton, hk0]
      refine callMF [(18, [])] 0 cN ?_
      simp -implicitDefEqProofs (maxSteps := 100000) (disch := first | (intros; contradiction) | omega) only [am0, am1, am2, am3, am4, am5, am6, am7, am8, am9, Nat.reduceSub, ↓reduceIte, reduceCtorEq, Nat.reduceEqDiff, Nat.reduceBEq, Nat.reduceAdd, Nat.reduceLT, Nat.reduceBNe, Nat.reduceMul, ↓reduceIte, tis, fls, rx, List.dropLast_singleton, kin9, eInt]
      refine callB cK ?_
      simp -implicitDefEqProofs (maxSteps := 100000) (disch := first | (intros; contradiction) | omega) only [am0, am1, am2, am3, am4, am5, am6, am7, am8, am9, Nat.reduceSub, ↓reduceIte, reduceCtorEq, Nat.reduceEqDiff, Nat.reduceBEq, Nat.reduceAdd, Nat.reduceLT, Nat.reduceBNe, Nat.reduceMul, ↓reduceIte, tis, fls, rx]
      refine run_loop (α := Nat) (fun j => j ≤ n) (fun j => [(0, .box (.agg [.sl false 1 (bytesA b), .int .i64 (V j).2])), (1, .int .i64 ((d : Int) + 1 + 1)), (4, .box (.agg [.int .i64 0, .sl true 0 [], .sl true 0 []])), (6, .box (.agg [.int .i64 kk, .sl true 0 [], .sl true 3 ((V j).1.map (eRex true))])), (7, .int .i64 ((n : Int) - j))]) (fun j => n - j) 0 (Nat.zero_le _) ?_ ?_
      · simp -implicitDefEqProofs (maxSteps := 100000) (disch := first | (intros; contradiction) | omega) only [am0, am1, am2, am3, am4, am5, am6, am7, am8, am9, Nat.reduceSub, ↓reduceIte, reduceCtorEq, Nat.reduceEqDiff, Nat.reduceBEq, Nat.reduceAdd, Nat.reduceLT, Nat.reduceBNe, Nat.reduceMul, ↓reduceIte, tis, fls, rx, hZ, List.map_nil]
      · intro j hj'
        by_cases hj : j < n
        · have cR := cF j hj
          have hl := hln j
          have hS := hS j
          generalize rexV b d (V j).2 = x at *
          rw [eRex_eq] at cR
          simp -implicitDefEqProofs (maxSteps := 100000) (disch := first | (intros; contradiction) | omega) only [am0, am1, am2, am3, am4, am5, am6, am7, am8, am9, Nat.reduceSub, ↓reduceIte, reduceCtorEq, Nat.reduceEqDiff, Nat.reduceBEq, Nat.reduceAdd, Nat.reduceLT, Nat.reduceBNe, Nat.reduceMul, ↓reduceIte, tis, fls, rx]
          refine .inr (run_mix 33 [] [0] (by kernel_rfl) ?_)
          simp -implicitDefEqProofs (maxSteps := 100000) (disch := first | (intros; contradiction) | omega) only [am0, am1, am2, am3, am4, am5, am6, am7, am8, am9, Nat.reduceSub, ↓reduceIte, reduceCtorEq, Nat.reduceEqDiff, Nat.reduceBEq, Nat.reduceAdd, Nat.reduceLT, Nat.reduceBNe, Nat.reduceMul, ↓reduceIte, tis, fls, rx]
          refine callG 0 cR ?_
          simp -implicitDefEqProofs (maxSteps := 100000) (disch := first | (intros; contradiction) | omega) only [am0, am1, am2, am3, am4, am5, am6, am7, am8, am9, Nat.reduceSub, ↓reduceIte, reduceCtorEq, Nat.reduceEqDiff, Nat.reduceBEq, Nat.reduceAdd, Nat.reduceLT, Nat.reduceBNe, Nat.reduceMul, ↓reduceIte, tis, fls, rx, List.dropLast_singleton, hd2]
          refine round_normal (j + 1) (by omega) ?_ (by show n - (j + 1) < n - j; omega)
          rw [hS]
          simp -implicitDefEqProofs (maxSteps := 100000) (disch := first | (intros; contradiction) | omega) only [am0, am1, am2, am3, am4, am5, am6, am7, am8, am9, Nat.reduceSub, ↓reduceIte, reduceCtorEq, Nat.reduceEqDiff, Nat.reduceBEq, Nat.reduceAdd, Nat.reduceLT, Nat.reduceBNe, Nat.reduceMul, ↓reduceIte, tis, fls, rx, List.map_append, List.map_cons, List.map_nil, eRex_eq true x.1]
          omega
        · obtain rfl : j = n := by omega
          simp -implicitDefEqProofs (maxSteps := 100000) (disch := first | (intros; contradiction) | omega) only [am0, am1, am2, am3, am4, am5, am6, am7, am8, am9, Nat.reduceSub, ↓reduceIte, reduceCtorEq, Nat.reduceEqDiff, Nat.reduceBEq, Nat.reduceAdd, Nat.reduceLT, Nat.reduceBNe, Nat.reduceMul, ↓reduceIte, tis, fls, rx]
/-- One that is ok. -/
def someV (b : List UInt8) (p : Nat) : Rex × Nat := if rexB (rexV b (1 + pickV b p 3) (p + 1)).1 = true then rexV b (1 + pickV b p 3) (p + 1) else leafV b (rexV b (1 + pickV b p 3) (p + 1)).2
theorem someV_le (b : List UInt8) (p : Nat) : (someV b p).2 ≤ p + 600 ∧ bd (someV b p).1 ≤ 16384 := by
  have h1 := pickV_lt b p (n := 3) (by omega)
  have h2 := rexV_le b (1 + pickV b p 3) (p + 1)
  have h3 := leafV_le b (rexV b (1 + pickV b p 3) (p + 1)).2
  have h4 : 4 ^ (1 + pickV b p 3) ≤ 4 ^ 3 := Nat.pow_le_pow_right (by omega) (by omega)
  unfold someV
  split <;> omega
/-- spec.l2Some -/
theorem fits_l2Some (b : List UInt8) (hb : b.length ≤ 2000) (p : Nat) (hp : p ≤ 700000) : Fits prog 135 [.box (eRd b p)] (eRex true (someV b p).1) [.box (eRd b (someV b p).2)] := by
  have c1 : Fits prog 75 [.box (eRd b p), .int .i64 3] (.int .i64 (pickV b p 3)) [.box (eRd b (p + 1))] := fits_pick b hb p (by omega) 3 (by omega) (by omega)
  have h1 := pickV_lt b p (n := 3) (by omega)
  unfold someV
  generalize pickV b p 3 = k at *
  have cR := fits_l2Rex b hb (1 + k) (by omega) (p + 1) (by omega)
  have hl := rexV_le b (1 + k) (p + 1)
  have h4 : 4 ^ (1 + k) ≤ 4 ^ 3 := Nat.pow_le_pow_right (by omega) (by omega)
  have cL := fits_l2Leaf b hb (rexV b (1 + k) (p + 1)).2 (by omega)
  have cO := fits_sRexOk (rexV b (1 + k) (p + 1)).1 (by omega)
  generalize rexV b (1 + k) (p + 1) = x at *
  have e1 : (2 : Int) + k = ((1 + k : Nat) : Int) + 1 := by omega
  rw [← e1] at cR
  cases h : rexB x.1 with
  | true =>
    rw [if_pos rfl]
    rw [h] at cO
    unfold eRd at *
    rw [eRex_eq] at *
    refine fits_of_cell 2 26 [0] [0, 2, 3, 11] func135 rfl rfl rfl (by show 2 < 15; decide) (by show 1 ≤ 15; decide) (by rfl) (by rfl) (by show 1 ≤ 1; decide) (by rfl) (run_of ?_)
    simp -implicitDefEqProofs (maxSteps := 100000) (disch := first | (intros; contradiction) | omega) only [am0, am1, am2, am3, am4, am5, am6, am7, am8, am9, Nat.reduceSub, ↓reduceIte, reduceCtorEq, Nat.reduceEqDiff, Nat.reduceBEq, Nat.reduceAdd, Nat.reduceLT, Nat.reduceBNe, Nat.reduceMul, ↓reduceIte, tis, fls, rx]
    refine callK 4 0 0 c1 ?_
    simp -implicitDefEqProofs (maxSteps := 100000) (disch := first | (intros; contradiction) | omega) only [am0, am1, am2, am3, am4, am5, am6, am7, am8, am9, Nat.reduceSub, ↓reduceIte, reduceCtorEq, Nat.reduceEqDiff, Nat.reduceBEq, Nat.reduceAdd, Nat.reduceLT, Nat.reduceBNe, Nat.reduceMul, ↓reduceIte, tis, fls, rx, List.dropLast_singleton]
    refine callM 0 cR ?_
    simp -implicitDefEqProofs (maxSteps := 100000) (disch := first | (intros; contradiction) | omega) only [am0, am1, am2, am3, am4, am5, am6, am7, am8, am9, Nat.reduceSub, ↓reduceIte, reduceCtorEq, Nat.reduceEqDiff, Nat.reduceBEq, Nat.reduceAdd, Nat.reduceLT, Nat.reduceBNe, Nat.reduceMul, ↓reduceIte, tis, fls, rx, List.dropLast_singleton]
    refine callB cO ?_
    simp -implicitDefEqProofs (maxSteps := 100000) (disch := first | (intros; contradiction) | omega) only [am0, am1, am2, am3, am4, am5, am6, am7, am8, am9, Nat.reduceSub, ↓reduceIte, reduceCtorEq, Nat.reduceEqDiff, Nat.reduceBEq, Nat.reduceAdd, Nat.reduceLT, Nat.reduceBNe, Nat.reduceMul, ↓reduceIte, tis, fls, rx]
  | false =>
    rw [if_neg (by simp)]
    rw [h] at cO
    generalize leafV b x.2 = y at *
    unfold eRd at *
    simp only [eRex_eq] at *
    refine fits_of_cell 2 26 [0] [0, 2, 3, 11] func135 rfl rfl rfl (by show 2 < 15; decide) (by show 1 ≤ 15; decide) (by rfl) (by rfl) (by show 1 ≤ 1; decide) (by rfl) (run_of ?_)
    simp -implicitDefEqProofs (maxSteps := 100000) (disch := first | (intros; contradiction) | omega) only [am0, am1, am2, am3, am4, am5, am6, am7, am8, am9, Nat.reduceSub, ↓reduceIte, reduceCtorEq, Nat.reduceEqDiff, Nat.reduceBEq, Nat.reduceAdd, Nat.reduceLT, Nat.reduceBNe, Nat.reduceMul, ↓reduceIte, tis, fls, rx]
    refine callK 4 0 0 c1 ?_
    simp -implicitDefEqProofs (maxSteps := 100000) (disch := first | (intros; contradiction) | omega) only [am0, am1, am2, am3, am4, am5, am6, am7, am8, am9, Nat.reduceSub, ↓reduceIte, reduceCtorEq, Nat.reduceEqDiff, Nat.reduceBEq, Nat.reduceAdd, Nat.reduceLT, Nat.reduceBNe, Nat.reduceMul, ↓reduceIte, tis, fls, rx, List.dropLast_singleton]
    refine callM 0 cR ?_
    simp -implicitDefEqProofs (maxSteps := 100000) (disch := first | (intros; contradiction) | omega) only [am0, am1, am2, am3, am4, am5, am6, am7, am8, am9, Nat.reduceSub, ↓reduceIte, reduceCtorEq, Nat.reduceEqDiff, Nat.reduceBEq, Nat.reduceAdd, Nat.reduceLT, Nat.reduceBNe, Nat.reduceMul, ↓reduceIte, tis, fls, rx, List.dropLast_singleton]
    refine callB cO ?_
    simp -implicitDefEqProofs (maxSteps := 100000) (disch := first | (intros; contradiction) | omega) only [am0, am1, am2, am3, am4, am5, am6, am7, am8, am9, Nat.reduceSub, ↓reduceIte, reduceCtorEq, Nat.reduceEqDiff, Nat.reduceBEq, Nat.reduceAdd, Nat.reduceLT, Nat.reduceBNe, Nat.reduceMul, ↓reduceIte, tis, fls, rx]
    refine callM 0 cL ?_
    simp -implicitDefEqProofs (maxSteps := 100000) (disch := first | (intros; contradiction) | omega) only [am0, am1, am2, am3, am4, am5, am6, am7, am8, am9, Nat.reduceSub, ↓reduceIte, reduceCtorEq, Nat.reduceEqDiff, Nat.reduceBEq, Nat.reduceAdd, Nat.reduceLT, Nat.reduceBNe, Nat.reduceMul, ↓reduceIte, tis, fls, rx, List.dropLast_singleton]
def kin4 : List Int := [0, 8, 3, 5]
def wrapN (f : Rex → Rex) (x : Rex) : Nat → Rex
  | 0 => x
  | n + 1 => f (wrapN f x n)
def starR (x : Rex) : Rex := .mk 5 [] [x]
def catR (x : Rex) : Rex := .mk 3 [] [x, x]
theorem star_bd (x : Rex) : ∀ n, bd (wrapN starR x n) = bd x + n
  | 0 => rfl
  | n + 1 => by simp only [wrapN, starR, bd, star_bd x n, List.map_cons, List.map_nil, List.sum_cons, List.sum_nil, List.length_cons, List.length_nil]; omega
theorem cat_bd (x : Rex) : ∀ n, bd (wrapN catR x n) + 2 = (bd x + 2) * 2 ^ n
  | 0 => by simp [wrapN]
  | n + 1 => by
    have := cat_bd x n
    simp only [wrapN, catR, bd, List.map_cons, List.map_nil, List.sum_cons, List.sum_nil, List.length_cons, List.length_nil]
    rw [Nat.pow_succ, ← Nat.mul_assoc, ← this]
    omega
/-- One, sometimes bent. -/
def bentV (b : List UInt8) (p : Nat) : Rex × Nat :=
  if pickV b (someV b p).2 48 = 0 then (.mk (numV b ((someV b p).2 + 1) kin4) (someV b p).1.set (someV b p).1.kids, (someV b p).2 + 1 + 1)
  else if pickV b (someV b p).2 48 = 1 then (.mk (someV b p).1.kind [⟨5, 4⟩] (someV b p).1.kids, (someV b p).2 + 1)
  else if pickV b (someV b p).2 48 = 2 then (wrapN starR (someV b p).1 9, (someV b p).2 + 1)
  else if pickV b (someV b p).2 48 = 3 then (wrapN catR (someV b p).1 5, (someV b p).2 + 1)
  else ((someV b p).1, (someV b p).2 + 1)
theorem bentV_le (b : List UInt8) (p : Nat) : (bentV b p).2 ≤ p + 700 ∧ bd (bentV b p).1 ≤ 1048576 := by
  have h := someV_le b p
  unfold bentV
  generalize someV b p = x at *
  have h2 := bd_eq x.1
  split
  · exact ⟨by simp only; omega, by simp only [bd]; omega⟩
  · split
    · exact ⟨by simp only; omega, by simp only [bd, List.length_singleton]; omega⟩
    · split
      · exact ⟨by simp only; omega, by simp only [star_bd]; omega⟩
      · split
        · have := cat_bd x.1 5
          exact ⟨by simp only; omega, by simp only; omega⟩
        · exact ⟨by simp only; omega, by simp only; omega⟩
/-- spec.l2Bent -/
theorem fits_l2Bent (b : List UInt8) (hb : b.length ≤ 2000) (p : Nat) (hp : p ≤ 600000) : Fits prog 69 [.box (eRd b p)] (eRex true (bentV b p).1) [.box (eRd b (bentV b p).2)] := by
  have cS := fits_l2Some b hb p (by omega)
  have hl := someV_le b p
  unfold bentV
  generalize someV b p = x at *
  have c1 : Fits prog 75 [.box (eRd b x.2), .int .i64 48] (.int .i64 (pickV b x.2 48)) [.box (eRd b (x.2 + 1))] := fits_pick b hb x.2 (by omega) 48 (by omega) (by omega)
  have cN := fits_num b hb (x.2 + 1) (by omega) kin4 (by decide) (by decide)
  generalize pickV b x.2 48 = k at *
  generalize numV b (x.2 + 1) kin4 = kk at *
  have cC := fun n (hn : n ≤ 5) => fits_l2Copy (wrapN catR x.1 n) (by
    have h1 := cat_bd x.1 n
    have h2 : 2 ^ n ≤ 2 ^ 5 := Nat.pow_le_pow_right (by omega) hn
    have h3 : (bd x.1 + 2) * 2 ^ n ≤ 16386 * 2 ^ 5 := Nat.mul_le_mul (by omega) h2
    omega)
  by_cases g0 : k = 0
  · subst g0
    rw [if_pos rfl, eRex_eq]
    show Fits prog _ _ (.agg [.int .i64 kk, .sl true 2 (x.1.set.map eSpan), .sl true 3 (x.1.kids.map (eRex true))]) _
    rw [eRex_eq] at cS
    unfold eRd at *
    refine fits_of_cell 2 26 [0] [0, 2, 3, 4, 5, 9, 10, 16, 21, 24, 30, 33] func69 rfl rfl rfl (by show 2 < 42; decide) (by show 1 ≤ 42; decide) (by rfl) (by rfl) (by show 1 ≤ 1; decide) (by rfl) (run_of ?_)
    simp -implicitDefEqProofs (maxSteps := 100000) (disch := first | (intros; contradiction) | omega) only [am0, am1, am2, am3, am4, am5, am6, am7, am8, am9, Nat.reduceSub, ↓reduceIte, reduceCtorEq, Nat.reduceEqDiff, Nat.reduceBEq, Nat.reduceAdd, Nat.reduceLT, Nat.reduceBNe, Nat.reduceMul, ↓reduceIte, tis, fls, rx]
    refine callM 0 cS ?_
    simp -implicitDefEqProofs (maxSteps := 100000) (disch := first | (intros; contradiction) | omega) only [am0, am1, am2, am3, am4, am5, am6, am7, am8, am9, Nat.reduceSub, ↓reduceIte, reduceCtorEq, Nat.reduceEqDiff, Nat.reduceBEq, Nat.reduceAdd, Nat.reduceLT, Nat.reduceBNe, Nat.reduceMul, ↓reduceIte, tis, fls, rx, List.dropLast_singleton]
    refine callM 0 c1 ?_
    simp -implicitDefEqProofs (maxSteps := 100000) (disch := first | (intros; contradiction) | omega) only [am0, am1, am2, am3, am4, am5, am6, am7, am8, am9, Nat.reduceSub, ↓reduceIte, reduceCtorEq, Nat.reduceEqDiff, Nat.reduceBEq, Nat.reduceAdd, Nat.reduceLT, Nat.reduceBNe, Nat.reduceMul, ↓reduceIte, tis, fls, rx, List.dropLast_singleton]
    refine callMF [(13, [])] 0 cN ?_
    simp -implicitDefEqProofs (maxSteps := 100000) (disch := first | (intros; contradiction) | omega) only [am0, am1, am2, am3, am4, am5, am6, am7, am8, am9, Nat.reduceSub, ↓reduceIte, reduceCtorEq, Nat.reduceEqDiff, Nat.reduceBEq, Nat.reduceAdd, Nat.reduceLT, Nat.reduceBNe, Nat.reduceMul, ↓reduceIte, tis, fls, rx, List.dropLast_singleton, kin4, eInt]
  rw [if_neg g0]
  have i0 : ¬ ((k : Int) = 0) := by omega
  by_cases g1 : k = 1
  · subst g1
    rw [if_pos rfl, eRex_eq]
    show Fits prog _ _ (.agg [.int .i64 x.1.kind, .sl true 2 ([⟨5, 4⟩].map eSpan), .sl true 3 (x.1.kids.map (eRex true))]) _
    rw [eRex_eq] at cS
    unfold eRd at *
    refine fits_of_cell 2 26 [0] [0, 2, 3, 4, 5, 9, 10, 16, 21, 24, 30, 33] func69 rfl rfl rfl (by show 2 < 42; decide) (by show 1 ≤ 42; decide) (by rfl) (by rfl) (by show 1 ≤ 1; decide) (by rfl) (run_of ?_)
    simp -implicitDefEqProofs (maxSteps := 100000) (disch := first | (intros; contradiction) | omega) only [am0, am1, am2, am3, am4, am5, am6, am7, am8, am9, Nat.reduceSub, ↓reduceIte, reduceCtorEq, Nat.reduceEqDiff, Nat.reduceBEq, Nat.reduceAdd, Nat.reduceLT, Nat.reduceBNe, Nat.reduceMul, ↓reduceIte, tis, fls, rx, eSpan]
    refine callM 0 cS ?_
    simp -implicitDefEqProofs (maxSteps := 100000) (disch := first | (intros; contradiction) | omega) only [am0, am1, am2, am3, am4, am5, am6, am7, am8, am9, Nat.reduceSub, ↓reduceIte, reduceCtorEq, Nat.reduceEqDiff, Nat.reduceBEq, Nat.reduceAdd, Nat.reduceLT, Nat.reduceBNe, Nat.reduceMul, ↓reduceIte, tis, fls, rx, List.dropLast_singleton]
    refine callM 0 c1 ?_
    simp -implicitDefEqProofs (maxSteps := 100000) (disch := first | (intros; contradiction) | omega) only [am0, am1, am2, am3, am4, am5, am6, am7, am8, am9, Nat.reduceSub, ↓reduceIte, reduceCtorEq, Nat.reduceEqDiff, Nat.reduceBEq, Nat.reduceAdd, Nat.reduceLT, Nat.reduceBNe, Nat.reduceMul, ↓reduceIte, tis, fls, rx, List.dropLast_singleton]
  rw [if_neg g1]
  have i1 : ¬ ((k : Int) = 1) := by omega
  by_cases g2 : k = 2
  · subst g2
    rw [if_pos rfl]
    have hW : ∀ n, eRex true (wrapN starR x.1 (n + 1)) = .agg [.int .i64 5, .sl true 2 [], .sl true 3 [eRex true (wrapN starR x.1 n)]] := fun n => by rw [eRex_eq]; rfl
    have hW0 : wrapN starR x.1 0 = x.1 := rfl
    rw [eRex_eq] at *
    unfold eRd at *
    refine fits_of_cell 2 26 [0] [0, 2, 3, 4, 5, 9, 10, 16, 21, 24, 30, 33] func69 rfl rfl rfl (by show 2 < 42; decide) (by show 1 ≤ 42; decide) (by rfl) (by rfl) (by show 1 ≤ 1; decide) (by rfl) (run_of ?_)
    simp -implicitDefEqProofs (maxSteps := 100000) (disch := first | (intros; contradiction) | omega) only [am0, am1, am2, am3, am4, am5, am6, am7, am8, am9, Nat.reduceSub, ↓reduceIte, reduceCtorEq, Nat.reduceEqDiff, Nat.reduceBEq, Nat.reduceAdd, Nat.reduceLT, Nat.reduceBNe, Nat.reduceMul, ↓reduceIte, tis, fls, rx]
    refine callM 0 cS ?_
    simp -implicitDefEqProofs (maxSteps := 100000) (disch := first | (intros; contradiction) | omega) only [am0, am1, am2, am3, am4, am5, am6, am7, am8, am9, Nat.reduceSub, ↓reduceIte, reduceCtorEq, Nat.reduceEqDiff, Nat.reduceBEq, Nat.reduceAdd, Nat.reduceLT, Nat.reduceBNe, Nat.reduceMul, ↓reduceIte, tis, fls, rx, List.dropLast_singleton]
    refine callM 0 c1 ?_
    simp -implicitDefEqProofs (maxSteps := 100000) (disch := first | (intros; contradiction) | omega) only [am0, am1, am2, am3, am4, am5, am6, am7, am8, am9, Nat.reduceSub, ↓reduceIte, reduceCtorEq, Nat.reduceEqDiff, Nat.reduceBEq, Nat.reduceAdd, Nat.reduceLT, Nat.reduceBNe, Nat.reduceMul, ↓reduceIte, tis, fls, rx, List.dropLast_singleton]
    refine run_loop (α := Nat) (fun j => j ≤ 9) (fun j => [(0, .box (.agg [.sl false 1 (bytesA b), .int .i64 (x.2 + 1 : Nat)])), (2, .box (.agg [.int .i64 0, .sl true 0 [], .sl true 0 []])), (3, .box (.agg [.int .i64 (wrapN starR x.1 j).kind, .sl true 2 ((wrapN starR x.1 j).set.map eSpan), .sl true 3 ((wrapN starR x.1 j).kids.map (eRex true))])), (4, .int .i64 j)]) (fun j => 9 - j) 0 (Nat.zero_le _) ?_ ?_
    · simp -implicitDefEqProofs (maxSteps := 100000) (disch := first | (intros; contradiction) | omega) only [am0, am1, am2, am3, am4, am5, am6, am7, am8, am9, Nat.reduceSub, ↓reduceIte, reduceCtorEq, Nat.reduceEqDiff, Nat.reduceBEq, Nat.reduceAdd, Nat.reduceLT, Nat.reduceBNe, Nat.reduceMul, ↓reduceIte, tis, fls, rx, hW0]
    · intro j hj'
      by_cases hj : j < 9
      · simp -implicitDefEqProofs (maxSteps := 100000) (disch := first | (intros; contradiction) | omega) only [am0, am1, am2, am3, am4, am5, am6, am7, am8, am9, Nat.reduceSub, ↓reduceIte, reduceCtorEq, Nat.reduceEqDiff, Nat.reduceBEq, Nat.reduceAdd, Nat.reduceLT, Nat.reduceBNe, Nat.reduceMul, ↓reduceIte, tis, fls, rx]
        refine round_normal (j + 1) (by omega) ?_ (by show 9 - (j + 1) < 9 - j; omega)
        simp -implicitDefEqProofs (maxSteps := 100000) (disch := first | (intros; contradiction) | omega) only [am0, am1, am2, am3, am4, am5, am6, am7, am8, am9, Nat.reduceSub, ↓reduceIte, reduceCtorEq, Nat.reduceEqDiff, Nat.reduceBEq, Nat.reduceAdd, Nat.reduceLT, Nat.reduceBNe, Nat.reduceMul, ↓reduceIte, tis, fls, rx]
        refine ⟨rfl, rfl, ?_⟩
        show _ = [eRex true (wrapN starR x.1 j)]
        rw [eRex_eq]
      · obtain rfl : j = 9 := by omega
        simp -implicitDefEqProofs (maxSteps := 100000) (disch := first | (intros; contradiction) | omega) only [am0, am1, am2, am3, am4, am5, am6, am7, am8, am9, Nat.reduceSub, ↓reduceIte, reduceCtorEq, Nat.reduceEqDiff, Nat.reduceBEq, Nat.reduceAdd, Nat.reduceLT, Nat.reduceBNe, Nat.reduceMul, ↓reduceIte, tis, fls, rx]
  rw [if_neg g2]
  have i2 : ¬ ((k : Int) = 2) := by omega
  by_cases g3 : k = 3
  · subst g3
    rw [if_pos rfl]
    have hW0 : wrapN catR x.1 0 = x.1 := rfl
    rw [eRex_eq] at *
    unfold eRd at *
    refine fits_of_cell 2 26 [0] [0, 2, 3, 4, 5, 9, 10, 16, 21, 24, 30, 33] func69 rfl rfl rfl (by show 2 < 42; decide) (by show 1 ≤ 42; decide) (by rfl) (by rfl) (by show 1 ≤ 1; decide) (by rfl) (run_of ?_)
    simp -implicitDefEqProofs (maxSteps := 100000) (disch := first | (intros; contradiction) | omega) only [am0, am1, am2, am3, am4, am5, am6, am7, am8, am9, Nat.reduceSub, ↓reduceIte, reduceCtorEq, Nat.reduceEqDiff, Nat.reduceBEq, Nat.reduceAdd, Nat.reduceLT, Nat.reduceBNe, Nat.reduceMul, ↓reduceIte, tis, fls, rx]
    refine callM 0 cS ?_
    simp -implicitDefEqProofs (maxSteps := 100000) (disch := first | (intros; contradiction) | omega) only [am0, am1, am2, am3, am4, am5, am6, am7, am8, am9, Nat.reduceSub, ↓reduceIte, reduceCtorEq, Nat.reduceEqDiff, Nat.reduceBEq, Nat.reduceAdd, Nat.reduceLT, Nat.reduceBNe, Nat.reduceMul, ↓reduceIte, tis, fls, rx, List.dropLast_singleton]
    refine callM 0 c1 ?_
    simp -implicitDefEqProofs (maxSteps := 100000) (disch := first | (intros; contradiction) | omega) only [am0, am1, am2, am3, am4, am5, am6, am7, am8, am9, Nat.reduceSub, ↓reduceIte, reduceCtorEq, Nat.reduceEqDiff, Nat.reduceBEq, Nat.reduceAdd, Nat.reduceLT, Nat.reduceBNe, Nat.reduceMul, ↓reduceIte, tis, fls, rx, List.dropLast_singleton]
    refine run_loop (α := Nat) (fun j => j ≤ 5) (fun j => [(0, .box (.agg [.sl false 1 (bytesA b), .int .i64 (x.2 + 1 : Nat)])), (2, .box (.agg [.int .i64 0, .sl true 0 [], .sl true 0 []])), (3, .box (.agg [.int .i64 (wrapN catR x.1 j).kind, .sl true 2 ((wrapN catR x.1 j).set.map eSpan), .sl true 3 ((wrapN catR x.1 j).kids.map (eRex true))])), (5, .int .i64 j)]) (fun j => 5 - j) 0 (Nat.zero_le _) ?_ ?_
    · simp -implicitDefEqProofs (maxSteps := 100000) (disch := first | (intros; contradiction) | omega) only [am0, am1, am2, am3, am4, am5, am6, am7, am8, am9, Nat.reduceSub, ↓reduceIte, reduceCtorEq, Nat.reduceEqDiff, Nat.reduceBEq, Nat.reduceAdd, Nat.reduceLT, Nat.reduceBNe, Nat.reduceMul, ↓reduceIte, tis, fls, rx, hW0]
    · intro j hj'
      by_cases hj : j < 5
      · have cC := cC j (by omega)
        rw [eRex_eq, eRex_eq] at cC
        simp -implicitDefEqProofs (maxSteps := 100000) (disch := first | (intros; contradiction) | omega) only [am0, am1, am2, am3, am4, am5, am6, am7, am8, am9, Nat.reduceSub, ↓reduceIte, reduceCtorEq, Nat.reduceEqDiff, Nat.reduceBEq, Nat.reduceAdd, Nat.reduceLT, Nat.reduceBNe, Nat.reduceMul, ↓reduceIte, tis, fls, rx]
        refine .inr (run_mix 999999 [39] [999999] (by kernel_rfl) ?_)
        simp -implicitDefEqProofs (maxSteps := 100000) (disch := first | (intros; contradiction) | omega) only [am0, am1, am2, am3, am4, am5, am6, am7, am8, am9, Nat.reduceSub, ↓reduceIte, reduceCtorEq, Nat.reduceEqDiff, Nat.reduceBEq, Nat.reduceAdd, Nat.reduceLT, Nat.reduceBNe, Nat.reduceMul, ↓reduceIte, tis, fls, rx]
        refine callL cC ?_
        simp -implicitDefEqProofs (maxSteps := 100000) (disch := first | (intros; contradiction) | omega) only [am0, am1, am2, am3, am4, am5, am6, am7, am8, am9, Nat.reduceSub, ↓reduceIte, reduceCtorEq, Nat.reduceEqDiff, Nat.reduceBEq, Nat.reduceAdd, Nat.reduceLT, Nat.reduceBNe, Nat.reduceMul, ↓reduceIte, tis, fls, rx]
        refine round_normal (j + 1) (by omega) ?_ (by show 5 - (j + 1) < 5 - j; omega)
        simp -implicitDefEqProofs (maxSteps := 100000) (disch := first | (intros; contradiction) | omega) only [am0, am1, am2, am3, am4, am5, am6, am7, am8, am9, Nat.reduceSub, ↓reduceIte, reduceCtorEq, Nat.reduceEqDiff, Nat.reduceBEq, Nat.reduceAdd, Nat.reduceLT, Nat.reduceBNe, Nat.reduceMul, ↓reduceIte, tis, fls, rx]
        refine ⟨rfl, rfl, ?_⟩
        show _ = [eRex true (wrapN catR x.1 j), eRex true (wrapN catR x.1 j)]
        rw [eRex_eq]
      · obtain rfl : j = 5 := by omega
        simp -implicitDefEqProofs (maxSteps := 100000) (disch := first | (intros; contradiction) | omega) only [am0, am1, am2, am3, am4, am5, am6, am7, am8, am9, Nat.reduceSub, ↓reduceIte, reduceCtorEq, Nat.reduceEqDiff, Nat.reduceBEq, Nat.reduceAdd, Nat.reduceLT, Nat.reduceBNe, Nat.reduceMul, ↓reduceIte, tis, fls, rx]
  rw [if_neg g3]
  have i3 : ¬ ((k : Int) = 3) := by omega
  rw [eRex_eq] at *
  unfold eRd at *
  refine fits_of_cell 2 26 [0] [0, 2, 3, 4, 5, 9, 10, 16, 21, 24, 30, 33] func69 rfl rfl rfl (by show 2 < 42; decide) (by show 1 ≤ 42; decide) (by rfl) (by rfl) (by show 1 ≤ 1; decide) (by rfl) (run_of ?_)
  simp -implicitDefEqProofs (maxSteps := 100000) (disch := first | (intros; contradiction) | omega) only [am0, am1, am2, am3, am4, am5, am6, am7, am8, am9, Nat.reduceSub, ↓reduceIte, reduceCtorEq, Nat.reduceEqDiff, Nat.reduceBEq, Nat.reduceAdd, Nat.reduceLT, Nat.reduceBNe, Nat.reduceMul, ↓reduceIte, tis, fls, rx]
  refine callM 0 cS ?_
  simp -implicitDefEqProofs (maxSteps := 100000) (disch := first | (intros; contradiction) | omega) only [am0, am1, am2, am3, am4, am5, am6, am7, am8, am9, Nat.reduceSub, ↓reduceIte, reduceCtorEq, Nat.reduceEqDiff, Nat.reduceBEq, Nat.reduceAdd, Nat.reduceLT, Nat.reduceBNe, Nat.reduceMul, ↓reduceIte, tis, fls, rx, List.dropLast_singleton]
  refine callM 0 c1 ?_
  simp -implicitDefEqProofs (maxSteps := 100000) (disch := first | (intros; contradiction) | omega) only [am0, am1, am2, am3, am4, am5, am6, am7, am8, am9, Nat.reduceSub, ↓reduceIte, reduceCtorEq, Nat.reduceEqDiff, Nat.reduceBEq, Nat.reduceAdd, Nat.reduceLT, Nat.reduceBNe, Nat.reduceMul, ↓reduceIte, tis, fls, rx, List.dropLast_singleton, i0, i1, i2, i3]
def manyL (s out : List UInt8) (n : Nat) : List UInt8 := if n = 0 then out else manyL (s ++ s) (if n % 2 = 1 then out ++ s else out) (n / 2)
termination_by n
decreasing_by omega
theorem manyL_0 (s out : List UInt8) : manyL s out 0 = out := by rw [manyL, if_pos rfl]
theorem manyL_s (s out : List UInt8) {n : Nat} (h : 0 < n) : manyL s out n = manyL (s ++ s) (if n % 2 = 1 then out ++ s else out) (n / 2) := by rw [manyL, if_neg (by omega)]
theorem half_len (a o n : Nat) : (if n % 2 = 1 then o + a else o) + (a + a) * (n / 2) = o + a * n := by
  have h := Nat.div_add_mod n 2
  have h2 : n % 2 = 0 ∨ n % 2 = 1 := by omega
  have e : a * n = (a + a) * (n / 2) + a * (n % 2) := by
    conv => lhs; rw [← h, Nat.mul_add, ← Nat.mul_assoc, Nat.mul_two]
  rcases h2 with h2 | h2 <;> rw [h2] at e ⊢ <;> simp at e ⊢ <;> omega
/-- spec.l15Many -/
theorem fits_l15Many (s : List UInt8) (n : Nat) (hn : s.length * n ≤ 1048576) (hs : s.length ≤ 1048576) (hn2 : n ≤ 1048576) : Fits prog 76 [.str s, .int .i64 n] (.str (manyL s [] n)) [] := by
  have c2 : ¬ ((2 : Int) = 0) := by omega
  refine fits_of_code [4] [] [0, 1, 4, 5, 7, 10] func76 rfl rfl rfl (by rfl) (by show 2 ≤ 20; decide) (by rfl) (by rfl) (by show 0 ≤ 2; decide) (by rfl) (run_of ?_)
  simp -implicitDefEqProofs (maxSteps := 100000) (disch := first | (intros; contradiction) | omega) only [am0, am1, am2, am3, am4, am5, am6, am7, am8, am9, Nat.reduceSub, ↓reduceIte, reduceCtorEq, Nat.reduceEqDiff, Nat.reduceBEq, Nat.reduceAdd, Nat.reduceLT, Nat.reduceBNe, Nat.reduceMul, ↓reduceIte, tis, fls]
  refine run_loop (α := List UInt8 × List UInt8 × Nat) (fun g => manyL g.1 g.2.1 g.2.2 = manyL s [] n ∧ g.2.1.length + g.1.length * g.2.2 ≤ 1048576 ∧ g.1.length ≤ 2097152 ∧ g.2.2 ≤ 1048576) (fun g => [(0, .str g.1), (1, .int .i64 g.2.2), (5, .str g.2.1)]) (fun g => g.2.2) (s, [], n) ⟨rfl, by simpa using hn, by simp only; omega, hn2⟩ ?_ ?_
  · simp -implicitDefEqProofs (maxSteps := 100000) (disch := first | (intros; contradiction) | omega) only [am0, am1, am2, am3, am4, am5, am6, am7, am8, am9, Nat.reduceSub, ↓reduceIte, reduceCtorEq, Nat.reduceEqDiff, Nat.reduceBEq, Nat.reduceAdd, Nat.reduceLT, Nat.reduceBNe, Nat.reduceMul, ↓reduceIte, tis, fls]
  · rintro ⟨x, o, m⟩ ⟨h1, h2, h3, h4⟩
    simp only at h1 h2 h3 h4
    by_cases hm : 0 < m
    · have hx : x.length ≤ 1048576 := by
        have : x.length * 1 ≤ x.length * m := Nat.mul_le_mul_left _ hm
        omega
      have e := half_len x.length o.length m
      have e1 : Int.tmod (m : Int) 2 = ((m % 2 : Nat) : Int) := tmod_nn m 2
      have e2 : Int.tdiv (m : Int) 2 = ((m / 2 : Nat) : Int) := tdiv_nn m 2
      have hs := manyL_s x o hm
      by_cases hp : m % 2 = 1
      · rw [if_pos hp] at hs e
        rw [hp] at e1
        simp -implicitDefEqProofs (maxSteps := 100000) (disch := first | (intros; contradiction) | omega) only [am0, am1, am2, am3, am4, am5, am6, am7, am8, am9, Nat.reduceSub, ↓reduceIte, reduceCtorEq, Nat.reduceEqDiff, Nat.reduceBEq, Nat.reduceAdd, Nat.reduceLT, Nat.reduceBNe, Nat.reduceMul, ↓reduceIte, tis, fls, e1, e2, c2]
        refine round_normal (x ++ x, o ++ x, m / 2) ⟨by simp only; rw [← hs]; exact h1, by simp only [List.length_append]; omega, by simp only [List.length_append]; omega, by simp only; omega⟩ ?_ (by show m / 2 < m; omega)
        simp -implicitDefEqProofs (maxSteps := 100000) (disch := first | (intros; contradiction) | omega) only [am0, am1, am2, am3, am4, am5, am6, am7, am8, am9, Nat.reduceSub, ↓reduceIte, reduceCtorEq, Nat.reduceEqDiff, Nat.reduceBEq, Nat.reduceAdd, Nat.reduceLT, Nat.reduceBNe, Nat.reduceMul, ↓reduceIte, tis, fls]
      · rw [if_neg hp] at hs e
        have hp0 : m % 2 = 0 := by omega
        rw [hp0] at e1
        simp -implicitDefEqProofs (maxSteps := 100000) (disch := first | (intros; contradiction) | omega) only [am0, am1, am2, am3, am4, am5, am6, am7, am8, am9, Nat.reduceSub, ↓reduceIte, reduceCtorEq, Nat.reduceEqDiff, Nat.reduceBEq, Nat.reduceAdd, Nat.reduceLT, Nat.reduceBNe, Nat.reduceMul, ↓reduceIte, tis, fls, e1, e2, c2]
        refine round_normal (x ++ x, o, m / 2) ⟨by simp only; rw [← hs]; exact h1, by simp only [List.length_append]; omega, by simp only [List.length_append]; omega, by simp only; omega⟩ ?_ (by show m / 2 < m; omega)
        simp -implicitDefEqProofs (maxSteps := 100000) (disch := first | (intros; contradiction) | omega) only [am0, am1, am2, am3, am4, am5, am6, am7, am8, am9, Nat.reduceSub, ↓reduceIte, reduceCtorEq, Nat.reduceEqDiff, Nat.reduceBEq, Nat.reduceAdd, Nat.reduceLT, Nat.reduceBNe, Nat.reduceMul, ↓reduceIte, tis, fls]
    · obtain rfl : m = 0 := by omega
      rw [manyL_0] at h1
      simp -implicitDefEqProofs (maxSteps := 100000) (disch := first | (intros; contradiction) | omega) only [am0, am1, am2, am3, am4, am5, am6, am7, am8, am9, Nat.reduceSub, ↓reduceIte, reduceCtorEq, Nat.reduceEqDiff, Nat.reduceBEq, Nat.reduceAdd, Nat.reduceLT, Nat.reduceBNe, Nat.reduceMul, ↓reduceIte, tis, fls, h1]
theorem manyL_len (n : Nat) : ∀ (s out : List UInt8), (manyL s out n).length = out.length + s.length * n := by
  induction n using Nat.strongRecOn with
  | ind n ih =>
    intro s out
    by_cases h : 0 < n
    · rw [manyL_s s out h, ih (n / 2) (by omega)]
      have e := half_len s.length out.length n
      rw [List.length_append, ← e]
      congr 1
      split <;> simp
    · obtain rfl : n = 0 := by omega
      rw [manyL_0]; simp
def w13 : List (List UInt8) := [[97], [98], [97], [98], [99], [120], [48], [97], [98], [97], [98], [255], [0]]
def wordL (b : List UInt8) (p : Nat) : Nat → List UInt8
  | 0 => []
  | j + 1 => wordL b p j ++ ofV b (p + j) w13
theorem w13_len (b : List UInt8) (p : Nat) : (ofV b p w13).length = 1 := by
  have h := ofV_mem b p (l := w13) (by decide)
  generalize ofV b p w13 = x at *
  simp only [w13, List.mem_cons, List.not_mem_nil, or_false] at h
  rcases h with rfl | rfl | rfl | rfl | rfl | rfl | rfl | rfl | rfl | rfl | rfl | rfl | rfl <;> rfl
theorem wordL_len (b : List UInt8) (p : Nat) : ∀ j, (wordL b p j).length = j
  | 0 => rfl
  | j + 1 => by simp [wordL, wordL_len b p j, w13_len]
def wordV (b : List UInt8) (p most : Nat) : List UInt8 := wordL b (p + 1) (pickV b p (most + 1))
def wordQ (b : List UInt8) (p most : Nat) : Nat := p + 1 + pickV b p (most + 1)
theorem wordV_len (b : List UInt8) (p most : Nat) : (wordV b p most).length ≤ most := by
  have := pickV_lt b p (n := most + 1) (by omega)
  unfold wordV; rw [wordL_len]; omega
/-- spec.l3Word -/
theorem fits_l3Word (b : List UInt8) (hb : b.length ≤ 2000) (p : Nat) (hp : p ≤ 900000) (most : Nat) (hm : most ≤ 1000) : Fits prog 77 [.box (eRd b p), .int .i64 most] (.str (wordV b p most)) [.box (eRd b (wordQ b p most))] := by
  have c1 := fits_pick b hb p (by omega) (most + 1) (by omega) (by omega)
  have hk := pickV_lt b p (n := most + 1) (by omega)
  unfold wordV wordQ
  generalize pickV b p (most + 1) = m at *
  have cO := fun j (hj : j < m) => fits_of b hb (p + 1 + j) (by omega) w13 (by decide) (by decide)
  unfold eRd at *
  refine fits_of_code [4] [0] [0, 1, 4, 5, 6, 12] func77 rfl rfl rfl (by rfl) (by show 2 ≤ 21; decide) (by rfl) (by rfl) (by show 1 ≤ 2; decide) (by rfl) (run_of ?_)
  simp -implicitDefEqProofs (maxSteps := 100000) (disch := first | (intros; contradiction) | omega) only [am0, am1, am2, am3, am4, am5, am6, am7, am8, am9, Nat.reduceSub, ↓reduceIte, reduceCtorEq, Nat.reduceEqDiff, Nat.reduceBEq, Nat.reduceAdd, Nat.reduceLT, Nat.reduceBNe, Nat.reduceMul, ↓reduceIte, tis, fls]
  refine callM 0 c1 ?_
  simp -implicitDefEqProofs (maxSteps := 100000) (disch := first | (intros; contradiction) | omega) only [am0, am1, am2, am3, am4, am5, am6, am7, am8, am9, Nat.reduceSub, ↓reduceIte, reduceCtorEq, Nat.reduceEqDiff, Nat.reduceBEq, Nat.reduceAdd, Nat.reduceLT, Nat.reduceBNe, Nat.reduceMul, ↓reduceIte, tis, fls, List.dropLast_singleton]
  refine run_loop (α := Nat) (fun j => j ≤ m) (fun j => [(0, .box (.agg [.sl false 1 (bytesA b), .int .i64 (p + 1 + j : Nat)])), (5, .str (wordL b (p + 1) j)), (6, .int .i64 ((m : Int) - j))]) (fun j => m - j) 0 (Nat.zero_le _) ?_ ?_
  · simp -implicitDefEqProofs (maxSteps := 100000) (disch := first | (intros; contradiction) | omega) only [am0, am1, am2, am3, am4, am5, am6, am7, am8, am9, Nat.reduceSub, ↓reduceIte, reduceCtorEq, Nat.reduceEqDiff, Nat.reduceBEq, Nat.reduceAdd, Nat.reduceLT, Nat.reduceBNe, Nat.reduceMul, ↓reduceIte, tis, fls, wordL]
  · intro j hj'
    have hl := wordL_len b (p + 1) j
    by_cases hj : j < m
    · have cO := cO j hj
      have hl2 := w13_len b (p + 1 + j)
      have hS : wordL b (p + 1) (j + 1) = wordL b (p + 1) j ++ ofV b (p + 1 + j) w13 := rfl
      generalize ofV b (p + 1 + j) w13 = x at *
      generalize wordL b (p + 1) j = y at *
      simp -implicitDefEqProofs (maxSteps := 100000) (disch := first | (intros; contradiction) | omega) only [am0, am1, am2, am3, am4, am5, am6, am7, am8, am9, Nat.reduceSub, ↓reduceIte, reduceCtorEq, Nat.reduceEqDiff, Nat.reduceBEq, Nat.reduceAdd, Nat.reduceLT, Nat.reduceBNe, Nat.reduceMul, ↓reduceIte, tis, fls]
      refine callMF [(17, [])] 0 cO ?_
      simp -implicitDefEqProofs (maxSteps := 100000) (disch := first | (intros; contradiction) | omega) only [am0, am1, am2, am3, am4, am5, am6, am7, am8, am9, Nat.reduceSub, ↓reduceIte, reduceCtorEq, Nat.reduceEqDiff, Nat.reduceBEq, Nat.reduceAdd, Nat.reduceLT, Nat.reduceBNe, Nat.reduceMul, ↓reduceIte, tis, fls, List.dropLast_singleton, w13, eStr]
      refine round_normal (j + 1) (by omega) ?_ (by show m - (j + 1) < m - j; omega)
      simp -implicitDefEqProofs (maxSteps := 100000) (disch := first | (intros; contradiction) | omega) only [am0, am1, am2, am3, am4, am5, am6, am7, am8, am9, Nat.reduceSub, ↓reduceIte, reduceCtorEq, Nat.reduceEqDiff, Nat.reduceBEq, Nat.reduceAdd, Nat.reduceLT, Nat.reduceBNe, Nat.reduceMul, ↓reduceIte, tis, fls, hS]
      try omega
    · obtain rfl : j = m := by omega
      simp -implicitDefEqProofs (maxSteps := 100000) (disch := first | (intros; contradiction) | omega) only [am0, am1, am2, am3, am4, am5, am6, am7, am8, am9, Nat.reduceSub, ↓reduceIte, reduceCtorEq, Nat.reduceEqDiff, Nat.reduceBEq, Nat.reduceAdd, Nat.reduceLT, Nat.reduceBNe, Nat.reduceMul, ↓reduceIte, tis, fls]
theorem take_len (c : List UInt8) : (c.take 2000).length ≤ 2000 := by simp; omega
/-- spec.DrawTurnRex -/
theorem fits_drawTurnRex (c : List UInt8) (hc : c.length ≤ 9223372036854775807) : Fits prog 17 [.sl false 1 (bytesA c)] (eRex true (bentV (c.take 2000) 0).1) [] := by
  have cO := fits_open c hc
  have cB := fits_l2Bent (c.take 2000) (take_len c) 0 (by omega)
  generalize c.take 2000 = b at *
  generalize bentV b 0 = x at *
  rw [eRex_eq] at *
  unfold eRd at *
  refine fits_of_cell 2 26 [] [0, 2] func17 rfl rfl rfl (by show 2 < 6; decide) (by show 1 ≤ 6; decide) (by rfl) (by rfl) (by show 0 ≤ 1; decide) (by rfl) (run_of ?_)
  simp -implicitDefEqProofs (maxSteps := 100000) (disch := first | (intros; contradiction) | omega) only [am0, am1, am2, am3, am4, am5, am6, am7, am8, am9, Nat.reduceSub, ↓reduceIte, reduceCtorEq, Nat.reduceEqDiff, Nat.reduceBEq, Nat.reduceAdd, Nat.reduceLT, Nat.reduceBNe, Nat.reduceMul, ↓reduceIte, tis, fls, rx]
  refine callB cO ?_
  simp -implicitDefEqProofs (maxSteps := 100000) (disch := first | (intros; contradiction) | omega) only [am0, am1, am2, am3, am4, am5, am6, am7, am8, am9, Nat.reduceSub, ↓reduceIte, reduceCtorEq, Nat.reduceEqDiff, Nat.reduceBEq, Nat.reduceAdd, Nat.reduceLT, Nat.reduceBNe, Nat.reduceMul, ↓reduceIte, tis, fls, rx]
  refine callM 0 cB ?_
  simp -implicitDefEqProofs (maxSteps := 100000) (disch := first | (intros; contradiction) | omega) only [am0, am1, am2, am3, am4, am5, am6, am7, am8, am9, Nat.reduceSub, ↓reduceIte, reduceCtorEq, Nat.reduceEqDiff, Nat.reduceBEq, Nat.reduceAdd, Nat.reduceLT, Nat.reduceBNe, Nat.reduceMul, ↓reduceIte, tis, fls, rx, List.dropLast_singleton]
def ab2 : List Int := [100, 101]
def ttV (b : List UInt8) : List UInt8 := if pickV b 0 12 = 0 then manyL [97, 98] [] (numV b 1 ab2).toNat else wordV b 1 9
theorem ab2_k (b : List UInt8) (p : Nat) : ((numV b p ab2).toNat : Int) = numV b p ab2 ∧ (numV b p ab2).toNat ≤ 101 := by
  have h := numV_mem b p (l := ab2) (by decide)
  generalize numV b p ab2 = x at *
  simp only [ab2, List.mem_cons, List.not_mem_nil, or_false] at h
  omega
theorem ttV_len (b : List UInt8) : (ttV b).length ≤ 1000 := by
  unfold ttV
  split
  · rw [manyL_len]
    have := (ab2_k b 1).2
    simp; omega
  · have := wordV_len b 1 9; omega
/-- spec.DrawTurnText -/
theorem fits_drawTurnText (c : List UInt8) (hc : c.length ≤ 9223372036854775807) : Fits prog 19 [.sl false 1 (bytesA c)] (.str (ttV (c.take 2000))) [] := by
  have cO := fits_open c hc
  have hb := take_len c
  generalize c.take 2000 = b at *
  have c1 : Fits prog 75 [.box (eRd b 0), .int .i64 12] (.int .i64 (pickV b 0 12)) [.box (eRd b 1)] := fits_pick b hb 0 (by omega) 12 (by omega) (by omega)
  unfold ttV
  generalize pickV b 0 12 = k at *
  by_cases hk : k = 0
  · subst hk
    rw [if_pos rfl]
    have cN := fits_num b hb 1 (by omega) ab2 (by decide) (by decide)
    obtain ⟨q1, q2⟩ := ab2_k b 1
    rw [← q1] at cN
    generalize (numV b 1 ab2).toNat = n at *
    have cM := fits_l15Many [97, 98] n (by simp only [List.length_cons, List.length_nil]; omega) (by simp) (by omega)
    unfold eRd at *
    refine fits_of_code [2] [] [0, 2, 3, 8] func19 rfl rfl rfl (by rfl) (by show 1 ≤ 15; decide) (by rfl) (by rfl) (by show 0 ≤ 1; decide) (by rfl) (run_of ?_)
    simp -implicitDefEqProofs (maxSteps := 100000) (disch := first | (intros; contradiction) | omega) only [am0, am1, am2, am3, am4, am5, am6, am7, am8, am9, Nat.reduceSub, ↓reduceIte, reduceCtorEq, Nat.reduceEqDiff, Nat.reduceBEq, Nat.reduceAdd, Nat.reduceLT, Nat.reduceBNe, Nat.reduceMul, ↓reduceIte, tis, fls, rx]
    refine callB cO ?_
    simp -implicitDefEqProofs (maxSteps := 100000) (disch := first | (intros; contradiction) | omega) only [am0, am1, am2, am3, am4, am5, am6, am7, am8, am9, Nat.reduceSub, ↓reduceIte, reduceCtorEq, Nat.reduceEqDiff, Nat.reduceBEq, Nat.reduceAdd, Nat.reduceLT, Nat.reduceBNe, Nat.reduceMul, ↓reduceIte, tis, fls, rx]
    refine callM 0 c1 ?_
    simp -implicitDefEqProofs (maxSteps := 100000) (disch := first | (intros; contradiction) | omega) only [am0, am1, am2, am3, am4, am5, am6, am7, am8, am9, Nat.reduceSub, ↓reduceIte, reduceCtorEq, Nat.reduceEqDiff, Nat.reduceBEq, Nat.reduceAdd, Nat.reduceLT, Nat.reduceBNe, Nat.reduceMul, ↓reduceIte, tis, fls, rx, List.dropLast_singleton]
    refine callMF [(10, [])] 0 cN ?_
    simp -implicitDefEqProofs (maxSteps := 100000) (disch := first | (intros; contradiction) | omega) only [am0, am1, am2, am3, am4, am5, am6, am7, am8, am9, Nat.reduceSub, ↓reduceIte, reduceCtorEq, Nat.reduceEqDiff, Nat.reduceBEq, Nat.reduceAdd, Nat.reduceLT, Nat.reduceBNe, Nat.reduceMul, ↓reduceIte, tis, fls, rx, List.dropLast_singleton, ab2, eInt]
    refine callB cM ?_
    simp -implicitDefEqProofs (maxSteps := 100000) (disch := first | (intros; contradiction) | omega) only [am0, am1, am2, am3, am4, am5, am6, am7, am8, am9, Nat.reduceSub, ↓reduceIte, reduceCtorEq, Nat.reduceEqDiff, Nat.reduceBEq, Nat.reduceAdd, Nat.reduceLT, Nat.reduceBNe, Nat.reduceMul, ↓reduceIte, tis, fls, rx]
  · rw [if_neg hk]
    have hk0 : ¬ ((k : Int) = 0) := by omega
    have cW : Fits prog 77 [.box (eRd b 1), .int .i64 9] (.str (wordV b 1 9)) [.box (eRd b (wordQ b 1 9))] := fits_l3Word b hb 1 (by omega) 9 (by omega)
    unfold eRd at *
    refine fits_of_code [2] [] [0, 2, 3, 8] func19 rfl rfl rfl (by rfl) (by show 1 ≤ 15; decide) (by rfl) (by rfl) (by show 0 ≤ 1; decide) (by rfl) (run_of ?_)
    simp -implicitDefEqProofs (maxSteps := 100000) (disch := first | (intros; contradiction) | omega) only [am0, am1, am2, am3, am4, am5, am6, am7, am8, am9, Nat.reduceSub, ↓reduceIte, reduceCtorEq, Nat.reduceEqDiff, Nat.reduceBEq, Nat.reduceAdd, Nat.reduceLT, Nat.reduceBNe, Nat.reduceMul, ↓reduceIte, tis, fls, rx]
    refine callB cO ?_
    simp -implicitDefEqProofs (maxSteps := 100000) (disch := first | (intros; contradiction) | omega) only [am0, am1, am2, am3, am4, am5, am6, am7, am8, am9, Nat.reduceSub, ↓reduceIte, reduceCtorEq, Nat.reduceEqDiff, Nat.reduceBEq, Nat.reduceAdd, Nat.reduceLT, Nat.reduceBNe, Nat.reduceMul, ↓reduceIte, tis, fls, rx]
    refine callM 0 c1 ?_
    simp -implicitDefEqProofs (maxSteps := 100000) (disch := first | (intros; contradiction) | omega) only [am0, am1, am2, am3, am4, am5, am6, am7, am8, am9, Nat.reduceSub, ↓reduceIte, reduceCtorEq, Nat.reduceEqDiff, Nat.reduceBEq, Nat.reduceAdd, Nat.reduceLT, Nat.reduceBNe, Nat.reduceMul, ↓reduceIte, tis, fls, rx, List.dropLast_singleton, hk0]
    refine callM 0 cW ?_
    simp -implicitDefEqProofs (maxSteps := 100000) (disch := first | (intros; contradiction) | omega) only [am0, am1, am2, am3, am4, am5, am6, am7, am8, am9, Nat.reduceSub, ↓reduceIte, reduceCtorEq, Nat.reduceEqDiff, Nat.reduceBEq, Nat.reduceAdd, Nat.reduceLT, Nat.reduceBNe, Nat.reduceMul, ↓reduceIte, tis, fls, rx, List.dropLast_singleton]
def m1213 : List Int := [12, 13]
def dmT (b : List UInt8) : List UInt8 := if pickV b (bentV b 0).2 30 = 0 then manyL [97] [] (numV b ((bentV b 0).2 + 1) m1213).toNat else wordV b ((bentV b 0).2 + 1) 6
theorem m1213_k (b : List UInt8) (p : Nat) : ((numV b p m1213).toNat : Int) = numV b p m1213 ∧ (numV b p m1213).toNat ≤ 13 := by
  have h := numV_mem b p (l := m1213) (by decide)
  generalize numV b p m1213 = x at *
  simp only [m1213, List.mem_cons, List.not_mem_nil, or_false] at h
  omega
theorem dmT_len (b : List UInt8) : (dmT b).length ≤ 1000 := by
  unfold dmT
  split
  · rw [manyL_len]
    have := (m1213_k b ((bentV b 0).2 + 1)).2
    simp; omega
  · have := wordV_len b ((bentV b 0).2 + 1) 6; omega
/-- spec.DrawMatchIs -/
theorem fits_drawMatchIs (c : List UInt8) (hc : c.length ≤ 9223372036854775807) : Fits prog 15 [.sl false 1 (bytesA c)] (.tup [eRex true (bentV (c.take 2000) 0).1, .str (dmT (c.take 2000))]) [] := by
  have cO := fits_open c hc
  have hb := take_len c
  generalize c.take 2000 = b at *
  have cB := fits_l2Bent b hb 0 (by omega)
  have hl := bentV_le b 0
  unfold dmT
  generalize bentV b 0 = x at *
  have c1 : Fits prog 75 [.box (eRd b x.2), .int .i64 30] (.int .i64 (pickV b x.2 30)) [.box (eRd b (x.2 + 1))] := fits_pick b hb x.2 (by omega) 30 (by omega) (by omega)
  generalize pickV b x.2 30 = k at *
  rw [eRex_eq] at *
  by_cases hk : k = 0
  · subst hk
    rw [if_pos rfl]
    have cN := fits_num b hb (x.2 + 1) (by omega) m1213 (by decide) (by decide)
    obtain ⟨q1, q2⟩ := m1213_k b (x.2 + 1)
    rw [← q1] at cN
    generalize (numV b (x.2 + 1) m1213).toNat = n at *
    have cM := fits_l15Many [97] n (by simp only [List.length_cons, List.length_nil]; omega) (by simp) (by omega)
    unfold eRd at *
    refine fits_of_two 2 26 3 [] [0, 2, 3, 4, 5, 12] func15 rfl rfl rfl (by show 2 < 21; decide) (by show 3 < 21; decide) (by show 1 ≤ 21; decide) (by rfl) (by rfl) (by show 0 ≤ 1; decide) (by rfl) (run_of ?_)
    simp -implicitDefEqProofs (maxSteps := 100000) (disch := first | (intros; contradiction) | omega) only [am0, am1, am2, am3, am4, am5, am6, am7, am8, am9, Nat.reduceSub, ↓reduceIte, reduceCtorEq, Nat.reduceEqDiff, Nat.reduceBEq, Nat.reduceAdd, Nat.reduceLT, Nat.reduceBNe, Nat.reduceMul, ↓reduceIte, tis, fls, rx]
    refine callB cO ?_
    simp -implicitDefEqProofs (maxSteps := 100000) (disch := first | (intros; contradiction) | omega) only [am0, am1, am2, am3, am4, am5, am6, am7, am8, am9, Nat.reduceSub, ↓reduceIte, reduceCtorEq, Nat.reduceEqDiff, Nat.reduceBEq, Nat.reduceAdd, Nat.reduceLT, Nat.reduceBNe, Nat.reduceMul, ↓reduceIte, tis, fls, rx]
    refine callM 0 cB ?_
    simp -implicitDefEqProofs (maxSteps := 100000) (disch := first | (intros; contradiction) | omega) only [am0, am1, am2, am3, am4, am5, am6, am7, am8, am9, Nat.reduceSub, ↓reduceIte, reduceCtorEq, Nat.reduceEqDiff, Nat.reduceBEq, Nat.reduceAdd, Nat.reduceLT, Nat.reduceBNe, Nat.reduceMul, ↓reduceIte, tis, fls, rx, List.dropLast_singleton]
    refine callM 0 c1 ?_
    simp -implicitDefEqProofs (maxSteps := 100000) (disch := first | (intros; contradiction) | omega) only [am0, am1, am2, am3, am4, am5, am6, am7, am8, am9, Nat.reduceSub, ↓reduceIte, reduceCtorEq, Nat.reduceEqDiff, Nat.reduceBEq, Nat.reduceAdd, Nat.reduceLT, Nat.reduceBNe, Nat.reduceMul, ↓reduceIte, tis, fls, rx, List.dropLast_singleton]
    refine .inr (run_mix 16 [] [4, 15] (by kernel_rfl) ?_)
    simp -implicitDefEqProofs (maxSteps := 100000) (disch := first | (intros; contradiction) | omega) only [am0, am1, am2, am3, am4, am5, am6, am7, am8, am9, Nat.reduceSub, ↓reduceIte, reduceCtorEq, Nat.reduceEqDiff, Nat.reduceBEq, Nat.reduceAdd, Nat.reduceLT, Nat.reduceBNe, Nat.reduceMul, ↓reduceIte, tis, fls, rx]
    refine callGF 0 cN ?_
    simp -implicitDefEqProofs (maxSteps := 100000) (disch := first | (intros; contradiction) | omega) only [am0, am1, am2, am3, am4, am5, am6, am7, am8, am9, Nat.reduceSub, ↓reduceIte, reduceCtorEq, Nat.reduceEqDiff, Nat.reduceBEq, Nat.reduceAdd, Nat.reduceLT, Nat.reduceBNe, Nat.reduceMul, ↓reduceIte, tis, fls, rx, List.dropLast_singleton, m1213, eInt]
    refine callL cM ?_
    simp -implicitDefEqProofs (maxSteps := 100000) (disch := first | (intros; contradiction) | omega) only [am0, am1, am2, am3, am4, am5, am6, am7, am8, am9, Nat.reduceSub, ↓reduceIte, reduceCtorEq, Nat.reduceEqDiff, Nat.reduceBEq, Nat.reduceAdd, Nat.reduceLT, Nat.reduceBNe, Nat.reduceMul, ↓reduceIte, tis, fls, rx, retCTwo, scalA]
  · rw [if_neg hk]
    have hk0 : ¬ ((k : Int) = 0) := by omega
    have cW : Fits prog 77 [.box (eRd b (x.2 + 1)), .int .i64 6] (.str (wordV b (x.2 + 1) 6)) [.box (eRd b (wordQ b (x.2 + 1) 6))] := fits_l3Word b hb (x.2 + 1) (by omega) 6 (by omega)
    unfold eRd at *
    refine fits_of_two 2 26 3 [] [0, 2, 3, 4, 5, 12] func15 rfl rfl rfl (by show 2 < 21; decide) (by show 3 < 21; decide) (by show 1 ≤ 21; decide) (by rfl) (by rfl) (by show 0 ≤ 1; decide) (by rfl) (run_of ?_)
    simp -implicitDefEqProofs (maxSteps := 100000) (disch := first | (intros; contradiction) | omega) only [am0, am1, am2, am3, am4, am5, am6, am7, am8, am9, Nat.reduceSub, ↓reduceIte, reduceCtorEq, Nat.reduceEqDiff, Nat.reduceBEq, Nat.reduceAdd, Nat.reduceLT, Nat.reduceBNe, Nat.reduceMul, ↓reduceIte, tis, fls, rx]
    refine callB cO ?_
    simp -implicitDefEqProofs (maxSteps := 100000) (disch := first | (intros; contradiction) | omega) only [am0, am1, am2, am3, am4, am5, am6, am7, am8, am9, Nat.reduceSub, ↓reduceIte, reduceCtorEq, Nat.reduceEqDiff, Nat.reduceBEq, Nat.reduceAdd, Nat.reduceLT, Nat.reduceBNe, Nat.reduceMul, ↓reduceIte, tis, fls, rx]
    refine callM 0 cB ?_
    simp -implicitDefEqProofs (maxSteps := 100000) (disch := first | (intros; contradiction) | omega) only [am0, am1, am2, am3, am4, am5, am6, am7, am8, am9, Nat.reduceSub, ↓reduceIte, reduceCtorEq, Nat.reduceEqDiff, Nat.reduceBEq, Nat.reduceAdd, Nat.reduceLT, Nat.reduceBNe, Nat.reduceMul, ↓reduceIte, tis, fls, rx, List.dropLast_singleton]
    refine callM 0 c1 ?_
    simp -implicitDefEqProofs (maxSteps := 100000) (disch := first | (intros; contradiction) | omega) only [am0, am1, am2, am3, am4, am5, am6, am7, am8, am9, Nat.reduceSub, ↓reduceIte, reduceCtorEq, Nat.reduceEqDiff, Nat.reduceBEq, Nat.reduceAdd, Nat.reduceLT, Nat.reduceBNe, Nat.reduceMul, ↓reduceIte, tis, fls, rx, List.dropLast_singleton, hk0]
    refine .inr (run_mix 20 [] [4] (by kernel_rfl) ?_)
    simp -implicitDefEqProofs (maxSteps := 100000) (disch := first | (intros; contradiction) | omega) only [am0, am1, am2, am3, am4, am5, am6, am7, am8, am9, Nat.reduceSub, ↓reduceIte, reduceCtorEq, Nat.reduceEqDiff, Nat.reduceBEq, Nat.reduceAdd, Nat.reduceLT, Nat.reduceBNe, Nat.reduceMul, ↓reduceIte, tis, fls, rx]
    refine callG 0 cW ?_
    simp -implicitDefEqProofs (maxSteps := 100000) (disch := first | (intros; contradiction) | omega) only [am0, am1, am2, am3, am4, am5, am6, am7, am8, am9, Nat.reduceSub, ↓reduceIte, reduceCtorEq, Nat.reduceEqDiff, Nat.reduceBEq, Nat.reduceAdd, Nat.reduceLT, Nat.reduceBNe, Nat.reduceMul, ↓reduceIte, tis, fls, rx, List.dropLast_singleton, retCTwo, scalA]
def l5 : List (List UInt8) := [[97, 98], [97, 98, 99], [97], [], [97, 98, 99, 100]]
def m7 : List Int := [0, 1, 2, 3, 4, -1, 7]
def s6 : List Int := [97, 98, 0, 255, 97, -1]
def t6 : List Int := [98, 99, 97, 255, 120, 256]
def daL (b : List UInt8) : List UInt8 := ofV b (bentV b 0).2 l5
def daM (b : List UInt8) : Int := numV b ((bentV b 0).2 + 1) m7
def dsA (b : List UInt8) : Int := numV b (bentV b 0).2 s6
def dsB (b : List UInt8) : Int := numV b ((bentV b 0).2 + 1) t6
/-- spec.DrawAskAll -/
theorem fits_drawAskAll (c : List UInt8) (hc : c.length ≤ 9223372036854775807) : Fits prog 12 [.sl false 1 (bytesA c)] (.tup [eRex true (bentV (c.take 2000) 0).1, .str (daL (c.take 2000)), .int .i64 (daM (c.take 2000))]) [] := by
  have cO := fits_open c hc
  have hb := take_len c
  generalize c.take 2000 = b at *
  have cB := fits_l2Bent b hb 0 (by omega)
  have hl := bentV_le b 0
  unfold daL daM
  generalize bentV b 0 = x at *
  have cF := fits_of b hb x.2 (by omega) l5 (by decide) (by decide)
  have cN := fits_num b hb (x.2 + 1) (by omega) m7 (by decide) (by decide)
  generalize ofV b x.2 l5 = u at *
  generalize numV b (x.2 + 1) m7 = v at *
  rw [eRex_eq] at *
  unfold eRd at *
  refine fits_of_three 2 26 3 4 [] [0, 2, 3, 4, 5, 6, 7] func12 rfl rfl rfl (by show 2 < 20; decide) (by show 3 < 20; decide) (by show 4 < 20; decide) (by show 1 ≤ 20; decide) (by rfl) (by rfl) (by show 0 ≤ 1; decide) (by rfl) (run_of ?_)
  simp -implicitDefEqProofs (maxSteps := 100000) (disch := first | (intros; contradiction) | omega) only [am0, am1, am2, am3, am4, am5, am6, am7, am8, am9, Nat.reduceSub, ↓reduceIte, reduceCtorEq, Nat.reduceEqDiff, Nat.reduceBEq, Nat.reduceAdd, Nat.reduceLT, Nat.reduceBNe, Nat.reduceMul, ↓reduceIte, tis, fls, rx]
  refine callB cO ?_
  simp -implicitDefEqProofs (maxSteps := 100000) (disch := first | (intros; contradiction) | omega) only [am0, am1, am2, am3, am4, am5, am6, am7, am8, am9, Nat.reduceSub, ↓reduceIte, reduceCtorEq, Nat.reduceEqDiff, Nat.reduceBEq, Nat.reduceAdd, Nat.reduceLT, Nat.reduceBNe, Nat.reduceMul, ↓reduceIte, tis, fls, rx]
  refine callM 0 cB ?_
  simp -implicitDefEqProofs (maxSteps := 100000) (disch := first | (intros; contradiction) | omega) only [am0, am1, am2, am3, am4, am5, am6, am7, am8, am9, Nat.reduceSub, ↓reduceIte, reduceCtorEq, Nat.reduceEqDiff, Nat.reduceBEq, Nat.reduceAdd, Nat.reduceLT, Nat.reduceBNe, Nat.reduceMul, ↓reduceIte, tis, fls, rx, List.dropLast_singleton]
  refine callMF [(13, [])] 0 cF ?_
  simp -implicitDefEqProofs (maxSteps := 100000) (disch := first | (intros; contradiction) | omega) only [am0, am1, am2, am3, am4, am5, am6, am7, am8, am9, Nat.reduceSub, ↓reduceIte, reduceCtorEq, Nat.reduceEqDiff, Nat.reduceBEq, Nat.reduceAdd, Nat.reduceLT, Nat.reduceBNe, Nat.reduceMul, ↓reduceIte, tis, fls, rx, List.dropLast_singleton, l5, eStr]
  refine .inr (run_mixl 19 [] [5, 18] 5 [[1], [], []] (by kernel_rfl) ?_)
  simp -implicitDefEqProofs (maxSteps := 100000) (disch := first | (intros; contradiction) | omega) only [am0, am1, am2, am3, am4, am5, am6, am7, am8, am9, Nat.reduceSub, ↓reduceIte, reduceCtorEq, Nat.reduceEqDiff, Nat.reduceBEq, Nat.reduceAdd, Nat.reduceLT, Nat.reduceBNe, Nat.reduceMul, ↓reduceIte, tis, fls, rx]
  refine callGF 0 cN ?_
  simp -implicitDefEqProofs (maxSteps := 100000) (disch := first | (intros; contradiction) | omega) only [am0, am1, am2, am3, am4, am5, am6, am7, am8, am9, Nat.reduceSub, ↓reduceIte, reduceCtorEq, Nat.reduceEqDiff, Nat.reduceBEq, Nat.reduceAdd, Nat.reduceLT, Nat.reduceBNe, Nat.reduceMul, ↓reduceIte, tis, fls, rx, List.dropLast_singleton, m7, eInt, retCThree, scalA]
/-- spec.DrawTurnSwap -/
theorem fits_drawTurnSwap (c : List UInt8) (hc : c.length ≤ 9223372036854775807) : Fits prog 34 [.sl false 1 (bytesA c)] (.tup [eRex true (bentV (c.take 2000) 0).1, .int .i64 (dsA (c.take 2000)), .int .i64 (dsB (c.take 2000))]) [] := by
  have cO := fits_open c hc
  have hb := take_len c
  generalize c.take 2000 = b at *
  have cB := fits_l2Bent b hb 0 (by omega)
  have hl := bentV_le b 0
  unfold dsA dsB
  generalize bentV b 0 = x at *
  have cF := fits_num b hb x.2 (by omega) s6 (by decide) (by decide)
  have cN := fits_num b hb (x.2 + 1) (by omega) t6 (by decide) (by decide)
  generalize numV b x.2 s6 = u at *
  generalize numV b (x.2 + 1) t6 = v at *
  rw [eRex_eq] at *
  unfold eRd at *
  refine fits_of_three 2 26 3 4 [] [0, 2, 3, 4, 5, 6, 7] func34 rfl rfl rfl (by show 2 < 20; decide) (by show 3 < 20; decide) (by show 4 < 20; decide) (by show 1 ≤ 20; decide) (by rfl) (by rfl) (by show 0 ≤ 1; decide) (by rfl) (run_of ?_)
  simp -implicitDefEqProofs (maxSteps := 100000) (disch := first | (intros; contradiction) | omega) only [am0, am1, am2, am3, am4, am5, am6, am7, am8, am9, Nat.reduceSub, ↓reduceIte, reduceCtorEq, Nat.reduceEqDiff, Nat.reduceBEq, Nat.reduceAdd, Nat.reduceLT, Nat.reduceBNe, Nat.reduceMul, ↓reduceIte, tis, fls, rx]
  refine callB cO ?_
  simp -implicitDefEqProofs (maxSteps := 100000) (disch := first | (intros; contradiction) | omega) only [am0, am1, am2, am3, am4, am5, am6, am7, am8, am9, Nat.reduceSub, ↓reduceIte, reduceCtorEq, Nat.reduceEqDiff, Nat.reduceBEq, Nat.reduceAdd, Nat.reduceLT, Nat.reduceBNe, Nat.reduceMul, ↓reduceIte, tis, fls, rx]
  refine callM 0 cB ?_
  simp -implicitDefEqProofs (maxSteps := 100000) (disch := first | (intros; contradiction) | omega) only [am0, am1, am2, am3, am4, am5, am6, am7, am8, am9, Nat.reduceSub, ↓reduceIte, reduceCtorEq, Nat.reduceEqDiff, Nat.reduceBEq, Nat.reduceAdd, Nat.reduceLT, Nat.reduceBNe, Nat.reduceMul, ↓reduceIte, tis, fls, rx, List.dropLast_singleton]
  refine callMF [(13, [])] 0 cF ?_
  simp -implicitDefEqProofs (maxSteps := 100000) (disch := first | (intros; contradiction) | omega) only [am0, am1, am2, am3, am4, am5, am6, am7, am8, am9, Nat.reduceSub, ↓reduceIte, reduceCtorEq, Nat.reduceEqDiff, Nat.reduceBEq, Nat.reduceAdd, Nat.reduceLT, Nat.reduceBNe, Nat.reduceMul, ↓reduceIte, tis, fls, rx, List.dropLast_singleton, s6, eInt]
  refine .inr (run_mixl 19 [] [5, 18] 5 [[1], [], []] (by kernel_rfl) ?_)
  simp -implicitDefEqProofs (maxSteps := 100000) (disch := first | (intros; contradiction) | omega) only [am0, am1, am2, am3, am4, am5, am6, am7, am8, am9, Nat.reduceSub, ↓reduceIte, reduceCtorEq, Nat.reduceEqDiff, Nat.reduceBEq, Nat.reduceAdd, Nat.reduceLT, Nat.reduceBNe, Nat.reduceMul, ↓reduceIte, tis, fls, rx]
  refine callGF 0 cN ?_
  simp -implicitDefEqProofs (maxSteps := 100000) (disch := first | (intros; contradiction) | omega) only [am0, am1, am2, am3, am4, am5, am6, am7, am8, am9, Nat.reduceSub, ↓reduceIte, reduceCtorEq, Nat.reduceEqDiff, Nat.reduceBEq, Nat.reduceAdd, Nat.reduceLT, Nat.reduceBNe, Nat.reduceMul, ↓reduceIte, tis, fls, rx, List.dropLast_singleton, t6, eInt, retCThree, scalA]
/-- spec.AskAll -/
theorem fits_sAskAll (r : Rex) (hb : bd r ≤ 1048576) (ls : Txt) (hls : ls.length ≤ 1048576) (most : Int) : Fits prog 14 [eRex false r, .str ls, .int .i64 most] (.sl true 1 ((askP r ls most).map eStr)) [] := by
  have cO := fits_sRexOk r hb
  by_cases hg : rexB r = true ∧ ls.length ≤ 3 ∧ (0 ≤ most ∧ most ≤ 6)
  · obtain ⟨h, hl, hm⟩ := id hg
    have e : askP r ls most = askN r ls (most.toNat + 1) := if_pos hg
    obtain ⟨m, rfl⟩ : ∃ n : Nat, most = n := ⟨most.toNat, by omega⟩
    rw [h] at cO
    rw [e, show Int.toNat (m : Int) = m from rfl]
    have hfin := askN_le r hl (m + 1) (by omega)
    have cM := fun t ht => fits_l3Is r 8 (rexB_fm h) hb t ht
    simp only [eRex_eq] at *
    refine fits_of_code [6] [] [0, 1, 2, 3, 6, 7, 8, 9, 10, 11, 12, 29, 34, 41, 49, 60] func14 rfl rfl rfl (by rfl) (by show 3 ≤ 78; decide) (by rfl) (by rfl) (by show 0 ≤ 3; decide) (by rfl) (run_of ?_)
    simp -implicitDefEqProofs (maxSteps := 100000) (disch := first | (intros; contradiction) | omega) only [am0, am1, am2, am3, am4, am5, am6, am7, am8, am9, Nat.reduceSub, ↓reduceIte, reduceCtorEq, Nat.reduceEqDiff, Nat.reduceBEq, Nat.reduceAdd, Nat.reduceLT, Nat.reduceBNe, Nat.reduceMul, ↓reduceIte, tis, rx, fls]
    refine callB cO ?_
    simp -implicitDefEqProofs (maxSteps := 100000) (disch := first | (intros; contradiction) | omega) only [am0, am1, am2, am3, am4, am5, am6, am7, am8, am9, Nat.reduceSub, ↓reduceIte, reduceCtorEq, Nat.reduceEqDiff, Nat.reduceBEq, Nat.reduceAdd, Nat.reduceLT, Nat.reduceBNe, Nat.reduceMul, ↓reduceIte, tis, rx, fls]
    refine run_loop (α := Nat) (fun n => n ≤ m + 1) (fun n => [(1, .str ls), (2, .int .i64 m), (3, .box (.agg [.int .i64 r.kind, .sl false 2 (r.set.map eSpan), .sl false 3 (r.kids.map (eRex false))])), (7, .sl true 1 ((askN r ls n).map eStr)), (8, .sl true 1 ((level ls n).map eStr)), (9, .int .i64 n)]) (fun n => m + 1 - n) 0 (Nat.zero_le _) ?_ ?_
    · simp -implicitDefEqProofs (maxSteps := 100000) (disch := first | (intros; contradiction) | omega) only [am0, am1, am2, am3, am4, am5, am6, am7, am8, am9, Nat.reduceSub, ↓reduceIte, reduceCtorEq, Nat.reduceEqDiff, Nat.reduceBEq, Nat.reduceAdd, Nat.reduceLT, Nat.reduceBNe, Nat.reduceMul, ↓reduceIte, tis, askN, level, eStr]
    · intro n hn'
      by_cases hn : n ≤ m
      · have hle := level_le hl (n := n) (by omega)
        have hae := askN_le r hl n (by omega)
        simp -implicitDefEqProofs (maxSteps := 100000) (disch := first | (intros; contradiction) | omega) only [am0, am1, am2, am3, am4, am5, am6, am7, am8, am9, Nat.reduceSub, ↓reduceIte, reduceCtorEq, Nat.reduceEqDiff, Nat.reduceBEq, Nat.reduceAdd, Nat.reduceLT, Nat.reduceBNe, Nat.reduceMul, ↓reduceIte, tis, rx, fls]
        refine run_loop (α := Nat) (fun j => j ≤ (level ls n).length) (fun j => [(1, .str ls), (2, .int .i64 m), (3, .box (.agg [.int .i64 r.kind, .sl false 2 (r.set.map eSpan), .sl false 3 (r.kids.map (eRex false))])), (7, .sl true 1 ((askN r ls n ++ ((level ls n).take j).filter (mt r)).map eStr)), (8, .sl true 1 ((level ls n).map eStr)), (9, .int .i64 n), (10, .sl true 1 ((((level ls n).take j).flatMap (extW ls)).map eStr)), (11, .int .i64 j)]) (fun j => (level ls n).length - j) 0 (Nat.zero_le _) ?_ ?_
        · simp -implicitDefEqProofs (maxSteps := 100000) (disch := first | (intros; contradiction) | omega) only [am0, am1, am2, am3, am4, am5, am6, am7, am8, am9, Nat.reduceSub, ↓reduceIte, reduceCtorEq, Nat.reduceEqDiff, Nat.reduceBEq, Nat.reduceAdd, Nat.reduceLT, Nat.reduceBNe, Nat.reduceMul, ↓reduceIte, tis, List.filter_nil, List.append_nil, List.flatMap_nil]
        · intro j hj'
          have hfl : (((level ls n).take j).filter (mt r)).length ≤ 729 := Nat.le_trans (List.length_filter_le _ _) (by simp; omega)
          have hx := flat_le hl ((level ls n).take j)
          have hx2 : ((level ls n).take j).length ≤ 729 := by simp; omega
          by_cases hj : j < (level ls n).length
          · have hw : ((level ls n)[j]).length = n := level_word ls n _ (List.getElem_mem hj)
            have cMj := cM (level ls n)[j] (by omega)
            have et := List.take_succ_eq_append_getElem hj
            have eF : ((level ls n).take (j + 1)).filter (mt r) = ((level ls n).take j).filter (mt r) ++ (if mt r (level ls n)[j] = true then [(level ls n)[j]] else []) := by
              rw [et, List.filter_append]; congr 1
              by_cases hq : mt r (level ls n)[j] = true <;> simp [hq]
            have eX : ((level ls n).take (j + 1)).flatMap (extW ls) = ((level ls n).take j).flatMap (extW ls) ++ extW ls (level ls n)[j] := by
              rw [et, List.flatMap_append]; simp
            have gw : ((level ls n).map eStr)[j]? = some (.str (level ls n)[j]) := by rw [List.getElem?_map, List.getElem?_eq_getElem hj]; rfl
            have gl : ((level ls n).map eStr).length = (level ls n).length := by simp
            have hYl : (askN r ls n ++ ((level ls n).take j).filter (mt r)).length ≤ 8192 := by simp only [List.length_append]; omega
            have eF2 : askN r ls n ++ ((level ls n).take (j + 1)).filter (mt r) = (askN r ls n ++ ((level ls n).take j).filter (mt r)) ++ (if mt r (level ls n)[j] = true then [(level ls n)[j]] else []) := by rw [eF, List.append_assoc]
            clear eF
            have eF := eF2
            generalize (level ls n)[j] = w at *
            generalize ((level ls n).take j).flatMap (extW ls) = X at *
            generalize askN r ls n ++ ((level ls n).take j).filter (mt r) = Y at *
            simp -implicitDefEqProofs (maxSteps := 100000) (disch := first | (intros; contradiction) | omega) only [am0, am1, am2, am3, am4, am5, am6, am7, am8, am9, Nat.reduceSub, ↓reduceIte, reduceCtorEq, Nat.reduceEqDiff, Nat.reduceBEq, Nat.reduceAdd, Nat.reduceLT, Nat.reduceBNe, Nat.reduceMul, ↓reduceIte, tis, rx, fls, gw, gl]
            refine .inl ⟨by kernel_rfl, ?_⟩
            refine callL cMj ?_
            cases hq : mt r w with
            | true =>
              simp -implicitDefEqProofs (maxSteps := 100000) (disch := first | (intros; contradiction) | omega) only [am0, am1, am2, am3, am4, am5, am6, am7, am8, am9, Nat.reduceSub, ↓reduceIte, reduceCtorEq, Nat.reduceEqDiff, Nat.reduceBEq, Nat.reduceAdd, Nat.reduceLT, Nat.reduceBNe, Nat.reduceMul, ↓reduceIte, tis, rx, fls, gw, gl]
              refine run_loop (α := Nat) (fun i => i ≤ ls.length) (fun i => [(1, .str ls), (2, .int .i64 m), (3, .box (.agg [.int .i64 r.kind, .sl false 2 (r.set.map eSpan), .sl false 3 (r.kids.map (eRex false))])), (7, .sl true 1 ((Y ++ [w]).map eStr)), (8, .sl true 1 ((level ls n).map eStr)), (9, .int .i64 n), (10, .sl true 1 ((X ++ (ls.take i).map fun c => w ++ [c]).map eStr)), (11, .int .i64 j), (12, .int .i64 i)]) (fun i => ls.length - i) 0 (Nat.zero_le _) ?_ ?_
              · simp -implicitDefEqProofs (maxSteps := 100000) (disch := first | (intros; contradiction) | omega) only [am0, am1, am2, am3, am4, am5, am6, am7, am8, am9, Nat.reduceSub, ↓reduceIte, reduceCtorEq, Nat.reduceEqDiff, Nat.reduceBEq, Nat.reduceAdd, Nat.reduceLT, Nat.reduceBNe, Nat.reduceMul, ↓reduceIte, tis, List.append_nil, hq, eStr, List.map_append, List.map_cons, List.map_nil]
              · intro i hi'
                by_cases hi : i < ls.length
                · have es : (ls.take (i + 1)).drop i = [ls[i]] := by rw [List.drop_take, List.drop_eq_getElem_cons hi, show i + 1 - i = 1 by omega]; rfl
                  have ei : ((i : Int) + 1).toNat = i + 1 := by omega
                  have hXl : (X ++ (ls.take i).map fun c => w ++ [c]).length ≤ 8192 := by simp; omega
                  have eN : (X ++ (ls.take (i + 1)).map fun c => w ++ [c]) = (X ++ (ls.take i).map fun c => w ++ [c]) ++ [w ++ [ls[i]]] := by
                    rw [List.take_succ_eq_append_getElem hi, List.map_append, List.append_assoc]; rfl
                  have hti : (ls.take i).length = i := by simp; omega
                  simp -implicitDefEqProofs (maxSteps := 100000) (disch := first | (intros; contradiction) | omega) only [am0, am1, am2, am3, am4, am5, am6, am7, am8, am9, Nat.reduceSub, ↓reduceIte, reduceCtorEq, Nat.reduceEqDiff, Nat.reduceBEq, Nat.reduceAdd, Nat.reduceLT, Nat.reduceBNe, Nat.reduceMul, ↓reduceIte, tis, rx, fls, es, ei, hw, hti, gw, gl]
                  refine .inl ⟨by kernel_rfl, ?_⟩
                  refine round_normal (i + 1) (by omega) ?_ (by show ls.length - (i + 1) < ls.length - i; omega)
                  simp -implicitDefEqProofs (maxSteps := 100000) (disch := first | (intros; contradiction) | omega) only [am0, am1, am2, am3, am4, am5, am6, am7, am8, am9, Nat.reduceSub, ↓reduceIte, reduceCtorEq, Nat.reduceEqDiff, Nat.reduceBEq, Nat.reduceAdd, Nat.reduceLT, Nat.reduceBNe, Nat.reduceMul, ↓reduceIte, tis, eN, eStr, List.map_append, List.map_cons, List.map_nil]
                · obtain rfl : i = ls.length := by omega
                  have eT : ls.take ls.length = ls := List.take_length
                  simp -implicitDefEqProofs (maxSteps := 100000) (disch := first | (intros; contradiction) | omega) only [am0, am1, am2, am3, am4, am5, am6, am7, am8, am9, Nat.reduceSub, ↓reduceIte, reduceCtorEq, Nat.reduceEqDiff, Nat.reduceBEq, Nat.reduceAdd, Nat.reduceLT, Nat.reduceBNe, Nat.reduceMul, ↓reduceIte, tis, rx, fls]
                  refine round_normal (j + 1) (by omega) ?_ (by show (level ls n).length - (j + 1) < (level ls n).length - j; omega)
                  simp -implicitDefEqProofs (maxSteps := 100000) (disch := first | (intros; contradiction) | omega) only [am0, am1, am2, am3, am4, am5, am6, am7, am8, am9, Nat.reduceSub, ↓reduceIte, reduceCtorEq, Nat.reduceEqDiff, Nat.reduceBEq, Nat.reduceAdd, Nat.reduceLT, Nat.reduceBNe, Nat.reduceMul, ↓reduceIte, tis, eF, eX, hq, eT, extW, List.append_nil]
            | false =>
              simp -implicitDefEqProofs (maxSteps := 100000) (disch := first | (intros; contradiction) | omega) only [am0, am1, am2, am3, am4, am5, am6, am7, am8, am9, Nat.reduceSub, ↓reduceIte, reduceCtorEq, Nat.reduceEqDiff, Nat.reduceBEq, Nat.reduceAdd, Nat.reduceLT, Nat.reduceBNe, Nat.reduceMul, ↓reduceIte, tis, rx, fls, gw, gl]
              refine run_loop (α := Nat) (fun i => i ≤ ls.length) (fun i => [(1, .str ls), (2, .int .i64 m), (3, .box (.agg [.int .i64 r.kind, .sl false 2 (r.set.map eSpan), .sl false 3 (r.kids.map (eRex false))])), (7, .sl true 1 (Y.map eStr)), (8, .sl true 1 ((level ls n).map eStr)), (9, .int .i64 n), (10, .sl true 1 ((X ++ (ls.take i).map fun c => w ++ [c]).map eStr)), (11, .int .i64 j), (12, .int .i64 i)]) (fun i => ls.length - i) 0 (Nat.zero_le _) ?_ ?_
              · simp -implicitDefEqProofs (maxSteps := 100000) (disch := first | (intros; contradiction) | omega) only [am0, am1, am2, am3, am4, am5, am6, am7, am8, am9, Nat.reduceSub, ↓reduceIte, reduceCtorEq, Nat.reduceEqDiff, Nat.reduceBEq, Nat.reduceAdd, Nat.reduceLT, Nat.reduceBNe, Nat.reduceMul, ↓reduceIte, tis, List.append_nil, hq, eStr, List.map_append, List.map_cons, List.map_nil]
              · intro i hi'
                by_cases hi : i < ls.length
                · have es : (ls.take (i + 1)).drop i = [ls[i]] := by rw [List.drop_take, List.drop_eq_getElem_cons hi, show i + 1 - i = 1 by omega]; rfl
                  have ei : ((i : Int) + 1).toNat = i + 1 := by omega
                  have hXl : (X ++ (ls.take i).map fun c => w ++ [c]).length ≤ 8192 := by simp; omega
                  have eN : (X ++ (ls.take (i + 1)).map fun c => w ++ [c]) = (X ++ (ls.take i).map fun c => w ++ [c]) ++ [w ++ [ls[i]]] := by
                    rw [List.take_succ_eq_append_getElem hi, List.map_append, List.append_assoc]; rfl
                  have hti : (ls.take i).length = i := by simp; omega
                  simp -implicitDefEqProofs (maxSteps := 100000) (disch := first | (intros; contradiction) | omega) only [am0, am1, am2, am3, am4, am5, am6, am7, am8, am9, Nat.reduceSub, ↓reduceIte, reduceCtorEq, Nat.reduceEqDiff, Nat.reduceBEq, Nat.reduceAdd, Nat.reduceLT, Nat.reduceBNe, Nat.reduceMul, ↓reduceIte, tis, rx, fls, es, ei, hw, hti, gw, gl]
                  refine .inl ⟨by kernel_rfl, ?_⟩
                  refine round_normal (i + 1) (by omega) ?_ (by show ls.length - (i + 1) < ls.length - i; omega)
                  simp -implicitDefEqProofs (maxSteps := 100000) (disch := first | (intros; contradiction) | omega) only [am0, am1, am2, am3, am4, am5, am6, am7, am8, am9, Nat.reduceSub, ↓reduceIte, reduceCtorEq, Nat.reduceEqDiff, Nat.reduceBEq, Nat.reduceAdd, Nat.reduceLT, Nat.reduceBNe, Nat.reduceMul, ↓reduceIte, tis, eN, eStr, List.map_append, List.map_cons, List.map_nil]
                · obtain rfl : i = ls.length := by omega
                  have eT : ls.take ls.length = ls := List.take_length
                  simp -implicitDefEqProofs (maxSteps := 100000) (disch := first | (intros; contradiction) | omega) only [am0, am1, am2, am3, am4, am5, am6, am7, am8, am9, Nat.reduceSub, ↓reduceIte, reduceCtorEq, Nat.reduceEqDiff, Nat.reduceBEq, Nat.reduceAdd, Nat.reduceLT, Nat.reduceBNe, Nat.reduceMul, ↓reduceIte, tis, rx, fls]
                  refine round_normal (j + 1) (by omega) ?_ (by show (level ls n).length - (j + 1) < (level ls n).length - j; omega)
                  simp -implicitDefEqProofs (maxSteps := 100000) (disch := first | (intros; contradiction) | omega) only [am0, am1, am2, am3, am4, am5, am6, am7, am8, am9, Nat.reduceSub, ↓reduceIte, reduceCtorEq, Nat.reduceEqDiff, Nat.reduceBEq, Nat.reduceAdd, Nat.reduceLT, Nat.reduceBNe, Nat.reduceMul, ↓reduceIte, tis, eF, eX, hq, Bool.false_eq_true, eT, extW, List.append_nil]
          · obtain rfl : j = (level ls n).length := by omega
            have eF : (level ls n).take (level ls n).length = level ls n := List.take_length
            simp -implicitDefEqProofs (maxSteps := 100000) (disch := first | (intros; contradiction) | omega) only [am0, am1, am2, am3, am4, am5, am6, am7, am8, am9, Nat.reduceSub, ↓reduceIte, reduceCtorEq, Nat.reduceEqDiff, Nat.reduceBEq, Nat.reduceAdd, Nat.reduceLT, Nat.reduceBNe, Nat.reduceMul, ↓reduceIte, tis, rx, fls, eF]
            refine round_normal (n + 1) (by omega) ?_ (by show m + 1 - (n + 1) < m + 1 - n; omega)
            simp -implicitDefEqProofs (maxSteps := 100000) (disch := first | (intros; contradiction) | omega) only [am0, am1, am2, am3, am4, am5, am6, am7, am8, am9, Nat.reduceSub, ↓reduceIte, reduceCtorEq, Nat.reduceEqDiff, Nat.reduceBEq, Nat.reduceAdd, Nat.reduceLT, Nat.reduceBNe, Nat.reduceMul, ↓reduceIte, tis, askN, level]
      · obtain rfl : n = m + 1 := by omega
        simp -implicitDefEqProofs (maxSteps := 100000) (disch := first | (intros; contradiction) | omega) only [am0, am1, am2, am3, am4, am5, am6, am7, am8, am9, Nat.reduceSub, ↓reduceIte, reduceCtorEq, Nat.reduceEqDiff, Nat.reduceBEq, Nat.reduceAdd, Nat.reduceLT, Nat.reduceBNe, Nat.reduceMul, ↓reduceIte, tis, rx, fls]
  · have e : askP r ls most = [] := if_neg hg
    rw [e]
    simp only [eRex_eq] at *
    cases h : rexB r with
    | false =>
      rw [h] at cO
      refine fits_of_code [6] [] [0, 1, 2, 3, 6, 7, 8, 9, 10, 11, 12, 29, 34, 41, 49, 60] func14 rfl rfl rfl (by rfl) (by show 3 ≤ 78; decide) (by rfl) (by rfl) (by show 0 ≤ 3; decide) (by rfl) (run_of ?_)
      simp -implicitDefEqProofs (maxSteps := 100000) (disch := first | (intros; contradiction) | omega) only [am0, am1, am2, am3, am4, am5, am6, am7, am8, am9, Nat.reduceSub, ↓reduceIte, reduceCtorEq, Nat.reduceEqDiff, Nat.reduceBEq, Nat.reduceAdd, Nat.reduceLT, Nat.reduceBNe, Nat.reduceMul, ↓reduceIte, tis, rx, fls]
      refine callB cO ?_
      simp -implicitDefEqProofs (maxSteps := 100000) (disch := first | (intros; contradiction) | omega) only [am0, am1, am2, am3, am4, am5, am6, am7, am8, am9, Nat.reduceSub, ↓reduceIte, reduceCtorEq, Nat.reduceEqDiff, Nat.reduceBEq, Nat.reduceAdd, Nat.reduceLT, Nat.reduceBNe, Nat.reduceMul, ↓reduceIte, tis, List.map_nil]
    | true =>
      rw [h] at cO
      by_cases hl : (3 : Int) < ls.length
      · refine fits_of_code [6] [] [0, 1, 2, 3, 6, 7, 8, 9, 10, 11, 12, 29, 34, 41, 49, 60] func14 rfl rfl rfl (by rfl) (by show 3 ≤ 78; decide) (by rfl) (by rfl) (by show 0 ≤ 3; decide) (by rfl) (run_of ?_)
        simp -implicitDefEqProofs (maxSteps := 100000) (disch := first | (intros; contradiction) | omega) only [am0, am1, am2, am3, am4, am5, am6, am7, am8, am9, Nat.reduceSub, ↓reduceIte, reduceCtorEq, Nat.reduceEqDiff, Nat.reduceBEq, Nat.reduceAdd, Nat.reduceLT, Nat.reduceBNe, Nat.reduceMul, ↓reduceIte, tis, rx, fls]
        refine callB cO ?_
        simp -implicitDefEqProofs (maxSteps := 100000) (disch := first | (intros; contradiction) | omega) only [am0, am1, am2, am3, am4, am5, am6, am7, am8, am9, Nat.reduceSub, ↓reduceIte, reduceCtorEq, Nat.reduceEqDiff, Nat.reduceBEq, Nat.reduceAdd, Nat.reduceLT, Nat.reduceBNe, Nat.reduceMul, ↓reduceIte, tis, List.map_nil, hl]
      · have hI : ¬ (0 ≤ most ∧ most ≤ 6) := fun hm => hg ⟨h, by omega, hm⟩
        by_cases h1 : most < 0
        · refine fits_of_code [6] [] [0, 1, 2, 3, 6, 7, 8, 9, 10, 11, 12, 29, 34, 41, 49, 60] func14 rfl rfl rfl (by rfl) (by show 3 ≤ 78; decide) (by rfl) (by rfl) (by show 0 ≤ 3; decide) (by rfl) (run_of ?_)
          simp -implicitDefEqProofs (maxSteps := 100000) (disch := first | (intros; contradiction) | omega) only [am0, am1, am2, am3, am4, am5, am6, am7, am8, am9, Nat.reduceSub, ↓reduceIte, reduceCtorEq, Nat.reduceEqDiff, Nat.reduceBEq, Nat.reduceAdd, Nat.reduceLT, Nat.reduceBNe, Nat.reduceMul, ↓reduceIte, tis, rx, fls]
          refine callB cO ?_
          simp -implicitDefEqProofs (maxSteps := 100000) (disch := first | (intros; contradiction) | omega) only [am0, am1, am2, am3, am4, am5, am6, am7, am8, am9, Nat.reduceSub, ↓reduceIte, reduceCtorEq, Nat.reduceEqDiff, Nat.reduceBEq, Nat.reduceAdd, Nat.reduceLT, Nat.reduceBNe, Nat.reduceMul, ↓reduceIte, tis, List.map_nil, hl, h1]
        · have h2 : 6 < most := by omega
          refine fits_of_code [6] [] [0, 1, 2, 3, 6, 7, 8, 9, 10, 11, 12, 29, 34, 41, 49, 60] func14 rfl rfl rfl (by rfl) (by show 3 ≤ 78; decide) (by rfl) (by rfl) (by show 0 ≤ 3; decide) (by rfl) (run_of ?_)
          simp -implicitDefEqProofs (maxSteps := 100000) (disch := first | (intros; contradiction) | omega) only [am0, am1, am2, am3, am4, am5, am6, am7, am8, am9, Nat.reduceSub, ↓reduceIte, reduceCtorEq, Nat.reduceEqDiff, Nat.reduceBEq, Nat.reduceAdd, Nat.reduceLT, Nat.reduceBNe, Nat.reduceMul, ↓reduceIte, tis, rx, fls]
          refine callB cO ?_
          simp -implicitDefEqProofs (maxSteps := 100000) (disch := first | (intros; contradiction) | omega) only [am0, am1, am2, am3, am4, am5, am6, am7, am8, am9, Nat.reduceSub, ↓reduceIte, reduceCtorEq, Nat.reduceEqDiff, Nat.reduceBEq, Nat.reduceAdd, Nat.reduceLT, Nat.reduceBNe, Nat.reduceMul, ↓reduceIte, tis, List.map_nil, hl, h1, h2]
theorem l5_nodup (b : List UInt8) : (daL b).Nodup ∧ (daL b).length ≤ 4 := by
  have h := ofV_mem b (bentV b 0).2 (l := l5) (by decide)
  unfold daL
  generalize ofV b (bentV b 0).2 l5 = x at *
  simp only [l5, List.mem_cons, List.not_mem_nil, or_false] at h
  rcases h with rfl | rfl | rfl | rfl | rfl <;> exact ⟨by decide, by decide⟩
theorem any_take {α : Type} (l : List α) (p : α → Bool) (k : Nat) (h : k < l.length) : (l.take (k + 1)).any p = ((l.take k).any p || p l[k]) := by
  rw [List.take_succ_eq_append_getElem h, List.any_append]; simp
theorem all_take {α : Type} (l : List α) (p : α → Bool) (k : Nat) (h : k < l.length) : (l.take (k + 1)).all p = ((l.take k).all p && p l[k]) := by
  rw [List.take_succ_eq_append_getElem h, List.all_append]; simp
theorem beq_u8 (x y : UInt8) : ((x.toNat : Int) == (y.toNat : Int)) = (x == y) := by
  rw [Bool.eq_iff_iff]; simp only [beq_iff_eq]
  constructor
  · intro h; exact UInt8.toNat_inj.1 (by omega)
  · intro h; rw [h]
def inP (ls t : Txt) (most : Int) : Bool := decide ((t.length : Int) ≤ most) && (decide (most ≤ 6) && decide ((ls.length : Int) ≤ 3))
def hasL (ls : Txt) (c : UInt8) : Bool := ls.any (fun d => d == c)
/-- laws.FnAskAll -/
theorem law_LAskAll (c : List UInt8) (hc : c.length ≤ 9223372036854775807) (m : List UInt8) (hm : m.length ≤ 9223372036854775807) : Fits prog 3 [.sl false 1 (bytesA c), .sl false 1 (bytesA m)] (.bool true) [] := by
  by_cases h0 : (1048576 : Int) < c.length
  · refine fits_of_code [4] [] [0, 1, 4, 5, 6, 7, 8, 9, 11, 12, 13, 14, 15, 16, 17, 25, 44, 66, 72, 92, 142] func3 rfl rfl rfl (by rfl) (by show 2 ≤ 161; decide) (by rfl) (by rfl) (by show 0 ≤ 2; decide) (by rfl) (run_of ?_)
    simp -implicitDefEqProofs (maxSteps := 100000) (disch := first | (intros; contradiction) | omega) only [am0, am1, am2, am3, am4, am5, am6, am7, am8, am9, Nat.reduceSub, ↓reduceIte, reduceCtorEq, Nat.reduceEqDiff, Nat.reduceBEq, Nat.reduceAdd, Nat.reduceLT, Nat.reduceBNe, Nat.reduceMul, ↓reduceIte, tis, h0]
  by_cases h1 : (1048576 : Int) < m.length
  · refine fits_of_code [4] [] [0, 1, 4, 5, 6, 7, 8, 9, 11, 12, 13, 14, 15, 16, 17, 25, 44, 66, 72, 92, 142] func3 rfl rfl rfl (by rfl) (by show 2 ≤ 161; decide) (by rfl) (by rfl) (by show 0 ≤ 2; decide) (by rfl) (run_of ?_)
    simp -implicitDefEqProofs (maxSteps := 100000) (disch := first | (intros; contradiction) | omega) only [am0, am1, am2, am3, am4, am5, am6, am7, am8, am9, Nat.reduceSub, ↓reduceIte, reduceCtorEq, Nat.reduceEqDiff, Nat.reduceBEq, Nat.reduceAdd, Nat.reduceLT, Nat.reduceBNe, Nat.reduceMul, ↓reduceIte, tis, h0, h1]
  have cD := fits_drawAskAll c hc
  have hb := (bentV_le (c.take 2000) 0).2
  obtain ⟨hnd, hls⟩ := l5_nodup (c.take 2000)
  generalize (bentV (c.take 2000) 0).1 = r at *
  generalize daL (c.take 2000) = ls at *
  generalize daM (c.take 2000) = most at *
  have cX := fits_drawMatchIs m hm
  have hq := (bentV_le (m.take 2000) 0).2
  have hl := dmT_len (m.take 2000)
  generalize dmT (m.take 2000) = t at *
  generalize (bentV (m.take 2000) 0).1 = q at *
  have cA := fits_askAll r hb ls (by omega) most
  have cA2 := fits_sAskAll r hb ls (by omega) most
  have hLl := askP_le' r ls most
  have hadj : ∀ (i : Nat) (x y : Txt), 0 < i → (askP r ls most)[i - 1]? = some x → (askP r ls most)[i]? = some y → x.length ≤ y.length ∧ y ≠ x := by
    intro i x y hi0 hx hy
    obtain ⟨g1, g2⟩ := List.getElem?_eq_some_iff.1 hx
    obtain ⟨g3, g4⟩ := List.getElem?_eq_some_iff.1 hy
    have := askP_adj r hnd most i hi0 g3
    rw [g2, g4] at this
    exact this
  have his := askP_is r ls most
  have hall := askP_all r ls most t
  generalize askP r ls most = L at *
  have cM := fits_matchIs r hb t
  have cML := fun w => fits_matchIs r hb w
  have hin0 : inP ls t most = true → (t.length : Int) ≤ most ∧ most ≤ 6 ∧ (ls.length : Int) ≤ 3 := by
    intro h; unfold inP at h; simpa [and_assoc] using h
  have hfin : (inP ls t most && t.all (hasL ls)) = true → L.any (fun w => w == t) = isB' r t := by
    intro h
    rw [Bool.and_eq_true] at h
    obtain ⟨g1, g2, g3⟩ := hin0 h.1
    have := hall g1 g2 g3 (fun d hd => by
      have := (List.all_eq_true.1 h.2) d hd
      unfold hasL at this
      simpa using this)
    rw [Bool.eq_iff_iff, ← this]
    simp
  simp only [eRex_eq] at *
  refine fits_of_code [4] [] [0, 1, 4, 5, 6, 7, 8, 9, 11, 12, 13, 14, 15, 16, 17, 25, 44, 66, 72, 92, 142] func3 rfl rfl rfl (by rfl) (by show 2 ≤ 161; decide) (by rfl) (by rfl) (by show 0 ≤ 2; decide) (by rfl) (run_of ?_)
  simp -implicitDefEqProofs (maxSteps := 100000) (disch := first | (intros; contradiction) | omega) only [am0, am1, am2, am3, am4, am5, am6, am7, am8, am9, Nat.reduceSub, ↓reduceIte, reduceCtorEq, Nat.reduceEqDiff, Nat.reduceBEq, Nat.reduceAdd, Nat.reduceLT, Nat.reduceBNe, Nat.reduceMul, ↓reduceIte, tis, h0, h1]
  refine callB cD ?_
  simp -implicitDefEqProofs (maxSteps := 100000) (disch := first | (intros; contradiction) | omega) only [am0, am1, am2, am3, am4, am5, am6, am7, am8, am9, Nat.reduceSub, ↓reduceIte, reduceCtorEq, Nat.reduceEqDiff, Nat.reduceBEq, Nat.reduceAdd, Nat.reduceLT, Nat.reduceBNe, Nat.reduceMul, ↓reduceIte, tis, fls, rx, ex_eq, exGo_tup, plain, plainL]
  refine callB cA ?_
  simp -implicitDefEqProofs (maxSteps := 100000) (disch := first | (intros; contradiction) | omega) only [am0, am1, am2, am3, am4, am5, am6, am7, am8, am9, Nat.reduceSub, ↓reduceIte, reduceCtorEq, Nat.reduceEqDiff, Nat.reduceBEq, Nat.reduceAdd, Nat.reduceLT, Nat.reduceBNe, Nat.reduceMul, ↓reduceIte, tis, fls, rx]
  refine callB cA2 ?_
  simp -implicitDefEqProofs (maxSteps := 100000) (disch := first | (intros; contradiction) | omega) only [am0, am1, am2, am3, am4, am5, am6, am7, am8, am9, Nat.reduceSub, ↓reduceIte, reduceCtorEq, Nat.reduceEqDiff, Nat.reduceBEq, Nat.reduceAdd, Nat.reduceLT, Nat.reduceBNe, Nat.reduceMul, ↓reduceIte, tis, fls, rx]
  refine callB cX ?_
  simp -implicitDefEqProofs (maxSteps := 100000) (disch := first | (intros; contradiction) | omega) only [am0, am1, am2, am3, am4, am5, am6, am7, am8, am9, Nat.reduceSub, ↓reduceIte, reduceCtorEq, Nat.reduceEqDiff, Nat.reduceBEq, Nat.reduceAdd, Nat.reduceLT, Nat.reduceBNe, Nat.reduceMul, ↓reduceIte, tis, fls, rx, ex_eq, exGo_tup, plain, plainL]
  by_cases g1 : (t.length : Int) ≤ most <;> by_cases g2 : most ≤ 6 <;> by_cases g3 : (ls.length : Int) ≤ 3
  all_goals (
    have hI : inP ls t most = (decide ((t.length : Int) ≤ most) && (decide (most ≤ 6) && decide ((ls.length : Int) ≤ 3))) := rfl
    simp only [g1, g2, g3, decide_true, decide_false, Bool.true_and, Bool.false_and, Bool.and_true, Bool.and_false] at hI
    simp -implicitDefEqProofs (maxSteps := 100000) (disch := first | (intros; contradiction) | omega) only [am0, am1, am2, am3, am4, am5, am6, am7, am8, am9, Nat.reduceSub, ↓reduceIte, reduceCtorEq, Nat.reduceEqDiff, Nat.reduceBEq, Nat.reduceAdd, Nat.reduceLT, Nat.reduceBNe, Nat.reduceMul, ↓reduceIte, tis, fls, rx, g1, g2, g3]
    refine run_loop (α := Nat) (fun i => i ≤ t.length) (fun i => [(5, .box (.agg [.int .i64 r.kind, .sl true 2 (r.set.map eSpan), .sl true 3 (r.kids.map (eRex true))])), (6, .str ls), (8, .sl true 1 (L.map eStr)), (9, .sl true 1 (L.map eStr)), (11, .str t), (12, .bool (inP ls t most && (t.take i).all (hasL ls))), (13, .int .i64 i)]) (fun i => t.length - i) 0 (Nat.zero_le _) ?_ ?_
    · simp -implicitDefEqProofs (maxSteps := 100000) (disch := first | (intros; contradiction) | omega) only [am0, am1, am2, am3, am4, am5, am6, am7, am8, am9, Nat.reduceSub, ↓reduceIte, reduceCtorEq, Nat.reduceEqDiff, Nat.reduceBEq, Nat.reduceAdd, Nat.reduceLT, Nat.reduceBNe, Nat.reduceMul, ↓reduceIte, tis, fls, rx, hI, List.all_nil]
    · intro i hi'
      by_cases hi : i < t.length
      · have hS := all_take t (hasL ls) i hi
        have hgi : t.getD i 0 = t[i] := by simp [List.getD, hi]
        generalize hx : t[i] = x at *
        generalize (t.take i).all (hasL ls) = A at *
        simp -implicitDefEqProofs (maxSteps := 100000) (disch := first | (intros; contradiction) | omega) only [am0, am1, am2, am3, am4, am5, am6, am7, am8, am9, Nat.reduceSub, ↓reduceIte, reduceCtorEq, Nat.reduceEqDiff, Nat.reduceBEq, Nat.reduceAdd, Nat.reduceLT, Nat.reduceBNe, Nat.reduceMul, ↓reduceIte, tis, fls, rx]
        refine run_loop (α := Nat) (fun k => k ≤ ls.length) (fun k => [(5, .box (.agg [.int .i64 r.kind, .sl true 2 (r.set.map eSpan), .sl true 3 (r.kids.map (eRex true))])), (6, .str ls), (8, .sl true 1 (L.map eStr)), (9, .sl true 1 (L.map eStr)), (11, .str t), (12, .bool (inP ls t most && A)), (13, .int .i64 i), (14, .bool ((ls.take k).any (fun d => d == x))), (15, .int .i64 k)]) (fun k => ls.length - k) 0 (Nat.zero_le _) ?_ ?_
        · simp -implicitDefEqProofs (maxSteps := 100000) (disch := first | (intros; contradiction) | omega) only [am0, am1, am2, am3, am4, am5, am6, am7, am8, am9, Nat.reduceSub, ↓reduceIte, reduceCtorEq, Nat.reduceEqDiff, Nat.reduceBEq, Nat.reduceAdd, Nat.reduceLT, Nat.reduceBNe, Nat.reduceMul, ↓reduceIte, tis, fls, rx, List.any_nil]
        · intro k hk'
          by_cases hk : k < ls.length
          · have hT := any_take ls (fun d => d == x) k hk
            have hgk : ls.getD k 0 = ls[k] := by simp [List.getD, hk]
            generalize hy : ls[k] = y at *
            generalize (ls.take k).any (fun d => d == x) = H at *
            simp -implicitDefEqProofs (maxSteps := 100000) (disch := first | (intros; contradiction) | omega) only [am0, am1, am2, am3, am4, am5, am6, am7, am8, am9, Nat.reduceSub, ↓reduceIte, reduceCtorEq, Nat.reduceEqDiff, Nat.reduceBEq, Nat.reduceAdd, Nat.reduceLT, Nat.reduceBNe, Nat.reduceMul, ↓reduceIte, tis, fls, rx]
            refine .inl ⟨by kernel_rfl, ?_⟩
            cases H with
            | true =>
              simp -implicitDefEqProofs (maxSteps := 100000) (disch := first | (intros; contradiction) | omega) only [am0, am1, am2, am3, am4, am5, am6, am7, am8, am9, Nat.reduceSub, ↓reduceIte, reduceCtorEq, Nat.reduceEqDiff, Nat.reduceBEq, Nat.reduceAdd, Nat.reduceLT, Nat.reduceBNe, Nat.reduceMul, ↓reduceIte, tis, fls, rx]
              refine round_normal (k + 1) (by omega) ?_ (by show ls.length - (k + 1) < ls.length - k; omega)
              simp -implicitDefEqProofs (maxSteps := 100000) (disch := first | (intros; contradiction) | omega) only [am0, am1, am2, am3, am4, am5, am6, am7, am8, am9, Nat.reduceSub, ↓reduceIte, reduceCtorEq, Nat.reduceEqDiff, Nat.reduceBEq, Nat.reduceAdd, Nat.reduceLT, Nat.reduceBNe, Nat.reduceMul, ↓reduceIte, tis, fls, rx, hT]
            | false =>
              simp -implicitDefEqProofs (maxSteps := 100000) (disch := first | (intros; contradiction) | omega) only [am0, am1, am2, am3, am4, am5, am6, am7, am8, am9, Nat.reduceSub, ↓reduceIte, reduceCtorEq, Nat.reduceEqDiff, Nat.reduceBEq, Nat.reduceAdd, Nat.reduceLT, Nat.reduceBNe, Nat.reduceMul, ↓reduceIte, tis, fls, rx, hgi, hgk, beq_u8]
              refine round_normal (k + 1) (by omega) ?_ (by show ls.length - (k + 1) < ls.length - k; omega)
              simp -implicitDefEqProofs (maxSteps := 100000) (disch := first | (intros; contradiction) | omega) only [am0, am1, am2, am3, am4, am5, am6, am7, am8, am9, Nat.reduceSub, ↓reduceIte, reduceCtorEq, Nat.reduceEqDiff, Nat.reduceBEq, Nat.reduceAdd, Nat.reduceLT, Nat.reduceBNe, Nat.reduceMul, ↓reduceIte, tis, fls, rx, hT]
          · obtain rfl : k = ls.length := by omega
            have hH : (ls.take ls.length).any (fun d => d == x) = hasL ls x := by rw [List.take_length]; rfl
            rw [hH]
            generalize hasL ls x = H at *
            generalize inP ls t most = B at *
            cases B <;> cases A <;> cases H <;> (try contradiction) <;> (simp -implicitDefEqProofs (maxSteps := 100000) (disch := first | (intros; contradiction) | omega) only [am0, am1, am2, am3, am4, am5, am6, am7, am8, am9, Nat.reduceSub, ↓reduceIte, reduceCtorEq, Nat.reduceEqDiff, Nat.reduceBEq, Nat.reduceAdd, Nat.reduceLT, Nat.reduceBNe, Nat.reduceMul, ↓reduceIte, tis, fls, rx]; refine round_normal (i + 1) (by omega) ?_ (by show t.length - (i + 1) < t.length - i; omega); simp -implicitDefEqProofs (maxSteps := 100000) (disch := first | (intros; contradiction) | omega) only [am0, am1, am2, am3, am4, am5, am6, am7, am8, am9, Nat.reduceSub, ↓reduceIte, reduceCtorEq, Nat.reduceEqDiff, Nat.reduceBEq, Nat.reduceAdd, Nat.reduceLT, Nat.reduceBNe, Nat.reduceMul, ↓reduceIte, tis, fls, rx, hS])
      · obtain rfl : i = t.length := by omega
        rw [List.take_length]
        generalize (inP ls t most && t.all (hasL ls)) = B at *
        simp -implicitDefEqProofs (maxSteps := 100000) (disch := first | (intros; contradiction) | omega) only [am0, am1, am2, am3, am4, am5, am6, am7, am8, am9, Nat.reduceSub, ↓reduceIte, reduceCtorEq, Nat.reduceEqDiff, Nat.reduceBEq, Nat.reduceAdd, Nat.reduceLT, Nat.reduceBNe, Nat.reduceMul, ↓reduceIte, tis, fls, rx]
        refine run_loop (α := Nat) (fun i => i ≤ L.length) (fun i => [(5, .box (.agg [.int .i64 r.kind, .sl true 2 (r.set.map eSpan), .sl true 3 (r.kids.map (eRex true))])), (8, .sl true 1 (L.map eStr)), (9, .sl true 1 (L.map eStr)), (11, .str t), (12, .bool B), (16, .bool ((L.take i).any (fun w => w == t))), (17, .int .i64 i)]) (fun i => L.length - i) 0 (Nat.zero_le _) ?_ ?_
        · simp -implicitDefEqProofs (maxSteps := 100000) (disch := first | (intros; contradiction) | omega) only [am0, am1, am2, am3, am4, am5, am6, am7, am8, am9, Nat.reduceSub, ↓reduceIte, reduceCtorEq, Nat.reduceEqDiff, Nat.reduceBEq, Nat.reduceAdd, Nat.reduceLT, Nat.reduceBNe, Nat.reduceMul, ↓reduceIte, tis, fls, rx, List.any_nil]
        · intro i hi'
          by_cases hi : i < L.length
          · have hT := any_take L (fun w => w == t) i hi
            have hgi : (L.map eStr)[i]? = some (.str L[i]) := by rw [List.getElem?_map, List.getElem?_eq_getElem hi]; rfl
            have hdi : (L.map eStr).getD i .undef = .str L[i] := by simp [List.getD, hgi]
            have cMi := cML L[i]
            rw [his L[i] (List.getElem_mem hi)] at cMi
            generalize hx : L[i] = x at *
            generalize (L.take i).any (fun w => w == t) = H at *
            simp -implicitDefEqProofs (maxSteps := 100000) (disch := first | (intros; contradiction) | omega) only [am0, am1, am2, am3, am4, am5, am6, am7, am8, am9, Nat.reduceSub, ↓reduceIte, reduceCtorEq, Nat.reduceEqDiff, Nat.reduceBEq, Nat.reduceAdd, Nat.reduceLT, Nat.reduceBNe, Nat.reduceMul, ↓reduceIte, tis, fls, rx, hgi, hdi]
            refine .inl ⟨by kernel_rfl, ?_⟩
            refine callL cMi ?_
            by_cases hi0 : (0 : Int) < i
            · have hj : i - 1 < L.length := by omega
              have ej : ((i : Int) - 1).toNat = i - 1 := by omega
              have hgj : (L.map eStr)[i - 1]? = some (.str L[i - 1]) := by rw [List.getElem?_map, List.getElem?_eq_getElem hj]; rfl
              have hdj : (L.map eStr).getD (i - 1) .undef = .str L[i - 1] := by simp [List.getD, hgj]
              obtain ⟨q1, q2⟩ := hadj i L[i - 1] x (by omega) (List.getElem?_eq_getElem hj) (by rw [List.getElem?_eq_getElem hi, hx])
              have q3 : (x == L[i - 1]) = false := by simpa using q2
              generalize L[i - 1] = z at *
              simp -implicitDefEqProofs (maxSteps := 100000) (disch := first | (intros; contradiction) | omega) only [am0, am1, am2, am3, am4, am5, am6, am7, am8, am9, Nat.reduceSub, ↓reduceIte, reduceCtorEq, Nat.reduceEqDiff, Nat.reduceBEq, Nat.reduceAdd, Nat.reduceLT, Nat.reduceBNe, Nat.reduceMul, ↓reduceIte, tis, fls, rx, hgi, hdi, hi0, ej, hgj, hdj, q3]
              cases H with
              | true =>
                simp -implicitDefEqProofs (maxSteps := 100000) (disch := first | (intros; contradiction) | omega) only [am0, am1, am2, am3, am4, am5, am6, am7, am8, am9, Nat.reduceSub, ↓reduceIte, reduceCtorEq, Nat.reduceEqDiff, Nat.reduceBEq, Nat.reduceAdd, Nat.reduceLT, Nat.reduceBNe, Nat.reduceMul, ↓reduceIte, tis, fls, rx]
                refine round_normal (i + 1) (by omega) ?_ (by show L.length - (i + 1) < L.length - i; omega)
                simp -implicitDefEqProofs (maxSteps := 100000) (disch := first | (intros; contradiction) | omega) only [am0, am1, am2, am3, am4, am5, am6, am7, am8, am9, Nat.reduceSub, ↓reduceIte, reduceCtorEq, Nat.reduceEqDiff, Nat.reduceBEq, Nat.reduceAdd, Nat.reduceLT, Nat.reduceBNe, Nat.reduceMul, ↓reduceIte, tis, fls, rx, hT]
              | false =>
                simp -implicitDefEqProofs (maxSteps := 100000) (disch := first | (intros; contradiction) | omega) only [am0, am1, am2, am3, am4, am5, am6, am7, am8, am9, Nat.reduceSub, ↓reduceIte, reduceCtorEq, Nat.reduceEqDiff, Nat.reduceBEq, Nat.reduceAdd, Nat.reduceLT, Nat.reduceBNe, Nat.reduceMul, ↓reduceIte, tis, fls, rx, hgi, hdi]
                refine round_normal (i + 1) (by omega) ?_ (by show L.length - (i + 1) < L.length - i; omega)
                simp -implicitDefEqProofs (maxSteps := 100000) (disch := first | (intros; contradiction) | omega) only [am0, am1, am2, am3, am4, am5, am6, am7, am8, am9, Nat.reduceSub, ↓reduceIte, reduceCtorEq, Nat.reduceEqDiff, Nat.reduceBEq, Nat.reduceAdd, Nat.reduceLT, Nat.reduceBNe, Nat.reduceMul, ↓reduceIte, tis, fls, rx, hT]
            · simp -implicitDefEqProofs (maxSteps := 100000) (disch := first | (intros; contradiction) | omega) only [am0, am1, am2, am3, am4, am5, am6, am7, am8, am9, Nat.reduceSub, ↓reduceIte, reduceCtorEq, Nat.reduceEqDiff, Nat.reduceBEq, Nat.reduceAdd, Nat.reduceLT, Nat.reduceBNe, Nat.reduceMul, ↓reduceIte, tis, fls, rx, hgi, hdi, hi0]
              cases H with
              | true =>
                simp -implicitDefEqProofs (maxSteps := 100000) (disch := first | (intros; contradiction) | omega) only [am0, am1, am2, am3, am4, am5, am6, am7, am8, am9, Nat.reduceSub, ↓reduceIte, reduceCtorEq, Nat.reduceEqDiff, Nat.reduceBEq, Nat.reduceAdd, Nat.reduceLT, Nat.reduceBNe, Nat.reduceMul, ↓reduceIte, tis, fls, rx]
                refine round_normal (i + 1) (by omega) ?_ (by show L.length - (i + 1) < L.length - i; omega)
                simp -implicitDefEqProofs (maxSteps := 100000) (disch := first | (intros; contradiction) | omega) only [am0, am1, am2, am3, am4, am5, am6, am7, am8, am9, Nat.reduceSub, ↓reduceIte, reduceCtorEq, Nat.reduceEqDiff, Nat.reduceBEq, Nat.reduceAdd, Nat.reduceLT, Nat.reduceBNe, Nat.reduceMul, ↓reduceIte, tis, fls, rx, hT]
              | false =>
                simp -implicitDefEqProofs (maxSteps := 100000) (disch := first | (intros; contradiction) | omega) only [am0, am1, am2, am3, am4, am5, am6, am7, am8, am9, Nat.reduceSub, ↓reduceIte, reduceCtorEq, Nat.reduceEqDiff, Nat.reduceBEq, Nat.reduceAdd, Nat.reduceLT, Nat.reduceBNe, Nat.reduceMul, ↓reduceIte, tis, fls, rx, hgi, hdi]
                refine round_normal (i + 1) (by omega) ?_ (by show L.length - (i + 1) < L.length - i; omega)
                simp -implicitDefEqProofs (maxSteps := 100000) (disch := first | (intros; contradiction) | omega) only [am0, am1, am2, am3, am4, am5, am6, am7, am8, am9, Nat.reduceSub, ↓reduceIte, reduceCtorEq, Nat.reduceEqDiff, Nat.reduceBEq, Nat.reduceAdd, Nat.reduceLT, Nat.reduceBNe, Nat.reduceMul, ↓reduceIte, tis, fls, rx, hT]
          · obtain rfl : i = L.length := by omega
            rw [List.take_length]
            cases B with
            | false => simp -implicitDefEqProofs (maxSteps := 100000) (disch := first | (intros; contradiction) | omega) only [am0, am1, am2, am3, am4, am5, am6, am7, am8, am9, Nat.reduceSub, ↓reduceIte, reduceCtorEq, Nat.reduceEqDiff, Nat.reduceBEq, Nat.reduceAdd, Nat.reduceLT, Nat.reduceBNe, Nat.reduceMul, ↓reduceIte, tis, fls, rx]
            | true =>
              have hf := hfin rfl
              rw [hf]
              simp -implicitDefEqProofs (maxSteps := 100000) (disch := first | (intros; contradiction) | omega) only [am0, am1, am2, am3, am4, am5, am6, am7, am8, am9, Nat.reduceSub, ↓reduceIte, reduceCtorEq, Nat.reduceEqDiff, Nat.reduceBEq, Nat.reduceAdd, Nat.reduceLT, Nat.reduceBNe, Nat.reduceMul, ↓reduceIte, tis, fls, rx]
              refine callB cM ?_
              simp -implicitDefEqProofs (maxSteps := 100000) (disch := first | (intros; contradiction) | omega) only [am0, am1, am2, am3, am4, am5, am6, am7, am8, am9, Nat.reduceSub, ↓reduceIte, reduceCtorEq, Nat.reduceEqDiff, Nat.reduceBEq, Nat.reduceAdd, Nat.reduceLT, Nat.reduceBNe, Nat.reduceMul, ↓reduceIte, tis, fls, rx])
theorem own : ownKnob prog.godebug = none := by kernel_rfl
theorem laidOut : laidOutB prog = true := by kernel_rfl
theorem typ_int {n : Nat} {x : AV} (h : Typed prog n 3 x) : ∃ v, x = .int .i64 v ∧ -9223372036854775808 ≤ v ∧ v ≤ 9223372036854775807 := by
  cases n with
  | zero => exact h.elim
  | succ n =>
    simp only [Typed, underlying3] at h
    obtain ⟨v, rfl, hw⟩ := h
    refine ⟨v, rfl, ?_⟩
    simp [Lit.wf, IntKind.min, IntKind.max, IntKind.bits, IntKind.signed] at hw
    omega
theorem typ_str {n : Nat} {x : AV} (h : Typed prog n 9 x) : ∃ s, x = .str s ∧ s.length ≤ 9223372036854775807 := by
  cases n with
  | zero => exact h.elim
  | succ n => simp only [Typed, underlying9] at h; exact h
theorem typ_bool {n : Nat} {x : AV} (h : Typed prog n 4 x) : ∃ b, x = .bool b := by
  cases n with
  | zero => exact h.elim
  | succ n => simp only [Typed, underlying4] at h; exact h
theorem all_map {α : Type} (f : α → AV) : ∀ xs : List AV, (∀ y ∈ xs, ∃ i, y = f i) → ∃ is : List α, xs = is.map f
  | [], _ => ⟨[], rfl⟩
  | y :: r, h => by
    obtain ⟨i, rfl⟩ := h y (List.mem_cons_self ..)
    obtain ⟨is, rfl⟩ := all_map f r (fun z hz => h z (List.mem_cons_of_mem _ hz))
    exact ⟨i :: is, rfl⟩
theorem typ_byte {n : Nat} {x : AV} (h : Typed prog n 5 x) : ∃ v : UInt8, x = .int .u8 v.toNat := by
  cases n with
  | zero => exact h.elim
  | succ n =>
    simp only [Typed, underlying5] at h
    obtain ⟨v, rfl, hw⟩ := h
    simp [Lit.wf, IntKind.min, IntKind.max, IntKind.bits, IntKind.signed] at hw
    refine ⟨UInt8.ofNat v.toNat, ?_⟩
    rw [UInt8.toNat_ofNat']
    congr 1
    omega
theorem typ_code {n : Nat} {x : AV} (h : Typed prog n 22 x) : ∃ c : List UInt8, x = .sl false 1 (bytesA c) ∧ c.length ≤ 9223372036854775807 := by
  cases n with
  | zero => exact h.elim
  | succ n =>
    have co : prog.cellsOf 5 = 1 := by kernel_rfl
    simp only [Typed, underlying22, co] at h
    obtain ⟨xs, rfl, hl, hf⟩ := h
    obtain ⟨p, rfl⟩ := all_map (fun v : UInt8 => AV.int .u8 v.toNat) xs (fun y hy => typ_byte (hf y hy))
    exact ⟨p, rfl, by simpa [maxLen] using hl⟩
end Go.Proofs.Ytonljcfflamccaa.U
