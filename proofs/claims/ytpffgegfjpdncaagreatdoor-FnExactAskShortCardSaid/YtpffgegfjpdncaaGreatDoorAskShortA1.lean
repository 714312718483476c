/- What the operations of a Go program bring about on values without memory, proved once for any program: part 1. No conditions beyond those at each theorem. -/
import Derived.WalkKit
namespace Go.Proofs.YtpffgegfjpdncaaGreatDoor.Am
open Go.RowKit
set_option linter.unusedVariables false
inductive AV where
 | undef
 | oth (v : Value)
 | int (k : IntKind) (n : Int)
 | bool (b : Bool)
 | str (s : List UInt8)
 | sl (own : Bool) (sz : Nat) (xs : List AV)
 | agg (fs : List AV)
 | arr (sz : Nat) (xs : List AV)
 | tup (vs : List AV)
 | box (x : AV)
 | dptr (x : AV)
 | vref (s : Nat) (p : List Nat)
 | vagg (s : Nat) (p : List Nat)
 | vsub (s : Nat) (p : List Nat) (lo hi : Nat)
 | ptr (s : Nat) (p : List Nat)
 | mp (kvs : List AV)
instance : Inhabited AV:=⟨.undef⟩
namespace AV
mutual
def ncells : AV → Nat
 | .agg fs => ncellsL fs
 | .arr sz xs => sz * xs.length
 | _ => 1
def ncellsL : List AV → Nat
 | [] => 0
 | x :: xs => ncells x + ncellsL xs
end
mutual
def plain : AV → Bool
 | .undef | .oth _ | .int .. | .bool _ | .str _ | .dptr _ => true
 | .sl own _ _ => !own
 | .agg fs | .arr _ fs | .tup fs => plainL fs
 | .box _ | .vref .. | .vagg .. | .vsub .. | .ptr .. | .mp _ => false
def plainL : List AV → Bool
 | [] => true
 | x :: xs => plain x && plainL xs
end
mutual
def closed : AV → Bool
 | .undef | .oth _ | .int .. | .bool _ | .str _ => true
 | .sl own _ xs => own && closedL xs
 | .agg fs | .arr _ fs | .tup fs => closedL fs
 | .box x => closed x
 | .dptr _ | .vref .. | .vagg .. | .vsub .. | .ptr .. | .mp _ => false
def closedL : List AV → Bool
 | [] => true
 | x :: xs => closed x && closedL xs
end
mutual
def erase : AV → AV
 | .sl _ sz xs => .sl false sz (eraseL xs)
 | .agg fs => .agg (eraseL fs)
 | .arr sz fs => .arr sz (eraseL fs)
 | .tup fs => .tup (eraseL fs)
 | .box x => .dptr (erase x)
 | .mp _ => .undef
 | x => x
def eraseL : List AV → List AV
 | [] => []
 | x :: xs => erase x :: eraseL xs
end
mutual
def dead : AV → AV
 | .sl own sz xs => if own then .undef else .sl own sz xs
 | .agg fs => .agg (deadL fs)
 | .arr sz fs => .arr sz (deadL fs)
 | .tup fs => .tup (deadL fs)
 | .box _ => .undef
 | .mp _ => .undef
 | x => x
def deadL : List AV → List AV
 | [] => []
 | x :: xs => dead x :: deadL xs
end
def getAt : AV → List Nat → Option AV
 | x,[] => some x
 | .agg fs,i :: p => match fs[i]? with | some y => getAt y p | none => none
 | .arr _ xs,i :: p => match xs[i]? with | some y => getAt y p | none => none
 | .sl _ _ xs,i :: p => match xs[i]? with | some y => getAt y p | none => none
 | .box x,i :: p => if i = 0 then getAt x p else none
 | _,_ :: _ => none
def setAt : AV → List Nat → AV → AV
 | _,[],y => y
 | .agg fs,i :: p,y => .agg (match fs[i]? with | some x => fs.set i (setAt x p y) | none => fs)
 | .arr sz xs,i :: p,y => .arr sz (match xs[i]? with | some x => xs.set i (setAt x p y) | none => xs)
 | .sl o sz xs,i :: p,y => .sl o sz (match xs[i]? with | some x => xs.set i (setAt x p y) | none => xs)
 | .box x,i :: p,y => if i = 0 then .box (setAt x p y) else .box x
 | x,_ :: _,_ => x
end AV
def Emp (O : Nat → Prop) : Prop:=∀ k,¬ O k
def cellH (h : Array Obj) (a : Addr) : Option Value :=
 match h[a.block]? with
 | some (.cells c _ _) => if a.spot.isSome then none else c[a.off]?
 | _ => none
theorem cell_eq (w : World) (a : Addr) : w.cell? a = cellH w.heap a:=rfl
def Free (n : Nat) (fr : Nat × Nat) : Prop:=∀ j,j < n → ¬ (fr.1 ≤ j ∧ j < fr.2)
def Row (h : Array Obj) (b : Nat) (c : Array Value) (e : TypeId) : Prop:=∃ fr,h[b]? = some (.cells c e fr) ∧ Free c.size fr
theorem Row.same {h h' : Array Obj} {b : Nat} {c : Array Value} {e : TypeId} (r : Row h b c e) (hs : h'[b]? = h[b]?) : Row h' b c e:=by
 obtain ⟨fr,h1,h2⟩:=r
 exact ⟨fr,hs.trans h1,h2⟩
def kvCells (es : List MapEntry) : List Value:=es.flatMap fun e => e.key.cells.toList ++ e.val.cells.toList
def vAgg : Value → Bool
 | .agg _ => true
 | _ => false
def aAgg : AV → Bool
 | .agg _ | .arr _ _ => true
 | _ => false
def KvOk (es : List MapEntry) (kvs : List AV) : Prop :=
 kvs.length = es.length ∧ ∀ (i : Nat) e y,es[i]? = some e → kvs[i]? = some y → ∃ k v,y = .agg [k,v] ∧ (e.key.cells.size = AV.ncells k ∧ vAgg e.key = aAgg k) ∧ e.val.cells.size = AV.ncells v ∧ vAgg e.val = aAgg v
mutual
def RepC (h : Array Obj) (S : Nat → Prop) : AV → List Value → (Nat → Prop) → Prop
 | .undef,cs,O => (∃ v : Value,cs = [v] ∧ v.oneCell' = true) ∧ Emp O
 | .oth v,cs,O => (cs = [v] ∧ v.oneCell' = true) ∧ Emp O
 | .int k n,cs,O => cs = [.int k n] ∧ Emp O
 | .bool b,cs,O => cs = [.bool b] ∧ Emp O
 | .str s,cs,O => cs = [.string ⟨s.toArray⟩] ∧ Emp O
 | .sl true sz xs,cs,O =>
  (xs = [] ∧ cs = [.slice none 0 0] ∧ Emp O) ∨
  (0 < sz ∧ ∃ b c e cap O',cs = [.slice (some ⟨b,0,none⟩) xs.length cap] ∧ Row h b c e ∧ c.size = cap * sz ∧ xs.length ≤ cap ∧ cap ≤ maxLen ∧
   RepL h S xs (c.toList.take (xs.length * sz)) O' ∧ (∀ x ∈ xs,x.ncells = sz) ∧ ¬ O' b ∧ (∀ k,O k ↔ k = b ∨ O' k) ∧ ∀ u ∈ c.toList,u.oneCell' = true)
 | .sl false sz xs,cs,O =>
  (∃ A cap m,cs = [.slice A xs.length cap] ∧ xs.length ≤ cap ∧ RepL h S xs m (fun _ => False) ∧ (∀ x ∈ xs,x.ncells = sz) ∧
   (0 < xs.length → ∃ a,A = some a ∧ (0 < sz → S a.block) ∧ ∀ (j : Nat) u,m[j]? = some u → cellH h (a.add j) = some u)) ∧ Emp O
 | .agg fs,cs,O => RepL h S fs cs O
 | .arr sz xs,cs,O => RepL h S xs cs O ∧ ∀ x ∈ xs,x.ncells = sz
 | .box x,cs,O => ∃ b c e m O',cs = [.pointer (some ⟨b,0,none⟩)] ∧ Row h b c e ∧ c.toList = m ∧ RepC h S x m O' ∧ ¬ O' b ∧ (∀ k,O k ↔ k = b ∨ O' k)
 | .dptr x,cs,O => (∃ a m,cs = [.pointer (some a)] ∧ RepC h S x m (fun _ => False) ∧ (0 < m.length → S a.block) ∧ ∀ (j : Nat) u,m[j]? = some u → cellH h (a.add j) = some u) ∧ Emp O
 | .mp kvs,cs,O => ∃ b es ck,cs = [.map (some b)] ∧ h[b]? = some (.map es ck) ∧ RepL h S kvs (kvCells es.toList) (fun _ => False) ∧ KvOk es.toList kvs ∧ (∀ k,O k ↔ k = b)
 | _,_,_ => False
def RepL (h : Array Obj) (S : Nat → Prop) : List AV → List Value → (Nat → Prop) → Prop
 | [],cs,O => cs = [] ∧ Emp O
 | x :: xs,cs,O => ∃ c1 c2 O1 O2,cs = c1 ++ c2 ∧ (∀ k,O k ↔ O1 k ∨ O2 k) ∧ (∀ k,O1 k → ¬ O2 k) ∧ RepC h S x c1 O1 ∧ RepL h S xs c2 O2
end
end Go.Proofs.YtpffgegfjpdncaaGreatDoor.Am
namespace Go.Proofs.YtpffgegfjpdncaaGreatDoor.Am
open Go.RowKit AV
set_option linter.unusedVariables false
theorem Emp.iff {O O' : Nat → Prop} (h : Emp O) (hi : ∀ k,O' k ↔ O k) : Emp O':=fun k hk => h k ((hi k).1 hk)
theorem emp_false : Emp (fun _ => False):=fun _ h => h
theorem len_of_uni {sz : Nat} : ∀ {xs : List AV},(∀ x ∈ xs,x.ncells = sz) → ncellsL xs = sz * xs.length
 | [],_ => by simp [ncellsL]
 | x :: xs,h => by
  have:=len_of_uni (xs:=xs) (fun y hy => h y (List.mem_cons_of_mem _ hy))
  have hx:=h x (List.mem_cons_self ..)
  simp only [ncellsL,List.length_cons,this,hx,Nat.mul_add,Nat.mul_one]; omega
mutual
theorem repC_len {h : Array Obj} {S : Nat → Prop} : ∀ (x : AV) {cs : List Value} {O : Nat → Prop},RepC h S x cs O → cs.length = ncells x
 | .undef,cs,O,r => by simp only [RepC] at r; obtain ⟨⟨v,rfl,_⟩,_⟩:=r; simp [ncells]
 | .oth v,cs,O,r => by simp only [RepC] at r; obtain ⟨⟨rfl,_⟩,_⟩:=r; simp [ncells]
 | .int k n,cs,O,r => by simp only [RepC] at r; obtain ⟨rfl,_⟩:=r; simp [ncells]
 | .bool b,cs,O,r => by simp only [RepC] at r; obtain ⟨rfl,_⟩:=r; simp [ncells]
 | .str s,cs,O,r => by simp only [RepC] at r; obtain ⟨rfl,_⟩:=r; simp [ncells]
 | .sl true sz xs,cs,O,r => by
  simp only [RepC] at r
  rcases r with ⟨_,rfl,_⟩ | ⟨_,b,c,e,cap,O',rfl,_⟩ <;> simp [ncells]
 | .sl false sz xs,cs,O,r => by simp only [RepC] at r; obtain ⟨⟨A,cap,m,rfl,_⟩,_⟩:=r; simp [ncells]
 | .agg fs,cs,O,r => by simp only [RepC] at r; simp only [ncells]; exact repL_len fs r
 | .arr sz xs,cs,O,r => by
  simp only [RepC] at r
  simp only [ncells]; rw [← len_of_uni r.2]; exact repL_len xs r.1
 | .box x,cs,O,r => by simp only [RepC] at r; obtain ⟨b,c,e,m,O',rfl,_⟩:=r; simp [ncells]
 | .dptr x,cs,O,r => by simp only [RepC] at r; obtain ⟨⟨a,m,rfl,_⟩,_⟩:=r; simp [ncells]
 | .mp _,cs,O,r => by simp only [RepC] at r; obtain ⟨b,es,ck,rfl,_⟩:=r; simp [ncells]
 | .tup _,cs,O,r => by simp only [RepC] at r
 | .vref ..,cs,O,r => by simp only [RepC] at r
 | .vagg ..,cs,O,r => by simp only [RepC] at r
 | .vsub ..,cs,O,r => by simp only [RepC] at r
 | .ptr ..,cs,O,r => by simp only [RepC] at r
theorem repL_len {h : Array Obj} {S : Nat → Prop} : ∀ (xs : List AV) {cs : List Value} {O : Nat → Prop},RepL h S xs cs O → cs.length = ncellsL xs
 | [],cs,O,r => by simp only [RepL] at r; obtain ⟨rfl,_⟩:=r; simp [ncellsL]
 | x :: xs,cs,O,r => by
  simp only [RepL] at r
  obtain ⟨c1,c2,O1,O2,rfl,_,_,h1,h2⟩:=r
  simp only [ncellsL,List.length_append,repC_len x h1,repL_len xs h2]
end
mutual
theorem repC_one {h : Array Obj} {S : Nat → Prop} : ∀ (x : AV) {cs : List Value} {O : Nat → Prop},RepC h S x cs O → ∀ u ∈ cs,u.oneCell' = true
 | .undef,cs,O,r => by simp only [RepC] at r; obtain ⟨⟨v,rfl,hv⟩,_⟩:=r; simpa using hv
 | .oth v,cs,O,r => by simp only [RepC] at r; obtain ⟨⟨rfl,hv⟩,_⟩:=r; simpa using hv
 | .int k n,cs,O,r => by simp only [RepC] at r; obtain ⟨rfl,_⟩:=r; simp [Value.oneCell']
 | .bool b,cs,O,r => by simp only [RepC] at r; obtain ⟨rfl,_⟩:=r; simp [Value.oneCell']
 | .str s,cs,O,r => by simp only [RepC] at r; obtain ⟨rfl,_⟩:=r; simp [Value.oneCell']
 | .sl true sz xs,cs,O,r => by
  simp only [RepC] at r
  rcases r with ⟨_,rfl,_⟩ | ⟨_,b,c,e,cap,O',rfl,_⟩ <;> simp [Value.oneCell']
 | .sl false sz xs,cs,O,r => by simp only [RepC] at r; obtain ⟨⟨A,cap,m,rfl,_⟩,_⟩:=r; simp [Value.oneCell']
 | .agg fs,cs,O,r => by simp only [RepC] at r; exact repL_one fs r
 | .arr sz xs,cs,O,r => by simp only [RepC] at r; exact repL_one xs r.1
 | .box x,cs,O,r => by simp only [RepC] at r; obtain ⟨b,c,e,m,O',rfl,_⟩:=r; simp [Value.oneCell']
 | .dptr x,cs,O,r => by simp only [RepC] at r; obtain ⟨⟨a,m,rfl,_⟩,_⟩:=r; simp [Value.oneCell']
 | .mp _,cs,O,r => by simp only [RepC] at r; obtain ⟨b,es,ck,rfl,_⟩:=r; simp [Value.oneCell']
 | .tup _,cs,O,r => by simp only [RepC] at r
 | .vref ..,cs,O,r => by simp only [RepC] at r
 | .vagg ..,cs,O,r => by simp only [RepC] at r
 | .vsub ..,cs,O,r => by simp only [RepC] at r
 | .ptr ..,cs,O,r => by simp only [RepC] at r
theorem repL_one {h : Array Obj} {S : Nat → Prop} : ∀ (xs : List AV) {cs : List Value} {O : Nat → Prop},RepL h S xs cs O → ∀ u ∈ cs,u.oneCell' = true
 | [],cs,O,r => by simp only [RepL] at r; obtain ⟨rfl,_⟩:=r; simp
 | x :: xs,cs,O,r => by
  simp only [RepL] at r
  obtain ⟨c1,c2,O1,O2,rfl,_,_,h1,h2⟩:=r
  intro u hu
  rcases List.mem_append.1 hu with hu | hu
  ·exact repC_one x h1 u hu
  ·exact repL_one xs h2 u hu
end
theorem cellH_lt {h : Array Obj} {a : Addr} {v : Value} (e : cellH h a = some v) : a.block < h.size:=by
 unfold cellH at e
 cases hb : h[a.block]? with
 | none => simp [hb] at e
 | some o => exact (Array.getElem?_eq_some_iff.1 hb).1
theorem cellH_same {h h' : Array Obj} {a : Addr} (e : h'[a.block]? = h[a.block]?) : cellH h' a = cellH h a:=by unfold cellH; rw [e]
theorem add_block (a : Addr) (n : Nat) : (a.add n).block = a.block:=by unfold Addr.add; split <;> rfl
structure Agree (h h' : Array Obj) (S S' O : Nat → Prop) : Prop where
 sh : ∀ k,S k → k < h.size → S' k ∧ h'[k]? = h[k]?
 ow : ∀ k,O k → h'[k]? = h[k]?
theorem Agree.sub {h h' : Array Obj} {S S' O O' : Nat → Prop} (a : Agree h h' S S' O) (hs : ∀ k,O' k → O k) : Agree h h' S S' O' :=
 ⟨a.sh,fun k hk => a.ow k (hs k hk)⟩
theorem blk_lt {h : Array Obj} {k : Nat} {c : Array Value} {e : TypeId} (r : Row h k c e) : k < h.size:=by
 obtain ⟨fr,e,_⟩:=r
 exact (Array.getElem?_eq_some_iff.1 e).1
mutual
theorem repC_mono {h h' : Array Obj} {S S' : Nat → Prop} : ∀ (x : AV) {cs : List Value} {O : Nat → Prop},RepC h S x cs O → Agree h h' S S' O → RepC h' S' x cs O
 | .undef,cs,O,r,a => by simp only [RepC] at r ⊢; exact r
 | .oth v,cs,O,r,a => by simp only [RepC] at r ⊢; exact r
 | .int k n,cs,O,r,a => by simp only [RepC] at r ⊢; exact r
 | .bool b,cs,O,r,a => by simp only [RepC] at r ⊢; exact r
 | .str s,cs,O,r,a => by simp only [RepC] at r ⊢; exact r
 | .sl true sz xs,cs,O,r,a => by
  simp only [RepC] at r ⊢
  rcases r with r | ⟨hsz,b,c,e,cap,O',h1,h2,h3,h4,h5,h6,h7,h8,h9,h10⟩
  ·exact .inl r
  ·exact .inr ⟨hsz,b,c,e,cap,O',h1,h2.same (a.ow b ((h9 b).2 (.inl rfl))),h3,h4,h5,repL_mono xs h6 (a.sub fun k hk => (h9 k).2 (.inr hk)),h7,h8,h9,h10⟩
 | .sl false sz xs,cs,O,r,a => by
  simp only [RepC] at r ⊢
  obtain ⟨⟨A,cap,m,h1,h2,h3,h4,h5⟩,h6⟩:=r
  refine ⟨⟨A,cap,m,h1,h2,repL_mono xs h3 (a.sub fun k hk => hk.elim),h4,fun hn => ?_⟩,h6⟩
  obtain ⟨ad,e,hS,hc⟩:=h5 hn
  have hlen:=repL_len xs h3
  rw [len_of_uni h4] at hlen
  have key : 0 < sz → ad.block < h.size:=by
   intro hsz
   have : 0 < m.length:=by rw [hlen]; exact Nat.mul_pos hsz hn
   have:=hc 0 m[0] (List.getElem?_eq_getElem this)
   have:=cellH_lt this
   rwa [add_block] at this
  refine ⟨ad,e,fun hsz => (a.sh _ (hS hsz) (key hsz)).1,fun j u hu => ?_⟩
  have hsz : 0 < sz:=by
   rcases Nat.eq_zero_or_pos sz with h0 | h0
   ·have : m.length = 0:=by rw [hlen,h0]; simp
    have : m = []:=List.eq_nil_of_length_eq_zero this
    subst this; simp at hu
   ·exact h0
  rw [← hc j u hu]
  exact cellH_same (by rw [add_block]; exact (a.sh _ (hS hsz) (key hsz)).2)
 | .agg fs,cs,O,r,a => by simp only [RepC] at r ⊢; exact repL_mono fs r a
 | .arr sz xs,cs,O,r,a => by simp only [RepC] at r ⊢; exact ⟨repL_mono xs r.1 a,r.2⟩
 | .box x,cs,O,r,a => by
  simp only [RepC] at r ⊢
  obtain ⟨b,c,e,m,O',h1,h2,h3,h4,h5,h6⟩:=r
  exact ⟨b,c,e,m,O',h1,h2.same (a.ow b ((h6 b).2 (.inl rfl))),h3,repC_mono x h4 (a.sub fun k hk => (h6 k).2 (.inr hk)),h5,h6⟩
 | .mp kvs,cs,O,r,a => by
  simp only [RepC] at r ⊢
  obtain ⟨b,es,ck,h1,h2,h3,h4,h5⟩:=r
  exact ⟨b,es,ck,h1,(a.ow b ((h5 b).2 rfl)).trans h2,repL_mono kvs h3 (a.sub fun k hk => hk.elim),h4,h5⟩
 | .dptr x,cs,O,r,a => by
  simp only [RepC] at r ⊢
  obtain ⟨⟨ad,m,h1,h2,h3,h4⟩,h5⟩:=r
  have key : 0 < m.length → ad.block < h.size:=by
   intro hm
   have:=cellH_lt (h4 0 m[0] (List.getElem?_eq_getElem hm))
   rwa [add_block] at this
  refine ⟨⟨ad,m,h1,repC_mono x h2 (a.sub fun k hk => hk.elim),fun hm => (a.sh _ (h3 hm) (key hm)).1,fun j u hu => ?_⟩,h5⟩
  have hm : 0 < m.length:=by
   rcases m with _ | ⟨y,m⟩
   ·simp at hu
   ·simp
  rw [← h4 j u hu]
  exact cellH_same (by rw [add_block]; exact (a.sh _ (h3 hm) (key hm)).2)
 | .tup _,cs,O,r,a => by simp only [RepC] at r
 | .vref ..,cs,O,r,a => by simp only [RepC] at r
 | .vagg ..,cs,O,r,a => by simp only [RepC] at r
 | .vsub ..,cs,O,r,a => by simp only [RepC] at r
 | .ptr ..,cs,O,r,a => by simp only [RepC] at r
theorem repL_mono {h h' : Array Obj} {S S' : Nat → Prop} : ∀ (xs : List AV) {cs : List Value} {O : Nat → Prop},RepL h S xs cs O → Agree h h' S S' O → RepL h' S' xs cs O
 | [],cs,O,r,a => by simp only [RepL] at r ⊢; exact r
 | x :: xs,cs,O,r,a => by
  simp only [RepL] at r ⊢
  obtain ⟨c1,c2,O1,O2,h1,h2,h3,h4,h5⟩:=r
  exact ⟨c1,c2,O1,O2,h1,h2,h3,repC_mono x h4 (a.sub fun k hk => (h2 k).2 (.inl hk)),repL_mono xs h5 (a.sub fun k hk => (h2 k).2 (.inr hk))⟩
end
end Go.Proofs.YtpffgegfjpdncaaGreatDoor.Am
namespace Go.Proofs.YtpffgegfjpdncaaGreatDoor.Am
open Go.RowKit AV
set_option linter.unusedVariables false
mutual
theorem repC_cong {h : Array Obj} {S : Nat → Prop} : ∀ (x : AV) {cs : List Value} {O O' : Nat → Prop},RepC h S x cs O → (∀ k,O' k ↔ O k) → RepC h S x cs O'
 | .undef,cs,O,O',r,e => by simp only [RepC] at r ⊢; exact ⟨r.1,r.2.iff e⟩
 | .oth v,cs,O,O',r,e => by simp only [RepC] at r ⊢; exact ⟨r.1,r.2.iff e⟩
 | .int k n,cs,O,O',r,e => by simp only [RepC] at r ⊢; exact ⟨r.1,r.2.iff e⟩
 | .bool b,cs,O,O',r,e => by simp only [RepC] at r ⊢; exact ⟨r.1,r.2.iff e⟩
 | .str s,cs,O,O',r,e => by simp only [RepC] at r ⊢; exact ⟨r.1,r.2.iff e⟩
 | .sl true sz xs,cs,O,O',r,ee => by
  simp only [RepC] at r ⊢
  rcases r with ⟨r1,r2,r3⟩ | ⟨hsz,b,c,e,cap,O1,h1,h2,h3,h4,h5,h6,h7,h8,h9,h10⟩
  ·exact .inl ⟨r1,r2,r3.iff ee⟩
  ·exact .inr ⟨hsz,b,c,e,cap,O1,h1,h2,h3,h4,h5,h6,h7,h8,fun k => (ee k).trans (h9 k),h10⟩
 | .sl false sz xs,cs,O,O',r,e => by simp only [RepC] at r ⊢; exact ⟨r.1,r.2.iff e⟩
 | .agg fs,cs,O,O',r,e => by simp only [RepC] at r ⊢; exact repL_cong fs r e
 | .arr sz xs,cs,O,O',r,e => by simp only [RepC] at r ⊢; exact ⟨repL_cong xs r.1 e,r.2⟩
 | .box x,cs,O,O',r,ee => by
  simp only [RepC] at r ⊢
  obtain ⟨b,c,e,m,O1,h1,h2,h3,h4,h5,h6⟩:=r
  exact ⟨b,c,e,m,O1,h1,h2,h3,h4,h5,fun k => (ee k).trans (h6 k)⟩
 | .mp kvs,cs,O,O',r,ee => by
  simp only [RepC] at r ⊢
  obtain ⟨b,es,ck,h1,h2,h3,h4,h5⟩:=r
  exact ⟨b,es,ck,h1,h2,h3,h4,fun k => (ee k).trans (h5 k)⟩
 | .dptr x,cs,O,O',r,e => by simp only [RepC] at r ⊢; exact ⟨r.1,r.2.iff e⟩
 | .tup _,cs,O,O',r,e => by simp only [RepC] at r
 | .vref ..,cs,O,O',r,e => by simp only [RepC] at r
 | .vagg ..,cs,O,O',r,e => by simp only [RepC] at r
 | .vsub ..,cs,O,O',r,e => by simp only [RepC] at r
 | .ptr ..,cs,O,O',r,e => by simp only [RepC] at r
theorem repL_cong {h : Array Obj} {S : Nat → Prop} : ∀ (xs : List AV) {cs : List Value} {O O' : Nat → Prop},RepL h S xs cs O → (∀ k,O' k ↔ O k) → RepL h S xs cs O'
 | [],cs,O,O',r,e => by simp only [RepL] at r ⊢; exact ⟨r.1,r.2.iff e⟩
 | x :: xs,cs,O,O',r,e => by
  simp only [RepL] at r ⊢
  obtain ⟨c1,c2,O1,O2,h1,h2,h3,h4,h5⟩:=r
  exact ⟨c1,c2,O1,O2,h1,fun k => (e k).trans (h2 k),h3,h4,h5⟩
end
mutual
theorem repC_lt {h : Array Obj} {S : Nat → Prop} : ∀ (x : AV) {cs : List Value} {O : Nat → Prop},RepC h S x cs O → ∀ k,O k → k < h.size
 | .undef,cs,O,r => by simp only [RepC] at r; exact fun k hk => (r.2 k hk).elim
 | .oth v,cs,O,r => by simp only [RepC] at r; exact fun k hk => (r.2 k hk).elim
 | .int k n,cs,O,r => by simp only [RepC] at r; exact fun k hk => (r.2 k hk).elim
 | .bool b,cs,O,r => by simp only [RepC] at r; exact fun k hk => (r.2 k hk).elim
 | .str s,cs,O,r => by simp only [RepC] at r; exact fun k hk => (r.2 k hk).elim
 | .sl true sz xs,cs,O,r => by
  simp only [RepC] at r
  rcases r with ⟨r1,r2,r3⟩ | ⟨hsz,b,c,e,cap,O1,h1,h2,h3,h4,h5,h6,h7,h8,h9,h10⟩
  ·exact fun k hk => (r3 k hk).elim
  ·intro k hk
   rcases (h9 k).1 hk with rfl | hk
   ·exact blk_lt h2
   ·exact repL_lt xs h6 k hk
 | .sl false sz xs,cs,O,r => by simp only [RepC] at r; exact fun k hk => (r.2 k hk).elim
 | .agg fs,cs,O,r => by simp only [RepC] at r; exact repL_lt fs r
 | .arr sz xs,cs,O,r => by simp only [RepC] at r; exact repL_lt xs r.1
 | .box x,cs,O,r => by
  simp only [RepC] at r
  obtain ⟨b,c,e,m,O1,h1,h2,h3,h4,h5,h6⟩:=r
  intro k hk
  rcases (h6 k).1 hk with rfl | hk
  ·exact blk_lt h2
  ·exact repC_lt x h4 k hk
 | .mp kvs,cs,O,r => by
  simp only [RepC] at r
  obtain ⟨b,es,ck,h1,h2,h3,h4,h5⟩:=r
  intro k hk
  obtain rfl:=(h5 k).1 hk
  exact (Array.getElem?_eq_some_iff.1 h2).1
 | .dptr x,cs,O,r => by simp only [RepC] at r; exact fun k hk => (r.2 k hk).elim
 | .tup _,cs,O,r => by simp only [RepC] at r
 | .vref ..,cs,O,r => by simp only [RepC] at r
 | .vagg ..,cs,O,r => by simp only [RepC] at r
 | .vsub ..,cs,O,r => by simp only [RepC] at r
 | .ptr ..,cs,O,r => by simp only [RepC] at r
theorem repL_lt {h : Array Obj} {S : Nat → Prop} : ∀ (xs : List AV) {cs : List Value} {O : Nat → Prop},RepL h S xs cs O → ∀ k,O k → k < h.size
 | [],cs,O,r => by simp only [RepL] at r; exact fun k hk => (r.2 k hk).elim
 | x :: xs,cs,O,r => by
  simp only [RepL] at r
  obtain ⟨c1,c2,O1,O2,h1,h2,h3,h4,h5⟩:=r
  intro k hk
  rcases (h2 k).1 hk with hk | hk
  ·exact repC_lt x h4 k hk
  ·exact repL_lt xs h5 k hk
end
mutual
theorem repC_plain {h : Array Obj} {S : Nat → Prop} : ∀ (x : AV) {cs : List Value} {O : Nat → Prop},RepC h S x cs O → plain x = true → Emp O
 | .undef,cs,O,r,e => by simp only [RepC] at r; exact r.2
 | .oth v,cs,O,r,e => by simp only [RepC] at r; exact r.2
 | .int k n,cs,O,r,e => by simp only [RepC] at r; exact r.2
 | .bool b,cs,O,r,e => by simp only [RepC] at r; exact r.2
 | .str s,cs,O,r,e => by simp only [RepC] at r; exact r.2
 | .sl true sz xs,cs,O,r,e => by simp [plain] at e
 | .sl false sz xs,cs,O,r,e => by simp only [RepC] at r; exact r.2
 | .agg fs,cs,O,r,e => by simp only [RepC] at r; exact repL_plain fs r (by simpa [plain] using e)
 | .arr sz xs,cs,O,r,e => by simp only [RepC] at r; exact repL_plain xs r.1 (by simpa [plain] using e)
 | .box x,cs,O,r,e => by simp [plain] at e
 | .mp _,cs,O,r,e => by simp [plain] at e
 | .dptr x,cs,O,r,e => by simp only [RepC] at r; exact r.2
 | .tup _,cs,O,r,e => by simp only [RepC] at r
 | .vref ..,cs,O,r,e => by simp only [RepC] at r
 | .vagg ..,cs,O,r,e => by simp only [RepC] at r
 | .vsub ..,cs,O,r,e => by simp only [RepC] at r
 | .ptr ..,cs,O,r,e => by simp only [RepC] at r
theorem repL_plain {h : Array Obj} {S : Nat → Prop} : ∀ (xs : List AV) {cs : List Value} {O : Nat → Prop},RepL h S xs cs O → plainL xs = true → Emp O
 | [],cs,O,r,e => by simp only [RepL] at r; exact r.2
 | x :: xs,cs,O,r,e => by
  simp only [RepL] at r
  simp only [plainL,Bool.and_eq_true] at e
  obtain ⟨c1,c2,O1,O2,h1,h2,h3,h4,h5⟩:=r
  intro k hk
  rcases (h2 k).1 hk with hk | hk
  ·exact repC_plain x h4 e.1 k hk
  ·exact repL_plain xs h5 e.2 k hk
end
mutual
theorem repC_closed {h : Array Obj} {S S' : Nat → Prop} : ∀ (x : AV) {cs : List Value} {O : Nat → Prop},RepC h S x cs O → closed x = true → RepC h S' x cs O
 | .undef,cs,O,r,e => by simp only [RepC] at r ⊢; exact r
 | .oth v,cs,O,r,e => by simp only [RepC] at r ⊢; exact r
 | .int k n,cs,O,r,e => by simp only [RepC] at r ⊢; exact r
 | .bool b,cs,O,r,e => by simp only [RepC] at r ⊢; exact r
 | .str s,cs,O,r,e => by simp only [RepC] at r ⊢; exact r
 | .sl true sz xs,cs,O,r,e => by
  simp only [RepC] at r ⊢
  rcases r with r | ⟨hsz,b,c,e',cap,O1,h1,h2,h3,h4,h5,h6,h7,h8,h9,h10⟩
  ·exact .inl r
  ·exact .inr ⟨hsz,b,c,e',cap,O1,h1,h2,h3,h4,h5,repL_closed xs h6 (by simpa [closed] using e),h7,h8,h9,h10⟩
 | .sl false sz xs,cs,O,r,e => by simp [closed] at e
 | .agg fs,cs,O,r,e => by simp only [RepC] at r ⊢; exact repL_closed fs r (by simpa [closed] using e)
 | .arr sz xs,cs,O,r,e => by simp only [RepC] at r ⊢; exact ⟨repL_closed xs r.1 (by simpa [closed] using e),r.2⟩
 | .box x,cs,O,r,e => by
  simp only [RepC] at r ⊢
  obtain ⟨b,c,e',m,O1,h1,h2,h3,h4,h5,h6⟩:=r
  exact ⟨b,c,e',m,O1,h1,h2,h3,repC_closed x h4 (by simpa [closed] using e),h5,h6⟩
 | .mp _,cs,O,r,e => by simp [closed] at e
 | .dptr x,cs,O,r,e => by simp [closed] at e
 | .tup _,cs,O,r,e => by simp only [RepC] at r
 | .vref ..,cs,O,r,e => by simp only [RepC] at r
 | .vagg ..,cs,O,r,e => by simp only [RepC] at r
 | .vsub ..,cs,O,r,e => by simp only [RepC] at r
 | .ptr ..,cs,O,r,e => by simp only [RepC] at r
theorem repL_closed {h : Array Obj} {S S' : Nat → Prop} : ∀ (xs : List AV) {cs : List Value} {O : Nat → Prop},RepL h S xs cs O → closedL xs = true → RepL h S' xs cs O
 | [],cs,O,r,e => by simp only [RepL] at r ⊢; exact r
 | x :: xs,cs,O,r,e => by
  simp only [RepL] at r ⊢
  simp only [closedL,Bool.and_eq_true] at e
  obtain ⟨c1,c2,O1,O2,h1,h2,h3,h4,h5⟩:=r
  exact ⟨c1,c2,O1,O2,h1,h2,h3,repC_closed x h4 e.1,repL_closed xs h5 e.2⟩
end
theorem eraseL_map (xs : List AV) : eraseL xs = xs.map erase:=by
 induction xs with
 | nil => simp [eraseL]
 | cons x xs ih => simp [eraseL,ih]
theorem deadL_map (xs : List AV) : deadL xs = xs.map dead:=by
 induction xs with
 | nil => simp [deadL]
 | cons x xs ih => simp [deadL,ih]
theorem plainL_all (xs : List AV) : plainL xs = xs.all plain:=by
 induction xs with
 | nil => simp [plainL]
 | cons x xs ih => simp [plainL,ih]
theorem closedL_all (xs : List AV) : closedL xs = xs.all closed:=by
 induction xs with
 | nil => simp [closedL]
 | cons x xs ih => simp [closedL,ih]
mutual
theorem ncells_erase : ∀ x : AV,ncells (erase x) = ncells x
 | .undef => by simp [erase]
 | .oth v => by simp [erase]
 | .int k n => by simp [erase]
 | .bool b => by simp [erase]
 | .str s => by simp [erase]
 | .sl o sz xs => by simp [erase,ncells]
 | .agg fs => by simp only [erase,ncells]; exact ncellsL_erase fs
 | .arr sz xs => by simp [erase,ncells,eraseL_map]
 | .box x => by simp [erase,ncells]
 | .mp _ => by simp [erase,ncells]
 | .dptr x => by simp [erase]
 | .tup _ => by simp [erase,ncells]
 | .vref .. => by simp [erase]
 | .vagg .. => by simp [erase]
 | .vsub .. => by simp [erase]
 | .ptr .. => by simp [erase]
theorem ncellsL_erase : ∀ xs : List AV,ncellsL (eraseL xs) = ncellsL xs
 | [] => by simp [eraseL]
 | x :: xs => by simp only [eraseL,ncellsL,ncells_erase x,ncellsL_erase xs]
end
mutual
theorem ncells_dead : ∀ x : AV,ncells (dead x) = ncells x
 | .undef => by simp [dead]
 | .oth v => by simp [dead]
 | .int k n => by simp [dead]
 | .bool b => by simp [dead]
 | .str s => by simp [dead]
 | .sl o sz xs => by simp only [dead]; split <;> simp [ncells]
 | .agg fs => by simp only [dead,ncells]; exact ncellsL_dead fs
 | .arr sz xs => by simp [dead,ncells,deadL_map]
 | .box x => by simp [dead,ncells]
 | .mp _ => by simp [dead,ncells]
 | .dptr x => by simp [dead]
 | .tup _ => by simp [dead,ncells]
 | .vref .. => by simp [dead]
 | .vagg .. => by simp [dead]
 | .vsub .. => by simp [dead]
 | .ptr .. => by simp [dead]
theorem ncellsL_dead : ∀ xs : List AV,ncellsL (deadL xs) = ncellsL xs
 | [] => by simp [deadL]
 | x :: xs => by simp only [deadL,ncellsL,ncells_dead x,ncellsL_dead xs]
end
theorem row_cells {h : Array Obj} {b : Nat} {c : Array Value} {e : TypeId} (hb : Row h b c e) {n j : Nat} {u : Value}
  (hu : (c.toList.take n)[j]? = some u) : cellH h ((⟨b,0,none⟩ : Addr).add j) = some u:=by
 have hadd : (⟨b,0,none⟩ : Addr).add j = ⟨b,j,none⟩:=by unfold Addr.add; split <;> simp_all
 obtain ⟨fr,hb,_⟩:=hb
 rw [hadd]
 simp only [cellH,hb]
 rw [List.getElem?_take] at hu
 split at hu
 ·simpa using hu
 ·cases hu
mutual
theorem repC_erase {h : Array Obj} {S S' : Nat → Prop} : ∀ (x : AV) {cs : List Value} {O : Nat → Prop},RepC h S x cs O → (∀ k,S k → S' k) → (∀ k,O k → S' k) → RepC h S' (erase x) cs (fun _ => False)
 | .undef,cs,O,r,s1,s2 => by simp only [RepC,erase] at r ⊢; exact ⟨r.1,emp_false⟩
 | .oth v,cs,O,r,s1,s2 => by simp only [RepC,erase] at r ⊢; exact ⟨r.1,emp_false⟩
 | .int k n,cs,O,r,s1,s2 => by simp only [RepC,erase] at r ⊢; exact ⟨r.1,emp_false⟩
 | .bool b,cs,O,r,s1,s2 => by simp only [RepC,erase] at r ⊢; exact ⟨r.1,emp_false⟩
 | .str s,cs,O,r,s1,s2 => by simp only [RepC,erase] at r ⊢; exact ⟨r.1,emp_false⟩
 | .sl true sz xs,cs,O,r,s1,s2 => by
  simp only [RepC,erase] at r ⊢
  refine ⟨?_,emp_false⟩
  rcases r with ⟨rfl,rfl,r3⟩ | ⟨hsz,b,c,e,cap,O1,h1,h2,h3,h4,h5,h6,h7,h8,h9,h10⟩
  ·exact ⟨none,0,[],by simp [eraseL],by simp [eraseL],by simp only [eraseL,RepL]; exact ⟨trivial,emp_false⟩,by simp [eraseL],by simp [eraseL]⟩
  ·refine ⟨some ⟨b,0,none⟩,cap,c.toList.take (xs.length * sz),by rw [eraseL_map]; simpa using h1,by rw [eraseL_map]; simpa using h4,
    repL_erase xs h6 s1 (fun k hk => s2 k ((h9 k).2 (.inr hk))),?_,fun _ => ⟨_,rfl,fun _ => s2 b ((h9 b).2 (.inl rfl)),fun j u hu => row_cells h2 hu⟩⟩
   intro y hy
   rw [eraseL_map] at hy
   obtain ⟨x,hx,rfl⟩:=List.mem_map.1 hy
   rw [ncells_erase]; exact h7 x hx
 | .sl false sz xs,cs,O,r,s1,s2 => by
  simp only [RepC,erase] at r ⊢
  refine ⟨?_,emp_false⟩
  obtain ⟨⟨A,cap,m,h1,h2,h3,h4,h5⟩,_⟩:=r
  refine ⟨A,cap,m,by rw [eraseL_map]; simpa using h1,by rw [eraseL_map]; simpa using h2,repL_erase xs h3 s1 (fun k hk => hk.elim),?_,?_⟩
  ·intro y hy
   rw [eraseL_map] at hy
   obtain ⟨x,hx,rfl⟩:=List.mem_map.1 hy
   rw [ncells_erase]; exact h4 x hx
  ·intro hn
   rw [eraseL_map,List.length_map] at hn
   obtain ⟨a,e,hS,hc⟩:=h5 hn
   exact ⟨a,e,fun hsz => s1 _ (hS hsz),hc⟩
 | .agg fs,cs,O,r,s1,s2 => by simp only [RepC,erase] at r ⊢; exact repL_erase fs r s1 s2
 | .arr sz xs,cs,O,r,s1,s2 => by
  simp only [RepC,erase] at r ⊢
  refine ⟨repL_erase xs r.1 s1 s2,?_⟩
  intro y hy
  rw [eraseL_map] at hy
  obtain ⟨x,hx,rfl⟩:=List.mem_map.1 hy
  rw [ncells_erase]; exact r.2 x hx
 | .box x,cs,O,r,s1,s2 => by
  simp only [RepC,erase] at r ⊢
  refine ⟨?_,emp_false⟩
  obtain ⟨b,c,e,m,O1,h1,h2,h3,h4,h5,h6⟩:=r
  refine ⟨⟨b,0,none⟩,m,h1,repC_erase x h4 s1 (fun k hk => s2 k ((h6 k).2 (.inr hk))),fun _ => s2 b ((h6 b).2 (.inl rfl)),fun j u hu => ?_⟩
  subst h3
  exact row_cells h2 (n:=c.toList.length) (by rw [List.take_length]; exact hu)
 | .mp _,cs,O,r,s1,s2 => by
  simp only [RepC,erase] at r ⊢
  obtain ⟨b,es,ck,h1,_⟩:=r
  exact ⟨⟨_,h1,by simp [Value.oneCell']⟩,emp_false⟩
 | .dptr x,cs,O,r,s1,s2 => by
  simp only [RepC,erase] at r ⊢
  obtain ⟨⟨a,m,h1,h2,h3,h4⟩,_⟩:=r
  exact ⟨⟨a,m,h1,repC_sub x h2 s1,fun hm => s1 _ (h3 hm),h4⟩,emp_false⟩
 | .tup _,cs,O,r,s1,s2 => by simp only [RepC] at r
 | .vref ..,cs,O,r,s1,s2 => by simp only [RepC] at r
 | .vagg ..,cs,O,r,s1,s2 => by simp only [RepC] at r
 | .vsub ..,cs,O,r,s1,s2 => by simp only [RepC] at r
 | .ptr ..,cs,O,r,s1,s2 => by simp only [RepC] at r
theorem repL_erase {h : Array Obj} {S S' : Nat → Prop} : ∀ (xs : List AV) {cs : List Value} {O : Nat → Prop},RepL h S xs cs O → (∀ k,S k → S' k) → (∀ k,O k → S' k) → RepL h S' (eraseL xs) cs (fun _ => False)
 | [],cs,O,r,s1,s2 => by simp only [RepL,eraseL] at r ⊢; exact ⟨r.1,emp_false⟩
 | x :: xs,cs,O,r,s1,s2 => by
  simp only [RepL,eraseL] at r ⊢
  obtain ⟨c1,c2,O1,O2,h1,h2,h3,h4,h5⟩:=r
  exact ⟨c1,c2,_,_,h1,by simp,by simp,repC_erase x h4 s1 (fun k hk => s2 k ((h2 k).2 (.inl hk))),repL_erase xs h5 s1 (fun k hk => s2 k ((h2 k).2 (.inr hk)))⟩
theorem repC_sub {h : Array Obj} {S S' : Nat → Prop} : ∀ (x : AV) {cs : List Value} {O : Nat → Prop},RepC h S x cs O → (∀ k,S k → S' k) → RepC h S' x cs O
 | x,cs,O,r,s => repC_mono x r ⟨fun k hk _ => ⟨s k hk,rfl⟩,fun _ _ => rfl⟩
end
mutual
theorem repC_dead {h : Array Obj} {S : Nat → Prop} : ∀ (x : AV) {cs : List Value} {O : Nat → Prop},RepC h S x cs O → RepC h S (dead x) cs (fun _ => False)
 | .undef,cs,O,r => by simp only [RepC,dead] at r ⊢; exact ⟨r.1,emp_false⟩
 | .oth v,cs,O,r => by simp only [RepC,dead] at r ⊢; exact ⟨r.1,emp_false⟩
 | .int k n,cs,O,r => by simp only [RepC,dead] at r ⊢; exact ⟨r.1,emp_false⟩
 | .bool b,cs,O,r => by simp only [RepC,dead] at r ⊢; exact ⟨r.1,emp_false⟩
 | .str s,cs,O,r => by simp only [RepC,dead] at r ⊢; exact ⟨r.1,emp_false⟩
 | .sl true sz xs,cs,O,r => by
  have h1:=repC_one _ r
  have h2:=repC_len _ r
  simp only [dead,if_true,RepC]
  refine ⟨?_,emp_false⟩
  simp only [ncells] at h2
  obtain ⟨v,rfl⟩:=List.length_eq_one_iff.1 h2
  exact ⟨v,rfl,h1 v (by simp)⟩
 | .sl false sz xs,cs,O,r => by simp only [RepC,dead] at r ⊢; simp only [Bool.false_eq_true,if_false,RepC]; exact ⟨r.1,emp_false⟩
 | .agg fs,cs,O,r => by simp only [RepC,dead] at r ⊢; exact repL_dead fs r
 | .arr sz xs,cs,O,r => by
  simp only [RepC,dead] at r ⊢
  refine ⟨repL_dead xs r.1,?_⟩
  intro y hy
  rw [deadL_map] at hy
  obtain ⟨x,hx,rfl⟩:=List.mem_map.1 hy
  rw [ncells_dead]; exact r.2 x hx
 | .box x,cs,O,r => by
  simp only [RepC,dead] at r ⊢
  obtain ⟨b,c,e,m,O1,h1,_⟩:=r
  exact ⟨⟨_,h1,by simp [Value.oneCell']⟩,emp_false⟩
 | .mp _,cs,O,r => by
  simp only [RepC,dead] at r ⊢
  obtain ⟨b,es,ck,h1,_⟩:=r
  exact ⟨⟨_,h1,by simp [Value.oneCell']⟩,emp_false⟩
 | .dptr x,cs,O,r => by simp only [RepC,dead] at r ⊢; exact ⟨r.1,emp_false⟩
 | .tup _,cs,O,r => by simp only [RepC] at r
 | .vref ..,cs,O,r => by simp only [RepC] at r
 | .vagg ..,cs,O,r => by simp only [RepC] at r
 | .vsub ..,cs,O,r => by simp only [RepC] at r
 | .ptr ..,cs,O,r => by simp only [RepC] at r
theorem repL_dead {h : Array Obj} {S : Nat → Prop} : ∀ (xs : List AV) {cs : List Value} {O : Nat → Prop},RepL h S xs cs O → RepL h S (deadL xs) cs (fun _ => False)
 | [],cs,O,r => by simp only [RepL,deadL] at r ⊢; exact ⟨r.1,emp_false⟩
 | x :: xs,cs,O,r => by
  simp only [RepL,deadL] at r ⊢
  obtain ⟨c1,c2,O1,O2,h1,h2,h3,h4,h5⟩:=r
  exact ⟨c1,c2,_,_,h1,by simp,by simp,repC_dead x h4,repL_dead xs h5⟩
end
end Go.Proofs.YtpffgegfjpdncaaGreatDoor.Am
namespace Go.Proofs.YtpffgegfjpdncaaGreatDoor.Am
open Go.RowKit AV
set_option linter.unusedVariables false
theorem repL_at {h : Array Obj} {S : Nat → Prop} : ∀ (xs : List AV) (i : Nat) (y : AV) {m : List Value} {O : Nat → Prop},RepL h S xs m O → xs[i]? = some y →
  ∃ (m1 cy m2 : List Value) (Oy Ob : Nat → Prop),m = m1 ++ cy ++ m2 ∧ m1.length = ncellsL (xs.take i) ∧ RepC h S y cy Oy ∧ (∀ k,O k ↔ Oy k ∨ Ob k) ∧ (∀ k,Oy k → ¬ Ob k) ∧
   ∀ (h' : Array Obj) (S' : Nat → Prop) (y' : AV) (cy' : List Value) (Oy' : Nat → Prop),Agree h h' S S' Ob → RepC h' S' y' cy' Oy' → (∀ k,Oy' k → ¬ Ob k) →
    RepL h' S' (xs.set i y') (m1 ++ cy' ++ m2) (fun k => Oy' k ∨ Ob k)
 | [],i,y,m,O,r,e => by simp at e
 | x :: xs,0,y,m,O,r,e => by
  simp only [RepL] at r
  obtain ⟨c1,c2,O1,O2,h1,h2,h3,h4,h5⟩:=r
  obtain rfl : x = y:=by simpa using e
  refine ⟨[],c1,c2,O1,O2,by simpa using h1,by simp [ncellsL],h4,h2,h3,?_⟩
  intro h' S' y' cy' Oy' a r' d
  simp only [List.set_cons_zero,RepL,List.nil_append]
  exact ⟨cy',c2,Oy',O2,rfl,fun k => Iff.rfl,d,r',repL_mono xs h5 a⟩
 | x :: xs,i + 1,y,m,O,r,e => by
  simp only [RepL] at r
  obtain ⟨c1,c2,O1,O2,h1,h2,h3,h4,h5⟩:=r
  obtain ⟨m1,cy,m2,Oy,Ob,g1,g2,g3,g4,g5,g6⟩:=repL_at xs i y h5 (by simpa using e)
  subst g1
  refine ⟨c1 ++ m1,cy,m2,Oy,fun k => O1 k ∨ Ob k,by simp [h1],by simp [ncellsL,repC_len x h4,g2],g3,?_,?_,?_⟩
  ·intro k
   rw [h2 k,g4 k]
   constructor
   ·rintro (h | h | h) <;> simp [h]
   ·rintro (h | h | h) <;> simp [h]
  ·intro k hk hr
   rcases hr with hr | hr
   ·exact h3 k hr ((g4 k).2 (.inl hk))
   ·exact g5 k hk hr
  ·intro h' S' y' cy' Oy' a r' d
   have q:=g6 h' S' y' cy' Oy' (a.sub fun k hk => .inr hk) r' (fun k hk hr => d k hk (.inr hr))
   simp only [List.set_cons_succ,RepL]
   refine ⟨c1,m1 ++ cy' ++ m2,O1,fun k => Oy' k ∨ Ob k,by simp,?_,?_,repC_mono x h4 (a.sub fun k hk => .inl hk),q⟩
   ·intro k
    constructor
    ·rintro (h | h | h) <;> simp [h]
    ·rintro (h | h | h) <;> simp [h]
   ·intro k hk hr
    rcases hr with hr | hr
    ·exact d k hr (.inl hk)
    ·exact h3 k hk ((g4 k).2 (.inr hr))
theorem uni_take {sz : Nat} {xs : List AV} (h : ∀ x ∈ xs,x.ncells = sz) {i : Nat} (hi : i ≤ xs.length) : ncellsL (xs.take i) = i * sz:=by
 rw [len_of_uni (sz:=sz) (fun x hx => h x (List.mem_of_mem_take hx)),List.length_take,Nat.min_eq_left hi,Nat.mul_comm]
def At (h : Array Obj) (B o : Nat) (cs : List Value) : Prop:=∀ (j : Nat) u,cs[j]? = some u → cellH h ⟨B,o + j,none⟩ = some u
theorem At.app {h : Array Obj} {B o : Nat} {a b : List Value} : At h B o (a ++ b) ↔ At h B o a ∧ At h B (o + a.length) b:=by
 constructor
 ·intro H
  refine ⟨fun j u hu => H j u ?_,fun j u hu => ?_⟩
  ·rw [List.getElem?_append_left (List.getElem?_eq_some_iff.1 hu).1]; exact hu
  ·have:=H (a.length + j) u (by rw [List.getElem?_append_right (by omega)]; simpa using hu)
   rwa [← Nat.add_assoc] at this
 ·rintro ⟨H1,H2⟩ j u hu
  by_cases hj : j < a.length
  ·exact H1 j u (by rwa [List.getElem?_append_left hj] at hu)
  ·rw [List.getElem?_append_right (by omega)] at hu
   have:=H2 (j - a.length) u hu
   rwa [show o + a.length + (j - a.length) = o + j by omega] at this
structure Wrote (W : Nat → Prop) (h h' : Array Obj) (B o : Nat) (news : List Value) : Prop where
 other : ∀ k,W k → k ≠ B → h'[k]? = h[k]?
 row : ∃ c c' e fr,h[B]? = some (.cells c e fr) ∧ h'[B]? = some (.cells c' e fr) ∧ c'.size = c.size ∧ o + news.length ≤ c.size ∧ ∀ j,c'[j]? = if o ≤ j ∧ j < o + news.length then news[j - o]? else c[j]?
theorem Wrote.at_ {W : Nat → Prop} {h h' : Array Obj} {B o : Nat} {news : List Value} (w : Wrote W h h' B o news) : At h' B o news:=by
 intro j u hu
 obtain ⟨c,c',e,fr,h1,h2,h3,h4,h5⟩:=w.row
 have hj:=(List.getElem?_eq_some_iff.1 hu).1
 simp only [cellH,h2]
 simp only [Option.isSome_none,Bool.false_eq_true,if_false]
 rw [h5,if_pos (by omega)]
 simpa using hu
theorem Wrote.off {W : Nat → Prop} {h h' : Array Obj} {B o : Nat} {news : List Value} (w : Wrote W h h' B o news) {j : Nat} (hj : j < o ∨ o + news.length ≤ j) : cellH h' ⟨B,j,none⟩ = cellH h ⟨B,j,none⟩:=by
 obtain ⟨c,c',e,fr,h1,h2,h3,h4,h5⟩:=w.row
 simp only [cellH,h1,h2,Option.isSome_none,Bool.false_eq_true,if_false]
 rw [h5,if_neg (by omega)]
theorem Wrote.keep {W : Nat → Prop} {h h' : Array Obj} {B o : Nat} {news : List Value} (w : Wrote W h h' B o news) {B' o' : Nat} {cs : List Value} (hd : (B' ≠ B ∧ W B') ∨ (B' = B ∧ (o' + cs.length ≤ o ∨ o + news.length ≤ o'))) (H : At h B' o' cs) : At h' B' o' cs:=by
 intro j u hu
 have hj:=(List.getElem?_eq_some_iff.1 hu).1
 rw [← H j u hu]
 rcases hd with ⟨hb,hw⟩ | ⟨rfl,hd⟩
 ·exact cellH_same (w.other _ hw hb)
 ·exact w.off (by omega)
def adr (h : Array Obj) : List Nat → AV → Nat → Nat → Option (Nat × Nat)
 | [],_,B,o => some (B,o)
 | i :: p,.agg fs,B,o => match fs[i]? with | some y => adr h p y B (o + ncellsL (fs.take i)) | none => none
 | i :: p,.arr sz xs,B,o => match xs[i]? with | some y => adr h p y B (o + i * sz) | none => none
 | i :: p,.sl true sz xs,B,o => match cellH h ⟨B,o,none⟩ with
  | some (.slice (some b) _ _) => (match xs[i]? with | some y => adr h p y b.block (b.off + i * sz) | none => none)
  | _ => none
 | i :: p,.box x,B,o => match cellH h ⟨B,o,none⟩ with
  | some (.pointer (some b)) => if i = 0 then adr h p x b.block b.off else none
  | _ => none
 | _ :: _,_,_,_ => none
theorem place {h : Array Obj} {S : Nat → Prop} : ∀ (p : List Nat) (x : AV) (B o : Nat) {cs : List Value} {O : Nat → Prop} {y : AV} {B' o' : Nat},
  RepC h S x cs O → At h B o cs → ¬ O B → getAt x p = some y → adr h p x B o = some (B',o') →
  ∃ (cy : List Value) (Oy Ob : Nat → Prop),RepC h S y cy Oy ∧ At h B' o' cy ∧ (∀ k,O k ↔ Oy k ∨ Ob k) ∧ (∀ k,Oy k → ¬ Ob k) ∧ ¬ Oy B' ∧
   ((B' = B ∧ o ≤ o' ∧ o' + cy.length ≤ o + cs.length) ∨ (Ob B' ∧ B' ≠ B)) ∧
   ∀ (W : Nat → Prop) (h' : Array Obj) (S' : Nat → Prop) (y' : AV) (cy' : List Value) (Oy' : Nat → Prop),Wrote W h h' B' o' cy' → (∀ k,Ob k → W k) → W B → cy'.length = cy.length → RepC h' S' y' cy' Oy' →
    (∀ k,S k → k < h.size → S' k ∧ h'[k]? = h[k]?) → (∀ k,Oy' k → ¬ Ob k) → ¬ Oy' B → ¬ Oy' B' →
    ∃ cs',RepC h' S' (setAt x p y') cs' (fun k => Oy' k ∨ Ob k) ∧ cs'.length = cs.length ∧ At h' B o cs' ∧ (B' ≠ B → cs' = cs)
 | [],x,B,o,cs,O,y,B',o',r,hat,hB,e,ha => by
  simp only [getAt,Option.some.injEq] at e
  subst e
  simp only [adr,Option.some.injEq,Prod.mk.injEq] at ha
  obtain ⟨rfl,rfl⟩:=ha
  refine ⟨cs,O,fun _ => False,r,hat,by simp,by simp,hB,.inl ⟨rfl,by omega,by omega⟩,?_⟩
  intro W h' S' y' cy' Oy' w _ _ hl r' _ _ _ _
  refine ⟨cy',?_,hl,w.at_,fun hne => absurd rfl hne⟩
  have hs : setAt x [] y' = y':=by cases x <;> rfl
  rw [hs]; simp only [or_false]; exact r'
 | i :: p,.agg fs,B,o,cs,O,y,B',o',r,hat,hB,e,ha => by
  simp only [RepC] at r
  simp only [getAt] at e
  simp only [adr] at ha
  cases hf : fs[i]? with
  | none => simp [hf] at e
  | some z =>
   simp only [hf] at e ha
   obtain ⟨m1,cz,m2,Oz,Ob1,g1,g2,g3,g4,g5,g6⟩:=repL_at fs i z r hf
   subst g1
   have hat' : At h B (o + ncellsL (fs.take i)) cz:=by
    have:=(At.app.1 (At.app.1 hat).1).2
    rwa [g2] at this
   obtain ⟨cy,Oy,Ob,q1,q2,q3,q4,q5,q6,q7⟩:=place p z B _ g3 hat' (fun hz => hB ((g4 B).2 (.inl hz))) e ha
   have hB' : ¬ Oy B':=q5
   have hsplit : ∀ k,O k ↔ Oy k ∨ (Ob k ∨ Ob1 k):=fun k => by rw [g4 k,q3 k,or_assoc]
   refine ⟨cy,Oy,fun k => Ob k ∨ Ob1 k,q1,q2,hsplit,?_,q5,?_,?_⟩
   ·intro k hk hr
    rcases hr with hr | hr
    ·exact q4 k hk hr
    ·exact g5 k ((q3 k).2 (.inl hk)) hr
   ·rcases q6 with ⟨e1,e2,e3⟩ | ⟨e1,e2⟩
    ·refine .inl ⟨e1,by omega,?_⟩
     simp only [List.length_append]; rw [g2]; omega
    ·exact .inr ⟨.inl e1,e2⟩
   ·intro W h' S' y' cy' Oy' w hW hWB hl r' hS hd hnB hnB'
    obtain ⟨cz',t1,t2,t3,t4⟩:=q7 W h' S' y' cy' Oy' w (fun k hk => hW k (.inl hk)) hWB hl r' hS (fun k hk hr => hd k hk (.inl hr)) hnB hnB'
    have hag : Agree h h' S S' Ob1:=by
     refine ⟨fun k hk hlt => hS k hk hlt,fun k hk => w.other k (hW k (.inr hk)) ?_⟩
     intro hkb
     subst hkb
     rcases q6 with ⟨e1,_⟩ | ⟨e1,_⟩
     ·exact hB (e1 ▸ (g4 k).2 (.inr hk))
     ·exact g5 k ((q3 k).2 (.inr e1)) hk
    have t:=g6 h' S' _ cz' _ hag t1 (by
     intro k hk hr
     rcases hk with hk | hk
     ·exact hd k hk (.inr hr)
     ·exact g5 k ((q3 k).2 (.inr hk)) hr)
    refine ⟨m1 ++ cz' ++ m2,?_,by simp [t2],?_,?_⟩
    ·simp only [setAt,hf,RepC]
     exact repL_cong _ t fun k => by rw [or_assoc]
    ·have a1:=(At.app.1 (At.app.1 hat).1).1
     have a2:=(At.app.1 hat).2
     refine At.app.2 ⟨At.app.2 ⟨?_,?_⟩,?_⟩
     ·refine w.keep ?_ a1
      rcases q6 with ⟨e1,e2,e3⟩ | ⟨e1,e2⟩
      ·right; exact ⟨e1.symm,by left; rw [g2]; omega⟩
      ·exact .inl ⟨Ne.symm e2,hWB⟩
     ·rw [g2]; exact t3
     ·have : (m1 ++ cz').length = (m1 ++ cz).length:=by simp [t2]
      rw [this]
      refine w.keep ?_ a2
      rcases q6 with ⟨e1,e2,e3⟩ | ⟨e1,e2⟩
      ·right; exact ⟨e1.symm,by right; simp only [List.length_append]; rw [g2]; omega⟩
      ·exact .inl ⟨Ne.symm e2,hWB⟩
    ·intro hne
     rw [t4 hne]
 | i :: p,.arr sz fs,B,o,cs,O,y,B',o',r,hat,hB,e,ha => by
  simp only [RepC] at r
  obtain ⟨r,hu⟩:=r
  simp only [getAt] at e
  simp only [adr] at ha
  cases hf : fs[i]? with
  | none => simp [hf] at e
  | some z =>
   simp only [hf] at e ha
   have hil : i < fs.length:=(List.getElem?_eq_some_iff.1 hf).1
   obtain ⟨m1,cz,m2,Oz,Ob1,g1,g2,g3,g4,g5,g6⟩:=repL_at fs i z r hf
   subst g1
   rw [uni_take hu (by omega)] at g2
   have hat' : At h B (o + i * sz) cz:=by
    have:=(At.app.1 (At.app.1 hat).1).2
    rwa [g2] at this
   obtain ⟨cy,Oy,Ob,q1,q2,q3,q4,q5,q6,q7⟩:=place p z B _ g3 hat' (fun hz => hB ((g4 B).2 (.inl hz))) e ha
   have hsplit : ∀ k,O k ↔ Oy k ∨ (Ob k ∨ Ob1 k):=fun k => by rw [g4 k,q3 k,or_assoc]
   refine ⟨cy,Oy,fun k => Ob k ∨ Ob1 k,q1,q2,hsplit,?_,q5,?_,?_⟩
   ·intro k hk hr
    rcases hr with hr | hr
    ·exact q4 k hk hr
    ·exact g5 k ((q3 k).2 (.inl hk)) hr
   ·rcases q6 with ⟨e1,e2,e3⟩ | ⟨e1,e2⟩
    ·refine .inl ⟨e1,by omega,?_⟩
     simp only [List.length_append]; rw [g2]; omega
    ·exact .inr ⟨.inl e1,e2⟩
   ·intro W h' S' y' cy' Oy' w hW hWB hl r' hS hd hnB hnB'
    obtain ⟨cz',t1,t2,t3,t4⟩:=q7 W h' S' y' cy' Oy' w (fun k hk => hW k (.inl hk)) hWB hl r' hS (fun k hk hr => hd k hk (.inl hr)) hnB hnB'
    have hag : Agree h h' S S' Ob1:=by
     refine ⟨fun k hk hlt => hS k hk hlt,fun k hk => w.other k (hW k (.inr hk)) ?_⟩
     intro hkb
     subst hkb
     rcases q6 with ⟨e1,_⟩ | ⟨e1,_⟩
     ·exact hB (e1 ▸ (g4 k).2 (.inr hk))
     ·exact g5 k ((q3 k).2 (.inr e1)) hk
    have t:=g6 h' S' _ cz' _ hag t1 (by
     intro k hk hr
     rcases hk with hk | hk
     ·exact hd k hk (.inr hr)
     ·exact g5 k ((q3 k).2 (.inr hk)) hr)
    refine ⟨m1 ++ cz' ++ m2,?_,by simp [t2],?_,?_⟩
    ·simp only [setAt,hf,RepC]
     refine ⟨repL_cong _ t fun k => by rw [or_assoc],?_⟩
     intro x hx
     rcases List.mem_or_eq_of_mem_set hx with hx | rfl
     ·exact hu x hx
     ·rw [← repC_len _ t1,t2,repC_len _ g3]
      exact hu z (List.mem_of_getElem? hf)
    ·have a1:=(At.app.1 (At.app.1 hat).1).1
     have a2:=(At.app.1 hat).2
     refine At.app.2 ⟨At.app.2 ⟨?_,?_⟩,?_⟩
     ·refine w.keep ?_ a1
      rcases q6 with ⟨e1,e2,e3⟩ | ⟨e1,e2⟩
      ·right; exact ⟨e1.symm,by left; rw [g2]; omega⟩
      ·exact .inl ⟨Ne.symm e2,hWB⟩
     ·rw [g2]; exact t3
     ·have : (m1 ++ cz').length = (m1 ++ cz).length:=by simp [t2]
      rw [this]
      refine w.keep ?_ a2
      rcases q6 with ⟨e1,e2,e3⟩ | ⟨e1,e2⟩
      ·right; exact ⟨e1.symm,by right; simp only [List.length_append]; rw [g2]; omega⟩
      ·exact .inl ⟨Ne.symm e2,hWB⟩
    ·intro hne
     rw [t4 hne]
 | i :: p,.sl true sz xs,B,o,cs,O,y,B',o',r,hat,hB,e,ha => by
  have r0:=r
  simp only [RepC] at r
  simp only [getAt] at e
  simp only [adr] at ha
  cases hf : xs[i]? with
  | none => simp [hf] at e
  | some z =>
   simp only [hf] at e ha
   rcases r with ⟨rfl,_,_⟩ | ⟨hsz,b,c,te,cap,O1,h1,h2,h3,h4,h5,h6,h7,h8,h9,h10⟩
   ·simp at hf
   ·subst h1
    have hc0 : cellH h ⟨B,o,none⟩ = some (.slice (some ⟨b,0,none⟩) xs.length cap):=by simpa using hat 0 _ rfl
    simp only [hc0] at ha
    have hil : i < xs.length:=(List.getElem?_eq_some_iff.1 hf).1
    obtain ⟨m1,cz,m2,Oz,Ob1,g1,g2,g3,g4,g5,g6⟩:=repL_at xs i z h6 hf
    rw [uni_take h7 (by omega)] at g2
    have hbB : b ≠ B:=fun hh => hB (hh ▸ (h9 b).2 (.inl rfl))
    have hrow : At h b 0 (c.toList.take (xs.length * sz)):=by
     intro j u hu
     have:=row_cells h2 hu
     have hadd : (⟨b,0,none⟩ : Addr).add j = ⟨b,0 + j,none⟩:=by unfold Addr.add; split <;> simp_all
     rwa [hadd] at this
    have hrow0:=hrow
    rw [g1] at hrow
    have hat' : At h b (0 + i * sz) cz:=by
     have:=(At.app.1 (At.app.1 hrow).1).2
     rwa [g2] at this
    obtain ⟨cy,Oy,Ob,q1,q2,q3,q4,q5,q6,q7⟩:=place p z b _ g3 hat' (fun hz => h8 ((g4 b).2 (.inl hz))) e ha
    have hOyB : ∀ k,Oy k → O1 k:=fun k hk => (g4 k).2 (.inl ((q3 k).2 (.inl hk)))
    have hne' : B' ≠ B:=by
     rcases q6 with ⟨e1,_⟩ | ⟨e1,e2⟩
     ·rw [e1]; exact hbB
     ·intro hh
      subst hh
      exact hB ((h9 _).2 (.inr ((g4 _).2 (.inl ((q3 _).2 (.inr e1))))))
    refine ⟨cy,Oy,fun k => k = b ∨ Ob k ∨ Ob1 k,q1,q2,?_,?_,q5,.inr ⟨?_,hne'⟩,?_⟩
    ·intro k
     rw [h9 k,g4 k,q3 k]
     constructor
     ·rintro (h | (h | h) | h) <;> simp [h]
     ·rintro (h | h | h | h) <;> simp [h]
    ·rintro k hk (rfl | hr | hr)
     ·exact h8 (hOyB _ hk)
     ·exact q4 k hk hr
     ·exact g5 k ((q3 k).2 (.inl hk)) hr
    ·rcases q6 with ⟨e1,_⟩ | ⟨e1,e2⟩
     ·exact .inl e1
     ·exact .inr (.inl e1)
    ·intro W h' S' y' cy' Oy' w hW hWB hl r' hS hd hnB hnB'
     have hnb : ¬ Oy' b:=fun hh => hd b hh (.inl rfl)
     obtain ⟨cz',t1,t2,t3,t4⟩:=q7 W h' S' y' cy' Oy' w (fun k hk => hW k (.inr (.inl hk))) (hW b (.inl rfl)) hl r' hS (fun k hk hr => hd k hk (.inr (.inl hr))) hnb hnB'
     have hag : Agree h h' S S' Ob1:=by
      refine ⟨fun k hk hlt => hS k hk hlt,fun k hk => w.other k (hW k (.inr (.inr hk))) ?_⟩
      intro hkb
      subst hkb
      rcases q6 with ⟨e1,_⟩ | ⟨e1,_⟩
      ·exact h8 (e1 ▸ (g4 k).2 (.inr hk))
      ·exact g5 k ((q3 k).2 (.inr e1)) hk
     have t:=g6 h' S' _ cz' _ hag t1 (by
      intro k hk hr
      rcases hk with hk | hk
      ·exact hd k hk (.inr (.inr hr))
      ·exact g5 k ((q3 k).2 (.inr hk)) hr)
     -- block b behind the write
     have hb' : ∃ c',Row h' b c' te ∧ c'.size = c.size ∧ c'.toList.take (xs.length * sz) = m1 ++ cz' ++ m2 ∧ ∀ u ∈ c'.toList,u.oneCell' = true:=by
      have hlen1 : (c.toList.take (xs.length * sz)).length = xs.length * sz:=by
       have hcl : c.toList.length = cap * sz:=by simpa using h3
       rw [List.length_take,hcl,Nat.min_eq_left (Nat.mul_le_mul_right _ h4)]
      by_cases hbb : B' = b
      ·subst hbb
       obtain ⟨k1,k2,k3,k4,w1,w2,w3,w4,w5⟩:=w.row
       obtain ⟨fr,h2,hfr⟩:=h2
       rw [h2] at w1
       obtain ⟨rfl,rfl,rfl⟩ : c = k1 ∧ te = k3 ∧ fr = k4:=by injection w1 with w1; injection w1 with a b c; exact ⟨a,b,c⟩
       refine ⟨k2,⟨fr,w2,by rw [w3]; exact hfr⟩,w3,?_,?_⟩
       ·-- the cells of the row,one by one
        have hAt' : At h' B' 0 (m1 ++ cz' ++ m2):=by
         have a1:=(At.app.1 (At.app.1 hrow).1).1
         have a2:=(At.app.1 hrow).2
         refine At.app.2 ⟨At.app.2 ⟨?_,?_⟩,?_⟩
         ·refine w.keep ?_ a1
          rcases q6 with ⟨_,e2,e3⟩ | ⟨e1,e2⟩
          ·right; exact ⟨rfl,by left; rw [g2]; omega⟩
          ·exact absurd rfl e2
         ·rw [g2]; exact t3
         ·have : (m1 ++ cz').length = (m1 ++ cz).length:=by simp [t2]
          rw [this]
          refine w.keep ?_ a2
          rcases q6 with ⟨_,e2,e3⟩ | ⟨e1,e2⟩
          ·right; exact ⟨rfl,by right; simp only [List.length_append]; rw [g2]; omega⟩
          ·exact absurd rfl e2
        apply List.ext_getElem?
        intro j
        have hlen2 : (m1 ++ cz' ++ m2).length = xs.length * sz:=by
         rw [← hlen1,g1]; simp [t2]
        have hlen3 : (k2.toList.take (xs.length * sz)).length = xs.length * sz:=by
         have hcl : k2.toList.length = cap * sz:=by simpa using w3.trans h3
         rw [List.length_take,hcl,Nat.min_eq_left (Nat.mul_le_mul_right _ h4)]
        by_cases hj : j < xs.length * sz
        ·have hj2 : j < (m1 ++ cz' ++ m2).length:=by omega
         have:=hAt' j _ (List.getElem?_eq_getElem hj2)
         simp only [cellH,w2,Option.isSome_none,Bool.false_eq_true,if_false,Nat.zero_add] at this
         rw [List.getElem?_take,if_pos hj,Array.getElem?_toList,this,List.getElem?_eq_getElem hj2]
        ·rw [List.getElem?_eq_none (by omega),List.getElem?_eq_none (by omega)]
       ·intro u hu
        obtain ⟨j,hj⟩:=List.mem_iff_getElem?.1 hu
        rw [Array.getElem?_toList,w5] at hj
        split at hj
        ·exact repC_one _ r' u (List.mem_of_getElem? hj)
        ·exact h10 u (by rw [← Array.getElem?_toList] at hj; exact List.mem_of_getElem? hj)
      ·have : cz' = cz:=t4 hbb
       subst this
       exact ⟨c,h2.same (w.other b (hW b (.inl rfl)) (Ne.symm hbb)),rfl,g1,h10⟩
     obtain ⟨c',hb1,hb2,hb3,hb4⟩:=hb'
     refine ⟨[.slice (some ⟨b,0,none⟩) xs.length cap],?_,rfl,w.keep (.inl ⟨Ne.symm hne',hWB⟩) hat,fun _ => rfl⟩
     simp only [setAt,hf,RepC]
     refine .inr ⟨hsz,b,c',te,cap,fun k => Oy' k ∨ Ob k ∨ Ob1 k,by simp,hb1,hb2.trans h3,by simpa using h4,h5,?_,?_,?_,?_,hb4⟩
     ·rw [List.length_set,hb3]
      exact repL_cong _ t fun k => by rw [or_assoc]
     ·intro x hx
      rcases List.mem_or_eq_of_mem_set hx with hx | rfl
      ·exact h7 x hx
      ·rw [← repC_len _ t1,t2,repC_len _ g3]
       exact h7 z (List.mem_of_getElem? hf)
     ·rintro (hh | hh | hh)
      ·exact hnb hh
      ·exact h8 ((g4 b).2 (.inl ((q3 b).2 (.inr hh))))
      ·exact h8 ((g4 b).2 (.inr hh))
     ·intro k
      constructor
      ·rintro (h | h | h | h) <;> simp [h]
      ·rintro (h | h | h | h) <;> simp [h]
 | i :: p,.box x,B,o,cs,O,y,B',o',r,hat,hB,e,ha => by
  simp only [RepC] at r
  simp only [getAt] at e
  simp only [adr] at ha
  obtain ⟨b,c,te,m,O1,h1,h2,h3,h4,h5,h6⟩:=r
  subst h1
  have hc0 : cellH h ⟨B,o,none⟩ = some (.pointer (some ⟨b,0,none⟩)):=by simpa using hat 0 _ rfl
  simp only [hc0] at ha
  by_cases hi : i = 0
  ·simp only [hi,if_true] at e ha
   have hbB : b ≠ B:=fun hh => hB (hh ▸ (h6 b).2 (.inl rfl))
   have hrow : At h b 0 m:=by
    intro j u hu
    subst h3
    have:=row_cells h2 (n:=c.toList.length) (by rw [List.take_length]; exact hu)
    have hadd : (⟨b,0,none⟩ : Addr).add j = ⟨b,0 + j,none⟩:=by unfold Addr.add; split <;> simp_all
    rwa [hadd] at this
   obtain ⟨cy,Oy,Ob,q1,q2,q3,q4,q5,q6,q7⟩:=place p x b 0 h4 hrow h5 e ha
   have hne' : B' ≠ B:=by
    rcases q6 with ⟨e1,_⟩ | ⟨e1,e2⟩
    ·rw [e1]; exact hbB
    ·intro hh
     subst hh
     exact hB ((h6 _).2 (.inr ((q3 _).2 (.inr e1))))
   refine ⟨cy,Oy,fun k => k = b ∨ Ob k,q1,q2,?_,?_,q5,.inr ⟨?_,hne'⟩,?_⟩
   ·intro k
    rw [h6 k,q3 k]
    constructor
    ·rintro (h | h | h) <;> simp [h]
    ·rintro (h | h | h) <;> simp [h]
   ·rintro k hk (rfl | hr)
    ·exact h5 ((q3 k).2 (.inl hk))
    ·exact q4 k hk hr
   ·rcases q6 with ⟨e1,_⟩ | ⟨e1,e2⟩
    ·exact .inl e1
    ·exact .inr e1
   ·intro W h' S' y' cy' Oy' w hW hWB hl r' hS hd hnB hnB'
    have hnb : ¬ Oy' b:=fun hh => hd b hh (.inl rfl)
    obtain ⟨m',t1,t2,t3,t4⟩:=q7 W h' S' y' cy' Oy' w (fun k hk => hW k (.inr hk)) (hW b (.inl rfl)) hl r' hS (fun k hk hr => hd k hk (.inr hr)) hnb hnB'
    have hb' : ∃ c',Row h' b c' te ∧ c'.toList = m':=by
     by_cases hbb : B' = b
     ·subst hbb
      obtain ⟨k1,k2,k3,k4,w1,w2,w3,w4,w5⟩:=w.row
      obtain ⟨fr,h2,hfr⟩:=h2
      rw [h2] at w1
      obtain ⟨rfl,rfl,rfl⟩ : c = k1 ∧ te = k3 ∧ fr = k4:=by injection w1 with w1; injection w1 with a b c; exact ⟨a,b,c⟩
      refine ⟨k2,⟨fr,w2,by rw [w3]; exact hfr⟩,?_⟩
      apply List.ext_getElem?
      intro j
      have hl3 : k2.toList.length = m'.length:=by rw [Array.length_toList,w3,t2,← h3,Array.length_toList]
      by_cases hj : j < m'.length
      ·have:=t3 j _ (List.getElem?_eq_getElem hj)
       simp only [cellH,w2,Option.isSome_none,Bool.false_eq_true,if_false,Nat.zero_add] at this
       rw [Array.getElem?_toList,this,List.getElem?_eq_getElem hj]
      ·rw [List.getElem?_eq_none (by omega),List.getElem?_eq_none (by omega)]
     ·exact ⟨c,h2.same (w.other b (hW b (.inl rfl)) (Ne.symm hbb)),by rw [t4 hbb]; exact h3⟩
    obtain ⟨c',hb1,hb2⟩:=hb'
    refine ⟨[.pointer (some ⟨b,0,none⟩)],?_,rfl,w.keep (.inl ⟨Ne.symm hne',hWB⟩) hat,fun _ => rfl⟩
    simp only [setAt,hi,if_true,RepC]
    refine ⟨b,c',te,m',fun k => Oy' k ∨ Ob k,rfl,hb1,hb2,t1,?_,?_⟩
    ·rintro (hh | hh)
     ·exact hnb hh
     ·exact h5 ((q3 b).2 (.inr hh))
    ·intro k
     constructor
     ·rintro (h | h | h) <;> simp [h]
     ·rintro (h | h | h) <;> simp [h]
  ·simp [hi] at e
 | i :: p,.undef,B,o,cs,O,y,B',o',r,hat,hB,e,ha => by simp [getAt] at e
 | i :: p,.oth v,B,o,cs,O,y,B',o',r,hat,hB,e,ha => by simp [getAt] at e
 | i :: p,.int k n,B,o,cs,O,y,B',o',r,hat,hB,e,ha => by simp [getAt] at e
 | i :: p,.bool b,B,o,cs,O,y,B',o',r,hat,hB,e,ha => by simp [getAt] at e
 | i :: p,.str s,B,o,cs,O,y,B',o',r,hat,hB,e,ha => by simp [getAt] at e
 | i :: p,.sl false sz xs,B,o,cs,O,y,B',o',r,hat,hB,e,ha => by simp [adr] at ha
 | i :: p,.dptr x,B,o,cs,O,y,B',o',r,hat,hB,e,ha => by simp [getAt] at e
 | i :: p,.tup _,B,o,cs,O,y,B',o',r,hat,hB,e,ha => by simp [getAt] at e
 | i :: p,.vref ..,B,o,cs,O,y,B',o',r,hat,hB,e,ha => by simp [getAt] at e
 | i :: p,.vagg ..,B,o,cs,O,y,B',o',r,hat,hB,e,ha => by simp [getAt] at e
 | i :: p,.vsub ..,B,o,cs,O,y,B',o',r,hat,hB,e,ha => by simp [getAt] at e
 | i :: p,.ptr ..,B,o,cs,O,y,B',o',r,hat,hB,e,ha => by simp [getAt] at e
end Go.Proofs.YtpffgegfjpdncaaGreatDoor.Am
namespace Go.Proofs.YtpffgegfjpdncaaGreatDoor.Am
open Go.RowKit AV
set_option linter.unusedVariables false
def adrV (h : Array Obj) : List Nat → AV → Value → Option (Nat × Nat)
 | i :: p,.sl true sz xs,.slice (some b) _ _ => (match xs[i]? with | some y => adr h p y b.block (b.off + i * sz) | none => none)
 | i :: p,.box x,.pointer (some b) => if i = 0 then adr h p x b.block b.off else none
 | _,_,_ => none
theorem placeV {h : Array Obj} {S : Nat → Prop} (p : List Nat) (x : AV) {v : Value} {O : Nat → Prop} {y : AV} {B' o' : Nat}
  (r : RepC h S x [v] O) (e : getAt x p = some y) (ha : adrV h p x v = some (B',o')) :
  ∃ (cy : List Value) (Oy Ob : Nat → Prop),RepC h S y cy Oy ∧ At h B' o' cy ∧ (∀ k,O k ↔ Oy k ∨ Ob k) ∧ (∀ k,Oy k → ¬ Ob k) ∧ ¬ Oy B' ∧ Ob B' ∧
   ∀ (W : Nat → Prop) (h' : Array Obj) (S' : Nat → Prop) (y' : AV) (cy' : List Value) (Oy' : Nat → Prop),Wrote W h h' B' o' cy' → (∀ k,Ob k → W k) → cy'.length = cy.length → RepC h' S' y' cy' Oy' →
    (∀ k,S k → k < h.size → S' k ∧ h'[k]? = h[k]?) → (∀ k,Oy' k → ¬ Ob k) →
    RepC h' S' (setAt x p y') [v] (fun k => Oy' k ∨ Ob k):=by
 cases p with
 | nil => simp [adrV] at ha
 | cons i p =>
 cases x with
 | sl own sz xs =>
  cases own with
  | false => simp [adrV] at ha
  | true =>
  simp only [RepC] at r
  simp only [getAt] at e
  cases hf : xs[i]? with
  | none => simp [hf] at e
  | some z =>
   simp only [hf] at e
   rcases r with ⟨rfl,_,_⟩ | ⟨hsz,b,c,te,cap,O1,h1,h2,h3,h4,h5,h6,h7,h8,h9,h10⟩
   ·simp at hf
   ·obtain rfl : v = .slice (some ⟨b,0,none⟩) xs.length cap:=by simpa using h1
    simp only [adrV,hf] at ha
    have hil : i < xs.length:=(List.getElem?_eq_some_iff.1 hf).1
    obtain ⟨m1,cz,m2,Oz,Ob1,g1,g2,g3,g4,g5,g6⟩:=repL_at xs i z h6 hf
    rw [uni_take h7 (by omega)] at g2
    have hrow : At h b 0 (c.toList.take (xs.length * sz)):=by
     intro j u hu
     have:=row_cells h2 hu
     have hadd : (⟨b,0,none⟩ : Addr).add j = ⟨b,0 + j,none⟩:=by unfold Addr.add; split <;> simp_all
     rwa [hadd] at this
    rw [g1] at hrow
    have hat' : At h b (0 + i * sz) cz:=by
     have:=(At.app.1 (At.app.1 hrow).1).2
     rwa [g2] at this
    obtain ⟨cy,Oy,Ob,q1,q2,q3,q4,q5,q6,q7⟩:=place p z b _ g3 hat' (fun hz => h8 ((g4 b).2 (.inl hz))) e ha
    have hOyB : ∀ k,Oy k → O1 k:=fun k hk => (g4 k).2 (.inl ((q3 k).2 (.inl hk)))
    refine ⟨cy,Oy,fun k => k = b ∨ Ob k ∨ Ob1 k,q1,q2,?_,?_,q5,?_,?_⟩
    ·intro k
     rw [h9 k,g4 k,q3 k]
     constructor
     ·rintro (h | (h | h) | h) <;> simp [h]
     ·rintro (h | h | h | h) <;> simp [h]
    ·rintro k hk (rfl | hr | hr)
     ·exact h8 (hOyB _ hk)
     ·exact q4 k hk hr
     ·exact g5 k ((q3 k).2 (.inl hk)) hr
    ·rcases q6 with ⟨e1,_⟩ | ⟨e1,e2⟩
     ·exact .inl e1
     ·exact .inr (.inl e1)
    ·intro W h' S' y' cy' Oy' w hW hl r' hS hd
     have hnb : ¬ Oy' b:=fun hh => hd b hh (.inl rfl)
     have hnB' : ¬ Oy' B':=by
      rcases q6 with ⟨e1,_⟩ | ⟨e1,e2⟩
      ·rw [e1]; exact hnb
      ·exact fun hh => hd _ hh (.inr (.inl e1))
     obtain ⟨cz',t1,t2,t3,t4⟩:=q7 W h' S' y' cy' Oy' w (fun k hk => hW k (.inr (.inl hk))) (hW b (.inl rfl)) hl r' hS (fun k hk hr => hd k hk (.inr (.inl hr))) hnb hnB'
     have hag : Agree h h' S S' Ob1:=by
      refine ⟨fun k hk hlt => hS k hk hlt,fun k hk => w.other k (hW k (.inr (.inr hk))) ?_⟩
      intro hkb
      subst hkb
      rcases q6 with ⟨e1,_⟩ | ⟨e1,_⟩
      ·exact h8 (e1 ▸ (g4 k).2 (.inr hk))
      ·exact g5 k ((q3 k).2 (.inr e1)) hk
     have t:=g6 h' S' _ cz' _ hag t1 (by
      intro k hk hr
      rcases hk with hk | hk
      ·exact hd k hk (.inr (.inr hr))
      ·exact g5 k ((q3 k).2 (.inr hk)) hr)
     have hb' : ∃ c',Row h' b c' te ∧ c'.size = c.size ∧ c'.toList.take (xs.length * sz) = m1 ++ cz' ++ m2 ∧ ∀ u ∈ c'.toList,u.oneCell' = true:=by
      have hlen1 : (c.toList.take (xs.length * sz)).length = xs.length * sz:=by
       have hcl : c.toList.length = cap * sz:=by simpa using h3
       rw [List.length_take,hcl,Nat.min_eq_left (Nat.mul_le_mul_right _ h4)]
      by_cases hbb : B' = b
      ·subst hbb
       obtain ⟨k1,k2,k3,k4,w1,w2,w3,w4,w5⟩:=w.row
       obtain ⟨fr,h2,hfr⟩:=h2
       rw [h2] at w1
       obtain ⟨rfl,rfl,rfl⟩ : c = k1 ∧ te = k3 ∧ fr = k4:=by injection w1 with w1; injection w1 with a b c; exact ⟨a,b,c⟩
       refine ⟨k2,⟨fr,w2,by rw [w3]; exact hfr⟩,w3,?_,?_⟩
       ·have hAt' : At h' B' 0 (m1 ++ cz' ++ m2):=by
         have a1:=(At.app.1 (At.app.1 hrow).1).1
         have a2:=(At.app.1 hrow).2
         refine At.app.2 ⟨At.app.2 ⟨?_,?_⟩,?_⟩
         ·refine w.keep ?_ a1
          rcases q6 with ⟨_,e2,e3⟩ | ⟨e1,e2⟩
          ·right; exact ⟨rfl,by left; rw [g2]; omega⟩
          ·exact absurd rfl e2
         ·rw [g2]; exact t3
         ·have : (m1 ++ cz').length = (m1 ++ cz).length:=by simp [t2]
          rw [this]
          refine w.keep ?_ a2
          rcases q6 with ⟨_,e2,e3⟩ | ⟨e1,e2⟩
          ·right; exact ⟨rfl,by right; simp only [List.length_append]; rw [g2]; omega⟩
          ·exact absurd rfl e2
        apply List.ext_getElem?
        intro j
        have hlen2 : (m1 ++ cz' ++ m2).length = xs.length * sz:=by
         rw [← hlen1,g1]; simp [t2]
        have hlen3 : (k2.toList.take (xs.length * sz)).length = xs.length * sz:=by
         have hcl : k2.toList.length = cap * sz:=by simpa using w3.trans h3
         rw [List.length_take,hcl,Nat.min_eq_left (Nat.mul_le_mul_right _ h4)]
        by_cases hj : j < xs.length * sz
        ·have hj2 : j < (m1 ++ cz' ++ m2).length:=by omega
         have:=hAt' j _ (List.getElem?_eq_getElem hj2)
         simp only [cellH,w2,Option.isSome_none,Bool.false_eq_true,if_false,Nat.zero_add] at this
         rw [List.getElem?_take,if_pos hj,Array.getElem?_toList,this,List.getElem?_eq_getElem hj2]
        ·rw [List.getElem?_eq_none (by omega),List.getElem?_eq_none (by omega)]
       ·intro u hu
        obtain ⟨j,hj⟩:=List.mem_iff_getElem?.1 hu
        rw [Array.getElem?_toList,w5] at hj
        split at hj
        ·exact repC_one _ r' u (List.mem_of_getElem? hj)
        ·exact h10 u (by rw [← Array.getElem?_toList] at hj; exact List.mem_of_getElem? hj)
      ·have : cz' = cz:=t4 hbb
       subst this
       exact ⟨c,h2.same (w.other b (hW b (.inl rfl)) (Ne.symm hbb)),rfl,g1,h10⟩
     obtain ⟨c',hb1,hb2,hb3,hb4⟩:=hb'
     simp only [setAt,hf,RepC]
     refine .inr ⟨hsz,b,c',te,cap,fun k => Oy' k ∨ Ob k ∨ Ob1 k,by simp,hb1,hb2.trans h3,by simpa using h4,h5,?_,?_,?_,?_,hb4⟩
     ·rw [List.length_set,hb3]
      exact repL_cong _ t fun k => by rw [or_assoc]
     ·intro x hx
      rcases List.mem_or_eq_of_mem_set hx with hx | rfl
      ·exact h7 x hx
      ·rw [← repC_len _ t1,t2,repC_len _ g3]
       exact h7 z (List.mem_of_getElem? hf)
     ·rintro (hh | hh | hh)
      ·exact hnb hh
      ·exact h8 ((g4 b).2 (.inl ((q3 b).2 (.inr hh))))
      ·exact h8 ((g4 b).2 (.inr hh))
     ·intro k
      constructor
      ·rintro (h | h | h | h) <;> simp [h]
      ·rintro (h | h | h | h) <;> simp [h]
 | box x =>
  simp only [RepC] at r
  simp only [getAt] at e
  obtain ⟨b,c,te,m,O1,h1,h2,h3,h4,h5,h6⟩:=r
  obtain rfl : v = .pointer (some ⟨b,0,none⟩):=by simpa using h1
  simp only [adrV] at ha
  by_cases hi : i = 0
  ·simp only [hi,if_true] at e ha
   have hrow : At h b 0 m:=by
    intro j u hu
    subst h3
    have:=row_cells h2 (n:=c.toList.length) (by rw [List.take_length]; exact hu)
    have hadd : (⟨b,0,none⟩ : Addr).add j = ⟨b,0 + j,none⟩:=by unfold Addr.add; split <;> simp_all
    rwa [hadd] at this
   obtain ⟨cy,Oy,Ob,q1,q2,q3,q4,q5,q6,q7⟩:=place p x b 0 h4 hrow h5 e ha
   refine ⟨cy,Oy,fun k => k = b ∨ Ob k,q1,q2,?_,?_,q5,?_,?_⟩
   ·intro k
    rw [h6 k,q3 k]
    constructor
    ·rintro (h | h | h) <;> simp [h]
    ·rintro (h | h | h) <;> simp [h]
   ·rintro k hk (rfl | hr)
    ·exact h5 ((q3 k).2 (.inl hk))
    ·exact q4 k hk hr
   ·rcases q6 with ⟨e1,_⟩ | ⟨e1,e2⟩
    ·exact .inl e1
    ·exact .inr e1
   ·intro W h' S' y' cy' Oy' w hW hl r' hS hd
    have hnb : ¬ Oy' b:=fun hh => hd b hh (.inl rfl)
    have hnB' : ¬ Oy' B':=by
     rcases q6 with ⟨e1,_⟩ | ⟨e1,e2⟩
     ·rw [e1]; exact hnb
     ·exact fun hh => hd _ hh (.inr e1)
    obtain ⟨m',t1,t2,t3,t4⟩:=q7 W h' S' y' cy' Oy' w (fun k hk => hW k (.inr hk)) (hW b (.inl rfl)) hl r' hS (fun k hk hr => hd k hk (.inr hr)) hnb hnB'
    have hb' : ∃ c',Row h' b c' te ∧ c'.toList = m':=by
     by_cases hbb : B' = b
     ·subst hbb
      obtain ⟨k1,k2,k3,k4,w1,w2,w3,w4,w5⟩:=w.row
      obtain ⟨fr,h2,hfr⟩:=h2
      rw [h2] at w1
      obtain ⟨rfl,rfl,rfl⟩ : c = k1 ∧ te = k3 ∧ fr = k4:=by injection w1 with w1; injection w1 with a b c; exact ⟨a,b,c⟩
      refine ⟨k2,⟨fr,w2,by rw [w3]; exact hfr⟩,?_⟩
      apply List.ext_getElem?
      intro j
      have hl3 : k2.toList.length = m'.length:=by rw [Array.length_toList,w3,t2,← h3,Array.length_toList]
      by_cases hj : j < m'.length
      ·have:=t3 j _ (List.getElem?_eq_getElem hj)
       simp only [cellH,w2,Option.isSome_none,Bool.false_eq_true,if_false,Nat.zero_add] at this
       rw [Array.getElem?_toList,this,List.getElem?_eq_getElem hj]
      ·rw [List.getElem?_eq_none (by omega),List.getElem?_eq_none (by omega)]
     ·exact ⟨c,h2.same (w.other b (hW b (.inl rfl)) (Ne.symm hbb)),by rw [t4 hbb]; exact h3⟩
    obtain ⟨c',hb1,hb2⟩:=hb'
    simp only [setAt,hi,if_true,RepC]
    refine ⟨b,c',te,m',fun k => Oy' k ∨ Ob k,rfl,hb1,hb2,t1,?_,?_⟩
    ·rintro (hh | hh)
     ·exact hnb hh
     ·exact h5 ((q3 b).2 (.inr hh))
    ·intro k
     constructor
     ·rintro (h | h | h) <;> simp [h]
     ·rintro (h | h | h) <;> simp [h]
  ·simp [hi] at e
 | _ => simp [adrV] at ha
theorem adr_same {h h' : Array Obj} {S : Nat → Prop} : ∀ (p : List Nat) (x : AV) (B o : Nat) {cs : List Value} {O : Nat → Prop},
  RepC h S x cs O → (∀ k,O k → h'[k]? = h[k]?) → (∀ j,j < ncells x → cellH h' ⟨B,o + j,none⟩ = cellH h ⟨B,o + j,none⟩) → At h B o cs → adr h' p x B o = adr h p x B o
 | [],x,B,o,cs,O,r,hO,hc,hat => rfl
 | i :: p,.agg fs,B,o,cs,O,r,hO,hc,hat => by
  simp only [RepC] at r
  simp only [adr]
  cases hf : fs[i]? with
  | none => rfl
  | some z =>
   obtain ⟨m1,cz,m2,Oz,Ob1,g1,g2,g3,g4,g5,g6⟩:=repL_at fs i z r hf
   subst g1
   have hl:=repL_len fs r
   simp only [List.length_append] at hl
   have hlz:=repC_len z g3
   refine adr_same p z B _ g3 (fun k hk => hO k ((g4 k).2 (.inl hk))) (fun j hj => ?_) ?_
   ·have:=hc (ncellsL (fs.take i) + j) (by simp only [ncells]; omega)
    rwa [← Nat.add_assoc] at this
   ·have:=(At.app.1 (At.app.1 hat).1).2
    rwa [g2] at this
 | i :: p,.arr sz fs,B,o,cs,O,r,hO,hc,hat => by
  have hl:=repC_len _ r
  simp only [RepC] at r
  obtain ⟨r,hu⟩:=r
  simp only [adr]
  cases hf : fs[i]? with
  | none => rfl
  | some z =>
   have hil : i < fs.length:=(List.getElem?_eq_some_iff.1 hf).1
   obtain ⟨m1,cz,m2,Oz,Ob1,g1,g2,g3,g4,g5,g6⟩:=repL_at fs i z r hf
   subst g1
   rw [uni_take hu (by omega)] at g2
   simp only [List.length_append] at hl
   have hlz:=repC_len z g3
   refine adr_same p z B _ g3 (fun k hk => hO k ((g4 k).2 (.inl hk))) (fun j hj => ?_) ?_
   ·have:=hc (i * sz + j) (by omega)
    rwa [← Nat.add_assoc] at this
   ·have:=(At.app.1 (At.app.1 hat).1).2
    rwa [g2] at this
 | i :: p,.sl true sz xs,B,o,cs,O,r,hO,hc,hat => by
  have h0:=hc 0 (by simp [ncells])
  simp only [Nat.add_zero] at h0
  simp only [adr,h0]
  simp only [RepC] at r
  rcases r with ⟨rfl,rfl,_⟩ | ⟨hsz,b,c,te,cap,O1,h1,h2,h3,h4,h5,h6,h7,h8,h9,h10⟩
  ·have:=hat 0 _ rfl
   simp only [Nat.add_zero] at this
   simp [this]
  ·subst h1
   have:=hat 0 _ rfl
   simp only [Nat.add_zero] at this
   simp only [this]
   cases hf : xs[i]? with
   | none => rfl
   | some z =>
    have hil : i < xs.length:=(List.getElem?_eq_some_iff.1 hf).1
    obtain ⟨m1,cz,m2,Oz,Ob1,g1,g2,g3,g4,g5,g6⟩:=repL_at xs i z h6 hf
    rw [uni_take h7 (by omega)] at g2
    have hb':=hO b ((h9 b).2 (.inl rfl))
    refine adr_same p z b _ g3 (fun k hk => hO k ((h9 k).2 (.inr ((g4 k).2 (.inl hk))))) (fun j _ => cellH_same hb') ?_
    have hrow : At h b 0 (c.toList.take (xs.length * sz)):=by
     intro j u hu
     have:=row_cells h2 hu
     have hadd : (⟨b,0,none⟩ : Addr).add j = ⟨b,0 + j,none⟩:=by unfold Addr.add; split <;> simp_all
     rwa [hadd] at this
    rw [g1] at hrow
    have:=(At.app.1 (At.app.1 hrow).1).2
    rwa [g2] at this
 | i :: p,.box x,B,o,cs,O,r,hO,hc,hat => by
  have h0:=hc 0 (by simp [ncells])
  simp only [Nat.add_zero] at h0
  simp only [adr,h0]
  simp only [RepC] at r
  obtain ⟨b,c,te,m,O1,h1,h2,h3,h4,h5,h6⟩:=r
  subst h1
  have:=hat 0 _ rfl
  simp only [Nat.add_zero] at this
  simp only [this]
  split
  ·have hb':=hO b ((h6 b).2 (.inl rfl))
   refine adr_same p x b _ h4 (fun k hk => hO k ((h6 k).2 (.inr hk))) (fun j _ => cellH_same hb') ?_
   intro j u hu
   subst h3
   have:=row_cells h2 (n:=c.toList.length) (by rw [List.take_length]; exact hu)
   have hadd : (⟨b,0,none⟩ : Addr).add j = ⟨b,0 + j,none⟩:=by unfold Addr.add; split <;> simp_all
   rwa [hadd] at this
  ·rfl
 | i :: p,.undef,B,o,cs,O,r,hO,hc,hat => rfl
 | i :: p,.mp _,B,o,cs,O,r,hO,hc,hat => rfl
 | i :: p,.oth v,B,o,cs,O,r,hO,hc,hat => rfl
 | i :: p,.int k n,B,o,cs,O,r,hO,hc,hat => rfl
 | i :: p,.bool b,B,o,cs,O,r,hO,hc,hat => rfl
 | i :: p,.str s,B,o,cs,O,r,hO,hc,hat => rfl
 | i :: p,.sl false sz xs,B,o,cs,O,r,hO,hc,hat => rfl
 | i :: p,.dptr x,B,o,cs,O,r,hO,hc,hat => rfl
 | i :: p,.tup _,B,o,cs,O,r,hO,hc,hat => rfl
 | i :: p,.vref ..,B,o,cs,O,r,hO,hc,hat => rfl
 | i :: p,.vagg ..,B,o,cs,O,r,hO,hc,hat => rfl
 | i :: p,.vsub ..,B,o,cs,O,r,hO,hc,hat => rfl
 | i :: p,.ptr ..,B,o,cs,O,r,hO,hc,hat => rfl
theorem adrV_same {h h' : Array Obj} {S : Nat → Prop} (p : List Nat) (x : AV) {v : Value} {O : Nat → Prop} (r : RepC h S x [v] O) (hO : ∀ k,O k → h'[k]? = h[k]?) : adrV h' p x v = adrV h p x v:=by
 cases p with
 | nil => simp [adrV]
 | cons i p =>
 cases x with
 | sl own sz xs =>
  cases own with
  | false => simp [adrV]
  | true =>
  simp only [RepC] at r
  rcases r with ⟨rfl,hv,_⟩ | ⟨hsz,b,c,te,cap,O1,h1,h2,h3,h4,h5,h6,h7,h8,h9,h10⟩
  ·obtain rfl : v = .slice none 0 0:=by simpa using hv
   simp [adrV]
  ·obtain rfl : v = .slice (some ⟨b,0,none⟩) xs.length cap:=by simpa using h1
   simp only [adrV]
   cases hf : xs[i]? with
   | none => rfl
   | some z =>
    have hil : i < xs.length:=(List.getElem?_eq_some_iff.1 hf).1
    obtain ⟨m1,cz,m2,Oz,Ob1,g1,g2,g3,g4,g5,g6⟩:=repL_at xs i z h6 hf
    rw [uni_take h7 (by omega)] at g2
    have hb':=hO b ((h9 b).2 (.inl rfl))
    refine adr_same p z b _ g3 (fun k hk => hO k ((h9 k).2 (.inr ((g4 k).2 (.inl hk))))) (fun j _ => cellH_same hb') ?_
    have hrow : At h b 0 (c.toList.take (xs.length * sz)):=by
     intro j u hu
     have:=row_cells h2 hu
     have hadd : (⟨b,0,none⟩ : Addr).add j = ⟨b,0 + j,none⟩:=by unfold Addr.add; split <;> simp_all
     rwa [hadd] at this
    rw [g1] at hrow
    have:=(At.app.1 (At.app.1 hrow).1).2
    rwa [g2] at this
 | box x =>
  simp only [RepC] at r
  obtain ⟨b,c,te,m,O1,h1,h2,h3,h4,h5,h6⟩:=r
  obtain rfl : v = .pointer (some ⟨b,0,none⟩):=by simpa using h1
  simp only [adrV]
  split
  ·have hb':=hO b ((h6 b).2 (.inl rfl))
   refine adr_same p x b _ h4 (fun k hk => hO k ((h6 k).2 (.inr hk))) (fun j _ => cellH_same hb') ?_
   intro j u hu
   subst h3
   have:=row_cells h2 (n:=c.toList.length) (by rw [List.take_length]; exact hu)
   have hadd : (⟨b,0,none⟩ : Addr).add j = ⟨b,0 + j,none⟩:=by unfold Addr.add; split <;> simp_all
   rwa [hadd] at this
  ·rfl
 | _ => simp [adrV]
theorem getAt_app : ∀ (p q : List Nat) (x : AV),getAt x (p ++ q) = (match getAt x p with | some y => getAt y q | none => none)
 | [],q,x => by cases x <;> simp [getAt]
 | i :: p,q,.agg fs => by
  simp only [List.cons_append,getAt]
  cases fs[i]? with
  | none => rfl
  | some z => exact getAt_app p q z
 | i :: p,q,.arr sz fs => by
  simp only [List.cons_append,getAt]
  cases fs[i]? with
  | none => rfl
  | some z => exact getAt_app p q z
 | i :: p,q,.sl o sz fs => by
  simp only [List.cons_append,getAt]
  cases fs[i]? with
  | none => rfl
  | some z => exact getAt_app p q z
 | i :: p,q,.box x => by
  simp only [List.cons_append,getAt]
  split
  ·exact getAt_app p q x
  ·rfl
 | i :: p,q,.undef => by simp [getAt]
 | i :: p,q,.mp _ => by simp [getAt]
 | i :: p,q,.oth v => by simp [getAt]
 | i :: p,q,.int k n => by simp [getAt]
 | i :: p,q,.bool b => by simp [getAt]
 | i :: p,q,.str s => by simp [getAt]
 | i :: p,q,.dptr x => by simp [getAt]
 | i :: p,q,.tup _ => by simp [getAt]
 | i :: p,q,.vref .. => by simp [getAt]
 | i :: p,q,.vagg .. => by simp [getAt]
 | i :: p,q,.vsub .. => by simp [getAt]
 | i :: p,q,.ptr .. => by simp [getAt]
theorem adr_app {h : Array Obj} : ∀ (p q : List Nat) (x : AV) (B o : Nat) {y : AV} {B' o' : Nat},getAt x p = some y → adr h p x B o = some (B',o') → adr h (p ++ q) x B o = adr h q y B' o'
 | [],q,x,B,o,y,B',o',e,a => by
  simp only [getAt,Option.some.injEq] at e
  simp only [adr,Option.some.injEq,Prod.mk.injEq] at a
  obtain ⟨rfl,rfl⟩:=a
  subst e; rfl
 | i :: p,q,.agg fs,B,o,y,B',o',e,a => by
  simp only [List.cons_append,getAt,adr] at *
  cases hf : fs[i]? with
  | none => simp [hf] at e
  | some z => simp only [hf] at *; exact adr_app p q z _ _ e a
 | i :: p,q,.arr sz fs,B,o,y,B',o',e,a => by
  simp only [List.cons_append,getAt,adr] at *
  cases hf : fs[i]? with
  | none => simp [hf] at e
  | some z => simp only [hf] at *; exact adr_app p q z _ _ e a
 | i :: p,q,.sl true sz fs,B,o,y,B',o',e,a => by
  simp only [List.cons_append,getAt,adr] at *
  cases hf : fs[i]? with
  | none => simp [hf] at e
  | some z =>
   simp only [hf] at *
   cases hc : cellH h ⟨B,o,none⟩ with
   | none => simp [hc] at a
   | some u =>
    cases u with
    | slice b l c =>
     cases b with
     | none => simp [hc] at a
     | some b => simp only [hc] at *; exact adr_app p q z _ _ e a
    | _ => simp [hc] at a
 | i :: p,q,.box x,B,o,y,B',o',e,a => by
  simp only [List.cons_append,getAt,adr] at *
  cases hc : cellH h ⟨B,o,none⟩ with
  | none => simp [hc] at a
  | some u =>
   cases u with
   | pointer b =>
    cases b with
    | none => simp [hc] at a
    | some b =>
     simp only [hc] at *
     by_cases hi : i = 0
     ·simp only [hi,if_true] at *; exact adr_app p q x _ _ e a
     ·simp [hi] at e
   | _ => simp [hc] at a
 | i :: p,q,.undef,B,o,y,B',o',e,a => by simp [getAt] at e
 | i :: p,q,.oth v,B,o,y,B',o',e,a => by simp [getAt] at e
 | i :: p,q,.int k n,B,o,y,B',o',e,a => by simp [getAt] at e
 | i :: p,q,.bool b,B,o,y,B',o',e,a => by simp [getAt] at e
 | i :: p,q,.str s,B,o,y,B',o',e,a => by simp [getAt] at e
 | i :: p,q,.sl false sz xs,B,o,y,B',o',e,a => by simp [adr] at a
 | i :: p,q,.dptr x,B,o,y,B',o',e,a => by simp [getAt] at e
 | i :: p,q,.tup _,B,o,y,B',o',e,a => by simp [getAt] at e
 | i :: p,q,.vref ..,B,o,y,B',o',e,a => by simp [getAt] at e
 | i :: p,q,.vagg ..,B,o,y,B',o',e,a => by simp [getAt] at e
 | i :: p,q,.vsub ..,B,o,y,B',o',e,a => by simp [getAt] at e
 | i :: p,q,.ptr ..,B,o,y,B',o',e,a => by simp [getAt] at e
theorem adrV_app {h : Array Obj} (p q : List Nat) (x : AV) {v : Value} {y : AV} {B' o' : Nat} (e : getAt x p = some y) (a : adrV h p x v = some (B',o')) : adrV h (p ++ q) x v = adr h q y B' o':=by
 cases p with
 | nil => simp [adrV] at a
 | cons i p =>
 cases x with
 | sl own sz xs =>
  cases own with
  | false => simp [adrV] at a
  | true =>
  simp only [getAt] at e
  cases v with
  | slice b l c =>
   cases b with
   | none => simp [adrV] at a
   | some b =>
    simp only [List.cons_append,adrV] at *
    cases hf : xs[i]? with
    | none => simp [hf] at e
    | some z => simp only [hf] at *; exact adr_app p q z _ _ e a
  | _ => simp [adrV] at a
 | box x =>
  simp only [getAt] at e
  cases v with
  | pointer b =>
   cases b with
   | none => simp [adrV] at a
   | some b =>
    simp only [List.cons_append,adrV] at *
    by_cases hi : i = 0
    ·simp only [hi,if_true] at *; exact adr_app p q x _ _ e a
    ·simp [hi] at e
  | _ => simp [adrV] at a
 | _ => simp [adrV] at a
end Go.Proofs.YtpffgegfjpdncaaGreatDoor.Am
namespace Go.Proofs.YtpffgegfjpdncaaGreatDoor.Am
open Go.RowKit AV
set_option linter.unusedVariables false
mutual
def RepW (h : Array Obj) (S : Nat → Prop) : AV → Value → (Nat → Prop) → Prop
 | .undef,_,O => Emp O
 | .agg fs,v,O => ∃ cs : Array Value,v = .agg cs ∧ RepC h S (.agg fs) cs.toList O
 | .arr sz xs,v,O => ∃ cs : Array Value,v = .agg cs ∧ RepC h S (.arr sz xs) cs.toList O
 | .tup vs,v,O => ∃ l : Array Value,v = .tuple l ∧ RepWs h S vs l.toList O
 | .vref ..,_,O => Emp O
 | .vagg ..,_,O => Emp O
 | .vsub ..,_,O => Emp O
 | .ptr ..,_,O => Emp O
 | x,v,O => RepC h S x [v] O
def RepWs (h : Array Obj) (S : Nat → Prop) : List AV → List Value → (Nat → Prop) → Prop
 | [],vs,O => vs = [] ∧ Emp O
 | x :: xs,vs,O => ∃ v vs' O1 O2,vs = v :: vs' ∧ (∀ k,O k ↔ O1 k ∨ O2 k) ∧ (∀ k,O1 k → ¬ O2 k) ∧ RepW h S x v O1 ∧ RepWs h S xs vs' O2
end
mutual
theorem repW_cong {h : Array Obj} {S : Nat → Prop} : ∀ (x : AV) {v : Value} {O O' : Nat → Prop},RepW h S x v O → (∀ k,O' k ↔ O k) → RepW h S x v O'
 | .undef,v,O,O',r,e => by simp only [RepW] at r ⊢; exact r.iff e
 | .agg fs,v,O,O',r,e => by simp only [RepW] at r ⊢; obtain ⟨cs,h1,h2⟩:=r; exact ⟨cs,h1,repC_cong _ h2 e⟩
 | .arr sz fs,v,O,O',r,e => by simp only [RepW] at r ⊢; obtain ⟨cs,h1,h2⟩:=r; exact ⟨cs,h1,repC_cong _ h2 e⟩
 | .tup vs,v,O,O',r,e => by simp only [RepW] at r ⊢; obtain ⟨cs,h1,h2⟩:=r; exact ⟨cs,h1,repWs_cong _ h2 e⟩
 | .vref ..,v,O,O',r,e => by simp only [RepW] at r ⊢; exact r.iff e
 | .vagg ..,v,O,O',r,e => by simp only [RepW] at r ⊢; exact r.iff e
 | .vsub ..,v,O,O',r,e => by simp only [RepW] at r ⊢; exact r.iff e
 | .ptr ..,v,O,O',r,e => by simp only [RepW] at r ⊢; exact r.iff e
 | .oth _,v,O,O',r,e => by simp only [RepW] at r ⊢; exact repC_cong _ r e
 | .int ..,v,O,O',r,e => by simp only [RepW] at r ⊢; exact repC_cong _ r e
 | .bool _,v,O,O',r,e => by simp only [RepW] at r ⊢; exact repC_cong _ r e
 | .str _,v,O,O',r,e => by simp only [RepW] at r ⊢; exact repC_cong _ r e
 | .sl ..,v,O,O',r,e => by simp only [RepW] at r ⊢; exact repC_cong _ r e
 | .box _,v,O,O',r,e => by simp only [RepW] at r ⊢; exact repC_cong _ r e
 | .mp _,v,O,O',r,e => by simp only [RepW] at r ⊢; exact repC_cong _ r e
 | .dptr _,v,O,O',r,e => by simp only [RepW] at r ⊢; exact repC_cong _ r e
theorem repWs_cong {h : Array Obj} {S : Nat → Prop} : ∀ (xs : List AV) {vs : List Value} {O O' : Nat → Prop},RepWs h S xs vs O → (∀ k,O' k ↔ O k) → RepWs h S xs vs O'
 | [],vs,O,O',r,e => by simp only [RepWs] at r ⊢; exact ⟨r.1,r.2.iff e⟩
 | x :: xs,vs,O,O',r,e => by
  simp only [RepWs] at r ⊢
  obtain ⟨v,vs',O1,O2,h1,h2,h3,h4,h5⟩:=r
  exact ⟨v,vs',O1,O2,h1,fun k => (e k).trans (h2 k),h3,h4,h5⟩
end
mutual
theorem repW_mono {h h' : Array Obj} {S S' : Nat → Prop} : ∀ (x : AV) {v : Value} {O : Nat → Prop},RepW h S x v O → Agree h h' S S' O → RepW h' S' x v O
 | .undef,v,O,r,e => by simp only [RepW] at r ⊢; exact r
 | .agg fs,v,O,r,e => by simp only [RepW] at r ⊢; obtain ⟨cs,h1,h2⟩:=r; exact ⟨cs,h1,repC_mono _ h2 e⟩
 | .arr sz fs,v,O,r,e => by simp only [RepW] at r ⊢; obtain ⟨cs,h1,h2⟩:=r; exact ⟨cs,h1,repC_mono _ h2 e⟩
 | .tup vs,v,O,r,e => by simp only [RepW] at r ⊢; obtain ⟨cs,h1,h2⟩:=r; exact ⟨cs,h1,repWs_mono _ h2 e⟩
 | .vref ..,v,O,r,e => by simp only [RepW] at r ⊢; exact r
 | .vagg ..,v,O,r,e => by simp only [RepW] at r ⊢; exact r
 | .vsub ..,v,O,r,e => by simp only [RepW] at r ⊢; exact r
 | .ptr ..,v,O,r,e => by simp only [RepW] at r ⊢; exact r
 | .oth _,v,O,r,e => by simp only [RepW] at r ⊢; exact repC_mono _ r e
 | .int ..,v,O,r,e => by simp only [RepW] at r ⊢; exact repC_mono _ r e
 | .bool _,v,O,r,e => by simp only [RepW] at r ⊢; exact repC_mono _ r e
 | .str _,v,O,r,e => by simp only [RepW] at r ⊢; exact repC_mono _ r e
 | .sl ..,v,O,r,e => by simp only [RepW] at r ⊢; exact repC_mono _ r e
 | .box _,v,O,r,e => by simp only [RepW] at r ⊢; exact repC_mono _ r e
 | .mp _,v,O,r,e => by simp only [RepW] at r ⊢; exact repC_mono _ r e
 | .dptr _,v,O,r,e => by simp only [RepW] at r ⊢; exact repC_mono _ r e
theorem repWs_mono {h h' : Array Obj} {S S' : Nat → Prop} : ∀ (xs : List AV) {vs : List Value} {O : Nat → Prop},RepWs h S xs vs O → Agree h h' S S' O → RepWs h' S' xs vs O
 | [],vs,O,r,e => by simp only [RepWs] at r ⊢; exact r
 | x :: xs,vs,O,r,e => by
  simp only [RepWs] at r ⊢
  obtain ⟨v,vs',O1,O2,h1,h2,h3,h4,h5⟩:=r
  exact ⟨v,vs',O1,O2,h1,h2,h3,repW_mono x h4 (e.sub fun k hk => (h2 k).2 (.inl hk)),repWs_mono xs h5 (e.sub fun k hk => (h2 k).2 (.inr hk))⟩
end
mutual
theorem repW_lt {h : Array Obj} {S : Nat → Prop} : ∀ (x : AV) {v : Value} {O : Nat → Prop},RepW h S x v O → ∀ k,O k → k < h.size
 | .undef,v,O,r => by simp only [RepW] at r; exact fun k hk => (r k hk).elim
 | .agg fs,v,O,r => by simp only [RepW] at r; obtain ⟨cs,h1,h2⟩:=r; exact repC_lt _ h2
 | .arr sz fs,v,O,r => by simp only [RepW] at r; obtain ⟨cs,h1,h2⟩:=r; exact repC_lt _ h2
 | .tup vs,v,O,r => by simp only [RepW] at r; obtain ⟨cs,h1,h2⟩:=r; exact repWs_lt _ h2
 | .vref ..,v,O,r => by simp only [RepW] at r; exact fun k hk => (r k hk).elim
 | .vagg ..,v,O,r => by simp only [RepW] at r; exact fun k hk => (r k hk).elim
 | .vsub ..,v,O,r => by simp only [RepW] at r; exact fun k hk => (r k hk).elim
 | .ptr ..,v,O,r => by simp only [RepW] at r; exact fun k hk => (r k hk).elim
 | .oth _,v,O,r => by simp only [RepW] at r; exact repC_lt _ r
 | .int ..,v,O,r => by simp only [RepW] at r; exact repC_lt _ r
 | .bool _,v,O,r => by simp only [RepW] at r; exact repC_lt _ r
 | .str _,v,O,r => by simp only [RepW] at r; exact repC_lt _ r
 | .sl ..,v,O,r => by simp only [RepW] at r; exact repC_lt _ r
 | .box _,v,O,r => by simp only [RepW] at r; exact repC_lt _ r
 | .mp _,v,O,r => by simp only [RepW] at r; exact repC_lt _ r
 | .dptr _,v,O,r => by simp only [RepW] at r; exact repC_lt _ r
theorem repWs_lt {h : Array Obj} {S : Nat → Prop} : ∀ (xs : List AV) {vs : List Value} {O : Nat → Prop},RepWs h S xs vs O → ∀ k,O k → k < h.size
 | [],vs,O,r => by simp only [RepWs] at r; exact fun k hk => (r.2 k hk).elim
 | x :: xs,vs,O,r => by
  simp only [RepWs] at r
  obtain ⟨v,vs',O1,O2,h1,h2,h3,h4,h5⟩:=r
  intro k hk
  rcases (h2 k).1 hk with hk | hk
  ·exact repW_lt x h4 k hk
  ·exact repWs_lt xs h5 k hk
end
mutual
theorem repW_closed {h : Array Obj} {S S' : Nat → Prop} : ∀ (x : AV) {v : Value} {O : Nat → Prop},RepW h S x v O → closed x = true → RepW h S' x v O
 | .undef,v,O,r,e => by simp only [RepW] at r ⊢; exact r
 | .agg fs,v,O,r,e => by simp only [RepW] at r ⊢; obtain ⟨cs,h1,h2⟩:=r; exact ⟨cs,h1,repC_closed _ h2 e⟩
 | .arr sz fs,v,O,r,e => by simp only [RepW] at r ⊢; obtain ⟨cs,h1,h2⟩:=r; exact ⟨cs,h1,repC_closed _ h2 e⟩
 | .tup vs,v,O,r,e => by simp only [RepW] at r ⊢; obtain ⟨cs,h1,h2⟩:=r; exact ⟨cs,h1,repWs_closed _ h2 (by simpa [closed] using e)⟩
 | .vref ..,v,O,r,e => by simp [closed] at e
 | .vagg ..,v,O,r,e => by simp [closed] at e
 | .vsub ..,v,O,r,e => by simp [closed] at e
 | .ptr ..,v,O,r,e => by simp [closed] at e
 | .oth _,v,O,r,e => by simp only [RepW] at r ⊢; exact repC_closed _ r e
 | .int ..,v,O,r,e => by simp only [RepW] at r ⊢; exact repC_closed _ r e
 | .bool _,v,O,r,e => by simp only [RepW] at r ⊢; exact repC_closed _ r e
 | .str _,v,O,r,e => by simp only [RepW] at r ⊢; exact repC_closed _ r e
 | .sl ..,v,O,r,e => by simp only [RepW] at r ⊢; exact repC_closed _ r e
 | .box _,v,O,r,e => by simp only [RepW] at r ⊢; exact repC_closed _ r e
 | .mp _,v,O,r,e => by simp only [RepW] at r ⊢; exact repC_closed _ r e
 | .dptr _,v,O,r,e => by simp only [RepW] at r ⊢; exact repC_closed _ r e
theorem repWs_closed {h : Array Obj} {S S' : Nat → Prop} : ∀ (xs : List AV) {vs : List Value} {O : Nat → Prop},RepWs h S xs vs O → closedL xs = true → RepWs h S' xs vs O
 | [],vs,O,r,e => by simp only [RepWs] at r ⊢; exact r
 | x :: xs,vs,O,r,e => by
  simp only [RepWs] at r ⊢
  simp only [closedL,Bool.and_eq_true] at e
  obtain ⟨v,vs',O1,O2,h1,h2,h3,h4,h5⟩:=r
  exact ⟨v,vs',O1,O2,h1,h2,h3,repW_closed x h4 e.1,repWs_closed xs h5 e.2⟩
end
mutual
theorem repW_erase {h : Array Obj} {S S' : Nat → Prop} : ∀ (x : AV) {v : Value} {O : Nat → Prop},RepW h S x v O → (∀ k,S k → S' k) → (∀ k,O k → S' k) → RepW h S' (erase x) v (fun _ => False)
 | .undef,v,O,r,s1,s2 => by simp only [RepW,erase] at r ⊢; exact emp_false
 | .agg fs,v,O,r,s1,s2 => by simp only [RepW,erase] at r ⊢; obtain ⟨cs,h1,h2⟩:=r; exact ⟨cs,h1,by have:=repC_erase _ h2 s1 s2; simpa only [erase] using this⟩
 | .arr sz fs,v,O,r,s1,s2 => by simp only [RepW,erase] at r ⊢; obtain ⟨cs,h1,h2⟩:=r; exact ⟨cs,h1,by have:=repC_erase _ h2 s1 s2; simpa only [erase] using this⟩
 | .tup vs,v,O,r,s1,s2 => by simp only [RepW,erase] at r ⊢; obtain ⟨cs,h1,h2⟩:=r; exact ⟨cs,h1,repWs_erase _ h2 s1 s2⟩
 | .vref ..,v,O,r,s1,s2 => by simp only [RepW,erase] at r ⊢; exact emp_false
 | .vagg ..,v,O,r,s1,s2 => by simp only [RepW,erase] at r ⊢; exact emp_false
 | .vsub ..,v,O,r,s1,s2 => by simp only [RepW,erase] at r ⊢; exact emp_false
 | .ptr ..,v,O,r,s1,s2 => by simp only [RepW,erase] at r ⊢; exact emp_false
 | .oth _,v,O,r,s1,s2 => by simp only [RepW] at r; have:=repC_erase _ r s1 s2; simpa only [RepW,erase] using this
 | .int ..,v,O,r,s1,s2 => by simp only [RepW] at r; have:=repC_erase _ r s1 s2; simpa only [RepW,erase] using this
 | .bool _,v,O,r,s1,s2 => by simp only [RepW] at r; have:=repC_erase _ r s1 s2; simpa only [RepW,erase] using this
 | .str _,v,O,r,s1,s2 => by simp only [RepW] at r; have:=repC_erase _ r s1 s2; simpa only [RepW,erase] using this
 | .sl ..,v,O,r,s1,s2 => by simp only [RepW] at r; have:=repC_erase _ r s1 s2; simpa only [RepW,erase] using this
 | .box _,v,O,r,s1,s2 => by simp only [RepW] at r; have:=repC_erase _ r s1 s2; simpa only [RepW,erase] using this
 | .mp _,v,O,r,s1,s2 => by simp only [RepW,erase] at r ⊢; exact emp_false
 | .dptr _,v,O,r,s1,s2 => by simp only [RepW] at r; have:=repC_erase _ r s1 s2; simpa only [RepW,erase] using this
theorem repWs_erase {h : Array Obj} {S S' : Nat → Prop} : ∀ (xs : List AV) {vs : List Value} {O : Nat → Prop},RepWs h S xs vs O → (∀ k,S k → S' k) → (∀ k,O k → S' k) → RepWs h S' (eraseL xs) vs (fun _ => False)
 | [],vs,O,r,s1,s2 => by simp only [RepWs,eraseL] at r ⊢; exact ⟨r.1,emp_false⟩
 | x :: xs,vs,O,r,s1,s2 => by
  simp only [RepWs,eraseL] at r ⊢
  obtain ⟨v,vs',O1,O2,h1,h2,h3,h4,h5⟩:=r
  exact ⟨v,vs',_,_,h1,by simp,by simp,repW_erase x h4 s1 (fun k hk => s2 k ((h2 k).2 (.inl hk))),repWs_erase xs h5 s1 (fun k hk => s2 k ((h2 k).2 (.inr hk)))⟩
end
mutual
theorem repW_plain {h : Array Obj} {S : Nat → Prop} : ∀ (x : AV) {v : Value} {O : Nat → Prop},RepW h S x v O → plain x = true → Emp O
 | .undef,v,O,r,e => by simp only [RepW] at r; exact r
 | .agg fs,v,O,r,e => by simp only [RepW] at r; obtain ⟨cs,h1,h2⟩:=r; exact repC_plain _ h2 e
 | .arr sz fs,v,O,r,e => by simp only [RepW] at r; obtain ⟨cs,h1,h2⟩:=r; exact repC_plain _ h2 e
 | .tup vs,v,O,r,e => by simp only [RepW] at r; obtain ⟨cs,h1,h2⟩:=r; exact repWs_plain _ h2 (by simpa [plain] using e)
 | .vref ..,v,O,r,e => by simp [plain] at e
 | .vagg ..,v,O,r,e => by simp [plain] at e
 | .vsub ..,v,O,r,e => by simp [plain] at e
 | .ptr ..,v,O,r,e => by simp [plain] at e
 | .oth _,v,O,r,e => by simp only [RepW] at r; exact repC_plain _ r e
 | .int ..,v,O,r,e => by simp only [RepW] at r; exact repC_plain _ r e
 | .bool _,v,O,r,e => by simp only [RepW] at r; exact repC_plain _ r e
 | .str _,v,O,r,e => by simp only [RepW] at r; exact repC_plain _ r e
 | .sl ..,v,O,r,e => by simp only [RepW] at r; exact repC_plain _ r e
 | .box _,v,O,r,e => by simp only [RepW] at r; exact repC_plain _ r e
 | .mp _,v,O,r,e => by simp only [RepW] at r; exact repC_plain _ r e
 | .dptr _,v,O,r,e => by simp only [RepW] at r; exact repC_plain _ r e
theorem repWs_plain {h : Array Obj} {S : Nat → Prop} : ∀ (xs : List AV) {vs : List Value} {O : Nat → Prop},RepWs h S xs vs O → plainL xs = true → Emp O
 | [],vs,O,r,e => by simp only [RepWs] at r; exact r.2
 | x :: xs,vs,O,r,e => by
  simp only [RepWs] at r
  simp only [plainL,Bool.and_eq_true] at e
  obtain ⟨v,vs',O1,O2,h1,h2,h3,h4,h5⟩:=r
  intro k hk
  rcases (h2 k).1 hk with hk | hk
  ·exact repW_plain x h4 e.1 k hk
  ·exact repWs_plain xs h5 e.2 k hk
end
def AV.stor : AV → Bool
 | .undef | .tup _ | .vref .. | .vagg .. | .vsub .. | .ptr .. => false
 | _ => true
def AV.isAgg : AV → Bool
 | .agg _ | .arr .. => true
 | _ => false
theorem repC_of_W {h : Array Obj} {S : Nat → Prop} {x : AV} {v : Value} {O : Nat → Prop} (r : RepW h S x v O) (hs : x.stor = true) : RepC h S x v.cells.toList O:=by
 cases x <;> simp only [AV.stor,Bool.false_eq_true] at hs <;> simp only [RepW] at r
 case agg fs => obtain ⟨cs,rfl,h2⟩:=r; exact h2
 case arr sz xs => obtain ⟨cs,rfl,h2⟩:=r; exact h2
 all_goals
  have h1:=repC_one _ r v (by simp)
  have : v.cells = #[v]:=by cases v <;> simp_all [Value.cells,Value.oneCell']
  rw [this]; exact r
theorem repW_of_C {h : Array Obj} {S : Nat → Prop} {x : AV} {cs : List Value} {O : Nat → Prop} (r : RepC h S x cs O) (ha : x.isAgg = true) : RepW h S x (.agg cs.toArray) O:=by
 cases x <;> simp only [AV.isAgg,Bool.false_eq_true] at ha <;> simp only [RepW]
 ·exact ⟨_,rfl,by simpa using r⟩
 ·exact ⟨_,rfl,by simpa using r⟩
theorem repW_of_C1 {h : Array Obj} {S : Nat → Prop} {x : AV} {v : Value} {O : Nat → Prop} (r : RepC h S x [v] O) (ha : x.isAgg = false) : RepW h S x v O:=by
 cases x with
 | undef => simp only [RepC] at r; simp only [RepW]; exact r.2
 | agg _ => simp [AV.isAgg] at ha
 | arr _ _ => simp [AV.isAgg] at ha
 | tup _ => simp only [RepC] at r
 | vref _ _ => simp only [RepC] at r
 | vagg _ _ => simp only [RepC] at r
 | vsub _ _ _ _ => simp only [RepC] at r
 | ptr _ _ => simp only [RepC] at r
 | _ => simp only [RepW]; exact r
end Go.Proofs.YtpffgegfjpdncaaGreatDoor.Am
namespace Go.Proofs.YtpffgegfjpdncaaGreatDoor.Am
open Go.RowKit AV
set_option linter.unusedVariables false
def preB : List Nat → List Nat → Bool
 | [],_ => true
 | _ :: _,[] => false
 | i :: p,j :: q => (i == j) && preB p q
def sPre (p q : List Nat) : Bool:=decide (p.length < q.length) && preB p q
def AV.hdr : AV → Bool
 | .sl true _ _ | .box _ | .mp _ => true
 | _ => false
section
variable {h h' : Array Obj} {S : Nat → Prop}
theorem repL_two : ∀ (xs : List AV) {m : List Value} {O : Nat → Prop} (i j : Nat) {a z : AV},RepL h S xs m O → i ≠ j → xs[i]? = some a → xs[j]? = some z →
  ∃ (ci cj : List Value) (Oi Oj : Nat → Prop),RepC h S a ci Oi ∧ RepC h S z cj Oj ∧ (∀ k,Oi k → O k) ∧ (∀ k,Oj k → O k) ∧ (∀ k,Oi k → ¬ Oj k) ∧
   (∀ B o,At h B o m → At h B (o + ncellsL (xs.take i)) ci ∧ At h B (o + ncellsL (xs.take j)) cj) ∧
   (ncellsL (xs.take i) + ncells a ≤ ncellsL (xs.take j) ∨ ncellsL (xs.take j) + ncells z ≤ ncellsL (xs.take i))
 | [],m,O,i,j,a,z,r,hij,e1,e2 => by simp at e1
 | x :: xs,m,O,0,0,a,z,r,hij,e1,e2 => absurd rfl hij
 | x :: xs,m,O,0,j + 1,a,z,r,hij,e1,e2 => by
  simp only [RepL] at r
  obtain ⟨c1,c2,O1,O2,rfl,h2,h3,h4,h5⟩:=r
  obtain rfl : x = a:=by simpa using e1
  obtain ⟨m1,cy,m2,Oy,Ob,g1,g2,g3,g4,g5,_⟩:=repL_at xs j z h5 (by simpa using e2)
  have hl:=repC_len _ h4
  refine ⟨c1,cy,O1,Oy,h4,g3,fun k hk => (h2 k).2 (.inl hk),fun k hk => (h2 k).2 (.inr ((g4 k).2 (.inl hk))),fun k hk hy => h3 k hk ((g4 k).2 (.inl hy)),?_,?_⟩
  ·intro B o hat
   obtain ⟨a1,a2⟩:=At.app.1 hat
   refine ⟨by simpa [ncellsL] using a1,?_⟩
   subst g1
   have:=(At.app.1 (At.app.1 a2).1).2
   simp only [List.take_succ_cons,ncellsL]
   rw [g2,hl] at this
   rwa [Nat.add_assoc] at this
  ·left; simp [ncellsL]
 | x :: xs,m,O,i + 1,0,a,z,r,hij,e1,e2 => by
  simp only [RepL] at r
  obtain ⟨c1,c2,O1,O2,rfl,h2,h3,h4,h5⟩:=r
  obtain rfl : x = z:=by simpa using e2
  obtain ⟨m1,cy,m2,Oy,Ob,g1,g2,g3,g4,g5,_⟩:=repL_at xs i a h5 (by simpa using e1)
  have hl:=repC_len _ h4
  refine ⟨cy,c1,Oy,O1,g3,h4,fun k hk => (h2 k).2 (.inr ((g4 k).2 (.inl hk))),fun k hk => (h2 k).2 (.inl hk),fun k hk hy => h3 k hy ((g4 k).2 (.inl hk)),?_,?_⟩
  ·intro B o hat
   obtain ⟨a1,a2⟩:=At.app.1 hat
   refine ⟨?_,by simpa [ncellsL] using a1⟩
   subst g1
   have:=(At.app.1 (At.app.1 a2).1).2
   simp only [List.take_succ_cons,ncellsL]
   rw [g2,hl] at this
   rwa [Nat.add_assoc] at this
  ·right; simp [ncellsL]
 | x :: xs,m,O,i + 1,j + 1,a,z,r,hij,e1,e2 => by
  simp only [RepL] at r
  obtain ⟨c1,c2,O1,O2,rfl,h2,h3,h4,h5⟩:=r
  obtain ⟨ci,cj,Oi,Oj,g1,g2,g3,g4,g5,g6,g7⟩:=repL_two xs i j h5 (by omega) (by simpa using e1) (by simpa using e2)
  have hl:=repC_len _ h4
  refine ⟨ci,cj,Oi,Oj,g1,g2,fun k hk => (h2 k).2 (.inr (g3 k hk)),fun k hk => (h2 k).2 (.inr (g4 k hk)),g5,?_,?_⟩
  ·intro B o hat
   obtain ⟨a1,a2⟩:=At.app.1 hat
   have:=g6 B _ a2
   simp only [List.take_succ_cons,ncellsL]
   rw [hl] at this
   simpa only [Nat.add_assoc] using this
  ·simp only [List.take_succ_cons,ncellsL]; omega
theorem elems_wrote {xs : List AV} {m : List Value} {O : Nat → Prop} {i j : Nat} {a z y : AV} {B o B' o' : Nat} {p : List Nat} {news : List Value}
  (r : RepL h S xs m O) (hat : At h B o m) (hB : ¬ O B) (hij : i ≠ j) (e1 : xs[i]? = some a) (e2 : xs[j]? = some z) (hg : getAt a p = some y) (ha : adr h p a B (o + ncellsL (xs.take i)) = some (B',o'))
  (w : Wrote (fun _ => True) h h' B' o' news) (hl : news.length = ncells y) :
  ∃ (cj : List Value) (Oj : Nat → Prop),RepC h S z cj Oj ∧ At h B (o + ncellsL (xs.take j)) cj ∧ ¬ Oj B ∧ (∀ k,Oj k → h'[k]? = h[k]?) ∧
   ∀ n,n < ncells z → cellH h' ⟨B,o + ncellsL (xs.take j) + n,none⟩ = cellH h ⟨B,o + ncellsL (xs.take j) + n,none⟩:=by
 obtain ⟨ci,cj,Oi,Oj,g1,g2,g3,g4,g5,g6,g7⟩:=repL_two xs i j r hij e1 e2
 obtain ⟨a1,a2⟩:=g6 B o hat
 obtain ⟨cy,Oy,Ob,q1,q2,q3,q4,q5,q6,_⟩:=place p a B _ g1 a1 (fun hk => hB (g3 B hk)) hg ha
 have hcy:=repC_len _ q1
 have hci:=repC_len _ g1
 refine ⟨cj,Oj,g2,a2,fun hk => hB (g4 B hk),?_,?_⟩
 ·intro k hk
  refine w.other k trivial ?_
  rintro rfl
  rcases q6 with ⟨rfl,_⟩ | ⟨e,_⟩
  ·exact hB (g4 _ hk)
  ·exact g5 _ ((q3 _).2 (.inr e)) hk
 ·intro n hn
  by_cases hb : B' = B
  ·subst hb
   refine w.off ?_
   rcases q6 with ⟨_,e3,e4⟩ | ⟨_,e⟩
   ·omega
   ·exact absurd rfl e
  ·exact cellH_same (w.other _ trivial (Ne.symm hb))
theorem adr_down {p : List Nat} {x : AV} {B o B' o' : Nat} {cs : List Value} {O : Nat → Prop} {y : AV} (r : RepC h S x cs O) (hat : At h B o cs) (hB : ¬ O B) (hg : getAt x p = some y) (ha : adr h p x B o = some (B',o')) (hp : p ≠ []) (hx : x.hdr = true) : O B':=by
 obtain ⟨cy,Oy,Ob,q1,q2,q3,q4,q5,q6,_⟩:=place p x B o r hat hB hg ha
 rcases q6 with ⟨rfl,_⟩ | ⟨e,_⟩
 ·exfalso
  cases p with
  | nil => exact hp rfl
  | cons i p =>
   cases x with
   | sl own sz xs =>
    cases own with
    | false => simp [AV.hdr] at hx
    | true =>
     simp only [RepC] at r
     simp only [getAt] at hg
     simp only [adr] at ha
     cases hf : xs[i]? with
     | none => simp [hf] at hg
     | some z =>
      simp only [hf] at hg ha
      rcases r with ⟨rfl,_,_⟩ | ⟨hsz,b,c,te,cap,O1,h1,h2,h3,h4,h5,h6,h7,h8,h9,h10⟩
      ·simp at hf
      ·subst h1
       have hc0 : cellH h ⟨B',o,none⟩ = some (.slice (some ⟨b,0,none⟩) xs.length cap):=by simpa using hat 0 _ rfl
       simp only [hc0] at ha
       have hil : i < xs.length:=(List.getElem?_eq_some_iff.1 hf).1
       obtain ⟨m1,cz,m2,Oz,Ob1,g1,g2,g3,g4,g5,g6⟩:=repL_at xs i z h6 hf
       rw [uni_take h7 (by omega)] at g2
       have hrow : At h b 0 (c.toList.take (xs.length * sz)):=by
        intro j u hu
        have:=row_cells h2 hu
        have hadd : (⟨b,0,none⟩ : Addr).add j = ⟨b,0 + j,none⟩:=by unfold Addr.add; split <;> simp_all
        rwa [hadd] at this
       rw [g1] at hrow
       have hat' : At h b (0 + i * sz) cz:=by
        have:=(At.app.1 (At.app.1 hrow).1).2
        rwa [g2] at this
       obtain ⟨_,Oy2,Ob2,_,_,u3,_,_,u6,_⟩:=place p z b _ g3 hat' (fun hz => h8 ((g4 b).2 (.inl hz))) hg ha
       rcases u6 with ⟨rfl,_⟩ | ⟨e,_⟩
       ·exact hB ((h9 _).2 (.inl rfl))
       ·exact hB ((h9 _).2 (.inr ((g4 _).2 (.inl ((u3 _).2 (.inr e))))))
   | box x =>
    simp only [RepC] at r
    simp only [getAt] at hg
    simp only [adr] at ha
    obtain ⟨b,c,te,m,O1,h1,h2,h3,h4,h5,h6⟩:=r
    subst h1
    have hc0 : cellH h ⟨B',o,none⟩ = some (.pointer (some ⟨b,0,none⟩)):=by simpa using hat 0 _ rfl
    simp only [hc0] at ha
    by_cases hi : i = 0
    ·simp only [hi,if_true] at hg ha
     have hat' : At h b 0 m:=by
      intro j u hu
      subst h3
      have:=row_cells h2 (n:=c.toList.length) (by rw [List.take_length]; exact hu)
      have hadd : (⟨b,0,none⟩ : Addr).add j = ⟨b,0 + j,none⟩:=by unfold Addr.add; split <;> simp_all
      rwa [hadd] at this
     obtain ⟨_,Oy2,Ob2,_,_,u3,_,_,u6,_⟩:=place p x b _ h4 hat' h5 hg ha
     rcases u6 with ⟨rfl,_⟩ | ⟨e,_⟩
     ·exact hB ((h6 _).2 (.inl rfl))
     ·exact hB ((h6 _).2 (.inr ((u3 _).2 (.inr e))))
    ·simp [hi] at hg
   | mp _ => simp [getAt] at hg
   | _ => simp [AV.hdr] at hx
 ·exact (q3 B').2 (.inr e)
theorem adr_other {z : AV} {q : List Nat} {B o : Nat} {cj : List Value} {Oj : Nat → Prop} (r : RepC h S z cj Oj) (hat : At h B o cj) (hB : ¬ Oj B) (hO : ∀ k,Oj k → h'[k]? = h[k]?)
  (hc : ∀ n,n < ncells z → cellH h' ⟨B,o + n,none⟩ = cellH h ⟨B,o + n,none⟩) :
  adr h' q z B o = adr h q z B o ∧ ∀ z2 B2 o2,getAt z q = some z2 → adr h q z B o = some (B2,o2) → ∀ n,n < ncells z2 → cellH h' ⟨B2,o2 + n,none⟩ = cellH h ⟨B2,o2 + n,none⟩:=by
 refine ⟨adr_same q z B o r hO hc hat,?_⟩
 intro z2 B2 o2 hg ha n hn
 obtain ⟨cy,Oy,Ob,q1,q2,q3,q4,q5,q6,_⟩:=place q z B o r hat hB hg ha
 have hcy:=repC_len _ q1
 have hcj:=repC_len _ r
 rcases q6 with ⟨rfl,e1,e2⟩ | ⟨e1,e2⟩
 ·have:=hc (o2 - o + n) (by omega)
  rwa [show o + (o2 - o + n) = o2 + n by omega] at this
 ·exact cellH_same (hO B2 ((q3 B2).2 (.inr e1)))
theorem rep_slice {b : Nat} {c : Array Value} {te : TypeId} {n : Nat} (h2 : Row h b c te) : At h b 0 (c.toList.take n):=by
 intro j u hu
 have:=row_cells h2 hu
 have hadd : (⟨b,0,none⟩ : Addr).add j = ⟨b,0 + j,none⟩:=by unfold Addr.add; split <;> simp_all
 rwa [hadd] at this
theorem adr_wrote : ∀ (q p : List Nat) (x : AV) (B o : Nat) {cs : List Value} {O : Nat → Prop} {y : AV} {B' o' : Nat} {news : List Value},RepC h S x cs O → At h B o cs → ¬ O B → getAt x p = some y → adr h p x B o = some (B',o') →
  Wrote (fun _ => True) h h' B' o' news → news.length = ncells y →
  (sPre p q = false → adr h' q x B o = adr h q x B o) ∧
  ∀ z B2 o2,getAt x q = some z → adr h q x B o = some (B2,o2) → preB p q = false →
   (z.hdr = true → cellH h' ⟨B2,o2,none⟩ = cellH h ⟨B2,o2,none⟩) ∧ (preB q p = false → ∀ n,n < ncells z → cellH h' ⟨B2,o2 + n,none⟩ = cellH h ⟨B2,o2 + n,none⟩)
 | [],p,x,B,o,cs,O,y,B',o',news,r,hat,hB,hg,ha,w,hl => by
  refine ⟨fun _ => rfl,?_⟩
  intro z B2 o2 hz haz hp
  simp only [getAt,Option.some.injEq] at hz
  simp only [adr,Option.some.injEq,Prod.mk.injEq] at haz
  obtain ⟨rfl,rfl⟩:=haz
  subst hz
  refine ⟨fun hd => ?_,fun hq => by simp [preB] at hq⟩
  have hp0 : p ≠ []:=by rintro rfl; simp [preB] at hp
  have:=adr_down r hat hB hg ha hp0 hd
  refine cellH_same (w.other _ trivial ?_)
  rintro rfl
  exact hB this
 | j :: q,[],x,B,o,cs,O,y,B',o',news,r,hat,hB,hg,ha,w,hl => by
  refine ⟨fun hs => by simp [sPre,preB] at hs,fun z B2 o2 _ _ hp => by simp [preB] at hp⟩
 | j :: q,i :: p,.agg fs,B,o,cs,O,y,B',o',news,r,hat,hB,hg,ha,w,hl => by
  simp only [RepC] at r
  simp only [getAt] at hg ⊢
  simp only [adr] at ha ⊢
  cases hf : fs[i]? with
  | none => simp [hf] at hg
  | some a =>
   simp only [hf] at hg ha
   by_cases hij : i = j
   ·subst hij
    simp only [hf]
    obtain ⟨m1,cz,m2,Oz,Ob1,g1,g2,g3,g4,g5,g6⟩:=repL_at fs i a r hf
    subst g1
    have hat' : At h B (o + ncellsL (fs.take i)) cz:=by
     have:=(At.app.1 (At.app.1 hat).1).2
     rwa [g2] at this
    have ih:=adr_wrote q p a B _ g3 hat' (fun hz => hB ((g4 B).2 (.inl hz))) hg ha w hl
    simpa [sPre,preB] using ih
   ·cases hz : fs[j]? with
    | none => simp
    | some z =>
     obtain ⟨cj,Oj,k1,k2,k3,k4,k5⟩:=elems_wrote r hat hB hij hf hz hg ha w hl
     obtain ⟨u1,u2⟩:=adr_other (q:=q) k1 k2 k3 k4 k5
     refine ⟨fun _ => u1,fun z2 B2 o2 e1 e2 _ => ⟨fun hd => ?_,fun _ => u2 z2 B2 o2 e1 e2⟩⟩
     exact u2 z2 B2 o2 e1 e2 0 (by cases z2 <;> simp_all [AV.hdr,ncells])
 | j :: q,i :: p,.arr sz fs,B,o,cs,O,y,B',o',news,r,hat,hB,hg,ha,w,hl => by
  simp only [RepC] at r
  obtain ⟨r,hu⟩:=r
  simp only [getAt] at hg ⊢
  simp only [adr] at ha ⊢
  cases hf : fs[i]? with
  | none => simp [hf] at hg
  | some a =>
   have hil : i < fs.length:=(List.getElem?_eq_some_iff.1 hf).1
   simp only [hf] at hg ha
   rw [← uni_take hu (by omega)] at ha
   by_cases hij : i = j
   ·subst hij
    simp only [hf]
    obtain ⟨m1,cz,m2,Oz,Ob1,g1,g2,g3,g4,g5,g6⟩:=repL_at fs i a r hf
    subst g1
    have hat' : At h B (o + ncellsL (fs.take i)) cz:=by
     have:=(At.app.1 (At.app.1 hat).1).2
     rwa [g2] at this
    have ih:=adr_wrote q p a B _ g3 hat' (fun hz => hB ((g4 B).2 (.inl hz))) hg ha w hl
    rw [uni_take hu (by omega)] at ih
    simpa [sPre,preB] using ih
   ·cases hz : fs[j]? with
    | none => simp
    | some z =>
     have hjl : j < fs.length:=(List.getElem?_eq_some_iff.1 hz).1
     obtain ⟨cj,Oj,k1,k2,k3,k4,k5⟩:=elems_wrote r hat hB hij hf hz hg ha w hl
     rw [uni_take hu (by omega)] at k2 k5
     obtain ⟨u1,u2⟩:=adr_other (q:=q) k1 k2 k3 k4 k5
     refine ⟨fun _ => u1,fun z2 B2 o2 e1 e2 _ => ⟨fun hd => ?_,fun _ => u2 z2 B2 o2 e1 e2⟩⟩
     exact u2 z2 B2 o2 e1 e2 0 (by cases z2 <;> simp_all [AV.hdr,ncells])
 | j :: q,i :: p,.sl true sz xs,B,o,cs,O,y,B',o',news,r,hat,hB,hg,ha,w,hl => by
  have hin:=adr_down r hat hB hg ha (by simp) rfl
  have hne : B ≠ B':=fun e => hB (e ▸ hin)
  simp only [RepC] at r
  simp only [getAt] at hg ⊢
  simp only [adr] at ha ⊢
  cases hf : xs[i]? with
  | none => simp [hf] at hg
  | some a =>
   simp only [hf] at hg ha
   rcases r with ⟨rfl,_,_⟩ | ⟨hsz,b,c,te,cap,O1,h1,h2,h3,h4,h5,h6,h7,h8,h9,h10⟩
   ·simp at hf
   ·subst h1
    have hc0 : cellH h ⟨B,o,none⟩ = some (.slice (some ⟨b,0,none⟩) xs.length cap):=by simpa using hat 0 _ rfl
    have hc1 : cellH h' ⟨B,o,none⟩ = some (.slice (some ⟨b,0,none⟩) xs.length cap):=by rw [← hc0]; exact cellH_same (w.other _ trivial hne)
    simp only [hc0] at ha
    simp only [hc0,hc1]
    have hil : i < xs.length:=(List.getElem?_eq_some_iff.1 hf).1
    have hrow:=rep_slice (n:=xs.length * sz) h2
    have ha' : adr h p a b (0 + ncellsL (xs.take i)) = some (B',o'):=by rw [uni_take h7 (by omega)]; exact ha
    by_cases hij : i = j
    ·subst hij
     simp only [hf]
     obtain ⟨m1,cz,m2,Oz,Ob1,g1,g2,g3,g4,g5,g6⟩:=repL_at xs i a h6 hf
     rw [g1] at hrow
     have hat' : At h b (0 + ncellsL (xs.take i)) cz:=by
      have:=(At.app.1 (At.app.1 hrow).1).2
      rwa [g2] at this
     have ih:=adr_wrote q p a b _ g3 hat' (fun hz => h8 ((g4 b).2 (.inl hz))) hg ha' w hl
     rw [uni_take h7 (by omega)] at ih
     simpa [sPre,preB] using ih
    ·cases hz : xs[j]? with
     | none => simp
     | some z =>
      have hjl : j < xs.length:=(List.getElem?_eq_some_iff.1 hz).1
      obtain ⟨cj,Oj,k1,k2,k3,k4,k5⟩:=elems_wrote h6 hrow h8 hij hf hz hg ha' w hl
      rw [uni_take h7 (by omega)] at k2 k5
      obtain ⟨u1,u2⟩:=adr_other (q:=q) k1 k2 k3 k4 k5
      refine ⟨fun _ => u1,fun z2 B2 o2 e1 e2 _ => ⟨fun hd => ?_,fun _ => u2 z2 B2 o2 e1 e2⟩⟩
      exact u2 z2 B2 o2 e1 e2 0 (by cases z2 <;> simp_all [AV.hdr,ncells])
 | j :: q,i :: p,.box x,B,o,cs,O,y,B',o',news,r,hat,hB,hg,ha,w,hl => by
  have hin:=adr_down r hat hB hg ha (by simp) rfl
  have hne : B ≠ B':=fun e => hB (e ▸ hin)
  simp only [RepC] at r
  simp only [getAt] at hg ⊢
  simp only [adr] at ha ⊢
  obtain ⟨b,c,te,m,O1,h1,h2,h3,h4,h5,h6⟩:=r
  subst h1
  have hc0 : cellH h ⟨B,o,none⟩ = some (.pointer (some ⟨b,0,none⟩)):=by simpa using hat 0 _ rfl
  have hc1 : cellH h' ⟨B,o,none⟩ = some (.pointer (some ⟨b,0,none⟩)):=by rw [← hc0]; exact cellH_same (w.other _ trivial hne)
  simp only [hc0] at ha
  simp only [hc0,hc1]
  by_cases hi : i = 0
  ·subst hi
   simp only [if_true] at hg ha
   by_cases hj : j = 0
   ·subst hj
    simp only [if_true]
    have hat' : At h b 0 m:=by
     have:=rep_slice (n:=c.toList.length) h2
     rwa [List.take_length,h3] at this
    have ih:=adr_wrote q p x b _ h4 hat' h5 hg ha w hl
    simpa [sPre,preB] using ih
   ·simp [hj]
  ·simp [hi] at hg
 | j :: q,i :: p,.undef,B,o,cs,O,y,B',o',news,r,hat,hB,hg,ha,w,hl => by simp [getAt] at hg
 | j :: q,i :: p,.oth v,B,o,cs,O,y,B',o',news,r,hat,hB,hg,ha,w,hl => by simp [getAt] at hg
 | j :: q,i :: p,.int k n,B,o,cs,O,y,B',o',news,r,hat,hB,hg,ha,w,hl => by simp [getAt] at hg
 | j :: q,i :: p,.bool b,B,o,cs,O,y,B',o',news,r,hat,hB,hg,ha,w,hl => by simp [getAt] at hg
 | j :: q,i :: p,.str s,B,o,cs,O,y,B',o',news,r,hat,hB,hg,ha,w,hl => by simp [getAt] at hg
 | j :: q,i :: p,.sl false sz xs,B,o,cs,O,y,B',o',news,r,hat,hB,hg,ha,w,hl => by simp [adr] at ha
 | j :: q,i :: p,.dptr x,B,o,cs,O,y,B',o',news,r,hat,hB,hg,ha,w,hl => by simp [getAt] at hg
 | j :: q,i :: p,.tup _,B,o,cs,O,y,B',o',news,r,hat,hB,hg,ha,w,hl => by simp [getAt] at hg
 | j :: q,i :: p,.vref ..,B,o,cs,O,y,B',o',news,r,hat,hB,hg,ha,w,hl => by simp [getAt] at hg
 | j :: q,i :: p,.vagg ..,B,o,cs,O,y,B',o',news,r,hat,hB,hg,ha,w,hl => by simp [getAt] at hg
 | j :: q,i :: p,.vsub ..,B,o,cs,O,y,B',o',news,r,hat,hB,hg,ha,w,hl => by simp [getAt] at hg
 | j :: q,i :: p,.ptr ..,B,o,cs,O,y,B',o',news,r,hat,hB,hg,ha,w,hl => by simp [getAt] at hg
end
end Go.Proofs.YtpffgegfjpdncaaGreatDoor.Am
namespace Go.Proofs.YtpffgegfjpdncaaGreatDoor.Am
open Go.RowKit AV
set_option linter.unusedVariables false
section
variable {h h' : Array Obj} {S : Nat → Prop}
theorem adrV_wrote (q p : List Nat) (x : AV) {v : Value} {O : Nat → Prop} {y : AV} {B' o' : Nat} {news : List Value} (r : RepC h S x [v] O) (hg : getAt x p = some y) (ha : adrV h p x v = some (B',o'))
  (w : Wrote (fun _ => True) h h' B' o' news) (hl : news.length = ncells y) :
  (sPre p q = false → adrV h' q x v = adrV h q x v) ∧
  ∀ z B2 o2,getAt x q = some z → adrV h q x v = some (B2,o2) → preB p q = false →
   (z.hdr = true → cellH h' ⟨B2,o2,none⟩ = cellH h ⟨B2,o2,none⟩) ∧ (preB q p = false → ∀ n,n < ncells z → cellH h' ⟨B2,o2 + n,none⟩ = cellH h ⟨B2,o2 + n,none⟩):=by
 cases q with
 | nil => exact ⟨fun _ => rfl,fun z B2 o2 _ hh => by simp [adrV] at hh⟩
 | cons j q =>
 cases p with
 | nil => simp [adrV] at ha
 | cons i p =>
 cases x with
 | sl own sz xs =>
  cases own with
  | false => simp [adrV] at ha
  | true =>
   simp only [RepC] at r
   simp only [getAt] at hg ⊢
   cases hf : xs[i]? with
   | none => simp [hf] at hg
   | some a =>
    rcases r with ⟨rfl,_,_⟩ | ⟨hsz,b,c,te,cap,O1,h1,h2,h3,h4,h5,h6,h7,h8,h9,h10⟩
    ·simp at hf
    ·obtain rfl : v = .slice (some ⟨b,0,none⟩) xs.length cap:=by simpa using h1
     simp only [adrV,hf] at ha hg ⊢
     have hil : i < xs.length:=(List.getElem?_eq_some_iff.1 hf).1
     have hrow:=rep_slice (n:=xs.length * sz) h2
     have ha' : adr h p a b (0 + ncellsL (xs.take i)) = some (B',o'):=by rw [uni_take h7 (by omega)]; exact ha
     by_cases hij : i = j
     ·subst hij
      simp only [hf]
      obtain ⟨m1,cz,m2,Oz,Ob1,g1,g2,g3,g4,g5,g6⟩:=repL_at xs i a h6 hf
      rw [g1] at hrow
      have hat' : At h b (0 + ncellsL (xs.take i)) cz:=by
       have:=(At.app.1 (At.app.1 hrow).1).2
       rwa [g2] at this
      have ih:=adr_wrote q p a b _ g3 hat' (fun hz => h8 ((g4 b).2 (.inl hz))) hg ha' w hl
      rw [uni_take h7 (by omega)] at ih
      simpa [sPre,preB] using ih
     ·cases hz : xs[j]? with
      | none => simp
      | some z =>
       have hjl : j < xs.length:=(List.getElem?_eq_some_iff.1 hz).1
       obtain ⟨cj,Oj,k1,k2,k3,k4,k5⟩:=elems_wrote h6 hrow h8 hij hf hz hg ha' w hl
       rw [uni_take h7 (by omega)] at k2 k5
       obtain ⟨u1,u2⟩:=adr_other (q:=q) k1 k2 k3 k4 k5
       refine ⟨fun _ => u1,fun z2 B2 o2 e1 e2 _ => ⟨fun hd => ?_,fun _ => u2 z2 B2 o2 e1 e2⟩⟩
       exact u2 z2 B2 o2 e1 e2 0 (by cases z2 <;> simp_all [AV.hdr,ncells])
 | box x =>
  simp only [RepC] at r
  simp only [getAt] at hg ⊢
  obtain ⟨b,c,te,m,O1,h1,h2,h3,h4,h5,h6⟩:=r
  obtain rfl : v = .pointer (some ⟨b,0,none⟩):=by simpa using h1
  simp only [adrV] at ha ⊢
  by_cases hi : i = 0
  ·subst hi
   simp only [if_true] at hg ha
   by_cases hj : j = 0
   ·subst hj
    simp only [if_true]
    have hat' : At h b 0 m:=by
     have:=rep_slice (n:=c.toList.length) h2
     rwa [List.take_length,h3] at this
    have ih:=adr_wrote q p x b _ h4 hat' h5 hg ha w hl
    simpa [sPre,preB] using ih
   ·simp [hj]
  ·simp [hi] at hg
 | _ => simp [adrV] at ha
end
theorem ncellsL_set {fs : List AV} {i : Nat} {a a' : AV} (e : fs[i]? = some a) (hn : ncells a' = ncells a) : ∀ k,ncellsL ((fs.set i a').take k) = ncellsL (fs.take k):=by
 induction fs generalizing i with
 | nil => simp at e
 | cons x xs ih =>
  intro k
  cases k with
  | zero => simp
  | succ k =>
   cases i with
   | zero =>
    simp only [List.getElem?_cons_zero,Option.some.injEq] at e
    subst e
    simp [ncellsL,hn]
   | succ i => simp [ncellsL,ih (by simpa using e) k]
theorem ncellsL_set' {fs : List AV} {i : Nat} {a a' : AV} (e : fs[i]? = some a) (hn : ncells a' = ncells a) : ncellsL (fs.set i a') = ncellsL fs:=by
 have:=ncellsL_set e hn fs.length
 rwa [List.take_length,List.take_of_length_le (by simp)] at this
theorem ncells_setAt {y y' : AV} (hn : ncells y' = ncells y) : ∀ (p : List Nat) (x : AV),getAt x p = some y → ncells (setAt x p y') = ncells x
 | [],x,e => by
  simp only [getAt,Option.some.injEq] at e; subst e
  have : setAt x [] y' = y':=by cases x <;> rfl
  rw [this,hn]
 | i :: p,.agg fs,e => by
  simp only [getAt] at e
  cases hf : fs[i]? with
  | none => simp [hf] at e
  | some a =>
   simp only [hf] at e
   simp only [setAt,hf,ncells]
   exact ncellsL_set' hf (ncells_setAt hn p a e)
 | i :: p,.arr sz fs,e => by
  simp only [getAt] at e
  cases hf : fs[i]? with
  | none => simp [hf] at e
  | some a => simp [setAt,hf,ncells]
 | i :: p,.sl o sz xs,e => by
  simp only [getAt] at e
  cases hf : xs[i]? with
  | none => simp [hf] at e
  | some a => simp [setAt,hf,ncells]
 | i :: p,.box x,e => by
  simp only [getAt] at e
  by_cases hi : i = 0
  ·simp [setAt,hi,ncells]
  ·simp [hi] at e
 | i :: p,.undef,e => by simp [getAt] at e
 | i :: p,.oth v,e => by simp [getAt] at e
 | i :: p,.int k n,e => by simp [getAt] at e
 | i :: p,.bool b,e => by simp [getAt] at e
 | i :: p,.str s,e => by simp [getAt] at e
 | i :: p,.dptr x,e => by simp [getAt] at e
 | i :: p,.tup _,e => by simp [getAt] at e
 | i :: p,.vref ..,e => by simp [getAt] at e
 | i :: p,.vagg ..,e => by simp [getAt] at e
 | i :: p,.vsub ..,e => by simp [getAt] at e
 | i :: p,.ptr ..,e => by simp [getAt] at e
def Kin (z z' : AV) : Prop:=(z.hdr = true → z'.hdr = true) ∧ ∀ sz xs,z = .sl true sz xs → ∃ xs',z' = .sl true sz xs' ∧ xs'.length = xs.length
theorem Kin.refl (z : AV) : Kin z z:=⟨id,fun _ xs e => ⟨xs,e,rfl⟩⟩
theorem kin_set {x : AV} {p : List Nat} {y' : AV} (hp : p ≠ []) : Kin x (setAt x p y'):=by
 cases p with
 | nil => exact absurd rfl hp
 | cons i p =>
  refine ⟨fun h => ?_,fun sz xs e => ?_⟩
  ·cases x with
   | sl own sz xs => cases own <;> simp_all [setAt,AV.hdr]
   | box x => by_cases hi : i = 0 <;> simp [setAt,hi,AV.hdr]
   | mp _ => simp [setAt,AV.hdr]
   | _ => simp [AV.hdr] at h
  ·subst e
   simp only [setAt]
   split
   ·exact ⟨_,rfl,by simp⟩
   ·exact ⟨_,rfl,rfl⟩
theorem set_keep {y y' : AV} (hn : ncells y' = ncells y) : ∀ (q p : List Nat) (x : AV) {z : AV},getAt x p = some y → sPre p q = false → getAt x q = some z →
  (∀ h B o,adr h q (setAt x p y') B o = adr h q x B o) ∧ ∃ z',getAt (setAt x p y') q = some z' ∧ (preB p q = false → Kin z z') ∧ (preB p q = false → preB q p = false → z' = z)
 | [],p,x,z,hg,hs,hz => by
  simp only [getAt,Option.some.injEq] at hz; subst hz
  refine ⟨fun _ _ _ => rfl,setAt x p y',by simp [getAt],fun hp => kin_set (by rintro rfl; simp [preB] at hp),fun _ hq => by simp [preB] at hq⟩
 | j :: q,[],x,z,hg,hs,hz => by simp [sPre,preB] at hs
 | j :: q,i :: p,.agg fs,z,hg,hs,hz => by
  simp only [getAt] at hg hz
  cases hf : fs[i]? with
  | none => simp [hf] at hg
  | some a =>
   simp only [hf] at hg
   have hil : i < fs.length:=(List.getElem?_eq_some_iff.1 hf).1
   simp only [setAt,hf,adr,getAt]
   by_cases hij : i = j
   ·subst hij
    simp only [hf] at hz
    have hs' : sPre p q = false:=by simpa [sPre,preB] using hs
    obtain ⟨e1,z',e2,e3,e4⟩:=set_keep hn q p a hg hs' hz
    simp only [List.getElem?_set_self hil,hf]
    refine ⟨fun h B o => ?_,z',e2,by simpa [preB] using e3,by simpa [preB] using e4⟩
    rw [ncellsL_set hf (ncells_setAt hn p a hg),e1]
   ·simp only [List.getElem?_set_ne hij]
    cases hz' : fs[j]? with
    | none => simp [hz'] at hz
    | some b =>
     simp only [hz'] at hz
     refine ⟨fun h B o => ?_,z,hz,fun _ => Kin.refl z,fun _ _ => rfl⟩
     simp only
     rw [ncellsL_set hf (ncells_setAt hn p a hg)]
 | j :: q,i :: p,.arr sz fs,z,hg,hs,hz => by
  simp only [getAt] at hg hz
  cases hf : fs[i]? with
  | none => simp [hf] at hg
  | some a =>
   simp only [hf] at hg
   have hil : i < fs.length:=(List.getElem?_eq_some_iff.1 hf).1
   simp only [setAt,hf,adr,getAt]
   by_cases hij : i = j
   ·subst hij
    simp only [hf] at hz
    have hs' : sPre p q = false:=by simpa [sPre,preB] using hs
    obtain ⟨e1,z',e2,e3,e4⟩:=set_keep hn q p a hg hs' hz
    simp only [List.getElem?_set_self hil,hf]
    exact ⟨fun h B o => e1 _ _ _,z',e2,by simpa [preB] using e3,by simpa [preB] using e4⟩
   ·simp only [List.getElem?_set_ne hij]
    cases hz' : fs[j]? with
    | none => simp [hz'] at hz
    | some b =>
     simp only [hz'] at hz
     exact ⟨fun h B o => trivial,z,hz,fun _ => Kin.refl z,fun _ _ => rfl⟩
 | j :: q,i :: p,.sl own sz fs,z,hg,hs,hz => by
  simp only [getAt] at hg hz
  cases hf : fs[i]? with
  | none => simp [hf] at hg
  | some a =>
   simp only [hf] at hg
   have hil : i < fs.length:=(List.getElem?_eq_some_iff.1 hf).1
   simp only [setAt,hf,getAt]
   by_cases hij : i = j
   ·subst hij
    simp only [hf] at hz
    have hs' : sPre p q = false:=by simpa [sPre,preB] using hs
    obtain ⟨e1,z',e2,e3,e4⟩:=set_keep hn q p a hg hs' hz
    simp only [List.getElem?_set_self hil]
    refine ⟨fun h B o => ?_,z',e2,by simpa [preB] using e3,by simpa [preB] using e4⟩
    cases own with
    | false => rfl
    | true => simp only [adr,List.getElem?_set_self hil,hf,e1]
   ·simp only [List.getElem?_set_ne hij]
    cases hz' : fs[j]? with
    | none => simp [hz'] at hz
    | some b =>
     simp only [hz'] at hz
     refine ⟨fun h B o => ?_,z,hz,fun _ => Kin.refl z,fun _ _ => rfl⟩
     cases own with
     | false => rfl
     | true => simp only [adr,List.getElem?_set_ne hij]
 | j :: q,i :: p,.box x,z,hg,hs,hz => by
  simp only [getAt] at hg hz
  by_cases hi : i = 0
  ·subst hi
   simp only [if_true] at hg
   by_cases hj : j = 0
   ·subst hj
    simp only [if_true] at hz
    have hs' : sPre p q = false:=by simpa [sPre,preB] using hs
    obtain ⟨e1,z',e2,e3,e4⟩:=set_keep hn q p x hg hs' hz
    simp only [setAt,adr,getAt,if_true,e1]
    exact ⟨fun h B o => trivial,z',e2,by simpa [preB] using e3,by simpa [preB] using e4⟩
   ·simp [hj] at hz
  ·simp [hi] at hg
 | j :: q,i :: p,.undef,z,hg,hs,hz => by simp [getAt] at hg
 | j :: q,i :: p,.oth v,z,hg,hs,hz => by simp [getAt] at hg
 | j :: q,i :: p,.int k n,z,hg,hs,hz => by simp [getAt] at hg
 | j :: q,i :: p,.bool b,z,hg,hs,hz => by simp [getAt] at hg
 | j :: q,i :: p,.str s,z,hg,hs,hz => by simp [getAt] at hg
 | j :: q,i :: p,.dptr x,z,hg,hs,hz => by simp [getAt] at hg
 | j :: q,i :: p,.tup _,z,hg,hs,hz => by simp [getAt] at hg
 | j :: q,i :: p,.vref ..,z,hg,hs,hz => by simp [getAt] at hg
 | j :: q,i :: p,.vagg ..,z,hg,hs,hz => by simp [getAt] at hg
 | j :: q,i :: p,.vsub ..,z,hg,hs,hz => by simp [getAt] at hg
 | j :: q,i :: p,.ptr ..,z,hg,hs,hz => by simp [getAt] at hg
theorem adrV_set {h : Array Obj} {y y' : AV} (hn : ncells y' = ncells y) (q p : List Nat) (x : AV) {v : Value} {z : AV} (hg : getAt x p = some y) (hp : p ≠ []) (hs : sPre p q = false) (hz : getAt x q = some z) :
  adrV h q (setAt x p y') v = adrV h q x v:=by
 cases q with
 | nil => cases x <;> rfl
 | cons j q =>
 cases p with
 | nil => exact absurd rfl hp
 | cons i p =>
 cases x with
 | sl own sz fs =>
  cases own with
  | false => simp [setAt,adrV]
  | true =>
   simp only [getAt] at hg hz
   cases hf : fs[i]? with
   | none => simp [hf] at hg
   | some a =>
    simp only [hf] at hg
    have hil : i < fs.length:=(List.getElem?_eq_some_iff.1 hf).1
    simp only [setAt,hf]
    cases v with
    | slice b l c =>
     cases b with
     | none => rfl
     | some b =>
      simp only [adrV]
      by_cases hij : i = j
      ·subst hij
       simp only [hf] at hz
       have hs' : sPre p q = false:=by simpa [sPre,preB] using hs
       obtain ⟨e1,_⟩:=set_keep hn q p a hg hs' hz
       simp only [List.getElem?_set_self hil,hf,e1]
      ·simp only [List.getElem?_set_ne hij]
    | _ => rfl
 | box x =>
  simp only [getAt] at hg hz
  by_cases hi : i = 0
  ·subst hi
   simp only [if_true] at hg
   by_cases hj : j = 0
   ·subst hj
    simp only [if_true] at hz
    have hs' : sPre p q = false:=by simpa [sPre,preB] using hs
    obtain ⟨e1,_⟩:=set_keep hn q p x hg hs' hz
    simp only [setAt,if_true]
    cases v with
    | pointer b =>
     cases b with
     | none => rfl
     | some b => simp only [adrV,if_true,e1]
    | _ => rfl
   ·simp [hj] at hz
  ·simp [hi] at hg
 | agg fs => rfl
 | arr sz fs => rfl
 | _ => simp [getAt] at hg
end Go.Proofs.YtpffgegfjpdncaaGreatDoor.Am
namespace Go.Proofs.YtpffgegfjpdncaaGreatDoor.Am
open Go.RowKit AV
set_option linter.unusedVariables false
abbrev St:=List (Nat × AV)
def look : St → Nat → AV
 | [],_ => .undef
 | (a,x) :: r,k => if a = k then x else look r k
def AV.target : AV → Option Nat
 | .vref s _ | .vagg s _ | .vsub s _ _ _ | .ptr s _ => some s
 | _ => none
def purgeV (ms : List Nat) : AV → AV
 | .vref s p => if s ∈ ms then .undef else .vref s p
 | .vagg s p => if s ∈ ms then .undef else .vagg s p
 | .vsub s p lo hi => if s ∈ ms then .undef else .vsub s p lo hi
 | .ptr s p => if s ∈ ms then .undef else .ptr s p
 | x => x
def purge (ms : List Nat) : St → St
 | [] => []
 | (a,x) :: r => (a,purgeV ms x) :: purge ms r
def keys : St → List Nat
 | [] => []
 | (a,_) :: r => a :: keys r
def upd (σ : St) (news : St) : St:=news ++ purge (keys news) σ
theorem look_app : ∀ (a b : St) (k : Nat),look (a ++ b) k = if k ∈ keys a then look a k else look b k
 | [],b,k => by simp [keys]
 | (c,x) :: a,b,k => by
  simp only [List.cons_append,look,keys,List.mem_cons,look_app a b k]
  by_cases h : c = k
  ·simp [h]
  ·simp only [h,if_false]; split <;> simp_all [eq_comm]
theorem look_purge (ms : List Nat) : ∀ (σ : St) (k : Nat),look (purge ms σ) k = purgeV ms (look σ k)
 | [],k => rfl
 | (c,x) :: a,k => by simp only [purge,look]; split <;> simp [look_purge ms a k]
theorem look_upd (σ news : St) (k : Nat) : look (upd σ news) k = if k ∈ keys news then look news k else purgeV (keys news) (look σ k):=by
 rw [upd,look_app,look_purge]
theorem purgeV_undef (ms : List Nat) (x : AV) : purgeV ms x = x ∨ (purgeV ms x = .undef ∧ ∃ s,x.target = some s ∧ s ∈ ms):=by
 cases x <;> simp only [purgeV,AV.target,true_or] <;> split <;> simp_all
theorem purgeV_none (ms : List Nat) {x : AV} (h : x.target = none) : purgeV ms x = x:=by
 cases x <;> simp_all [purgeV,AV.target]
def ValAt (h : Array Obj) (x : AV) (u : Value) (p : List Nat) (v : Value) : Prop :=
 (p = [] ∧ v = u) ∨ ∃ B o,adrV h p x u = some (B,o) ∧ cellH h ⟨B,o,none⟩ = some v
def CutV (w : Value) (lo hi sz : Nat) (v : Value) : Prop :=
 (∃ b l c,w = .slice (some ⟨b,0,none⟩) l c ∧ v = .slice (some ⟨b,(if c = lo then 0 else lo * sz),none⟩) (hi - lo) (c - lo)) ∨ (w = .slice none 0 0 ∧ v = .slice none 0 0 ∧ lo = 0 ∧ hi = 0)
def AliasOk (h : Array Obj) (σ : St) (tm : Array Value) : AV → Value → Prop
 | .vref s p,v => ∃ u y,tm[s]? = some u ∧ getAt (look σ s) p = some y ∧ y.hdr = true ∧ ValAt h (look σ s) u p v
 | .vagg s p,v => ∃ u y B o cs,tm[s]? = some u ∧ getAt (look σ s) p = some y ∧ y.isAgg = true ∧ adrV h p (look σ s) u = some (B,o) ∧ v = .agg cs ∧ At h B o cs.toList ∧ cs.size = ncells y
 | .vsub s p lo hi,v => ∃ u sz xs w,tm[s]? = some u ∧ getAt (look σ s) p = some (.sl true sz xs) ∧ ValAt h (look σ s) u p w ∧ lo ≤ hi ∧ hi ≤ xs.length ∧ CutV w lo hi sz v
 | .ptr s p,v => ∃ u y B o,tm[s]? = some u ∧ getAt (look σ s) p = some y ∧ adrV h p (look σ s) u = some (B,o) ∧ v = .pointer (some ⟨B,o,none⟩)
 | _,_ => True
def Sh (ok : Nat → Prop) (Os : Nat → Nat → Prop) : Nat → Prop:=fun k => ok k ∧ ∀ t,¬ Os t k
structure Rel (h0 : Array Obj) (ok O0 : Nat → Prop) (σ : St) (tm : Array Value) (h : Array Obj) (Os : Nat → Nat → Prop) : Prop where
 rep : ∀ t v,tm[t]? = some v → RepW h (Sh ok Os) (look σ t) v (Os t)
 out : ∀ t,tm.size ≤ t → Emp (Os t)
 dis : ∀ s t k,Os s k → Os t k → s = t
 own : ∀ t k,Os t k → O0 k ∨ h0.size ≤ k
 ali : ∀ t v,tm[t]? = some v → AliasOk h σ tm (look σ t) v
 size : h0.size ≤ h.size
 keep : ∀ k,k < h0.size → ¬ O0 k → h[k]? = h0[k]?
theorem Rel.lt {h0 : Array Obj} {ok O0 : Nat → Prop} {σ : St} {tm : Array Value} {h : Array Obj} {Os : Nat → Nat → Prop} (R : Rel h0 ok O0 σ tm h Os) {t k : Nat} (hk : Os t k) : k < h.size:=by
 cases ht : tm[t]? with
 | none => exact (R.out t (by simpa using ht) k hk).elim
 | some v => exact repW_lt _ (R.rep t v ht) k hk
theorem tgt_get {x : AV} {p : List Nat} {y : AV} (h : getAt x p = some y) (hy : y.target = none) : x.target = none:=by
 cases p with
 | nil => simp only [getAt,Option.some.injEq] at h; subst h; exact hy
 | cons i p => cases x <;> simp_all [getAt,AV.target]
theorem repC_of_get {h : Array Obj} {S O : Nat → Prop} {x y : AV} {v : Value} {p : List Nat} {q : Nat × Nat} (r : RepW h S x v O) (ha : adrV h p x v = some q) : RepC h S x [v] O:=by
 cases p with
 | nil => simp [adrV] at ha
 | cons i p => cases x <;> simp only [adrV] at ha <;> first | (cases ha; done) | (simp only [RepW] at r; exact r)
theorem ValAt.same {h h' : Array Obj} {S O : Nat → Prop} {x y : AV} {u v : Value} {p : List Nat} (r : RepW h S x u O) (hg : getAt x p = some y) (hO : ∀ k,O k → h'[k]? = h[k]?) (hv : ValAt h x u p v) : ValAt h' x u p v:=by
 rcases hv with hv | ⟨B,o,h1,h2⟩
 ·exact .inl hv
 ·have r':=repC_of_get (y:=y) r h1
  obtain ⟨cy,Oy,Ob,q1,q2,q3,q4,q5,q6,_⟩:=placeV p x r' hg h1
  refine .inr ⟨B,o,(adrV_same p x r' hO).trans h1,?_⟩
  rw [← h2]
  exact cellH_same (hO B ((q3 B).2 (.inr q6)))
theorem aliasOk_same {h h' : Array Obj} {σ σ' : St} {tm tm' : Array Value} {x : AV} {v : Value} {S O : Nat → Prop} (a : AliasOk h σ tm x v)
  (hs : ∀ s u,x.target = some s → tm[s]? = some u → RepW h S (look σ s) u O) (ht : ∀ s,x.target = some s → tm'[s]? = tm[s]?)
  (hl : ∀ s,x.target = some s → (look σ s).target = none → look σ' s = look σ s) (hO : ∀ k,O k → h'[k]? = h[k]?) : AliasOk h' σ' tm' x v:=by
 cases x with
 | vref s p =>
  obtain ⟨u,y,h1,h2,h3,h4⟩:=a
  have hn : y.target = none:=by cases y <;> simp_all [AV.hdr,AV.target]
  have e:=hl s rfl (tgt_get h2 hn)
  refine ⟨u,y,(ht s rfl).trans h1,by rw [e]; exact h2,h3,?_⟩
  rw [e]
  exact h4.same (hs s u rfl h1) h2 hO
 | vagg s p =>
  obtain ⟨u,y,B,o,cs,h1,h2,h3,h4,h5,h6,h7⟩:=a
  have hn : y.target = none:=by cases y <;> simp_all [AV.isAgg,AV.target]
  have e:=hl s rfl (tgt_get h2 hn)
  have r':=repC_of_get (y:=y) (hs s u rfl h1) h4
  obtain ⟨cy,Oy,Ob,q1,q2,q3,q4,q5,q6,_⟩:=placeV p _ r' h2 h4
  refine ⟨u,y,B,o,cs,(ht s rfl).trans h1,by rw [e]; exact h2,h3,by rw [e]; exact (adrV_same p _ r' hO).trans h4,h5,?_,h7⟩
  intro j w hw
  rw [← h6 j w hw]
  exact cellH_same (hO B ((q3 B).2 (.inr q6)))
 | vsub s p lo hi =>
  obtain ⟨u,sz,xs,w,h1,h2,h3,h4,h5,h6⟩:=a
  have e:=hl s rfl (tgt_get h2 rfl)
  refine ⟨u,sz,xs,w,(ht s rfl).trans h1,by rw [e]; exact h2,?_,h4,h5,h6⟩
  rw [e]
  exact h3.same (hs s u rfl h1) h2 hO
 | ptr s p =>
  obtain ⟨u,y,B,o,h1,h2,h3,h4⟩:=a
  have hn : (look σ s).target = none:=by
   cases p with
   | nil => simp [adrV] at h3
   | cons i p => cases hx : look σ s <;> simp_all [adrV,AV.target]
  have e:=hl s rfl hn
  have r':=repC_of_get (y:=y) (hs s u rfl h1) h3
  exact ⟨u,y,B,o,(ht s rfl).trans h1,by rw [e]; exact h2,by rw [e]; exact (adrV_same p _ r' hO).trans h3,h4⟩
 | _ => trivial
theorem aliasOk_none {h : Array Obj} {σ : St} {tm : Array Value} {x : AV} {v : Value} (e : x.target = none) : AliasOk h σ tm x v:=by
 cases x <;> first | trivial | simp [AV.target] at e
theorem purge_target {ms : List Nat} {x : AV} {s : Nat} (e : purgeV ms x = x) (hs : x.target = some s) : s ∉ ms:=by
 intro hm
 cases x <;> simp only [AV.target,Option.some.injEq] at hs <;> first | (cases hs; done) | (subst hs; simp [purgeV,hm] at e)
theorem repW_alias {h : Array Obj} {S : Nat → Prop} {x : AV} {v : Value} {O : Nat → Prop} {s : Nat} (r : RepW h S x v O) (hs : x.target = some s) : Emp O:=by
 cases x <;> simp only [AV.target,reduceCtorEq] at hs <;> simpa only [RepW] using r
theorem Rel.step {h0 : Array Obj} {ok O0 : Nat → Prop} {σ : St} {tm : Array Value} {h : Array Obj} {Os : Nat → Nat → Prop} (R : Rel h0 ok O0 σ tm h Os)
  (news : St) (tm' : Array Value) (h' : Array Obj) (Os' : Nat → Nat → Prop)
  (hsz : tm'.size = tm.size) (h1 : ∀ t,t ∉ keys news → tm'[t]? = tm[t]?)
  (h2 : ∀ t,t ∉ keys news → ∀ k,Os' t k ↔ Os t k)
  (h3 : ∀ t,t ∉ keys news → ∀ k,Os t k → h'[k]? = h[k]?)
  (h4 : ∀ k,k < h.size → Sh ok Os k → (∀ t,¬ Os' t k) ∧ h'[k]? = h[k]?)
  (h5 : ∀ t,t ∈ keys news → ∀ v,tm'[t]? = some v → RepW h' (Sh ok Os') (look news t) v (Os' t))
  (h5' : ∀ t,t ∈ keys news → tm.size ≤ t → Emp (Os' t))
  (h6 : ∀ s t k,Os' s k → Os' t k → s = t)
  (h7 : ∀ t,t ∈ keys news → ∀ k,Os' t k → O0 k ∨ h0.size ≤ k)
  (h8 : ∀ t,t ∈ keys news → ∀ v,tm'[t]? = some v → AliasOk h' (upd σ news) tm' (look news t) v)
  (h9 : h.size ≤ h'.size) (h10 : ∀ k,k < h0.size → ¬ O0 k → h'[k]? = h[k]?) : Rel h0 ok O0 (upd σ news) tm' h' Os':=by
 have hag : ∀ t,t ∉ keys news → Agree h h' (Sh ok Os) (Sh ok Os') (Os t):=fun t ht =>
  ⟨fun k hk hlt => ⟨⟨hk.1,(h4 k hlt hk).1⟩,(h4 k hlt hk).2⟩,h3 t ht⟩
 refine ⟨?_,?_,h6,?_,?_,Nat.le_trans R.size h9,fun k hk hn => (h10 k hk hn).trans (R.keep k hk hn)⟩
 ·intro t v hv
  rw [look_upd]
  by_cases ht : t ∈ keys news
  ·rw [if_pos ht]; exact h5 t ht v hv
  ·rw [if_neg ht]
   rw [h1 t ht] at hv
   have r:=repW_cong _ (repW_mono _ (R.rep t v hv) (hag t ht)) (fun k => h2 t ht k)
   rcases purgeV_undef (keys news) (look σ t) with e | ⟨e,s,hs,_⟩
   ·rw [e]; exact r
   ·rw [e]
    simp only [RepW]; exact repW_alias r hs
 ·intro t ht k hk
  by_cases hm : t ∈ keys news
  ·exact h5' t hm (by omega) k hk
  ·exact R.out t (by omega) k ((h2 t hm k).1 hk)
 ·intro t k hk
  by_cases hm : t ∈ keys news
  ·exact h7 t hm k hk
  ·exact R.own t k ((h2 t hm k).1 hk)
 ·intro t v hv
  by_cases ht : t ∈ keys news
  ·have:=h8 t ht v hv
   rw [look_upd,if_pos ht]; exact this
  ·rw [look_upd,if_neg ht]
   rw [h1 t ht] at hv
   have a:=R.ali t v hv
   rcases purgeV_undef (keys news) (look σ t) with e | ⟨e,_⟩
   ·rw [e]
    cases htg : (look σ t).target with
    | none => exact aliasOk_none htg
    | some s =>
     have hs:=purge_target e htg
     refine aliasOk_same (S:=Sh ok Os) (O:=Os s) a ?_ ?_ ?_ (h3 s hs)
     ·intro s' u hs' hu
      rw [htg] at hs'; cases hs'
      exact R.rep s u hu
     ·intro s' hs'
      rw [htg] at hs'; cases hs'
      exact h1 s hs
     ·intro s' hs' hn
      rw [htg] at hs'; cases hs'
      rw [look_upd,if_neg hs,purgeV_none _ hn]
   ·rw [e]; trivial
end Go.Proofs.YtpffgegfjpdncaaGreatDoor.Am
namespace Go.Proofs.YtpffgegfjpdncaaGreatDoor.Am
open Go.RowKit AV
set_option linter.unusedVariables false
def keepP (s : Nat) (p : List Nat) : AV → AV
 | .vref t q => if t = s ∧ preB p q = true then .undef else .vref t q
 | .vagg t q => if t = s ∧ (preB p q = true ∨ preB q p = true) then .undef else .vagg t q
 | .vsub t q lo hi => if t = s ∧ preB p q = true then .undef else .vsub t q lo hi
 | .ptr t q => if t = s ∧ sPre p q = true then .undef else .ptr t q
 | x => x
def keepL (s : Nat) (p : List Nat) : St → St
 | [] => []
 | (a,x) :: r => (a,keepP s p x) :: keepL s p r
def setP (σ : St) (s : Nat) (p : List Nat) (z : AV) (news : St) : St:=(s,setAt (look σ s) p z) :: upd (keepL s p σ) news
theorem look_keepL (s : Nat) (p : List Nat) : ∀ (σ : St) (k : Nat),look (keepL s p σ) k = keepP s p (look σ k)
 | [],k => rfl
 | (c,x) :: a,k => by simp only [keepL,look]; split <;> simp [look_keepL s p a k]
theorem look_setP (σ : St) (s : Nat) (p : List Nat) (z : AV) (news : St) (k : Nat) : look (setP σ s p z news) k = if k = s then setAt (look σ s) p z else if k ∈ keys news then look news k else purgeV (keys news) (keepP s p (look σ k)):=by
 simp only [setP,look,look_upd,look_keepL]
 by_cases h : k = s
 ·subst h; simp
 ·simp [h,Ne.symm h]
theorem keepP_undef (s : Nat) (p : List Nat) (x : AV) : keepP s p x = x ∨ keepP s p x = .undef ∧ ∃ t,x.target = some t:=by
 cases x <;> simp only [keepP,AV.target,true_or] <;> split <;> simp_all
theorem keepP_none (s : Nat) (p : List Nat) {x : AV} (hx : x.target = none) : keepP s p x = x:=by
 cases x <;> first | rfl | simp [AV.target] at hx
theorem alias_keep {h h' : Array Obj} {σ σ' : St} {tm tm' : Array Value} {s : Nat} {p : List Nat} {u : Value} {y z : AV} {S O : Nat → Prop} {B' o' : Nat} {nw : List Value}
  (hu : tm[s]? = some u) (hu' : tm'[s]? = some u) (r : RepC h S (look σ s) [u] O) (hg : getAt (look σ s) p = some y) (ha : adrV h p (look σ s) u = some (B',o'))
  (w : Wrote (fun _ => True) h h' B' o' nw) (hl : nw.length = ncells y) (hn : ncells z = ncells y) (hs : look σ' s = setAt (look σ s) p z)
  {x : AV} {v : Value} (a : AliasOk h σ tm x v) (hx : x.target = some s) (hk : keepP s p x = x) : AliasOk h' σ' tm' x v:=by
 have hp : p ≠ []:=by rintro rfl; simp [adrV] at ha
 cases x <;> simp only [AV.target,Option.some.injEq] at hx <;> first | (cases hx; done) | skip
 case vref t q =>
  subst hx
  simp only [keepP,true_and] at hk
  have hk' : preB p q = false:=by
   cases hb : preB p q with
   | false => rfl
   | true => simp [hb] at hk
  have hsp : sPre p q = false:=by simp [sPre,hk']
  obtain ⟨u1,y1,k1,k2,k3,k4⟩:=a
  rw [hu] at k1; cases k1
  obtain ⟨_,z',e2,e3,_⟩:=set_keep hn q p _ hg hsp k2
  refine ⟨u,z',hu',by rw [hs]; exact e2,(e3 hk').1 k3,?_⟩
  rw [hs]
  rcases k4 with k4 | ⟨B,o,k5,k6⟩
  ·exact .inl k4
  ·obtain ⟨w1,w2⟩:=adrV_wrote q p _ r hg ha w hl
   refine .inr ⟨B,o,?_,?_⟩
   ·rw [adrV_set hn q p _ hg hp hsp k2,w1 hsp]; exact k5
   ·rw [(w2 _ _ _ k2 k5 hk').1 k3]; exact k6
 case vagg t q =>
  subst hx
  simp only [keepP,true_and] at hk
  have hk1 : preB p q = false ∧ preB q p = false:=by
   constructor
   ·cases hb : preB p q with
    | false => rfl
    | true => simp [hb] at hk
   ·cases hb : preB q p with
    | false => rfl
    | true => simp [hb] at hk
  have hsp : sPre p q = false:=by simp [sPre,hk1.1]
  obtain ⟨u1,y1,B,o,cs,k1,k2,k3,k4,k5,k6,k7⟩:=a
  rw [hu] at k1; cases k1
  obtain ⟨_,z',e2,_,e4⟩:=set_keep hn q p _ hg hsp k2
  rw [e4 hk1.1 hk1.2] at e2
  obtain ⟨w1,w2⟩:=adrV_wrote q p _ r hg ha w hl
  refine ⟨u,y1,B,o,cs,hu',by rw [hs]; exact e2,k3,?_,k5,?_,k7⟩
  ·rw [hs,adrV_set hn q p _ hg hp hsp k2,w1 hsp]; exact k4
  ·intro j c hc
   have hj:=(List.getElem?_eq_some_iff.1 hc).1
   rw [(w2 _ _ _ k2 k4 hk1.1).2 hk1.2 j (by rw [← k7]; simpa using hj)]
   exact k6 j c hc
 case vsub t q lo hi =>
  subst hx
  simp only [keepP,true_and] at hk
  have hk' : preB p q = false:=by
   cases hb : preB p q with
   | false => rfl
   | true => simp [hb] at hk
  have hsp : sPre p q = false:=by simp [sPre,hk']
  obtain ⟨u1,sz,xs,w0,k1,k2,k3,k4,k5,k6⟩:=a
  rw [hu] at k1; cases k1
  obtain ⟨_,z',e2,e3,_⟩:=set_keep hn q p _ hg hsp k2
  obtain ⟨xs',rfl,hlen⟩:=(e3 hk').2 sz xs rfl
  refine ⟨u,sz,xs',w0,hu',by rw [hs]; exact e2,?_,k4,by rw [hlen]; exact k5,k6⟩
  rw [hs]
  rcases k3 with k3 | ⟨B,o,k7,k8⟩
  ·exact .inl k3
  ·obtain ⟨w1,w2⟩:=adrV_wrote q p _ r hg ha w hl
   refine .inr ⟨B,o,?_,?_⟩
   ·rw [adrV_set hn q p _ hg hp hsp k2,w1 hsp]; exact k7
   ·rw [(w2 _ _ _ k2 k7 hk').1 rfl]; exact k8
 case ptr t q =>
  subst hx
  simp only [keepP,true_and] at hk
  have hsp : sPre p q = false:=by
   cases hb : sPre p q with
   | false => rfl
   | true => simp [hb] at hk
  obtain ⟨u1,y1,B,o,k1,k2,k3,k4⟩:=a
  rw [hu] at k1; cases k1
  obtain ⟨_,z',e2,_,_⟩:=set_keep hn q p _ hg hsp k2
  obtain ⟨w1,w2⟩:=adrV_wrote q p _ r hg ha w hl
  exact ⟨u,z',B,o,hu',by rw [hs]; exact e2,by rw [hs,adrV_set hn q p _ hg hp hsp k2,w1 hsp]; exact k3,k4⟩
theorem setAt_target {x : AV} {i : Nat} {p : List Nat} {y : AV} (h : x.target = none) : (setAt x (i :: p) y).target = none:=by
 cases x with
 | box x => by_cases hi : i = 0 <;> simp [setAt,hi,AV.target]
 | _ => first | rfl | (simp [AV.target] at h)
theorem Rel.stepP {h0 : Array Obj} {ok O0 : Nat → Prop} {σ : St} {tm : Array Value} {h : Array Obj} {Os : Nat → Nat → Prop} (R : Rel h0 ok O0 σ tm h Os)
  (news : St) (tm' : Array Value) (h' : Array Obj) (Os' : Nat → Nat → Prop) {s : Nat} {p : List Nat} {u : Value} {y z : AV} {B' o' : Nat} {nw : List Value}
  (hs : s ∉ keys news) (hu : tm[s]? = some u) (hg : getAt (look σ s) p = some y) (ha : adrV h p (look σ s) u = some (B',o')) (hn : ncells z = ncells y)
  (w : Wrote (fun _ => True) h h' B' o' nw) (hl : nw.length = ncells y)
  (hsz : tm'.size = tm.size) (h1 : ∀ t,t ∉ keys news → tm'[t]? = tm[t]?)
  (h2 : ∀ t,t ∉ keys news → t ≠ s → ∀ k,Os' t k ↔ Os t k)
  (h4 : ∀ k,k < h.size → Sh ok Os k → ∀ t,¬ Os' t k)
  (h5 : ∀ t,t ∈ keys news → ∀ v,tm'[t]? = some v → RepW h' (Sh ok Os') (look news t) v (Os' t))
  (h5s : RepW h' (Sh ok Os') (setAt (look σ s) p z) u (Os' s))
  (h5' : ∀ t,t ∈ keys news → tm.size ≤ t → Emp (Os' t))
  (h6 : ∀ s t k,Os' s k → Os' t k → s = t)
  (h7 : ∀ t k,Os' t k → O0 k ∨ h0.size ≤ k)
  (h8 : ∀ t,t ∈ keys news → (look news t).target = none)
  (h9 : h.size ≤ h'.size) : Rel h0 ok O0 (setP σ s p z news) tm' h' Os':=by
 have hp : p ≠ []:=by rintro rfl; simp [adrV] at ha
 have r':=repC_of_get (y:=y) (R.rep s u hu) ha
 obtain ⟨cy,Oy,Ob,q1,q2,q3,q4,q5,q6,_⟩:=placeV p _ r' hg ha
 have hBs : Os s B':=(q3 B').2 (.inr q6)
 have hxn : (look σ s).target = none:=by
  cases p with
  | nil => exact absurd rfl hp
  | cons i p => cases hl : look σ s <;> simp_all [adrV,AV.target]
 have hother : ∀ t,t ≠ s → ∀ k,Os t k → h'[k]? = h[k]?:=by
  intro t ht k hk
  refine w.other k trivial ?_
  rintro rfl
  exact ht (R.dis _ _ _ hk hBs)
 have hsh : ∀ k,Sh ok Os k → h'[k]? = h[k]?:=by
  intro k hk
  refine w.other k trivial ?_
  rintro rfl
  exact hk.2 s hBs
 have hag : ∀ t,t ≠ s → Agree h h' (Sh ok Os) (Sh ok Os') (Os t):=fun t ht =>
  ⟨fun k hk hlt => ⟨⟨hk.1,h4 k hlt hk⟩,hsh k hk⟩,hother t ht⟩
 have hlk : ∀ t,t ∉ keys news → t ≠ s → (look σ t = look (setP σ s p z news) t ∧ keepP s p (look σ t) = look σ t ∧ purgeV (keys news) (look σ t) = look σ t) ∨ (look (setP σ s p z news) t = .undef ∧ ∃ s',(look σ t).target = some s'):=by
  intro t ht hts
  rw [look_setP,if_neg hts,if_neg ht]
  rcases keepP_undef s p (look σ t) with e | ⟨e,e'⟩
  ·rw [e]
   rcases purgeV_undef (keys news) (look σ t) with e2 | ⟨e2,s',hs',_⟩
   ·rw [e2]; exact .inl ⟨rfl,rfl,rfl⟩
   ·exact .inr ⟨e2,s',hs'⟩
  ·rw [e]; exact .inr ⟨rfl,e'⟩
 refine ⟨?_,?_,h6,h7,?_,Nat.le_trans R.size h9,?_⟩
 ·intro t v hv
  by_cases hts : t = s
  ·subst hts
   rw [look_setP,if_pos rfl]
   rw [h1 t hs,hu] at hv
   cases hv
   exact h5s
  ·by_cases ht : t ∈ keys news
   ·rw [look_setP,if_neg hts,if_pos ht]; exact h5 t ht v hv
   ·rw [h1 t ht] at hv
    have r:=repW_cong _ (repW_mono _ (R.rep t v hv) (hag t hts)) (fun k => h2 t ht hts k)
    rcases hlk t ht hts with ⟨e,_⟩ | ⟨e,s',hs'⟩
    ·rw [← e]; exact r
    ·rw [e]
     simp only [RepW]; exact repW_alias r hs'
 ·intro t ht k hk
  by_cases hm : t ∈ keys news
  ·exact h5' t hm (by omega) k hk
  ·have hts : t ≠ s:=by
    rintro rfl
    have:=(Array.getElem?_eq_some_iff.1 hu).1
    omega
   exact R.out t (by omega) k ((h2 t hm hts k).1 hk)
 ·intro t v hv
  by_cases hts : t = s
  ·subst hts
   rw [look_setP,if_pos rfl]
   refine aliasOk_none ?_
   cases p with
   | nil => exact absurd rfl hp
   | cons i p => exact setAt_target hxn
  ·by_cases ht : t ∈ keys news
   ·rw [look_setP,if_neg hts,if_pos ht]; exact aliasOk_none (h8 t ht)
   ·rw [h1 t ht] at hv
    have a:=R.ali t v hv
    rcases hlk t ht hts with ⟨e,e2,e3⟩ | ⟨e,_⟩
    ·rw [← e]
     cases htg : (look σ t).target with
     | none => exact aliasOk_none htg
     | some s' =>
      have hs':=purge_target e3 htg
      by_cases hss : s' = s
      ·subst hss
       exact alias_keep hu (by rw [h1 _ hs]; exact hu) r' hg ha w hl hn (by rw [look_setP,if_pos rfl]) a htg e2
      ·refine aliasOk_same (S:=Sh ok Os) (O:=Os s') a ?_ ?_ ?_ (hother s' hss)
       ·intro s'' u' hs'' hu'
        rw [htg] at hs''; cases hs''
        exact R.rep s' u' hu'
       ·intro s'' hs''
        rw [htg] at hs''; cases hs''
        exact h1 s' hs'
       ·intro s'' hs'' hn''
        rw [htg] at hs''; cases hs''
        rw [look_setP,if_neg hss,if_neg hs',keepP_none _ _ hn'',purgeV_none _ hn'']
    ·rw [e]; trivial
 ·intro k hk hn'
  rw [← R.keep k hk hn']
  refine w.other k trivial ?_
  rintro rfl
  rcases R.own s _ hBs with hh | hh
  ·exact hn' hh
  ·omega
end Go.Proofs.YtpffgegfjpdncaaGreatDoor.Am
namespace Go.Proofs.YtpffgegfjpdncaaGreatDoor.Am
open Go.RowKit AV
set_option linter.unusedVariables false
mutual
def leV : AV → AV → Prop
 | .sl o z xs,.sl o' z' ys => (o = o' ∧ z = z' ∧ xs = ys) ∨ (xs = [] ∧ ys = [] ∧ ((o = true ∧ z = 0) ∨ (o = false ∧ o' = false)))
 | .agg fs,.agg gs => leL fs gs
 | .box x,.box y => leV x y
 | .tup fs,.tup gs => leL fs gs
 | x,y => x = y
def leL : List AV → List AV → Prop
 | [],[] => True
 | x :: xs,y :: ys => leV x y ∧ leL xs ys
 | _,_ => False
end
mutual
theorem leV_refl : ∀ x : AV,leV x x
 | .undef => rfl
 | .oth _ => rfl
 | .int .. => rfl
 | .bool _ => rfl
 | .str _ => rfl
 | .sl o z xs => .inl ⟨rfl,rfl,rfl⟩
 | .agg fs => leL_refl fs
 | .arr .. => rfl
 | .tup fs => leL_refl fs
 | .box x => leV_refl x
 | .dptr _ => rfl
 | .vref .. => rfl
 | .vagg .. => rfl
 | .vsub .. => rfl
 | .ptr .. => rfl
 | .mp _ => rfl
theorem leL_refl : ∀ xs : List AV,leL xs xs
 | [] => trivial
 | x :: xs => ⟨leV_refl x,leL_refl xs⟩
end
section
variable {h : Array Obj} {S : Nat → Prop}
mutual
theorem repC_le : ∀ (x y : AV) {cs : List Value} {O : Nat → Prop},leV x y → RepC h S x cs O → RepC h S y cs O
 | .sl o z xs,y,cs,O,hl,r => by
  cases y with
  | sl o' z' ys =>
   rcases hl with ⟨rfl,rfl,rfl⟩ | ⟨rfl,rfl,hh⟩
   ·exact r
   ·rcases hh with ⟨rfl,rfl⟩ | ⟨rfl,rfl⟩
    ·simp only [RepC] at r
     rcases r with ⟨_,r2,r3⟩ | ⟨hsz,_⟩
     ·cases o' with
      | true => simp only [RepC]; exact .inl ⟨trivial,r2,r3⟩
      | false =>
       simp only [RepC]
       exact ⟨⟨none,0,[],by simpa using r2,by simp,by simp only [RepL]; exact ⟨trivial,emp_false⟩,by simp,by simp⟩,r3⟩
     ·exact absurd hsz (Nat.lt_irrefl _)
    ·simp only [RepC] at r ⊢
     obtain ⟨⟨A,cap,m,r1,r2,r3,_,r5⟩,r6⟩:=r
     exact ⟨⟨A,cap,m,r1,r2,r3,by simp,fun h => absurd h (by simp)⟩,r6⟩
  | _ => cases hl
 | .agg fs,y,cs,O,hl,r => by
  cases y with
  | agg gs => simp only [RepC] at r ⊢; exact repL_le fs gs hl r
  | _ => cases hl
 | .box x,y,cs,O,hl,r => by
  cases y with
  | box y =>
   simp only [RepC] at r ⊢
   obtain ⟨b,c,e,m,O',h1,h2,h3,h4,h5,h6⟩:=r
   exact ⟨b,c,e,m,O',h1,h2,h3,repC_le x y hl h4,h5,h6⟩
  | _ => cases hl
 | .tup fs,y,cs,O,hl,r => by simp only [RepC] at r
 | .undef,y,cs,O,hl,r => by cases y <;> first | exact r | cases hl
 | .oth _,y,cs,O,hl,r => by cases y <;> first | (cases hl; exact r) | cases hl
 | .int ..,y,cs,O,hl,r => by cases y <;> first | (cases hl; exact r) | cases hl
 | .bool _,y,cs,O,hl,r => by cases y <;> first | (cases hl; exact r) | cases hl
 | .str _,y,cs,O,hl,r => by cases y <;> first | (cases hl; exact r) | cases hl
 | .arr ..,y,cs,O,hl,r => by cases y <;> first | (cases hl; exact r) | cases hl
 | .dptr _,y,cs,O,hl,r => by cases y <;> first | (cases hl; exact r) | cases hl
 | .mp _,y,cs,O,hl,r => by cases y <;> first | (cases hl; exact r) | cases hl
 | .vref ..,y,cs,O,hl,r => by simp only [RepC] at r
 | .vagg ..,y,cs,O,hl,r => by simp only [RepC] at r
 | .vsub ..,y,cs,O,hl,r => by simp only [RepC] at r
 | .ptr ..,y,cs,O,hl,r => by simp only [RepC] at r
theorem repL_le : ∀ (xs ys : List AV) {cs : List Value} {O : Nat → Prop},leL xs ys → RepL h S xs cs O → RepL h S ys cs O
 | [],ys,cs,O,hl,r => by
  cases ys with
  | nil => exact r
  | cons _ _ => exact hl.elim
 | x :: xs,ys,cs,O,hl,r => by
  cases ys with
  | nil => exact hl.elim
  | cons y ys =>
   simp only [RepL] at r ⊢
   obtain ⟨c1,c2,O1,O2,h1,h2,h3,h4,h5⟩:=r
   exact ⟨c1,c2,O1,O2,h1,h2,h3,repC_le x y hl.1 h4,repL_le xs ys hl.2 h5⟩
end
mutual
theorem repW_le : ∀ (x y : AV) {v : Value} {O : Nat → Prop},leV x y → RepW h S x v O → RepW h S y v O
 | .sl o z xs,y,v,O,hl,r => by
  cases y with
  | sl o' z' ys => simp only [RepW] at r ⊢; exact repC_le _ _ hl r
  | _ => cases hl
 | .agg fs,y,v,O,hl,r => by
  cases y with
  | agg gs =>
   simp only [RepW] at r ⊢
   obtain ⟨cs,e,r⟩:=r
   exact ⟨cs,e,repC_le _ _ hl r⟩
  | _ => cases hl
 | .box x,y,v,O,hl,r => by
  cases y with
  | box y => simp only [RepW] at r ⊢; exact repC_le _ _ hl r
  | _ => cases hl
 | .tup fs,y,v,O,hl,r => by
  cases y with
  | tup gs =>
   simp only [RepW] at r ⊢
   obtain ⟨l,e,r⟩:=r
   exact ⟨l,e,repWs_le fs gs hl r⟩
  | _ => cases hl
 | .undef,y,v,O,hl,r => by cases y <;> first | exact r | cases hl
 | .oth _,y,v,O,hl,r => by cases y <;> first | (cases hl; exact r) | cases hl
 | .int ..,y,v,O,hl,r => by cases y <;> first | (cases hl; exact r) | cases hl
 | .bool _,y,v,O,hl,r => by cases y <;> first | (cases hl; exact r) | cases hl
 | .str _,y,v,O,hl,r => by cases y <;> first | (cases hl; exact r) | cases hl
 | .arr ..,y,v,O,hl,r => by cases y <;> first | (cases hl; exact r) | cases hl
 | .dptr _,y,v,O,hl,r => by cases y <;> first | (cases hl; exact r) | cases hl
 | .mp _,y,v,O,hl,r => by cases y <;> first | (cases hl; exact r) | cases hl
 | .vref ..,y,v,O,hl,r => by cases y <;> first | (cases hl; exact r) | cases hl
 | .vagg ..,y,v,O,hl,r => by cases y <;> first | (cases hl; exact r) | cases hl
 | .vsub ..,y,v,O,hl,r => by cases y <;> first | (cases hl; exact r) | cases hl
 | .ptr ..,y,v,O,hl,r => by cases y <;> first | (cases hl; exact r) | cases hl
theorem repWs_le : ∀ (xs ys : List AV) {vs : List Value} {O : Nat → Prop},leL xs ys → RepWs h S xs vs O → RepWs h S ys vs O
 | [],ys,vs,O,hl,r => by
  cases ys with
  | nil => exact r
  | cons _ _ => exact hl.elim
 | x :: xs,ys,vs,O,hl,r => by
  cases ys with
  | nil => exact hl.elim
  | cons y ys =>
   simp only [RepWs] at r ⊢
   obtain ⟨v,vs',O1,O2,h1,h2,h3,h4,h5⟩:=r
   exact ⟨v,vs',O1,O2,h1,h2,h3,repW_le x y hl.1 h4,repWs_le xs ys hl.2 h5⟩
end
end
theorem leV_target {x y : AV} (h : leV x y) : y.target = x.target:=by
 cases x <;> cases y <;> first | rfl | (cases h; done) | (cases h; rfl)
theorem leV_rfl (x : AV) : leV x x = True:=eq_true (leV_refl x)
theorem leL_rfl (x : List AV) : leL x x = True:=eq_true (leL_refl x)
theorem leV_int (k k' a b) : leV (.int k a) (.int k' b) = (k = k' ∧ a = b):=by simp [leV]
theorem leV_bool (a b) : leV (.bool a) (.bool b) = (a = b):=by simp [leV]
theorem leV_str (a b) : leV (.str a) (.str b) = (a = b):=by simp [leV]
theorem leV_sl (o o' z z' xs ys) : leV (.sl o z xs) (.sl o' z' ys) = ((o = o' ∧ z = z' ∧ xs = ys) ∨ (xs = [] ∧ ys = [] ∧ ((o = true ∧ z = 0) ∨ (o = false ∧ o' = false)))):=by simp [leV]
theorem leL_cons (x xs y ys) : leL (x :: xs) (y :: ys) = (leV x y ∧ leL xs ys):=by simp [leL]
end Go.Proofs.YtpffgegfjpdncaaGreatDoor.Am
namespace Go.Proofs.YtpffgegfjpdncaaGreatDoor.Am
open Go.RowKit AV
set_option linter.unusedVariables false
def szOf (P : Program) (t : TypeId) : Nat:=match P.info? t with | some i => i.size | none => 0
def bytesOf_ (P : Program) (t : TypeId) : Nat:=match P.info? t with | some i => i.bytes | none => 0
def aggTy (P : Program) (t : TypeId) : Option Bool:=match P.underlying t with | some (.struct _) | some (.array _ _) => some true | some _ => some false | none => none
def zeroA (P : Program) : Nat → TypeId → AV
 | 0,_ => .undef
 | n + 1,t => match P.underlying t with
  | some .bool => .bool false
  | some (.int k) => .int k 0
  | some .string => .str []
  | some (.slice e) => .sl true (szOf P e) []
  | some (.struct fs) => .agg (fs.toList.map fun f => zeroA P n f.type)
  | some (.array len e) => .arr (szOf P e) (List.replicate len (zeroA P n e))
  | some (.pointer _) => .oth (.pointer none)
  | some (.interface _) => .oth .nilIface
  | some (.func ..) => .oth .nilFunc
  | some (.map ..) => .oth (.map none)
  | _ => .undef
def flatOth : Value → Value → Bool
 | .pointer none,.pointer none | .nilIface,.nilIface | .nilFunc,.nilFunc | .map none,.map none => true
 | _,_ => false
mutual
def flatC : AV → List Value → Option (List Value)
 | .int k n,.int k' n' :: r => if k = k' ∧ n = n' then some r else none
 | .bool b,.bool b' :: r => if b = b' then some r else none
 | .str [],.string ⟨⟨[]⟩⟩ :: r => some r
 | .sl true _ [],.slice none 0 0 :: r => some r
 | .oth v,w :: r => if flatOth v w then some r else none
 | .agg fs,cs => flatL fs cs
 | .arr sz xs,cs => if xs.all (fun x => x.ncells == sz) then flatL xs cs else none
 | _,_ => none
def flatL : List AV → List Value → Option (List Value)
 | [],cs => some cs
 | x :: xs,cs => match flatC x cs with | some r => flatL xs r | none => none
end
structure TI where
 size : Nat
 bytes : Nat
 agg : Option Bool
 kind : Nat
 esz : Nat
 ebytes : Nat
 eagg : Option Bool
 alen : Nat
 fields : List (Nat × Nat × Option Bool)
 zero : AV
 ezero : AV
 zok : Bool
 ezok : Bool
def zokOf (P : Program) (t : TypeId) (z : AV) : Bool:=match P.info? t with
 | some i => (match i.zero with | some v => (match flatC z v.cells.toList with | some [] => v.cells.size == i.size | _ => false) | none => false)
 | none => false
def tinfo (P : Program) (t : TypeId) : TI :=
 let b : TI:={ size:=szOf P t,bytes:=bytesOf_ P t,agg:=aggTy P t,kind:=0,esz:=0,ebytes:=0,eagg:=none,alen:=0,fields:=[],zero:=zeroA P 12 t,ezero:=.undef,zok:=zokOf P t (zeroA P 12 t),ezok:=false }
 match P.underlying t with
 | some (.slice e) => { b with kind:=1,esz:=szOf P e,ebytes:=bytesOf_ P e,eagg:=aggTy P e,ezero:=zeroA P 12 e,ezok:=zokOf P e (zeroA P 12 e) }
 | some (.array n e) => { b with kind:=2,esz:=szOf P e,ebytes:=bytesOf_ P e,eagg:=aggTy P e,alen:=n,ezero:=zeroA P 12 e,ezok:=zokOf P e (zeroA P 12 e) }
 | some (.struct fs) => { b with kind:=3,fields:=fs.toList.map fun f => (f.offset,szOf P f.type,aggTy P f.type) }
 | some .string => { b with kind:=4 }
 | some (.int _) => { b with kind:=5 }
 | some .bool => { b with kind:=6 }
 | some (.pointer _) => { b with kind:=7 }
 | _ => b
def constV : Value → AV
 | .int k n => .int k n
 | .bool b => .bool b
 | .string s => .str s.data.toList
 | .slice none 0 0 => .sl true 0 []
 | .pointer none => .oth (.pointer none)
 | .nilIface => .oth .nilIface
 | .nilFunc => .oth .nilFunc
 | .map none => .oth (.map none)
 | _ => .undef
def ev (σ : St) : Operand → AV
 | .tmp t => look σ t
 | .const v => constV v
 | .func f => .oth (.func (.func f) #[] #[])
 | .global _ => .undef
inductive Src where
 | slo (s : Nat) (p : List Nat) (sz : Nat) (xs : List AV)
 | sls (sz : Nat) (xs : List AV)
 | pto (s : Nat) (p : List Nat) (y : AV)
 | pts (y : AV)
 | va (y : AV)
 | bad
def srcOf (σ : St) (x : Operand) : Src :=
 match ev σ x with
 | .sl true sz xs => (match x with | .tmp t => .slo t [] sz xs | _ => (match xs with | [] => .sls sz [] | _ => .bad))
 | .sl false sz xs => .sls sz xs
 | .vref s p => (match getAt (look σ s) p with | some (.sl true sz xs) => .slo s p sz xs | some (.box y) => .pto s (p ++ [0]) y | _ => .bad)
 | .box y => (match x with | .tmp t => .pto t [0] y | _ => .bad)
 | .ptr s p => (match getAt (look σ s) p with | some y => .pto s p y | none => .bad)
 | .dptr y => .pts y
 | .undef => .bad
 | y => if plain y then .va y else .bad
def moveM : AV → Operand → (AV → Prop) → Prop
 | .mp _,.tmp t,K => K (.vref t [])
 | _,_,_ => False
def moveW (σ : St) (x : Operand) (K : AV → Prop) : Prop :=
 match srcOf σ x with
 | .slo s p _ _ => K (.vref s p)
 | .sls _ _ => K (ev σ x)
 | .pto s p _ => K (.ptr s p)
 | .pts y => K (.dptr y)
 | .va y => K y
 | .bad => moveM (ev σ x) x K
def nilW (σ : St) (x : Operand) (K : AV → Prop) : Prop:=match srcOf σ x with
 | .pto s p _ => K (.ptr s p)
 | .pts y => K (.dptr y)
 | _ => False
def pickW (σ : St) (c a b : Operand) (K : AV → Prop) : Prop :=
 match ev σ c with
 | .bool t => if t then moveW σ a K else moveW σ b K
 | _ => False
def intOp (op : BinOp) (k : IntKind) (a b : Int) : Option AV :=
 match op with
 | .add => some (.int k (k.wrap (a + b)))
 | .sub => some (.int k (k.wrap (a - b)))
 | .mul => some (.int k (k.wrap (a * b)))
 | .quo => if b = 0 then none else some (.int k (k.wrap (a.tdiv b)))
 | .rem => if b = 0 then none else some (.int k (a.tmod b))
 | .eql => some (.bool (a == b))
 | .neq => some (.bool (a != b))
 | .lss => some (.bool (decide (a < b)))
 | .leq => some (.bool (decide (a ≤ b)))
 | .gtr => some (.bool (decide (a > b)))
 | .geq => some (.bool (decide (a ≥ b)))
 | .xor => some (.int k (k.wrap (BitVec.ofInt k.bits a ^^^ BitVec.ofInt k.bits b).toNat))
 | _ => none
def strOp (op : BinOp) (a b : List UInt8) : Option AV :=
 match op with
 | .add => if a.length + b.length ≤ 9223372036854775807 then some (.str (a ++ b)) else none
 | .eql => some (.bool (a == b))
 | .neq => some (.bool !(a == b))
 | .lss => some (.bool (Op.bytesLess a b))
 | .leq => some (.bool (Op.bytesLess a b || a == b))
 | .gtr => some (.bool !(Op.bytesLess a b || a == b))
 | .geq => some (.bool !(Op.bytesLess a b))
 | _ => none
def eqS : AV → AV → Option Bool
 | .int k a,.int k' b => if k = k' then some (a == b) else none
 | .bool a,.bool b => some (a == b)
 | .str a,.str b => some (a == b)
 | _,_ => none
def eqSL : List AV → List AV → Option Bool
 | [],[] => some true
 | x :: xs,y :: ys => (match eqS x y,eqSL xs ys with | some a,some b => some (a && b) | _,_ => none)
 | _,_ => none
def avK : AV → Nat
 | .str _ => 4
 | .int _ _ => 5
 | .bool _ => 6
 | _ => 0
def tyK (P : Program) (t : TypeId) : Nat:=match P.underlying t with
 | some .string => 4
 | some (.int _) => 5
 | some .bool => 6
 | _ => 1
def flatGo : Nat → List Field → Bool
 | _,[] => true
 | i,f :: r => f.name != "_" && f.offset == i && flatGo (i + 1) r
def flatK (P : Program) (t : TypeId) : Option (List Nat):=match P.underlying t with
 | some (.struct fs) => if flatGo 0 fs.toList && !P.stoodInHeld t && !P.eqGuardType P.depth t then some (fs.toList.map fun f => tyK P f.type) else none
 | _ => none
def eqAgg (ks : Option (List Nat)) (op : BinOp) (fs gs : List AV) : Option AV:=match ks with
 | some ks => if fs.map avK = ks ∧ gs.map avK = ks then (match eqSL fs gs with
  | some b => (match op with | .eql => some (.bool b) | .neq => some (.bool !b) | _ => none)
  | none => none) else none
 | none => none
def binA (P : Program) (op : BinOp) (t : TypeId) (x y : AV) : Option AV :=
 match x,y with
 | .int k a,.int k' b => if k = k' then intOp op k a b else none
 | .str a,.str b => strOp op a b
 | .bool a,.bool b => (match P.underlying t with | some .bool => (match op with | .eql => some (.bool (a == b)) | .neq => some (.bool (a != b)) | _ => none) | _ => none)
 | .agg fs,.agg gs => eqAgg (flatK P t) op fs gs
 | _,_ => none
def unA (op : UnOp) (x : AV) : Option AV :=
 match op,x with
 | .not,.bool b => some (.bool !b)
 | .neg,.int k n => some (.int k (k.wrap (0 - n)))
 | _,_ => none
def needW (o : Option AV) (K : AV → Prop) : Prop:=match o with | some y => K y | none => False
def fieldAddrW (P : Program) (σ : St) (t : TypeId) (x : Operand) (f : Nat) (K : AV → Prop) : Prop :=
 match (tinfo P t).fields[f]? with
 | some (off,fsz,_) => 0 < fsz ∧ (match srcOf σ x with
  | .pto s p (.agg fs) => f < fs.length ∧ ncellsL (fs.take f) = off ∧ K (.ptr s (p ++ [f]))
  | .pts (.agg fs) => f < fs.length ∧ ncellsL (fs.take f) = off ∧ K (.dptr (fs.getD f .undef))
  | _ => False)
 | none => False
def indexAddrW (P : Program) (σ : St) (t : TypeId) (x i : Operand) (K : AV → Prop) : Prop :=
 match ev σ i with
 | .int k n =>
  (match srcOf σ x with
  | .slo s p sz xs => (tinfo P t).kind = 1 ∧ (tinfo P t).esz = sz ∧ 0 < sz ∧ 0 ≤ n ∧ n < xs.length ∧ K (.ptr s (p ++ [n.toNat]))
  | .sls sz xs => (tinfo P t).kind = 1 ∧ (tinfo P t).esz = sz ∧ 0 < sz ∧ 0 ≤ n ∧ n < xs.length ∧ K (.dptr (xs.getD n.toNat .undef))
  | .pto s p (.arr sz xs) => (tinfo P t).kind = 2 ∧ (tinfo P t).esz = sz ∧ 0 < sz ∧ (tinfo P t).alen = xs.length ∧ 0 ≤ n ∧ n < xs.length ∧ K (.ptr s (p ++ [n.toNat]))
  | .pts (.arr sz xs) => (tinfo P t).kind = 2 ∧ (tinfo P t).esz = sz ∧ 0 < sz ∧ (tinfo P t).alen = xs.length ∧ 0 ≤ n ∧ n < xs.length ∧ K (.dptr (xs.getD n.toNat .undef))
  | _ => False)
 | _ => False
def loaded (s : Nat) (p : List Nat) (y : AV) : Option AV :=
 if plain y then (match y with | .undef => none | .tup _ => none | y => some y) else if y.hdr then some (.vref s p) else if y.isAgg then some (.vagg s p) else none
def loadW (P : Program) (σ : St) (t : TypeId) (x : Operand) (K : AV → Prop) : Prop :=
 match srcOf σ x with
 | .pto s p y => (tinfo P t).agg = some y.isAgg ∧ (tinfo P t).size = ncells y ∧ needW (loaded s p y) K
 | .pts y => (tinfo P t).agg = some y.isAgg ∧ (tinfo P t).size = ncells y ∧ needW (if plain y then (match y with | .undef => none | .tup _ => none | y => some y) else none) K
 | _ => False
def lenW (σ : St) (P : Program) (t : TypeId) (x : Operand) (K : AV → Prop) : Prop :=
 match srcOf σ x with
 | .slo _ _ _ xs => (tinfo P t).kind = 1 ∧ K (.int .i64 xs.length)
 | .sls _ xs => (tinfo P t).kind = 1 ∧ K (.int .i64 xs.length)
 | .va (.str s) => (tinfo P t).kind = 4 ∧ K (.int .i64 s.length)
 | _ => False
def indexW (P : Program) (σ : St) (t : TypeId) (x i : Operand) (K : AV → Prop) : Prop :=
 match ev σ i with
 | .int k n =>
  (match ev σ x with
  | .str s => (tinfo P t).kind = 4 ∧ 0 ≤ n ∧ n < s.length ∧ K (.int .u8 (s.getD n.toNat 0).toNat)
  | .arr sz xs => plainL xs = true ∧ (tinfo P t).kind = 2 ∧ (tinfo P t).esz = sz ∧ 0 < sz ∧ (tinfo P t).alen = xs.length ∧ (∀ x ∈ xs,(tinfo P t).eagg = some x.isAgg ∧ x.stor = true) ∧ 0 ≤ n ∧ n < xs.length ∧ K (xs.getD n.toNat .undef)
  | _ => False)
 | _ => False
def convW (P : Program) (σ : St) (src dst : TypeId) (x : Operand) (K : AV → Prop) : Prop :=
 match ev σ x with
 | .int _ n => (match P.underlying dst with | some (.int k) => (tinfo P src).kind = 5 ∧ K (.int k (k.wrap n)) | _ => False)
 | _ => False
def sliceStrW (P : Program) (σ : St) (t : TypeId) (x : Operand) (lo hi : Option Operand) (K : AV → Prop) : Prop :=
 match ev σ x with
 | .str s => (tinfo P t).kind = 4 ∧
  (match (match lo with | some l => (match ev σ l with | .int _ n => some n | _ => none) | none => some 0),(match hi with | some l => (match ev σ l with | .int _ n => some n | _ => none) | none => some (s.length : Int)) with
  | some l,some h => 0 ≤ l ∧ l ≤ h ∧ h ≤ s.length ∧ K (.str ((s.take h.toNat).drop l.toNat))
  | _,_ => False)
 | .sl false sz xs => (tinfo P t).kind = 1 ∧ (tinfo P t).esz = sz ∧ 0 < sz ∧
  (match (match lo with | some l => (match ev σ l with | .int _ n => some n | _ => none) | none => some 0),(match hi with | some l => (match ev σ l with | .int _ n => some n | _ => none) | none => some (xs.length : Int)) with
  | some l,some h => 0 ≤ l ∧ l ≤ h ∧ h ≤ xs.length ∧ K (.sl false sz ((xs.take h.toNat).drop l.toNat))
  | _,_ => False)
 | .vref s p => (match getAt (look σ s) p with
  | some (.sl true sz xs) => (tinfo P t).kind = 1 ∧ ((tinfo P t).esz = sz ∨ xs = []) ∧ 0 < (tinfo P t).esz ∧
   (match (match lo with | some l => (match ev σ l with | .int _ n => some n | _ => none) | none => some 0),(match hi with | some l => (match ev σ l with | .int _ n => some n | _ => none) | none => some (xs.length : Int)) with
   | some l,some h => 0 ≤ l ∧ l ≤ h ∧ h ≤ xs.length ∧ K (.vsub s p l.toNat h.toNat)
   | _,_ => False)
  | _ => False)
 | _ => False
end Go.Proofs.YtpffgegfjpdncaaGreatDoor.Am
namespace Go.Proofs.YtpffgegfjpdncaaGreatDoor.Am
open Go.RowKit AV
set_option linter.unusedVariables false
def opndOk (n : Nat) : Operand → Bool
 | .tmp t => decide (t < n)
 | _ => true
theorem constV_rep (h : Array Obj) (S : Nat → Prop) (c : Value) : RepW h S (constV c) c (fun _ => False):=by
 unfold constV
 split <;> simp only [RepW,RepC] <;> first | exact emp_false | exact ⟨rfl,emp_false⟩ | exact .inl ⟨trivial,trivial,emp_false⟩ | exact ⟨⟨rfl,rfl⟩,emp_false⟩ | exact ⟨⟨trivial,rfl⟩,emp_false⟩ | exact ⟨by simp,emp_false⟩
theorem constV_target (c : Value) : (constV c).target = none:=by unfold constV; split <;> rfl
section
variable {h0 : Array Obj} {ok O0 : Nat → Prop} {σ : St} {a : Act} {w : World} {Os : Nat → Nat → Prop}
def opO (Os : Nat → Nat → Prop) : Operand → Nat → Prop
 | .tmp t => Os t
 | _ => fun _ => False
theorem ev_rep (R : Rel h0 ok O0 σ a.tmps w.heap Os) {x : Operand} (hx : opndOk a.tmps.size x = true) :
  RepW w.heap (Sh ok Os) (ev σ x) (a.eval x) (opO Os x) ∧ AliasOk w.heap σ a.tmps (ev σ x) (a.eval x):=by
 cases x with
 | tmp t =>
  have ht : t < a.tmps.size:=by simpa [opndOk] using hx
  have hv : a.tmps[t]? = some (a.eval (.tmp t)):=by simp [Act.eval,ht]
  exact ⟨R.rep t _ hv,R.ali t _ hv⟩
 | const v => exact ⟨constV_rep _ _ _,aliasOk_none (constV_target v)⟩
 | global g => exact ⟨by simp only [ev,RepW,opO]; exact emp_false,trivial⟩
 | func f => exact ⟨by simp only [ev,RepW,RepC,opO,Act.eval]; exact ⟨⟨trivial,rfl⟩,emp_false⟩,trivial⟩
theorem add_at (b o n : Nat) : (⟨b,o,none⟩ : Addr).add n = ⟨b,o + n,none⟩:=by
 unfold Addr.add; split <;> simp_all
theorem src_slo (R : Rel h0 ok O0 σ a.tmps w.heap Os) {x : Operand} (hx : opndOk a.tmps.size x = true) {s : Nat} {p : List Nat} {sz : Nat} {xs : List AV} (e : srcOf σ x = .slo s p sz xs) :
  ∃ u,a.tmps[s]? = some u ∧ RepW w.heap (Sh ok Os) (look σ s) u (Os s) ∧ getAt (look σ s) p = some (.sl true sz xs) ∧ ValAt w.heap (look σ s) u p (a.eval x):=by
 have hr:=ev_rep R hx
 unfold srcOf at e
 split at e
 ·rename_i sz' xs' he
  split at e
  ·rename_i t
   simp only [Src.slo.injEq] at e
   obtain ⟨rfl,rfl,rfl,rfl⟩:=e
   have ht : t < a.tmps.size:=by simpa [opndOk] using hx
   simp only [ev] at he
   refine ⟨a.eval (.tmp t),by simp [Act.eval,ht],hr.1,by rw [he]; rfl,.inl ⟨rfl,rfl⟩⟩
  ·split at e <;> cases e
 ·cases e
 ·rename_i s' p' he
  rw [he] at hr
  obtain ⟨u,y,h1,h2,h3,h4⟩:=hr.2
  simp only [h2] at e
  split at e
  ·rename_i sz' xs' he2
   simp only [Option.some.injEq] at he2
   subst he2
   simp only [Src.slo.injEq] at e
   obtain ⟨rfl,rfl,rfl,rfl⟩:=e
   exact ⟨u,h1,R.rep s' u h1,h2,h4⟩
  ·cases e
  ·cases e
 ·split at e <;> cases e
 ·split at e <;> cases e
 ·cases e
 ·cases e
 ·split at e <;> cases e
theorem src_pto (R : Rel h0 ok O0 σ a.tmps w.heap Os) {x : Operand} (hx : opndOk a.tmps.size x = true) {s : Nat} {p : List Nat} {y : AV} (e : srcOf σ x = .pto s p y) :
  ∃ u B o,a.tmps[s]? = some u ∧ RepW w.heap (Sh ok Os) (look σ s) u (Os s) ∧ getAt (look σ s) p = some y ∧ adrV w.heap p (look σ s) u = some (B,o) ∧ a.eval x = .pointer (some ⟨B,o,none⟩):=by
 have hr:=ev_rep R hx
 unfold srcOf at e
 split at e
 ·split at e
  ·cases e
  ·split at e <;> cases e
 ·cases e
 ·rename_i s' p' he
  rw [he] at hr
  obtain ⟨u,y',h1,h2,h3,h4⟩:=hr.2
  simp only [h2] at e
  split at e
  ·cases e
  ·rename_i y2 he2
   simp only [Option.some.injEq] at he2
   subst he2
   simp only [Src.pto.injEq] at e
   obtain ⟨rfl,rfl,rfl⟩:=e
   have hrep:=R.rep s' u h1
   rcases h4 with ⟨rfl,h4⟩ | ⟨B,o,h5,h6⟩
   ·have hb : look σ s' = .box y2:=by
     have : getAt (look σ s') [] = some (look σ s'):=by cases look σ s' <;> rfl
     rw [this] at h2; injection h2
    rw [hb] at hrep
    simp only [RepW,RepC] at hrep
    obtain ⟨b,c,te,m,O1,k1,k2,k3,k4,k5,k6⟩:=hrep
    obtain rfl : u = .pointer (some ⟨b,0,none⟩):=by simpa using k1
    refine ⟨_,b,0,h1,R.rep s' _ h1,by rw [hb]; simp [getAt],by rw [hb]; simp [adrV,adr],h4⟩
   ·have r':=repC_of_get (y:=.box y2) hrep h5
    obtain ⟨cy,Oy,Ob,q1,q2,q3,q4,q5,q6,_⟩:=placeV p' _ r' h2 h5
    simp only [RepC] at q1
    obtain ⟨b,c,te,m,O1,k1,k2,k3,k4,k5,k6⟩:=q1
    subst k1
    have hc:=q2 0 _ rfl
    rw [Nat.add_zero,h6] at hc
    injection hc with hc
    refine ⟨u,b,0,h1,hrep,?_,?_,hc⟩
    ·rw [getAt_app,h2]; simp [getAt]
    ·rw [adrV_app p' [0] _ h2 h5]; simp [adr,h6,hc]
  ·cases e
 ·rename_i y' he
  split at e
  ·rename_i t
   simp only [Src.pto.injEq] at e
   obtain ⟨rfl,rfl,rfl⟩:=e
   have ht : t < a.tmps.size:=by simpa [opndOk] using hx
   simp only [ev] at he
   have hr1:=hr.1
   simp only [ev] at hr1
   have hr2:=hr1
   rw [he] at hr1
   simp only [RepW,RepC] at hr1
   obtain ⟨b,c,te,m,O1,k1,k2,k3,k4,k5,k6⟩:=hr1
   have hv : a.eval (.tmp t) = .pointer (some ⟨b,0,none⟩):=by simpa using k1
   refine ⟨a.eval (.tmp t),b,0,by simp [Act.eval,ht],hr2,by rw [he]; simp [getAt],by rw [he,hv]; simp [adrV,adr],hv⟩
  ·cases e
 ·rename_i s' p' he
  split at e
  ·rename_i y2 he2
   simp only [Src.pto.injEq] at e
   obtain ⟨rfl,rfl,rfl⟩:=e
   rw [he] at hr
   obtain ⟨u,y',B,o,h1,h2,h3,h4⟩:=hr.2
   exact ⟨u,B,o,h1,R.rep s' u h1,he2,h3,h4⟩
  ·cases e
 ·cases e
 ·cases e
 ·split at e <;> cases e
theorem src_sls (R : Rel h0 ok O0 σ a.tmps w.heap Os) {x : Operand} (hx : opndOk a.tmps.size x = true) {sz : Nat} {xs : List AV} (e : srcOf σ x = .sls sz xs) :
  RepC w.heap (Sh ok Os) (.sl false sz xs) [a.eval x] (fun _ => False) ∧ RepW w.heap (Sh ok Os) (ev σ x) (a.eval x) (fun _ => False) ∧ (ev σ x).target = none:=by
 have hr:=(ev_rep R hx).1
 unfold srcOf at e
 split at e
 ·rename_i sz' xs' he
  split at e
  ·cases e
  ·rename_i hne
   split at e
   ·simp only [Src.sls.injEq] at e
    obtain ⟨rfl,rfl⟩:=e
    cases x with
    | tmp t => exact (hne t rfl).elim
    | const v =>
     have hv : v = .slice none 0 0:=by
      simp only [ev] at he
      unfold constV at he
      split at he <;> first | (cases he; done) | rfl
     subst hv
     have q1:=constV_rep w.heap (Sh ok Os) (.slice none 0 0)
     have q2:=constV_target (.slice none 0 0)
     refine ⟨?_,q1,q2⟩
     simp only [RepC,Act.eval]
     exact ⟨⟨none,0,[],rfl,Nat.le_refl _,by simp only [RepL]; exact ⟨trivial,emp_false⟩,by simp,by simp⟩,emp_false⟩
    | global g => cases he
    | func f => cases he
   ·cases e
 ·rename_i sz' xs' he
  simp only [Src.sls.injEq] at e
  obtain ⟨rfl,rfl⟩:=e
  rw [he] at hr ⊢
  have hemp:=repW_plain _ hr rfl
  have hr':=repW_cong _ hr (O':=fun _ => False) (fun k => ⟨False.elim,fun hk => (hemp k hk).elim⟩)
  exact ⟨by simpa only [RepW] using hr',hr',rfl⟩
 ·split at e <;> cases e
 ·split at e <;> cases e
 ·split at e <;> cases e
 ·cases e
 ·cases e
 ·split at e <;> cases e
theorem src_pts (R : Rel h0 ok O0 σ a.tmps w.heap Os) {x : Operand} (hx : opndOk a.tmps.size x = true) {y : AV} (e : srcOf σ x = .pts y) :
  RepC w.heap (Sh ok Os) (.dptr y) [a.eval x] (fun _ => False):=by
 have hr:=(ev_rep R hx).1
 unfold srcOf at e
 split at e
 ·split at e
  ·cases e
  ·split at e <;> cases e
 ·cases e
 ·split at e <;> cases e
 ·split at e <;> cases e
 ·split at e <;> cases e
 ·rename_i y' he
  simp only [Src.pts.injEq] at e
  subst e
  rw [he] at hr
  have hemp:=repW_plain _ hr rfl
  have hr':=repW_cong _ hr (O':=fun _ => False) (fun k => ⟨False.elim,fun hk => (hemp k hk).elim⟩)
  simpa only [RepW] using hr'
 ·cases e
 ·split at e <;> cases e
theorem plain_target {y : AV} (h : plain y = true) : y.target = none:=by cases y <;> simp_all [plain,AV.target]
theorem src_va (R : Rel h0 ok O0 σ a.tmps w.heap Os) {x : Operand} (hx : opndOk a.tmps.size x = true) {y : AV} (e : srcOf σ x = .va y) :
  RepW w.heap (Sh ok Os) y (a.eval x) (fun _ => False) ∧ y = ev σ x ∧ plain y = true:=by
 have hr:=(ev_rep R hx).1
 unfold srcOf at e
 split at e
 ·split at e
  ·cases e
  ·split at e <;> cases e
 ·cases e
 ·split at e <;> cases e
 ·split at e <;> cases e
 ·split at e <;> cases e
 ·cases e
 ·cases e
 ·split at e
  ·rename_i hp
   simp only [Src.va.injEq] at e
   subst e
   have hemp:=repW_plain _ hr hp
   exact ⟨repW_cong _ hr (O':=fun _ => False) (fun k => ⟨False.elim,fun hk => (hemp k hk).elim⟩),rfl,hp⟩
  ·cases e
theorem slo_rep {s : Nat} {p : List Nat} {sz : Nat} {xs : List AV} {u v : Value} (hr : RepW w.heap (Sh ok Os) (look σ s) u (Os s)) (hg : getAt (look σ s) p = some (.sl true sz xs)) (hv : ValAt w.heap (look σ s) u p v) :
  (∃ Oy,RepC w.heap (Sh ok Os) (.sl true sz xs) [v] Oy ∧ ∀ k,Oy k → Os s k) ∧
  ∀ b l c,v = .slice (some ⟨b,0,none⟩) l c → ∀ i,i < xs.length → adrV w.heap (p ++ [i]) (look σ s) u = some (b,i * sz):=by
 rcases hv with ⟨rfl,rfl⟩ | ⟨B,o,h5,h6⟩
 ·have hb : look σ s = .sl true sz xs:=by
   have : getAt (look σ s) [] = some (look σ s):=by cases look σ s <;> rfl
   rw [this] at hg; injection hg
  rw [hb] at hr
  simp only [RepW] at hr
  refine ⟨⟨Os s,hr,fun k hk => hk⟩,?_⟩
  rintro b l c rfl i hi
  rw [hb]
  simp [adrV,adr,List.getElem?_eq_getElem hi]
 ·have r':=repC_of_get (y:=.sl true sz xs) hr h5
  obtain ⟨cy,Oy,Ob,q1,q2,q3,q4,q5,q6,_⟩:=placeV p _ r' hg h5
  have hl:=repC_len _ q1
  simp only [ncells] at hl
  obtain ⟨v',rfl⟩:=List.length_eq_one_iff.1 hl
  have hc:=q2 0 _ rfl
  rw [Nat.add_zero,h6] at hc
  injection hc with hc
  subst hc
  refine ⟨⟨Oy,q1,fun k hk => (q3 k).2 (.inl hk)⟩,?_⟩
  rintro b l c rfl i hi
  rw [adrV_app p [i] _ hg h5]
  simp [adr,h6,List.getElem?_eq_getElem hi]
end
end Go.Proofs.YtpffgegfjpdncaaGreatDoor.Am
namespace Go.Proofs.YtpffgegfjpdncaaGreatDoor.Am
open Go.RowKit AV
set_option linter.unusedVariables false
section
variable {P : Program} {h0 : Array Obj} {ok O0 : Nat → Prop} {σ : St} {a : Act} {w : World} {Os : Nat → Nat → Prop}
def PureOk (P : Program) (σ : St) (ok : Nat → Prop) (Os : Nat → Nat → Prop) (tm : Array Value) (w : World) (run : Sem Next) (K : AV → Prop) : Prop :=
 ∃ y v,K y ∧ run.run P w = .ok (.value v) w ∧ RepW w.heap (Sh ok Os) y v (fun _ => False) ∧ AliasOk w.heap σ tm y v
theorem src_move (R : Rel h0 ok O0 σ a.tmps w.heap Os) {x : Operand} (hx : opndOk a.tmps.size x = true) {K : AV → Prop} (h : moveW σ x K) :
  ∃ y,K y ∧ RepW w.heap (Sh ok Os) y (a.eval x) (fun _ => False) ∧ AliasOk w.heap σ a.tmps y (a.eval x):=by
 unfold moveW at h
 cases e : srcOf σ x with
 | slo s p sz xs =>
  rw [e] at h
  obtain ⟨u,h1,h2,h3,h4⟩:=src_slo R hx e
  exact ⟨_,h,by simp only [RepW]; exact emp_false,u,_,h1,h3,rfl,h4⟩
 | sls sz xs =>
  rw [e] at h
  obtain ⟨h1,h2,h3⟩:=src_sls R hx e
  exact ⟨_,h,h2,aliasOk_none h3⟩
 | pto s p y =>
  rw [e] at h
  obtain ⟨u,B,o,h1,h2,h3,h4,h5⟩:=src_pto R hx e
  exact ⟨_,h,by simp only [RepW]; exact emp_false,u,y,B,o,h1,h3,h4,h5⟩
 | pts y =>
  rw [e] at h
  have:=src_pts R hx e
  exact ⟨_,h,by simpa only [RepW] using this,trivial⟩
 | va y =>
  rw [e] at h
  obtain ⟨h1,h2,h3⟩:=src_va R hx e
  exact ⟨_,h,h1,aliasOk_none (plain_target h3)⟩
 | bad =>
  rw [e] at h
  simp only at h
  unfold moveM at h
  split at h
  ·rename_i kvs t he
   have ht : t < a.tmps.size:=by simpa [opndOk] using hx
   exact ⟨_,h,by simp only [RepW]; exact emp_false,a.eval (.tmp t),.mp kvs,by simp [Act.eval,ht],by simpa [getAt,ev] using he,rfl,.inl ⟨rfl,rfl⟩⟩
  ·exact h.elim
theorem sim_move (R : Rel h0 ok O0 σ a.tmps w.heap Os) {x : Operand} (hx : opndOk a.tmps.size x = true) {K : AV → Prop} (h : moveW σ x K) :
  PureOk P σ ok Os a.tmps w (pure (.value (a.eval x))) K:=by
 obtain ⟨y,h1,h2,h3⟩:=src_move R hx h
 exact ⟨y,_,h1,rfl,h2,h3⟩
theorem sim_nil (R : Rel h0 ok O0 σ a.tmps w.heap Os) {x : Operand} (hx : opndOk a.tmps.size x = true) {K : AV → Prop} (h : nilW σ x K) {o : Oper} (ho : o.op = .nilCheck x) :
  PureOk P σ ok Os a.tmps w (execOp a.eval o) K:=by
 have hm : moveW σ x K ∧ ∃ ad,a.eval x = .pointer (some ad):=by
  unfold nilW at h
  unfold moveW
  cases e : srcOf σ x with
  | pto s p y =>
   rw [e] at h
   obtain ⟨u,B,o,h1,h2,h3,h4,h5⟩:=src_pto R hx e
   exact ⟨h,_,h5⟩
  | pts y =>
   rw [e] at h
   have hr:=src_pts R hx e
   simp only [RepC] at hr
   obtain ⟨⟨ad,m,e1,_⟩,_⟩:=hr
   exact ⟨h,ad,by simpa using e1⟩
  | _ => rw [e] at h; exact h.elim
 obtain ⟨hm,ad,hv⟩:=hm
 obtain ⟨y,h1,h2,h3⟩:=src_move R hx hm
 refine ⟨y,_,h1,?_,h2,h3⟩
 simp [execOp,ho,hv]
theorem ev_bool (R : Rel h0 ok O0 σ a.tmps w.heap Os) {x : Operand} (hx : opndOk a.tmps.size x = true) {b : Bool} (e : ev σ x = .bool b) : a.eval x = .bool b:=by
 have:=(ev_rep R hx).1
 rw [e] at this
 simp only [RepW,RepC] at this
 simpa using this.1
theorem ev_int (R : Rel h0 ok O0 σ a.tmps w.heap Os) {x : Operand} (hx : opndOk a.tmps.size x = true) {k : IntKind} {n : Int} (e : ev σ x = .int k n) : a.eval x = .int k n:=by
 have:=(ev_rep R hx).1
 rw [e] at this
 simp only [RepW,RepC] at this
 simpa using this.1
theorem ev_str (R : Rel h0 ok O0 σ a.tmps w.heap Os) {x : Operand} (hx : opndOk a.tmps.size x = true) {s : List UInt8} (e : ev σ x = .str s) : a.eval x = .string ⟨s.toArray⟩:=by
 have:=(ev_rep R hx).1
 rw [e] at this
 simp only [RepW,RepC] at this
 simpa using this.1
theorem sim_pick (R : Rel h0 ok O0 σ a.tmps w.heap Os) {c x y : Operand} (hc : opndOk a.tmps.size c = true) (hx : opndOk a.tmps.size x = true) (hy : opndOk a.tmps.size y = true) {K : AV → Prop} (h : pickW σ c x y K) :
  PureOk P σ ok Os a.tmps w (do pure (.value (if ← asBool (a.eval c) then a.eval x else a.eval y))) K:=by
 unfold pickW at h
 split at h
 ·rename_i t e
  have:=ev_bool R hc e
  cases t
  ·obtain ⟨z,h1,h2,h3⟩:=src_move R hy (by simpa using h)
   exact ⟨z,_,h1,by simp [this,asBool],h2,h3⟩
  ·obtain ⟨z,h1,h2,h3⟩:=src_move R hx (by simpa using h)
   exact ⟨z,_,h1,by simp [this,asBool],h2,h3⟩
 ·exact h.elim
theorem scal_int (k : IntKind) (n : Int) (h : Array Obj) (S : Nat → Prop) : RepW h S (.int k n) (.int k n) (fun _ => False):=by simp only [RepW,RepC]; exact ⟨trivial,emp_false⟩
theorem scal_bool (b : Bool) (h : Array Obj) (S : Nat → Prop) : RepW h S (.bool b) (.bool b) (fun _ => False):=by simp only [RepW,RepC]; exact ⟨trivial,emp_false⟩
theorem scal_str (s : List UInt8) (h : Array Obj) (S : Nat → Prop) : RepW h S (.str s) (.string ⟨s.toArray⟩) (fun _ => False):=by simp only [RepW,RepC]; exact ⟨trivial,emp_false⟩
theorem intOp_run {op : BinOp} {k : IntKind} {m n : Int} {y : AV} (e : intOp op k m n = some y) (t : TypeId) :
  ∃ v,(binOp op t (.int k m) (.int k n)).run P w = .ok v w ∧ ∀ (h : Array Obj) (S : Nat → Prop),RepW h S y v (fun _ => False) ∧ y.target = none:=by
 unfold intOp at e
 split at e <;> try (cases e; done)
 case h_4 =>
  split at e
  ·cases e
  ·rename_i hn; cases e; exact ⟨.int k (k.wrap (m.tdiv n)),by simp [binOp,Op.intDiv,hn],fun h S => ⟨scal_int _ _ _ _,rfl⟩⟩
 case h_5 =>
  split at e
  ·cases e
  ·rename_i hn; cases e; exact ⟨.int k (m.tmod n),by simp [binOp,Op.intDiv,hn],fun h S => ⟨scal_int _ _ _ _,rfl⟩⟩
 case h_12 => cases e; exact ⟨.int k _,(by rw [show binOp .xor t (.int k m) (.int k n) = Op.intBits .xor k m n by simp [binOp]]; rfl),fun h S => ⟨scal_int _ _ _ _,rfl⟩⟩
 all_goals
  cases e
  first
   | exact ⟨.int k _,by simp [binOp,Op.intArith],fun h S => ⟨scal_int _ _ _ _,rfl⟩⟩
   | exact ⟨.bool _,by simp [binOp,Op.intCmp],fun h S => ⟨scal_bool _ _ _,rfl⟩⟩
theorem strOp_run {op : BinOp} {s t : List UInt8} {y : AV} (e : strOp op s t = some y) (ty : TypeId) :
  ∃ v,(binOp op ty (.string ⟨s.toArray⟩) (.string ⟨t.toArray⟩)).run P w = .ok v w ∧ ∀ (h : Array Obj) (S : Nat → Prop),RepW h S y v (fun _ => False) ∧ y.target = none:=by
 have hb : binOp op ty (.string ⟨s.toArray⟩) (.string ⟨t.toArray⟩) = Op.stringOp op ⟨s.toArray⟩ ⟨t.toArray⟩:=by cases op <;> rfl
 rw [hb]
 unfold strOp at e
 split at e <;> try (cases e; done)
 case h_1 =>
  split at e
  ·rename_i hle
   cases e
   refine ⟨.string ⟨(s ++ t).toArray⟩,?_,fun h S => ⟨scal_str _ _ _,rfl⟩⟩
   have h1 : ¬ ((((⟨s.toArray⟩ : ByteArray).size + (⟨t.toArray⟩ : ByteArray).size : Nat) : Int) > IntKind.i64.max):=by
    have : IntKind.i64.max = 9223372036854775807:=by decide
    rw [this]
    simp only [ByteArray.size,List.size_toArray]
    omega
   simp only [Op.stringOp,if_neg h1,Sem.run_pure]
   congr 2
  ·cases e
 all_goals
  cases e
  refine ⟨.bool _,?_,fun h S => ⟨scal_bool _ _ _,rfl⟩⟩
  simp only [Op.stringOp,ByteArray.toList_mk,Sem.run_pure]
end
end Go.Proofs.YtpffgegfjpdncaaGreatDoor.Am
namespace Go.Proofs.YtpffgegfjpdncaaGreatDoor.Am
open Go.RowKit AV
set_option linter.unusedVariables false
theorem run_under {P : Program} {w : World} {t : TypeId} {d : TypeDesc} (h : P.underlying t = some d) : (underlying t).run P w = .ok d w:=by
 simp [underlying,h]
theorem run_allLoop {P : Program} {w : World} {α : Type} (e : α → Bool) (body : α → Option Bool × PUnit.{1} → Sem (ForInStep (Option Bool × PUnit.{1}))) : ∀ (l : List α),
  (∀ f ∈ l,(body f (none,())).run P w = .ok (if e f then ForInStep.yield (none,()) else ForInStep.done (some false,())) w) →
  (forIn l (none,PUnit.unit) body).run P w = .ok (if l.all e then (none,()) else (some false,())) w
 | [],_ => by simp [Sem.run_pure]
 | f :: r,h => by
  rw [List.forIn_cons]
  simp only [Sem.run_bind,h f (List.mem_cons_self ..),Result.andThen_ok]
  cases he : e f with
  | true =>
   simp only [if_true,List.all_cons,he,Bool.true_and]
   exact run_allLoop e body r (fun g hg => h g (List.mem_cons_of_mem _ hg))
  | false => simp [he,Sem.run_pure]
theorem run_eqFields {P : Program} {w : World} {d : Nat} {t : TypeId} {fs : Array Field} {xs ys : Array Value} (hu : P.underlying t = some (.struct fs)) (hh : P.stoodInHeld t = false) (e : Field → Bool)
  (h : ∀ f ∈ fs.toList,f.name ≠ "_" ∧ (do Op.equalIn d f.type (← part f.type xs f.offset) (← part f.type ys f.offset) : Sem Bool).run P w = .ok (e f) w) :
  (Op.equalIn (d + 1) t (.agg xs) (.agg ys)).run P w = .ok (fs.toList.all e) w:=by
 simp only [Op.equalIn,Sem.run_bind,run_under hu,Result.andThen_ok]
 simp [hh]
 rw [← Array.forIn_toList,run_allLoop e _ fs.toList ?_]
 ·cases hl : fs.toList.all e
  ·have : fs.all e = false:=by rw [← Array.all_toList]; exact hl
   simp [this,Sem.run_pure]
  ·have : fs.all e = true:=by rw [← Array.all_toList]; exact hl
   simp [this,Sem.run_pure]
 ·intro f hf
  obtain ⟨h1,h2⟩:=h f hf
  simp only [if_neg h1]
  have h2':=h2
  simp only [Sem.run_bind] at h2' ⊢
  cases hp : (part f.type xs f.offset).run P w with
  | halt a b => simp [hp,Result.andThen] at h2'
  | ok v w1 =>
   simp only [hp,Result.andThen_ok] at h2' ⊢
   cases hq : (part f.type ys f.offset).run P w1 with
   | halt a b => simp [hq,Result.andThen] at h2'
   | ok v2 w2 =>
    simp only [hq,Result.andThen_ok] at h2' ⊢
    rw [h2']
    simp only [Result.andThen_ok]
    cases e f <;> simp [Sem.run_pure]
def valS : AV → Value
 | .int k n => .int k n
 | .bool b => .bool b
 | .str s => .string ⟨s.toArray⟩
 | _ => .nilFunc
theorem isAgg_scalar {P : Program} {w : World} {t : TypeId} {x : AV} (h : avK x = tyK P t) : (isAgg t).run P w = .ok false w:=by
 unfold tyK at h
 unfold isAgg
 simp only [Sem.run_bind]
 split at h
 ·rename_i e; rw [run_under e]; rfl
 ·rename_i k e; rw [run_under e]; rfl
 ·rename_i e; rw [run_under e]; rfl
 ·cases x <;> simp [avK] at h
theorem eqS_run {P : Program} {w : World} {t : TypeId} {x y : AV} {b : Bool} (hx : avK x = tyK P t) (hy : avK y = tyK P t) (h : eqS x y = some b) (d : Nat) : (Op.equalIn (d + 1) t (valS x) (valS y)).run P w = .ok b w:=by
 unfold tyK at hx hy
 unfold eqS at h
 split at h
 ·split at h
  ·rename_i k m k' n hk
   subst hk
   cases h
   split at hx <;> simp only [avK] at hx <;> first | omega | skip
   rename_i kk e
   simp only [Op.equalIn,Sem.run_bind,run_under e,Result.andThen_ok,valS]
   simp [Sem.run_pure]
  ·cases h
 ·cases h
  split at hx <;> simp only [avK] at hx <;> first | omega | skip
  rename_i e
  simp only [Op.equalIn,Sem.run_bind,run_under e,Result.andThen_ok,valS]
  simp [Sem.run_pure]
 ·cases h
  split at hx <;> simp only [avK] at hx <;> first | omega | skip
  rename_i s1 s2 _ e
  have hb : ((⟨s1.toArray⟩ : ByteArray) == ⟨s2.toArray⟩) = (s1 == s2):=by
   rw [show ((⟨s1.toArray⟩ : ByteArray) == ⟨s2.toArray⟩) = (s1.toArray == s2.toArray) from rfl]
   simp
  simp only [Op.equalIn,Sem.run_bind,run_under e,Result.andThen_ok,valS,Sem.run_pure,hb]
 ·cases h
theorem valS_cells {h : Array Obj} {S : Nat → Prop} {P : Program} : ∀ (xs : List AV) (ks : List Nat) {m : List Value} {O : Nat → Prop},RepL h S xs m O → xs.map avK = ks → (∀ k ∈ ks,4 ≤ k) → m = xs.map valS
 | [],ks,m,O,r,_,_ => by simp only [RepL] at r; simp [r.1]
 | x :: xs,ks,m,O,r,e,hk => by
  simp only [RepL] at r
  obtain ⟨c1,c2,O1,O2,rfl,_,_,r1,r2⟩:=r
  subst e
  have h4 : 4 ≤ avK x:=hk _ (by simp)
  rw [valS_cells (P:=P) xs _ r2 rfl (fun k hm => hk k (by simp only [List.map_cons,List.mem_cons]; exact .inr hm))]
  cases x <;> simp [avK] at h4 <;> simp only [RepC] at r1 <;> simp [r1.1,valS]
theorem tyK_range (P : Program) (t : TypeId) : tyK P t = 1 ∨ 4 ≤ tyK P t:=by unfold tyK; split <;> simp
theorem avK_ne1 (x : AV) : avK x ≠ 1:=by cases x <;> simp [avK]
theorem flat_all {P : Program} {w : World} (d : Nat) : ∀ (fl : List Field) (i : Nat) (fs gs : List AV) (b : Bool),flatGo i fl = true → fs.map avK = fl.map (fun f => tyK P f.type) → gs.map avK = fl.map (fun f => tyK P f.type) → eqSL fs gs = some b →
  ∀ (xs ys : Array Value),(∀ (j : Nat) x,fs[j]? = some x → xs[i + j]? = some (valS x)) → (∀ (j : Nat) x,gs[j]? = some x → ys[i + j]? = some (valS x)) →
  ∃ e : Nat → Bool,(∀ f ∈ fl,f.name ≠ "_" ∧ (do Op.equalIn (d + 1) f.type (← part f.type xs f.offset) (← part f.type ys f.offset) : Sem Bool).run P w = .ok (e f.offset) w ∧ i ≤ f.offset) ∧ fl.all (fun f => e f.offset) = b
 | [],i,fs,gs,b,_,hf,hg,he,xs,ys,_,_ => by
  have h1 : fs = []:=by simpa using hf
  have h2 : gs = []:=by simpa using hg
  subst h1 h2
  simp only [eqSL,Option.some.injEq] at he
  exact ⟨fun _ => true,by simp,by simpa using he⟩
 | f :: fl,i,[],gs,b,_,hf,_,_,_,_,_,_ => by simp at hf
 | f :: fl,i,x :: fs,[],b,_,_,hg,_,_,_,_,_ => by simp at hg
 | f :: fl,i,x :: fs,y :: gs,b,ho,hf,hg,he,xs,ys,hx,hy => by
  simp only [flatGo,Bool.and_eq_true,bne_iff_ne,beq_iff_eq] at ho
  simp only [List.map_cons,List.cons.injEq] at hf hg
  simp only [eqSL] at he
  split at he
  ·rename_i b1 b2 e1 e2
   cases he
   obtain ⟨e,g1,g2⟩:=flat_all (w:=w) d fl (i + 1) fs gs b2 ho.2 hf.2 hg.2 e2 xs ys (fun j z hz => by rw [show i + 1 + j = i + (j + 1) by omega]; exact hx (j + 1) z (by simpa using hz)) (fun j z hz => by rw [show i + 1 + j = i + (j + 1) by omega]; exact hy (j + 1) z (by simpa using hz))
   refine ⟨fun o => if o = i then b1 else e o,?_,?_⟩
   ·intro f' hf'
    rcases List.mem_cons.1 hf' with rfl | hm
    ·refine ⟨ho.1.1,?_,by omega⟩
     have hx0:=hx 0 x rfl
     have hy0:=hy 0 y rfl
     simp only [Nat.add_zero] at hx0 hy0
     have p1 : (part f'.type xs i).run P w = .ok (valS x) w:=by
      unfold part
      simp only [Sem.run_bind,isAgg_scalar hf.1,Result.andThen_ok,Bool.false_eq_true,if_false,hx0]
      rfl
     have p2 : (part f'.type ys i).run P w = .ok (valS y) w:=by
      unfold part
      simp only [Sem.run_bind,isAgg_scalar hg.1,Result.andThen_ok,Bool.false_eq_true,if_false,hy0]
      rfl
     simp only [Sem.run_bind,ho.1.2,p1,p2,Result.andThen_ok,eqS_run hf.1 hg.1 e1 d,if_true]
    ·obtain ⟨q1,q2,q3⟩:=g1 f' hm
     refine ⟨q1,?_,by omega⟩
     show _ = Result.ok (if f'.offset = i then b1 else e f'.offset) w
     rw [if_neg (by omega)]
     exact q2
   ·have : fl.all (fun f => if f.offset = i then b1 else e f.offset) = fl.all (fun f => e f.offset):=by
     rw [Bool.eq_iff_iff,List.all_eq_true,List.all_eq_true]
     constructor
     ·intro h f' hm
      have:=h f' hm
      rwa [if_neg (by have:=(g1 f' hm).2.2; omega)] at this
     ·intro h f' hm
      rw [if_neg (by have:=(g1 f' hm).2.2; omega)]
      exact h f' hm
    simp only [List.all_cons,ho.1.2,if_true,this,g2]
  ·cases he
theorem eqAgg_run {P : Program} {w : World} {op : BinOp} {t : TypeId} {fs gs : List AV} {z : AV} {xs ys : Array Value} {h : Array Obj} {S O1 O2 : Nat → Prop} (e : eqAgg (flatK P t) op fs gs = some z) (r1 : RepL h S fs xs.toList O1) (r2 : RepL h S gs ys.toList O2) :
  ∃ b : Bool,z = .bool b ∧ ∀ x y : Operand,(do eqGuard op t x y (.agg xs) (.agg ys); binOp op t (.agg xs) (.agg ys) : Sem Value).run P w = .ok (.bool b) w:=by
 unfold eqAgg flatK at e
 cases hu : P.underlying t with
 | none => simp [hu] at e
 | some dsc =>
  rw [hu] at e
  cases dsc <;> simp only [reduceCtorEq] at e
  rename_i fl
  split at e
  ·rename_i ks hks
   split at hks
   ·rename_i hc
    simp only [Option.some.injEq] at hks
    subst hks
    simp only [Bool.and_eq_true,Bool.not_eq_true'] at hc
    split at e
    ·rename_i hkk
     split at e
     ·rename_i b eb
      have hk4 : ∀ (l : List AV),l.map avK = fl.toList.map (fun f => tyK P f.type) → ∀ k ∈ l.map avK,4 ≤ k:=by
       intro l hl k hm
       obtain ⟨x,hx,rfl⟩:=List.mem_map.1 hm
       have : avK x ∈ fl.toList.map (fun f => tyK P f.type):=by rw [← hl]; exact List.mem_map.2 ⟨x,hx,rfl⟩
       obtain ⟨f,_,hf⟩:=List.mem_map.1 this
       rcases tyK_range P f.type with h | h
       ·exact absurd (hf.symm.trans h) (avK_ne1 x)
       ·rw [← hf]; exact h
      have c1:=valS_cells (P:=P) fs _ r1 rfl (hk4 fs hkk.1)
      have c2:=valS_cells (P:=P) gs _ r2 rfl (hk4 gs hkk.2)
      have hget : ∀ (l : List AV) (a : Array Value),a.toList = l.map valS → ∀ (j : Nat) x,l[j]? = some x → a[0 + j]? = some (valS x):=by
       intro l a ha j x hx
       rw [Nat.zero_add,← Array.getElem?_toList,ha,List.getElem?_map,hx]; rfl
      obtain ⟨ef,g1,g2⟩:=flat_all (P:=P) (w:=w) 9998 fl.toList 0 fs gs b hc.1.1 hkk.1 hkk.2 eb xs ys (hget fs xs c1) (hget gs ys c2)
      have heq : (Op.equal t (.agg xs) (.agg ys)).run P w = .ok b w:=by
       have key : ∀ d,(∀ f ∈ fl.toList,f.name ≠ "_" ∧ (do Op.equalIn d f.type (← part f.type xs f.offset) (← part f.type ys f.offset) : Sem Bool).run P w = .ok (ef f.offset) w) → (Op.equalIn (d + 1) t (.agg xs) (.agg ys)).run P w = .ok b w:=by
        intro d hd
        rw [run_eqFields hu hc.1.2 (fun f => ef f.offset) hd,g2]
       exact key 9999 (fun f hf => ⟨(g1 f hf).1,(g1 f hf).2.1⟩)
      have hg : ∀ x y : Operand,(eqGuard op t x y (.agg xs) (.agg ys)).run P w = .ok () w:=by
       intro x y
       unfold eqGuard
       cases op <;> simp [hc.2]
      split at e
      ·cases e; exact ⟨b,rfl,fun x y => by simp [hg,binOp,heq]⟩
      ·cases e; exact ⟨!b,rfl,fun x y => by simp [hg,binOp,heq]⟩
      ·cases e
     ·cases e
    ·cases e
   ·cases hks
  ·cases e
end Go.Proofs.YtpffgegfjpdncaaGreatDoor.Am
namespace Go.Proofs.YtpffgegfjpdncaaGreatDoor.Am
open Go.RowKit AV
set_option linter.unusedVariables false
section
variable {P : Program} {h0 : Array Obj} {ok O0 : Nat → Prop} {σ : St} {a : Act} {w : World} {Os : Nat → Nat → Prop}
theorem sim_bin (R : Rel h0 ok O0 σ a.tmps w.heap Os) {x y : Operand} (hx : opndOk a.tmps.size x = true) (hy : opndOk a.tmps.size y = true) {op : BinOp} {t : TypeId} {K : AV → Prop} (h : needW (binA P op t (ev σ x) (ev σ y)) K) :
  PureOk P σ ok Os a.tmps w (do pure (.value (← (do eqGuard op t x y (a.eval x) (a.eval y); binOp op t (a.eval x) (a.eval y) : Sem Value)))) K:=by
 unfold needW at h
 cases e : binA P op t (ev σ x) (ev σ y) with
 | none => rw [e] at h; exact h.elim
 | some z =>
  rw [e] at h
  unfold binA at e
  split at e
  ·rename_i k m k' n e1 e2
   split at e
   ·rename_i hk
    subst hk
    obtain ⟨v,h1,h2⟩:=intOp_run (P:=P) (w:=w) e t
    rw [ev_int R hx e1,ev_int R hy e2]
    refine ⟨z,v,h,?_,(h2 _ _).1,aliasOk_none (h2 w.heap (Sh ok Os)).2⟩
    have hg : (eqGuard op t x y (.int k m) (.int k n)).run P w = .ok () w:=by unfold eqGuard; split <;> rfl
    simp [hg,h1]
   ·cases e
  ·rename_i s1 s2 e1 e2
   obtain ⟨v,h1,h2⟩:=strOp_run (P:=P) (w:=w) e t
   rw [ev_str R hx e1,ev_str R hy e2]
   refine ⟨z,v,h,?_,(h2 _ _).1,aliasOk_none (h2 w.heap (Sh ok Os)).2⟩
   have hg : (eqGuard op t x y (.string ⟨s1.toArray⟩) (.string ⟨s2.toArray⟩)).run P w = .ok () w:=by unfold eqGuard; split <;> rfl
   simp [hg,h1]
  ·rename_i b1 b2 e1 e2
   rw [ev_bool R hx e1,ev_bool R hy e2]
   have hg : (eqGuard op t x y (.bool b1) (.bool b2)).run P w = .ok () w:=by unfold eqGuard; split <;> rfl
   cases hu : P.underlying t with
   | none => simp [hu] at e
   | some d =>
    cases d <;> simp only [hu] at e <;> try (cases e; done)
    have he : (Op.equal t (.bool b1) (.bool b2)).run P w = .ok (b1 == b2) w:=by
     have key : ∀ d,(Op.equalIn (d + 1) t (.bool b1) (.bool b2)).run P w = .ok (b1 == b2) w:=by
      intro d
      simp only [Op.equalIn,Sem.run_bind,run_under hu,Result.andThen_ok,Sem.run_pure]
     exact key 9999
    split at e
    ·cases e
     exact ⟨_,.bool (b1 == b2),h,by simp [hg,binOp,he],scal_bool _ _ _,trivial⟩
    ·cases e
     exact ⟨_,.bool (b1 != b2),h,by simp [hg,binOp,he,bne],scal_bool _ _ _,trivial⟩
    ·cases e
  ·rename_i fs gs e1 e2
   have g1:=(ev_rep R hx).1
   have g2:=(ev_rep R hy).1
   rw [e1] at g1
   rw [e2] at g2
   simp only [RepW,RepC] at g1 g2
   obtain ⟨xs,hv1,r1⟩:=g1
   obtain ⟨ys,hv2,r2⟩:=g2
   obtain ⟨b,rfl,hrun⟩:=eqAgg_run (P:=P) (w:=w) e r1 r2
   rw [hv1,hv2]
   refine ⟨_,.bool b,h,?_,scal_bool _ _ _,trivial⟩
   have:=hrun x y
   rw [Sem.run_bind,this]
   rfl
  ·cases e
theorem sim_un (R : Rel h0 ok O0 σ a.tmps w.heap Os) {x : Operand} (hx : opndOk a.tmps.size x = true) {op : UnOp} {K : AV → Prop} (h : needW (unA op (ev σ x)) K) :
  PureOk P σ ok Os a.tmps w (do pure (.value (← Op.unary op (a.eval x)))) K:=by
 unfold needW at h
 cases e : unA op (ev σ x) with
 | none => rw [e] at h; exact h.elim
 | some z =>
  rw [e] at h
  unfold unA at e
  split at e
  ·rename_i b e1
   cases e
   rw [ev_bool R hx e1]
   exact ⟨_,.bool !b,h,by simp [Op.unary],scal_bool _ _ _,trivial⟩
  ·rename_i k n e1
   cases e
   rw [ev_int R hx e1]
   exact ⟨_,.int k (k.wrap (0 - n)),h,by simp [Op.unary,Op.intArith],scal_int _ _ _ _,trivial⟩
  ·cases e
theorem fields_spec {t : TypeId} {f off fsz : Nat} {ag : Option Bool} (h : (tinfo P t).fields[f]? = some (off,fsz,ag)) :
  ∃ fs fl,P.underlying t = some (.struct fs) ∧ fs[f]? = some fl ∧ fl.offset = off ∧ szOf P fl.type = fsz ∧ aggTy P fl.type = ag:=by
 unfold tinfo at h
 split at h <;> try (simp at h; done)
 rename_i fs hu
 simp only [List.getElem?_map,Array.getElem?_toList] at h
 cases hf : fs[f]? with
 | none => simp [hf] at h
 | some fl =>
  simp only [hf,Option.map_some,Option.some.injEq,Prod.mk.injEq] at h
  exact ⟨fs,fl,hu,hf,h.1,h.2.1,h.2.2⟩
theorem run_size {t : TypeId} (h : 0 < szOf P t) : (sizeOf t).run P w = .ok (szOf P t) w:=by
 unfold szOf at h ⊢
 cases hi : P.info? t with
 | none => simp [hi] at h
 | some i => simp [sizeOf,typeInfo,hi]
theorem run_fieldAt {t : TypeId} {f off fsz : Nat} {ag : Option Bool} (h : (tinfo P t).fields[f]? = some (off,fsz,ag)) (hz : 0 < fsz) (ad : Addr) :
  (Instr.fieldAt t (.pointer (some ad)) f).run P w = .ok (.pointer (some (ad.add off))) w:=by
 obtain ⟨fs,fl,h1,h2,h3,h4,h5⟩:=fields_spec h
 have hs : 0 < szOf P fl.type:=by omega
 have hne : ¬ szOf P fl.type = 0:=by omega
 simp [Instr.fieldAt,run_under h1,h2,Instr.sureAddr,fieldPlace,run_size hs,hne,h3]
theorem dptr_field {h : Array Obj} {S : Nat → Prop} {fs : List AV} {v : Value} (r : RepC h S (.dptr (.agg fs)) [v] (fun _ => False)) {f : Nat} (hf : f < fs.length) :
  ∃ ad : Addr,v = .pointer (some ad) ∧ RepC h S (.dptr (fs.getD f .undef)) [.pointer (some (ad.add (ncellsL (fs.take f))))] (fun _ => False):=by
 simp only [RepC] at r
 obtain ⟨⟨ad,m,h1,h2,h3,h4⟩,_⟩:=r
 have hg : fs[f]? = some (fs.getD f .undef):=by simp [List.getD,List.getElem?_eq_getElem hf]
 obtain ⟨m1,cy,m2,Oy,Ob,g1,g2,g3,g4,g5,g6⟩:=repL_at fs f _ h2 hg
 refine ⟨ad,by simpa using h1,?_⟩
 simp only [RepC]
 refine ⟨⟨_,cy,rfl,repC_cong _ g3 (fun k => ⟨False.elim,fun hk => (g4 k).2 (.inl hk)⟩),fun hm => ?_,fun j u hu => ?_⟩,emp_false⟩
 ·rw [add_block]; exact h3 (by rw [g1]; simp; omega)
 ·have hj:=(List.getElem?_eq_some_iff.1 hu).1
  have:=h4 (m1.length + j) u (by
   rw [g1,List.append_assoc,List.getElem?_append_right (by omega),List.getElem?_append_left (by omega)]
   simpa using hu)
  rw [g2] at this
  have hadd : (ad.add (ncellsL (fs.take f))).add j = ad.add (ncellsL (fs.take f) + j):=by
   obtain ⟨b,o,sp⟩:=ad
   unfold Addr.add
   by_cases h1 : ncellsL (fs.take f) = 0
   ·by_cases h2 : j = 0 <;> simp [h1,h2]
   ·by_cases h2 : j = 0
    ·simp [h1,h2]
    ·simp [h1,h2,Nat.add_assoc]
  rw [hadd]; exact this
theorem sim_fieldAddr (R : Rel h0 ok O0 σ a.tmps w.heap Os) {x : Operand} (hx : opndOk a.tmps.size x = true) {t : TypeId} {f : Nat} {K : AV → Prop} (h : fieldAddrW P σ t x f K) :
  PureOk P σ ok Os a.tmps w (do pure (.value (← Instr.fieldAt t (a.eval x) f))) K:=by
 unfold fieldAddrW at h
 split at h
 ·rename_i off fsz ag hf
  obtain ⟨hz,h⟩:=h
  split at h
  ·rename_i s p fs e
   obtain ⟨h1,h2,h3⟩:=h
   obtain ⟨u,B,o,k1,k2,k3,k4,k5⟩:=src_pto R hx e
   have hg : fs[f]? = some (fs.getD f .undef):=by simp [List.getD,List.getElem?_eq_getElem h1]
   refine ⟨_,.pointer (some ⟨B,o + off,none⟩),h3,by simp [k5,run_fieldAt hf hz,add_at],by simp only [RepW]; exact emp_false,u,fs.getD f .undef,B,o + off,k1,?_,?_,rfl⟩
   ·rw [getAt_app,k3]; simp only [getAt,hg]
   ·rw [adrV_app p [f] _ k3 k4]; simp only [adr,hg,h2]
  ·rename_i fs e
   obtain ⟨h1,h2,h3⟩:=h
   have r:=src_pts R hx e
   obtain ⟨ad,e1,r'⟩:=dptr_field r h1
   rw [h2] at r'
   refine ⟨_,.pointer (some (ad.add off)),h3,by simp [e1,run_fieldAt hf hz],by simpa only [RepW] using r',trivial⟩
  ·exact h.elim
 ·exact h.elim
end
end Go.Proofs.YtpffgegfjpdncaaGreatDoor.Am
namespace Go.Proofs.YtpffgegfjpdncaaGreatDoor.Am
open Go.RowKit AV
set_option linter.unusedVariables false
section
variable {P : Program} {h0 : Array Obj} {ok O0 : Nat → Prop} {σ : St} {a : Act} {w : World} {Os : Nat → Nat → Prop}
theorem kind1 {t : TypeId} (h : (tinfo P t).kind = 1) : ∃ e,P.underlying t = some (.slice e) ∧ szOf P e = (tinfo P t).esz ∧ bytesOf_ P e = (tinfo P t).ebytes ∧ aggTy P e = (tinfo P t).eagg ∧ (tinfo P t).ezero = zeroA P 12 e ∧ (tinfo P t).ezok = zokOf P e (zeroA P 12 e):=by
 unfold tinfo at h ⊢
 cases hu : P.underlying t with
 | none => simp [hu] at h
 | some d => cases d <;> simp_all
theorem kind2 {t : TypeId} (h : (tinfo P t).kind = 2) : ∃ e,P.underlying t = some (.array (tinfo P t).alen e) ∧ szOf P e = (tinfo P t).esz ∧ aggTy P e = (tinfo P t).eagg ∧ (tinfo P t).ezero = zeroA P 12 e ∧ (tinfo P t).ezok = zokOf P e (zeroA P 12 e):=by
 unfold tinfo at h ⊢
 cases hu : P.underlying t with
 | none => simp [hu] at h
 | some d => cases d <;> simp_all
theorem kind4 {t : TypeId} (h : (tinfo P t).kind = 4) : P.underlying t = some .string:=by
 unfold tinfo at h
 cases hu : P.underlying t with
 | none => simp [hu] at h
 | some d => cases d <;> simp_all
theorem kind5 {t : TypeId} (h : (tinfo P t).kind = 5) : ∃ k,P.underlying t = some (.int k):=by
 unfold tinfo at h
 cases hu : P.underlying t with
 | none => simp [hu] at h
 | some d => cases d <;> simp_all
theorem tinfo_base (t : TypeId) : (tinfo P t).size = szOf P t ∧ (tinfo P t).agg = aggTy P t ∧ (tinfo P t).bytes = bytesOf_ P t ∧ (tinfo P t).zero = zeroA P 12 t ∧ (tinfo P t).zok = zokOf P t (zeroA P 12 t):=by
 unfold tinfo
 cases hu : P.underlying t with
 | none => simp
 | some d => cases d <;> simp
theorem run_index_slice {t e : TypeId} (hu : P.underlying t = some (.slice e)) (hs : 0 < szOf P e) {k : IntKind} {n : Int} {ad : Addr} {l c : Nat} (h0 : 0 ≤ n) (h1 : n < l) :
  (Instr.indexAt t (.slice (some ad) l c) (.int k n)).run P w = .ok (.pointer (some (ad.add (n.toNat * szOf P e)))) w:=by
 simp [Instr.indexAt,asIntOf,run_under hu,h0,h1,run_size hs]
theorem run_index_arr {t e : TypeId} {m : Nat} (hu : P.underlying t = some (.array m e)) (hs : 0 < szOf P e) {k : IntKind} {n : Int} {ad : Addr} (h0 : 0 ≤ n) (h1 : n < m) :
  (Instr.indexAt t (.pointer (some ad)) (.int k n)).run P w = .ok (.pointer (some (ad.add (n.toNat * szOf P e)))) w:=by
 simp [Instr.indexAt,asIntOf,run_under hu,h0,h1,run_size hs,Instr.sureAddr]
theorem add_add (ad : Addr) (m j : Nat) : (ad.add m).add j = ad.add (m + j):=by
 obtain ⟨b,o,sp⟩:=ad
 unfold Addr.add
 by_cases h1 : m = 0
 ·by_cases h2 : j = 0 <;> simp [h1,h2]
 ·by_cases h2 : j = 0
  ·simp [h1,h2]
  ·simp [h1,h2,Nat.add_assoc]
theorem read_elem {h : Array Obj} {S : Nat → Prop} {sz : Nat} {xs : List AV} {m : List Value} {ad : Addr} (h2 : RepL h S xs m (fun _ => False)) (hu : ∀ x ∈ xs,x.ncells = sz)
  (h3 : 0 < sz → S ad.block) (h4 : ∀ (j : Nat) u,m[j]? = some u → cellH h (ad.add j) = some u) {f : Nat} (hf : f < xs.length) :
  RepC h S (.dptr (xs.getD f .undef)) [.pointer (some (ad.add (f * sz)))] (fun _ => False):=by
 have hg : xs[f]? = some (xs.getD f .undef):=by simp [List.getD,List.getElem?_eq_getElem hf]
 obtain ⟨m1,cy,m2,Oy,Ob,g1,g2,g3,g4,g5,g6⟩:=repL_at xs f _ h2 hg
 rw [uni_take hu (by omega)] at g2
 have hl:=repC_len _ g3
 rw [hu _ (List.mem_of_getElem? hg)] at hl
 simp only [RepC]
 refine ⟨⟨_,cy,rfl,repC_cong _ g3 (fun k => ⟨False.elim,fun hk => (g4 k).2 (.inl hk)⟩),fun hm => ?_,fun j u hu' => ?_⟩,emp_false⟩
 ·rw [add_block]; exact h3 (by omega)
 ·have hj:=(List.getElem?_eq_some_iff.1 hu').1
  have:=h4 (m1.length + j) u (by
   rw [g1,List.append_assoc,List.getElem?_append_right (by omega),List.getElem?_append_left (by omega)]
   simpa using hu')
  rw [g2] at this
  rw [add_add]; exact this
theorem sim_indexAddr (R : Rel h0 ok O0 σ a.tmps w.heap Os) {x i : Operand} (hx : opndOk a.tmps.size x = true) (hi : opndOk a.tmps.size i = true) {t : TypeId} {K : AV → Prop} (h : indexAddrW P σ t x i K) :
  PureOk P σ ok Os a.tmps w (do pure (.value (← Instr.indexAt t (a.eval x) (a.eval i)))) K:=by
 unfold indexAddrW at h
 split at h
 ·rename_i k n ei
  rw [ev_int R hi ei]
  split at h
  ·rename_i s p sz xs e
   obtain ⟨h1,h2,hz,h3,h4,h5⟩:=h
   obtain ⟨el,hu,hs,_⟩:=kind1 h1
   obtain ⟨u,k1,k2,k3,k4⟩:=src_slo R hx e
   obtain ⟨⟨Oy,r,_⟩,had⟩:=slo_rep k2 k3 k4
   simp only [RepC] at r
   rcases r with ⟨rfl,_,_⟩ | ⟨hsz,b,c,te,cap,O1,r1,r2,_⟩
   ·simp at h4; omega
   ·have hv : a.eval x = .slice (some ⟨b,0,none⟩) xs.length cap:=by simpa using r1
    have hn : n.toNat < xs.length:=by omega
    have hg : xs[n.toNat]? = some (xs.getD n.toNat .undef):=by simp [List.getD,List.getElem?_eq_getElem hn]
    rw [h2] at hs
    refine ⟨_,.pointer (some ⟨b,n.toNat * sz,none⟩),h5,?_,by simp only [RepW]; exact emp_false,u,xs.getD n.toNat .undef,b,n.toNat * sz,k1,?_,had b _ _ hv _ hn,rfl⟩
    ·rw [hv]
     simp [run_index_slice (w:=w) hu (by omega) h3 h4,add_at,hs]
    ·rw [getAt_app,k3]; simp only [getAt,hg]
  ·rename_i sz xs e
   obtain ⟨h1,h2,hz,h3,h4,h5⟩:=h
   obtain ⟨el,hu,hs,_⟩:=kind1 h1
   obtain ⟨r,_,_⟩:=src_sls R hx e
   simp only [RepC] at r
   obtain ⟨⟨A,cap,m,r1,r2,r3,r4,r5⟩,_⟩:=r
   have hn : n.toNat < xs.length:=by omega
   obtain ⟨ad,rfl,r6,r7⟩:=r5 (by omega)
   have hv : a.eval x = .slice (some ad) xs.length cap:=by simpa using r1
   have re:=read_elem r3 r4 r6 r7 hn
   rw [h2] at hs
   refine ⟨_,.pointer (some (ad.add (n.toNat * sz))),h5,?_,by simpa only [RepW] using re,trivial⟩
   rw [hv]
   simp [run_index_slice (w:=w) hu (by omega) h3 h4,hs]
  ·rename_i s p sz xs e
   obtain ⟨h1,h2,hz,h2',h3,h4,h5⟩:=h
   obtain ⟨el,hu,hs,_⟩:=kind2 h1
   obtain ⟨u,B,o,k1,k2,k3,k4,k5⟩:=src_pto R hx e
   have hn : n.toNat < xs.length:=by omega
   have hg : xs[n.toNat]? = some (xs.getD n.toNat .undef):=by simp [List.getD,List.getElem?_eq_getElem hn]
   rw [h2] at hs
   refine ⟨_,.pointer (some ⟨B,o + n.toNat * sz,none⟩),h5,?_,by simp only [RepW]; exact emp_false,u,xs.getD n.toNat .undef,B,o + n.toNat * sz,k1,?_,?_,rfl⟩
   ·rw [k5]
    simp [run_index_arr (w:=w) hu (by omega) h3 (by omega),add_at,hs]
   ·rw [getAt_app,k3]; simp only [getAt,hg]
   ·rw [adrV_app p _ _ k3 k4]; simp only [adr,hg]
  ·rename_i sz xs e
   obtain ⟨h1,h2,hz,h2',h3,h4,h5⟩:=h
   obtain ⟨el,hu,hs,_⟩:=kind2 h1
   have r:=src_pts R hx e
   simp only [RepC] at r
   obtain ⟨⟨ad,m,r1,⟨r2,r2'⟩,r3,r4⟩,_⟩:=r
   have hn : n.toNat < xs.length:=by omega
   have hv : a.eval x = .pointer (some ad):=by simpa using r1
   have hml:=repL_len _ r2
   rw [len_of_uni r2'] at hml
   have re:=read_elem r2 r2' (fun hz => r3 (by rw [hml]; exact Nat.mul_pos hz (by omega))) r4 hn
   rw [h2] at hs
   refine ⟨_,.pointer (some (ad.add (n.toNat * sz))),h5,?_,by simpa only [RepW] using re,trivial⟩
   rw [hv]
   simp [run_index_arr (w:=w) hu (by omega) h3 (by omega),hs]
  ·exact h.elim
 ·exact h.elim
theorem run_loadVar {t : TypeId} {y : AV} {m : List Value} {S O : Nat → Prop} (hr : RepC w.heap S y m O) (hs : y.stor = true ∨ y.isAgg = true) {ad : Addr} (ha : aggTy P t = some y.isAgg) (hz : szOf P t = ncells y)
  (h4 : ∀ (j : Nat) u,m[j]? = some u → cellH w.heap (ad.add j) = some u) :
  ∃ v,(loadVar t ad).run P w = .ok v w ∧ RepW w.heap S y v O ∧ (y.isAgg = true → v = .agg m.toArray) ∧ (y.isAgg = false → m = [v]):=by
 have hl:=repC_len _ hr
 obtain ⟨d,hd⟩ : ∃ d,P.underlying t = some d:=by
  unfold aggTy at ha
  cases hu : P.underlying t with
  | none => simp [hu] at ha
  | some d => exact ⟨d,rfl⟩
 by_cases hag : y.isAgg = true
 ·have hia : (isAgg t).run P w = .ok true w:=by
   rw [hag] at ha
   unfold aggTy at ha
   rw [hd] at ha
   cases d <;> simp_all [isAgg,run_under hd]
  refine ⟨.agg m.toArray,?_,repW_of_C hr hag,fun _ => rfl,fun h => by simp [hag] at h⟩
  have hlc:=run_loadCells_list (P:=P) (w:=w) ad m (fun j v hv => by rw [cell_eq]; exact h4 j v hv)
  cases hn : ncells y with
  | zero =>
   have hm : m = []:=List.eq_nil_of_length_eq_zero (by omega)
   subst hm
   have hsz : (sizeOf t).run P w = .ok 0 w:=by
    have : szOf P t = 0:=by omega
    unfold szOf at this
    cases hi : P.info? t with
    | none => unfold Program.underlying at hd; simp [hi] at hd
    | some i => simp only [hi] at this; simp [sizeOf,typeInfo,hi,this]
   simp [loadVar,hia,hsz,loadCells,loadCellsFrom]
  | succ n =>
   have hsz : (sizeOf t).run P w = .ok m.length w:=by rw [run_size (by omega),hz,hl]
   simp [loadVar,hia,hsz,hlc]
 ·have hag' : y.isAgg = false:=by simpa using hag
  have hia : (isAgg t).run P w = .ok false w:=by
   rw [hag'] at ha
   unfold aggTy at ha
   rw [hd] at ha
   cases d <;> simp_all [isAgg,run_under hd]
  have h1 : ncells y = 1:=by cases y <;> simp_all [AV.isAgg,ncells]
  obtain ⟨v,rfl⟩:=List.length_eq_one_iff.1 (hl.trans h1)
  have hc:=h4 0 v rfl
  refine ⟨v,?_,repW_of_C1 hr hag',fun h => by simp [hag'] at h,fun _ => rfl⟩
  have hadd : ad.add 0 = ad:=rfl
  rw [hadd,← cell_eq] at hc
  simp [loadVar,hia,hc]
end
end Go.Proofs.YtpffgegfjpdncaaGreatDoor.Am
namespace Go.Proofs.YtpffgegfjpdncaaGreatDoor.Am
open Go.RowKit AV
set_option linter.unusedVariables false
section
variable {P : Program} {h0 : Array Obj} {ok O0 : Nat → Prop} {σ : St} {a : Act} {w : World} {Os : Nat → Nat → Prop}
theorem At_add {h : Array Obj} {B o : Nat} {cs : List Value} (H : At h B o cs) : ∀ (j : Nat) u,cs[j]? = some u → cellH h ((⟨B,o,none⟩ : Addr).add j) = some u:=by
 intro j u hu
 rw [add_at]; exact H j u hu
theorem sim_load (R : Rel h0 ok O0 σ a.tmps w.heap Os) {x : Operand} (hx : opndOk a.tmps.size x = true) {t : TypeId} {K : AV → Prop} (h : loadW P σ t x K) :
  PureOk P σ ok Os a.tmps w (do pure (.value (← Instr.loadAt t (a.eval x)))) K:=by
 unfold loadW at h
 split at h
 ·rename_i s p y e
  obtain ⟨h1,h2,h3⟩:=h
  rw [(tinfo_base t).2.1] at h1
  rw [(tinfo_base t).1] at h2
  obtain ⟨u,B,o,k1,k2,k3,k4,k5⟩:=src_pto R hx e
  have r':=repC_of_get (y:=y) k2 k4
  obtain ⟨cy,Oy,Ob,q1,q2,q3,q4,q5,q6,_⟩:=placeV p _ r' k3 k4
  unfold needW loaded at h3
  by_cases hp : plain y = true
  ·simp only [hp,if_true] at h3
   have hst : y.stor = true ∧ K y:=by
    cases y <;> first | exact ⟨rfl,h3⟩ | (simp at h3; done) | (simp [plain] at hp; done)
   have hemp:=repC_plain _ q1 hp
   obtain ⟨v,l1,l2,_,_⟩:=run_loadVar (P:=P) (repC_cong _ q1 (O':=fun _ => False) (fun k => ⟨False.elim,fun hk => (hemp k hk).elim⟩)) (.inl hst.1) h1 h2 (At_add q2)
   exact ⟨y,v,hst.2,by simp [k5,Instr.loadAt,Instr.sureAddr,l1],l2,aliasOk_none (plain_target hp)⟩
  ·simp only [hp] at h3
   by_cases hh : y.hdr = true
   ·simp only [hh,if_true] at h3
    have hst : y.stor = true:=by cases y <;> simp_all [AV.hdr,AV.stor]
    have hag : y.isAgg = false:=by cases y <;> simp_all [AV.hdr,AV.isAgg]
    obtain ⟨v,l1,l2,_,l4⟩:=run_loadVar (P:=P) q1 (.inl hst) h1 h2 (At_add q2)
    have hm:=l4 hag
    subst hm
    refine ⟨.vref s p,v,by simpa using h3,by simp [k5,Instr.loadAt,Instr.sureAddr,l1],by simp only [RepW]; exact emp_false,u,y,k1,k3,hh,.inr ⟨B,o,k4,?_⟩⟩
    have:=q2 0 _ rfl
    simpa using this
   ·simp only [hh] at h3
    by_cases hag : y.isAgg = true
    ·simp only [hag,if_true] at h3
     obtain ⟨v,l1,l2,l3,_⟩:=run_loadVar (P:=P) q1 (.inr hag) h1 h2 (At_add q2)
     refine ⟨.vagg s p,v,by simpa using h3,by simp [k5,Instr.loadAt,Instr.sureAddr,l1],by simp only [RepW]; exact emp_false,u,y,B,o,cy.toArray,k1,k3,hag,k4,l3 hag,by simpa using q2,?_⟩
     have:=repC_len _ q1
     simpa using this
    ·simp [hag] at h3
 ·rename_i y e
  obtain ⟨h1,h2,h3⟩:=h
  rw [(tinfo_base t).2.1] at h1
  rw [(tinfo_base t).1] at h2
  have r:=src_pts R hx e
  simp only [RepC] at r
  obtain ⟨⟨ad,m,r1,r2,r3,r4⟩,_⟩:=r
  have hv : a.eval x = .pointer (some ad):=by simpa using r1
  unfold needW at h3
  by_cases hp : plain y = true
  ·simp only [hp,if_true] at h3
   have hst : y.stor = true ∧ K y:=by
    cases y <;> first | exact ⟨rfl,h3⟩ | (simp at h3; done) | (simp [plain] at hp; done)
   obtain ⟨v,l1,l2,_,_⟩:=run_loadVar (P:=P) r2 (.inl hst.1) h1 h2 r4
   exact ⟨y,v,hst.2,by simp [hv,Instr.loadAt,Instr.sureAddr,l1],l2,aliasOk_none (plain_target hp)⟩
  ·simp [hp] at h3
 ·exact h.elim
theorem slo_val {s : Nat} {p : List Nat} {sz : Nat} {xs : List AV} {u v : Value} (hr : RepW w.heap (Sh ok Os) (look σ s) u (Os s)) (hg : getAt (look σ s) p = some (.sl true sz xs)) (hv : ValAt w.heap (look σ s) u p v) :
  (v = .slice none 0 0 ∧ xs = []) ∨ ∃ b c,v = .slice (some ⟨b,0,none⟩) xs.length c:=by
 obtain ⟨⟨Oy,r,_⟩,_⟩:=slo_rep hr hg hv
 simp only [RepC] at r
 rcases r with ⟨r1,r2,_⟩ | ⟨hsz,b,c,te,cap,O1,r1,r2,_⟩
 ·exact .inl ⟨by simpa using r2,r1⟩
 ·exact .inr ⟨b,cap,by simpa using r1⟩
theorem sim_len (R : Rel h0 ok O0 σ a.tmps w.heap Os) {x : Operand} (hx : opndOk a.tmps.size x = true) {t ty : TypeId} {ts : Array TypeId} {K : AV → Prop} (h : lenW σ P t x K) (h0t : ts[0]? = some t) :
  PureOk P σ ok Os a.tmps w (do pure (.value (← Builtin.len_ ts ty #[a.eval x]))) K:=by
 unfold lenW at h
 split at h
 ·rename_i s p sz xs e
  obtain ⟨h1,h2⟩:=h
  obtain ⟨el,hu,_⟩:=kind1 h1
  obtain ⟨u,k1,k2,k3,k4⟩:=src_slo R hx e
  refine ⟨_,.int .i64 xs.length,h2,?_,scal_int _ _ _ _,trivial⟩
  rcases slo_val k2 k3 k4 with ⟨hv,rfl⟩ | ⟨b,c,hv⟩ <;> simp [Builtin.len_,h0t,hv,run_under hu,goInt]
 ·rename_i sz xs e
  obtain ⟨h1,h2⟩:=h
  obtain ⟨el,hu,_⟩:=kind1 h1
  obtain ⟨r,_,_⟩:=src_sls R hx e
  simp only [RepC] at r
  obtain ⟨⟨A,cap,m,r1,_⟩,_⟩:=r
  have hv : a.eval x = .slice A xs.length cap:=by simpa using r1
  exact ⟨_,.int .i64 xs.length,h2,by simp [Builtin.len_,h0t,hv,run_under hu,goInt],scal_int _ _ _ _,trivial⟩
 ·rename_i s e
  obtain ⟨h1,h2⟩:=h
  obtain ⟨r,e2,_⟩:=src_va R hx e
  have hv:=ev_str R hx e2.symm
  refine ⟨_,.int .i64 s.length,h2,?_,scal_int _ _ _ _,trivial⟩
  have hsz : (⟨s.toArray⟩ : ByteArray).size = s.length:=by simp only [ByteArray.size,List.size_toArray]
  simp [Builtin.len_,h0t,hv,run_under (kind4 h1),goInt,hsz]
 ·exact h.elim
theorem sim_index (R : Rel h0 ok O0 σ a.tmps w.heap Os) {x i : Operand} (hx : opndOk a.tmps.size x = true) (hi : opndOk a.tmps.size i = true) {t : TypeId} {K : AV → Prop} (h : indexW P σ t x i K) :
  PureOk P σ ok Os a.tmps w (do pure (.value (← Instr.index t (a.eval x) (a.eval i)))) K:=by
 unfold indexW at h
 split at h
 ·rename_i k n ei
  rw [ev_int R hi ei]
  split at h
  ·rename_i s e
   obtain ⟨h1,h2,h3,h4⟩:=h
   have hv:=ev_str R hx e
   have hn : n.toNat < s.length:=by omega
   refine ⟨_,.int .u8 (s.getD n.toNat 0).toNat,h4,?_,scal_int _ _ _ _,trivial⟩
   have hb : (if 0 ≤ n then (⟨s.toArray⟩ : ByteArray)[n.toNat]? else none) = some (s.getD n.toNat 0):=by
    rw [if_pos h2]
    have hlt : n.toNat < (⟨s.toArray⟩ : ByteArray).size:=by simpa [ByteArray.size] using hn
    rw [getElem?_pos (⟨s.toArray⟩ : ByteArray) n.toNat hlt]
    simp [List.getD,List.getElem?_eq_getElem hn,ByteArray.getElem_eq_getElem_data]
   simp only [Instr.index,asIntOf,hv,Sem.run_bind,run_under (kind4 h1),Result.andThen_ok,Sem.run_pure,hb]
  ·rename_i sz xs e
   obtain ⟨hpl,h1,h2,hz,h2',hall,h3,h4,h5⟩:=h
   obtain ⟨el,hu,hs,hag,_⟩:=kind2 h1
   have hr:=(ev_rep R hx).1
   rw [e] at hr
   simp only [RepW] at hr
   obtain ⟨cs,hv,hr⟩:=hr
   have hn : n.toNat < xs.length:=by omega
   have hg : xs[n.toNat]? = some (xs.getD n.toNat .undef):=by simp [List.getD,List.getElem?_eq_getElem hn]
   have hmem:=List.mem_of_getElem? hg
   simp only [RepC] at hr
   obtain ⟨hr,hun⟩:=hr
   obtain ⟨m1,cy,m2,Oy,Ob,g1,g2,g3,g4,g5,g6⟩:=repL_at xs _ _ hr hg
   rw [uni_take hun (by omega)] at g2
   have hl:=repC_len _ g3
   rw [hun _ hmem] at hl
   have hpy : plain (xs.getD n.toNat .undef) = true:=by
    rw [plainL_all,List.all_eq_true] at hpl
    exact hpl _ hmem
   have hemp:=repC_plain _ g3 hpy
   have g3':=repC_cong _ g3 (O':=fun _ => False) (fun k => ⟨False.elim,fun hk => (hemp k hk).elim⟩)
   rw [h2] at hs
   have hi0 : (0 : Int) ≤ n ∧ n < ((tinfo P t).alen : Int):=⟨h3,by omega⟩
   have hag2:=(hall _ hmem).1
   rw [hag.symm] at hag2
   obtain ⟨d,hd⟩ : ∃ d,P.underlying el = some d:=by
    unfold aggTy at hag2
    cases hu2 : P.underlying el with
    | none => simp [hu2] at hag2
    | some d => exact ⟨d,rfl⟩
   by_cases hA : (xs.getD n.toNat .undef).isAgg = true
   ·have hia : (isAgg el).run P w = .ok true w:=by
     rw [hA] at hag2
     unfold aggTy at hag2
     rw [hd] at hag2
     cases d <;> simp_all [isAgg,run_under hd]
    refine ⟨_,.agg cy.toArray,h5,?_,repW_of_C g3' hA,aliasOk_none (plain_target hpy)⟩
    have hx2 : cs.extract (n.toNat * sz) (n.toNat * sz + sz) = cy.toArray:=by
     apply Array.toList_inj.1
     simp only [Array.toList_extract,List.extract_eq_take_drop]
     rw [g1,List.append_assoc,List.drop_append_of_le_length (by omega),List.drop_of_length_le (by omega)]
     simp [hl.symm]
    simp [Instr.index,asIntOf,hv,run_under hu,hi0,run_size (P:=P) (w:=w) (t:=el) (by omega),part,hia,hs,hx2]
   ·have hA' : (xs.getD n.toNat .undef).isAgg = false:=by simpa using hA
    have hia : (isAgg el).run P w = .ok false w:=by
     rw [hA'] at hag2
     unfold aggTy at hag2
     rw [hd] at hag2
     cases d <;> simp_all [isAgg,run_under hd]
    have h1c : ncells (xs.getD n.toNat .undef) = 1:=by
     generalize xs.getD n.toNat .undef = z at hA'
     cases z <;> simp_all [AV.isAgg,ncells]
    obtain ⟨v,rfl⟩:=List.length_eq_one_iff.1 ((repC_len _ g3).trans h1c)
    refine ⟨_,v,h5,?_,repW_of_C1 g3' hA',aliasOk_none (plain_target hpy)⟩
    have hx2 : cs[n.toNat * sz]? = some v:=by
     rw [← Array.getElem?_toList,g1,List.append_assoc,List.getElem?_append_right (by omega)]
     simp [g2]
    simp [Instr.index,asIntOf,hv,run_under hu,hi0,run_size (P:=P) (w:=w) (t:=el) (by omega),part,hia,hs,hx2]
  ·exact h.elim
 ·exact h.elim
theorem sim_conv (R : Rel h0 ok O0 σ a.tmps w.heap Os) {x : Operand} (hx : opndOk a.tmps.size x = true) {src dst : TypeId} {K : AV → Prop} (h : convW P σ src dst x K) :
  PureOk P σ ok Os a.tmps w (do pure (.value (← convert src dst (a.eval x)))) K:=by
 unfold convW at h
 split at h
 ·rename_i k0 n e
  rw [ev_int R hx e]
  split at h
  ·rename_i k hd
   obtain ⟨h1,h2⟩:=h
   obtain ⟨k1,hs⟩:=kind5 h1
   refine ⟨_,.int k (k.wrap n),h2,?_,scal_int _ _ _ _,trivial⟩
   simp [convert,run_under hs,run_under hd,Conv.intToInt]
  ·exact h.elim
 ·exact h.elim
theorem repL_cut {h : Array Obj} {S : Nat → Prop} {sz : Nat} : ∀ (n : Nat) (xs : List AV) {m : List Value},RepL h S xs m (fun _ => False) → (∀ x ∈ xs,x.ncells = sz) → n ≤ xs.length →
  RepL h S (xs.take n) (m.take (n * sz)) (fun _ => False) ∧ RepL h S (xs.drop n) (m.drop (n * sz)) (fun _ => False)
 | 0,xs,m,r,hu,hn => by simp only [List.take_zero,List.drop_zero,Nat.zero_mul]; exact ⟨by simp only [RepL]; exact ⟨trivial,emp_false⟩,r⟩
 | n + 1,[],m,r,hu,hn => by simp at hn
 | n + 1,x :: xs,m,r,hu,hn => by
  simp only [RepL] at r
  obtain ⟨c1,c2,O1,O2,rfl,h1,h2,h3,h4⟩:=r
  have e1 : Emp O1:=fun k hk => (h1 k).2 (.inl hk)
  have e2 : Emp O2:=fun k hk => (h1 k).2 (.inr hk)
  have r4:=repL_cong _ h4 (O':=fun _ => False) (fun k => ⟨False.elim,fun hk => (e2 k hk).elim⟩)
  have r3:=repC_cong _ h3 (O':=fun _ => False) (fun k => ⟨False.elim,fun hk => (e1 k hk).elim⟩)
  obtain ⟨g1,g2⟩:=repL_cut n xs r4 (fun y hy => hu y (List.mem_cons_of_mem _ hy)) (by simpa using hn)
  have hl : c1.length = sz:=by rw [repC_len _ r3]; exact hu x (List.mem_cons_self ..)
  have e3 : (n + 1) * sz = c1.length + n * sz:=by rw [hl,Nat.add_mul]; omega
  constructor
  ·rw [List.take_succ_cons,e3,List.take_length_add_append]
   simp only [RepL]
   exact ⟨c1,c2.take (n * sz),fun _ => False,fun _ => False,rfl,by simp,by simp,r3,g1⟩
  ·rw [List.drop_succ_cons,e3,List.drop_length_add_append]
   exact g2
theorem asI {P : Program} {w : World} {k : IntKind} {n : Int} {y : Nat} {c : BoundsCode} (h0 : 0 ≤ n) (h1 : n ≤ y) : (Instr.sliceBound (.int k n) y c).run P w = .ok n.toNat w:=by
 simp [Instr.sliceBound,asIntOf,h0,h1]
theorem run_sliceSl {P : Program} {w : World} {t e : TypeId} (hu : P.underlying t = some (.slice e)) (hs : 0 < szOf P e) {A : Option Addr} {len cap : Nat} (hc : len ≤ cap) {lo hi : Option Value} {l r : Int}
  (e1 : lo = none ∧ l = 0 ∨ ∃ k,lo = some (.int k l)) (e2 : hi = none ∧ r = len ∨ ∃ k,hi = some (.int k r)) (h0 : 0 ≤ l) (h1 : l ≤ r) (h2 : r ≤ len) :
  (Instr.sliceAt t (.slice A len cap) lo hi none).run P w = .ok (.slice (if cap = l.toNat then A else A.map (·.add (l.toNat * szOf P e))) (r.toNat - l.toNat) (cap - l.toNat)) w:=by
 have b1 : (0 : Int) ≤ r:=by omega
 have b2 : r ≤ (cap : Int):=by omega
 have b3 : l ≤ ((r.toNat : Nat) : Int):=by omega
 have key : (Instr.sliceBounds true len cap lo hi none).run P w = .ok (l.toNat,r.toNat,cap) w:=by
  rcases e1 with ⟨rfl,rfl⟩ | ⟨k,rfl⟩ <;> rcases e2 with ⟨rfl,rfl⟩ | ⟨k',rfl⟩
  ·simp [Instr.sliceBounds]
  ·simp [Instr.sliceBounds,asI b1 b2]
  ·simp [Instr.sliceBounds,asI h0 h1]
  ·simp [Instr.sliceBounds,asI b1 b2,asI h0 b3]
 simp [Instr.sliceAt,Instr.slice,run_under hu,key,run_size hs]
theorem sl_piece {h : Array Obj} {S : Nat → Prop} {sz : Nat} {xs : List AV} {v : Value} (hs : 0 < sz) (r : RepC h S (.sl false sz xs) [v] (fun _ => False)) (l g : Nat) (h1 : l ≤ g) (h2 : g ≤ xs.length) :
  ∃ A cap,v = .slice A xs.length cap ∧ xs.length ≤ cap ∧ RepC h S (.sl false sz ((xs.take g).drop l)) [.slice (if cap = l then A else A.map (·.add (l * sz))) (g - l) (cap - l)] (fun _ => False):=by
 simp only [RepC] at r
 obtain ⟨⟨A,cap,m,q1,q2,q3,q4,q5⟩,_⟩:=r
 refine ⟨A,cap,by simpa using q1,q2,?_⟩
 have hlen : ((xs.take g).drop l).length = g - l:=by simp; omega
 have c1:=(repL_cut g xs q3 q4 h2).1
 have c2:=(repL_cut l (xs.take g) c1 (fun x hx => q4 x (List.mem_of_mem_take hx)) (by simp; omega)).2
 simp only [RepC]
 refine ⟨⟨if cap = l then A else A.map (·.add (l * sz)),cap - l,_,by rw [hlen],by rw [hlen]; omega,c2,fun x hx => q4 x (List.mem_of_mem_take (List.mem_of_mem_drop hx)),fun hpos => ?_⟩,emp_false⟩
 rw [hlen] at hpos
 obtain ⟨a,rfl,ha,hcell⟩:=q5 (by omega)
 have hne : cap ≠ l:=by omega
 refine ⟨a.add (l * sz),by simp [hne],fun h => by rw [add_block]; exact ha h,fun j u hu => ?_⟩
 rw [add_add]
 apply hcell
 rw [List.getElem?_drop] at hu
 by_cases hj : l * sz + j < g * sz
 ·rwa [List.getElem?_take_of_lt hj] at hu
 ·rw [List.getElem?_eq_none (by simp; omega)] at hu; cases hu
theorem sim_sliceStr (R : Rel h0 ok O0 σ a.tmps w.heap Os) {x : Operand} (hx : opndOk a.tmps.size x = true) {lo hi : Option Operand} (hlo : ∀ l,lo = some l → opndOk a.tmps.size l = true) (hhi : ∀ l,hi = some l → opndOk a.tmps.size l = true) {t : TypeId} {K : AV → Prop} (h : sliceStrW P σ t x lo hi K) :
  PureOk P σ ok Os a.tmps w (do pure (.value (← Instr.sliceAt t (a.eval x) (lo.map a.eval) (hi.map a.eval) none))) K:=by
 unfold sliceStrW at h
 split at h
 ·rename_i s e
  obtain ⟨h1,h⟩:=h
  have hv:=ev_str R hx e
  split at h
  ·rename_i l hh e1 e2
   obtain ⟨h2,h3,h4,h5⟩:=h
   refine ⟨_,.string ⟨((s.take hh.toNat).drop l.toNat).toArray⟩,h5,?_,scal_str _ _ _,trivial⟩
   have hsz : (⟨s.toArray⟩ : ByteArray).size = s.length:=by simp [ByteArray.size]
   have hext : (⟨s.toArray⟩ : ByteArray).extract l.toNat hh.toNat = ⟨((s.take hh.toNat).drop l.toNat).toArray⟩:=by
    apply ByteArray.ext
    simp only [ByteArray.data_extract]
    apply Array.toList_inj.1
    simp [List.extract_eq_take_drop,List.drop_take]
   rw [← hext]
   cases lo with
   | none =>
    simp only [Option.some.injEq] at e1
    subst e1
    cases hi with
    | none =>
     simp only [Option.some.injEq] at e2
     subst e2
     rw [hext]
     simp [Instr.sliceAt,Instr.slice,Instr.sliceBounds,run_under (kind4 h1),hv]
    | some y =>
     simp only at e2
     split at e2
     ·rename_i k m em
      cases e2
      have h2' : 0 ≤ hh ∧ hh ≤ (s.length : Int):=⟨by omega,h4⟩
      simp [Instr.sliceAt,Instr.slice,Instr.sliceBounds,Instr.sliceBound,run_under (kind4 h1),hv,hsz,ev_int R (hhi y rfl) em,asIntOf,h2']
     ·cases e2
   | some z =>
    simp only at e1
    split at e1
    ·rename_i k0 m0 em0
     cases e1
     cases hi with
     | none =>
      simp only [Option.some.injEq] at e2
      subst e2
      have h2' : 0 ≤ l ∧ l ≤ (s.length : Int):=⟨h2,by omega⟩
      simp [Instr.sliceAt,Instr.slice,Instr.sliceBounds,Instr.sliceBound,run_under (kind4 h1),hv,hsz,ev_int R (hlo z rfl) em0,asIntOf,h2']
     | some y =>
      simp only at e2
      split at e2
      ·rename_i k m em
       cases e2
       have h2' : 0 ≤ hh ∧ hh ≤ (s.length : Int):=⟨by omega,h4⟩
       have h2'' : 0 ≤ l ∧ l ≤ max hh 0:=⟨h2,by omega⟩
       simp [Instr.sliceAt,Instr.slice,Instr.sliceBounds,Instr.sliceBound,run_under (kind4 h1),hv,hsz,ev_int R (hhi y rfl) em,ev_int R (hlo z rfl) em0,asIntOf,h2',h2'']
      ·cases e2
    ·cases e1
  ·exact h.elim
 ·rename_i sz xs e
  obtain ⟨h1,h2,h3,h⟩:=h
  have hr:=(ev_rep R hx).1
  rw [e] at hr
  have hemp:=repW_plain _ hr rfl
  have hr':=repW_cong _ hr (O':=fun _ => False) (fun k => ⟨False.elim,fun hk => (hemp k hk).elim⟩)
  simp only [RepW] at hr'
  obtain ⟨te,ku,ks,_⟩:=kind1 h1
  rw [h2] at ks
  split at h
  ·rename_i l r e1 e2
   obtain ⟨g1,g2,g3,g4⟩:=h
   obtain ⟨A,cap,p1,p2,p3⟩:=sl_piece h3 hr' l.toNat r.toNat (by omega) (by omega)
   have d1 : lo.map a.eval = none ∧ l = 0 ∨ ∃ k,lo.map a.eval = some (.int k l):=by
    cases lo with
    | none => simp only [Option.some.injEq] at e1; exact .inl ⟨rfl,e1.symm⟩
    | some z =>
     simp only at e1
     split at e1
     ·rename_i k0 m0 em0
      cases e1
      exact .inr ⟨k0,by simp [ev_int R (hlo z rfl) em0]⟩
     ·cases e1
   have d2 : hi.map a.eval = none ∧ r = (xs.length : Nat) ∨ ∃ k,hi.map a.eval = some (.int k r):=by
    cases hi with
    | none => simp only [Option.some.injEq] at e2; exact .inl ⟨rfl,e2.symm⟩
    | some z =>
     simp only at e2
     split at e2
     ·rename_i k0 m0 em0
      cases e2
      exact .inr ⟨k0,by simp [ev_int R (hhi z rfl) em0]⟩
     ·cases e2
   refine ⟨_,.slice (if cap = l.toNat then A else A.map (·.add (l.toNat * sz))) (r.toNat - l.toNat) (cap - l.toNat),g4,?_,by simp only [RepW]; exact p3,trivial⟩
   rw [p1]
   have:=run_sliceSl (P:=P) (w:=w) (A:=A) ku (by rw [ks]; exact h3) p2 d1 d2 g1 g2 g3
   rw [ks] at this
   simp [this]
  ·exact h.elim
 ·rename_i s p e
  split at h
  ·rename_i sz xs eg
   obtain ⟨h1,h2,h3,h⟩:=h
   obtain ⟨te,ku,ks,_⟩:=kind1 h1
   split at h
   ·rename_i l r e1 e2
    obtain ⟨g1,g2,g3,g4⟩:=h
    have es : srcOf σ x = .slo s p sz xs:=by unfold srcOf; simp only [e,eg]
    obtain ⟨u,k1,k2,k3,k4⟩:=src_slo R hx es
    obtain ⟨⟨Oy,rr,_⟩,_⟩:=slo_rep k2 k3 k4
    have d1 : lo.map a.eval = none ∧ l = 0 ∨ ∃ k,lo.map a.eval = some (.int k l):=by
     cases lo with
     | none => simp only [Option.some.injEq] at e1; exact .inl ⟨rfl,e1.symm⟩
     | some z =>
      simp only at e1
      split at e1
      ·rename_i k0 m0 em0
       cases e1
       exact .inr ⟨k0,by simp [ev_int R (hlo z rfl) em0]⟩
      ·cases e1
    have d2 : hi.map a.eval = none ∧ r = (xs.length : Nat) ∨ ∃ k,hi.map a.eval = some (.int k r):=by
     cases hi with
     | none => simp only [Option.some.injEq] at e2; exact .inl ⟨rfl,e2.symm⟩
     | some z =>
      simp only at e2
      split at e2
      ·rename_i k0 m0 em0
       cases e2
       exact .inr ⟨k0,by simp [ev_int R (hhi z rfl) em0]⟩
      ·cases e2
    have key : ∃ A cap,a.eval x = .slice A xs.length cap ∧ xs.length ≤ cap ∧ CutV (a.eval x) l.toNat r.toNat sz (.slice (if cap = l.toNat then A else A.map (·.add (l.toNat * (szOf P te)))) (r.toNat - l.toNat) (cap - l.toNat)):=by
     simp only [RepC] at rr
     rcases rr with ⟨rfl,gv,gO⟩ | ⟨hszp,b,c,te',cap,O',gv,hrow,hcs,hlc,hcm,hrl,hun,hnb,hO,hone⟩
     ·have hv : a.eval x = .slice none 0 0:=by simpa using gv
      have l0 : l = 0:=by simp only [List.length_nil] at g3; omega
      have r0 : r = 0:=by simp only [List.length_nil] at g3; omega
      subst l0 r0
      exact ⟨none,0,by simpa using hv,by simp,.inr ⟨hv,by simp,rfl,rfl⟩⟩
     ·have hv : a.eval x = .slice (some ⟨b,0,none⟩) xs.length cap:=by simpa using gv
      refine ⟨_,cap,hv,hlc,.inl ⟨b,_,cap,hv,?_⟩⟩
      have hz : l.toNat * szOf P te = l.toNat * sz:=by
       rcases h2 with h2 | rfl
       ·rw [← h2,← ks]
       ·have : l.toNat = 0:=by simp only [List.length_nil] at g3; omega
        rw [this]; simp
      rw [hz]
      by_cases hc : cap = l.toNat
      ·simp [hc]
      ·simp [hc,Addr.add]
       intro h0
       exact h0.symm
    obtain ⟨A,cap,p1,p2,p3⟩:=key
    refine ⟨_,_,g4,?_,by simp only [RepW]; exact emp_false,⟨u,sz,xs,_,k1,k3,k4,by omega,by omega,p3⟩⟩
    rw [p1]
    have:=run_sliceSl (P:=P) (w:=w) (A:=A) ku (by rw [ks]; exact h3) p2 d1 d2 g1 g2 g3
    simp [this]
   ·exact h.elim
  ·exact h.elim
 ·exact h.elim
end
end Go.Proofs.YtpffgegfjpdncaaGreatDoor.Am
namespace Go.Proofs.YtpffgegfjpdncaaGreatDoor.Am
open Go.RowKit AV
set_option linter.unusedVariables false
def pull (σ : St) : Operand → St
 | .tmp t => (match look σ t with
  | .vref s p => (match p with
   | [] => upd σ [(t,look σ s),(s,.undef)]
   | i :: p => (match getAt (look σ s) (i :: p) with | some y => setP σ s (i :: p) .undef [(t,y)] | none => σ))
  | .vagg s p => (match getAt (look σ s) p with | some y => if 0 < ncells y then setP σ s p (dead y) [(t,y)] else σ | none => σ)
  | _ => σ)
 | _ => σ
theorem wrote_same {W : Nat → Prop} {h : Array Obj} {B o : Nat} {cy : List Value} (H : At h B o cy) (hl : 0 < cy.length) : Wrote W h h B o cy:=by
 refine ⟨fun _ _ _ => rfl,?_⟩
 have hc:=H 0 _ (List.getElem?_eq_getElem hl)
 simp only [cellH] at hc
 cases hb : h[B]? with
 | none => simp [hb] at hc
 | some ob =>
  cases ob with
  | cells c e fr =>
   have hall : ∀ j u,cy[j]? = some u → c[o + j]? = some u:=by
    intro j u hu
    have:=H j u hu
    simpa [cellH,hb] using this
   refine ⟨c,c,e,fr,rfl,rfl,rfl,?_,fun j => ?_⟩
   ·have:=hall (cy.length - 1) _ (List.getElem?_eq_getElem (by omega))
    have:=(Array.getElem?_eq_some_iff.1 this).1
    omega
   ·split
    ·rename_i hj
     have hlt : j - o < cy.length:=by omega
     have:=hall (j - o) _ (List.getElem?_eq_getElem hlt)
     rw [show o + (j - o) = j by omega] at this
     rw [this,List.getElem?_eq_getElem hlt]
    ·rfl
  | _ => simp [hb] at hc
def setO (Os : Nat → Nat → Prop) (t : Nat) (O : Nat → Prop) : Nat → Nat → Prop:=fun s => if s = t then O else Os s
theorem setO_same (Os : Nat → Nat → Prop) (t : Nat) (O : Nat → Prop) : setO Os t O t = O:=by simp [setO]
theorem setO_ne (Os : Nat → Nat → Prop) {t s : Nat} (O : Nat → Prop) (h : s ≠ t) : setO Os t O s = Os s:=by simp [setO,h]
section
variable {h0 : Array Obj} {ok O0 : Nat → Prop} {σ : St} {tm : Array Value} {h : Array Obj} {Os : Nat → Nat → Prop}
theorem Rel.ghost2 (R : Rel h0 ok O0 σ tm h Os) {t s : Nat} (hts : t ≠ s) (yt ys : AV) (Ot Ob : Nat → Prop) {ut us : Value} (ht : tm[t]? = some ut) (hs : tm[s]? = some us)
  (hU : ∀ k,(Os t k ∨ Os s k) ↔ (Ot k ∨ Ob k)) (hD : ∀ k,Ot k → ¬ Ob k)
  (rt : RepW h (Sh ok Os) yt ut Ot) (rs : RepW h (Sh ok Os) ys us Ob) (at_ : yt.target = none) (as_ : ys.target = none) :
  Rel h0 ok O0 (upd σ [(t,yt),(s,ys)]) tm h (setO (setO Os s Ob) t Ot):=by
 have hsh : ∀ k,Sh ok (setO (setO Os s Ob) t Ot) k ↔ Sh ok Os k:=by
  intro k
  have : (∃ r,setO (setO Os s Ob) t Ot r k) ↔ ∃ r,Os r k:=by
   constructor
   ·rintro ⟨r,hr⟩
    by_cases h1 : r = t
    ·subst h1
     rw [setO_same] at hr
     rcases (hU k).2 (.inl hr) with hh | hh
     ·exact ⟨_,hh⟩
     ·exact ⟨_,hh⟩
    ·rw [setO_ne _ _ h1] at hr
     by_cases h2 : r = s
     ·subst h2
      rw [setO_same] at hr
      rcases (hU k).2 (.inr hr) with hh | hh
      ·exact ⟨_,hh⟩
      ·exact ⟨_,hh⟩
     ·rw [setO_ne _ _ h2] at hr
      exact ⟨r,hr⟩
   ·rintro ⟨r,hr⟩
    by_cases h1 : r = t ∨ r = s
    ·have : Ot k ∨ Ob k:=(hU k).1 (by rcases h1 with rfl | rfl <;> simp [hr])
     rcases this with hh | hh
     ·exact ⟨t,by rw [setO_same]; exact hh⟩
     ·exact ⟨s,by rw [setO_ne _ _ (Ne.symm hts),setO_same]; exact hh⟩
    ·simp only [not_or] at h1
     exact ⟨r,by rw [setO_ne _ _ h1.1,setO_ne _ _ h1.2]; exact hr⟩
  simp only [Sh,← not_exists,this]
 have hag : ∀ O : Nat → Prop,Agree h h (Sh ok Os) (Sh ok (setO (setO Os s Ob) t Ot)) O:=fun O => ⟨fun k hk _ => ⟨(hsh k).2 hk,rfl⟩,fun _ _ => rfl⟩
 have hother : ∀ r,r ∉ keys [(t,yt),(s,ys)] → setO (setO Os s Ob) t Ot r = Os r:=by
  intro r hr
  simp only [keys,List.mem_cons,List.not_mem_nil,or_false,not_or] at hr
  rw [setO_ne _ _ hr.1,setO_ne _ _ hr.2]
 have hO : ∀ r k,setO (setO Os s Ob) t Ot r k → (r = t ∧ Ot k) ∨ (r = s ∧ Ob k) ∨ (r ≠ t ∧ r ≠ s ∧ Os r k):=by
  intro r k hr
  by_cases h1 : r = t
  ·subst h1; rw [setO_same] at hr; exact .inl ⟨rfl,hr⟩
  ·rw [setO_ne _ _ h1] at hr
   by_cases h2 : r = s
   ·subst h2; rw [setO_same] at hr; exact .inr (.inl ⟨rfl,hr⟩)
   ·rw [setO_ne _ _ h2] at hr; exact .inr (.inr ⟨h1,h2,hr⟩)
 have hlt : t < tm.size:=(Array.getElem?_eq_some_iff.1 ht).1
 have hls : s < tm.size:=(Array.getElem?_eq_some_iff.1 hs).1
 refine R.step [(t,yt),(s,ys)] tm h _ rfl (fun _ _ => rfl) (fun r hr k => by rw [hother r hr]) (fun _ _ _ _ => rfl) (fun k _ hk => ⟨((hsh k).2 hk).2,rfl⟩) ?_ ?_ ?_ ?_ ?_ (Nat.le_refl _) (fun _ _ _ => rfl)
 ·intro r hr v hv
  simp only [keys,List.mem_cons,List.not_mem_nil,or_false] at hr
  by_cases h1 : r = t
  ·subst h1
   rw [ht] at hv; cases hv
   simp only [look,if_true,setO_same]
   exact repW_mono _ rt (hag _)
  ·have h2 : r = s:=hr.resolve_left h1
   subst h2
   rw [hs] at hv; cases hv
   simp only [look,if_neg (Ne.symm h1),if_true,setO_ne _ _ h1,setO_same]
   exact repW_mono _ rs (hag _)
 ·intro r hr hge
  simp only [keys,List.mem_cons,List.not_mem_nil,or_false] at hr
  rcases hr with rfl | rfl <;> omega
 ·intro r1 r2 k h1 h2
  rcases hO r1 k h1 with ⟨rfl,g1⟩ | ⟨rfl,g1⟩ | ⟨a1,a2,g1⟩ <;> rcases hO r2 k h2 with ⟨rfl,g2⟩ | ⟨rfl,g2⟩ | ⟨b1,b2,g2⟩
  ·rfl
  ·exact absurd g2 (hD k g1)
  ·exfalso
   rcases (hU k).2 (.inl g1) with hh | hh
   ·exact b1 (R.dis _ _ k g2 hh)
   ·exact b2 (R.dis _ _ k g2 hh)
  ·exact absurd g1 (hD k g2)
  ·rfl
  ·exfalso
   rcases (hU k).2 (.inr g1) with hh | hh
   ·exact b1 (R.dis _ _ k g2 hh)
   ·exact b2 (R.dis _ _ k g2 hh)
  ·exfalso
   rcases (hU k).2 (.inl g2) with hh | hh
   ·exact a1 (R.dis _ _ k g1 hh)
   ·exact a2 (R.dis _ _ k g1 hh)
  ·exfalso
   rcases (hU k).2 (.inr g2) with hh | hh
   ·exact a1 (R.dis _ _ k g1 hh)
   ·exact a2 (R.dis _ _ k g1 hh)
  ·exact R.dis _ _ k g1 g2
 ·intro r _ k hk
  rcases hO r k hk with ⟨rfl,g1⟩ | ⟨rfl,g1⟩ | ⟨_,_,g1⟩
  ·rcases (hU k).2 (.inl g1) with hh | hh
   ·exact R.own _ k hh
   ·exact R.own _ k hh
  ·rcases (hU k).2 (.inr g1) with hh | hh
   ·exact R.own _ k hh
   ·exact R.own _ k hh
  ·exact R.own _ k g1
 ·intro r hr v _
  simp only [keys,List.mem_cons,List.not_mem_nil,or_false] at hr
  by_cases h1 : r = t
  ·subst h1; simp only [look,if_true]; exact aliasOk_none at_
  ·have h2 : r = s:=hr.resolve_left h1
   subst h2; simp only [look,if_neg (Ne.symm h1),if_true]; exact aliasOk_none as_
theorem Rel.ghostP (R : Rel h0 ok O0 σ tm h Os) {t s : Nat} (hts : t ≠ s) {p : List Nat} {y yt z : AV} {Oy Ob : Nat → Prop} {ut us : Value} {B' o' : Nat} {cy : List Value} (ht : tm[t]? = some ut) (hs : tm[s]? = some us)
  (hg : getAt (look σ s) p = some y) (ha : adrV h p (look σ s) us = some (B',o')) (hat : At h B' o' cy) (hcy : cy.length = ncells y) (hpos : 0 < ncells y) (hn : ncells z = ncells y)
  (hOt : Emp (Os t)) (q3 : ∀ k,Os s k ↔ Oy k ∨ Ob k) (q4 : ∀ k,Oy k → ¬ Ob k)
  (rt : RepW h (Sh ok Os) yt ut Oy) (rs : RepW h (Sh ok Os) (setAt (look σ s) p z) us Ob) (at_ : yt.target = none) :
  Rel h0 ok O0 (setP σ s p z [(t,yt)]) tm h (setO (setO Os s Ob) t Oy):=by
 have hO : ∀ r k,setO (setO Os s Ob) t Oy r k → ∃ r',Os r' k:=by
  intro r k hr
  by_cases h1 : r = t
  ·subst h1; rw [setO_same] at hr; exact ⟨s,(q3 k).2 (.inl hr)⟩
  ·rw [setO_ne _ _ h1] at hr
   by_cases h2 : r = s
   ·subst h2; rw [setO_same] at hr; exact ⟨r,(q3 k).2 (.inr hr)⟩
   ·rw [setO_ne _ _ h2] at hr; exact ⟨r,hr⟩
 have hO2 : ∀ r k,Os r k → ∃ r',setO (setO Os s Ob) t Oy r' k:=by
  intro r k hr
  by_cases h1 : r = t
  ·subst h1; exact (hOt k hr).elim
  ·by_cases h2 : r = s
   ·subst h2
    rcases (q3 k).1 hr with hh | hh
    ·exact ⟨t,by rw [setO_same]; exact hh⟩
    ·exact ⟨r,by rw [setO_ne _ _ h1,setO_same]; exact hh⟩
   ·exact ⟨r,by rw [setO_ne _ _ h1,setO_ne _ _ h2]; exact hr⟩
 have hsh : ∀ k,Sh ok Os k → Sh ok (setO (setO Os s Ob) t Oy) k:=fun k hk => ⟨hk.1,fun r hr => by obtain ⟨r',hr'⟩:=hO r k hr; exact hk.2 r' hr'⟩
 have hag : ∀ Oz,Agree h h (Sh ok Os) (Sh ok (setO (setO Os s Ob) t Oy)) Oz:=fun Oz => ⟨fun k hk _ => ⟨hsh k hk,rfl⟩,fun _ _ => rfl⟩
 refine R.stepP [(t,yt)] tm h _ (by simp [keys]; exact Ne.symm hts) hs hg ha hn (wrote_same hat (by omega)) hcy rfl (fun _ _ => rfl) ?_ ?_ ?_ ?_ ?_ ?_ ?_ ?_ (Nat.le_refl _)
 ·intro r hr hrs k
  have hr' : r ≠ t:=by simpa [keys] using hr
  rw [setO_ne _ _ hr',setO_ne _ _ hrs]
 ·intro k _ hk r hr
  obtain ⟨r',hr'⟩:=hO r k hr
  exact hk.2 r' hr'
 ·intro r hr v hv
  have hr' : r = t:=by simpa [keys] using hr
  subst hr'
  rw [ht] at hv; cases hv
  rw [setO_same]
  simp only [look,if_true]
  exact repW_mono _ rt (hag _)
 ·rw [setO_ne _ _ (Ne.symm hts),setO_same]
  exact repW_mono _ rs (hag _)
 ·intro r hr hge
  have hr' : r = t:=by simpa [keys] using hr
  subst hr'
  have:=(Array.getElem?_eq_some_iff.1 ht).1
  omega
 ·intro a b k ha' hb'
  have key : ∀ r,setO (setO Os s Ob) t Oy r k → (r = t ∧ Oy k) ∨ (r = s ∧ Ob k) ∨ (r ≠ t ∧ r ≠ s ∧ Os r k):=by
   intro r hr
   by_cases h1 : r = t
   ·subst h1; rw [setO_same] at hr; exact .inl ⟨rfl,hr⟩
   ·rw [setO_ne _ _ h1] at hr
    by_cases h2 : r = s
    ·subst h2; rw [setO_same] at hr; exact .inr (.inl ⟨rfl,hr⟩)
    ·rw [setO_ne _ _ h2] at hr; exact .inr (.inr ⟨h1,h2,hr⟩)
  rcases key a ha' with ⟨rfl,u1⟩ | ⟨rfl,u1⟩ | ⟨a1,a2,u1⟩ <;> rcases key b hb' with ⟨rfl,u2⟩ | ⟨rfl,u2⟩ | ⟨b1,b2,u2⟩
  ·rfl
  ·exact (q4 k u1 u2).elim
  ·exact absurd (R.dis _ _ k u2 ((q3 k).2 (.inl u1))) b2
  ·exact (q4 k u2 u1).elim
  ·rfl
  ·exact absurd (R.dis _ _ k u2 ((q3 k).2 (.inr u1))) b2
  ·exact absurd (R.dis _ _ k u1 ((q3 k).2 (.inl u2))) a2
  ·exact absurd (R.dis _ _ k u1 ((q3 k).2 (.inr u2))) a2
  ·exact R.dis _ _ k u1 u2
 ·intro r k hr
  obtain ⟨r',hr'⟩:=hO r k hr
  exact R.own r' k hr'
 ·intro r hr
  have hr' : r = t:=by simpa [keys] using hr
  subst hr'
  simpa [look] using at_
theorem setAt_noagg {h : Array Obj} {x : AV} {v : Value} {i : Nat} {p : List Nat} {q : Nat × Nat} (ha : adrV h (i :: p) x v = some q) (y : AV) : (setAt x (i :: p) y).isAgg = false:=by
 cases x with
 | box x => by_cases hi : i = 0 <;> simp [setAt,hi,AV.isAgg]
 | sl own sz xs => rfl
 | _ => simp [adrV] at ha
theorem pull_ok (R : Rel h0 ok O0 σ tm h Os) (x : Operand) (hx : opndOk tm.size x = true) : ∃ Os',Rel h0 ok O0 (pull σ x) tm h Os':=by
 cases x with
 | tmp t =>
  simp only [pull]
  cases ht : tm[t]? with
  | none =>
   have h1 : t < tm.size:=by simpa [opndOk] using hx
   have h2:=Array.getElem?_eq_none_iff.1 ht
   exact absurd h1 (Nat.not_lt.2 h2)
  | some v =>
   split
   ·rename_i s p e
    have ha:=R.ali t v ht
    rw [e] at ha
    obtain ⟨u,y,h1,h2,h3,h4⟩:=ha
    have hts : t ≠ s:=by
     intro hh; subst hh
     rw [e] at h2
     cases p <;> simp [getAt] at h2
     subst h2; simp [AV.hdr] at h3
    have hOt : Emp (Os t):=by
     have:=R.rep t v ht
     rw [e] at this
     simpa only [RepW] using this
    have hyn : y.target = none:=by cases y <;> simp_all [AV.hdr,AV.target]
    have hxn:=tgt_get h2 hyn
    split
    ·rcases h4 with ⟨_,rfl⟩ | ⟨B,o,h5,_⟩
     ·refine ⟨_,R.ghost2 hts _ .undef (Os s) (fun _ => False) ht h1 ?_ (by simp) (R.rep s v h1) (by simp only [RepW]; exact emp_false) hxn rfl⟩
      intro k; have:=hOt k; simp [this]
     ·simp [adrV] at h5
    ·rename_i i p
     simp only [h2]
     rcases h4 with ⟨h4,_⟩ | ⟨B,o,h5,h6⟩
     ·cases h4
     ·have r':=repC_of_get (y:=y) (R.rep s u h1) h5
      obtain ⟨cy,Oy,Ob,q1,q2,q3,q4,q5,q6,q7⟩:=placeV _ _ r' h2 h5
      have hl:=repC_len _ q1
      have h1c : ncells y = 1:=by cases y <;> simp_all [AV.hdr,ncells]
      obtain ⟨v',rfl⟩:=List.length_eq_one_iff.1 (hl.trans h1c)
      have hc:=q2 0 _ rfl
      rw [Nat.add_zero,h6] at hc
      injection hc with hc
      subst hc
      have hag : y.isAgg = false:=by cases y <;> simp_all [AV.hdr,AV.isAgg]
      have hb:=q7 (fun _ => True) h (Sh ok Os) .undef [v] (fun _ => False) (wrote_same q2 (by simp)) (fun _ _ => trivial) rfl (by simp only [RepC]; exact ⟨⟨v,rfl,repC_one _ q1 v (by simp)⟩,emp_false⟩) (fun k hk _ => ⟨hk,rfl⟩) (by simp)
      have hst : RepW h (Sh ok Os) (setAt (look σ s) (i :: p) .undef) u Ob:=by
       have hb':=repC_cong _ hb (O':=Ob) (fun k => by simp)
       exact repW_of_C1 hb' (setAt_noagg h5 _)
      exact ⟨_,R.ghostP hts ht h1 h2 h5 q2 hl (by omega) (by rw [h1c]; rfl) hOt q3 q4 (repW_of_C1 q1 hag) hst hyn⟩
   ·rename_i s p e
    have ha:=R.ali t v ht
    rw [e] at ha
    obtain ⟨u,y,B,o,cs,h1,h2,h3,h4,h5,h6,h7⟩:=ha
    simp only [h2]
    split
    ·rename_i hpos
     have hts : t ≠ s:=by
      intro hh; subst hh
      rw [e] at h4
      cases p <;> simp [adrV] at h4
     have hOt : Emp (Os t):=by
      have:=R.rep t v ht
      rw [e] at this
      simpa only [RepW] using this
     have hyn : y.target = none:=by cases y <;> simp_all [AV.isAgg,AV.target]
     have hxn:=tgt_get h2 hyn
     have r':=repC_of_get (y:=y) (R.rep s u h1) h4
     obtain ⟨cy,Oy,Ob,q1,q2,q3,q4,q5,q6,q7⟩:=placeV _ _ r' h2 h4
     have hl:=repC_len _ q1
     have hcl : cs.toList.length = cy.length:=by simpa using h7.trans hl.symm
     have hcs : cs.toList = cy:=by
      apply List.ext_getElem?
      intro j
      by_cases hj : j < cy.length
      ·have a1:=q2 j _ (List.getElem?_eq_getElem hj)
       have hj2 : j < cs.toList.length:=by omega
       have a2:=h6 j _ (List.getElem?_eq_getElem hj2)
       rw [a2] at a1
       rw [List.getElem?_eq_getElem hj,List.getElem?_eq_getElem hj2,a1]
      ·rw [List.getElem?_eq_none (by omega),List.getElem?_eq_none (by omega)]
     have hb:=q7 (fun _ => True) h (Sh ok Os) (dead y) cy (fun _ => False) (wrote_same q2 (by omega)) (fun _ _ => trivial) rfl (repC_dead _ q1) (fun k hk _ => ⟨hk,rfl⟩) (by simp)
     have hp : ∃ i p',p = i :: p':=by
      cases p with
      | nil => simp [adrV] at h4
      | cons i p' => exact ⟨i,p',rfl⟩
     obtain ⟨i,p',rfl⟩:=hp
     have hst : RepW h (Sh ok Os) (setAt (look σ s) (i :: p') (dead y)) u Ob:=by
      have hb':=repC_cong _ hb (O':=Ob) (fun k => by simp)
      exact repW_of_C1 hb' (setAt_noagg h4 _)
     have hv : v = .agg cy.toArray:=by rw [h5,← hcs]
     exact ⟨_,R.ghostP hts ht h1 h2 h4 q2 hl hpos (ncells_dead y) hOt q3 q4 (by rw [hv]; exact repW_of_C q1 h3) hst hyn⟩
    ·exact ⟨Os,R⟩
   ·exact ⟨Os,R⟩
 | _ => exact ⟨Os,R⟩
end
end Go.Proofs.YtpffgegfjpdncaaGreatDoor.Am
namespace Go.Proofs.YtpffgegfjpdncaaGreatDoor.Am
open Go.RowKit AV
set_option linter.unusedVariables false
def wipe (used : List Nat) : St:=used.map fun t => (t,.undef)
theorem keys_wipe (used : List Nat) : keys (wipe used) = used:=by
 induction used with
 | nil => rfl
 | cons a u ih => simp only [wipe,List.map_cons,keys] at *; rw [ih]
theorem look_wipe (used : List Nat) (k : Nat) : look (wipe used) k = .undef:=by
 induction used with
 | nil => rfl
 | cons a u ih => simp only [wipe,List.map_cons,look] at *; split <;> simp [ih]
def put (σ : St) (d : Nat) (y : AV) (used : List Nat) : St:=upd σ ((d,y) :: wipe used)
section
variable {h0 : Array Obj} {ok O0 : Nat → Prop} {σ : St} {tm : Array Value} {h : Array Obj} {Os : Nat → Nat → Prop}
def ownR (Os : Nat → Nat → Prop) (d : Nat) (Od : Nat → Prop) (used : List Nat) : Nat → Nat → Prop:=fun t => if t = d then Od else if t ∈ used then (fun _ => False) else Os t
theorem Rel.result (R : Rel h0 ok O0 σ tm h Os) (d : Nat) (y : AV) (v : Value) (used : List Nat) (h' : Array Obj) (Od : Nat → Prop)
  (hd : d < tm.size)
  (hsize : h.size ≤ h'.size) (hh : ∀ k,k < h.size → (∀ t ∈ used,¬ Os t k) → h'[k]? = h[k]?)
  (hO : ∀ k,Od k → (∃ t ∈ used,Os t k) ∨ h.size ≤ k)
  (r : RepW h' (Sh ok (ownR Os d Od used)) y v Od) (ht : AliasOk h' (put σ d y used) (tm.setIfInBounds d v) y v) :
  Rel h0 ok O0 (put σ d y used) (tm.setIfInBounds d v) h' (ownR Os d Od used):=by
 have hk : keys ((d,y) :: wipe used) = d :: used:=by simp [keys,keys_wipe]
 have hO' : ∀ t k,ownR Os d Od used t k → (t = d ∧ Od k) ∨ (t ≠ d ∧ t ∉ used ∧ Os t k):=by
  intro t k htk
  unfold ownR at htk
  split at htk
  ·exact .inl ⟨‹_›,htk⟩
  ·split at htk
   ·exact htk.elim
   ·exact .inr ⟨‹_›,‹_›,htk⟩
 refine R.step ((d,y) :: wipe used) _ h' (ownR Os d Od used) (by simp) ?_ ?_ ?_ ?_ ?_ ?_ ?_ ?_ ?_ hsize ?_
 ·intro t htn
  rw [hk] at htn
  simp only [List.mem_cons,not_or] at htn
  rw [Array.getElem?_setIfInBounds_ne (Ne.symm htn.1)]
 ·intro t htn k
  rw [hk] at htn
  simp only [List.mem_cons,not_or] at htn
  simp [ownR,htn.1,htn.2]
 ·intro t htn k hok
  rw [hk] at htn
  simp only [List.mem_cons,not_or] at htn
  refine hh k (R.lt hok) fun s hs hos => ?_
  have:=R.dis _ _ k hok hos
  subst this
  exact htn.2 hs
 ·intro k hlt hsh
  refine ⟨fun t htk => ?_,hh k hlt fun s hs hos => hsh.2 s hos⟩
  rcases hO' t k htk with ⟨_,h1⟩ | ⟨_,_,h1⟩
  ·rcases hO k h1 with ⟨s,_,hos⟩ | hge
   ·exact hsh.2 s hos
   ·omega
  ·exact hsh.2 t h1
 ·intro t _ u hu
  by_cases h1 : t = d
  ·subst h1
   simp only [look,if_true]
   rw [Array.getElem?_setIfInBounds_self_of_lt hd] at hu
   cases hu
   simp only [ownR,if_true]; exact r
  ·have : look ((d,y) :: wipe used) t = .undef:=by simp only [look,if_neg (Ne.symm h1),look_wipe]
   rw [this]
   simp only [RepW]
   intro k hk'
   rename_i hm
   rw [hk] at hm
   have hm' : t ∈ used:=by simpa [h1] using hm
   simp [ownR,h1,hm'] at hk'
 ·intro t hm hge k hk'
  rcases hO' t k hk' with ⟨h1,_⟩ | ⟨_,_,h1⟩
  ·omega
  ·exact R.out t hge k h1
 ·intro s t k h1 h2
  rcases hO' s k h1 with ⟨rfl,g1⟩ | ⟨a1,a2,g1⟩ <;> rcases hO' t k h2 with ⟨rfl,g2⟩ | ⟨b1,b2,g2⟩
  ·rfl
  ·exfalso
   rcases hO k g1 with ⟨r',hr',hos⟩ | hge
   ·have:=R.dis _ _ k g2 hos; subst this; exact b2 hr'
   ·have:=R.lt g2; omega
  ·exfalso
   rcases hO k g2 with ⟨r',hr',hos⟩ | hge
   ·have:=R.dis _ _ k g1 hos; subst this; exact a2 hr'
   ·have:=R.lt g1; omega
  ·exact R.dis _ _ k g1 g2
 ·intro t _ k hk'
  rcases hO' t k hk' with ⟨_,h1⟩ | ⟨_,_,h1⟩
  ·rcases hO k h1 with ⟨s,_,hos⟩ | hge
   ·exact R.own s k hos
   ·right; have:=R.size; omega
  ·exact R.own t k h1
 ·intro t hm u hu
  by_cases h1 : t = d
  ·subst h1
   simp only [look,if_true]
   rw [Array.getElem?_setIfInBounds_self_of_lt hd] at hu
   cases hu
   exact ht
  ·have : look ((d,y) :: wipe used) t = .undef:=by simp only [look,if_neg (Ne.symm h1),look_wipe]
   rw [this]; trivial
 ·intro k hlt hn
  have:=R.size
  refine hh k (by omega) fun s _ hos => ?_
  rcases R.own s k hos with hh | hh
  ·exact hn hh
  ·omega
def usedOf (σ : St) : List Operand → List Nat
 | [] => []
 | .tmp t :: r => if plain (look σ t) then usedOf σ r else t :: usedOf σ r
 | _ :: r => usedOf σ r
end
section
variable {h0 : Array Obj} {ok O0 : Nat → Prop} {σ : St} {a : Act} {h : Array Obj} {Os : Nat → Nat → Prop}
theorem gather (R : Rel h0 ok O0 σ a.tmps h Os) : ∀ (xs : List Operand),(∀ x ∈ xs,opndOk a.tmps.size x = true) → (usedOf σ xs).Nodup →
  ∃ O,RepWs h (Sh ok Os) (xs.map (ev σ)) (xs.map a.eval) O ∧ ∀ k,O k ↔ ∃ t ∈ usedOf σ xs,Os t k
 | [],_,_ => ⟨fun _ => False,by simp only [List.map_nil,RepWs]; exact ⟨trivial,emp_false⟩,by simp [usedOf]⟩
 | x :: xs,hx,hn => by
  have hx0:=hx x (List.mem_cons_self ..)
  have ih:=gather R xs (fun y hy => hx y (List.mem_cons_of_mem _ hy))
  have emp_case : ∀ (hn : (usedOf σ xs).Nodup) (e : usedOf σ (x :: xs) = usedOf σ xs) (r : RepW h (Sh ok Os) (ev σ x) (a.eval x) (fun _ => False)),
    ∃ O,RepWs h (Sh ok Os) ((x :: xs).map (ev σ)) ((x :: xs).map a.eval) O ∧ ∀ k,O k ↔ ∃ t ∈ usedOf σ (x :: xs),Os t k:=by
   intro hn e r
   obtain ⟨O,h1,h2⟩:=ih hn
   refine ⟨O,?_,by rw [e]; exact h2⟩
   simp only [List.map_cons,RepWs]
   exact ⟨_,_,fun _ => False,O,rfl,by simp,by simp,r,h1⟩
  have hconst : ∀ c,x = .const c → _:=fun c hc => emp_case
  cases x with
  | tmp t =>
   have ht : t < a.tmps.size:=by simpa [opndOk] using hx0
   have hv : a.tmps[t]? = some (a.eval (.tmp t)):=by simp [Act.eval,ht]
   have hr:=R.rep t _ hv
   by_cases hp : plain (look σ t) = true
   ·have e : usedOf σ (.tmp t :: xs) = usedOf σ xs:=by simp [usedOf,hp]
    rw [e] at hn
    have hemp:=repW_plain _ hr hp
    exact emp_case hn e (repW_cong _ hr (fun k => ⟨False.elim,fun hk => (hemp k hk).elim⟩))
   ·have e : usedOf σ (.tmp t :: xs) = t :: usedOf σ xs:=by simp [usedOf,hp]
    rw [e] at hn
    obtain ⟨hn1,hn2⟩:=List.nodup_cons.1 hn
    obtain ⟨O,h1,h2⟩:=ih hn2
    refine ⟨fun k => Os t k ∨ O k,?_,fun k => by rw [e]; simp [h2 k]⟩
    simp only [List.map_cons,RepWs]
    refine ⟨_,_,Os t,O,rfl,fun k => Iff.rfl,?_,hr,h1⟩
    intro k hk ho
    obtain ⟨s,hs,hos⟩:=(h2 k).1 ho
    have:=R.dis _ _ k hk hos
    subst this
    exact hn1 hs
  | const c => exact emp_case (by simpa [usedOf] using hn) (by simp [usedOf]) (constV_rep _ _ _)
  | global g => exact emp_case (by simpa [usedOf] using hn) (by simp [usedOf]) (by simp only [ev,RepW]; exact emp_false)
  | func f => exact emp_case (by simpa [usedOf] using hn) (by simp [usedOf]) (by simp only [ev,RepW,RepC,Act.eval]; exact ⟨⟨trivial,rfl⟩,emp_false⟩)
end
end Go.Proofs.YtpffgegfjpdncaaGreatDoor.Am
namespace Go.Proofs.YtpffgegfjpdncaaGreatDoor.Am
open Go.RowKit AV
set_option linter.unusedVariables false
theorem foldSet (off : Nat) : ∀ (vs : List Value) (n : Nat) (cells : Array Value),off + n + vs.length ≤ cells.size →
  ((vs.zipIdx n).foldl (fun (cs : Array Value) (x : Value × Nat) => cs.setIfInBounds (off + x.2) x.1) cells).toList = cells.toList.take (off + n) ++ vs ++ cells.toList.drop (off + n + vs.length)
 | [],n,cells,h => by simp
 | v :: vs,n,cells,h => by
  simp only [List.zipIdx_cons,List.foldl_cons]
  have hl : vs.length + 1 = (v :: vs).length:=rfl
  rw [foldSet off vs (n + 1) _ (by simp at h ⊢; omega)]
  have e:=list_seg_step cells.toList (off + n) v vs (by simp at h ⊢; omega)
  simpa [Array.toList_setIfInBounds,Nat.add_assoc] using e
theorem nset {xs : List AV} {i : Nat} {y y' : AV} (hg : xs[i]? = some y) (hn : ncells y' = ncells y) (j : Nat) : ncellsL ((xs.set i y').take j) = ncellsL (xs.take j):=by
 induction xs generalizing i j with
 | nil => simp at hg
 | cons x xs ih =>
  cases j with
  | zero => simp
  | succ j =>
   cases i with
   | zero =>
    simp only [List.getElem?_cons_zero,Option.some.injEq] at hg
    subst hg
    simp [ncellsL,hn]
   | succ i =>
    simp only [List.getElem?_cons_succ] at hg
    simp only [List.set_cons_succ,List.take_succ_cons,ncellsL,ih hg]
def setParts : List AV → List (Nat × AV) → List AV
 | fs,[] => fs
 | fs,(i,y) :: r => setParts (fs.set i y) r
theorem fill_rep {h : Array Obj} {S : Nat → Prop} {place : Nat → Option (Nat × Nat)} : ∀ (is : List Nat) (ys : List AV) (vs : List Value) (fs : List AV) (cells : Array Value) (O Op : Nat → Prop),
  is.length = ys.length → RepL h S fs cells.toList O → RepWs h S ys vs Op → (∀ k,Op k → ¬ O k) → (∀ y ∈ ys,y.stor = true) →
  (∀ (j i : Nat) (y : AV),is[j]? = some i → ys[j]? = some y → ∃ f,fs[i]? = some f ∧ ncells y = ncells f) →
  (∀ i ∈ is,∃ f,fs[i]? = some f ∧ place i = some (ncellsL (fs.take i),ncells f)) →
  ∃ cells',Instr.fill place cells (is.zip vs) = some cells' ∧ ∃ O',RepL h S (setParts fs (is.zip ys)) cells'.toList O' ∧ ∀ k,O' k → O k ∨ Op k
 | [],ys,vs,fs,cells,O,Op,hl,r,rw_,hd,hst,hn,hp => by
  cases ys with
  | nil => exact ⟨cells,rfl,O,r,fun k hk => .inl hk⟩
  | cons y ys => simp at hl
 | i :: is,ys,vs,fs,cells,O,Op,hl,r,rw_,hd,hst,hn,hp => by
  cases ys with
  | nil => simp at hl
  | cons y ys =>
   simp only [RepWs] at rw_
   obtain ⟨v,vs',O1,O2,rfl,h2,h3,h4,h5⟩:=rw_
   obtain ⟨f,hf,hnf⟩:=hn 0 i y rfl rfl
   obtain ⟨f',hf',hpl⟩:=hp i (List.mem_cons_self ..)
   rw [hf] at hf'; cases hf'
   have hc:=repC_of_W h4 (hst y (List.mem_cons_self ..))
   have hcl:=repC_len _ hc
   obtain ⟨m1,cz,m2,Oz,Ob,g1,g2,g3,g4,g5,g6⟩:=repL_at fs i f r hf
   have hzl:=repC_len _ g3
   have hsz : v.cells.size = ncells f:=by rw [← hnf,← hcl]; simp
   have hcs : cells.size = m1.length + cz.length + m2.length:=by
    have:=congrArg List.length g1
    simp at this
    omega
   have hcells : (v.cells.zipIdx.foldl (fun (cs : Array Value) (x : Value × Nat) => cs.setIfInBounds (ncellsL (fs.take i) + x.2) x.1) cells).toList = m1 ++ v.cells.toList ++ m2:=by
    rw [← Array.foldl_toList,Array.toList_zipIdx,foldSet _ _ 0 _ (by simp; omega)]
    rw [g1,Nat.add_zero,← g2]
    simp only [List.append_assoc,List.take_left']
    congr 2
    rw [← List.append_assoc,List.drop_append_of_le_length (by simp; omega),List.drop_of_length_le (by simp; omega)]
    simp
   have hd1 : ∀ k,O1 k → ¬ Ob k:=fun k hk hob => hd k ((h2 k).2 (.inl hk)) ((g4 k).2 (.inr hob))
   have r':=g6 h S y v.cells.toList O1 ⟨fun k hk _ => ⟨hk,rfl⟩,fun _ _ => rfl⟩ hc hd1
   rw [← hcells] at r'
   obtain ⟨cells',e1,O',e2,e3⟩:=fill_rep (place:=place) is ys vs' (fs.set i y) _ (fun k => O1 k ∨ Ob k) O2 (by simpa using hl) r' h5 (fun k hk ho => by
     rcases ho with ho | ho
     ·exact h3 k ho hk
     ·exact hd k ((h2 k).2 (.inr hk)) ((g4 k).2 (.inr ho)))
    (fun z hz => hst z (List.mem_cons_of_mem _ hz))
    (fun j i' z hj hz => by
     obtain ⟨f2,q1,q2⟩:=hn (j + 1) i' z (by simpa using hj) (by simpa using hz)
     by_cases hii : i' = i
     ·subst hii
      rw [hf] at q1; cases q1
      refine ⟨y,?_,by rw [q2,hnf]⟩
      rw [List.getElem?_set_self (List.getElem?_eq_some_iff.1 hf).1]
     ·exact ⟨f2,by rw [List.getElem?_set_ne (Ne.symm hii)]; exact q1,q2⟩)
    (fun i' hi' => by
     obtain ⟨f2,q1,q2⟩:=hp i' (List.mem_cons_of_mem _ hi')
     rw [nset hf hnf]
     by_cases hii : i' = i
     ·subst hii
      rw [hf] at q1; cases q1
      exact ⟨y,by rw [List.getElem?_set_self (List.getElem?_eq_some_iff.1 hf).1],by rw [q2,hnf]⟩
     ·exact ⟨f2,by rw [List.getElem?_set_ne (Ne.symm hii)]; exact q1,q2⟩)
   refine ⟨cells',?_,O',e2,fun k hk => ?_⟩
   ·simp only [List.zip_cons_cons,Instr.fill,hpl]
    rw [if_neg (by simp [hsz]; omega)]
    exact e1
   ·rcases e3 k hk with (hh | hh) | hh
    ·exact .inr ((h2 k).2 (.inl hh))
    ·exact .inl ((g4 k).2 (.inr hh))
    ·exact .inr ((h2 k).2 (.inr hh))
mutual
theorem flatC_rep {h : Array Obj} {S : Nat → Prop} : ∀ (x : AV) (cs r : List Value),flatC x cs = some r → ∃ m,cs = m ++ r ∧ RepC h S x m (fun _ => False)
 | .int k n,cs,r,e => by
  cases cs with
  | nil => simp [flatC] at e
  | cons c cs =>
   cases c <;> simp [flatC] at e
   obtain ⟨⟨rfl,rfl⟩,rfl⟩:=e
   exact ⟨[.int k n],rfl,by simp only [RepC]; exact ⟨trivial,emp_false⟩⟩
 | .bool b,cs,r,e => by
  cases cs with
  | nil => simp [flatC] at e
  | cons c cs =>
   cases c <;> simp [flatC] at e
   obtain ⟨rfl,rfl⟩:=e
   exact ⟨[.bool b],rfl,by simp only [RepC]; exact ⟨trivial,emp_false⟩⟩
 | .str s,cs,r,e => by
  unfold flatC at e
  split at e <;> try (simp_all; done)
  ·rename_i r' he
   simp only [AV.str.injEq] at he
   subst he
   cases e
   exact ⟨[.string ⟨⟨[]⟩⟩],rfl,by simp only [RepC]; exact ⟨trivial,emp_false⟩⟩
 | .sl o sz xs,cs,r,e => by
  unfold flatC at e
  split at e <;> try (simp_all; done)
  ·rename_i r' he
   simp only [AV.sl.injEq] at he
   obtain ⟨rfl,rfl,rfl⟩:=he
   cases e
   exact ⟨[.slice none 0 0],rfl,by simp only [RepC]; exact .inl ⟨trivial,trivial,emp_false⟩⟩
 | .oth v,cs,r,e => by
  cases cs with
  | nil => simp [flatC] at e
  | cons w cs =>
   simp only [flatC] at e
   split at e
   ·rename_i h1
    cases e
    have hw : w = v ∧ v.oneCell' = true:=by
     unfold flatOth at h1
     split at h1 <;> first | exact ⟨rfl,rfl⟩ | cases h1
    obtain ⟨rfl,hw⟩:=hw
    exact ⟨[w],rfl,by simp only [RepC]; exact ⟨⟨trivial,hw⟩,emp_false⟩⟩
   ·cases e
 | .agg fs,cs,r,e => by
  simp only [flatC] at e
  obtain ⟨m,h1,h2⟩:=flatL_rep (h:=h) (S:=S) fs cs r e
  exact ⟨m,h1,by simp only [RepC]; exact h2⟩
 | .arr sz xs,cs,r,e => by
  simp only [flatC] at e
  split at e
  ·rename_i hu
   obtain ⟨m,h1,h2⟩:=flatL_rep (h:=h) (S:=S) xs cs r e
   exact ⟨m,h1,by simp only [RepC]; exact ⟨h2,by simpa using hu⟩⟩
  ·cases e
 | .undef,cs,r,e => by simp [flatC] at e
 | .tup _,cs,r,e => by simp [flatC] at e
 | .box _,cs,r,e => by simp [flatC] at e
 | .dptr _,cs,r,e => by simp [flatC] at e
 | .vref ..,cs,r,e => by simp [flatC] at e
 | .vagg ..,cs,r,e => by simp [flatC] at e
 | .vsub ..,cs,r,e => by simp [flatC] at e
 | .ptr ..,cs,r,e => by simp [flatC] at e
theorem flatL_rep {h : Array Obj} {S : Nat → Prop} : ∀ (xs : List AV) (cs r : List Value),flatL xs cs = some r → ∃ m,cs = m ++ r ∧ RepL h S xs m (fun _ => False)
 | [],cs,r,e => by
  simp only [flatL,Option.some.injEq] at e
  subst e
  exact ⟨[],rfl,by simp only [RepL]; exact ⟨trivial,emp_false⟩⟩
 | x :: xs,cs,r,e => by
  simp only [flatL] at e
  cases hx : flatC x cs with
  | none => simp [hx] at e
  | some r1 =>
   simp only [hx] at e
   obtain ⟨m1,h1,h2⟩:=flatC_rep (h:=h) (S:=S) x cs r1 hx
   obtain ⟨m2,h3,h4⟩:=flatL_rep (h:=h) (S:=S) xs r1 r e
   refine ⟨m1 ++ m2,by rw [h1,h3,List.append_assoc],?_⟩
   simp only [RepL]
   exact ⟨m1,m2,_,_,rfl,by simp,by simp,h2,h4⟩
end
theorem zok_rep {P : Program} {t : TypeId} {z : AV} (h : zokOf P t z = true) (hp : Array Obj) (S : Nat → Prop) : ∃ i v,P.info? t = some i ∧ i.zero = some v ∧ v.cells.size = i.size ∧ RepC hp S z v.cells.toList (fun _ => False):=by
 unfold zokOf at h
 cases hi : P.info? t with
 | none => simp [hi] at h
 | some i =>
  simp only [hi] at h
  cases hz : i.zero with
  | none => simp [hz] at h
  | some v =>
   simp only [hz] at h
   cases hf : flatC z v.cells.toList with
   | none => simp [hf] at h
   | some r =>
    cases r with
    | cons a b => simp [hf] at h
    | nil =>
     obtain ⟨m,h1,h2⟩:=flatC_rep (h:=hp) (S:=S) z _ _ hf
     rw [List.append_nil] at h1
     simp only [hf,beq_iff_eq] at h
     exact ⟨i,v,rfl,hz,h,by rw [h1]; exact h2⟩
end Go.Proofs.YtpffgegfjpdncaaGreatDoor.Am
namespace Go.Proofs.YtpffgegfjpdncaaGreatDoor.Am
open Go.RowKit AV
set_option linter.unusedVariables false
def EffOk (P : Program) (h0 : Array Obj) (ok O0 : Nat → Prop) (a : Act) (w : World) (run : Sem Next) (dst : Option Tmp) (K : St → Prop) : Prop :=
 ∃ nx v w' σ' Os',run.run P w = .ok nx w' ∧ (nx = .value v ∨ (nx = .skip ∧ v = undef)) ∧ K σ' ∧ Rel h0 ok O0 σ' (a.put dst v).tmps w'.heap Os' ∧ w'.os = w.os ∧ w'.tape = w.tape ∧ w'.output = w.output
section
variable {P : Program} {h0 : Array Obj} {ok O0 : Nat → Prop} {σ : St} {a : Act} {w : World} {Os : Nat → Nat → Prop}
theorem Rel.put1 (R : Rel h0 ok O0 σ a.tmps w.heap Os) {d : Tmp} (hd : d < a.tmps.size) {y : AV} {v : Value} (r : RepW w.heap (Sh ok Os) y v (fun _ => False)) (al : AliasOk w.heap σ a.tmps y v) (hne : y.target ≠ some d) :
  ∃ Os',Rel h0 ok O0 (put σ d y []) (a.put (some d) v).tmps w.heap Os':=by
 refine ⟨_,R.result d y v [] w.heap (fun _ => False) hd (Nat.le_refl _) (fun _ _ _ => rfl) (fun _ h => h.elim) ?_ ?_⟩
 ·refine repW_mono _ r ⟨fun k hk _ => ⟨⟨hk.1,fun t ht => ?_⟩,rfl⟩,fun _ _ => rfl⟩
  unfold ownR at ht
  split at ht
  ·exact ht
  ·exact hk.2 t (by simpa using ht)
 ·cases htg : y.target with
  | none => exact aliasOk_none htg
  | some s =>
   have hsd : s ≠ d:=fun h => hne (by rw [htg,h])
   refine aliasOk_same (S:=Sh ok Os) (O:=Os s) al ?_ ?_ ?_ (fun _ _ => rfl)
   ·intro s' u hs' hu
    rw [htg] at hs'; cases hs'
    exact R.rep s u hu
   ·intro s' hs'
    rw [htg] at hs'; cases hs'
    rw [Array.getElem?_setIfInBounds_ne (Ne.symm hsd)]
   ·intro s' hs' hn
    rw [htg] at hs'; cases hs'
    unfold put
    rw [look_upd,if_neg (by simp [keys,wipe,hsd]),purgeV_none _ hn]
def pureK (σ : St) (dst : Option Tmp) (K : St → Prop) : AV → Prop:=fun y => match dst with
 | some d => y.target ≠ some d ∧ K (put σ d y [])
 | none => K σ
theorem eff_of_pure (R : Rel h0 ok O0 σ a.tmps w.heap Os) {run : Sem Next} {dst : Option Tmp} (hd : ∀ d,dst = some d → d < a.tmps.size) {K : St → Prop} (h : PureOk P σ ok Os a.tmps w run (pureK σ dst K)) : EffOk P h0 ok O0 a w run dst K:=by
 obtain ⟨y,v,h1,h2,h3,h4⟩:=h
 cases dst with
 | none => exact ⟨_,v,w,σ,Os,h2,.inl rfl,h1,R,rfl,rfl,rfl⟩
 | some d =>
  obtain ⟨Os',R'⟩:=R.put1 (hd d rfl) h3 h4 h1.1
  exact ⟨_,v,w,_,Os',h2,.inl rfl,h1.2,R',rfl,rfl,rfl⟩
def pulls (σ : St) (xs : List Operand) : St:=xs.foldl pull σ
theorem pulls_ok : ∀ (xs : List Operand) {σ : St} {Os : Nat → Nat → Prop},Rel h0 ok O0 σ a.tmps w.heap Os → (∀ x ∈ xs,opndOk a.tmps.size x = true) → ∃ Os',Rel h0 ok O0 (pulls σ xs) a.tmps w.heap Os'
 | [],σ,Os,R,_ => ⟨Os,R⟩
 | x :: xs,σ,Os,R,hx => by
  obtain ⟨Os',R'⟩:=pull_ok R x (hx x (List.mem_cons_self ..))
  exact pulls_ok xs R' (fun y hy => hx y (List.mem_cons_of_mem _ hy))
theorem push_old (h : Array Obj) (o : Obj) {k : Nat} (hk : k < h.size) : (h.push o)[k]? = h[k]?:=by
 rw [Array.getElem?_push,if_neg (by omega)]
theorem push_new (h : Array Obj) (o : Obj) : (h.push o)[h.size]? = some o:=by
 rw [Array.getElem?_push,if_pos rfl]
theorem sh_result {d : Nat} {Od : Nat → Prop} {used : List Nat} {h : Array Obj} (R : Rel h0 ok O0 σ a.tmps h Os) (hO : ∀ k,Od k → (∃ t ∈ used,Os t k) ∨ h.size ≤ k) {k : Nat} (hlt : k < h.size) (hk : Sh ok Os k) : Sh ok (ownR Os d Od used) k:=by
 refine ⟨hk.1,fun t ht => ?_⟩
 unfold ownR at ht
 split at ht
 ·rcases hO k ht with ⟨s,_,hs⟩ | hge
  ·exact hk.2 s hs
  ·omega
 ·split at ht
  ·exact ht
  ·exact hk.2 t ht
theorem sim_new (R : Rel h0 ok O0 σ a.tmps w.heap Os) {d : Tmp} (hd : d < a.tmps.size) {y : AV} {m : List Value} {O : Nat → Prop} {used : List Nat} (hr : RepC w.heap (Sh ok Os) y m O) (hO : ∀ k,O k → ∃ t ∈ used,Os t k) (e : TypeId) (c : Array Value) (hc : c.toList = m) :
  ∃ Os',Rel h0 ok O0 (put σ d (.box y) used) (a.put (some d) (.pointer (some ⟨w.heap.size,0,none⟩))).tmps (w.heap.push (.cells c e)) Os':=by
 have hO' : ∀ k,(k = w.heap.size ∨ O k) → (∃ t ∈ used,Os t k) ∨ w.heap.size ≤ k:=by
  rintro k (rfl | hk)
  ·exact .inr (Nat.le_refl _)
  ·exact .inl (hO k hk)
 refine ⟨_,R.result d (.box y) _ used (w.heap.push (.cells c e)) (fun k => k = w.heap.size ∨ O k) hd (by simp) (fun k hk _ => push_old _ _ hk) hO' ?_ trivial⟩
 simp only [RepW,RepC]
 refine ⟨w.heap.size,c,e,m,O,rfl,⟨(0,0),push_new _ _,fun j _ h => absurd h.2 (Nat.not_lt_zero _)⟩,hc,repC_mono _ hr ⟨fun k hk hlt => ⟨sh_result R hO' hlt hk,push_old _ _ hlt⟩,fun k hk => push_old _ _ (repC_lt _ hr k hk)⟩,fun hk => absurd (repC_lt _ hr _ hk) (Nat.lt_irrefl _),fun k => Iff.rfl⟩
def allocW (P : Program) (σ : St) (t : TypeId) (d : Nat) (K : St → Prop) : Prop:=(tinfo P t).zok = true ∧ K (put σ d (.box (tinfo P t).zero) [])
theorem sim_alloc (R : Rel h0 ok O0 σ a.tmps w.heap Os) {t : TypeId} {d : Tmp} (hd : d < a.tmps.size) {K : St → Prop} (h : allocW P σ t d K) :
  EffOk P h0 ok O0 a w (do pure (.value (← Instr.alloc t true (.tuple #[])))) (some d) K:=by
 obtain ⟨h1,h2⟩:=h
 rw [(tinfo_base t).2.2.2.2] at h1
 rw [(tinfo_base t).2.2.2.1] at h2
 obtain ⟨i,z,hi,hz,_,hr⟩:=zok_rep h1 w.heap (Sh ok Os)
 obtain ⟨Os',R'⟩:=sim_new R hd hr (fun _ h => h.elim) t z.cells rfl (used:=[])
 exact ⟨.value (.pointer (some ⟨w.heap.size,0,none⟩)),_,{ w with heap:=w.heap.push (.cells z.cells t) },_,Os',by simp [Instr.alloc,zeroValue,typeInfo,hi,hz,newVar,newRow],.inl rfl,h2,R',rfl,rfl,rfl⟩
def boxW (σ : St) (x : Operand) (d : Nat) (K : St → Prop) : Prop:=let σ1:=pull σ x; (ev σ1 x).stor = true ∧ K (put σ1 d (.box (ev σ1 x)) (usedOf σ1 [x]))
theorem gather1 {h : Array Obj} (R : Rel h0 ok O0 σ a.tmps h Os) {x : Operand} (hx : opndOk a.tmps.size x = true) : ∃ O,RepW h (Sh ok Os) (ev σ x) (a.eval x) O ∧ ∀ k,O k ↔ ∃ t ∈ usedOf σ [x],Os t k:=by
 have hn : (usedOf σ [x]).Nodup:=by
  cases x with
  | tmp t => simp only [usedOf]; split <;> simp
  | _ => simp [usedOf]
 obtain ⟨O,h1,h2⟩:=gather R [x] (by simpa using hx) hn
 simp only [List.map_cons,List.map_nil,RepWs] at h1
 obtain ⟨v,vs',O1,O2,e1,e2,e3,e4,e5,e6⟩:=h1
 simp only [List.cons.injEq] at e1
 obtain ⟨rfl,rfl⟩:=e1
 exact ⟨O1,e4,fun k => by rw [← h2 k,e2 k]; simp [e6 k]⟩
theorem sim_box (R : Rel h0 ok O0 σ a.tmps w.heap Os) {x : Operand} (hx : opndOk a.tmps.size x = true) {t : TypeId} {d : Tmp} (hd : d < a.tmps.size) {K : St → Prop} (h : boxW σ x d K) :
  EffOk P h0 ok O0 a w (do pure (.value (← Instr.box t (a.eval x)))) (some d) K:=by
 obtain ⟨h1,h2⟩:=h
 obtain ⟨Os1,R1⟩:=pull_ok R x hx
 obtain ⟨O,g1,g2⟩:=gather1 R1 hx
 obtain ⟨Os',R'⟩:=sim_new R1 hd (repC_of_W g1 h1) (fun k hk => (g2 k).1 hk) t (a.eval x).cells rfl
 exact ⟨.value (.pointer (some ⟨w.heap.size,0,none⟩)),_,{ w with heap:=w.heap.push (.cells (a.eval x).cells t) },_,Os',by simp [Instr.box,newVar,newRow],.inl rfl,h2,R',rfl,rfl,rfl⟩
def assignW (σ : St) (x : Operand) (d : Nat) (K : St → Prop) : Prop :=
 match ev σ x with
 | .undef => False
 | .vref s (i :: p) => s ≠ d ∧ K (put σ d (.vref s (i :: p)) [])
 | .vsub s p lo hi => s ≠ d ∧ K (put σ d (.vsub s p lo hi) [])
 | .ptr s p => s ≠ d ∧ K (put σ d (.ptr s p) [])
 | _ => let σ1:=pull σ x; (ev σ1 x).target = none ∧ K (put σ1 d (ev σ1 x) (usedOf σ1 [x]))
theorem Rel.moved (R : Rel h0 ok O0 σ a.tmps w.heap Os) {x : Operand} (hx : opndOk a.tmps.size x = true) {d : Tmp} (hd : d < a.tmps.size) (ht : (ev σ x).target = none) :
  ∃ Os',Rel h0 ok O0 (put σ d (ev σ x) (usedOf σ [x])) (a.put (some d) (a.eval x)).tmps w.heap Os':=by
 obtain ⟨O,g1,g2⟩:=gather1 R hx
 have hO : ∀ k,O k → (∃ t ∈ usedOf σ [x],Os t k) ∨ w.heap.size ≤ k:=fun k hk => .inl ((g2 k).1 hk)
 refine ⟨_,R.result d _ _ (usedOf σ [x]) w.heap O hd (Nat.le_refl _) (fun _ _ _ => rfl) hO ?_ (aliasOk_none ht)⟩
 exact repW_mono _ g1 ⟨fun k hk hlt => ⟨sh_result R hO hlt hk,rfl⟩,fun _ _ => rfl⟩
theorem sim_assign (R : Rel h0 ok O0 σ a.tmps w.heap Os) {x : Operand} (hx : opndOk a.tmps.size x = true) {d : Tmp} (hd : d < a.tmps.size) {K : St → Prop} (h : assignW σ x d K) :
  EffOk P h0 ok O0 a w (pure (.value (a.eval x))) (some d) K:=by
 have al:=ev_rep R hx
 have alias_case : ∀ y,ev σ x = y → (∀ s,y.target = some s → s ≠ d) → (∃ s,y.target = some s) → K (put σ d y []) → EffOk P h0 ok O0 a w (pure (.value (a.eval x))) (some d) K:=by
  intro y hy hs he hk
  rw [hy] at al
  obtain ⟨s,hs'⟩:=he
  have hemp:=repW_alias al.1 hs'
  obtain ⟨Os',R'⟩:=R.put1 hd (repW_cong _ al.1 (O':=fun _ => False) (fun k => ⟨False.elim,fun hk => (hemp k hk).elim⟩)) al.2 (fun hh => hs d hh rfl)
  exact ⟨_,_,w,_,Os',rfl,.inl rfl,hk,R',rfl,rfl,rfl⟩
 unfold assignW at h
 split at h
 ·exact h.elim
 ·rename_i s i p e
  exact alias_case _ e (by rintro s' hs'; simp only [AV.target,Option.some.injEq] at hs'; rw [← hs']; exact h.1) ⟨s,rfl⟩ h.2
 ·rename_i s p lo hi e
  exact alias_case _ e (by rintro s' hs'; simp only [AV.target,Option.some.injEq] at hs'; rw [← hs']; exact h.1) ⟨s,rfl⟩ h.2
 ·rename_i s p e
  exact alias_case _ e (by rintro s' hs'; simp only [AV.target,Option.some.injEq] at hs'; rw [← hs']; exact h.1) ⟨s,rfl⟩ h.2
 ·obtain ⟨Os1,R1⟩:=pull_ok R x hx
  obtain ⟨Os',R'⟩:=R1.moved hx hd h.1
  exact ⟨_,_,w,_,Os',rfl,.inl rfl,h.2,R',rfl,rfl,rfl⟩
def extractW (σ : St) (x : Operand) (i : Nat) (d : Nat) (K : St → Prop) : Prop :=
 match x,ev σ x with
 | .tmp t,.tup vs => i < vs.length ∧ t ≠ d ∧ (vs.getD i .undef).target = none ∧ (if plain (vs.getD i .undef) then K (put σ d (vs.getD i .undef) []) else K (upd (put σ d .undef []) [(d,vs.getD i .undef),(t,.tup (vs.set i .undef))]))
 | _,_ => False
theorem repWs_at {h : Array Obj} {S : Nat → Prop} : ∀ (xs : List AV) (i : Nat) (y : AV) {vs : List Value} {O : Nat → Prop},RepWs h S xs vs O → xs[i]? = some y →
  ∃ (v : Value) (Oy Ob : Nat → Prop),vs[i]? = some v ∧ RepW h S y v Oy ∧ (∀ k,O k ↔ Oy k ∨ Ob k) ∧ (∀ k,Oy k → ¬ Ob k) ∧ RepWs h S (xs.set i .undef) vs Ob
 | [],i,y,vs,O,r,e => by simp at e
 | x :: xs,0,y,vs,O,r,e => by
  simp only [RepWs] at r
  obtain ⟨v,vs',O1,O2,h1,h2,h3,h4,h5⟩:=r
  obtain rfl : x = y:=by simpa using e
  subst h1
  refine ⟨v,O1,O2,rfl,h4,h2,h3,?_⟩
  simp only [List.set_cons_zero,RepWs,RepW]
  exact ⟨v,vs',fun _ => False,O2,rfl,by simp,by simp,emp_false,h5⟩
 | x :: xs,i + 1,y,vs,O,r,e => by
  simp only [RepWs] at r
  obtain ⟨v,vs',O1,O2,h1,h2,h3,h4,h5⟩:=r
  obtain ⟨w,Oy,Ob,g1,g2,g3,g4,g5⟩:=repWs_at xs i y h5 (by simpa using e)
  subst h1
  refine ⟨w,Oy,fun k => O1 k ∨ Ob k,by simpa using g1,g2,?_,?_,?_⟩
  ·intro k
   rw [h2 k,g3 k]
   constructor
   ·rintro (h | h | h) <;> simp [h]
   ·rintro (h | h | h) <;> simp [h]
  ·rintro k hk (hr | hr)
   ·exact h3 k hr ((g3 k).2 (.inl hk))
   ·exact g4 k hk hr
  ·simp only [List.set_cons_succ,RepWs]
   exact ⟨v,vs',O1,Ob,rfl,fun k => Iff.rfl,fun k hk hb => h3 k hk ((g3 k).2 (.inr hb)),h4,g5⟩
theorem sim_extract (R : Rel h0 ok O0 σ a.tmps w.heap Os) {x : Operand} (hx : opndOk a.tmps.size x = true) {i : Nat} {d : Tmp} (hd : d < a.tmps.size) {K : St → Prop} (h : extractW σ x i d K) :
  EffOk P h0 ok O0 a w (do pure (.value (← Instr.extract (a.eval x) i))) (some d) K:=by
 unfold extractW at h
 split at h
 ·rename_i _ _ t vs e
  obtain ⟨hi,htd,htg,h⟩:=h
  have ht : t < a.tmps.size:=by simpa [opndOk] using hx
  have hv : a.tmps[t]? = some (a.eval (.tmp t)):=by simp [Act.eval,ht]
  have hr:=R.rep t _ hv
  simp only [ev] at e
  rw [e] at hr
  simp only [RepW] at hr
  obtain ⟨l,hl,hr⟩:=hr
  have hg : vs[i]? = some (vs.getD i .undef):=by simp [List.getD,List.getElem?_eq_getElem hi]
  obtain ⟨v,Oy,Ob,g1,g2,g3,g4,g5⟩:=repWs_at vs i _ hr hg
  have hrun : (do pure (.value (← Instr.extract (a.eval (.tmp t)) i)) : Sem Next).run P w = .ok (.value v) w:=by
   have : l[i]? = some v:=by simpa using g1
   simp [Instr.extract,hl,this]
  split at h
  ·rename_i hp
   have hemp:=repW_plain _ g2 hp
   obtain ⟨Os',R'⟩:=R.put1 hd (repW_cong _ g2 (O':=fun _ => False) (fun k => ⟨False.elim,fun hk => (hemp k hk).elim⟩)) (aliasOk_none htg) (by rw [htg]; simp)
   exact ⟨_,v,w,_,Os',hrun,.inl rfl,h,R',rfl,rfl,rfl⟩
  ·have R1:=R.result d .undef v [] w.heap (fun _ => False) hd (Nat.le_refl _) (fun _ _ _ => rfl) (fun _ h => h.elim) (by simp only [RepW]; exact emp_false) trivial
   have hsh : ∀ k,k < w.heap.size → Sh ok Os k → Sh ok (ownR Os d (fun _ => False) []) k:=fun k hlt hk => sh_result R (fun _ h => h.elim) hlt hk
   have hag : ∀ O : Nat → Prop,Agree w.heap w.heap (Sh ok Os) (Sh ok (ownR Os d (fun _ => False) [])) O:=fun O => ⟨fun k hk hlt => ⟨hsh k hlt hk,rfl⟩,fun _ _ => rfl⟩
   have htm : (a.tmps.setIfInBounds d v)[t]? = some (a.eval (.tmp t)):=by rw [Array.getElem?_setIfInBounds_ne (Ne.symm htd)]; exact hv
   have hdm : (a.tmps.setIfInBounds d v)[d]? = some v:=Array.getElem?_setIfInBounds_self_of_lt hd
   have R2:=R1.ghost2 (Ne.symm htd) (vs.getD i .undef) (.tup (vs.set i .undef)) Oy Ob hdm htm (by
     intro k
     have e1 : ownR Os d (fun _ => False) [] d k ↔ False:=by simp [ownR]
     have e2 : ownR Os d (fun _ => False) [] t k ↔ Os t k:=by simp [ownR,htd]
     rw [e1,e2]
     simp only [false_or]
     exact g3 k) g4 (repW_mono _ g2 (hag _)) (by simp only [RepW]; exact ⟨l,hl,repWs_mono _ g5 (hag _)⟩) htg rfl
   exact ⟨_,v,w,_,_,hrun,.inl rfl,h,R2,rfl,rfl,rfl⟩
 ·exact h.elim
end
end Go.Proofs.YtpffgegfjpdncaaGreatDoor.Am
namespace Go.Proofs.YtpffgegfjpdncaaGreatDoor.Am
open Go.RowKit AV
set_option linter.unusedVariables false
theorem run_storeRow (P : Program) (g o : Nat) (t : TypeId) (fr : Nat × Nat) : ∀ (vs : List Value) (i : Nat) (cur : Array Value) (w : World),w.heap[g]? = some (.cells cur t fr) → Free cur.size fr → o + i + vs.length ≤ cur.size → (∀ v ∈ vs,v.oneCell' = true) →
  (storeCells ⟨g,o,none⟩ vs i).run P w = .ok () (w.setRow g (cur.toList.take (o + i) ++ vs ++ cur.toList.drop (o + i + vs.length)).toArray)
 | [],i,cur,w,hg,_,_,_ => by
  simp only [storeCells,List.append_nil,List.length_nil,Nat.add_zero,List.take_append_drop,Array.toArray_toList]
  rw [setRow_self w g cur t fr hg]
  rfl
 | v :: rest,i,cur,w,hg,hf,hl,h1 => by
  have hi : o + i < cur.size:=by simp at hl; omega
  have hadd : (⟨g,o,none⟩ : Addr).add i = ⟨g,o + i,none⟩:=add_at g o i
  have hcell : w.cell? ⟨g,o + i,none⟩ = some cur[o + i]:=by simp [World.cell?,hg,hi]
  have hfro : w.frozen? ⟨g,o + i,none⟩ = false:=by
   have:=hf (o + i) hi
   obtain ⟨f1,f2⟩:=fr
   simp only [World.frozen?,hg]
   simp only [not_and,Nat.not_lt] at this
   by_cases h1 : f1 ≤ o + i
   ·simp [h1,this h1]
   ·simp [h1]
  have hst : (store ((⟨g,o,none⟩ : Addr).add i) v).run P w = .ok () (w.setRow g (cur.setIfInBounds (o + i) v)):=by
   rw [hadd,run_store P w _ v _ (h1 v (by simp)),hcell]
   simp [hfro,setCell_eq_setRow w g (o + i) cur t fr v hg]
  have ih:=run_storeRow P g o t fr rest (i + 1) (cur.setIfInBounds (o + i) v) (w.setRow g (cur.setIfInBounds (o + i) v)) (setRow_heap w g cur _ t _ hg) (by simpa using hf) (by simp at hl ⊢; omega) (fun x hx => h1 x (by simp [hx]))
  simp only [storeCells,Sem.run_bind,hst,Result.andThen_ok,ih,setRow_setRow]
  congr 3
  have e:=list_seg_step cur.toList (o + i) v rest (by simp at hl ⊢; omega)
  simpa [Array.toList_setIfInBounds,Nat.add_assoc] using e
theorem setRow_other (w : World) (g : Nat) (cs : Array Value) {k : Nat} (h : k ≠ g) : (w.setRow g cs).heap[k]? = w.heap[k]?:=by
 simp only [World.setRow,Array.getElem?_modify]
 rw [if_neg (Ne.symm h)]
theorem repL_app {h : Array Obj} {S : Nat → Prop} : ∀ (xs ys : List AV) {m1 m2 : List Value} {O1 O2 : Nat → Prop},RepL h S xs m1 O1 → RepL h S ys m2 O2 → (∀ k,O1 k → ¬ O2 k) → RepL h S (xs ++ ys) (m1 ++ m2) (fun k => O1 k ∨ O2 k)
 | [],ys,m1,m2,O1,O2,r1,r2,d => by
  simp only [RepL] at r1
  obtain ⟨rfl,hO⟩:=r1
  simp only [List.nil_append]
  exact repL_cong ys r2 (fun k => ⟨fun h => h.resolve_left (hO k),.inr⟩)
 | x :: xs,ys,m1,m2,O1,O2,r1,r2,d => by
  simp only [RepL] at r1
  obtain ⟨c1,c2,P1,P2,rfl,h2,h3,h4,h5⟩:=r1
  have ih:=repL_app xs ys h5 r2 (fun k hk => d k ((h2 k).2 (.inr hk)))
  simp only [List.cons_append,RepL]
  refine ⟨c1,c2 ++ m2,P1,fun k => P2 k ∨ O2 k,by simp,fun k => by rw [h2 k,or_assoc],?_,h4,ih⟩
  rintro k hk (hp | hp)
  ·exact h3 k hk hp
  ·exact d k ((h2 k).2 (.inl hk)) hp
theorem repL_replicate {h : Array Obj} {S : Nat → Prop} {x : AV} {m : List Value} (r : RepC h S x m (fun _ => False)) : ∀ n : Nat,RepL h S (List.replicate n x) (List.replicate n m).flatten (fun _ => False)
 | 0 => by simp only [List.replicate,List.flatten_nil,RepL]; exact ⟨trivial,emp_false⟩
 | n + 1 => by
  simp only [List.replicate,List.flatten_cons,RepL]
  exact ⟨m,_,_,_,rfl,by simp,by simp,r,repL_replicate r n⟩
theorem made_list (z : Array Value) (n : Nat) : (madeCells z (n * z.size)).toList = (List.replicate n z.toList).flatten:=by
 have key : ∀ n,((List.range (n * z.size)).map (z[· % z.size]!)) = (List.replicate n z.toList).flatten:=by
  intro n
  induction n with
  | zero => simp
  | succ n ih =>
   rw [List.replicate_succ',List.flatten_append,← ih,Nat.add_mul,Nat.one_mul,List.range_add,List.map_append]
   congr 1
   simp only [List.map_map,List.flatten_cons,List.flatten_nil,List.append_nil]
   apply List.ext_getElem
   ·simp
   ·intro j h1 h2
    simp only [List.length_map,List.length_range] at h1
    simp only [List.getElem_map,List.getElem_range,Function.comp]
    rw [Nat.add_comm,Nat.add_mul_mod_self_right,Nat.mod_eq_of_lt h1]
    simp [h1]
 simp only [madeCells,Array.toList_map,Array.toList_range]
 exact key n
theorem rep_own {h : Array Obj} {S : Nat → Prop} {b : Nat} {c : Array Value} {e : TypeId} {cap sz : Nat} {xs : List AV} {O' : Nat → Prop} (hsz : 0 < sz) (h2 : Row h b c e) (h3 : c.size = cap * sz) (h4 : xs.length ≤ cap) (h5 : cap ≤ maxLen)
  (h6 : RepL h S xs (c.toList.take (xs.length * sz)) O') (h7 : ∀ x ∈ xs,x.ncells = sz) (h8 : ¬ O' b) (h10 : ∀ u ∈ c.toList,u.oneCell' = true) :
  RepC h S (.sl true sz xs) [.slice (some ⟨b,0,none⟩) xs.length cap] (fun k => k = b ∨ O' k):=by
 simp only [RepC]
 exact .inr ⟨hsz,b,c,e,cap,O',rfl,h2,h3,h4,h5,h6,h7,h8,fun k => Iff.rfl,h10⟩
section
variable {P : Program} {h0 : Array Obj} {ok O0 : Nat → Prop} {σ : St} {a : Act} {w : World} {Os : Nat → Nat → Prop}
def makeW (P : Program) (σ : St) (t : TypeId) (l c : Operand) (d : Nat) (K : St → Prop) : Prop :=
 match ev σ l,ev σ c with
 | .int _ n,.int _ m => n = m ∧ (tinfo P t).kind = 1 ∧ (tinfo P t).ezok = true ∧ 0 < (tinfo P t).esz ∧ 0 ≤ n ∧ (tinfo P t).ebytes * n ≤ 281474976710656 ∧ n ≤ 9223372036854775807 ∧
   K (put σ d (.sl true (tinfo P t).esz (List.replicate n.toNat (tinfo P t).ezero)) [])
 | _,_ => False
theorem sim_make (R : Rel h0 ok O0 σ a.tmps w.heap Os) {l c : Operand} (hl : opndOk a.tmps.size l = true) (hc : opndOk a.tmps.size c = true) {t : TypeId} {d : Tmp} (hd : d < a.tmps.size) {K : St → Prop} (h : makeW P σ t l c d K) :
  EffOk P h0 ok O0 a w (do pure (.value (← Instr.makeSlice t (a.eval l) (a.eval c)))) (some d) K:=by
 unfold makeW at h
 split at h
 ·rename_i k1 n k2 m e1 e2
  obtain ⟨rfl,h1,h2,h3,h4,h5,h6,h7⟩:=h
  obtain ⟨e,hu,hs,hb,_,hz,hzk⟩:=kind1 h1
  rw [hzk] at h2
  obtain ⟨i,z,hi,hiz,hzs,hr⟩:=zok_rep h2 w.heap (Sh ok Os)
  have hisz : i.size = (tinfo P t).esz:=by rw [← hs]; simp [szOf,hi]
  have hibt : i.bytes = (tinfo P t).ebytes:=by rw [← hb]; simp [bytesOf_,hi]
  have hrun:=run_make (P:=P) w t e i z hu hi hiz k1 k2 n n h4 (Int.le_refl _) (by rw [hibt]; exact h5) h6
  have hzl:=repC_len _ hr
  have hnc : ncells (zeroA P 12 e) = (tinfo P t).esz:=by rw [← hzl,← hisz,← hzs]; simp
  have hcs : (madeCells z.cells (n.toNat * i.size)).size = n.toNat * (tinfo P t).esz:=by rw [size_madeCells,hisz]
  have hml : (madeCells z.cells (n.toNat * i.size)).toList = (List.replicate n.toNat z.cells.toList).flatten:=by rw [← hzs]; exact made_list _ _
  have hcap : n.toNat ≤ maxLen:=by simp only [maxLen]; omega
  have hrep:=repL_replicate hr n.toNat
  rw [← hml] at hrep
  have hown:=rep_own (h:=w.heap.push (.cells (madeCells z.cells (n.toNat * i.size)) e)) (S:=Sh ok (ownR Os d (fun k => k = w.heap.size ∨ False) [])) (b:=w.heap.size) (e:=e) (cap:=n.toNat) (xs:=List.replicate n.toNat (zeroA P 12 e)) (O':=fun _ => False) h3
   ⟨(0,0),push_new _ _,fun j _ h => absurd h.2 (Nat.not_lt_zero _)⟩ hcs (by simp) hcap
   (by
    rw [List.length_replicate,List.take_of_length_le (by rw [Array.length_toList,hcs]; exact Nat.le_refl _)]
    exact repL_mono _ hrep ⟨fun k hk hlt => ⟨sh_result R (used:=[]) (fun k hk => .inr (by rcases hk with rfl | hk; exact Nat.le_refl _; exact hk.elim)) hlt hk,push_old _ _ hlt⟩,fun k hk => hk.elim⟩)
   (fun x hx => by rw [List.eq_of_mem_replicate hx]; exact hnc) (fun h => h)
   (fun u hu => by rw [hml] at hu; obtain ⟨l,hl,hu⟩:=List.mem_flatten.1 hu; rw [List.eq_of_mem_replicate hl] at hu; exact repC_one _ hr u hu)
  have R':=R.result d (.sl true (tinfo P t).esz (List.replicate n.toNat (zeroA P 12 e))) (.slice (some ⟨w.heap.size,0,none⟩) n.toNat n.toNat) [] (w.heap.push (.cells (madeCells z.cells (n.toNat * i.size)) e)) (fun k => k = w.heap.size ∨ False) hd (by simp) (fun k hk _ => push_old _ _ hk) (fun k hk => .inr (by rcases hk with rfl | hk; exact Nat.le_refl _; exact hk.elim)) (by simpa only [RepW,List.length_replicate] using hown) trivial
  rw [hz] at h7
  refine ⟨_,.slice (some ⟨w.heap.size,0,none⟩) n.toNat n.toNat,w.alloc (.cells (madeCells z.cells (n.toNat * i.size)) e),_,_,?_,.inl rfl,h7,R',rfl,rfl,rfl⟩
  ·rw [ev_int R hl e1,ev_int R hc e2]
   simp [hrun]
 ·exact h.elim
end
end Go.Proofs.YtpffgegfjpdncaaGreatDoor.Am
