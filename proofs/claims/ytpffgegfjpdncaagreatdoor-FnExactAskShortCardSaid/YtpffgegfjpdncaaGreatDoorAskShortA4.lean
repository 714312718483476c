/- What the operations of a Go program bring about on values without memory, proved once for any program: part 4. No conditions beyond those at each theorem. -/
import Derived.Test.YtpffgegfjpdncaaGreatDoorAskShortA3
import Derived.OpenShut
import Derived.ProofKit
import Derived.Below
import Derived.Carry
import Derived.DataReads
import Derived.DataElems
import Derived.Lib.LaidTab
import Derived.Deep.DeepHandedRow
import Derived.Shelf.Vars
namespace Go.Proofs.YtpffgegfjpdncaaGreatDoor.Am
open Go.RowKit AV
set_option linter.unusedVariables false
def retCB (P : Program) (a t r : Nat) (ks : List Nat) (res : AV) (b : Bool) (outs : List AV) (σ : St) : Prop :=
 leV (look σ a) (.box res) ∧ res.stor = true ∧ (tinfo P t).agg = some res.isAgg ∧ (tinfo P t).size = ncells res ∧ look σ r = .bool b ∧ outsW σ [a] ks 0 outs
theorem fits_of_pair {P : Program} {f : FuncId} {fn : Func} {c : Code} {args : List AV} {res : AV} {b0 : Bool} {outs : List AV} (a t r : Nat) (ks vars : List Nat) (hf : P.funcs[f]? = some fn) (hb : fn.body = some c) (hname : (fn.name == "runtime.NumGoroutine") = false)
  (hrs : fn.results = #[.cell a t,.tmp r]) (hrn : a < fn.ntmps) (hrn2 : r < fn.ntmps) (hn : args.length ≤ fn.ntmps) (hok : codeOk fn.ntmps ks c = true) (hks : ks.all (· < args.length) = true) (ho : outs.length ≤ args.length) (hal : args.all (fun x => x.target.isNone) = true)
  (h : codeW P (CallW P) vars c (initGo 0 args) (endQ (retCB P a t r ks res b0 outs))) : Fits P f args (.tup [res,.bool b0]) outs:=by
 refine fits_gen (retCB P a t r ks res b0 outs) ks vars hf hb hname hn hok hks ho hal h ?_
 rintro C a' w' σ' vs hCn hCk hkv hov ⟨⟨Os1,R⟩,hkk,hn',hdf,hos,htp,hout⟩ ⟨r1,r2,r3,r4,r6,r5⟩
 rw [(tinfo_base t).2.1] at r3
 rw [(tinfo_base t).1] at r4
 have hlt : a < a'.tmps.size:=by rw [hn',hCn]; exact hrn
 have hv : a'.tmps[a]? = some a'.tmps[a]:=Array.getElem?_eq_getElem hlt
 have hr:=repW_le _ _ r1 (R.rep a _ hv)
 simp only [RepW,RepC] at hr
 obtain ⟨b,cc,te,m,O',e1,hrow,hm,hrep,hnb,hO⟩:=hr
 have e1' : a'.tmps[a] = .pointer (some ⟨b,0,none⟩):=by simpa using e1
 obtain ⟨v,l1,l2,_,_⟩:=run_loadVar (P:=P) (w:=w') hrep (.inl r2) (ad:=⟨b,0,none⟩) r3 r4 (fun j u hj => by
  have:=row_cells (n:=m.length) hrow (j:=j) (u:=u) (by rw [hm,List.take_length]; exact hj)
  simpa using this)
 have hlt2 : r < a'.tmps.size:=by rw [hn',hCn]; exact hrn2
 have hv2 : a'.tmps[r]? = some a'.tmps[r]:=Array.getElem?_eq_getElem hlt2
 have hr2:=R.rep r _ hv2
 rw [r6] at hr2
 simp only [RepW,RepC] at hr2
 obtain ⟨e2,hne⟩:=hr2
 obtain ⟨Oo,q3,q4⟩:=outs_rep (used:=[a]) R hkk outs 0 vs (by rw [hCk]; exact r5) (fun j v hv => by rw [Nat.zero_add]; exact hkv j v hv) hov
 have hsub : ∀ k,O' k → Os1 a k:=fun k hk => (hO k).2 (.inr hk)
 have hdis : ∀ k,O' k → ¬ Oo k:=by
  intro k h1 h2
  obtain ⟨t',_,ht',hot'⟩:=q4 k h2
  have:=R.dis _ _ k (hsub k h1) hot'
  subst this; simp at ht'
 have hag : ∀ Oz,Agree w'.heap w'.heap (Sh C.ok Os1) (fun k => C.ok k ∧ ¬ O' k ∧ ¬ Oo k) Oz:=fun Oz => ⟨fun k hk _ => ⟨⟨hk.1,fun h => hk.2 a (hsub k h),fun h => by obtain ⟨t',_,_,ht'⟩:=q4 k h; exact hk.2 t' ht'⟩,rfl⟩,fun _ _ => rfl⟩
 refine ⟨.tuple #[v,.bool b0],O',Oo,?_,?_,repWs_mono _ q3 (hag _),hdis,?_⟩
 ·rw [e1'] at hv
  have hm1 : (fn.results.mapM fun (x : ResultVar) => (match x with
    | .tmp t => pure (a'.tmps.getD t undef)
    | .cell a t => do loadVar t (← asAddr (a'.tmps.getD a undef)) : Sem Value)).run P w' = .ok #[v,.bool b0] w':=by
   rw [hrs]
   simp [hv,hv2,asAddr,l1]
   simpa using e2
  unfold results
  rw [Sem.run_bind]
  erw [hm1]
  simp
 ·simp only [RepW]
  refine ⟨_,rfl,?_⟩
  simp only [RepWs]
  refine ⟨v,[.bool b0],O',fun _ => False,rfl,fun k => by simp,fun k _ h => h,repW_mono _ l2 (hag _),.bool b0,[],fun _ => False,fun _ => False,rfl,fun k => by simp,fun _ h _ => h,?_,rfl,fun _ h => h⟩
  simp only [RepW,RepC]
  exact ⟨trivial,fun _ h => h⟩
 ·rintro k (hk | hk)
  ·exact R.own a k (hsub k hk)
  ·obtain ⟨t',_,_,ht'⟩:=q4 k hk
   exact R.own t' k ht'
end Go.Proofs.YtpffgegfjpdncaaGreatDoor.Am
namespace Go.Proofs.YtpffgegfjpdncaaGreatDoor.Am
open Go.RowKit AV
set_option linter.unusedVariables false
end Go.Proofs.YtpffgegfjpdncaaGreatDoor.Am
namespace Go.Proofs.YtpffgegfjpdncaaGreatDoor.Am
open Go.RowKit AV
set_option linter.unusedVariables false
def Typed (P : Program) : Nat → TypeId → AV → Prop
 | 0,_,_ => False
 | n + 1,t,x => match P.underlying t with
  | some .bool => ∃ b,x = .bool b
  | some (.int k) => ∃ v,x = .int k v ∧ (Lit.int k v).wf = true
  | some .string => ∃ s,x = .str s ∧ s.length ≤ maxLen
  | some (.slice e) => ∃ xs,x = .sl false (P.cellsOf e) xs ∧ xs.length ≤ maxLen ∧ ∀ y ∈ xs,Typed P n e y
  | some (.struct fs) => ∃ ys,x = .agg ys ∧ ys.length = fs.size ∧ ∀ (i : Nat) (f : Field) (y : AV),fs[i]? = some f → ys[i]? = some y → Typed P n f.type y
  | some (.array l e) => ∃ ys,x = .arr (P.cellsOf e) ys ∧ ys.length = l ∧ ∀ y ∈ ys,Typed P n e y
  | _ => False
def fieldsGo (P : Program) (ts : List TypeId) : Nat → List Field → Option Nat
 | off,[] => some off
 | off,f :: r => if f.offset == off && ts.contains f.type then fieldsGo P ts (off + P.cellsOf f.type) r else none
def tyOk (P : Program) (ts : List TypeId) (t : TypeId) : Bool:=match P.underlying t with
 | some .bool | some (.int _) | some .string => P.cellsOf t == 1
 | some (.slice e) => P.cellsOf t == 1 && ts.contains e && decide (0 < P.cellsOf e)
 | some (.struct fs) => fieldsGo P ts 0 fs.toList == some (P.cellsOf t)
 | some (.array l e) => ts.contains e && P.cellsOf e * l == P.cellsOf t
 | _ => false
section
variable {H : Type} {enc : TypeId × Value → H} {P : Program} {w : World} {ts : List TypeId}
theorem many_rep {sz : Nat} : ∀ (cs : List (List Value)) (xs : List AV),cs.length = xs.length → (∀ (i : Nat) c x,cs[i]? = some c → xs[i]? = some x → RepC w.heap (fun _ => True) x c (fun _ => False) ∧ ncells x = sz) →
  RepL w.heap (fun _ => True) xs cs.flatten (fun _ => False) ∧ (∀ x ∈ xs,x.ncells = sz)
 | [],[],_,_ => by simp only [List.flatten_nil,RepL]; exact ⟨⟨trivial,emp_false⟩,by simp⟩
 | c :: cs,x :: xs,hl,h => by
  obtain ⟨h1,h2⟩:=many_rep cs xs (by simpa using hl) (fun i c' x' hc hx => h (i + 1) c' x' (by simpa using hc) (by simpa using hx))
  obtain ⟨h3,h4⟩:=h 0 c x rfl rfl
  simp only [List.flatten_cons,RepL]
  refine ⟨⟨c,_,fun _ => False,fun _ => False,rfl,by simp,by simp,h3,h1⟩,?_⟩
  intro y hy
  rcases List.mem_cons.1 hy with rfl | hy
  ·exact h4
  ·exact h2 y hy
 | [],x :: xs,hl,_ => by simp at hl
 | c :: cs,[],hl,_ => by simp at hl
theorem flatten_get {sz : Nat} (hsz : 0 < sz) : ∀ (cs : List (List Value)),(∀ c ∈ cs,c.length = sz) → ∀ (j : Nat) u,cs.flatten[j]? = some u → ∃ c,cs[j / sz]? = some c ∧ c[j % sz]? = some u
 | [],_,j,u,h => by simp at h
 | c :: cs,hc,j,u,h => by
  have hcl:=hc c (List.mem_cons_self ..)
  rw [List.flatten_cons] at h
  by_cases hj : j < sz
  ·rw [List.getElem?_append_left (by omega)] at h
   rw [Nat.div_eq_of_lt hj,Nat.mod_eq_of_lt hj]
   exact ⟨c,rfl,h⟩
  ·rw [List.getElem?_append_right (by omega),hcl] at h
   obtain ⟨c',h1,h2⟩:=flatten_get hsz cs (fun c' hm => hc c' (List.mem_cons_of_mem _ hm)) (j - sz) u h
   refine ⟨c',?_,?_⟩
   ·rw [Nat.div_eq_sub_div hsz (by omega)]; simpa using h1
   ·rw [Nat.mod_eq_sub_mod (by omega)]; exact h2
theorem list_choose {α β : Type} [Inhabited β] {p : Nat → β → Prop} : ∀ (n : Nat),(∀ i,i < n → ∃ y,p i y) → ∃ ys : List β,ys.length = n ∧ ∀ (i : Nat) y,ys[i]? = some y → p i y
 | 0,_ => ⟨[],rfl,by simp⟩
 | n + 1,h => by
  obtain ⟨ys,h1,h2⟩:=list_choose (α:=α) n (fun i hi => h i (by omega))
  obtain ⟨y,hy⟩:=h n (by omega)
  refine ⟨ys ++ [y],by simp [h1],?_⟩
  intro i z hz
  by_cases hi : i < n
  ·rw [List.getElem?_append_left (by omega)] at hz
   exact h2 i z hz
  ·have : i = n:=by
    have:=(List.getElem?_eq_some_iff.1 hz).1
    simp at this; omega
   subst this
   rw [List.getElem?_append_right (by omega),h1] at hz
   simp at hz
   subst hz; exact hy
theorem fieldsGo_le : ∀ (fs : List Field) (off tot : Nat),fieldsGo P ts off fs = some tot → off ≤ tot
 | [],off,tot,h => by simp [fieldsGo] at h; omega
 | f :: r,off,tot,h => by
  simp only [fieldsGo] at h
  split at h
  ·have:=fieldsGo_le r _ _ h; omega
  ·cases h
theorem fields_rep {n : Nat} {cs : List Value} {tot : Nat} (hcs : cs.length = tot) : ∀ (fs : List Field) (off : Nat),fieldsGo P ts off fs = some tot →
  (∀ (i : Nat) (f : Field),fs[i]? = some f → f.type ∈ ts → ∃ y,Typed P n f.type y ∧ RepC w.heap (fun _ => True) y ((cs.drop f.offset).take (P.cellsOf f.type)) (fun _ => False) ∧ ncells y = P.cellsOf f.type) →
  ∃ ys : List AV,ys.length = fs.length ∧ (∀ (i : Nat) (f : Field) (y : AV),fs[i]? = some f → ys[i]? = some y → Typed P n f.type y) ∧ RepL w.heap (fun _ => True) ys (cs.drop off) (fun _ => False) ∧ ncellsL ys = tot - off
 | [],off,h,_ => by
  simp only [fieldsGo,Option.some.injEq] at h
  refine ⟨[],rfl,by simp,?_,by simp [ncellsL]; omega⟩
  simp only [RepL]
  exact ⟨by apply List.drop_eq_nil_of_le; omega,emp_false⟩
 | f :: r,off,h,hf => by
  simp only [fieldsGo] at h
  split at h
  ·rename_i hc
   simp only [Bool.and_eq_true,beq_iff_eq] at hc
   have hle:=fieldsGo_le r _ _ h
   obtain ⟨y,h1,h2,h3⟩:=hf 0 f rfl (by simpa using hc.2)
   obtain ⟨ys,g1,g2,g3,g4⟩:=fields_rep hcs r _ h (fun i f' hi hm => hf (i + 1) f' (by simpa using hi) hm)
   refine ⟨y :: ys,by simp [g1],?_,?_,by simp only [ncellsL,g4,h3]; omega⟩
   ·intro i f' y' hi hy
    cases i with
    | zero => simp at hi hy; subst hi; subst hy; exact h1
    | succ i => exact g2 i f' y' (by simpa using hi) (by simpa using hy)
   ·simp only [RepL]
    rw [hc.1] at h2
    refine ⟨_,_,fun _ => False,fun _ => False,?_,by simp,by simp,h2,g3⟩
    rw [← List.drop_drop,List.take_append_drop]
  ·cases h
theorem trod_rep (hts : ts.all (tyOk P ts) = true) : ∀ (fuel : Nat) (t : TypeId) (cs : List Value) (x : DataW H × List MemPlace),t ∈ ts → DataW.trod enc P w 0 (fun _ => true) true fuel t cs = some x →
  ∃ y,Typed P fuel t y ∧ RepC w.heap (fun _ => True) y cs (fun _ => False) ∧ ncells y = P.cellsOf t
 | 0,t,cs,x,_,h => by simp [DataW.trod] at h
 | fuel + 1,t,cs,x,ht,h => by
  have hok:=(List.all_eq_true.1 hts) t ht
  unfold tyOk at hok
  unfold Typed
  cases hu : P.underlying t with
  | none => simp [hu] at hok
  | some desc =>
   rw [hu] at hok
   cases desc <;> simp only [Bool.false_eq_true] at hok
   case bool =>
    obtain ⟨b,rfl,_⟩:=DataW.trod_bool hu h
    exact ⟨.bool b,⟨b,rfl⟩,by simp only [RepC]; exact ⟨trivial,emp_false⟩,by simpa [ncells] using (beq_iff_eq.1 hok).symm⟩
   case int k =>
    obtain ⟨n,rfl,_,hw⟩:=DataW.trod_int hu h
    exact ⟨.int k n,⟨n,rfl,hw⟩,by simp only [RepC]; exact ⟨trivial,emp_false⟩,by simpa [ncells] using (beq_iff_eq.1 hok).symm⟩
   case string =>
    obtain ⟨s,rfl,_,hs⟩:=DataW.trod_string hu h
    exact ⟨.str s.data.toList,⟨_,rfl,by rw [Array.length_toList]; exact hs⟩,by simp only [RepC]; exact ⟨by simp,emp_false⟩,by simpa [ncells] using (beq_iff_eq.1 hok).symm⟩
   case slice e =>
    simp only [Bool.and_eq_true,beq_iff_eq,decide_eq_true_eq] at hok
    obtain ⟨⟨hok1,hok2⟩,hok3⟩:=hok
    have he : e ∈ ts:=by simpa using hok2
    rcases DataW.trod_slice hu h with ⟨rfl,_⟩ | ⟨a,len,cap,elems,rest,n,hn,rfl,_,hb,hl,hcm,hel,hget,_⟩
    ·refine ⟨.sl false (P.cellsOf e) [],⟨[],rfl,Nat.zero_le _,by simp⟩,?_,by simpa [ncells] using hok1.symm⟩
     simp only [RepC]
     exact ⟨⟨none,0,[],rfl,by simp,by simp only [RepL]; exact ⟨trivial,emp_false⟩,by simp,by simp⟩,emp_false⟩
    ·have hn' : n = fuel:=by omega
     subst hn'
     have hall : ∀ i,i < len → ∃ cy : List Value × AV,w.cells? 0 (a.add (i * P.cellsOf e)) (P.cellsOf e) = some cy.1 ∧ Typed P n e cy.2 ∧ RepC w.heap (fun _ => True) cy.2 cy.1 (fun _ => False) ∧ ncells cy.2 = P.cellsOf e:=by
      intro i hi
      have hg:=hget i hi
      rw [List.getElem?_eq_getElem (by omega)] at hg
      cases hc : w.cells? 0 (a.add (i * P.cellsOf e)) (P.cellsOf e) with
      | none => simp [hc] at hg
      | some c =>
       simp only [hc,Option.bind_some] at hg
       obtain ⟨y,h1,h2,h3⟩:=trod_rep hts n e c _ he hg
       exact ⟨(c,y),rfl,h1,h2,h3⟩
     obtain ⟨cys,k1,k2⟩:=list_choose (α:=Nat) len hall
     have hcs : ∀ c ∈ cys.map (·.1),c.length = P.cellsOf e:=by
      intro c hc
      obtain ⟨cy,hm,rfl⟩:=List.mem_map.1 hc
      obtain ⟨i,hi⟩:=List.getElem?_of_mem hm
      exact (World.cells?_some (k2 i cy hi).1).2.1
     obtain ⟨g1,g2⟩:=many_rep (w:=w) (sz:=P.cellsOf e) (cys.map (·.1)) (cys.map (·.2)) (by simp) (fun i c x hc hx => by
      simp only [List.getElem?_map] at hc hx
      cases hcy : cys[i]? with
      | none => simp [hcy] at hc
      | some cy =>
       simp only [hcy,Option.map_some,Option.some.injEq] at hc hx
       subst hc; subst hx
       exact ⟨(k2 i cy hcy).2.2.1,(k2 i cy hcy).2.2.2⟩)
     refine ⟨.sl false (P.cellsOf e) (cys.map (·.2)),⟨_,rfl,by rw [List.length_map,k1]; exact Nat.le_trans hl hcm,?_⟩,?_,by simpa [ncells] using hok1.symm⟩
     ·intro y hy
      obtain ⟨cy,hm,rfl⟩:=List.mem_map.1 hy
      obtain ⟨i,hi⟩:=List.getElem?_of_mem hm
      exact (k2 i cy hi).2.1
     ·simp only [RepC]
      refine ⟨⟨some a,cap,(cys.map (·.1)).flatten,by simp [k1],by rw [List.length_map,k1]; exact hl,g1,g2,fun _ => ⟨a,rfl,fun _ => trivial,?_⟩⟩,emp_false⟩
      intro j u hj
      obtain ⟨c,h1,h2⟩:=flatten_get hok3 _ hcs j u hj
      simp only [List.getElem?_map] at h1
      cases hcy : cys[j / P.cellsOf e]? with
      | none => simp [hcy] at h1
      | some cy =>
       simp only [hcy,Option.map_some,Option.some.injEq] at h1
       subst h1
       have hcell:=(World.cells?_some (k2 _ cy hcy).1).2.2 (j % P.cellsOf e) (Nat.mod_lt _ hok3)
       rw [h2,Addr.add_add] at hcell
       rw [show j / P.cellsOf e * P.cellsOf e + j % P.cellsOf e = j by rw [Nat.mul_comm]; exact Nat.div_add_mod j (P.cellsOf e)] at hcell
       rw [← cell_eq]; exact hcell
   case struct fs =>
    obtain ⟨xs,n,hn,_,hl,hxl,hg⟩:=DataW.trod_struct hu h
    have hn' : n = fuel:=by omega
    subst hn'
    obtain ⟨ys,g1,g2,g3,g4⟩:=fields_rep (w:=w) (n:=n) hl fs.toList 0 (beq_iff_eq.1 hok) (fun i f hi hm => by
     have hf:=hg i f (by rw [← hi]; simp)
     have hlt : i < fs.size:=by simpa using (List.getElem?_eq_some_iff.1 hi).1
     rw [List.getElem?_eq_getElem (by omega)] at hf
     exact trod_rep hts n f.type _ _ hm hf)
    refine ⟨.agg ys,⟨ys,rfl,by simpa using g1,fun i f y hi hy => g2 i f y (by rw [← hi]; simp) hy⟩,by simp only [RepC]; simpa using g3,by simp only [ncells]; simpa using g4⟩
   case array l e =>
    simp only [Bool.and_eq_true,beq_iff_eq] at hok
    have he : e ∈ ts:=by simpa using hok.1
    obtain ⟨xs,n,hn,_,hl,hxl,hg⟩:=DataW.trod_array hu h
    have hn' : n = fuel:=by omega
    subst hn'
    have hall : ∀ i,i < l → ∃ cy : List Value × AV,cy.1 = (cs.drop (i * P.cellsOf e)).take (P.cellsOf e) ∧ Typed P n e cy.2 ∧ RepC w.heap (fun _ => True) cy.2 cy.1 (fun _ => False) ∧ ncells cy.2 = P.cellsOf e:=by
     intro i hi
     have hf:=hg i hi
     rw [List.getElem?_eq_getElem (by omega)] at hf
     obtain ⟨y,h1,h2,h3⟩:=trod_rep hts n e _ _ he hf
     exact ⟨(_,y),rfl,h1,h2,h3⟩
    obtain ⟨cys,k1,k2⟩:=list_choose (α:=Nat) l hall
    obtain ⟨g1,g2⟩:=many_rep (w:=w) (sz:=P.cellsOf e) (cys.map (·.1)) (cys.map (·.2)) (by simp) (fun i c x hc hx => by
     simp only [List.getElem?_map] at hc hx
     cases hcy : cys[i]? with
     | none => simp [hcy] at hc
     | some cy =>
      simp only [hcy,Option.map_some,Option.some.injEq] at hc hx
      subst hc; subst hx
      exact ⟨(k2 i cy hcy).2.2.1,(k2 i cy hcy).2.2.2⟩)
    have hfl : ∀ (k : Nat) (cys' : List (List Value × AV)),(∀ (i : Nat) cy,cys'[i]? = some cy → cy.1 = (cs.drop ((k + i) * P.cellsOf e)).take (P.cellsOf e)) → (k + cys'.length) * P.cellsOf e = cs.length → (cys'.map (·.1)).flatten = cs.drop (k * P.cellsOf e):=by
     intro k cys'
     induction cys' generalizing k with
     | nil =>
      intro _ hlen
      simp only [List.map_nil,List.flatten_nil]
      exact (List.drop_eq_nil_of_le (by simp at hlen; omega)).symm
     | cons cy r ih =>
      intro hi hlen
      have h0:=hi 0 cy rfl
      rw [Nat.add_zero] at h0
      simp only [List.map_cons,List.flatten_cons]
      rw [ih (k + 1) (fun i c hc => by rw [hi (i + 1) c (by simpa using hc)]; congr 2; rw [show k + (i + 1) = k + 1 + i by omega]) (by rw [← hlen]; simp; congr 1; omega),h0,Nat.add_mul,Nat.one_mul,← List.drop_drop,List.take_append_drop]
    have hfl0:=hfl 0 cys (fun i cy hi => by rw [Nat.zero_add]; exact (k2 i cy hi).1) (by rw [Nat.zero_add,k1,hl,← hok.2,Nat.mul_comm])
    rw [Nat.zero_mul,List.drop_zero] at hfl0
    rw [hfl0] at g1
    refine ⟨.arr (P.cellsOf e) (cys.map (·.2)),⟨_,rfl,by rw [List.length_map,k1],?_⟩,by simp only [RepC]; exact ⟨g1,g2⟩,?_⟩
    ·intro y hy
     obtain ⟨cy,hm,rfl⟩:=List.mem_map.1 hy
     obtain ⟨i,hi⟩:=List.getElem?_of_mem hm
     exact (k2 i cy hi).2.1
    ·simp only [ncells,List.length_map,k1]; exact hok.2
end
end Go.Proofs.YtpffgegfjpdncaaGreatDoor.Am
namespace Go.Proofs.YtpffgegfjpdncaaGreatDoor.Am
open Go.RowKit AV Go.ChangeShapes Go.WideShapes Go.ChangeAt
set_option linter.unusedVariables false
def TypedL (P : Program) : List TypeId → List AV → Prop
 | [],[] => True
 | t :: ts,x :: xs => (∃ n,Typed P n t x) ∧ TypedL P ts xs
 | _,_ => False
section
variable {H : Type} {enc : TypeId × Value → H} {P : Program} {w : World} {ts : List TypeId}
theorem typed_rep {n : Nat} {t : TypeId} {v : Value} {y : AV} {base : Nat} (T : Typed P n t y) (hv : Value.okWide P w .any base t v) (r : RepC w.heap (fun _ => True) y v.cells.toList (fun _ => False)) : RepW w.heap (fun _ => True) y v (fun _ => False):=by
 cases n with
 | zero => exact T.elim
 | succ n =>
  unfold Typed at T
  split at T
  ·rename_i hu
   obtain ⟨b,rfl⟩:=T
   obtain ⟨b',rfl⟩:=okWide_bool hu hv
   simpa only [RepW,Value.cells] using r
  ·rename_i k hu
   obtain ⟨m,rfl,_⟩:=T
   obtain ⟨m',rfl⟩:=okWide_int hu hv
   simpa only [RepW,Value.cells] using r
  ·rename_i hu
   obtain ⟨s,rfl,_⟩:=T
   obtain ⟨s',rfl⟩:=okWide_string hu hv
   simpa only [RepW,Value.cells] using r
  ·rename_i e hu
   obtain ⟨xs,rfl,_⟩:=T
   obtain ⟨a,l,c,rfl⟩:=okWide_slice hu hv
   simpa only [RepW,Value.cells] using r
  ·rename_i fs hu
   obtain ⟨ys,rfl,_⟩:=T
   obtain ⟨cs,rfl,_⟩:=okWide_struct hu hv
   simp only [RepW]
   exact ⟨cs,rfl,by simpa only [Value.cells] using r⟩
  ·rename_i l e hu
   obtain ⟨ys,rfl,_⟩:=T
   simp only [Value.okWide,hu] at hv
   obtain ⟨cs,rfl,_⟩:=hv
   simp only [RepW]
   exact ⟨cs,rfl,by simpa only [Value.cells] using r⟩
  ·exact T.elim
theorem args_in (hl : laidOutB P = true) (hts : ts.all (tyOk P ts) = true) : ∀ (ps : List TypeId) (vs : List Value) (ds : List (DataW H)) (q : List MemPlace),ps.all (fun t => ts.contains t && P.readableRec t && decide (t < P.types.size)) = true →
  (∀ (j : Nat) t v,ps[j]? = some t → vs[j]? = some v → ∃ base,Value.okWide P w .any base t v) → DataW.TrodAll enc P w 0 (fun _ => true) true ps vs ds q →
  ds.length = ps.length ∧ (∃ xs,TypedL P ps xs ∧ RepWs w.heap (fun _ => True) xs vs (fun _ => False)) ∧
  ∀ W',Below w.heap.size w W' → DataW.TrodAll enc P W' 0 (fun b => decide (b < w.heap.size)) true ps vs ds q
 | [],vs,ds,q,_,_,h => by
  obtain ⟨rfl,rfl,rfl⟩:=trodAll_nil h
  exact ⟨rfl,⟨[],trivial,by simp only [RepWs]; exact ⟨trivial,emp_false⟩⟩,fun _ _ => rfl⟩
 | t :: ps,vs,ds,q,hp,hv,h => by
  obtain ⟨v,vs',d,ds',p,q',rfl,rfl,rfl,h0,h1⟩:=trodAll_cons h
  simp only [List.all_cons,Bool.and_eq_true,decide_eq_true_eq] at hp
  obtain ⟨⟨⟨hp1,hp2⟩,hp3⟩,hp4⟩:=hp
  obtain ⟨g1,⟨xs,g2,g3⟩,g4⟩:=args_in hl hts ps vs' ds' q' hp4 (fun j t' v' ht hv' => hv (j + 1) t' v' (by simpa using ht) (by simpa using hv')) h1
  obtain ⟨base,hv0⟩:=hv 0 t v rfl rfl
  have h0':=h0
  obtain ⟨fuel,hf⟩:=h0
  obtain ⟨y,T,r,_⟩:=trod_rep hts fuel t v.cells.toList _ (by simpa using hp1) hf
  refine ⟨by simp [g1],⟨y :: xs,⟨⟨fuel,T⟩,g2⟩,?_⟩,?_⟩
  ·simp only [RepWs]
   exact ⟨v,vs',fun _ => False,fun _ => False,rfl,by simp,by simp,typed_rep T hv0 r,g3⟩
  ·intro W' hb
   exact ⟨p,q',Below.trod hl hp2 hp3 h0' hb (fun x hx => DataW.trod_lt fuel _ _ _ hf x hx),g4 W' hb,rfl⟩
theorem contract_of_fitsL {f : FuncId} {fn : Func} {s : ChangeSpec} (tb : TypeId) (ts : List TypeId) (hl : laidOutB P = true) (hts : ts.all (tyOk P ts) = true)
  (hpar : fn.params.toList.all (fun t => ts.contains t && P.readableRec t && decide (t < P.types.size)) = true) (hres : fn.resultTypes = #[tb]) (htb : P.underlying tb = some .bool) (hvars : s.vars = [])
  (hs : ∀ ds : List (DataW H),ds.length = fn.params.toList.length → s.fn H (ds ++ []) = { results:=[.lit (.bool true)],args:=ds })
  (hf : ∀ xs,TypedL P fn.params.toList xs → Fits P f xs (.bool true) [])
  (W : World) (hly : Laid P W.heap (fun _ => False)) (base : Nat) (args : Array Value) (ds gs : List (DataW H)) (before : List MemPlace)
  (hval : ∀ (j : Nat) t v,fn.params[j]? = some t → args[j]? = some v → Value.okWide P W .any base t v)
  (hW : DataW.Whole enc P fn.params.toList s.vars false W args.toList ds gs before) :
  Calls P f args W fun e W' => ∃ v,e = .returned v ∧ s.post enc P fn false true false false W args v W':=by
 have hW':=hW
 obtain ⟨p,q,hA,hV,rfl,hfz,hnd⟩:=hW
 rw [hvars] at hV
 obtain ⟨rfl,rfl⟩:=trodVars_none hV
 obtain ⟨g1,⟨xs,g2,g3⟩,g4⟩:=args_in hl hts fn.params.toList args.toList ds p hpar (fun j t v ht hv => ⟨base,hval j t v (by simpa using ht) (by simpa using hv)⟩) hA
 have hF:=(hf xs g2).2 W args.toList (fun _ => True) (fun _ => False) (fun _ _ => trivial) (repWs_mono _ g3 ⟨fun k _ _ => ⟨⟨trivial,id⟩,rfl⟩,fun _ _ => rfl⟩) hly
 rw [Array.toArray_toList] at hF
 refine hF.mono ?_
 rintro e W' ⟨v,Or,Oo,rfl,k1,k2,k3,k4,k5,k6,_,_,_⟩
 have hv : v = .bool true:=by
  simp only [RepW,RepC] at k6
  simpa using k6.1
 subst hv
 have hb : Below W.heap.size W W':=⟨k1,k2,k3,k4,fun k hk => k5 k hk id⟩
 refine ⟨_,rfl,ds,[],p ++ [],[],p,[],hW',?_,?_,?_,hb.frame _,fun h => by cases h⟩
 ·rw [hs ds g1,hres]
  exact trodAll_mk1 (shut_bool htb _)
 ·rw [hs ds g1]
  exact g4 W' hb
 ·rw [hs ds g1,hvars]
  rfl
end
end Go.Proofs.YtpffgegfjpdncaaGreatDoor.Am
namespace Go.Proofs.YtpffgegfjpdncaaGreatDoor.Am
open Go.RowKit AV
set_option linter.unusedVariables false
def tabTy (P : Program) (nm : String) (k : IntKind) (n : Nat) : Bool:=match P.globalNamed nm with
 | none => false
 | some g => (match (P.globals[g]?).map (·.type) with
  | none => false
  | some t => (match P.underlying t with
   | some (.array m e) => decide (m = n) && (match P.underlying e with | some (.int k') => decide (k' = k) | _ => false) && decide (P.cellsOf e = 1) && decide (P.cellsOf t = n)
   | _ => false))
theorem laidVars_mem {P : Program} {w : World} : ∀ {l : List (String × DataW Unit)} {ps : List MemPlace},DataW.LaidVars P w l ps → ∀ x ∈ l,∃ g t cs fuel p,P.globalNamed x.1 = some g ∧ (P.globals[g]?).map (·.type) = some t ∧ w.var? P x.1 = some cs ∧ DataW.trod (fun _ => ()) P w 0 (fun _ => true) false fuel t cs.toList = some (x.2,p)
 | [],_,_,x,hx => by cases hx
 | (n,d) :: r,ps,⟨g,t,cs,fuel,p,q,h1,h2,h3,h4,h5,h6⟩,x,hx => by
  rcases List.mem_cons.1 hx with rfl | hx
  ·exact ⟨g,t,cs,fuel,p,h1,h2,h3,h4⟩
  ·exact laidVars_mem h5 x hx
def maxTy (P : Program) : Bool:=match P.globalNamed "internal/bytealg.MaxLen" with
 | none => true
 | some g => decide (g < P.globals.size) && (match ((begin P (fun _ _ => 0) default).world.heap[g]?).bind Obj.row? with
  | some (zero,t) => decide (zero.size = 1) && P.buildable t && decide (P.cellTypes P.depth t = some [t]) && (match P.underlying t with | some (.int k) => decide (k = .i64) | _ => false)
  | none => false)
theorem max_of_shaped {P : Program} {W : World} (h : W.ShapedOpen P) (hm : maxTy P = true) (g : Nat) (hg : P.globalNamed "internal/bytealg.MaxLen" = some g) : ∃ m e fr,W.heap[g]? = some (.cells #[.int .i64 m] e fr):=by
 unfold maxTy at hm
 rw [hg] at hm
 simp only [Bool.and_eq_true,decide_eq_true_eq] at hm
 obtain ⟨h1,hm⟩:=hm
 split at hm
 ·rename_i zero t h0
  simp only [Bool.and_eq_true,decide_eq_true_eq] at hm
  obtain ⟨⟨⟨h2,h3⟩,h4⟩,h5⟩:=hm
  split at h5
  ·rename_i k hu
   have hk : k = .i64:=by simpa using h5
   subst hk
   obtain ⟨m,hc⟩:=cell_of_shapedOpen_int h h1 h0 h2 h3 h4 hu
   obtain ⟨cs,hh,hs,_⟩:=h.1 g zero t h1 h0
   have h1 : cs.size = 1:=by omega
   have hcs : cs = #[.int .i64 m]:=by
    have h6 : cs[0]? = some (.int .i64 m):=by simpa [World.cell?,hh] using hc
    apply Array.ext
    ·simp [h1]
    ·intro i hi1 hi2
     have : i = 0:=by omega
     subst this
     rw [Array.getElem?_eq_getElem (by omega)] at h6
     simpa using h6
   rw [hcs] at hh
   exact ⟨m,_,_,hh⟩
  ·cases h5
 ·cases hm
theorem laid_of_met {P : Program} {W : World} {laid : List (String × DataW Unit)} (h : laidMetH P laid W) (i : Nat) (hh : (laid.filter fun x => x.2.handleName?.isSome).isEmpty = true) (hm : laid[i]? = some ("internal/strconv.uint64pow10", Lib.tabData .u64 Lib.pow10Tab))
  (ht : tabTy P "internal/strconv.uint64pow10" .u64 20 = true) (hsh : W.ShapedOpen P) (hno : maxTy P = true) : Laid P W.heap fun _ => False:=by
 have hh : (laid.filter fun x => x.2.handleName?.isSome) = []:=by simpa using hh
 unfold laidMetH at h
 rw [hh] at h
 obtain ⟨ps,hv,_⟩:=h
 obtain ⟨g,t,cs,fuel,p,h1,h2,h3,h4⟩:=laidVars_mem hv _ (List.mem_of_getElem? hm)
 simp only at h1 h3 h4
 unfold tabTy at ht
 simp only [h1,h2] at ht
 split at ht
 ·rename_i m e hu
  simp only [Bool.and_eq_true,decide_eq_true_eq] at ht
  obtain ⟨⟨⟨rfl,hk⟩,hce⟩,hct⟩:=ht
  split at hk
  ·rename_i k' hue
   have hk : k' = .u64:=by simpa using hk
   subst hk
   have hc:=Lib.cells_of_tab hu hue hce hct h4
   simp only [World.var?,h1,Option.bind_some] at h3
   split at h3
   ·rename_i cs' e' fr he
    simp only [Option.some.injEq] at h3
    subst h3
    have hlt : g < W.heap.size:=(Array.getElem?_eq_some_iff.1 he).1
    refine ⟨W.heap,⟨fun g' hg' => ?_,fun g' hg' => ?_⟩,fun n hn g' hg' => ?_⟩
    ·rw [h1] at hg'
     cases hg'
     exact ⟨e',fr,by rw [he,← hc]⟩
    ·exact max_of_shaped hsh hno g' hg'
    ·simp only [tabN,List.mem_cons,List.not_mem_nil,or_false] at hn
     rcases hn with rfl | rfl
     ·rw [h1] at hg'
      cases hg'
      exact ⟨hlt,fun x => x,rfl⟩
     ·obtain ⟨m,e2,fr2,h9⟩:=max_of_shaped hsh hno g' hg'
      exact ⟨(Array.getElem?_eq_some_iff.1 h9).1,fun x => x,rfl⟩
   ·cases h3
  ·cases hk
 ·cases ht
end Go.Proofs.YtpffgegfjpdncaaGreatDoor.Am
namespace Go.Proofs.YtpffgegfjpdncaaGreatDoor.Am
open Go.RowKit AV
set_option linter.unusedVariables false
def valL (σ : St) : List Operand → Bool
 | [] => true
 | x :: r => isVal σ x && valL σ r
theorem valL_eq (σ : St) : ∀ xs : List Operand,valL σ xs = valOnly σ xs
 | [] => rfl
 | x :: r => by
  have:=valL_eq σ r
  simp only [valL,this]
  rfl
def bOk (σ : St) (xs : List Operand) (d : Tmp) (args : List AV) (res : AV) (K : St → Prop) : Prop:=argsOk (argsOf σ xs) args ∧ (if closed res = true then True else valL σ xs = true) ∧ res.target = none ∧ K (put σ d res [])
theorem bOk_or {σ : St} {xs : List Operand} {res : AV} (h : if closed res = true then True else valL σ xs = true) : closed res = true ∨ valOnly σ xs = true:=by
 rw [valL_eq] at h
 by_cases hc : closed res = true
 ·exact .inl hc
 ·rw [if_neg hc] at h; exact .inr h
def notTup : AV → Bool
 | .tup _ => false
 | _ => true
def mOk (σ : St) (xs : List Operand) (i : Nat) (dst : Option Tmp) (args : List AV) (res : AV) (outs : List AV) (K : St → Prop) : Prop :=
 match xs[i]? with
 | some x => (match homeOf σ x with
  | some (s,p,y) => (match outs[i]? with
   | some y' => argsOk (argsM σ s i y 0 xs) args ∧ y'.isAgg = y.isAgg ∧ ncells y' = ncells y ∧ y'.target = none ∧ notTup y' = true ∧ (if (closed res && closed y') = true then True else othersVal σ i 0 xs = true) ∧ res.target = none ∧ dst ≠ some s ∧ K (upd σ (newsOf dst res s (setAt (look σ s) p y')))
   | none => False)
  | none => False)
 | none => False
def gOk (σ : St) (sl : Nat) (xs : List Operand) (i : Nat) (dst : Option Tmp) (args : List AV) (res : AV) (outs : List AV) (K : St → Prop) : Prop :=
 match xs[i]? with
 | some x => (match homeOf σ x with
  | some (s,p,y) => (match outs[i]? with
   | some y' => s = sl ∧ (setAt (look σ s) p y').target = none ∧ dst.isSome = true ∧ argsOk (argsM σ s i y 0 xs) args ∧ y'.isAgg = y.isAgg ∧ ncells y' = ncells y ∧ y'.target = none ∧ notTup y' = true ∧ (if (closed res && closed y') = true then True else othersVal σ i 0 xs = true) ∧ res.target = none ∧ dst ≠ some s ∧ K (upd σ (newsOf dst res s (setAt (look σ s) p y')))
   | none => False)
  | none => False)
 | none => False
section
variable {P : Program} {K : St → Prop} {f : FuncId} {xs : List Operand} {d : Tmp} {dst : Option Tmp} {σ : St} {args : List AV} {res : AV} {outs : List AV}
theorem callL (F : Fits P f args res outs) (h : bOk σ xs d args res K) : CallL P f xs (some d) σ K:=call_of F h.1 (bOk_or h.2.1) h.2.2.1 h.2.2.2
theorem callB (F : Fits P f args res outs) (h : bOk σ xs d args res K) : CallB P f xs (some d) σ K:=callb_of F h.1 (bOk_or h.2.1) h.2.2.1 h.2.2.2
theorem callF (L : List (Nat × List Nat)) (F : Fits P f args res outs) (h : bOk (frzs σ L) xs d args res K) : CallB P f xs (some d) σ K:=callf_of L F h.1 (bOk_or h.2.1) h.2.2.1 h.2.2.2
theorem callMF (L : List (Nat × List Nat)) (i : Nat) (F : Fits P f args res outs) (h : mOk (frzs σ L) xs i dst args res outs K) : CallB P f xs dst σ K:=by
 unfold mOk at h
 split at h
 ·rename_i x hx
  split at h
  ·rename_i s p y hh
   split at h
   ·rename_i y' ho
    obtain ⟨h1,h2,h3,h4,h5,h6,h7,h8,h9⟩:=h
    exact callmf_of L i F hx hh h1 ho ⟨h2,h3,h4,fun l e => by subst e; simp [notTup] at h5⟩ (by
     by_cases hc : (closed res && closed y') = true
     ·exact .inl (by simpa using hc)
     ·rw [if_neg hc] at h6; exact .inr h6) h7 h8 h9
   ·exact h.elim
  ·exact h.elim
 ·exact h.elim
theorem mstep_of (i : Nat) {sl : Nat} (F : Fits P f args res outs) (h : gOk σ sl xs i dst args res outs K) : MStep P sl f xs dst σ K:=by
 unfold gOk at h
 split at h
 ·rename_i x hx
  split at h
  ·rename_i s p y hh
   split at h
   ·rename_i y' ho
    obtain ⟨rfl,h10,h11,h1,h2,h3,h4,h5,h6,h7,h8,h9⟩:=h
    obtain ⟨args0,e1,e2⟩:=argsOk_iff.1 h1
    refine ⟨i,x,p,y,y',args0,args,res,outs,F,hx,hh,e1,e2,ho,⟨h2,h3,h4,fun l e => by subst e; simp [notTup] at h5⟩,?_,h7,h8,h10,h11,h9⟩
    by_cases hc : (closed res && closed y') = true
    ·exact .inl (by simpa using hc)
    ·rw [if_neg hc] at h6; exact .inr h6
   ·exact h.elim
  ·exact h.elim
 ·exact h.elim
theorem callG (i : Nat) {sl : Nat} (F : Fits P f args res outs) (h : gOk σ sl xs i dst args res outs K) : MStepG P [sl] f xs dst σ K:=⟨[sl],fun _ h => h,.inl ⟨sl,rfl,mstep_of i F h⟩⟩
theorem callM (i : Nat) (F : Fits P f args res outs) (h : mOk σ xs i dst args res outs K) : CallB P f xs dst σ K:=callMF [] i F h
end
def cvt (a b : Nat) (P : Program) (σ : St) (s t : TypeId) (x : Operand) (d : Option Tmp) (K : St → Prop) : Prop:=match a,b,d with
 | 4,1,some d => strBytesW P σ s t x d K
 | 1,4,d => bytesStrW P σ s t x (pureK σ d K)
 | 5,5,d => convW P σ s t x (pureK σ d K)
 | _,_,_ => False
section
variable (P : Program) (σ : St) (s t : TypeId) (x : Operand) (K : St → Prop)
theorem convertW_cvt (d : Option Tmp) : convertW P σ s t x d K = cvt (tinfo P s).kind (tinfo P t).kind P σ s t x d K:=rfl
theorem cvt_14 (d : Option Tmp) : cvt 1 4 P σ s t x d K = bytesStrW P σ s t x (pureK σ d K):=rfl
theorem cvt_55 (d : Option Tmp) : cvt 5 5 P σ s t x d K = convW P σ s t x (pureK σ d K):=rfl
end
theorem oa_some (x : Operand) : (some x).toArray.toList = [x]:=rfl
theorem oa_none : (none : Option Operand).toArray.toList = []:=rfl
theorem toNat_0 : Int.toNat 0 = 0:=rfl
theorem toNat_1 : Int.toNat 1 = 1:=rfl
theorem wrap_i64 {x : Int} (h1 : -9223372036854775808 ≤ x) (h2 : x ≤ 9223372036854775807) : IntKind.wrap .i64 x = x:=by
 simp [IntKind.wrap,IntKind.bits,IntKind.signed]; omega
theorem wrap_u8 {x : Int} (h1 : 0 ≤ x) (h2 : x ≤ 255) : IntKind.wrap .u8 x = x:=by
 simp [IntKind.wrap,IntKind.bits,IntKind.signed]; omega
theorem ilt_t {a b : Int} (h : a < b) : (a < b) = True:=eq_true h
theorem ilt_f {a b : Int} (h : b ≤ a) : (a < b) = False:=eq_false (by omega)
theorem ile_t {a b : Int} (h : a ≤ b) : (a ≤ b) = True:=eq_true h
theorem ile_f {a b : Int} (h : b < a) : (a ≤ b) = False:=eq_false (by omega)
theorem nlt_t {a b : Nat} (h : a < b) : (a < b) = True:=eq_true h
theorem nlt_f {a b : Nat} (h : b ≤ a) : (a < b) = False:=eq_false (by omega)
theorem nle_t {a b : Nat} (h : a ≤ b) : (a ≤ b) = True:=eq_true h
theorem ibeq_t {a b : Int} (h : a = b) : (a == b) = true:=by simp [h]
theorem ibeq_f {a b : Int} (h : a ≠ b) : (a == b) = false:=by simp [h]
theorem ibne_t {a b : Int} (h : a ≠ b) : (a != b) = true:=by simp [h]
theorem ibne_f {a b : Int} (h : a = b) : (a != b) = false:=by simp [h]
theorem getD_map' {α : Type} (f : α → AV) (xs : List α) (i : Nat) (h : i < xs.length) : (xs.map f).getD i .undef = f xs[i]:=by simp [List.getD,h]
theorem get_map' {α : Type} (f : α → AV) (xs : List α) (i : Nat) (h : i < xs.length) : (xs.map f)[i]? = some (f xs[i]):=by simp [h]
section
variable {P : Program} {cw : CW} {vars : List Nat} {Q : Post} {p : Prop} [Decidable p] {x y : Code} {σ : St} {k : List It} {t : Bool} {a b : Int} {o : Oper} {all l : List Oper} {ds : List Nat} {want : Bool}
theorem cond_dec (h1 : p → condR P cw vars Q (.bool true) x y k σ) (h2 : ¬ p → condR P cw vars Q (.bool false) x y k σ) : condR P cw vars Q (.bool (decide p)) x y k σ:=by
 by_cases h : p
 ·simpa [h] using h1 h
 ·simpa [h] using h2 h
theorem cond_beq (h1 : a = b → condR P cw vars Q (.bool true) x y k σ) (h2 : a ≠ b → condR P cw vars Q (.bool false) x y k σ) : condR P cw vars Q (.bool (a == b)) x y k σ:=by
 by_cases h : a = b
 ·simpa [h] using h1 h
 ·rw [show (a == b) = false by simp [h]]; exact h2 h
theorem cond_bne (h1 : a ≠ b → condR P cw vars Q (.bool true) x y k σ) (h2 : a = b → condR P cw vars Q (.bool false) x y k σ) : condR P cw vars Q (.bool (a != b)) x y k σ:=by
 by_cases h : a = b
 ·simpa [h] using h2 h
 ·rw [show (a != b) = true by simp [h]]; exact h1 h
theorem cond_of (h1 : t = true → condR P cw vars Q (.bool true) x y k σ) (h2 : t = false → condR P cw vars Q (.bool false) x y k σ) : condR P cw vars Q (.bool t) x y k σ:=by
 cases t
 ·exact h2 rfl
 ·exact h1 rfl
theorem guard_dec (h1 : p → guardR P cw vars Q (.bool true) want o all l k σ) (h2 : ¬ p → guardR P cw vars Q (.bool false) want o all l k σ) : guardR P cw vars Q (.bool (decide p)) want o all l k σ:=by
 by_cases h : p
 ·simpa [h] using h1 h
 ·simpa [h] using h2 h
theorem guard_beq (h1 : a = b → guardR P cw vars Q (.bool true) want o all l k σ) (h2 : a ≠ b → guardR P cw vars Q (.bool false) want o all l k σ) : guardR P cw vars Q (.bool (a == b)) want o all l k σ:=by
 by_cases h : a = b
 ·simpa [h] using h1 h
 ·rw [show (a == b) = false by simp [h]]; exact h2 h
theorem guard_bne (h1 : a ≠ b → guardR P cw vars Q (.bool true) want o all l k σ) (h2 : a = b → guardR P cw vars Q (.bool false) want o all l k σ) : guardR P cw vars Q (.bool (a != b)) want o all l k σ:=by
 by_cases h : a = b
 ·simpa [h] using h2 h
 ·rw [show (a != b) = true by simp [h]]; exact h1 h
theorem guard_of (h1 : t = true → guardR P cw vars Q (.bool true) want o all l k σ) (h2 : t = false → guardR P cw vars Q (.bool false) want o all l k σ) : guardR P cw vars Q (.bool t) want o all l k σ:=by
 cases t
 ·exact h2 rfl
 ·exact h1 rfl
theorem guardD_dec (h1 : p → guardD P cw vars Q (.bool true) want o all ds l k σ) (h2 : ¬ p → guardD P cw vars Q (.bool false) want o all ds l k σ) : guardD P cw vars Q (.bool (decide p)) want o all ds l k σ:=by
 by_cases h : p
 ·simpa [h] using h1 h
 ·simpa [h] using h2 h
theorem guardD_beq (h1 : a = b → guardD P cw vars Q (.bool true) want o all ds l k σ) (h2 : a ≠ b → guardD P cw vars Q (.bool false) want o all ds l k σ) : guardD P cw vars Q (.bool (a == b)) want o all ds l k σ:=by
 by_cases h : a = b
 ·simpa [h] using h1 h
 ·rw [show (a == b) = false by simp [h]]; exact h2 h
theorem guardD_bne (h1 : a ≠ b → guardD P cw vars Q (.bool true) want o all ds l k σ) (h2 : a = b → guardD P cw vars Q (.bool false) want o all ds l k σ) : guardD P cw vars Q (.bool (a != b)) want o all ds l k σ:=by
 by_cases h : a = b
 ·simpa [h] using h2 h
 ·rw [show (a != b) = true by simp [h]]; exact h1 h
theorem guardD_of (h1 : t = true → guardD P cw vars Q (.bool true) want o all ds l k σ) (h2 : t = false → guardD P cw vars Q (.bool false) want o all ds l k σ) : guardD P cw vars Q (.bool t) want o all ds l k σ:=by
 cases t
 ·exact h2 rfl
 ·exact h1 rfl
end
theorem fits_shared {P : Program} {f : FuncId} {args : List AV} {res : AV} (h : Fits P f args res []) : Fits P f args (erase res) []:=by
 obtain ⟨h1,h2⟩:=h
 refine ⟨h1,fun w vs ok O hall hrep hly => Calls.mono (h2 w vs ok O hall hrep hly) ?_⟩
 rintro e w' ⟨v,Or,Oo,e1,e2,e3,e4,e5,e6,e7,e8,e9,e10⟩
 have hi:=e5
 refine ⟨v,fun _ => False,Oo,e1,e2,e3,e4,e5,e6,?_,?_,fun _ hk => hk.elim,fun k hk => e10 k (hk.elim (fun x => x.elim) .inr)⟩
 ·refine repW_erase _ e7 (fun k hk => ⟨hk.1,fun x => x,hk.2.2⟩) (fun k hk => ⟨?_,fun x => x,e9 k hk⟩)
  rcases e10 k (.inl hk) with h3 | h3
  ·exact hall k (.inl h3)
  ·exact hall k (.inr h3)
 ·simp only [RepWs] at e8 ⊢
  exact e8
section
variable {P : Program} {σ : St} {t : TypeId} {m k v : Operand} {okB : Bool}
theorem lk_yes {K : AV → Prop} (s : Nat) (kvs : List AV) (ka : AV) (kt et : TypeId) (kd : TypeDesc) (j : Nat) (va : AV) (h1 : P.underlying t = some (.map kt et)) (h2 : P.underlying kt = some kd) (hk : kvKeys ka kvs) (ha : kvAt ka va kvs j)
  (h : mapOf σ m = some (s,kvs) ∧ ev σ k = ka ∧ mapKey kd ka = true ∧ va.target = none ∧ K (if okB = true then .tup [va,.bool true] else va)) : lookupW P σ t m k okB K:=by
 obtain ⟨a,rfl,b,c,d⟩:=h
 exact ⟨s,kvs,et,kd,a,⟨kt,h1,h2,b,hk⟩,.inl ⟨j,va,ha,c,d⟩⟩
theorem lk_no {K : AV → Prop} (s : Nat) (kvs : List AV) (ka : AV) (kt et : TypeId) (kd : TypeDesc) (h1 : P.underlying t = some (.map kt et)) (h2 : P.underlying kt = some kd) (hz : zvOk P et = true) (hk : kvKeys ka kvs) (ha : kvNo ka kvs)
  (h : mapOf σ m = some (s,kvs) ∧ ev σ k = ka ∧ mapKey kd ka = true ∧ (tinfo P et).zok = true ∧ (tinfo P et).zero.target = none ∧ K (if okB = true then .tup [(tinfo P et).zero,.bool false] else (tinfo P et).zero)) : lookupW P σ t m k okB K:=by
 obtain ⟨a,rfl,b,c,e,d⟩:=h
 exact ⟨s,kvs,et,kd,a,⟨kt,h1,h2,b,hk⟩,.inr ⟨ha,c,hz,e,d⟩⟩
theorem mu_new {K : St → Prop} (s : Nat) (kvs : List AV) (ka va : AV) (kt et : TypeId) (kd : TypeDesc) (h1 : P.underlying t = some (.map kt et)) (h2 : P.underlying kt = some kd) (hk : kvKeys ka kvs) (ha : kvNo ka kvs)
  (h : mapOf σ m = some (s,kvs) ∧ ev σ k = ka ∧ ev σ v = va ∧ mapKey kd ka = true ∧ plain va = true ∧ va.stor = true ∧ K (put σ s (.mp (kvs ++ [.agg [ka,va]])) [s])) : mapUpdateW P σ t m k v K:=by
 obtain ⟨a,rfl,rfl,b,c,e,d⟩:=h
 exact ⟨s,kvs,et,kd,a,⟨kt,h1,h2,b,hk⟩,c,e,.inr ⟨ha,d⟩⟩
theorem mu_old {K : St → Prop} (s : Nat) (kvs : List AV) (ka va : AV) (kt et : TypeId) (kd : TypeDesc) (j : Nat) (v0 : AV) (h1 : P.underlying t = some (.map kt et)) (h2 : P.underlying kt = some kd) (hk : kvKeys ka kvs) (ha : kvAt ka v0 kvs j)
  (h : mapOf σ m = some (s,kvs) ∧ ev σ k = ka ∧ ev σ v = va ∧ mapKey kd ka = true ∧ plain va = true ∧ va.stor = true ∧ K (put σ s (.mp (kvs.set j (.agg [ka,va]))) [s])) : mapUpdateW P σ t m k v K:=by
 obtain ⟨a,rfl,rfl,b,c,e,d⟩:=h
 exact ⟨s,kvs,et,kd,a,⟨kt,h1,h2,b,hk⟩,c,e,.inl ⟨j,v0,ha,d⟩⟩
end
end Go.Proofs.YtpffgegfjpdncaaGreatDoor.Am
namespace Go.Proofs.YtpffgegfjpdncaaGreatDoor.Am
open Go.RowKit AV
set_option linter.unusedVariables false
theorem am0 : type_of% @run_draw ∧ type_of% @op_insert ∧ type_of% @run_drw ∧ type_of% @drw_none ∧ type_of% @drw_some ∧ type_of% @gd_tt ∧ type_of% @gd_ff ∧ type_of% @gd_tf ∧ type_of% @gd_ft ∧ type_of% @gd_skip ∧ type_of% @chk_move ∧ type_of% @chk_pick ∧ type_of% @chk_load ∧ type_of% @chk_binOp ∧ type_of% @chk_unOp ∧ type_of% @chk_fieldAddr ∧ type_of% @chk_indexAddr ∧ type_of% @chk_slice ∧ type_of% @chk_len ∧ type_of% @chk_fn ∧ type_of% @chk_alloc ∧ type_of% @chk_assign ∧ type_of% @chk_build ∧ type_of% @chk_buildSlice ∧ type_of% @chk_store ∧ type_of% @chk_append ∧ type_of% @chkA_t ∧ type_of% @chkA_f ∧ type_of% @madeIn_tmp ∧ type_of% @madeL.eq_1 ∧ type_of% @madeL.eq_2 ∧ type_of% @dq.eq_1 ∧ type_of% @dq.eq_2 ∧ type_of% @isMk.eq_1 ∧ type_of% @isMk.eq_3 ∧ type_of% @isMk.eq_4 ∧ type_of% @isMk.eq_5 ∧ type_of% @tmpsOf.eq_1 ∧ type_of% @tmpsOf.eq_2 ∧ type_of% @tmpsOf.eq_3 ∧ type_of% @looks_none ∧ type_of% @looks_some ∧ type_of% @gtmp_some ∧ type_of% @check1_eq ∧ type_of% @check0_eq ∧ type_of% @c0_int ∧ type_of% @c0_str ∧ type_of% @c0_sl ∧ type_of% @c0_agg ∧ type_of% @ck_int ∧ type_of% @ck_bool ∧ type_of% @ck_str ∧ type_of% @ck_sl ∧ type_of% @ck_agg ∧ type_of% @ck_tup ∧ type_of% @ck_box ∧ type_of% @ck_dptr ∧ type_of% @ck_vref ∧ type_of% @ck_vagg ∧ type_of% @ck_ptr ∧ type_of% @ct_sl ∧ type_of% @ct_box ∧ type_of% @Op.operands.eq_1 ∧ type_of% @Op.operands.eq_4 ∧ type_of% @Op.operands.eq_5 ∧ type_of% @Op.operands.eq_7 ∧ type_of% @Op.operands.eq_9 ∧ type_of% @Op.operands.eq_10 ∧ type_of% @Op.operands.eq_14 ∧ type_of% @Op.operands.eq_23 ∧ type_of% @Op.operands.eq_24 ∧ type_of% @Op.operands.eq_25 ∧ type_of% @Op.operands.eq_26 ∧ type_of% @Op.operands.eq_27 ∧ type_of% @Op.operands.eq_29 ∧ type_of% @Op.operands.eq_36 ∧ type_of% @Op.operands.eq_40 ∧ type_of% @Call.operands.eq_1 ∧ type_of% @List.all_cons.{0} ∧ type_of% @List.all_nil.{0}:=⟨@run_draw,@op_insert,@run_drw,@drw_none,@drw_some,@gd_tt,@gd_ff,@gd_tf,@gd_ft,@gd_skip,@chk_move,@chk_pick,@chk_load,@chk_binOp,@chk_unOp,@chk_fieldAddr,@chk_indexAddr,@chk_slice,@chk_len,@chk_fn,@chk_alloc,@chk_assign,@chk_build,@chk_buildSlice,@chk_store,@chk_append,@chkA_t,@chkA_f,@madeIn_tmp,@madeL.eq_1,@madeL.eq_2,@dq.eq_1,@dq.eq_2,@isMk.eq_1,@isMk.eq_3,@isMk.eq_4,@isMk.eq_5,@tmpsOf.eq_1,@tmpsOf.eq_2,@tmpsOf.eq_3,@looks_none,@looks_some,@gtmp_some,@check1_eq,@check0_eq,@c0_int,@c0_str,@c0_sl,@c0_agg,@ck_int,@ck_bool,@ck_str,@ck_sl,@ck_agg,@ck_tup,@ck_box,@ck_dptr,@ck_vref,@ck_vagg,@ck_ptr,@ct_sl,@ct_box,@Op.operands.eq_1,@Op.operands.eq_4,@Op.operands.eq_5,@Op.operands.eq_7,@Op.operands.eq_9,@Op.operands.eq_10,@Op.operands.eq_14,@Op.operands.eq_23,@Op.operands.eq_24,@Op.operands.eq_25,@Op.operands.eq_26,@Op.operands.eq_27,@Op.operands.eq_29,@Op.operands.eq_36,@Op.operands.eq_40,@Call.operands.eq_1,@List.all_cons.{0},@List.all_nil.{0}⟩
theorem am1 : type_of% @Bool.and_true ∧ type_of% @Bool.true_and ∧ type_of% @List.filterMap_cons.{0,0} ∧ type_of% @List.filterMap_nil.{0,0} ∧ type_of% @Array.toList_append.{0} ∧ type_of% @run_nil ∧ type_of% @run_skip ∧ type_of% @run_seq ∧ type_of% @run_region ∧ type_of% @run_ops ∧ type_of% @run_cond ∧ type_of% @cond_t ∧ type_of% @cond_f ∧ type_of% @run_block ∧ type_of% @run_blk ∧ type_of% @run_exit ∧ type_of% @kx_nil ∧ type_of% @kx_code ∧ type_of% @kx_blk ∧ type_of% @run_ret ∧ type_of% @kr_code ∧ type_of% @kr_blk ∧ type_of% @ops_none ∧ type_of% @ops_some ∧ type_of% @guard_tt ∧ type_of% @guard_ff ∧ type_of% @guard_tf ∧ type_of% @guard_ft ∧ type_of% @guard_skip ∧ type_of% @gslot_some ∧ type_of% @retQ_ret ∧ type_of% @endQ_ret ∧ type_of% @plainL.eq_1 ∧ type_of% @plainL.eq_2 ∧ type_of% @ncellsL.eq_1 ∧ type_of% @ncellsL.eq_2 ∧ type_of% @allocW.eq_1 ∧ type_of% @boxW.eq_1 ∧ type_of% @makeW.eq_1 ∧ type_of% @List.length_cons.{0} ∧ type_of% @List.take_zero.{0} ∧ type_of% @List.take_succ_cons.{0} ∧ type_of% @List.set_cons_zero.{0} ∧ type_of% @List.set_cons_succ.{0} ∧ type_of% @Nat.lt_add_one ∧ type_of% @List.getD_cons_zero.{0} ∧ type_of% @List.getD_cons_succ.{0} ∧ type_of% @initGo.eq_1 ∧ type_of% @initGo.eq_2 ∧ type_of% @op_move ∧ type_of% @op_assign ∧ type_of% @op_pick ∧ type_of% @op_alloc ∧ type_of% @op_box ∧ type_of% @op_build ∧ type_of% @op_buildSlice ∧ type_of% @op_load ∧ type_of% @op_store ∧ type_of% @op_binOp ∧ type_of% @op_unOp ∧ type_of% @op_convert ∧ type_of% @op_makeSlice ∧ type_of% @op_slice ∧ type_of% @op_fieldAddr ∧ type_of% @op_indexAddr ∧ type_of% @op_index ∧ type_of% @op_extract ∧ type_of% @op_len ∧ type_of% @op_append ∧ type_of% @op_call ∧ type_of% @skip_some ∧ type_of% @moveW.eq_1 ∧ type_of% @srcOf.eq_1 ∧ type_of% @assignW.eq_1 ∧ type_of% @ev.eq_1 ∧ type_of% @ev.eq_2 ∧ type_of% @constV.eq_1 ∧ type_of% @constV.eq_2 ∧ type_of% @constV.eq_3 ∧ type_of% @constV.eq_4:=⟨@Bool.and_true,@Bool.true_and,@List.filterMap_cons.{0,0},@List.filterMap_nil.{0,0},@Array.toList_append.{0},@run_nil,@run_skip,@run_seq,@run_region,@run_ops,@run_cond,@cond_t,@cond_f,@run_block,@run_blk,@run_exit,@kx_nil,@kx_code,@kx_blk,@run_ret,@kr_code,@kr_blk,@ops_none,@ops_some,@guard_tt,@guard_ff,@guard_tf,@guard_ft,@guard_skip,@gslot_some,@retQ_ret,@endQ_ret,@plainL.eq_1,@plainL.eq_2,@ncellsL.eq_1,@ncellsL.eq_2,@allocW.eq_1,@boxW.eq_1,@makeW.eq_1,@List.length_cons.{0},@List.take_zero.{0},@List.take_succ_cons.{0},@List.set_cons_zero.{0},@List.set_cons_succ.{0},@Nat.lt_add_one,@List.getD_cons_zero.{0},@List.getD_cons_succ.{0},@initGo.eq_1,@initGo.eq_2,@op_move,@op_assign,@op_pick,@op_alloc,@op_box,@op_build,@op_buildSlice,@op_load,@op_store,@op_binOp,@op_unOp,@op_convert,@op_makeSlice,@op_slice,@op_fieldAddr,@op_indexAddr,@op_index,@op_extract,@op_len,@op_append,@op_call,@skip_some,@moveW.eq_1,@srcOf.eq_1,@assignW.eq_1,@ev.eq_1,@ev.eq_2,@constV.eq_1,@constV.eq_2,@constV.eq_3,@constV.eq_4⟩
theorem am2 : type_of% @pull.eq_1 ∧ type_of% @pull.eq_2 ∧ type_of% @pulls.eq_1 ∧ type_of% @usedOf.eq_1 ∧ type_of% @usedOf.eq_2 ∧ type_of% @usedOf.eq_3 ∧ type_of% @look_put ∧ type_of% @look_upd ∧ type_of% @keys.eq_1 ∧ type_of% @keys.eq_2 ∧ type_of% @Am.look.eq_1 ∧ type_of% @Am.look.eq_2 ∧ type_of% @pu_undef ∧ type_of% @pu_int ∧ type_of% @pu_bool ∧ type_of% @pu_str ∧ type_of% @pu_sl ∧ type_of% @pu_agg ∧ type_of% @pu_arr ∧ type_of% @pu_tup ∧ type_of% @pu_box ∧ type_of% @pu_vref ∧ type_of% @pu_vagg ∧ type_of% @pu_vsub ∧ type_of% @kp_undef ∧ type_of% @kp_int ∧ type_of% @kp_bool ∧ type_of% @kp_str ∧ type_of% @kp_sl ∧ type_of% @kp_agg ∧ type_of% @kp_arr ∧ type_of% @kp_box ∧ type_of% @kp_vref ∧ type_of% @tidy.eq_1 ∧ type_of% @tidyGo.eq_1 ∧ type_of% @tidyGo.eq_2 ∧ type_of% @pureK_some ∧ type_of% @AV.target.eq_1 ∧ type_of% @AV.target.eq_2 ∧ type_of% @AV.target.eq_3 ∧ type_of% @AV.target.eq_4 ∧ type_of% @AV.target.eq_5 ∧ type_of% @plain.eq_3 ∧ type_of% @plain.eq_4 ∧ type_of% @plain.eq_5 ∧ type_of% @plain.eq_7 ∧ type_of% @plain.eq_8 ∧ type_of% @plain.eq_9 ∧ type_of% @plain.eq_10 ∧ type_of% @plain.eq_13 ∧ type_of% @plain.eq_14 ∧ type_of% @plain.eq_16 ∧ type_of% @needW_some ∧ type_of% @binA.eq_1 ∧ type_of% @binA.eq_2 ∧ type_of% @binA.eq_3 ∧ type_of% @binA.eq_4 ∧ type_of% @binA.eq_6 ∧ type_of% @eqAgg.eq_1 ∧ type_of% @eqSL.eq_1 ∧ type_of% @eqSL.eq_2 ∧ type_of% @eqS.eq_1 ∧ type_of% @avK.eq_2 ∧ type_of% @and_self ∧ type_of% @intOp.eq_1 ∧ type_of% @intOp.eq_2 ∧ type_of% @intOp.eq_4 ∧ type_of% @intOp.eq_5 ∧ type_of% @intOp.eq_6 ∧ type_of% @intOp.eq_7 ∧ type_of% @intOp.eq_8 ∧ type_of% @intOp.eq_9 ∧ type_of% @intOp.eq_10 ∧ type_of% @intOp.eq_11 ∧ type_of% @strOp.eq_1 ∧ type_of% @strOp.eq_2 ∧ type_of% @strOp.eq_3 ∧ type_of% @strOp.eq_4 ∧ type_of% @unA.eq_1 ∧ type_of% @lenW.eq_1:=⟨@pull.eq_1,@pull.eq_2,@pulls.eq_1,@usedOf.eq_1,@usedOf.eq_2,@usedOf.eq_3,@look_put,@look_upd,@keys.eq_1,@keys.eq_2,@Am.look.eq_1,@Am.look.eq_2,@pu_undef,@pu_int,@pu_bool,@pu_str,@pu_sl,@pu_agg,@pu_arr,@pu_tup,@pu_box,@pu_vref,@pu_vagg,@pu_vsub,@kp_undef,@kp_int,@kp_bool,@kp_str,@kp_sl,@kp_agg,@kp_arr,@kp_box,@kp_vref,@tidy.eq_1,@tidyGo.eq_1,@tidyGo.eq_2,@pureK_some,@AV.target.eq_1,@AV.target.eq_2,@AV.target.eq_3,@AV.target.eq_4,@AV.target.eq_5,@plain.eq_3,@plain.eq_4,@plain.eq_5,@plain.eq_7,@plain.eq_8,@plain.eq_9,@plain.eq_10,@plain.eq_13,@plain.eq_14,@plain.eq_16,@needW_some,@binA.eq_1,@binA.eq_2,@binA.eq_3,@binA.eq_4,@binA.eq_6,@eqAgg.eq_1,@eqSL.eq_1,@eqSL.eq_2,@eqS.eq_1,@avK.eq_2,@and_self,@intOp.eq_1,@intOp.eq_2,@intOp.eq_4,@intOp.eq_5,@intOp.eq_6,@intOp.eq_7,@intOp.eq_8,@intOp.eq_9,@intOp.eq_10,@intOp.eq_11,@strOp.eq_1,@strOp.eq_2,@strOp.eq_3,@strOp.eq_4,@unA.eq_1,@lenW.eq_1⟩
theorem am3 : type_of% @loadW.eq_1 ∧ type_of% @indexW.eq_1 ∧ type_of% @indexAddrW.eq_1 ∧ type_of% @fieldAddrW.eq_1 ∧ type_of% @sliceStrW.eq_1 ∧ type_of% @sliceStrW.eq_2 ∧ type_of% @pickW.eq_1 ∧ type_of% @storeW.eq_1 ∧ type_of% @convertW_cvt ∧ type_of% @cvt_14 ∧ type_of% @cvt_55 ∧ type_of% @convW.eq_1 ∧ type_of% @bytesStrW.eq_1 ∧ type_of% @getAt.eq_1 ∧ type_of% @getAt.eq_2 ∧ type_of% @getAt.eq_3 ∧ type_of% @getAt.eq_4 ∧ type_of% @getAt.eq_5 ∧ type_of% @setAt.eq_1 ∧ type_of% @setAt.eq_2 ∧ type_of% @setAt.eq_3 ∧ type_of% @setAt.eq_4 ∧ type_of% @setAt.eq_5 ∧ type_of% @loaded.eq_3 ∧ type_of% @AV.hdr.eq_1 ∧ type_of% @AV.hdr.eq_2 ∧ type_of% @AV.hdr.eq_4 ∧ type_of% @AV.isAgg.eq_1 ∧ type_of% @AV.isAgg.eq_2 ∧ type_of% @AV.isAgg.eq_3 ∧ type_of% @AV.stor.eq_7 ∧ type_of% @ncells.eq_1 ∧ type_of% @ncells.eq_2 ∧ type_of% @ncells.eq_3 ∧ type_of% @List.foldl_cons.{0,0} ∧ type_of% @List.foldl_nil.{0,0} ∧ type_of% @List.mem_cons.{0} ∧ type_of% @List.not_mem_nil.{0} ∧ type_of% @List.contains_cons.{0} ∧ type_of% @List.contains_nil.{0} ∧ type_of% @or_false ∧ type_of% @false_or ∧ type_of% @or_true ∧ type_of% @true_or ∧ type_of% @or_self ∧ type_of% @and_true ∧ type_of% @true_and ∧ type_of% @and_false ∧ type_of% @false_and ∧ type_of% @ne_eq.{1} ∧ type_of% @not_false_eq_true ∧ type_of% @Option.some.injEq.{0} ∧ type_of% @Bool.or_true ∧ type_of% @Bool.false_and ∧ type_of% @Bool.and_false ∧ type_of% @Bool.and_self ∧ type_of% @Bool.or_false ∧ type_of% @Bool.true_or ∧ type_of% @Bool.false_or ∧ type_of% @Bool.not_true ∧ type_of% @Bool.not_false ∧ type_of% @beq_self_eq_true.{0} ∧ type_of% @List.getElem?_cons_zero.{0} ∧ type_of% @List.getElem?_cons_succ.{0} ∧ type_of% @List.toList_toArray.{0} ∧ type_of% @decide_true ∧ type_of% @decide_false ∧ type_of% @Bool.false_eq_true ∧ type_of% @Nat.zero_ne_one ∧ type_of% @Nat.one_ne_zero ∧ type_of% @List.length_nil.{0} ∧ type_of% @List.map_cons.{0,0} ∧ type_of% @List.map_nil.{0,0} ∧ type_of% @isU8.eq_1 ∧ type_of% @szOf_ti ∧ type_of% @List.nil_append.{0} ∧ type_of% @List.cons_append.{0} ∧ type_of% @Operand.tmp.injEq ∧ type_of% @Int.toNat_natCast ∧ type_of% @Option.map_some.{0,0}:=⟨@loadW.eq_1,@indexW.eq_1,@indexAddrW.eq_1,@fieldAddrW.eq_1,@sliceStrW.eq_1,@sliceStrW.eq_2,@pickW.eq_1,@storeW.eq_1,@convertW_cvt,@cvt_14,@cvt_55,@convW.eq_1,@bytesStrW.eq_1,@getAt.eq_1,@getAt.eq_2,@getAt.eq_3,@getAt.eq_4,@getAt.eq_5,@setAt.eq_1,@setAt.eq_2,@setAt.eq_3,@setAt.eq_4,@setAt.eq_5,@loaded.eq_3,@AV.hdr.eq_1,@AV.hdr.eq_2,@AV.hdr.eq_4,@AV.isAgg.eq_1,@AV.isAgg.eq_2,@AV.isAgg.eq_3,@AV.stor.eq_7,@ncells.eq_1,@ncells.eq_2,@ncells.eq_3,@List.foldl_cons.{0,0},@List.foldl_nil.{0,0},@List.mem_cons.{0},@List.not_mem_nil.{0},@List.contains_cons.{0},@List.contains_nil.{0},@or_false,@false_or,@or_true,@true_or,@or_self,@and_true,@true_and,@and_false,@false_and,@ne_eq.{1},@not_false_eq_true,@Option.some.injEq.{0},@Bool.or_true,@Bool.false_and,@Bool.and_false,@Bool.and_self,@Bool.or_false,@Bool.true_or,@Bool.false_or,@Bool.not_true,@Bool.not_false,@beq_self_eq_true.{0},@List.getElem?_cons_zero.{0},@List.getElem?_cons_succ.{0},@List.toList_toArray.{0},@decide_true,@decide_false,@Bool.false_eq_true,@Nat.zero_ne_one,@Nat.one_ne_zero,@List.length_nil.{0},@List.map_cons.{0,0},@List.map_nil.{0,0},@isU8.eq_1,@szOf_ti,@List.nil_append.{0},@List.cons_append.{0},@Operand.tmp.injEq,@Int.toNat_natCast,@Option.map_some.{0,0}⟩
theorem am4 : type_of% @round_exit ∧ type_of% @round_ret ∧ type_of% @look_setP ∧ type_of% @keys_wipe ∧ type_of% @kP_undef ∧ type_of% @kP_int ∧ type_of% @kP_bool ∧ type_of% @kP_str ∧ type_of% @kP_sl ∧ type_of% @kP_agg ∧ type_of% @kP_arr ∧ type_of% @kP_box ∧ type_of% @kP_vref ∧ type_of% @preB_cn ∧ type_of% @op_callX ∧ type_of% @op_copyX ∧ type_of% @newsOf_some ∧ type_of% @homeOf.eq_1 ∧ type_of% @argsM.eq_1 ∧ type_of% @argsM.eq_2 ∧ type_of% @isVal.eq_1 ∧ type_of% @lends.eq_1 ∧ type_of% @othersVal.eq_1 ∧ type_of% @othersVal.eq_2 ∧ type_of% @copyW.eq_1 ∧ type_of% @lentOf.eq_1 ∧ type_of% @closed.eq_1 ∧ type_of% @closed.eq_3 ∧ type_of% @closed.eq_4 ∧ type_of% @closed.eq_5 ∧ type_of% @closed.eq_6 ∧ type_of% @closed.eq_7 ∧ type_of% @closed.eq_8 ∧ type_of% @closed.eq_9 ∧ type_of% @closedL.eq_1 ∧ type_of% @closedL.eq_2 ∧ type_of% @argsOf.eq_1 ∧ type_of% @argsOf.eq_2 ∧ type_of% @argOf.eq_1 ∧ type_of% @frzs.eq_1 ∧ type_of% @frzs.eq_2 ∧ type_of% @frz.eq_1 ∧ type_of% @frz.eq_2 ∧ type_of% @ownP.eq_1 ∧ type_of% @ownP.eq_2 ∧ type_of% @ownP.eq_4 ∧ type_of% @ownP.eq_5 ∧ type_of% @erase.eq_1 ∧ type_of% @erase.eq_2 ∧ type_of% @erase.eq_7 ∧ type_of% @eraseL.eq_1 ∧ type_of% @eraseL.eq_2 ∧ type_of% @dead.eq_1 ∧ type_of% @dead.eq_2 ∧ type_of% @dead.eq_7 ∧ type_of% @deadL.eq_1 ∧ type_of% @deadL.eq_2 ∧ type_of% @retW.eq_1 ∧ type_of% @outsW.eq_1 ∧ type_of% @Le.eq_1 ∧ type_of% @leGo.eq_1 ∧ type_of% @leGo.eq_2 ∧ type_of% @aimIn.eq_1 ∧ type_of% @aimIn.eq_5 ∧ type_of% @List.drop_zero.{0} ∧ type_of% @List.drop_succ_cons.{0} ∧ type_of% @List.append_nil.{0} ∧ type_of% @List.length_append.{0} ∧ type_of% @List.nodup_nil.{0} ∧ type_of% @List.nodup_cons.{0} ∧ type_of% @appW.eq_1 ∧ type_of% @buildW.eq_1 ∧ type_of% @buildAW.eq_1 ∧ type_of% @buildSW.eq_1 ∧ type_of% @buildSliceW.eq_1 ∧ type_of% @partsFit.eq_1 ∧ type_of% @partsFit.eq_2 ∧ type_of% @elemsFit.eq_1 ∧ type_of% @elemsFit.eq_2 ∧ type_of% @setParts.eq_1:=⟨@round_exit,@round_ret,@look_setP,@keys_wipe,@kP_undef,@kP_int,@kP_bool,@kP_str,@kP_sl,@kP_agg,@kP_arr,@kP_box,@kP_vref,@preB_cn,@op_callX,@op_copyX,@newsOf_some,@homeOf.eq_1,@argsM.eq_1,@argsM.eq_2,@isVal.eq_1,@lends.eq_1,@othersVal.eq_1,@othersVal.eq_2,@copyW.eq_1,@lentOf.eq_1,@closed.eq_1,@closed.eq_3,@closed.eq_4,@closed.eq_5,@closed.eq_6,@closed.eq_7,@closed.eq_8,@closed.eq_9,@closedL.eq_1,@closedL.eq_2,@argsOf.eq_1,@argsOf.eq_2,@argOf.eq_1,@frzs.eq_1,@frzs.eq_2,@frz.eq_1,@frz.eq_2,@ownP.eq_1,@ownP.eq_2,@ownP.eq_4,@ownP.eq_5,@erase.eq_1,@erase.eq_2,@erase.eq_7,@eraseL.eq_1,@eraseL.eq_2,@dead.eq_1,@dead.eq_2,@dead.eq_7,@deadL.eq_1,@deadL.eq_2,@retW.eq_1,@outsW.eq_1,@Le.eq_1,@leGo.eq_1,@leGo.eq_2,@aimIn.eq_1,@aimIn.eq_5,@List.drop_zero.{0},@List.drop_succ_cons.{0},@List.append_nil.{0},@List.length_append.{0},@List.nodup_nil.{0},@List.nodup_cons.{0},@appW.eq_1,@buildW.eq_1,@buildAW.eq_1,@buildSW.eq_1,@buildSliceW.eq_1,@partsFit.eq_1,@partsFit.eq_2,@elemsFit.eq_1,@elemsFit.eq_2,@setParts.eq_1⟩
theorem am5 : type_of% @setParts.eq_2 ∧ type_of% @appendW.eq_1 ∧ type_of% @appendMW.eq_1 ∧ type_of% @appFits.eq_1 ∧ type_of% @List.replicate_succ.{0} ∧ type_of% @List.replicate_zero.{0} ∧ type_of% @retC.eq_1 ∧ type_of% @wrap_i64 ∧ type_of% @wrap_u8 ∧ type_of% @ilt_t ∧ type_of% @ilt_f ∧ type_of% @ile_t ∧ type_of% @ile_f ∧ type_of% @nlt_t ∧ type_of% @nlt_f ∧ type_of% @nle_t ∧ type_of% @ibeq_t ∧ type_of% @ibeq_f ∧ type_of% @ibne_t ∧ type_of% @ibne_f ∧ type_of% @getD_map' ∧ type_of% @get_map' ∧ type_of% @gt_iff_lt.{0} ∧ type_of% @ge_iff_le.{0} ∧ type_of% @List.length_map.{0,0} ∧ type_of% @Int.natCast_add ∧ type_of% @Int.natCast_one ∧ type_of% @Int.natCast_zero ∧ type_of% @Nat.sub_self ∧ type_of% @List.take_length.{0} ∧ type_of% @Nat.sub_zero ∧ type_of% @Nat.add_zero ∧ type_of% @Nat.zero_add ∧ type_of% @Int.zero_add ∧ type_of% @Int.sub_zero ∧ type_of% @noAim.eq_1 ∧ type_of% @noAim.eq_2 ∧ type_of% @leW_t ∧ type_of% @leW_f ∧ type_of% @leV_rfl ∧ type_of% @leL_rfl ∧ type_of% @leV_int ∧ type_of% @leV_bool ∧ type_of% @leV_str ∧ type_of% @leV_sl ∧ type_of% @leL_cons ∧ type_of% @argsOk_some ∧ type_of% @bne_self_eq_false.{0} ∧ type_of% @bOk.eq_1 ∧ type_of% @mOk.eq_1 ∧ type_of% @notTup.eq_2 ∧ type_of% @valL.eq_1 ∧ type_of% @valL.eq_2 ∧ type_of% @lw_nil ∧ type_of% @lw_move ∧ type_of% @lw_store ∧ type_of% @lS_eq ∧ type_of% @la_nil ∧ type_of% @Nat.one_mul ∧ type_of% @Nat.mul_one ∧ type_of% @lw_assign ∧ type_of% @dk_nil ∧ type_of% @dk_none ∧ type_of% @oa_some ∧ type_of% @oa_none ∧ type_of% @toNat_0 ∧ type_of% @toNat_1 ∧ type_of% @chk_convert ∧ type_of% @chkA1_t ∧ type_of% @kk_14 ∧ type_of% @kk_55 ∧ type_of% @mv_int ∧ type_of% @mv_bool ∧ type_of% @mv_str ∧ type_of% @mv_sl ∧ type_of% @mv_tup ∧ type_of% @vOk.eq_1 ∧ type_of% @lw_append ∧ type_of% @lEnd_eq ∧ type_of% @mx_nil:=⟨@setParts.eq_2,@appendW.eq_1,@appendMW.eq_1,@appFits.eq_1,@List.replicate_succ.{0},@List.replicate_zero.{0},@retC.eq_1,@wrap_i64,@wrap_u8,@ilt_t,@ilt_f,@ile_t,@ile_f,@nlt_t,@nlt_f,@nle_t,@ibeq_t,@ibeq_f,@ibne_t,@ibne_f,@getD_map',@get_map',@gt_iff_lt.{0},@ge_iff_le.{0},@List.length_map.{0,0},@Int.natCast_add,@Int.natCast_one,@Int.natCast_zero,@Nat.sub_self,@List.take_length.{0},@Nat.sub_zero,@Nat.add_zero,@Nat.zero_add,@Int.zero_add,@Int.sub_zero,@noAim.eq_1,@noAim.eq_2,@leW_t,@leW_f,@leV_rfl,@leL_rfl,@leV_int,@leV_bool,@leV_str,@leV_sl,@leL_cons,@argsOk_some,@bne_self_eq_false.{0},@bOk.eq_1,@mOk.eq_1,@notTup.eq_2,@valL.eq_1,@valL.eq_2,@lw_nil,@lw_move,@lw_store,@lS_eq,@la_nil,@Nat.one_mul,@Nat.mul_one,@lw_assign,@dk_nil,@dk_none,@oa_some,@oa_none,@toNat_0,@toNat_1,@chk_convert,@chkA1_t,@kk_14,@kk_55,@mv_int,@mv_bool,@mv_str,@mv_sl,@mv_tup,@vOk.eq_1,@lw_append,@lEnd_eq,@mx_nil⟩
theorem am6 : type_of% @mx_some ∧ type_of% @mx_call ∧ type_of% @gOk.eq_1 ∧ type_of% @Option.isSome_some.{0} ∧ type_of% @subOf.eq_1 ∧ type_of% @MCut.eq_1 ∧ type_of% @mcut_1 ∧ type_of% @mx_cut ∧ type_of% @lw_extract ∧ type_of% @kP_mp ∧ type_of% @pu_mp ∧ type_of% @kp_mp ∧ type_of% @mv_mp ∧ type_of% @op_makeMap ∧ type_of% @op_lookup ∧ type_of% @op_mapUpdate ∧ type_of% @makeMapW.eq_1 ∧ type_of% @moveM.eq_1 ∧ type_of% @mapOf.eq_1 ∧ type_of% @mapKey.eq_1 ∧ type_of% @mapKey.eq_2:=⟨@mx_some,@mx_call,@gOk.eq_1,@Option.isSome_some.{0},@subOf.eq_1,@MCut.eq_1,@mcut_1,@mx_cut,@lw_extract,@kP_mp,@pu_mp,@kp_mp,@mv_mp,@op_makeMap,@op_lookup,@op_mapUpdate,@makeMapW.eq_1,@moveM.eq_1,@mapOf.eq_1,@mapKey.eq_1,@mapKey.eq_2⟩
end Go.Proofs.YtpffgegfjpdncaaGreatDoor.Am
namespace Go.Proofs.YtpffgegfjpdncaaGreatDoor.Am
open Go.RowKit AV
theorem Zo {F P Q : Prop} (f : F) (q : Q) (e : F → Q → P:=by intro f q; simp -implicitDefEqProofs (maxSteps:=1000000) (disch:=first | (intros; contradiction) | omega) only [am0,am1,am2,am3,am4,am5,am6,Nat.reduceSub,↓reduceIte,reduceCtorEq,Nat.reduceEqDiff,Nat.reduceBEq,Nat.reduceAdd,Nat.reduceLT,Nat.reduceBNe,Nat.reduceMul,↓reduceIte,f]; exact q) : P:=e f q
theorem Zc {F P : Prop} (f : F) (e : F → P:=by intro f; simp -implicitDefEqProofs (maxSteps:=1000000) (disch:=first | (intros; contradiction) | omega) only [am0,am1,am2,am3,am4,am5,am6,Nat.reduceSub,↓reduceIte,reduceCtorEq,Nat.reduceEqDiff,Nat.reduceBEq,Nat.reduceAdd,Nat.reduceLT,Nat.reduceBNe,Nat.reduceMul,↓reduceIte,f]) : P:=e f
theorem Z2 {A B : Prop} (a : A) (b : B) : A ∧ B:=⟨a,b⟩
theorem Z3 {A B C : Prop} (a : A) (b : B) (c : C) : A ∧ B ∧ C:=⟨a,b,c⟩
theorem Z4 {A B C D : Prop} (a : A) (b : B) (c : C) (d : D) : A ∧ B ∧ C ∧ D:=⟨a,b,c,d⟩
theorem Z5 {A B C D E : Prop} (a : A) (b : B) (c : C) (d : D) (e : E) : A ∧ B ∧ C ∧ D ∧ E:=⟨a,b,c,d,e⟩
theorem Z6 {A B C D E G : Prop} (a : A) (b : B) (c : C) (d : D) (e : E) (g : G) : A ∧ B ∧ C ∧ D ∧ E ∧ G:=⟨a,b,c,d,e,g⟩
theorem Z7 {A B C D E G H : Prop} (a : A) (b : B) (c : C) (d : D) (e : E) (g : G) (h : H) : A ∧ B ∧ C ∧ D ∧ E ∧ G ∧ H:=⟨a,b,c,d,e,g,h⟩
theorem Z8 {A B C D E G H I : Prop} (a : A) (b : B) (c : C) (d : D) (e : E) (g : G) (h : H) (i : I) : A ∧ B ∧ C ∧ D ∧ E ∧ G ∧ H ∧ I:=⟨a,b,c,d,e,g,h,i⟩
theorem Z9 {A B C D E G H I J : Prop} (a : A) (b : B) (c : C) (d : D) (e : E) (g : G) (h : H) (i : I) (j : J) : A ∧ B ∧ C ∧ D ∧ E ∧ G ∧ H ∧ I ∧ J:=⟨a,b,c,d,e,g,h,i,j⟩
theorem Z10 {A B C D E G H I J K : Prop} (a : A) (b : B) (c : C) (d : D) (e : E) (g : G) (h : H) (i : I) (j : J) (k : K) : A ∧ B ∧ C ∧ D ∧ E ∧ G ∧ H ∧ I ∧ J ∧ K:=⟨a,b,c,d,e,g,h,i,j,k⟩
theorem Z11 {A B C D E G H I J K L : Prop} (a : A) (b : B) (c : C) (d : D) (e : E) (g : G) (h : H) (i : I) (j : J) (k : K) (l : L) : A ∧ B ∧ C ∧ D ∧ E ∧ G ∧ H ∧ I ∧ J ∧ K ∧ L:=⟨a,b,c,d,e,g,h,i,j,k,l⟩
theorem Z12 {A B C D E G H I J K L M : Prop} (a : A) (b : B) (c : C) (d : D) (e : E) (g : G) (h : H) (i : I) (j : J) (k : K) (l : L) (m : M) : A ∧ B ∧ C ∧ D ∧ E ∧ G ∧ H ∧ I ∧ J ∧ K ∧ L ∧ M:=⟨a,b,c,d,e,g,h,i,j,k,l,m⟩
theorem Z13 {A B C D E G H I J K L M N : Prop} (a : A) (b : B) (c : C) (d : D) (e : E) (g : G) (h : H) (i : I) (j : J) (k : K) (l : L) (m : M) (n : N) : A ∧ B ∧ C ∧ D ∧ E ∧ G ∧ H ∧ I ∧ J ∧ K ∧ L ∧ M ∧ N:=⟨a,b,c,d,e,g,h,i,j,k,l,m,n⟩
theorem Z14 {A B C D E G H I J K L M N O : Prop} (a : A) (b : B) (c : C) (d : D) (e : E) (g : G) (h : H) (i : I) (j : J) (k : K) (l : L) (m : M) (n : N) (o : O) : A ∧ B ∧ C ∧ D ∧ E ∧ G ∧ H ∧ I ∧ J ∧ K ∧ L ∧ M ∧ N ∧ O:=⟨a,b,c,d,e,g,h,i,j,k,l,m,n,o⟩
theorem Z15 {A B C D E G H I J K L M N O Q : Prop} (a : A) (b : B) (c : C) (d : D) (e : E) (g : G) (h : H) (i : I) (j : J) (k : K) (l : L) (m : M) (n : N) (o : O) (q : Q) : A ∧ B ∧ C ∧ D ∧ E ∧ G ∧ H ∧ I ∧ J ∧ K ∧ L ∧ M ∧ N ∧ O ∧ Q:=⟨a,b,c,d,e,g,h,i,j,k,l,m,n,o,q⟩
theorem fits_take {P : Program} {f : FuncId} {args : List AV} {res : AV} (h : Fits P f (eraseL args) res []) : Fits P f args res []:=by
 refine ⟨h.1,fun w vs ok O hok r hly => ?_⟩
 have:=h.2 w vs ok (fun _ => False) (fun k hk => hok k (.inr (hk.resolve_left id))) (repWs_erase args r (fun k hk => ⟨hk.1,id⟩) (fun k hk => ⟨hok k (.inl hk),id⟩)) (hly.sub fun _ x => x.elim)
 refine Calls.mono this ?_
 rintro e w' ⟨v,Or,Oo,h1,h2,h3,h4,h5,h6,h7,h8,h9,h10⟩
 exact ⟨v,Or,Oo,h1,h2,h3,h4,h5,fun k hk _ => h6 k hk id,h7,h8,h9,fun k hk => (h10 k hk).elim (fun x => x.elim) .inr⟩
theorem fits_take2 {P : Program} {f : FuncId} {a b b' : AV} {res : AV} (h : Fits P f [a,b'] res []) (e : erase b = b') : Fits P f [a,b] res []:=by
 subst e
 refine ⟨h.1,fun w vs ok O hok r hly => ?_⟩
 simp only [RepWs] at r
 obtain ⟨v1,vs1,O1,O2,rfl,hO,hd,ra,v2,vs2,O3,O4,rfl,hO2,hd2,rb,rfl,he⟩:=r
 have h3 : ∀ k,O3 k → O k ∧ ¬ O1 k:=fun k hk => ⟨(hO k).2 (.inr ((hO2 k).2 (.inl hk))),fun h1 => hd k h1 ((hO2 k).2 (.inl hk))⟩
 have:=h.2 w (v1 :: [v2]) ok O1 (fun k hk => hok k (hk.imp (fun x => (hO k).2 (.inl x)) id)) (by
  simp only [RepWs]
  refine ⟨v1,[v2],O1,fun _ => False,rfl,by simp,by simp,repW_mono a ra ⟨fun k hk _ => ⟨⟨hk.1,fun x => hk.2 ((hO k).2 (.inl x))⟩,rfl⟩,fun _ _ => rfl⟩,v2,[],fun _ => False,fun _ => False,rfl,by simp,by simp,?_,rfl,emp_false⟩
  exact repW_erase b rb (fun k hk => ⟨hk.1,fun x => hk.2 ((hO k).2 (.inl x))⟩) (fun k hk => ⟨hok k (.inl (h3 k hk).1),(h3 k hk).2⟩)) (hly.sub fun k x => (hO k).2 (.inl x))
 refine Calls.mono this ?_
 rintro e w' ⟨v,Or,Oo,k1,k2,k3,k4,k5,k6,k7,k8,k9,k10⟩
 exact ⟨v,Or,Oo,k1,k2,k3,k4,k5,fun k hk hn => k6 k hk (fun x => hn ((hO k).2 (.inl x))),k7,k8,k9,fun k hk => (k10 k hk).imp (fun x => (hO k).2 (.inl x)) id⟩
theorem Zi : ∀ (c : Prop) (i : Decidable c),(@ite Prop c i True True) = True:=fun c i => by split <;> rfl
theorem LLmapnil : type_of% @List.map_nil.{0,0}:=@List.map_nil.{0,0}
theorem LLmapcon : type_of% @List.map_cons.{0,0}:=@List.map_cons.{0,0}
theorem LLmapapp : type_of% @List.map_append.{0,0}:=@List.map_append.{0,0}
theorem LLappnil : type_of% @List.append_nil.{0}:=@List.append_nil.{0}
theorem LLtaklen : type_of% @List.take_length.{0}:=@List.take_length.{0}
theorem LLfilnil : type_of% @List.filter_nil.{0}:=@List.filter_nil.{0}
theorem LLlenrep : type_of% @List.length_replicate.{0}:=@List.length_replicate.{0}
theorem LLlennil : type_of% @List.length_nil.{0}:=@List.length_nil.{0}
theorem LLfolnil : type_of% @List.foldl_nil.{0,0}:=@List.foldl_nil.{0,0}
theorem LLflanil : type_of% @List.flatMap_nil.{0,0}:=@List.flatMap_nil.{0,0}
theorem LLlendro : type_of% @List.length_drop.{0}:=@List.length_drop.{0}
theorem LLlentak : type_of% @List.length_take.{0}:=@List.length_take.{0}
theorem LLtakzer : type_of% @List.take_zero.{0}:=@List.take_zero.{0}
theorem LOmapsom : type_of% @Option.map_some.{0,0}:=@Option.map_some.{0,0}
theorem LLdrolen : type_of% @List.drop_length.{0}:=@List.drop_length.{0}
end Go.Proofs.YtpffgegfjpdncaaGreatDoor.Am
