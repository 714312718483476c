/- What the operations of a Go program bring about on values without memory, proved once for any program: part 2. No conditions beyond those at each theorem. -/
import Derived.Test.YtpffgegfjpdncaaGreatDoorAskShortA1
import Derived.Laws.BytesString
import Derived.Lib.LaidTab
import Derived.Lib.ItoaNum
import Derived.Orders
namespace Go.Proofs.YtpffgegfjpdncaaGreatDoor.Am
open Go.RowKit AV
set_option linter.unusedVariables false
theorem run_mapL {P : Program} {α β : Type} (f : α → Sem β) (g : α → β) (w : World) : ∀ xs : List α,(∀ x ∈ xs,(f x).run P w = .ok (g x) w) → (xs.mapM f).run P w = .ok (xs.map g) w
 | [],_ => by simp
 | x :: xs,h => by
  have h1:=h x (List.mem_cons_self ..)
  have h2:=run_mapL f g w xs (fun y hy => h y (List.mem_cons_of_mem _ hy))
  simp [List.mapM_cons,h1,h2]
theorem run_mapA {P : Program} {α β : Type} (f : α → Sem β) (g : α → β) (w : World) (xs : Array α) (h : ∀ x ∈ xs,(f x).run P w = .ok (g x) w) : (xs.mapM f).run P w = .ok (xs.map g) w:=by
 rw [Array.mapM_eq_mapM_toList]
 have:=run_mapL (P:=P) f g w xs.toList (fun x hx => h x (by simpa using hx))
 simp only [Sem.run_map,this,Result.andThen_ok]
 congr 1
 apply Array.toList_inj.1
 simp
section
variable {P : Program} {h0 : Array Obj} {ok O0 : Nat → Prop} {σ : St} {a : Act} {w : World} {Os : Nat → Nat → Prop}
def partsFit (σ : St) (fs : List AV) (fields : List (Nat × Nat × Option Bool)) : List (Nat × Operand) → Prop
 | [] => True
 | (i,x) :: r => (match fs[i]?,fields[i]? with
  | some f,some (off,sz,_) => off = ncellsL (fs.take i) ∧ sz = ncells f ∧ ncells (ev σ x) = ncells f ∧ (ev σ x).stor = true
  | _,_ => False) ∧ partsFit σ fs fields r
theorem partsFit_spec {fs : List AV} {fields : List (Nat × Nat × Option Bool)} : ∀ {ps : List (Nat × Operand)},partsFit σ fs fields ps → ∀ i x,(i,x) ∈ ps →
  ∃ f ag,fs[i]? = some f ∧ fields[i]? = some (ncellsL (fs.take i),ncells f,ag) ∧ ncells (ev σ x) = ncells f ∧ (ev σ x).stor = true
 | [],_,i,x,hm => by cases hm
 | (j,y) :: r,h,i,x,hm => by
  obtain ⟨h1,h2⟩:=h
  rcases List.mem_cons.1 hm with he | hm
  ·cases he
   split at h1
   ·rename_i f off sz ag e1 e2
    obtain ⟨rfl,rfl,h3,h4⟩:=h1
    exact ⟨f,ag,e1,e2,h3,h4⟩
   ·exact h1.elim
  ·exact partsFit_spec h2 i x hm
def buildAW (P : Program) (σ : St) (t : TypeId) (ps : List (Nat × Operand)) (d : Nat) (K : St → Prop) : Prop :=
 ps = [] ∧ (tinfo P t).zok = true ∧ 0 < (tinfo P t).esz ∧ (match (tinfo P t).zero with
 | .arr z xs => K (put σ d (.arr z xs) [])
 | _ => False)
def buildSW (P : Program) (σ : St) (t : TypeId) (ps : List (Nat × Operand)) (d : Nat) (K : St → Prop) : Prop :=
 let σ1:=pulls σ (ps.map (·.2))
 (tinfo P t).kind = 3 ∧ (tinfo P t).zok = true ∧ (tinfo P t).fields.all (fun f => decide (0 < f.2.1)) = true ∧ (usedOf σ1 (ps.map (·.2))).Nodup ∧
 (match (tinfo P t).zero with
 | .agg fs => partsFit σ1 fs (tinfo P t).fields ps ∧ K (put σ1 d (.agg (setParts fs (ps.map fun x => (x.1,ev σ1 x.2)))) (usedOf σ1 (ps.map (·.2))))
 | _ => False)
def buildW (P : Program) (σ : St) (t : TypeId) (ps : List (Nat × Operand)) (d : Nat) (K : St → Prop) : Prop :=
 if (tinfo P t).kind = 2 then buildAW P σ t ps d K else buildSW P σ t ps d K
theorem kind3 {t : TypeId} (h : (tinfo P t).kind = 3) : ∃ fs,P.underlying t = some (.struct fs) ∧ (tinfo P t).fields = fs.toList.map fun f => (f.offset,szOf P f.type,aggTy P f.type):=by
 unfold tinfo at h ⊢
 cases hu : P.underlying t with
 | none => simp [hu] at h
 | some d => cases d <;> simp_all
theorem zip_map_fst {α β γ : Type} (ps : List (α × β)) (f : β → γ) : (ps.map (·.1)).zip ((ps.map (·.2)).map f) = ps.map fun x => (x.1,f x.2):=by
 induction ps with
 | nil => rfl
 | cons p ps ih => simp only [List.map_cons,List.zip_cons_cons,ih]
theorem sim_buildA (R : Rel h0 ok O0 σ a.tmps w.heap Os) {ps : Array (Nat × Operand)} {t : TypeId} {d : Tmp} (hd : d < a.tmps.size) {K : St → Prop} (hk : (tinfo P t).kind = 2) (h : buildAW P σ t ps.toList d K) :
  EffOk P h0 ok O0 a w (do pure (.value (← Instr.build t (ps.map fun (i,x) => (i,a.eval x))))) (some d) K:=by
 obtain ⟨h1,h2,h3,h4⟩:=h
 obtain ⟨e,hu,he,_,_,_⟩:=kind2 hk
 rw [← he] at h3
 rw [(tinfo_base t).2.2.2.2] at h2
 rw [(tinfo_base t).2.2.2.1] at h4
 obtain ⟨i,z,hi,hz,hzs,hr⟩:=zok_rep h2 w.heap (Sh ok Os)
 split at h4
 ·rename_i sz xs hzf
  rw [hzf] at hr
  have ep : ps = #[]:=by rw [← Array.toArray_toList (xs:=ps),h1]
  subst ep
  have hO : ∀ k,(fun _ : Nat => False) k → (∃ s ∈ ([] : List Nat),Os s k) ∨ w.heap.size ≤ k:=fun _ hk => hk.elim
  have R':=R.result d (.arr sz xs) (.agg z.cells) [] w.heap (fun _ => False) hd (Nat.le_refl _) (fun _ _ _ => rfl) hO (by
   simp only [RepW]
   exact ⟨z.cells,rfl,repC_mono _ hr ⟨fun k hk hlt => ⟨sh_result R hO hlt hk,rfl⟩,fun _ _ => rfl⟩⟩) trivial
  refine ⟨_,.agg z.cells,w,_,_,?_,.inl rfl,h4,R',rfl,rfl,rfl⟩
  have hzv : (zeroValue t).run P w = .ok z w:=by simp [zeroValue,typeInfo,hi,hz]
  simp only [Instr.build,Sem.run_bind,hzv,Result.andThen_ok,run_under hu,run_size h3,Array.map_empty,Array.toList_empty,Instr.fill,Sem.run_pure]
 ·exact h4.elim
theorem sim_buildS (R : Rel h0 ok O0 σ a.tmps w.heap Os) {ps : Array (Nat × Operand)} (hx : ∀ p ∈ ps.toList,opndOk a.tmps.size p.2 = true) {t : TypeId} {d : Tmp} (hd : d < a.tmps.size) {K : St → Prop} (h : buildSW P σ t ps.toList d K) :
  EffOk P h0 ok O0 a w (do pure (.value (← Instr.build t (ps.map fun (i,x) => (i,a.eval x))))) (some d) K:=by
 obtain ⟨h1,h2,h3,h4,h5⟩:=h
 have hx' : ∀ x ∈ ps.toList.map (·.2),opndOk a.tmps.size x = true:=by
  intro x hm
  obtain ⟨p,hp,rfl⟩:=List.mem_map.1 hm
  exact hx p hp
 obtain ⟨Os1,R1⟩:=pulls_ok (ps.toList.map (·.2)) R hx'
 obtain ⟨O,g1,g2⟩:=gather R1 _ hx' h4
 obtain ⟨fl,hu,hfl⟩:=kind3 h1
 rw [(tinfo_base t).2.2.2.2] at h2
 rw [(tinfo_base t).2.2.2.1] at h5
 obtain ⟨i,z,hi,hz,hzs,hr⟩:=zok_rep h2 w.heap (Sh ok Os1)
 split at h5
 ·rename_i fs hzf
  obtain ⟨h5,h6⟩:=h5
  rw [hzf] at hr
  simp only [RepC] at hr
  have hspec:=partsFit_spec h5
  have hplace : ∀ i ∈ ps.toList.map (·.1),∃ f,fs[i]? = some f ∧ ((fl.map fun f => (f.offset,szOf P f.type))[i]?) = some (ncellsL (fs.take i),ncells f):=by
   intro i hm
   obtain ⟨p,hp,rfl⟩:=List.mem_map.1 hm
   obtain ⟨f,ag,e1,e2,_⟩:=hspec p.1 p.2 hp
   refine ⟨f,e1,?_⟩
   rw [hfl] at e2
   simp only [List.getElem?_map,Array.getElem?_toList] at e2
   cases hf : fl[p.1]? with
   | none => simp [hf] at e2
   | some q =>
    simp only [hf,Option.map_some,Option.some.injEq,Prod.mk.injEq] at e2
    simp [hf,e2.1,e2.2.1]
  obtain ⟨cells',e1,O',e2,e3⟩:=fill_rep (h:=w.heap) (S:=Sh ok Os1) (place:=fun i => (fl.map fun f => (f.offset,szOf P f.type))[i]?) (ps.toList.map (·.1)) ((ps.toList.map (·.2)).map (ev (pulls σ (ps.toList.map (·.2))))) ((ps.toList.map (·.2)).map a.eval) fs z.cells (fun _ => False) O
   (by simp) hr g1 (fun k _ h => h) (fun y hy => by
    obtain ⟨x,hm,rfl⟩:=List.mem_map.1 hy
    obtain ⟨p,hp,rfl⟩:=List.mem_map.1 hm
    obtain ⟨_,_,_,_,_,hst⟩:=hspec p.1 p.2 hp
    exact hst)
   (fun j i y hj hy => by
    simp only [List.getElem?_map] at hj hy
    cases hp : ps.toList[j]? with
    | none => simp [hp] at hj
    | some p =>
     simp only [hp,Option.map_some,Option.some.injEq] at hj hy
     subst hj; subst hy
     obtain ⟨f,ag,q1,q2,q3,q4⟩:=hspec p.1 p.2 (List.mem_of_getElem? hp)
     exact ⟨f,q1,q3⟩)
   hplace
  rw [zip_map_fst] at e1 e2
  have hO : ∀ k,O' k → (∃ s ∈ usedOf (pulls σ (ps.toList.map (·.2))) (ps.toList.map (·.2)),Os1 s k) ∨ w.heap.size ≤ k:=by
   intro k hk
   rcases e3 k hk with h | h
   ·exact h.elim
   ·exact .inl ((g2 k).1 h)
  have R':=R1.result d (.agg (setParts fs (ps.toList.map fun x => (x.1,ev (pulls σ (ps.toList.map (·.2))) x.2)))) (.agg cells') (usedOf (pulls σ (ps.toList.map (·.2))) (ps.toList.map (·.2))) w.heap O' hd (Nat.le_refl _) (fun _ _ _ => rfl) hO (by
   simp only [RepW]
   refine ⟨cells',rfl,?_⟩
   simp only [RepC]
   exact repL_mono _ e2 ⟨fun k hk hlt => ⟨sh_result R1 hO hlt hk,rfl⟩,fun _ _ => rfl⟩) trivial
  refine ⟨_,.agg cells',w,_,_,?_,.inl rfl,h6,R',rfl,rfl,rfl⟩
  have hsz : ∀ f ∈ fl,((do pure (f.offset,← sizeOf f.type) : Sem (Nat × Nat)).run P w = .ok (f.offset,szOf P f.type) w):=by
   intro f hf
   have : 0 < szOf P f.type:=by
    rw [List.all_eq_true] at h3
    have:=h3 (f.offset,szOf P f.type,aggTy P f.type) (by rw [hfl]; exact List.mem_map.2 ⟨f,by simpa using hf,rfl⟩)
    simpa using this
   simp [run_size this]
  have hm:=run_mapA (P:=P) (fun f : Field => (do pure (f.offset,← sizeOf f.type) : Sem (Nat × Nat))) (fun f => (f.offset,szOf P f.type)) w fl hsz
  have hps : (ps.map fun (x : Nat × Operand) => (x.1,a.eval x.2)).toList = ps.toList.map fun x => (x.1,a.eval x.2):=by simp
  have hzv : (zeroValue t).run P w = .ok z w:=by simp [zeroValue,typeInfo,hi,hz]
  simp only [Instr.build,Sem.run_bind,hzv,Result.andThen_ok,run_under hu,hm,hps,e1,Sem.run_pure]
 ·exact h5.elim
theorem sim_build (R : Rel h0 ok O0 σ a.tmps w.heap Os) {ps : Array (Nat × Operand)} (hx : ∀ p ∈ ps.toList,opndOk a.tmps.size p.2 = true) {t : TypeId} {d : Tmp} (hd : d < a.tmps.size) {K : St → Prop} (h : buildW P σ t ps.toList d K) :
  EffOk P h0 ok O0 a w (do pure (.value (← Instr.build t (ps.map fun (i,x) => (i,a.eval x))))) (some d) K:=by
 unfold buildW at h
 split at h
 ·rename_i hk; exact sim_buildA R hd hk h
 ·exact sim_buildS R hx hd h
end
end Go.Proofs.YtpffgegfjpdncaaGreatDoor.Am
namespace Go.Proofs.YtpffgegfjpdncaaGreatDoor.Am
open Go.RowKit AV
set_option linter.unusedVariables false
section
variable {P : Program} {h0 : Array Obj} {ok O0 : Nat → Prop} {σ : St} {a : Act} {w : World} {Os : Nat → Nat → Prop}
def elemsFit (σ : St) (n sz : Nat) : List (Nat × Operand) → Prop
 | [] => True
 | (i,x) :: r => (i < n ∧ ncells (ev σ x) = sz ∧ (ev σ x).stor = true) ∧ elemsFit σ n sz r
theorem elemsFit_spec {n sz : Nat} : ∀ {ps : List (Nat × Operand)},elemsFit σ n sz ps → ∀ i x,(i,x) ∈ ps → i < n ∧ ncells (ev σ x) = sz ∧ (ev σ x).stor = true
 | [],_,i,x,hm => by cases hm
 | (j,y) :: r,h,i,x,hm => by
  rcases List.mem_cons.1 hm with he | hm
  ·cases he; exact h.1
  ·exact elemsFit_spec h.2 i x hm
def buildSliceW (P : Program) (σ : St) (t : TypeId) (n : Nat) (ps : List (Nat × Operand)) (d : Nat) (K : St → Prop) : Prop :=
 let σ1:=pulls σ (ps.map (·.2))
 (tinfo P t).kind = 1 ∧ (tinfo P t).ezok = true ∧ 0 < (tinfo P t).esz ∧ n * (tinfo P t).esz ≤ 16777216 ∧ (usedOf σ1 (ps.map (·.2))).Nodup ∧ elemsFit σ1 n (tinfo P t).esz ps ∧
  K (put σ1 d (.sl true (tinfo P t).esz (setParts (List.replicate n (tinfo P t).ezero) (ps.map fun x => (x.1,ev σ1 x.2)))) (usedOf σ1 (ps.map (·.2))))
theorem setParts_len : ∀ (fs : List AV) (ps : List (Nat × AV)),(setParts fs ps).length = fs.length
 | fs,[] => rfl
 | fs,(i,y) :: r => by simp only [setParts]; rw [setParts_len]; simp
theorem setParts_uni {sz : Nat} : ∀ (fs : List AV) (ps : List (Nat × AV)),(∀ x ∈ fs,x.ncells = sz) → (∀ i y,(i,y) ∈ ps → ncells y = sz) → ∀ x ∈ setParts fs ps,x.ncells = sz
 | fs,[],h,_ => h
 | fs,(i,y) :: r,h,hp => by
  simp only [setParts]
  refine setParts_uni _ r ?_ (fun j z hz => hp j z (List.mem_cons_of_mem _ hz))
  intro x hx
  rcases List.mem_or_eq_of_mem_set hx with hx | rfl
  ·exact h x hx
  ·exact hp i x (List.mem_cons_self ..)
theorem sim_buildSlice (R : Rel h0 ok O0 σ a.tmps w.heap Os) {ps : Array (Nat × Operand)} (hx : ∀ p ∈ ps.toList,opndOk a.tmps.size p.2 = true) {t : TypeId} {n : Nat} {d : Tmp} (hd : d < a.tmps.size) {K : St → Prop} (h : buildSliceW P σ t n ps.toList d K) :
  EffOk P h0 ok O0 a w (do pure (.value (← Instr.buildSlice t n (ps.map fun (i,x) => (i,a.eval x))))) (some d) K:=by
 obtain ⟨h1,h2,h3,hlim,h4,h5,h6⟩:=h
 have hx' : ∀ x ∈ ps.toList.map (·.2),opndOk a.tmps.size x = true:=by
  intro x hm
  obtain ⟨p,hp,rfl⟩:=List.mem_map.1 hm
  exact hx p hp
 obtain ⟨Os1,R1⟩:=pulls_ok (ps.toList.map (·.2)) R hx'
 obtain ⟨O,g1,g2⟩:=gather R1 _ hx' h4
 obtain ⟨e,hu,hs,hb,_,hz0,hzk⟩:=kind1 h1
 rw [hzk] at h2
 rw [hz0] at h6
 obtain ⟨i,z,hi,hz,hzs,hr⟩:=zok_rep h2 w.heap (Sh ok Os1)
 have hisz : i.size = (tinfo P t).esz:=by rw [← hs]; simp [szOf,hi]
 have hzl:=repC_len _ hr
 have hnc : ncells (zeroA P 12 e) = (tinfo P t).esz:=by rw [← hzl,← hisz,← hzs]; simp
 have hml : (madeCells z.cells (n * i.size)).toList = (List.replicate n z.cells.toList).flatten:=by rw [← hzs]; exact made_list _ _
 have hrep:=repL_replicate hr n
 rw [← hml] at hrep
 have hspec:=elemsFit_spec h5
 have hplace : ∀ i' ∈ ps.toList.map (·.1),∃ f,(List.replicate n (zeroA P 12 e))[i']? = some f ∧ some (i' * szOf P e,szOf P e) = some (ncellsL ((List.replicate n (zeroA P 12 e)).take i'),ncells f):=by
  intro i' hm
  obtain ⟨p,hp,rfl⟩:=List.mem_map.1 hm
  obtain ⟨e1,_,_⟩:=hspec p.1 p.2 hp
  refine ⟨zeroA P 12 e,by simp [e1],?_⟩
  rw [uni_take (sz:=(tinfo P t).esz) (fun x hx => by rw [List.eq_of_mem_replicate hx]; exact hnc) (by simp; omega),hnc,hs]
 obtain ⟨cells',e1,O',e2,e3⟩:=fill_rep (h:=w.heap) (S:=Sh ok Os1) (place:=fun i' => some (i' * szOf P e,szOf P e)) (ps.toList.map (·.1)) ((ps.toList.map (·.2)).map (ev (pulls σ (ps.toList.map (·.2))))) ((ps.toList.map (·.2)).map a.eval) (List.replicate n (zeroA P 12 e)) (madeCells z.cells (n * i.size)) (fun _ => False) O
  (by simp) hrep g1 (fun k _ h => h) (fun y hy => by
   obtain ⟨x,hm,rfl⟩:=List.mem_map.1 hy
   obtain ⟨p,hp,rfl⟩:=List.mem_map.1 hm
   exact (hspec p.1 p.2 hp).2.2)
  (fun j i' y hj hy => by
   simp only [List.getElem?_map] at hj hy
   cases hp : ps.toList[j]? with
   | none => simp [hp] at hj
   | some p =>
    simp only [hp,Option.map_some,Option.some.injEq] at hj hy
    subst hj; subst hy
    obtain ⟨q1,q2,q3⟩:=hspec p.1 p.2 (List.mem_of_getElem? hp)
    exact ⟨zeroA P 12 e,by simp [q1],by rw [q2,hnc]⟩)
  hplace
 rw [zip_map_fst] at e1 e2
 generalize hfs : setParts (List.replicate n (zeroA P 12 e)) (ps.toList.map fun x => (x.1,ev (pulls σ (ps.toList.map (·.2))) x.2)) = fs at *
 have hfl : fs.length = n:=by rw [← hfs,setParts_len,List.length_replicate]
 have huni : ∀ x ∈ fs,x.ncells = (tinfo P t).esz:=by
  rw [← hfs]
  refine setParts_uni _ _ (fun x hx => by rw [List.eq_of_mem_replicate hx]; exact hnc) ?_
  intro i' y hm
  obtain ⟨p,hp,he⟩:=List.mem_map.1 hm
  cases he
  exact (hspec p.1 p.2 hp).2.1
 have hcl:=repL_len _ e2
 rw [len_of_uni huni,hfl,Array.length_toList,Nat.mul_comm] at hcl
 have hO : ∀ k,(k = w.heap.size ∨ O' k) → (∃ s ∈ usedOf (pulls σ (ps.toList.map (·.2))) (ps.toList.map (·.2)),Os1 s k) ∨ w.heap.size ≤ k:=by
  rintro k (rfl | hk)
  ·exact .inr (Nat.le_refl _)
  ·rcases e3 k hk with h | h
   ·exact h.elim
   ·exact .inl ((g2 k).1 h)
 have hown:=rep_own (h:=w.heap.push (.cells cells' e)) (S:=Sh ok (ownR Os1 d (fun k => k = w.heap.size ∨ O' k) (usedOf (pulls σ (ps.toList.map (·.2))) (ps.toList.map (·.2))))) (b:=w.heap.size) (e:=e) (cap:=n) (xs:=fs) (O':=O') h3
  ⟨(0,0),push_new _ _,fun j _ h => absurd h.2 (Nat.not_lt_zero _)⟩ hcl (by omega) (by simp only [maxLen]; have:=Nat.le_mul_of_pos_right n h3; omega)
  (by
   rw [hfl,List.take_of_length_le (by rw [Array.length_toList,hcl]; exact Nat.le_refl _)]
   exact repL_mono _ e2 ⟨fun k hk hlt => ⟨sh_result R1 hO hlt hk,push_old _ _ hlt⟩,fun k hk => push_old _ _ (repL_lt _ e2 k hk)⟩)
  huni (fun hk => absurd (repL_lt _ e2 _ hk) (Nat.lt_irrefl _)) (repL_one _ e2)
 rw [hfl] at hown
 have R':=R1.result d (.sl true (tinfo P t).esz fs) (.slice (some ⟨w.heap.size,0,none⟩) n n) (usedOf (pulls σ (ps.toList.map (·.2))) (ps.toList.map (·.2))) (w.heap.push (.cells cells' e)) (fun k => k = w.heap.size ∨ O' k) hd (by simp) (fun k hk _ => push_old _ _ hk) hO (by simpa only [RepW] using hown) trivial
 refine ⟨_,.slice (some ⟨w.heap.size,0,none⟩) n n,w.alloc (.cells cells' e),_,_,?_,.inl rfl,h6,R',rfl,rfl,rfl⟩
 have hps : (ps.map fun (x : Nat × Operand) => (x.1,a.eval x.2)).toList = ps.toList.map fun x => (x.1,a.eval x.2):=by simp
 have hzv : (zeroValue e).run P w = .ok z w:=by simp [zeroValue,typeInfo,hi,hz]
 have hsz : (sizeOf e).run P w = .ok (szOf P e) w:=run_size (by omega)
 have hlim' : ¬ (n * szOf P e > 2 ^ 24):=by rw [hs]; omega
 have hei : i.size = szOf P e:=by rw [hs,hisz]
 by_cases hn : n * szOf P e = 0
 ·have hm0 : (madeCells z.cells (n * i.size)) = (Array.range (n * szOf P e)).map (fun j => (#[] : Array Value)[j % (#[] : Array Value).size]!):=by
   rw [hei,hn]; simp [madeCells,Array.range_zero']
  rw [hm0] at e1
  simp [Instr.buildSlice,run_under hu,hsz,hn,newRow] at e1 ⊢
  simp [e1]
 ·simp only [madeCells,hei] at e1
  simp [Instr.buildSlice,run_under hu,hsz,hn,hzv,newRow,hlim'] at e1 ⊢
  simp [e1]
end
end Go.Proofs.YtpffgegfjpdncaaGreatDoor.Am
namespace Go.Proofs.YtpffgegfjpdncaaGreatDoor.Am
open Go.RowKit AV
set_option linter.unusedVariables false
theorem run_first {P : Program} {w : World} {yv : Value} {m size : Nat} {m2 : List Value} (hl : m2.length = m * size)
  (hy : (∃ c,yv = .slice none m c ∧ m = 0) ∨ ∃ ad c,yv = .slice (some ad) m c ∧ ∀ (j : Nat) u,m2[j]? = some u → cellH w.heap (ad.add j) = some u) :
  (∀ w' : World,w'.heap = w.heap → (Builtin.firstCells size m yv).run P w' = .ok m2.toArray w') ∧ (Builtin.lenOf yv).run P w = .ok m w:=by
 rcases hy with ⟨c,rfl,rfl⟩ | ⟨ad,c,rfl,hc⟩
 ·have : m2 = []:=List.eq_nil_of_length_eq_zero (by simpa using hl)
  subst this
  exact ⟨fun w' _ => by simp [Builtin.firstCells],by simp [Builtin.lenOf]⟩
 ·refine ⟨fun w' hw => run_firstCells_some w' size m ad m c m2 hl (fun j v hv => by rw [cell_eq,hw]; exact hc j v hv),by simp [Builtin.lenOf]⟩
theorem run_app {P : Program} {w : World} {t ty e : TypeId} {i : TypeInfo} {z : Value} (hu : P.underlying t = some (.slice e)) (hi : P.info? e = some i) (hz : i.zero = some z) (hzs : z.cells.size = i.size) (hsz : 0 < i.size)
    (hz1 : ∀ u ∈ z.cells.toList,u.oneCell' = true) {xv yv : Value} {n m : Nat} {m1 m2 : List Value}
    (hx : (xv = .slice none 0 0 ∧ n = 0 ∧ m1 = []) ∨ ∃ b c te cap,xv = .slice (some ⟨b,0,none⟩) n cap ∧ Row w.heap b c te ∧ c.size = cap * i.size ∧ n ≤ cap ∧ cap ≤ maxLen ∧ c.toList.take (n * i.size) = m1 ∧ ∀ u ∈ c.toList,u.oneCell' = true)
    (hl : m2.length = m * i.size) (h1 : ∀ u ∈ m2,u.oneCell' = true)
    (hy : (∃ c,yv = .slice none m c ∧ m = 0) ∨ ∃ ad c,yv = .slice (some ad) m c ∧ ∀ (j : Nat) u,m2[j]? = some u → cellH w.heap (ad.add j) = some u)
    (h63 : n + m ≤ maxLen) (hb : (n + m) * i.bytes ≤ 140737488355328) :
    ∃ v' w',(Builtin.append_ #[t,t] ty #[xv,yv]).run P w = .ok v' w' ∧ w'.os = w.os ∧ w'.tape = w.tape ∧ w'.output = w.output ∧ w.heap.size ≤ w'.heap.size ∧
      ((v' = .slice none 0 0 ∧ n + m = 0 ∧ w' = w) ∨
       ∃ b' c' e' cap',v' = .slice (some ⟨b',0,none⟩) (n + m) cap' ∧ Row w'.heap b' c' e' ∧ c'.size = cap' * i.size ∧ n + m ≤ cap' ∧ cap' ≤ maxLen ∧ c'.toList.take ((n + m) * i.size) = m1 ++ m2 ∧ (∀ u ∈ c'.toList,u.oneCell' = true) ∧
         ((b' = w.heap.size ∧ ∀ k,k < w.heap.size → w'.heap[k]? = w.heap[k]?) ∨ (∃ l c,xv = .slice (some ⟨b',0,none⟩) l c) ∧ ∀ k,k ≠ b' → w'.heap[k]? = w.heap[k]?)):=by
  have hsmall : n + m ≤ 9223372036854775807:=by simp only [maxLen] at h63; omega
  obtain ⟨hf,hlen⟩:=run_first (P:=P) hl hy
  have hsizeOf : (sizeOf e).run P w = .ok i.size w:=by simp [sizeOf,typeInfo,hi]
  have grown : ∀ (old : Nat) (hlm1 : m1.length = n * i.size) (h1m : ∀ u ∈ m1, u.oneCell' = true),
      Row (w.drew.alloc (.cells (m1.toArray ++ m2.toArray ++ Builtin.zeroCells z.cells (grownCap w (n + m) old e - (n + m))) e)).heap w.heap.size (m1.toArray ++ m2.toArray ++ Builtin.zeroCells z.cells (grownCap w (n + m) old e - (n + m))) e ∧
      (m1.toArray ++ m2.toArray ++ Builtin.zeroCells z.cells (grownCap w (n + m) old e - (n + m))).size = grownCap w (n + m) old e * i.size ∧
      n + m ≤ grownCap w (n + m) old e ∧ grownCap w (n + m) old e ≤ maxLen ∧
      (m1.toArray ++ m2.toArray ++ Builtin.zeroCells z.cells (grownCap w (n + m) old e - (n + m))).toList.take ((n + m) * i.size) = m1 ++ m2 ∧
      (∀ u ∈ (m1.toArray ++ m2.toArray ++ Builtin.zeroCells z.cells (grownCap w (n + m) old e - (n + m))).toList,u.oneCell' = true):=by
    intro old hlm1 h1m
    have hge:=grownCap_ge w (n + m) old e
    have hcm : grownCap w (n + m) old e ≤ maxLen:=grownCap_le_maxLen w (n + m) old e h63
    refine ⟨⟨(0,0),push_new _ _,fun j _ h => absurd h.2 (Nat.not_lt_zero _)⟩,?_,hge,hcm,?_,?_⟩
    · simp only [Array.size_append,List.size_toArray,size_zeroCells,hzs,hlm1,hl,← Nat.add_mul]
      congr 1
      omega
    · simp only [Array.toList_append]
      rw [show (n + m) * i.size = (m1 ++ m2).length by rw [List.length_append,hlm1,hl,Nat.add_mul]]
      exact List.take_left
    · intro u hu
      simp only [Array.toList_append,List.mem_append] at hu
      rcases hu with (hu | hu) | hu
      · exact h1m u hu
      · exact h1 u hu
      · simp only [Builtin.zeroCells,Array.toList_map,List.mem_map,Array.toList_range,List.mem_range] at hu
        obtain ⟨j,hj,rfl⟩:=hu
        have hpos : 0 < z.cells.size:=by omega
        have hmod : j % z.cells.size < z.cells.size:=Nat.mod_lt _ hpos
        rw [getElem!_pos z.cells _ hmod]
        exact hz1 _ (by simp)
  rcases hx with ⟨rfl,rfl,rfl⟩ | ⟨b,c,te,cap,rfl,hrow,hcs,hnc,hcm,htake,hone⟩
  · by_cases hm : m = 0
    · subst hm
      have : m2 = []:=List.eq_nil_of_length_eq_zero (by simpa using hl)
      subst this
      refine ⟨.slice none 0 0,w,?_,rfl,rfl,rfl,Nat.le_refl _,.inl ⟨rfl,rfl,rfl⟩⟩
      have:=hf w rfl
      simp [Builtin.append_,run_under hu,hsizeOf,hlen,this]
    · obtain ⟨q1,q2,q3,q4,q5,q6⟩:=grown 0 (by simp) (by simp)
      have hn : ¬ (0 + m ≤ 0):=by omega
      have h63' : ¬ (9223372036854775807 < (m : Int)):=by omega
      have h48' : ¬ (281474976710656 < Builtin.nextslicecap m 0 * i.bytes):=by
        rw [nextslicecap_zero (by omega)]; rw [Nat.zero_add] at hb; omega
      refine ⟨.slice (some ⟨w.heap.size,0,none⟩) (0 + m) (grownCap w (0 + m) 0 e),w.drew.alloc (.cells (([] : List Value).toArray ++ m2.toArray ++ Builtin.zeroCells z.cells (grownCap w (0 + m) 0 e - (0 + m))) e),?_,rfl,rfl,rfl,Nat.le_of_lt (by show w.heap.size < (w.heap.push _).size; rw [Array.size_push]; exact Nat.lt_succ_self _),.inr ⟨w.heap.size,_,e,_,rfl,q1,q2,q3,q4,q5,q6,.inl ⟨rfl,fun k hk => push_old _ _ hk⟩⟩⟩
      · have:=hf w.drew rfl
        simp [Builtin.append_,run_under hu,sizeOf,typeInfo,zeroValue,hi,hz,hlen,hm,h63',h48',Question.forced,run_firstCells_none,this,newRow,grownCap]
  · have hlm1 : m1.length = n * i.size := by
      rw [← htake,List.length_take,Array.length_toList,hcs,Nat.min_eq_left (Nat.mul_le_mul_right _ hnc)]
    have h1m : ∀ u ∈ m1,u.oneCell' = true:=fun u hu => hone u (by rw [← htake] at hu; exact List.mem_of_mem_take hu)
    obtain ⟨fr,hb',hfr⟩:=hrow
    by_cases hroom : n + m ≤ cap
    · have hfit : 0 + n * i.size + m2.length ≤ c.size := by
        rw [hcs,hl,Nat.zero_add,← Nat.add_mul]; exact Nat.mul_le_mul_right _ hroom
      have hst:=run_storeRow P b (n * i.size) te fr m2 0 c w hb' hfr (by simpa using hfit) h1
      simp only [Nat.add_zero] at hst
      have hadd : (⟨b,0,none⟩ : Addr).add (n * i.size) = ⟨b,n * i.size,none⟩:=by rw [add_at,Nat.zero_add]
      have hnew : (c.toList.take (n * i.size) ++ m2 ++ c.toList.drop (n * i.size + m2.length)).toArray.size = cap * i.size:=by
        simp only [List.size_toArray,List.length_append,List.length_drop,htake,hlm1,Array.length_toList,hcs]
        rw [hcs] at hfit
        omega
      refine ⟨.slice (some ⟨b,0,none⟩) (n + m) cap,w.setRow b (c.toList.take (n * i.size) ++ m2 ++ c.toList.drop (n * i.size + m2.length)).toArray,?_,rfl,rfl,rfl,by simp,.inr ⟨b,_,te,cap,rfl,⟨fr,setRow_heap w b c _ te fr hb',by rw [hnew,← hcs]; exact hfr⟩,hnew,hroom,hcm,?_,?_,.inr ⟨⟨_,_,rfl⟩,fun k hk => setRow_other w b _ hk⟩⟩⟩
      · have:=hf w rfl
        simp [Builtin.append_,run_under hu,hsizeOf,hlen,hroom,this,hadd,hst]
      · simp only [htake]
        rw [show (n + m) * i.size = (m1 ++ m2).length by rw [List.length_append,hlm1,hl,Nat.add_mul]]
        exact List.take_left
      · intro u hu
        simp only [List.mem_append] at hu
        rcases hu with (hu | hu) | hu
        · exact hone u (List.mem_of_mem_take hu)
        · exact h1 u hu
        · exact hone u (List.mem_of_mem_drop hu)
    · obtain ⟨q1,q2,q3,q4,q5,q6⟩:=grown cap hlm1 h1m
      have h63' : ¬ (9223372036854775807 < ((n : Int) + (m : Int))):=by omega
      have h48' : ¬ (281474976710656 < Builtin.nextslicecap (n + m) cap * i.bytes):=by
        have:=growslice_fits (need:=n + m) (old:=cap) (bytes:=i.bytes) (by omega) hb
        omega
      have hfo:=run_firstCells_some (P:=P) w.drew i.size n ⟨b,0,none⟩ n cap m1 hlm1 (fun j v hv => by
        rw [cell_eq]
        exact row_cells ⟨fr,hb',hfr⟩ (by rw [htake]; exact hv))
      refine ⟨.slice (some ⟨w.heap.size,0,none⟩) (n + m) (grownCap w (n + m) cap e),w.drew.alloc (.cells (m1.toArray ++ m2.toArray ++ Builtin.zeroCells z.cells (grownCap w (n + m) cap e - (n + m))) e),?_,rfl,rfl,rfl,Nat.le_of_lt (by show w.heap.size < (w.heap.push _).size; rw [Array.size_push]; exact Nat.lt_succ_self _),.inr ⟨w.heap.size,_,e,_,rfl,q1,q2,q3,q4,q5,q6,.inl ⟨rfl,fun k hk => push_old _ _ hk⟩⟩⟩
      · have:=hf w.drew rfl
        simp [Builtin.append_,run_under hu,sizeOf,typeInfo,zeroValue,hi,hz,hlen,hroom,h63',h48',Question.forced,this,hfo,newRow,grownCap]
        congr 2
        apply Array.ext'
        simp [List.append_assoc]
end Go.Proofs.YtpffgegfjpdncaaGreatDoor.Am
namespace Go.Proofs.YtpffgegfjpdncaaGreatDoor.Am
open Go.RowKit AV
set_option linter.unusedVariables false
section
variable {P : Program} {h0 : Array Obj} {ok O0 : Nat → Prop} {σ : St} {a : Act} {w : World} {Os : Nat → Nat → Prop}
theorem app_core (R : Rel h0 ok O0 σ a.tmps w.heap Os) {x : Operand} (hx : opndOk a.tmps.size x = true) {t ty : TypeId} {d : Tmp} (hd : d < a.tmps.size) {sz : Nat} {xs ys : List AV} {yv : Value} {m2 : List Value} {O2 : Nat → Prop} {used : List Nat} {K : St → Prop}
  (hk : (tinfo P t).kind = 1) (hzk : (tinfo P t).ezok = true) (hpos : 0 < (tinfo P t).esz) (ex : ev σ x = .sl true sz xs) (hsz : sz = (tinfo P t).esz ∨ sz = 0)
  (hu1 : ∀ s ∈ usedOf σ [x],s ∈ used) (hu2 : ∀ k,O2 k → ∃ s ∈ used,Os s k) (hdis : ∀ k,O2 k → ∀ s ∈ usedOf σ [x],¬ Os s k)
  (r2 : RepL w.heap (Sh ok Os) ys m2 O2) (huni : ∀ y ∈ ys,y.ncells = (tinfo P t).esz)
  (hy : (∃ c,yv = .slice none ys.length c ∧ ys.length = 0) ∨ ∃ ad c,yv = .slice (some ad) ys.length c ∧ ∀ (j : Nat) u,m2[j]? = some u → cellH w.heap (ad.add j) = some u)
  (h63 : xs.length + ys.length ≤ maxLen) (hb : (xs.length + ys.length) * (tinfo P t).ebytes ≤ 140737488355328)
  (h : K (put σ d (.sl true (tinfo P t).esz (xs ++ ys)) used)) :
  EffOk P h0 ok O0 a w (do pure (.value (← Builtin.append_ #[t,t] ty #[a.eval x,yv]))) (some d) K:=by
 obtain ⟨e,hu,hs,hbt,_,hz0,hzk'⟩:=kind1 hk
 rw [hzk'] at hzk
 obtain ⟨i,z,hi,hz,hzs,hr⟩:=zok_rep hzk w.heap (Sh ok Os)
 have hisz : i.size = (tinfo P t).esz:=by rw [← hs]; simp [szOf,hi]
 have hibt : i.bytes = (tinfo P t).ebytes:=by rw [← hbt]; simp [bytesOf_,hi]
 obtain ⟨O,g1,g2⟩:=gather1 R hx
 rw [ex] at g1
 simp only [RepW,RepC] at g1
 have hl2 : m2.length = ys.length * i.size:=by rw [repL_len _ r2,len_of_uni huni,hisz,Nat.mul_comm]
 have h12:=repL_one _ r2
 have hxn : ∀ (c : Array Value) {m : List Value} {O' : Nat → Prop},(∀ y ∈ xs,y.ncells = sz) → RepL w.heap (Sh ok Os) xs m O' → (xs = [] ∨ sz = (tinfo P t).esz) → m.length = xs.length * i.size:=by
  intro c m O' hun r hh
  rw [repL_len _ r,len_of_uni hun,hisz,Nat.mul_comm]
  rcases hh with rfl | rfl
  ·simp
  ·rfl
 -- the result
 have fin : ∀ (v' : Value) (w' : World) (b' : Nat) (c' : Array Value) (e' : TypeId) (cap' : Nat) (m1 : List Value) (O' : Nat → Prop),
   (Builtin.append_ #[t,t] ty #[a.eval x,yv]).run P w = .ok v' w' → w'.os = w.os → w'.tape = w.tape → w'.output = w.output → w.heap.size ≤ w'.heap.size →
   v' = .slice (some ⟨b',0,none⟩) (xs.length + ys.length) cap' → Row w'.heap b' c' e' → c'.size = cap' * i.size → xs.length + ys.length ≤ cap' → cap' ≤ maxLen →
   c'.toList.take ((xs.length + ys.length) * i.size) = m1 ++ m2 → (∀ u ∈ c'.toList,u.oneCell' = true) →
   RepL w.heap (Sh ok Os) xs m1 O' → (∀ y ∈ xs,y.ncells = (tinfo P t).esz) → (∀ k,O' k → O k) → ¬ O' b' →
   ((b' = w.heap.size ∧ ∀ k,k < w.heap.size → w'.heap[k]? = w.heap[k]?) ∨ (O b' ∧ ∀ k,k ≠ b' → w'.heap[k]? = w.heap[k]?)) →
   EffOk P h0 ok O0 a w (do pure (.value (← Builtin.append_ #[t,t] ty #[a.eval x,yv]))) (some d) K:=by
  intro v' w' b' c' e' cap' m1 O' hrun hos htp hout hsize hv hrow hcs hle hcm htake hone r1 hun1 hsub hnb hwhere
  have hOb : ∀ k,O k → ∃ s ∈ used,Os s k:=fun k hk => by
   obtain ⟨s,hs1,hs2⟩:=(g2 k).1 hk
   exact ⟨s,hu1 s hs1,hs2⟩
  have hdis' : ∀ k,O k → ¬ O2 k:=fun k hk h2 => by
   obtain ⟨s,hs1,hs2⟩:=(g2 k).1 hk
   exact hdis k h2 s hs1 hs2
  have hlt2:=repL_lt _ r2
  have hlt1:=repL_lt _ r1
  have hn2 : ¬ O2 b':=fun h2 => by
   rcases hwhere with ⟨rfl,_⟩ | ⟨hO,_⟩
   ·exact absurd (hlt2 _ h2) (Nat.lt_irrefl _)
   ·exact hdis' _ hO h2
  have hO : ∀ k,(k = b' ∨ O' k ∨ O2 k) → (∃ s ∈ used,Os s k) ∨ w.heap.size ≤ k:=by
   rintro k (rfl | hk | hk)
   ·rcases hwhere with ⟨rfl,_⟩ | ⟨hO,_⟩
    ·exact .inr (Nat.le_refl _)
    ·exact .inl (hOb _ hO)
   ·exact .inl (hOb k (hsub k hk))
   ·exact .inl (hu2 k hk)
  have hold : ∀ k,k < w.heap.size → k ≠ b' → w'.heap[k]? = w.heap[k]?:=by
   intro k hlt hne
   rcases hwhere with ⟨_,hh⟩ | ⟨_,hh⟩
   ·exact hh k hlt
   ·exact hh k hne
  have hnotsh : ∀ k,k < w.heap.size → Sh ok Os k → k ≠ b':=by
   rintro k hlt hsh rfl
   rcases hwhere with ⟨rfl,_⟩ | ⟨hO,_⟩
   ·exact absurd hlt (Nat.lt_irrefl _)
   ·obtain ⟨s,_,hs⟩:=hOb _ hO
    exact hsh.2 s hs
  have hag : ∀ Oz : Nat → Prop,(∀ k,Oz k → k < w.heap.size ∧ k ≠ b') → Agree w.heap w'.heap (Sh ok Os) (Sh ok (ownR Os d (fun k => k = b' ∨ O' k ∨ O2 k) used)) Oz:=fun Oz hz => ⟨fun k hk hlt => ⟨sh_result R hO hlt hk,hold k hlt (hnotsh k hlt hk)⟩,fun k hk => hold k (hz k hk).1 (hz k hk).2⟩
  have hrep:=repL_app _ _ (repL_mono _ r1 (hag O' fun k hk => ⟨hlt1 k hk,fun he => hnb (he ▸ hk)⟩)) (repL_mono _ r2 (hag O2 fun k hk => ⟨hlt2 k hk,fun he => hn2 (he ▸ hk)⟩)) (fun k h1 h2 => hdis' k (hsub k h1) h2)
  have hown:=rep_own (sz:=(tinfo P t).esz) hpos hrow (by rw [hcs,hisz]) (by simpa using hle) hcm (xs:=xs ++ ys) (O':=fun k => O' k ∨ O2 k) (by
   rw [List.length_append,← hisz,htake]; exact hrep) (by
   intro y hy
   rcases List.mem_append.1 hy with hy | hy
   ·exact hun1 y hy
   ·exact huni y hy) (by rintro (h | h); exact hnb h; exact hn2 h) hone
  rw [List.length_append] at hown
  have R':=R.result d (.sl true (tinfo P t).esz (xs ++ ys)) v' used w'.heap (fun k => k = b' ∨ O' k ∨ O2 k) hd hsize (fun k hlt hk => by
   refine hold k hlt ?_
   rintro rfl
   rcases hwhere with ⟨rfl,_⟩ | ⟨hO,_⟩
   ·exact absurd hlt (Nat.lt_irrefl _)
   ·obtain ⟨s,hs1,hs2⟩:=hOb _ hO
    exact hk s hs1 hs2) hO (by rw [hv]; simpa only [RepW] using hown) trivial
  exact ⟨.value v',v',w',_,_,by simp [hrun],.inl rfl,h,R',hos,htp,hout⟩
 have e1 : ∀ q : Nat,(tinfo P t).ebytes * q = i.bytes * q:=by intro q; rw [hibt]
 rcases g1 with ⟨rfl,gv,gO⟩ | ⟨hszp,b,c,te,cap,O',gv,hrow,hcs,hlc,hcm,hrl,hun,hnb,hO,hone⟩
 ·have hv : a.eval x = .slice none 0 0:=by simpa using gv
  obtain ⟨v',w',q1,q2,q3,q4,q5,q6⟩:=run_app (P:=P) (w:=w) (ty:=ty) hu hi hz hzs (by rw [hisz]; exact hpos) (fun u hu => repC_one _ hr u hu) (xv:=a.eval x) (n:=0) (m1:=[]) (.inl ⟨hv,rfl,rfl⟩) hl2 h12 hy (by simpa using h63) (by rw [hibt]; simpa using hb)
  rcases q6 with ⟨p1,p2,p3⟩ | ⟨b',c',e',cap',p1,p2,p3,p4,p5,p6,p7,p8⟩
  ·have hys : ys = []:=List.eq_nil_of_length_eq_zero (by omega)
   subst hys
   have R':=R.result d (.sl true (tinfo P t).esz ([] ++ [])) v' used w'.heap (fun _ => False) hd (by rw [p3]; exact Nat.le_refl _) (fun k _ _ => by rw [p3]) (fun _ h => h.elim) (by simp only [RepW,RepC]; exact .inl ⟨rfl,by rw [p1],emp_false⟩) trivial
   exact ⟨.value v',v',w',_,_,by simp [q1],.inl rfl,h,R',q2,q3,q4⟩
  ·refine fin v' w' b' c' e' cap' [] (fun _ => False) q1 q2 q3 q4 q5 (by simpa using p1) p2 p3 (by simpa using p4) p5 (by simpa using p6) p7 (by simp only [RepL]; exact ⟨trivial,emp_false⟩) (by simp) (fun _ h => h.elim) (fun h => h) ?_
   rcases p8 with p8 | ⟨⟨l,c'',hc⟩,_⟩
   ·exact .inl p8
   ·rw [hv] at hc; cases hc
 ·have hv : a.eval x = .slice (some ⟨b,0,none⟩) xs.length cap:=by simpa using gv
  have hsz' : sz = (tinfo P t).esz:=by rcases hsz with h | h; exact h; omega
  subst hsz'
  have hm1:=hxn c hun hrl (.inr rfl)
  obtain ⟨v',w',q1,q2,q3,q4,q5,q6⟩:=run_app (P:=P) (w:=w) (ty:=ty) hu hi hz hzs (by rw [hisz]; exact hpos) (fun u hu => repC_one _ hr u hu) (xv:=a.eval x) (n:=xs.length) (m1:=c.toList.take (xs.length * (tinfo P t).esz)) (.inr ⟨b,c,te,cap,hv,hrow,by rw [hisz]; exact hcs,hlc,hcm,by rw [hisz],hone⟩) hl2 h12 hy h63 (by rw [hibt]; exact hb)
  rcases q6 with ⟨p1,p2,p3⟩ | ⟨b',c',e',cap',p1,p2,p3,p4,p5,p6,p7,p8⟩
  ·have hys : ys = []:=List.eq_nil_of_length_eq_zero (by omega)
   have hxs : xs = []:=List.eq_nil_of_length_eq_zero (by omega)
   subst hys; subst hxs
   have R':=R.result d (.sl true (tinfo P t).esz ([] ++ [])) v' used w'.heap (fun _ => False) hd (by rw [p3]; exact Nat.le_refl _) (fun k _ _ => by rw [p3]) (fun _ h => h.elim) (by simp only [RepW,RepC]; exact .inl ⟨rfl,by rw [p1],emp_false⟩) trivial
   exact ⟨.value v',v',w',_,_,by simp [q1],.inl rfl,h,R',q2,q3,q4⟩
  ·have hblt:=blk_lt hrow
   refine fin v' w' b' c' e' cap' _ O' q1 q2 q3 q4 q5 p1 p2 p3 p4 p5 p6 p7 hrl hun (fun k hk => (hO k).2 (.inr hk)) ?_ ?_
   ·rcases p8 with ⟨rfl,_⟩ | ⟨⟨l,c'',hc⟩,_⟩
    ·exact fun hk => absurd (repL_lt _ hrl _ hk) (Nat.lt_irrefl _)
    ·rw [hv] at hc
     simp only [Value.slice.injEq,Option.some.injEq,Addr.mk.injEq] at hc
     rw [← hc.1.1]; exact hnb
   ·rcases p8 with p8 | ⟨⟨l,c'',hc⟩,hk⟩
    ·exact .inl p8
    ·rw [hv] at hc
     simp only [Value.slice.injEq,Option.some.injEq,Addr.mk.injEq] at hc
     refine .inr ⟨?_,hk⟩
     rw [← hc.1.1]; exact (hO b).2 (.inl rfl)
def appFits (P : Program) (t : TypeId) (xs ys : List AV) : Prop:=xs.length + ys.length ≤ 4611686018427387904 ∧ (xs.length + ys.length) * (tinfo P t).ebytes ≤ 140737488355328
def subOf (σ : St) (y : Operand) : Option (Nat × Nat × List AV × Nat × Nat):=match ev σ y with
 | .vsub s p lo hi => (match getAt (look σ s) p with | some (.sl true sz zs) => some (s,sz,zs,lo,hi) | _ => none)
 | _ => none
def appendW (P : Program) (σ : St) (t : TypeId) (x y : Operand) (d : Nat) (K : St → Prop) : Prop :=
 let σ1:=pull σ x
 (tinfo P t).kind = 1 ∧ (tinfo P t).ezok = true ∧ 0 < (tinfo P t).esz ∧
 match ev σ1 x with
 | .sl true sz xs => (sz = (tinfo P t).esz ∨ sz = 0) ∧
  (match srcOf σ1 y with
  | .sls sz2 ys => (sz2 = (tinfo P t).esz ∨ ys = []) ∧ appFits P t xs ys ∧ K (put σ1 d (.sl true (tinfo P t).esz (xs ++ ys)) (usedOf σ1 [x]))
  | .slo s p sz2 ys => (sz2 = (tinfo P t).esz ∨ ys = []) ∧ plainL ys = true ∧ x ≠ .tmp s ∧ appFits P t xs ys ∧ K (put σ1 d (.sl true (tinfo P t).esz (xs ++ ys)) (usedOf σ1 [x]))
  | .bad => (match subOf σ1 y with
   | some (s,sz2,zs,lo,hi) => (sz2 = (tinfo P t).esz ∨ zs = []) ∧ plainL zs = true ∧ x ≠ .tmp s ∧ appFits P t xs ((zs.take hi).drop lo) ∧ K (put σ1 d (.sl true (tinfo P t).esz (xs ++ (zs.take hi).drop lo)) (usedOf σ1 [x]))
   | none => False)
  | _ => False)
 | _ => False
def appendMW (P : Program) (σ : St) (t : TypeId) (x y : Operand) (d : Nat) (K : St → Prop) : Prop :=
 let σ2:=pulls σ [x,y]
 (tinfo P t).kind = 1 ∧ (tinfo P t).ezok = true ∧ 0 < (tinfo P t).esz ∧
 match ev σ2 x,ev σ2 y with
 | .sl true sz xs,.sl true sz2 ys => (sz = (tinfo P t).esz ∨ sz = 0) ∧ (sz2 = (tinfo P t).esz ∨ ys = []) ∧ (usedOf σ2 [x,y]).Nodup ∧ appFits P t xs ys ∧ K (put σ2 d (.sl true (tinfo P t).esz (xs ++ ys)) (usedOf σ2 [x,y]))
 | _,_ => False
end
end Go.Proofs.YtpffgegfjpdncaaGreatDoor.Am
namespace Go.Proofs.YtpffgegfjpdncaaGreatDoor.Am
open Go.RowKit AV
set_option linter.unusedVariables false
section
variable {P : Program} {h0 : Array Obj} {ok O0 : Nat → Prop} {σ : St} {a : Act} {w : World} {Os : Nat → Nat → Prop}
theorem app_fits {P : Program} {t : TypeId} {xs ys : List AV} (h : appFits P t xs ys) : xs.length + ys.length ≤ maxLen:=by
 simp only [appFits,maxLen] at *; omega
theorem usedOf_one {σ : St} {x : Operand} {s : Nat} (h : s ∈ usedOf σ [x]) : x = .tmp s:=by
 cases x with
 | tmp t => simp only [usedOf] at h; split at h <;> simp_all
 | _ => simp [usedOf] at h
theorem repL_emp {h : Array Obj} {S : Nat → Prop} {xs : List AV} {m : List Value} {O : Nat → Prop} (r : RepL h S xs m O) (he : Emp O) : RepL h S xs m (fun _ => False):=repL_cong _ r (fun k => ⟨False.elim,fun hk => (he k hk).elim⟩)
theorem subOf_some {σ : St} {y : Operand} {s sz : Nat} {zs : List AV} {lo hi : Nat} (h : subOf σ y = some (s,sz,zs,lo,hi)) : ∃ p,ev σ y = .vsub s p lo hi ∧ getAt (look σ s) p = some (.sl true sz zs):=by
 unfold subOf at h
 split at h
 ·rename_i s' p lo' hi' e
  split at h
  ·rename_i sz' zs' eg
   simp only [Option.some.injEq,Prod.mk.injEq] at h
   obtain ⟨rfl,rfl,rfl,rfl,rfl⟩:=h
   exact ⟨p,e,eg⟩
  ·cases h
 ·cases h
theorem sim_append (R : Rel h0 ok O0 σ a.tmps w.heap Os) {x y : Operand} (hx : opndOk a.tmps.size x = true) (hy : opndOk a.tmps.size y = true) {t ty : TypeId} {d : Tmp} (hd : d < a.tmps.size) {K : St → Prop} (h : appendW P σ t x y d K) :
  EffOk P h0 ok O0 a w (do pure (.value (← Builtin.append_ #[t,t] ty #[a.eval x,a.eval y]))) (some d) K:=by
 obtain ⟨hk,hzk,hpos,h⟩:=h
 obtain ⟨Os1,R1⟩:=pull_ok R x hx
 split at h
 ·rename_i sz xs ex
  obtain ⟨hsz,h⟩:=h
  split at h
  ·rename_i sz2 ys ey
   obtain ⟨hs2,hf,h⟩:=h
   obtain ⟨r,_,_⟩:=src_sls R1 hy ey
   simp only [RepC] at r
   obtain ⟨⟨A,cap,m,r1,r2,r3,r4,r5⟩,_⟩:=r
   have hv : a.eval y = .slice A ys.length cap:=by simpa using r1
   have huni : ∀ q ∈ ys,q.ncells = (tinfo P t).esz:=by
    rcases hs2 with rfl | rfl
    ·exact r4
    ·simp
   refine app_core R1 hx hd hk hzk hpos ex hsz (fun s hs => hs) (O2:=fun _ => False) (fun k hk => hk.elim) (fun k hk => hk.elim) r3 huni ?_ (app_fits hf) hf.2 h
   by_cases hz : ys.length = 0
   ·have : m = []:=by
     have:=repL_len _ r3
     have hy0 : ys = []:=List.eq_nil_of_length_eq_zero hz
     subst hy0
     simpa [ncellsL] using this
    cases A with
    | none => exact .inl ⟨cap,hv,hz⟩
    | some ad => exact .inr ⟨ad,cap,hv,by simp [this]⟩
   ·obtain ⟨ad,rfl,_,hc⟩:=r5 (by omega)
    exact .inr ⟨ad,cap,hv,hc⟩
  ·rename_i s p sz2 ys ey
   obtain ⟨hs2,hp,hne,hf,h⟩:=h
   obtain ⟨u,k1,k2,k3,k4⟩:=src_slo R1 hy ey
   obtain ⟨⟨Oy,r,hOy⟩,_⟩:=slo_rep k2 k3 k4
   simp only [RepC] at r
   rcases r with ⟨rfl,gv,gO⟩ | ⟨hszp,b,c,te,cap,O',gv,hrow,hcs,hlc,hcm,hrl,hun,hnb,hO,hone⟩
   ·have hv : a.eval y = .slice none 0 0:=by simpa using gv
    exact app_core R1 hx hd hk hzk hpos ex hsz (fun s hs => hs) (O2:=fun _ => False) (m2:=[]) (ys:=[]) (fun k hk => hk.elim) (fun k hk => hk.elim) (by simp only [RepL]; exact ⟨trivial,emp_false⟩) (by simp) (.inl ⟨0,hv,rfl⟩) (app_fits hf) hf.2 h
   ·have hv : a.eval y = .slice (some ⟨b,0,none⟩) ys.length cap:=by simpa using gv
    have huni : ∀ q ∈ ys,q.ncells = (tinfo P t).esz:=by
     rcases hs2 with rfl | rfl
     ·exact hun
     ·simp
    have hemp:=repL_plain _ hrl hp
    refine app_core R1 hx hd hk hzk hpos ex hsz (fun s hs => hs) (O2:=fun _ => False) (fun k hk => hk.elim) (fun k hk => hk.elim) (repL_emp hrl hemp) huni (.inr ⟨_,cap,hv,fun j u hj => ?_⟩) (app_fits hf) hf.2 h
    exact row_cells hrow hj
  ·rename_i ey
   split at h
   ·rename_i s sz2 zs lo hi es
    obtain ⟨hs2,hp,hne,hf,h⟩:=h
    obtain ⟨p,ev1,eg⟩:=subOf_some es
    have al:=(ev_rep R1 hy).2
    rw [ev1] at al
    obtain ⟨u,sz',xs',w',k1,k2,k3,k4,k5,k6⟩:=al
    rw [eg] at k2
    simp only [Option.some.injEq,AV.sl.injEq,true_and] at k2
    obtain ⟨rfl,rfl⟩:=k2
    obtain ⟨⟨Oy,r,_⟩,_⟩:=slo_rep (R1.rep s u k1) eg k3
    simp only [RepC] at r
    rcases r with ⟨rfl,gv,gO⟩ | ⟨hszp,b,c,te,cap,O',gv,hrow,hcs,hlc,hcm,hrl,hun,hnb,hO,hone⟩
    ·have hw : w' = .slice none 0 0:=by simpa using gv
     have hv : a.eval y = .slice none 0 0:=by
      rcases k6 with ⟨b,l,c,q1,_⟩ | ⟨_,q2,_⟩
      ·rw [hw] at q1; cases q1
      ·exact q2
     exact app_core R1 hx hd hk hzk hpos ex hsz (fun s hs => hs) (O2:=fun _ => False) (m2:=[]) (ys:=(([] : List AV).take hi).drop lo) (fun k hk => hk.elim) (fun k hk => hk.elim) (by simp only [List.take_nil,List.drop_nil,RepL]; exact ⟨trivial,emp_false⟩) (by simp) (.inl ⟨0,by rw [hv]; simp,by simp⟩) (app_fits hf) hf.2 h
    ·have hw : w' = .slice (some ⟨b,0,none⟩) zs.length cap:=by simpa using gv
     obtain ⟨b1,l1,c1,q1,q2⟩ : ∃ b1 l1 c1,w' = .slice (some ⟨b1,0,none⟩) l1 c1 ∧ a.eval y = .slice (some ⟨b1,(if c1 = lo then 0 else lo * sz2),none⟩) (hi - lo) (c1 - lo):=by
      rcases k6 with ⟨b1,l1,c1,q1,q2⟩ | ⟨q1,_⟩
      ·exact ⟨b1,l1,c1,q1,q2⟩
      ·rw [hw] at q1; cases q1
     rw [hw] at q1
     simp only [Value.slice.injEq,Option.some.injEq,Addr.mk.injEq,and_true] at q1
     obtain ⟨rfl,rfl,rfl⟩:=q1
     have huni : ∀ q ∈ zs,q.ncells = (tinfo P t).esz:=by
      rcases hs2 with rfl | rfl
      ·exact hun
      ·simp
     have hlen : ((zs.take hi).drop lo).length = hi - lo:=by simp; omega
     have hrl':=repL_emp hrl (repL_plain _ hrl hp)
     have d1:=(repL_cut hi zs hrl' hun k5).1
     have d2:=(repL_cut lo (zs.take hi) d1 (fun x hx => hun x (List.mem_of_mem_take hx)) (by simp; omega)).2
     refine app_core R1 hx hd hk hzk hpos ex hsz (fun s hs => hs) (O2:=fun _ => False) (fun k hk => hk.elim) (fun k hk => hk.elim) d2 (fun q hq => huni q (List.mem_of_mem_take (List.mem_of_mem_drop hq))) (.inr ⟨_,_,by rw [hlen]; exact q2,fun j v hj => ?_⟩) (app_fits hf) hf.2 h
     rw [List.getElem?_drop] at hj
     by_cases hz : lo * sz2 + j < hi * sz2
     ·rw [List.getElem?_take_of_lt hz] at hj
      have hne : cap ≠ lo:=by
       intro hc
       have h1 : hi ≤ lo:=by omega
       have h2 : hi * sz2 ≤ lo * sz2:=Nat.mul_le_mul_right _ h1
       omega
      have:=row_cells hrow hj
      simp only [hne,if_false]
      have e : (⟨b,lo * sz2,none⟩ : Addr).add j = (⟨b,0,none⟩ : Addr).add (lo * sz2 + j):=by
       unfold Addr.add
       by_cases h1 : j = 0
       ·by_cases h2 : lo * sz2 = 0
        ·simp [h1,h2]
        ·simp [h1,h2]
       ·simp [h1]
      rw [e]
      exact this
     ·rw [List.getElem?_eq_none (by simp; omega)] at hj; cases hj
   ·exact h.elim
  ·exact h.elim
 ·exact h.elim
theorem sim_appendM (R : Rel h0 ok O0 σ a.tmps w.heap Os) {x y : Operand} (hx : opndOk a.tmps.size x = true) (hy : opndOk a.tmps.size y = true) {t ty : TypeId} {d : Tmp} (hd : d < a.tmps.size) {K : St → Prop} (h : appendMW P σ t x y d K) :
  EffOk P h0 ok O0 a w (do pure (.value (← Builtin.append_ #[t,t] ty #[a.eval x,a.eval y]))) (some d) K:=by
 obtain ⟨hk,hzk,hpos,h⟩:=h
 have hxy : ∀ q ∈ [x,y],opndOk a.tmps.size q = true:=by simp [hx,hy]
 obtain ⟨Os1,R1⟩:=pulls_ok [x,y] R hxy
 split at h
 ·rename_i sz xs sz2 ys ex ey
  obtain ⟨hsz,hs2,hnd,hf,h⟩:=h
  obtain ⟨O,g1,g2⟩:=gather1 R1 hy
  rw [ey] at g1
  simp only [RepW,RepC] at g1
  have hsub : ∀ s,s ∈ usedOf (pulls σ [x,y]) [x,y] ↔ s ∈ usedOf (pulls σ [x,y]) [x] ∨ s ∈ usedOf (pulls σ [x,y]) [y]:=by
   intro s
   cases x <;> simp only [usedOf] <;> (try split) <;> simp
  have hapart : ∀ s ∈ usedOf (pulls σ [x,y]) [x],s ∉ usedOf (pulls σ [x,y]) [y]:=by
   intro s h1 h2
   cases x with
   | tmp t =>
    simp only [usedOf] at h1 hnd
    split at h1
    ·simp at h1
    ·rename_i hp
     simp only [hp,if_false,Bool.false_eq_true] at hnd
     simp only [List.mem_singleton] at h1
     subst h1
     exact (List.nodup_cons.1 hnd).1 (by simpa only [usedOf] using h2)
   | _ => simp [usedOf] at h1
  have hdis : ∀ k,O k → ∀ s ∈ usedOf (pulls σ [x,y]) [x],¬ Os1 s k:=by
   intro k hk s hs hos
   obtain ⟨s',hs',hos'⟩:=(g2 k).1 hk
   have:=R1.dis _ _ k hos hos'
   subst this
   exact hapart s hs hs'
  rcases g1 with ⟨rfl,gv,gO⟩ | ⟨hszp,b,c,te,cap,O',gv,hrow,hcs,hlc,hcm,hrl,hun,hnb,hO,hone⟩
  ·have hv : a.eval y = .slice none 0 0:=by simpa using gv
   exact app_core R1 hx hd hk hzk hpos ex hsz (fun s hs => (hsub s).2 (.inl hs)) (O2:=fun _ => False) (m2:=[]) (ys:=[]) (fun k hk => hk.elim) (fun k hk => hk.elim) (by simp only [RepL]; exact ⟨trivial,emp_false⟩) (by simp) (.inl ⟨0,hv,rfl⟩) (app_fits hf) hf.2 h
  ·have hv : a.eval y = .slice (some ⟨b,0,none⟩) ys.length cap:=by simpa using gv
   have huni : ∀ q ∈ ys,q.ncells = (tinfo P t).esz:=by
    rcases hs2 with rfl | rfl
    ·exact hun
    ·simp
   refine app_core R1 hx hd hk hzk hpos ex hsz (fun s hs => (hsub s).2 (.inl hs)) (O2:=O') (fun k hk => ?_) (fun k hk => hdis k ((hO k).2 (.inr hk))) hrl huni (.inr ⟨_,cap,hv,fun j u hj => ?_⟩) (app_fits hf) hf.2 h
   ·obtain ⟨s,hs,hos⟩:=(g2 k).1 ((hO k).2 (.inr hk))
    exact ⟨s,(hsub s).2 (.inr hs),hos⟩
   ·exact row_cells hrow hj
 ·exact h.elim
end
end Go.Proofs.YtpffgegfjpdncaaGreatDoor.Am
namespace Go.Proofs.YtpffgegfjpdncaaGreatDoor.Am
open Go.RowKit AV
set_option linter.unusedVariables false
mutual
theorem repC_row {h : Array Obj} {S : Nat → Prop} : ∀ (x : AV) {cs : List Value} {O : Nat → Prop},RepC h S x cs O → ∀ k,O k → (∃ c e,Row h k c e) ∨ ∃ es ck,h[k]? = some (.map es ck)
 | .undef,cs,O,r => by simp only [RepC] at r; exact fun k hk => (r.2 k hk).elim
 | .oth v,cs,O,r => by simp only [RepC] at r; exact fun k hk => (r.2 k hk).elim
 | .int k n,cs,O,r => by simp only [RepC] at r; exact fun k hk => (r.2 k hk).elim
 | .bool b,cs,O,r => by simp only [RepC] at r; exact fun k hk => (r.2 k hk).elim
 | .str s,cs,O,r => by simp only [RepC] at r; exact fun k hk => (r.2 k hk).elim
 | .sl true sz xs,cs,O,r => by
  simp only [RepC] at r
  rcases r with ⟨r1,r2,r3⟩ | ⟨hsz,b,c,e,cap,O1,h1,h2,h3,h4,h5,h6,h7,h8,h9,h10⟩
  ·exact fun k hk => (r3 k hk).elim
  ·intro k hk
   rcases (h9 k).1 hk with rfl | hk
   ·exact .inl ⟨_,_,h2⟩
   ·exact repL_row xs h6 k hk
 | .sl false sz xs,cs,O,r => by simp only [RepC] at r; exact fun k hk => (r.2 k hk).elim
 | .agg fs,cs,O,r => by simp only [RepC] at r; exact repL_row fs r
 | .arr sz xs,cs,O,r => by simp only [RepC] at r; exact repL_row xs r.1
 | .box x,cs,O,r => by
  simp only [RepC] at r
  obtain ⟨b,c,e,m,O1,h1,h2,h3,h4,h5,h6⟩:=r
  intro k hk
  rcases (h6 k).1 hk with rfl | hk
  ·exact .inl ⟨_,_,h2⟩
  ·exact repC_row x h4 k hk
 | .dptr x,cs,O,r => by simp only [RepC] at r; exact fun k hk => (r.2 k hk).elim
 | .mp _,cs,O,r => by
  simp only [RepC] at r
  obtain ⟨b,es,ck,h1,h2,h3,h4,h5⟩:=r
  intro k hk
  obtain rfl:=(h5 k).1 hk
  exact .inr ⟨_,_,h2⟩
 | .tup _,cs,O,r => by simp only [RepC] at r
 | .vref ..,cs,O,r => by simp only [RepC] at r
 | .vagg ..,cs,O,r => by simp only [RepC] at r
 | .vsub ..,cs,O,r => by simp only [RepC] at r
 | .ptr ..,cs,O,r => by simp only [RepC] at r
theorem repL_row {h : Array Obj} {S : Nat → Prop} : ∀ (xs : List AV) {cs : List Value} {O : Nat → Prop},RepL h S xs cs O → ∀ k,O k → (∃ c e,Row h k c e) ∨ ∃ es ck,h[k]? = some (.map es ck)
 | [],cs,O,r => by simp only [RepL] at r; exact fun k hk => (r.2 k hk).elim
 | x :: xs,cs,O,r => by
  simp only [RepL] at r
  obtain ⟨c1,c2,O1,O2,h1,h2,h3,h4,h5⟩:=r
  intro k hk
  rcases (h2 k).1 hk with hk | hk
  ·exact repC_row x h4 k hk
  ·exact repL_row xs h5 k hk
end
section
variable {P : Program} {h0 : Array Obj} {ok O0 : Nat → Prop} {σ : St} {a : Act} {w : World} {Os : Nat → Nat → Prop}
theorem wrote_row {w : World} {B o : Nat} {c : Array Value} {e : TypeId} {fr : Nat × Nat} {vs : List Value} (hb : w.heap[B]? = some (.cells c e fr)) (hl : o + vs.length ≤ c.size) (W : Nat → Prop) :
  Wrote W w.heap (w.setRow B (c.toList.take o ++ vs ++ c.toList.drop (o + vs.length)).toArray).heap B o vs:=by
 refine ⟨fun k _ hk => setRow_other w B _ hk,c,_,e,fr,hb,setRow_heap w B c _ e fr hb,?_,hl,fun j => ?_⟩
 ·simp only [List.size_toArray,List.length_append,List.length_take,List.length_drop,Array.length_toList]; omega
 ·simp only [List.getElem?_toArray]
  have hlt : (c.toList.take o).length = o:=by rw [List.length_take,Array.length_toList]; omega
  split
  ·rename_i hj
   rw [List.append_assoc,List.getElem?_append_right (by omega),hlt,List.getElem?_append_left (by omega)]
  ·rename_i hj
   by_cases h1 : j < o
   ·rw [List.append_assoc,List.getElem?_append_left (by omega),List.getElem?_take,if_pos h1]; simp
   ·rw [List.getElem?_append_right (by simp only [List.length_append,hlt]; omega),List.getElem?_drop,List.length_append,hlt]
    rw [show o + vs.length + (j - (o + vs.length)) = j by omega]; simp
def storeW (P : Program) (σ : St) (t : TypeId) (x v : Operand) (K : St → Prop) : Prop :=
 let σ1:=pull σ v
 match srcOf σ1 x with
 | .pto s p y => v ≠ .tmp s ∧ (ev σ1 v).stor = true ∧ ncells (ev σ1 v) = ncells y ∧ szOf P t = ncells y ∧ 0 < ncells y ∧ K (setP σ1 s p (ev σ1 v) (wipe (usedOf σ1 [v])))
 | _ => False
theorem set_same {tm : Array Value} {s : Nat} {u : Value} (h : tm[s]? = some u) : tm.setIfInBounds s u = tm:=by
 apply Array.ext_getElem?
 intro j
 by_cases hj : s = j
 ·subst hj
  rw [Array.getElem?_setIfInBounds_self_of_lt (Array.getElem?_eq_some_iff.1 h).1,h]
 ·rw [Array.getElem?_setIfInBounds_ne hj]
theorem adr_in {p : List Nat} {x y : AV} {v : Value} {S O : Nat → Prop} {B o : Nat} {h : Array Obj} (ha : adrV h p x v = some (B,o)) : p ≠ []:=by rintro rfl; simp [adrV] at ha
theorem sim_store (R : Rel h0 ok O0 σ a.tmps w.heap Os) {x v : Operand} (hx : opndOk a.tmps.size x = true) (hv : opndOk a.tmps.size v = true) {t : TypeId} {K : St → Prop} (h : storeW P σ t x v K) :
  EffOk P h0 ok O0 a w (do Instr.storeAt t (a.eval x) (a.eval v); pure .skip) none K:=by
 unfold storeW at h
 obtain ⟨Os1,R1⟩:=pull_ok R v hv
 simp only at h
 split at h
 ·rename_i s p y e
  obtain ⟨h1,h2,h3,h4,h5,h6⟩:=h
  obtain ⟨u,B,o,k1,k2,k3,k4,k5⟩:=src_pto R1 hx e
  have r':=repC_of_get (y:=y) k2 k4
  obtain ⟨cy,Oy,Ob,q1,q2,q3,q4,q5,q6,q7⟩:=placeV p _ r' k3 k4
  have hcl:=repC_len _ q1
  obtain ⟨O,g1,g2⟩:=gather1 R1 hv
  have gc:=repC_of_W g1 h2
  have gl:=repC_len _ gc
  have hBs : Os1 s B:=(q3 B).2 (.inr q6)
  have hw0:=wrote_same (W:=fun _ => True) q2 (by omega)
  obtain ⟨c0,c0',te0,fr0,z1,z2,z3,z4,_⟩:=hw0.row
  obtain ⟨c,te,fr,hb,hfr⟩:=(repC_row _ r' B hBs).resolve_right (by rintro ⟨es,ck,e⟩; rw [z1] at e; cases e)
  rw [hb] at z1
  simp only [Option.some.injEq,Obj.cells.injEq] at z1
  obtain ⟨rfl,rfl,rfl⟩:=z1
  have hfit : o + (a.eval v).cells.toList.length ≤ c.size:=by rw [gl,h3,← hcl]; exact z4
  have hst:=run_storeRow P B o te fr (a.eval v).cells.toList 0 c w hb hfr (by simpa using hfit) (repC_one _ gc)
  simp only [Nat.add_zero] at hst
  have hW:=wrote_row (w:=w) hb hfit (fun _ => True)
  generalize hw' : w.setRow B (c.toList.take o ++ (a.eval v).cells.toList ++ c.toList.drop (o + (a.eval v).cells.toList.length)).toArray = w' at hst hW
  have hsz' : w'.heap.size = w.heap.size:=by rw [← hw']; simp [World.setRow]
  have hoth : ∀ k,k ≠ B → w'.heap[k]? = w.heap[k]?:=fun k hk => hW.other k trivial hk
  have hOs : ∀ k,O k → ∃ t' ∈ usedOf (pull σ v) [v],Os1 t' k ∧ t' ≠ s:=by
   intro k hk
   obtain ⟨t',h7,h8⟩:=(g2 k).1 hk
   refine ⟨t',h7,h8,?_⟩
   rintro rfl
   exact h1 (usedOf_one h7)
  have hOb : ∀ k,O k → ¬ Os1 s k:=by
   intro k hk hs
   obtain ⟨t',_,h8,h9⟩:=hOs k hk
   exact h9 (R1.dis _ _ k h8 hs)
  have hOd : ∀ k,(O k ∨ Ob k) → (∃ t' ∈ s :: usedOf (pull σ v) [v],Os1 t' k) ∨ w.heap.size ≤ k:=by
   rintro k (hk | hk)
   ·obtain ⟨t',h7,h8,_⟩:=hOs k hk
    exact .inl ⟨t',List.mem_cons_of_mem _ h7,h8⟩
   ·exact .inl ⟨s,List.mem_cons_self ..,(q3 k).2 (.inr hk)⟩
  have hshB : ∀ k,Sh ok Os1 k → k ≠ B:=by rintro k hk rfl; exact hk.2 s hBs
  have hslt : s < a.tmps.size:=(Array.getElem?_eq_some_iff.1 k1).1
  have hag : Agree w.heap w'.heap (Sh ok Os1) (Sh ok (ownR Os1 s (fun k => O k ∨ Ob k) (s :: usedOf (pull σ v) [v]))) O:=⟨fun k hk hlt => ⟨sh_result R1 hOd hlt hk,hoth k (hshB k hk)⟩,fun k hk => hoth k (fun he => hOb k hk (he ▸ hBs))⟩
  have hrep:=q7 (fun _ => True) w'.heap (Sh ok (ownR Os1 s (fun k => O k ∨ Ob k) (s :: usedOf (pull σ v) [v]))) (ev (pull σ v) v) (a.eval v).cells.toList O hW (fun _ _ => trivial) (by rw [gl,h3,hcl]) (repC_mono _ gc hag) (fun k hk hlt => ⟨sh_result R1 hOd hlt hk,hoth k (hshB k hk)⟩) (fun k hk hb => hOb k hk ((q3 k).2 (.inr hb)))
  have hp0 : p ≠ []:=by rintro rfl; simp [adrV] at k4
  have hsu : s ∉ usedOf (pull σ v) [v]:=fun hm => h1 (usedOf_one hm)
  have hnag : (setAt (look (pull σ v) s) p (ev (pull σ v) v)).isAgg = false:=by
   cases p with
   | nil => exact absurd rfl hp0
   | cons i p => exact setAt_noagg k4 _
  have hO' : ∀ t k,ownR Os1 s (fun k => O k ∨ Ob k) (s :: usedOf (pull σ v) [v]) t k → (t = s ∧ (O k ∨ Ob k)) ∨ (t ≠ s ∧ t ∉ usedOf (pull σ v) [v] ∧ Os1 t k):=by
   intro t k htk
   unfold ownR at htk
   split at htk
   ·exact .inl ⟨‹_›,htk⟩
   ·split at htk
    ·exact htk.elim
    ·rename_i n1 n2
     simp only [List.mem_cons,not_or] at n2
     exact .inr ⟨n1,n2.2,htk⟩
  have hOO : ∀ t k,ownR Os1 s (fun k => O k ∨ Ob k) (s :: usedOf (pull σ v) [v]) t k → ∃ t',Os1 t' k:=by
   intro t k hk
   rcases hO' t k hk with ⟨_,hk | hk⟩ | ⟨_,_,hk⟩
   ·obtain ⟨t',_,h8,_⟩:=hOs k hk; exact ⟨t',h8⟩
   ·exact ⟨s,(q3 k).2 (.inr hk)⟩
   ·exact ⟨t,hk⟩
  have R':=R1.stepP (wipe (usedOf (pull σ v) [v])) a.tmps w'.heap (ownR Os1 s (fun k => O k ∨ Ob k) (s :: usedOf (pull σ v) [v])) (by rw [keys_wipe]; exact hsu) k1 k3 k4 h3 hW (by rw [gl,h3]) rfl (fun _ _ => rfl)
   (by
    intro t ht hts k
    rw [keys_wipe] at ht
    simp [ownR,hts,ht])
   (by
    intro k _ hk t ht
    obtain ⟨t',ht'⟩:=hOO t k ht
    exact hk.2 t' ht')
   (by
    intro t ht u' hu'
    rw [look_wipe]
    simp only [RepW]
    rw [keys_wipe] at ht
    intro k hk
    rcases hO' t k hk with ⟨rfl,_⟩ | ⟨_,h2',_⟩
    ·exact hsu ht
    ·exact h2' ht)
   (by
    refine repW_of_C1 (repC_cong _ hrep (fun k => ?_)) hnag
    simp [ownR])
   (by
    intro t ht hge k hk
    rw [keys_wipe] at ht
    rcases hO' t k hk with ⟨rfl,_⟩ | ⟨_,h2',_⟩
    ·exact hsu ht
    ·exact h2' ht)
   (by
    intro s' t k g1' g2'
    rcases hO' s' k g1' with ⟨rfl,g1⟩ | ⟨a1,a2,g1⟩ <;> rcases hO' t k g2' with ⟨rfl,g2⟩ | ⟨b1,b2,g2⟩
    ·rfl
    ·exfalso
     rcases g1 with g1 | g1
     ·obtain ⟨t',h7,h8,_⟩:=hOs k g1
      have:=R1.dis _ _ k g2 h8; subst this; exact b2 h7
     ·exact b1 (R1.dis _ _ k g2 ((q3 k).2 (.inr g1)))
    ·exfalso
     rcases g2 with g2 | g2
     ·obtain ⟨t',h7,h8,_⟩:=hOs k g2
      have:=R1.dis _ _ k g1 h8; subst this; exact a2 h7
     ·exact a1 (R1.dis _ _ k g1 ((q3 k).2 (.inr g2)))
    ·exact R1.dis _ _ k g1 g2)
   (by
    intro t k hk
    obtain ⟨t',ht'⟩:=hOO t k hk
    exact R1.own t' k ht')
   (by
    intro t _
    rw [look_wipe]; rfl)
   (by rw [hsz']; exact Nat.le_refl _)
  refine ⟨.skip,undef,w',_,_,?_,.inr ⟨rfl,rfl⟩,h6,R',by rw [← hw']; rfl,by rw [← hw']; rfl,by rw [← hw']; rfl⟩
  have hsz : (sizeOf t).run P w = .ok (szOf P t) w:=run_size (by omega)
  have hcs : (a.eval v).cells.size = szOf P t:=by
   have:=gl; rw [Array.length_toList] at this; rw [this,h3,h4]
  simp [Instr.storeAt,Instr.sureAddr,k5,storeVar,hsz,hcs,hst]
 ·exact h.elim
end
end Go.Proofs.YtpffgegfjpdncaaGreatDoor.Am
namespace Go.Proofs.YtpffgegfjpdncaaGreatDoor.Am
open Go.RowKit AV
set_option linter.unusedVariables false
def bytesA (s : List UInt8) : List AV:=s.map fun b => .int .u8 b.toNat
def toB : AV → Option UInt8
 | .int .u8 n => some (UInt8.ofNat n.toNat)
 | _ => none
def bytesBack : List AV → Option (List UInt8)
 | [] => some []
 | x :: r => match toB x,bytesBack r with | some b,some bs => some (b :: bs) | _,_ => none
theorem bytesBack_bytesA : ∀ s : List UInt8,bytesBack (bytesA s) = some s
 | [] => rfl
 | b :: r => by
  have:=bytesBack_bytesA r
  simp only [bytesA] at this ⊢
  simp only [List.map_cons,bytesBack,this,toB]
  simp
theorem repL_bytes {h : Array Obj} {S : Nat → Prop} : ∀ s : List UInt8,RepL h S (bytesA s) (s.map fun b => Value.int .u8 b.toNat) (fun _ => False)
 | [] => by simp only [bytesA,List.map_nil,RepL]; exact ⟨trivial,emp_false⟩
 | b :: r => by
  simp only [bytesA,List.map_cons,RepL]
  exact ⟨[.int .u8 b.toNat],_,fun _ => False,fun _ => False,rfl,by simp,by simp,by simp only [RepC]; exact ⟨trivial,emp_false⟩,repL_bytes r⟩
theorem back_cells {h : Array Obj} {S : Nat → Prop} : ∀ (xs : List AV) {s : List UInt8} {m : List Value} {O : Nat → Prop},bytesBack xs = some s → RepL h S xs m O →
  ∃ ns : List Int,m = ns.map (Value.int .u8) ∧ s = ns.map fun n => UInt8.ofNat n.toNat
 | [],s,m,O,e,r => by
  simp only [bytesBack,Option.some.injEq] at e; subst e
  simp only [RepL] at r
  exact ⟨[],by simp [r.1],rfl⟩
 | x :: xs,s,m,O,e,r => by
  simp only [bytesBack] at e
  split at e
  ·rename_i b bs e1 e2
   simp only [Option.some.injEq] at e; subst e
   simp only [RepL] at r
   obtain ⟨c1,c2,O1,O2,rfl,_,_,r1,r2⟩:=r
   obtain ⟨ns,rfl,rfl⟩:=back_cells xs e2 r2
   cases x with
   | int k n =>
    simp only [RepC] at r1
    cases k <;> simp only [toB,reduceCtorEq,Option.some.injEq] at e1
    subst e1
    exact ⟨n :: ns,by simp [r1.1],rfl⟩
   | _ => simp [toB] at e1
  ·cases e
section
variable {P : Program} {h0 : Array Obj} {ok O0 : Nat → Prop} {σ : St} {a : Act} {w : World} {Os : Nat → Nat → Prop}
def isU8 : AV → Bool
 | .int .u8 n => n == 0
 | _ => false
def strBytesW (P : Program) (σ : St) (src dst : TypeId) (x : Operand) (d : Nat) (K : St → Prop) : Prop :=
 match ev σ x with
 | .str s => (tinfo P src).kind = 4 ∧ (tinfo P dst).kind = 1 ∧ (tinfo P dst).esz = 1 ∧ isU8 (tinfo P dst).ezero = true ∧ s.length ≤ 4611686018427387904 ∧ K (put σ d (.sl true 1 (bytesA s)) [])
 | _ => False
theorem elem_u8 {e : TypeId} (h : isU8 (zeroA P 12 e) = true) : P.underlying e = some (.int .u8):=by
 unfold zeroA at h
 split at h <;> simp only [isU8,Bool.false_eq_true] at h
 rename_i k e1
 cases k <;> simp_all
theorem sim_strBytes (R : Rel h0 ok O0 σ a.tmps w.heap Os) {x : Operand} (hx : opndOk a.tmps.size x = true) {src dst : TypeId} {d : Tmp} (hd : d < a.tmps.size) {K : St → Prop} (h : strBytesW P σ src dst x d K) :
  EffOk P h0 ok O0 a w (do pure (.value (← convert src dst (a.eval x)))) (some d) K:=by
 unfold strBytesW at h
 split at h
 ·rename_i s es
  obtain ⟨h1,h2,h3,h4,h5,h6⟩:=h
  have hv:=ev_str R hx es
  obtain ⟨e,hu,hs,hbt,_,hz0,hzk⟩:=kind1 h2
  rw [hz0] at h4
  have he:=elem_u8 h4
  let cap:=grownCap w s.length 0 e
  have hge : s.length ≤ cap:=grownCap_ge w s.length 0 e
  have hcm : cap ≤ maxLen:=grownCap_le_maxLen w s.length 0 e (by simp only [maxLen]; omega)
  let cells : Array Value:=(s.map fun (b : UInt8) => Value.int .u8 b.toNat).toArray ++ Array.replicate (cap - s.length) (.int .u8 0)
  have hcs : cells.size = cap:=by
   show ((s.map fun (b : UInt8) => Value.int .u8 b.toNat).toArray ++ Array.replicate (cap - s.length) (Value.int .u8 0)).size = cap
   simp; omega
  let w':=(w.drew.alloc (.cells cells e)).freeze ⟨w.heap.size,cap,none⟩ 1
  have hheap : w'.heap = w.heap.push (.cells cells e (cap,cap + 1)):=by
   show ((w.drew.alloc (.cells cells e)).freeze ⟨w.heap.size,cap,none⟩ 1).heap = _
   simp only [World.freeze]
   rw [if_neg (by decide)]
   apply Array.ext_getElem?
   intro j
   rw [Array.getElem?_modify]
   show (if w.heap.size = j then Option.map _ ((w.heap.push (.cells cells e))[j]?) else (w.heap.push (.cells cells e))[j]?) = _
   by_cases hj : w.heap.size = j
   ·subst hj
    rw [if_pos rfl,push_new,push_new]
    simp
   ·rw [if_neg hj,Array.getElem?_push,if_neg (fun h => hj h.symm),Array.getElem?_push,if_neg (fun h => hj h.symm)]
  have hO : ∀ k,k = w.heap.size → (∃ t ∈ ([] : List Nat),Os t k) ∨ w.heap.size ≤ k:=fun k hk => .inr (by omega)
  have hone : ∀ u ∈ cells.toList,u.oneCell' = true:=by
   intro u hu
   have : u ∈ (s.map fun b => Value.int .u8 b.toNat) ++ List.replicate (cap - s.length) (.int .u8 0):=by simpa [cells] using hu
   rcases List.mem_append.1 this with h | h
   ·obtain ⟨b,_,rfl⟩:=List.mem_map.1 h; rfl
   ·rw [List.eq_of_mem_replicate h]; rfl
  have hown:=rep_own (h:=w'.heap) (S:=Sh ok (ownR Os d (fun k => k = w.heap.size) [])) (b:=w.heap.size) (c:=cells) (e:=e) (cap:=cap) (sz:=1) (xs:=bytesA s) (O':=fun _ => False) (by decide)
   ⟨(cap,cap + 1),by rw [hheap]; exact push_new _ _,fun j hj h => by rw [hcs] at hj; omega⟩ (by rw [hcs,Nat.mul_one]) (by simpa [bytesA] using hge) hcm (by
    have : cells.toList.take ((bytesA s).length * 1) = s.map fun b => Value.int .u8 b.toNat:=by
     have hl : (bytesA s).length * 1 = (s.map fun b => Value.int .u8 b.toNat).length:=by simp [bytesA]
     rw [hl]
     have hc : cells.toList = (s.map fun b => Value.int .u8 b.toNat) ++ List.replicate (cap - s.length) (.int .u8 0):=by simp [cells]
     rw [hc]
     exact List.take_left
    rw [this]; exact repL_bytes s) (by
    intro y hy
    obtain ⟨b,_,rfl⟩:=List.mem_map.1 hy
    rfl) id hone
  have R':=R.result d (.sl true 1 (bytesA s)) (.slice (some ⟨w.heap.size,0,none⟩) s.length cap) [] w'.heap (fun k => k = w.heap.size) hd (by rw [hheap]; simp) (fun k hk _ => by rw [hheap]; exact push_old _ _ hk) hO (by
   simp only [RepW]
   have:=repC_cong _ hown (O':=fun k => k = w.heap.size) (fun k => by simp)
   simpa [bytesA] using this) trivial
  refine ⟨_,.slice (some ⟨w.heap.size,0,none⟩) s.length cap,w',_,_,?_,.inl rfl,h6,R',rfl,rfl,rfl⟩
  have hsz : (⟨s.toArray⟩ : ByteArray).size = s.length:=by simp only [ByteArray.size,List.size_toArray]
  have hshape : (w.drew.alloc (.cells cells e)).shape? w.heap.size = some (e,cap):=by
   simp only [World.shape?]
   show (match (w.heap.push (.cells cells e))[w.heap.size]? with | some (.cells c elem _) => some (elem,c.size) | _ => none) = _
   rw [push_new]
   simp [hcs]
  rw [hv]
  have hshape2 : (w.drew.alloc (.cells ((s.map fun (b : UInt8) => Value.int .u8 b.toNat).toArray ++ Array.replicate ((Question.appendCap s.length 0 e).cut (w.tape w.drawn (.appendCap s.length 0 e)) - s.length) (.int .u8 0)) e)).shape? w.heap.size = some (e,(Question.appendCap s.length 0 e).cut (w.tape w.drawn (.appendCap s.length 0 e))):=hshape
  simp [convert,run_under (kind4 h1),run_under hu,run_under he,Conv.stringToBytes,Question.forced,newRow,markStringish,hsz,hshape2]
  exact ⟨rfl,rfl⟩
 ·exact h.elim
def bytesStrW (P : Program) (σ : St) (src dst : TypeId) (x : Operand) (K : AV → Prop) : Prop :=
 (tinfo P src).kind = 1 ∧ isU8 (tinfo P src).ezero = true ∧ (tinfo P dst).kind = 4 ∧
 match srcOf σ x with
 | .slo _ _ sz xs => (sz = 1 ∨ xs = []) ∧ needW ((bytesBack xs).map AV.str) K
 | .sls sz xs => (sz = 1 ∨ xs = []) ∧ needW ((bytesBack xs).map AV.str) K
 | _ => False
theorem fold_push : ∀ (ns : List Int) (b : ByteArray),ns.foldl (fun r n => r.push (UInt8.ofNat n.toNat)) b = ⟨(b.data.toList ++ ns.map fun n => UInt8.ofNat n.toNat).toArray⟩
 | [],b => by simp
 | n :: r,b => by
  rw [List.foldl_cons,fold_push r]
  congr 1
  simp [ByteArray.push]
theorem sim_bytesStr (R : Rel h0 ok O0 σ a.tmps w.heap Os) {x : Operand} (hx : opndOk a.tmps.size x = true) {src dst : TypeId} {K : AV → Prop} (h : bytesStrW P σ src dst x K) :
  PureOk P σ ok Os a.tmps w (do pure (.value (← convert src dst (a.eval x)))) K:=by
 obtain ⟨h1,h2,h3,h⟩:=h
 obtain ⟨e,hu,hs,hbt,_,hz0,hzk⟩:=kind1 h1
 rw [hz0] at h2
 have he:=elem_u8 h2
 have fin : ∀ (xs : List AV) (m : List Value) (O : Nat → Prop) (A : Option Addr) (cap : Nat),a.eval x = .slice A xs.length cap → RepL w.heap (Sh ok Os) xs m O → m.length = xs.length → (0 < xs.length → ∃ ad,A = some ad ∧ ∀ (j : Nat) u,m[j]? = some u → cellH w.heap (ad.add j) = some u) →
   needW ((bytesBack xs).map AV.str) K → PureOk P σ ok Os a.tmps w (do pure (.value (← convert src dst (a.eval x)))) K:=by
  intro xs m O A cap hv hr hl hA hK
  cases eb : bytesBack xs with
  | none => simp [eb,needW] at hK
  | some bs =>
   simp only [eb,Option.map_some,needW] at hK
   obtain ⟨ns,rfl,rfl⟩:=back_cells xs eb hr
   refine ⟨_,.string ⟨(ns.map fun n => UInt8.ofNat n.toNat).toArray⟩,hK,?_,by simp only [RepW,RepC]; exact ⟨trivial,emp_false⟩,trivial⟩
   rw [hv]
   simp only [Sem.run_bind,run_convert_bytes_string w src dst e A _ cap hu he (kind4 h3)]
   cases A with
   | none =>
    have : xs.length = 0:=by
     rcases Nat.eq_zero_or_pos xs.length with h | h
     ·exact h
     ·obtain ⟨ad,h',_⟩:=hA h; cases h'
    have : ns = []:=List.eq_nil_of_length_eq_zero (by rw [List.length_map] at hl; omega)
    subst this
    simp [Conv.bytesToString]
    rfl
   | some ad =>
    have hload : (loadCells ad xs.length).run P w = .ok (ns.map (Value.int .u8)).toArray w:=by
     rw [← hl]
     refine run_loadCells_list w ad _ (fun j v hj => ?_)
     have hp : 0 < xs.length:=by
      rw [← hl]
      exact Nat.lt_of_le_of_lt (Nat.zero_le _) (List.getElem?_eq_some_iff.1 hj).1
     obtain ⟨ad',h',hc⟩:=hA hp
     cases h'
     rw [cell_eq]; exact hc j v hj
    rw [run_bytesToString w ad xs.length cap ns hload,fold_push]
    simp
 split at h
 ·rename_i s p sz xs es
  obtain ⟨hsz,hK⟩:=h
  obtain ⟨u,k1,k2,k3,k4⟩:=src_slo R hx es
  obtain ⟨⟨Oy,r,hOy⟩,_⟩:=slo_rep k2 k3 k4
  simp only [RepC] at r
  rcases r with ⟨rfl,gv,gO⟩ | ⟨hszp,b,c,te,cap,O',gv,hrow,hcs,hlc,hcm,hrl,hun,hnb,hO,hone⟩
  ·have hv : a.eval x = .slice none 0 0:=by simpa using gv
   exact fin [] [] (fun _ => False) none 0 hv (by simp only [RepL]; exact ⟨trivial,emp_false⟩) rfl (by simp) hK
  ·have hv : a.eval x = .slice (some ⟨b,0,none⟩) xs.length cap:=by simpa using gv
   refine fin xs _ O' _ cap hv hrl ?_ (fun _ => ⟨_,rfl,fun j u hj => row_cells hrow hj⟩) hK
   rw [repL_len _ hrl,len_of_uni hun]
   rcases hsz with rfl | rfl
   ·simp
   ·simp
 ·rename_i sz xs es
  obtain ⟨hsz,hK⟩:=h
  obtain ⟨r,_,_⟩:=src_sls R hx es
  simp only [RepC] at r
  obtain ⟨⟨A,cap,m,r1,r2,r3,r4,r5⟩,_⟩:=r
  have hv : a.eval x = .slice A xs.length cap:=by simpa using r1
  refine fin xs m _ A cap hv r3 ?_ (fun hp => ?_) hK
  ·rw [repL_len _ r3,len_of_uni r4]
   rcases hsz with rfl | rfl
   ·simp
   ·simp
  ·obtain ⟨ad,h',_,hc⟩:=r5 hp
   exact ⟨ad,h',hc⟩
 ·exact h.elim
def convertW (P : Program) (σ : St) (src dst : TypeId) (x : Operand) (d : Option Tmp) (K : St → Prop) : Prop :=
 match (tinfo P src).kind,(tinfo P dst).kind,d with
 | 4,1,some d => strBytesW P σ src dst x d K
 | 1,4,d => bytesStrW P σ src dst x (pureK σ d K)
 | 5,5,d => convW P σ src dst x (pureK σ d K)
 | _,_,_ => False
end
end Go.Proofs.YtpffgegfjpdncaaGreatDoor.Am
namespace Go.Proofs.YtpffgegfjpdncaaGreatDoor.Am
open Go.RowKit AV Go.Instr
set_option linter.unusedVariables false
def keyV : AV → Value
 | .str s => .string ⟨s.toArray⟩
 | .int k n => .int k n
 | _ => .nilFunc
def sameK : AV → AV → Bool
 | .str _,.str _ => true
 | .int k _,.int k' _ => decide (k = k')
 | _,_ => false
def mapKey : TypeDesc → AV → Bool
 | .string,.str _ => true
 | .int _,.int _ _ => true
 | _,_ => false
def kvKeys (k : AV) (kvs : List AV) : Prop:=∀ y ∈ kvs,∃ k' v,y = .agg [k',v] ∧ sameK k k' = true
def kvAt (k v : AV) (kvs : List AV) (j : Nat) : Prop:=kvs[j]? = some (.agg [k,v]) ∧ ∀ i,i < j → ∀ v',kvs[i]? ≠ some (.agg [k,v'])
def kvNo (k : AV) (kvs : List AV) : Prop:=∀ (i : Nat) v',kvs[i]? ≠ some (.agg [k,v'])
theorem same_now {kd : TypeDesc} {k k' : AV} (h : mapKey kd k = true) (h2 : sameK k k' = true) : (k = k' → sameNow kd (keyV k) (keyV k') = some true) ∧ (k ≠ k' → sameNow kd (keyV k) (keyV k') = some false):=by
 cases k <;> cases k' <;> simp only [sameK,Bool.false_eq_true] at h2
 ·cases kd <;> simp only [mapKey,Bool.false_eq_true] at h
  simp only [decide_eq_true_eq] at h2
  subst h2
  refine ⟨fun e => by cases e; simp [sameNow,keyV],fun e => ?_⟩
  simp only [sameNow,keyV,if_pos,Option.some.injEq,beq_eq_false_iff_ne]
  rintro rfl; exact e rfl
 ·cases kd <;> simp only [mapKey,Bool.false_eq_true] at h
  rename_i s1 s2
  have hb : ((⟨s1.toArray⟩ : ByteArray) == ⟨s2.toArray⟩) = (s1 == s2):=by
   rw [show ((⟨s1.toArray⟩ : ByteArray) == ⟨s2.toArray⟩) = (s1.toArray == s2.toArray) from rfl]
   simp
  refine ⟨fun e => ?_,fun e => ?_⟩
  ·cases e; simp only [sameNow,keyV,hb]; simp
  ·simp only [sameNow,keyV,hb,Option.some.injEq,beq_eq_false_iff_ne,ne_eq]
   rintro rfl; exact e rfl
theorem find_now {kd : TypeDesc} {k : AV} (hk : mapKey kd k = true) : ∀ (es : List MapEntry) (kvs : List AV) (n : Nat),kvs.length = es.length → kvKeys k kvs →
  (∀ (i : Nat) e k' v',es[i]? = some e → kvs[i]? = some (.agg [k',v']) → e.key = keyV k') →
  (∀ j v,kvAt k v kvs j → ∃ e,es[j]? = some e ∧ findNow kd (keyV k) es n = some (some (n + j,e.val))) ∧ (kvNo k kvs → findNow kd (keyV k) es n = some none)
 | [],[],n,hl,hkk,hv => ⟨fun j v h => by simp [kvAt] at h,fun _ => rfl⟩
 | e :: es,[],n,hl,hkk,hv => by simp at hl
 | [],y :: kvs,n,hl,hkk,hv => by simp at hl
 | e :: es,y :: kvs,n,hl,hkk,hv => by
  obtain ⟨k',v',rfl,hs⟩:=hkk y (List.mem_cons_self ..)
  have he:=hv 0 e k' v' rfl rfl
  have hn:=same_now hk hs
  obtain ⟨ih1,ih2⟩:=find_now hk es kvs (n + 1) (by simpa using hl) (fun z hz => hkk z (List.mem_cons_of_mem _ hz)) (fun i e k' v' h1 h2 => hv (i + 1) e k' v' (by simpa using h1) (by simpa using h2))
  unfold findNow
  rw [he]
  by_cases heq : k = k'
  ·rw [hn.1 heq]
   subst heq
   simp only
   refine ⟨fun j v hj => ?_,fun hno => absurd rfl (hno 0 v')⟩
   cases j with
   | zero => exact ⟨e,rfl,rfl⟩
   | succ j => exact absurd rfl (hj.2 0 (by omega) v')
  ·rw [hn.2 heq]
   simp only
   refine ⟨fun j v hj => ?_,fun hno => ih2 fun i v h => hno (i + 1) v (by simpa using h)⟩
   cases j with
   | zero =>
    have:=hj.1
    simp only [List.getElem?_cons_zero,Option.some.injEq,AV.agg.injEq,List.cons.injEq] at this
    exact absurd this.1.symm heq
   | succ j =>
    obtain ⟨e',h1,h2⟩:=ih1 j v ⟨by simpa using hj.1,fun i hi v h => hj.2 (i + 1) (by omega) v (by simpa using h)⟩
    exact ⟨e',by simpa using h1,by rw [h2]; simp; omega⟩
theorem kvCells_split {es : List MapEntry} {j : Nat} {e : MapEntry} (h : es[j]? = some e) : kvCells es = kvCells (es.take j) ++ (e.key.cells.toList ++ e.val.cells.toList) ++ kvCells (es.drop (j + 1)):=by
 have hl:=(List.getElem?_eq_some_iff.1 h).1
 have he:=(List.getElem?_eq_some_iff.1 h).2
 conv => lhs; rw [← List.take_append_drop j es,List.drop_eq_getElem_cons hl,he]
 simp [kvCells,List.flatMap_append]
theorem kvCells_len {es : List MapEntry} {kvs : List AV} (h : KvOk es kvs) (j : Nat) : (kvCells (es.take j)).length = ncellsL (kvs.take j):=by
 obtain ⟨hl,hk⟩:=h
 induction j with
 | zero => simp [kvCells,ncellsL]
 | succ j ih =>
  by_cases hj : j < es.length
  ·have hj2 : j < kvs.length:=by omega
   obtain ⟨k,v,hy,h1,h2,_⟩:=hk j _ _ (List.getElem?_eq_getElem hj) (List.getElem?_eq_getElem hj2)
   rw [List.take_succ_eq_append_getElem hj,List.take_succ_eq_append_getElem hj2]
   have e1 : ∀ (a : List MapEntry) e,kvCells (a ++ [e]) = kvCells a ++ (e.key.cells.toList ++ e.val.cells.toList):=fun a e => by simp [kvCells,List.flatMap_append]
   have e2 : ∀ (a b : List AV),ncellsL (a ++ b) = ncellsL a + ncellsL b:=by
    intro a b; induction a with
    | nil => simp [ncellsL]
    | cons x a ih => simp only [List.cons_append,ncellsL,ih]; omega
   rw [e1,e2,List.length_append,ih,hy]
   simp only [Array.length_toList,List.length_append,ncellsL,ncells,h1.1,h2]
   omega
  ·rw [List.take_of_length_le (by omega),List.take_of_length_le (by omega)]
   rw [List.take_of_length_le (by omega),List.take_of_length_le (by omega)] at ih
   exact ih
theorem repW_of_cells {h : Array Obj} {S O : Nat → Prop} {x : AV} {v : Value} (r : RepC h S x v.cells.toList O) (ha : vAgg v = aAgg x) : RepW h S x v O:=by
 have one : vAgg v = false → v.cells.toList = [v]:=by intro hv; cases v <;> simp_all [vAgg,Value.cells]
 have agg : vAgg v = true → ∃ cs,v = .agg cs:=by intro hv; cases v <;> simp_all [vAgg]
 cases x
 case agg fs =>
  obtain ⟨cs,rfl⟩:=agg (by rw [ha]; rfl)
  simp only [RepW]
  exact ⟨cs,rfl,by simpa [Value.cells] using r⟩
 case arr sz fs =>
  obtain ⟨cs,rfl⟩:=agg (by rw [ha]; rfl)
  simp only [RepW]
  exact ⟨cs,rfl,by simpa [Value.cells] using r⟩
 case undef => simp only [RepW]; simp only [RepC] at r; exact r.2
 all_goals first
  | (simp only [RepC] at r; done)
  | (rw [one (by rw [ha]; rfl)] at r; simpa only [RepW] using r)
theorem one_agg {v : Value} (h : v.oneCell' = true) : vAgg v = false:=by
 cases v <;> simp_all [Value.oneCell',vAgg]
theorem cells_of_repW {h : Array Obj} {S O : Nat → Prop} {x : AV} {v : Value} (r : RepW h S x v O) (hs : x.stor = true) : RepC h S x v.cells.toList O ∧ v.cells.size = ncells x ∧ vAgg v = aAgg x:=by
 have c:=repC_of_W r hs
 refine ⟨c,by have:=repC_len _ c; simpa using this,?_⟩
 cases x <;> simp only [AV.stor,Bool.false_eq_true] at hs <;> simp only [RepW] at r
 case agg => obtain ⟨cs,rfl,_⟩:=r; rfl
 case arr => obtain ⟨cs,rfl,_⟩:=r; rfl
 all_goals exact one_agg (repC_one _ r v (by simp))
theorem kv_get {h : Array Obj} {S : Nat → Prop} {es : List MapEntry} {kvs : List AV} (r : RepL h S kvs (kvCells es) (fun _ => False)) (hk : KvOk es kvs) {i : Nat} {e : MapEntry} {k v : AV} (he : es[i]? = some e) (hy : kvs[i]? = some (.agg [k,v])) :
  RepW h S k e.key (fun _ => False) ∧ RepW h S v e.val (fun _ => False):=by
 obtain ⟨k2,v2,e1,⟨z1,z2⟩,z3,z4⟩:=hk.2 i e _ he hy
 simp only [AV.agg.injEq,List.cons.injEq,and_true] at e1
 obtain ⟨rfl,rfl⟩:=e1
 obtain ⟨m1,cy,m2,Oy,Ob,g1,g2,g3,g4,_,_⟩:=repL_at kvs i _ r hy
 have hs:=kvCells_split he
 have hl:=kvCells_len hk i
 have hc : cy = e.key.cells.toList ++ e.val.cells.toList:=by
  have l1:=repC_len _ g3
  simp only [ncells,ncellsL,Nat.add_zero] at l1
  rw [hs,List.append_assoc,List.append_assoc m1] at g1
  have a1:=List.append_inj g1 (by rw [hl,g2])
  have a2:=List.append_inj a1.2 (by rw [l1,List.length_append]; simp [z1,z3])
  exact a2.1.symm
 subst hc
 have hf : ∀ k,¬ Oy k:=fun x hx => (g4 x).2 (.inl hx)
 simp only [RepC,RepL] at g3
 obtain ⟨c1,c2,O1,O2,h1,h2,h3,h4,c3,c4,O3,O4,h5,h6,h7,h8,rfl,_⟩:=g3
 rw [List.append_nil] at h5
 subst h5
 have a1:=List.append_inj h1 (by rw [repC_len _ h4]; simpa using z1)
 obtain ⟨rfl,rfl⟩:=a1
 exact ⟨repW_of_cells (repC_cong _ h4 fun x => ⟨fun h => h.elim,fun h => hf x ((h2 x).2 (.inl h))⟩) z2,repW_of_cells (repC_cong _ h8 fun x => ⟨fun h => h.elim,fun h => hf x ((h2 x).2 (.inr ((h6 x).2 (.inl h))))⟩) z4⟩
theorem key_val {h : Array Obj} {S O : Nat → Prop} {k : AV} {a : Value} (hk : ∃ k2,sameK k2 k = true) (r : RepW h S k a O) : a = keyV k:=by
 obtain ⟨k2,hk⟩:=hk
 cases k <;> cases k2 <;> simp only [sameK,Bool.false_eq_true] at hk <;> simp only [RepW,RepC] at r
 ·simpa [keyV] using r.1
 ·simpa [keyV] using r.1
section
variable {P : Program} {h0 : Array Obj} {ok O0 : Nat → Prop} {σ : St} {a : Act} {w : World} {Os : Nat → Nat → Prop}
theorem run_get {b : Nat} {es : Array MapEntry} {ck : Nat} (h : w.heap[b]? = some (.map es ck)) : (getObj b).run P w = .ok (.map es ck) w:=by
 simp [getObj,Sem.run,h]
theorem run_set {b : Nat} {es : Array MapEntry} {ck : Nat} (o : Obj) (h : w.heap[b]? = some (.map es ck)) : (setObj b o).run P w = .ok () { w with heap:=w.heap.setIfInBounds b o }:=by
 simp [setObj,Sem.run,h]
def zvOk (P : Program) (t : TypeId) : Bool:=match P.info? t with
 | some i => (match i.zero with | some v => vAgg v == aAgg (tinfo P t).zero | none => false)
 | none => false
def makeMapW (σ : St) (d : Nat) (K : St → Prop) : Prop:=K (put σ d (.mp []) [])
theorem sim_makeMap (R : Rel h0 ok O0 σ a.tmps w.heap Os) {t : TypeId} {d : Tmp} (hd : d < a.tmps.size) {K : St → Prop} (h : makeMapW σ d K) :
  EffOk P h0 ok O0 a w (do pure (.value (← Instr.makeMap t none))) (some d) K:=by
 have R':=R.result d (.mp []) (.map (some w.heap.size)) [] (w.heap.push (.map #[] 0)) (fun k => k = w.heap.size) hd (by simp) (fun k hk _ => push_old _ _ hk) (fun k hk => .inr (by rw [hk]; exact Nat.le_refl _))
  (by
   simp only [RepW,RepC]
   exact ⟨w.heap.size,#[],0,rfl,push_new _ _,by simp only [kvCells,List.flatMap_nil,RepL]; exact ⟨trivial,emp_false⟩,⟨rfl,fun i e y h => by simp at h⟩,fun k => Iff.rfl⟩) trivial
 refine ⟨_,.map (some w.heap.size),w.alloc (.map #[] 0),_,_,?_,.inl rfl,h,R',rfl,rfl,rfl⟩
 simp [Instr.makeMap]
def mapOf (σ : St) (m : Operand) : Option (Nat × List AV):=match ev σ m with
 | .vref s [] => (match look σ s with | .mp kvs => some (s,kvs) | _ => none)
 | .mp kvs => (match m with | .tmp t => some (t,kvs) | _ => none)
 | _ => none
theorem map_src (R : Rel h0 ok O0 σ a.tmps w.heap Os) {m : Operand} (hm : opndOk a.tmps.size m = true) {s : Nat} {kvs : List AV} (e : mapOf σ m = some (s,kvs)) :
  s < a.tmps.size ∧ look σ s = .mp kvs ∧ a.tmps[s]? = some (a.eval m) ∧ ∃ b es ck,a.eval m = .map (some b) ∧ w.heap[b]? = some (.map es ck) ∧ RepL w.heap (Sh ok Os) kvs (kvCells es.toList) (fun _ => False) ∧ KvOk es.toList kvs ∧ Os s b:=by
 unfold mapOf at e
 split at e
 ·rename_i s' he
  split at e
  ·rename_i kvs' hl
   simp only [Option.some.injEq,Prod.mk.injEq] at e
   obtain ⟨rfl,rfl⟩:=e
   have hr:=(ev_rep R hm).2
   rw [he] at hr
   obtain ⟨u,y,h1,h2,h3,h4⟩:=hr
   have hv : a.eval m = u:=by
    rcases h4 with ⟨_,h⟩ | ⟨B,o,ha,_⟩
    ·exact h
    ·simp [adrV] at ha
   have r:=R.rep s' u h1
   rw [hl] at r
   simp only [RepW,RepC] at r
   obtain ⟨b,es,ck,g1,g2,g3,g4,g5⟩:=r
   refine ⟨(Array.getElem?_eq_some_iff.1 h1).1,hl,by rw [hv]; exact h1,b,es,ck,by rw [hv]; simpa using g1,g2,g3,g4,(g5 b).2 rfl⟩
  ·cases e
 ·rename_i kvs' he
  cases m with
  | tmp t =>
   simp only [Option.some.injEq,Prod.mk.injEq] at e
   obtain ⟨rfl,rfl⟩:=e
   have hlt : t < a.tmps.size:=by simpa [opndOk] using hm
   have h1 : a.tmps[t]? = some (a.eval (.tmp t)):=by simp [Act.eval,hlt]
   have hl : look σ t = .mp kvs':=he
   have r:=R.rep t _ h1
   rw [hl] at r
   simp only [RepW,RepC] at r
   obtain ⟨b,es,ck,g1,g2,g3,g4,g5⟩:=r
   exact ⟨hlt,hl,h1,b,es,ck,by simpa using g1,g2,g3,g4,(g5 b).2 rfl⟩
  | const c => simp at e
  | global g => simp at e
  | func f => simp at e
 ·cases e
def MapT (P : Program) (t et : TypeId) (kd : TypeDesc) (k : AV) (kvs : List AV) : Prop :=
 ∃ kt,P.underlying t = some (.map kt et) ∧ P.underlying kt = some kd ∧ mapKey kd k = true ∧ kvKeys k kvs
def lookupW (P : Program) (σ : St) (t : TypeId) (m k : Operand) (okB : Bool) (K : AV → Prop) : Prop :=
  ∃ s kvs et kd,mapOf σ m = some (s,kvs) ∧ MapT P t et kd (ev σ k) kvs ∧
    ((∃ j v,kvAt (ev σ k) v kvs j ∧ v.target = none ∧ K (if okB = true then .tup [v,.bool true] else v)) ∨
     (kvNo (ev σ k) kvs ∧ (tinfo P et).zok = true ∧ zvOk P et = true ∧ (tinfo P et).zero.target = none ∧ K (if okB = true then .tup [(tinfo P et).zero,.bool false] else (tinfo P et).zero)))
theorem key_ev (R : Rel h0 ok O0 σ a.tmps w.heap Os) {k : Operand} (hk : opndOk a.tmps.size k = true) {kd : TypeDesc} (h : mapKey kd (ev σ k) = true) : a.eval k = keyV (ev σ k):=by
 cases e : ev σ k <;> rw [e] at h <;> cases kd <;> simp only [mapKey,Bool.false_eq_true] at h
 ·exact ev_int R hk e
 ·exact ev_str R hk e
theorem run_check {b : Bool} {kt : TypeId} {kd : TypeDesc} (hu : P.underlying kt = some kd) {k : AV} (h : mapKey kd k = true) : (checkKey b 10000 kt (keyV k)).run P w = .ok () w:=by
 rw [show (10000 : Nat) = 9999 + 1 from rfl,checkKey]
 cases k <;> cases kd <;> simp only [mapKey,Bool.false_eq_true] at h
 ·simp only [Sem.run_bind,run_under hu,Result.andThen_ok,keyV,Sem.run_pure]
 ·simp only [Sem.run_bind,run_under hu,Result.andThen_ok,keyV,Sem.run_pure]
theorem kv_keys {h : Array Obj} {S : Nat → Prop} {es : List MapEntry} {kvs : List AV} (r : RepL h S kvs (kvCells es) (fun _ => False)) (hk : KvOk es kvs) {k : AV} (hkk : kvKeys k kvs) (i : Nat) (e : MapEntry) (k' v' : AV) (he : es[i]? = some e) (hy : kvs[i]? = some (.agg [k',v'])) : e.key = keyV k':=by
 obtain ⟨r1,_⟩:=kv_get r hk he hy
 obtain ⟨k2,v2,e2,hs⟩:=hkk _ (List.mem_of_getElem? hy)
 simp only [AV.agg.injEq,List.cons.injEq,and_true] at e2
 obtain ⟨rfl,rfl⟩:=e2
 exact key_val ⟨k,hs⟩ r1
theorem sim_lookup (R : Rel h0 ok O0 σ a.tmps w.heap Os) {t : TypeId} {m k : Operand} {okB : Bool} (hm : opndOk a.tmps.size m = true) (hk : opndOk a.tmps.size k = true) {K : AV → Prop} (h : lookupW P σ t m k okB K) :
  PureOk P σ ok Os a.tmps w (do pure (.value (← Instr.lookup t (a.eval m) (a.eval k) okB))) K:=by
 obtain ⟨s,kvs,et,kd,h1,⟨kt,h2,h3,h4,h5⟩,h6⟩:=h
 obtain ⟨_,_,_,b,es,ck,g1,g2,g3,g4,_⟩:=map_src R hm h1
 have ek:=key_ev R hk h4
 obtain ⟨f1,f2⟩:=find_now h4 es.toList kvs 0 g4.1 h5 (fun i e k' v' => kv_keys g3 g4 h5 i e k' v')
 have tup : ∀ (y : AV) (v : Value) (bb : Bool),RepW w.heap (Sh ok Os) y v (fun _ => False) → y.target = none →
   RepW w.heap (Sh ok Os) (if okB = true then .tup [y,.bool bb] else y) (if okB = true then .tuple #[v,.bool bb] else v) (fun _ => False) ∧ (if okB = true then AV.tup [y,.bool bb] else y).target = none:=by
  intro y v bb r ht
  cases okB
  ·exact ⟨by simpa using r,by simpa using ht⟩
  ·refine ⟨?_,rfl⟩
   simp only [if_true,RepW]
   exact ⟨_,rfl,by simp only [RepWs]; exact ⟨v,[.bool bb],fun _ => False,fun _ => False,rfl,by simp,by simp,r,.bool bb,[],fun _ => False,fun _ => False,rfl,by simp,by simp,by simp only [RepW,RepC]; exact ⟨trivial,emp_false⟩,rfl,emp_false⟩⟩
 rcases h6 with ⟨j,v,hj,htg,hK⟩ | ⟨hno,hz,hzv,htg,hK⟩
 ·obtain ⟨e,he,hf⟩:=f1 j v hj
  obtain ⟨_,r2⟩:=kv_get g3 g4 he hj.1
  obtain ⟨q1,q2⟩:=tup v e.val true r2 htg
  refine ⟨_,_,hK,?_,q1,aliasOk_none q2⟩
  rw [ek,g1]
  simp [Instr.lookup,run_under h2,run_get g2,run_check h3 h4,findKey,run_under h3,hf]
 ·rw [(tinfo_base et).2.2.2.2] at hz
  obtain ⟨i,z,hi,hiz,hzs,hr⟩:=zok_rep hz w.heap (Sh ok Os)
  rw [← (tinfo_base et).2.2.2.1] at hr
  have hzz : RepW w.heap (Sh ok Os) (tinfo P et).zero z (fun _ => False):=repW_of_cells hr (by simpa [zvOk,hi,hiz] using hzv)
  obtain ⟨q1,q2⟩:=tup (tinfo P et).zero z false hzz htg
  refine ⟨_,_,hK,?_,q1,aliasOk_none q2⟩
  rw [ek,g1]
  simp [Instr.lookup,run_under h2,run_get g2,run_check h3 h4,findKey,run_under h3,f2 hno,zeroValue,typeInfo,hi,hiz]
theorem same_bits {k : AV} {kd : TypeDesc} (h : mapKey kd k = true) : sameBits 10000 (keyV k) (keyV k) = true:=by
 cases k <;> cases kd <;> simp only [mapKey,Bool.false_eq_true] at h
 ·simp [keyV,sameBits]
 ·rename_i s
  have hb : ((⟨s.toArray⟩ : ByteArray) == ⟨s.toArray⟩) = true:=by
   rw [show ((⟨s.toArray⟩ : ByteArray) == ⟨s.toArray⟩) = (s.toArray == s.toArray) from rfl]
   simp
  simpa [keyV,sameBits] using hb
def mapUpdateW (P : Program) (σ : St) (t : TypeId) (m k v : Operand) (K : St → Prop) : Prop :=
  ∃ s kvs et kd,mapOf σ m = some (s,kvs) ∧ MapT P t et kd (ev σ k) kvs ∧ plain (ev σ v) = true ∧ (ev σ v).stor = true ∧
    ((∃ j v0,kvAt (ev σ k) v0 kvs j ∧ K (put σ s (.mp (kvs.set j (.agg [ev σ k,ev σ v]))) [s])) ∨
     (kvNo (ev σ k) kvs ∧ K (put σ s (.mp (kvs ++ [.agg [ev σ k,ev σ v]])) [s])))
theorem entry_rep {h : Array Obj} {S : Nat → Prop} {k v : AV} {a b : Value} (r1 : RepC h S k a.cells.toList (fun _ => False)) (r2 : RepC h S v b.cells.toList (fun _ => False)) : RepC h S (.agg [k,v]) (a.cells.toList ++ b.cells.toList) (fun _ => False):=by
 simp only [RepC,RepL]
 exact ⟨a.cells.toList,b.cells.toList,fun _ => False,fun _ => False,rfl,by simp,by simp,r1,b.cells.toList,[],fun _ => False,fun _ => False,by simp,by simp,by simp,r2,rfl,emp_false⟩
theorem turn_map (R : Rel h0 ok O0 σ a.tmps w.heap Os) {s b : Nat} {u : Value} (hs : s < a.tmps.size) (hu : a.tmps[s]? = some u) (hv : u = .map (some b)) (hb : Os s b) {es : Array MapEntry} {ck : Nat} (hh : w.heap[b]? = some (.map es ck)) {kvs' : List AV} {es' : Array MapEntry} {ck' : Nat}
  (r : ∀ h' S',Agree w.heap h' (Sh ok Os) S' (fun _ => False) → RepL h' S' kvs' (kvCells es'.toList) (fun _ => False)) (hk : KvOk es'.toList kvs') :
  ∃ Os',Rel h0 ok O0 (put σ s (.mp kvs') [s]) a.tmps (w.heap.setIfInBounds b (.map es' ck')) Os':=by
 have hlt : b < w.heap.size:=(Array.getElem?_eq_some_iff.1 hh).1
 have hoth : ∀ k,k ≠ b → (w.heap.setIfInBounds b (Obj.map es' ck'))[k]? = w.heap[k]?:=fun k hk => Array.getElem?_setIfInBounds_ne (Ne.symm hk)
 have hO : ∀ k,k = b → (∃ t ∈ [s],Os t k) ∨ w.heap.size ≤ k:=fun k hk => .inl ⟨s,by simp,by rw [hk]; exact hb⟩
 have R':=R.result s (.mp kvs') u [s] (w.heap.setIfInBounds b (.map es' ck')) (fun k => k = b) hs (by simp) (fun k _ hn => hoth k (fun e => hn s (by simp) (by rw [e]; exact hb))) hO
  (by
   rw [hv]
   simp only [RepW,RepC]
   refine ⟨b,es',ck',rfl,by simp [hlt],r _ _ ⟨fun k hk hkl => ⟨sh_result R hO hkl hk,hoth k (fun e => hk.2 s (by rw [e]; exact hb))⟩,fun k hk => hk.elim⟩,hk,fun k => Iff.rfl⟩) trivial
 rw [set_same hu] at R'
 exact ⟨_,R'⟩
theorem sim_mapUpdate (R : Rel h0 ok O0 σ a.tmps w.heap Os) {t : TypeId} {m k v : Operand} (hm : opndOk a.tmps.size m = true) (hk : opndOk a.tmps.size k = true) (hv : opndOk a.tmps.size v = true) {K : St → Prop} (h : mapUpdateW P σ t m k v K) :
  EffOk P h0 ok O0 a w (do Instr.mapUpdate t (a.eval m) (a.eval k) (a.eval v); pure .skip) none K:=by
 obtain ⟨s,kvs,et,kd,h1,⟨kt,h2,h3,h4,h5⟩,h6,h7,h8⟩:=h
 obtain ⟨hs,hl,hu,b,es,ck,g1,g2,g3,g4,g5⟩:=map_src R hm h1
 have ek:=key_ev R hk h4
 obtain ⟨f1,f2⟩:=find_now h4 es.toList kvs 0 g4.1 h5 (fun i e k' v' => kv_keys g3 g4 h5 i e k' v')
 have rv:=(ev_rep R hv).1
 obtain ⟨cv,lv,av⟩:=cells_of_repW rv h7
 have pv:=repC_plain _ cv h6
 have cv : RepC w.heap (Sh ok Os) (ev σ v) (a.eval v).cells.toList (fun _ => False):=repC_cong _ cv fun x => ⟨fun h => h.elim,fun h => pv x h⟩
 have rk : RepC w.heap (Sh ok Os) (ev σ k) (keyV (ev σ k)).cells.toList (fun _ => False) ∧ (keyV (ev σ k)).cells.size = ncells (ev σ k) ∧ vAgg (keyV (ev σ k)) = aAgg (ev σ k):=by
  cases e : ev σ k <;> rw [e] at h4 <;> cases kd <;> simp only [mapKey,Bool.false_eq_true] at h4
  ·simp only [keyV,Value.cells,RepC,ncells]; exact ⟨⟨trivial,emp_false⟩,rfl,rfl⟩
  ·simp only [keyV,Value.cells,RepC,ncells]; exact ⟨⟨trivial,emp_false⟩,rfl,rfl⟩
 obtain ⟨rk,lk,ak⟩:=rk
 rcases h8 with ⟨j,v0,hj,hK⟩ | ⟨hno,hK⟩
 ·obtain ⟨e,he,hf⟩:=f1 j v0 hj
  have hjl:=(List.getElem?_eq_some_iff.1 he).1
  have hee:=kv_keys g3 g4 h5 j e _ _ he hj.1
  have hes : (es.modify j fun e => { e with key:=keyV (ev σ k),val:=a.eval v }).toList = es.toList.take j ++ { e with key:=keyV (ev σ k),val:=a.eval v } :: es.toList.drop (j + 1):=by
   rw [Array.toList_modify,List.modify_eq_take_cons_drop (by simpa using hjl)]
   have:=(List.getElem?_eq_some_iff.1 he).2
   rw [this]
  have hcells : kvCells (es.modify j fun e => { e with key:=keyV (ev σ k),val:=a.eval v }).toList = kvCells (es.toList.take j) ++ ((keyV (ev σ k)).cells.toList ++ (a.eval v).cells.toList) ++ kvCells (es.toList.drop (j + 1)):=by
   rw [hes]; simp [kvCells,List.flatMap_append]
  obtain ⟨Os',R'⟩:=turn_map (ck':=ck) R hs hu g1 g5 g2 (kvs':=kvs.set j (.agg [ev σ k,ev σ v])) (es':=es.modify j fun e => { e with key:=keyV (ev σ k),val:=a.eval v })
   (fun h' S' ag => by
    have r0:=repL_mono kvs g3 ag
    obtain ⟨m1,cy,m2,Oy,Ob,q1,q2,q3,q4,_,q5⟩:=repL_at kvs j _ r0 hj.1
    have hsp:=kvCells_split he
    have hll:=kvCells_len g4 j
    rw [hsp,List.append_assoc,List.append_assoc m1] at q1
    have a1:=List.append_inj q1 (by rw [hll,q2])
    have a2:=List.append_inj a1.2 (by
     have l1:=repC_len _ q3
     obtain ⟨k2,v2,e1,z1,z3,_⟩:=g4.2 j e _ he hj.1
     simp only [AV.agg.injEq,List.cons.injEq,and_true] at e1
     obtain ⟨rfl,rfl⟩:=e1
     simp only [ncells,ncellsL,Nat.add_zero] at l1
     rw [l1,List.length_append]; simp [z1.1,z3])
    rw [hcells,a1.1,a2.2]
    have:=q5 h' S' (.agg [ev σ k,ev σ v]) ((keyV (ev σ k)).cells.toList ++ (a.eval v).cells.toList) (fun _ => False) ⟨fun k hk _ => ⟨hk,rfl⟩,fun _ _ => rfl⟩ (entry_rep (repC_mono _ rk ag) (repC_mono _ cv ag)) (fun _ x => x.elim)
    exact repL_cong _ this fun x => ⟨fun h => h.elim,fun h => h.elim id fun h => (q4 x).2 (.inr h)⟩)
   ⟨by rw [hes]; have:=g4.1; simp only [List.length_set,List.length_append,List.length_cons,List.length_take,List.length_drop]; omega,fun i e' y h1 h2 => by
    rw [Array.toList_modify,List.getElem?_modify] at h1
    rw [List.getElem?_set] at h2
    by_cases hij : j = i
    ·subst hij
     rw [he] at h1
     simp only [if_true,Option.map_eq_map,Option.map_some,Option.some.injEq] at h1
     rw [if_pos rfl,if_pos (by rw [g4.1]; exact hjl)] at h2
     simp only [Option.some.injEq] at h2
     subst h1; subst h2
     exact ⟨_,_,rfl,⟨lk,ak⟩,lv,av⟩
    ·rw [if_neg hij] at h2
     simp only [hij,if_false] at h1
     exact g4.2 i e' y (by simpa using h1) h2⟩
  refine ⟨_,undef,{ w with heap:=w.heap.setIfInBounds b (.map (es.modify j fun e => { e with key:=keyV (ev σ k),val:=a.eval v }) ck) },_,Os',?_,.inr ⟨rfl,rfl⟩,hK,R',rfl,rfl,rfl⟩
  rw [ek,g1]
  have hej : es[j]? = some e:=by simpa using he
  simp [Instr.mapUpdate,run_under h2,run_get g2,run_check h3 h4,findKey,run_under h3,hf,hej,hee,keyThatStays,same_bits h4,run_set _ g2]
 ·obtain ⟨Os',R'⟩:=turn_map (ck':=ck + 1) R hs hu g1 g5 g2 (kvs':=kvs ++ [.agg [ev σ k,ev σ v]]) (es':=es.push { key:=keyV (ev σ k),val:=a.eval v,born:=ck })
   (fun h' S' ag => by
    have e1 : kvCells (es.push { key:=keyV (ev σ k),val:=a.eval v,born:=ck }).toList = kvCells es.toList ++ ((keyV (ev σ k)).cells.toList ++ (a.eval v).cells.toList):=by simp [kvCells,List.flatMap_append]
    rw [e1]
    have:=repL_app kvs [.agg [ev σ k,ev σ v]] (repL_mono kvs g3 ag) (O2:=fun _ => False) (m2:=(keyV (ev σ k)).cells.toList ++ (a.eval v).cells.toList) (by
     simp only [RepL]
     exact ⟨_,[],fun _ => False,fun _ => False,by simp,by simp,by simp,entry_rep (repC_mono _ rk ag) (repC_mono _ cv ag),rfl,emp_false⟩) (fun _ x => x.elim)
    exact repL_cong _ this fun x => by simp)
   ⟨by simp [g4.1],fun i e' y h1 h2 => by
    rw [Array.toList_push] at h1
    by_cases hi : i < es.toList.length
    ·rw [List.getElem?_append_left hi] at h1
     rw [List.getElem?_append_left (by rw [g4.1]; exact hi)] at h2
     exact g4.2 i e' y h1 h2
    ·rw [List.getElem?_append_right (by omega)] at h1
     rw [List.getElem?_append_right (by rw [g4.1]; omega),g4.1] at h2
     have hi2 : i - es.toList.length = 0:=by
      have:=(List.getElem?_eq_some_iff.1 h1).1
      simp only [List.length_singleton] at this; omega
     rw [hi2] at h1 h2
     simp only [List.getElem?_cons_zero,Option.some.injEq] at h1 h2
     subst h1; subst h2
     exact ⟨_,_,rfl,⟨lk,ak⟩,lv,av⟩⟩
  refine ⟨_,undef,{ w with heap:=w.heap.setIfInBounds b (.map (es.push { key:=keyV (ev σ k),val:=a.eval v,born:=ck }) (ck + 1)) },_,Os',?_,.inr ⟨rfl,rfl⟩,hK,R',rfl,rfl,rfl⟩
  rw [ek,g1]
  simp [Instr.mapUpdate,run_under h2,run_get g2,run_check h3 h4,findKey,run_under h3,f2 hno,run_set _ g2]
end
end Go.Proofs.YtpffgegfjpdncaaGreatDoor.Am
namespace Go.Proofs.YtpffgegfjpdncaaGreatDoor.Am
open Go.RowKit AV
set_option linter.unusedVariables false
def tabN : List String:=["internal/strconv.uint64pow10", "internal/bytealg.MaxLen"]
def LaidB (P : Program) (h : Array Obj) : Prop :=
 (∀ g,P.globalNamed "internal/strconv.uint64pow10" = some g → ∃ e fr,h[g]? = some (.cells (Lib.pow10Tab.map fun z => Value.int .u64 z).toArray e fr)) ∧
 ∀ g,P.globalNamed "internal/bytealg.MaxLen" = some g → ∃ m e fr,h[g]? = some (.cells #[.int .i64 m] e fr)
def Laid (P : Program) (h : Array Obj) (O : Nat → Prop) : Prop :=
 ∃ hb,LaidB P hb ∧ ∀ n ∈ tabN,∀ g,P.globalNamed n = some g → g < h.size ∧ ¬ O g ∧ h[g]? = hb[g]?
theorem Laid.sub {P : Program} {h : Array Obj} {O O' : Nat → Prop} (L : Laid P h O) (hs : ∀ k,O' k → O k) : Laid P h O':=by
 obtain ⟨hb,l1,l2⟩:=L
 exact ⟨hb,l1,fun n hn g hg => ⟨(l2 n hn g hg).1,fun x => (l2 n hn g hg).2.1 (hs g x),(l2 n hn g hg).2.2⟩⟩
theorem Rel.laid {P : Program} {h0 h : Array Obj} {ok O0 : Nat → Prop} {σ : St} {tm : Array Value} {Os : Nat → Nat → Prop} (R : Rel h0 ok O0 σ tm h Os) (L : Laid P h0 O0) {O : Nat → Prop} (hs : ∀ k,O k → O0 k ∨ h0.size ≤ k) : Laid P h O:=by
 obtain ⟨hb,l1,l2⟩:=L
 refine ⟨hb,l1,fun n hn g hg => ?_⟩
 obtain ⟨a,b,c⟩:=l2 n hn g hg
 refine ⟨Nat.lt_of_lt_of_le a R.size,fun x => ?_,(R.keep g a b).trans c⟩
 rcases hs g x with h | h
 ·exact b h
 ·exact absurd a (Nat.not_lt.2 h)
structure Ctx (P : Program) where
 h0 : Array Obj
 ok : Nat → Prop
 O0 : Nat → Prop
 os : Os
 tape : Nat → Question → Nat
 out : Array (Nat × ByteArray)
 n : Nat
 ks : List Nat
 kv : Nat → Value
 all : ∀ k,O0 k ∨ h0.size ≤ k → ok k
 lay : Laid P h0 O0
def Sim {P : Program} (C : Ctx P) (σ : St) (a : Act) (w : World) : Prop :=
 (∃ Os,Rel C.h0 C.ok C.O0 σ a.tmps w.heap Os) ∧ (∀ t ∈ C.ks,a.tmps[t]? = some (C.kv t)) ∧ a.tmps.size = C.n ∧ a.defers = [] ∧ w.os = C.os ∧ w.tape = C.tape ∧ w.output = C.out
def opsOk (n : Nat) (xs : List Operand) : Bool:=xs.all (opndOk n)
def operOk (n : Nat) (ks : List Nat) (o : Oper) : Bool:=opsOk n o.op.operands.toList && (match o.dst with | some d => decide (d < n) && !ks.contains d | none => true)
def mvX (y : AV) (σ : St) (x : Operand) (dst : Option Tmp) (K : St → Prop) : Prop:=match y,dst with
 | .tup vs,some d => if plainL vs = true then moveW σ x (pureK σ (some d) K) else assignW σ x d K
 | _,dst => moveW σ x (pureK σ dst K)
def live : AV → Bool
 | .undef => false
 | .tup vs => plainL vs
 | _ => true
theorem mvX_live {y : AV} {σ : St} {x : Operand} {dst : Option Tmp} {K : St → Prop} (h : y = .undef ∨ live y = true) : mvX y σ x dst K = moveW σ x (pureK σ dst K):=by
 cases y
 case tup vs =>
  have h : plainL vs = true:=by simpa [live] using h
  cases dst <;> simp [mvX,h]
 all_goals rfl
theorem mvX_or {y : AV} {σ : St} {x : Operand} {dst : Option Tmp} {K : St → Prop} (h : mvX y σ x dst K) : moveW σ x (pureK σ dst K) ∨ ∃ d,dst = some d ∧ assignW σ x d K:=by
 unfold mvX at h
 split at h
 ·split at h
  ·exact .inl h
  ·exact .inr ⟨_,rfl,h⟩
 ·exact .inl h
def minA (x y : AV) : Option AV:=match x,y with
 | .int k a,.int k' b => if k = k' then some (.int k (if b < a then b else a)) else none
 | _,_ => none
def opW (P : Program) (callW : Call → Option Tmp → St → (St → Prop) → Prop) (σ : St) (o : Oper) (K : St → Prop) : Prop :=
 match o.op,o.dst with
 | .move x,dst => mvX (ev σ x) σ x dst K
 | .assign x,some d => assignW σ x d K
 | .nilCheck x,dst => nilW σ x (pureK σ dst K)
 | .pick c x y,dst => pickW σ c x y (pureK σ dst K)
 | .alloc t,some d => allocW P σ t d K
 | .box _ x,some d => boxW σ x d K
 | .build t ps,some d => buildW P σ t ps.toList d K
 | .buildSlice t n ps,some d => buildSliceW P σ t n ps.toList d K
 | .load t x,dst => loadW P σ t x (pureK σ dst K)
 | .store t x v,none => storeW P σ t x v K
 | .binOp op t x y _,dst => needW (binA P op t (ev σ x) (ev σ y)) (pureK σ dst K)
 | .unOp op _ x,dst => needW (unA op (ev σ x)) (pureK σ dst K)
 | .convert s t x,dst => convertW P σ s t x dst K
 | .makeSlice t l c,some d => makeW P σ t l c d K
 | .slice t x lo hi none,dst => sliceStrW P σ t x lo hi (pureK σ dst K)
 | .fieldAddr t x f,dst => fieldAddrW P σ t x f (pureK σ dst K)
 | .indexAddr t x i,dst => indexAddrW P σ t x i (pureK σ dst K)
 | .index t x i,dst => indexW P σ t x i (pureK σ dst K)
 | .extract x i,some d => extractW σ x i d K
 | .makeMap _ none,some d => makeMapW σ d K
 | .lookup t m k b,dst => lookupW P σ t m k b (pureK σ dst K)
 | .mapUpdate t m k v,none => mapUpdateW P σ t m k v K
 | .insert t m k v,none => mapUpdateW P σ t m k v K
 | .call c,dst =>
  (match c.callee,c.args.toList,c.argTypes.toList,dst with
  | .builtin .len,[x],[t],dst => lenW σ P t x (pureK σ dst K)
  | .builtin .min,[x,y],[_,_],dst => needW (minA (ev σ x) (ev σ y)) (pureK σ dst K)
  | .builtin .append,[x,y],[t,t'],some d => t = t' ∧ (match srcOf (pull σ x) y with
   | .slo _ _ _ ys => if plainL ys then appendW P σ t x y d K else appendMW P σ t x y d K
   | _ => appendW P σ t x y d K)
  | _,_,_,dst => callW c dst σ K)
 | _,_ => False
def CallsOk (P : Program) (callW : Call → Option Tmp → St → (St → Prop) → Prop) : Prop :=
 ∀ (C : Ctx P) (c : Call) (o : Oper) (σ : St) (K : St → Prop) (a : Act) (w : World) (Q : Exit → Act → World → Prop),o.op = .call c → operOk a.tmps.size C.ks o = true → Sim C σ a w → callW c o.dst σ K →
  o.wp P a w (fun a' w' => ∃ σ',K σ' ∧ Sim C σ' a' w') Q
section
variable {P : Program} {C : Ctx P} {σ : St} {a : Act} {w : World} {K : St → Prop} {Q : Exit → Act → World → Prop}
theorem wp_of_eff {o : Oper} (hs : (∀ t ∈ C.ks,a.tmps[t]? = some (C.kv t)) ∧ a.tmps.size = C.n ∧ a.defers = [] ∧ w.os = C.os ∧ w.tape = C.tape ∧ w.output = C.out) (hkd : ∀ d,o.dst = some d → d ∉ C.ks) {run : Sem Next} (hr : (execOp a.eval o).run P w = run.run P w) (E : EffOk P C.h0 C.ok C.O0 a w run o.dst K) :
  o.wp P a w (fun a' w' => ∃ σ',K σ' ∧ Sim C σ' a' w') Q:=by
 obtain ⟨nx,v,w',σ',Os',h1,h2,h3,h4,h5,h6,h7⟩:=E
 obtain ⟨s0,s1,s2,s3,s4,s5⟩:=hs
 have hk : ∃ σ',K σ' ∧ Sim C σ' (a.put o.dst v) w':=by
  refine ⟨σ',h3,⟨Os',h4⟩,?_,?_,?_,h5.trans s3,h6.trans s4,h7.trans s5⟩
  ·intro t ht
   cases hd : o.dst with
   | none => exact s0 t ht
   | some d =>
    have : d ≠ t:=fun e => hkd d hd (e ▸ ht)
    show (a.tmps.setIfInBounds d v)[t]? = _
    rw [Array.getElem?_setIfInBounds_ne this]
    exact s0 t ht
  ·cases hd : o.dst <;> simp [Act.put,s1]
  ·cases hd : o.dst <;> simp [Act.put,s2]
 unfold Oper.wp
 rw [hr,h1]
 rcases h2 with rfl | ⟨rfl,rfl⟩
 ·exact hk
 ·exact hk
theorem wp_of_pure {o : Oper} {Os : Nat → Nat → Prop} (R : Rel C.h0 C.ok C.O0 σ a.tmps w.heap Os) (hs : (∀ t ∈ C.ks,a.tmps[t]? = some (C.kv t)) ∧ a.tmps.size = C.n ∧ a.defers = [] ∧ w.os = C.os ∧ w.tape = C.tape ∧ w.output = C.out) (hkd : ∀ d,o.dst = some d → d ∉ C.ks) {run : Sem Next} (hr : (execOp a.eval o).run P w = run.run P w) (hd : ∀ d,o.dst = some d → d < a.tmps.size)
  (h : PureOk P σ C.ok Os a.tmps w run (pureK σ o.dst K)) : o.wp P a w (fun a' w' => ∃ σ',K σ' ∧ Sim C σ' a' w') Q :=
 wp_of_eff hs hkd hr (eff_of_pure R hd h)
theorem opsOk_mem {n : Nat} {xs : List Operand} (h : opsOk n xs = true) : ∀ x ∈ xs,opndOk n x = true:=by
 simpa [opsOk] using h
theorem sim_min {h0 : Array Obj} {ok O0 : Nat → Prop} {Os : Nat → Nat → Prop} (R : Rel h0 ok O0 σ a.tmps w.heap Os) {x y : Operand} (hx : opndOk a.tmps.size x = true) (hy : opndOk a.tmps.size y = true) {ts : Array TypeId} {t : TypeId} {K : AV → Prop} (h : needW (minA (ev σ x) (ev σ y)) K) :
  PureOk P σ ok Os a.tmps w (do pure (.value (← Builtin.min_ ts t #[a.eval x,a.eval y]))) K:=by
 unfold needW at h
 cases e : minA (ev σ x) (ev σ y) with
 | none => rw [e] at h; exact h.elim
 | some z =>
  rw [e] at h
  unfold minA at e
  split at e
  ·rename_i k m k' n e1 e2
   split at e
   ·rename_i hk
    subst hk
    simp only [Option.some.injEq] at e
    subst e
    rw [ev_int R hx e1,ev_int R hy e2]
    refine ⟨_,.int k (if n < m then n else m),h,?_,scal_int _ _ _ _,trivial⟩
    simp [Builtin.min_,Builtin.min2]
   ·cases e
  ·cases e
theorem sim_op {callW : Call → Option Tmp → St → (St → Prop) → Prop} (hc : CallsOk P callW) {o : Oper} (ho : operOk a.tmps.size C.ks o = true) (S : Sim C σ a w) (h : opW P callW σ o K) :
  o.wp P a w (fun a' w' => ∃ σ',K σ' ∧ Sim C σ' a' w') Q:=by
 have S0:=S
 obtain ⟨⟨Os,R⟩,hs⟩:=S
 have hall:=ho
 simp only [operOk,Bool.and_eq_true] at ho
 obtain ⟨ho,hdst⟩:=ho
 have hx:=opsOk_mem ho
 have hd : ∀ d,o.dst = some d → d < a.tmps.size:=by
  intro d e; rw [e] at hdst; simp only [Bool.and_eq_true,decide_eq_true_eq] at hdst; exact hdst.1
 have hkd : ∀ d,o.dst = some d → d ∉ C.ks:=by
  intro d e; rw [e] at hdst; simp only [Bool.and_eq_true,decide_eq_true_eq] at hdst; simpa using hdst.2
 obtain ⟨dst,op,ty,pos,after,guard⟩:=o
 simp only at hd hx hkd
 unfold opW at h
 simp only at h
 split at h
 all_goals (first | exact h.elim | skip)
 all_goals (try subst_vars)
 all_goals (simp only [Op.operands] at hx)
 ·rcases mvX_or h with hm | ⟨d,rfl,hm⟩
  ·exact wp_of_pure R hs hkd rfl hd (sim_move R (hx _ (by simp)) hm)
  ·exact wp_of_eff hs hkd rfl (sim_assign R (hx _ (by simp)) (hd _ rfl) hm)
 ·exact wp_of_eff hs hkd rfl (sim_assign R (hx _ (by simp)) (hd _ rfl) h)
 ·exact wp_of_pure R hs hkd rfl hd (sim_nil R (hx _ (by simp)) h rfl)
 ·exact wp_of_pure R hs hkd rfl hd (sim_pick R (hx _ (by simp)) (hx _ (by simp)) (hx _ (by simp)) h)
 ·exact wp_of_eff hs hkd rfl (sim_alloc R (hd _ rfl) h)
 ·exact wp_of_eff hs hkd rfl (sim_box R (hx _ (by simp)) (hd _ rfl) h)
 ·exact wp_of_eff hs hkd rfl (sim_build R (fun p hp => hx _ (by simp; exact ⟨p.1,by simpa using hp⟩)) (hd _ rfl) h)
 ·exact wp_of_eff hs hkd rfl (sim_buildSlice R (fun p hp => hx _ (by simp; exact ⟨p.1,by simpa using hp⟩)) (hd _ rfl) h)
 ·exact wp_of_pure R hs hkd rfl hd (sim_load R (hx _ (by simp)) h)
 ·exact wp_of_eff hs hkd rfl (sim_store R (hx _ (by simp)) (hx _ (by simp)) h)
 ·exact wp_of_pure R hs hkd rfl hd (sim_bin R (hx _ (by simp)) (hx _ (by simp)) h)
 ·exact wp_of_pure R hs hkd rfl hd (sim_un R (hx _ (by simp)) h)
 ·unfold convertW at h
  split at h
  ·exact wp_of_eff hs hkd rfl (sim_strBytes R (hx _ (by simp)) (hd _ rfl) h)
  ·exact wp_of_pure R hs hkd rfl hd (sim_bytesStr R (hx _ (by simp)) h)
  ·exact wp_of_pure R hs hkd rfl hd (sim_conv R (hx _ (by simp)) h)
  ·exact h.elim
 ·exact wp_of_eff hs hkd rfl (sim_make R (hx _ (by simp)) (hx _ (by simp)) (hd _ rfl) h)
 ·exact wp_of_pure R hs hkd rfl hd (sim_sliceStr R (hx _ (by simp)) (fun l hl => hx _ (by simp [hl])) (fun l hl => hx _ (by simp [hl])) h)
 ·exact wp_of_pure R hs hkd rfl hd (sim_fieldAddr R (hx _ (by simp)) h)
 ·exact wp_of_pure R hs hkd rfl hd (sim_indexAddr R (hx _ (by simp)) (hx _ (by simp)) h)
 ·exact wp_of_pure R hs hkd rfl hd (sim_index R (hx _ (by simp)) (hx _ (by simp)) h)
 ·exact wp_of_eff hs hkd rfl (sim_extract R (hx _ (by simp)) (hd _ rfl) h)
 ·exact wp_of_eff hs hkd rfl (sim_makeMap R (hd _ rfl) h)
 ·exact wp_of_pure R hs hkd rfl hd (sim_lookup R (hx _ (by simp)) (hx _ (by simp)) h)
 ·exact wp_of_eff hs hkd rfl (sim_mapUpdate R (hx _ (by simp)) (hx _ (by simp)) (hx _ (by simp)) h)
 ·exact wp_of_eff hs hkd rfl (sim_mapUpdate R (hx _ (by simp)) (hx _ (by simp)) (hx _ (by simp)) h)
 ·rename_i c
  split at h
  ·rename_i dst' x t e1 e2 e3
   obtain ⟨callee,args,argTypes⟩:=c
   simp only at e1 e2 e3
   have ea : args = #[x]:=by rw [← Array.toArray_toList (xs:=args),e2]
   have et : argTypes = #[t]:=by rw [← Array.toArray_toList (xs:=argTypes),e3]
   subst e1 ea et
   exact wp_of_pure (run:=do pure (.value (← Builtin.len_ #[t] ty #[a.eval x]))) R hs hkd (by simp [execOp,resolve,invoke,builtin]) hd (sim_len R (hx _ (by simp [Call.operands])) h rfl)
  ·rename_i dst' x y t t' e1 e2 e3
   obtain ⟨callee,args,argTypes⟩:=c
   simp only at e1 e2 e3
   have ea : args = #[x,y]:=by rw [← Array.toArray_toList (xs:=args),e2]
   have et : argTypes = #[t,t']:=by rw [← Array.toArray_toList (xs:=argTypes),e3]
   subst e1 ea et
   exact wp_of_pure (run:=do pure (.value (← Builtin.min_ #[t,t'] ty #[a.eval x,a.eval y]))) R hs hkd (by simp [execOp,resolve,invoke,builtin]) hd (sim_min R (hx _ (by simp [Call.operands])) (hx _ (by simp [Call.operands])) h)
  ·rename_i x y t t' d' e1 e2 e3
   obtain ⟨callee,args,argTypes⟩:=c
   simp only at e1 e2 e3
   have ea : args = #[x,y]:=by rw [← Array.toArray_toList (xs:=args),e2]
   have et : argTypes = #[t,t']:=by rw [← Array.toArray_toList (xs:=argTypes),e3]
   subst e1 ea et
   obtain ⟨rfl,h⟩:=h
   have hxx:=hx x (by simp [Call.operands])
   have hyy:=hx y (by simp [Call.operands])
   refine wp_of_eff (run:=do pure (.value (← Builtin.append_ #[t,t] ty #[a.eval x,a.eval y]))) hs hkd (by simp [execOp,resolve,invoke,builtin]) ?_
   split at h
   ·split at h
    ·exact sim_append R hxx hyy (hd _ rfl) h
    ·exact sim_appendM R hxx hyy (hd _ rfl) h
   ·exact sim_append R hxx hyy (hd _ rfl) h
  ·exact hc C c _ σ K a w Q rfl hall S0 h
end
end Go.Proofs.YtpffgegfjpdncaaGreatDoor.Am
namespace Go.Proofs.YtpffgegfjpdncaaGreatDoor.Am
open Go.RowKit AV
set_option linter.unusedVariables false
def condW (σ : St) (all : List Oper) (o : Oper) (Y N : Prop) : Prop :=
 match o.guard with
 | none => Y
 | some (g,want) => (match all[g]? with
  | some og => (match og.dst with
   | some t => (match look σ t with
    | .bool b => if b = want then Y else N
    | .tup [] => N
    | _ => False)
   | none => N)
  | none => N)
def skipW (σ : St) (o : Oper) (K : St → Prop) : Prop:=match o.dst with | some d => K (put σ d (.tup []) []) | none => K σ
def opsW (P : Program) (callW : Call → Option Tmp → St → (St → Prop) → Prop) (all : List Oper) : List Oper → St → (St → Prop) → Prop
 | [],σ,K => K σ
 | o :: r,σ,K => condW σ all o (opW P callW σ o fun σ' => opsW P callW all r σ' K) (skipW σ o fun σ' => opsW P callW all r σ' K)
def lift {P : Program} (C : Ctx P) (K : St → Prop) : Act → World → Prop:=fun a w => ∃ σ',K σ' ∧ Sim C σ' a w
section
variable {P : Program} {C : Ctx P} {callW : Call → Option Tmp → St → (St → Prop) → Prop}
theorem cond_sound {σ : St} {a : Act} {w : World} {ops : Array Oper} {o : Oper} {Y N : Prop} (hok : ops.toList.all (operOk C.n C.ks) = true) (S : Sim C σ a w) (h : condW σ ops.toList o Y N) :
  (Region.wanted o (yielded ops a.tmps) = true ∧ Y) ∨ (Region.wanted o (yielded ops a.tmps) = false ∧ N):=by
 obtain ⟨⟨Os,R⟩,_,hn,_⟩:=S
 unfold condW at h
 unfold Region.wanted
 split at h
 ·rename_i e
  simp only [e]
  exact .inl ⟨by simp,h⟩
 ·rename_i g want e
  simp only [e]
  simp only [yielded]
  split at h
  ·rename_i og eg
   have eg' : ops[g]? = some og:=by rw [← eg]; simp
   simp only [eg',Option.bind_some]
   split at h
   ·rename_i t et
    simp only [et,Option.bind_some]
    have hog : operOk C.n C.ks og = true:=(List.all_eq_true.1 hok) og (List.mem_of_getElem? eg)
    have ht : t < a.tmps.size:=by
     simp only [operOk,et,Bool.and_eq_true,decide_eq_true_eq] at hog
     rw [hn]; exact hog.2.1
    have hv : a.tmps[t]? = some a.tmps[t]:=Array.getElem?_eq_getElem ht
    have hr:=R.rep t _ hv
    simp only [hv]
    split at h
    ·rename_i b eb
     rw [eb] at hr
     simp only [RepW,RepC] at hr
     have hb : a.tmps[t] = .bool b:=by simpa using hr.1
     rw [hb]
     simp only
     split at h
     ·rename_i hw; subst hw; exact .inl ⟨by simp,h⟩
     ·rename_i hw; exact .inr ⟨by simpa using hw,h⟩
    ·rename_i eb
     rw [eb] at hr
     simp only [RepW,RepWs] at hr
     obtain ⟨l,hl,_⟩:=hr
     rw [hl]
     exact .inr ⟨by simp,h⟩
    ·exact h.elim
   ·rename_i et
    simp only [et,Option.bind_none]
    exact .inr ⟨by simp,h⟩
  ·rename_i eg
   have eg' : ops[g]? = none:=by rw [← Array.getElem?_toList]; exact eg
   simp only [eg',Option.bind_none]
   exact .inr ⟨by simp,h⟩
theorem skip_sound {σ : St} {a : Act} {w : World} {o : Oper} {K : St → Prop} (ho : operOk C.n C.ks o = true) (S : Sim C σ a w) (h : skipW σ o K) : lift C K (a.put o.dst undef) w:=by
 unfold skipW at h
 obtain ⟨⟨Os,R⟩,hkk,hn,hs⟩:=S
 split at h
 ·rename_i d e
  have hd : d < a.tmps.size:=by
   simp only [operOk,e,Bool.and_eq_true,decide_eq_true_eq] at ho
   rw [hn]; exact ho.2.1
  obtain ⟨Os',R'⟩:=R.put1 hd (y:=.tup []) (v:=undef) (by simp only [RepW,RepWs]; exact ⟨#[],rfl,rfl,emp_false⟩) trivial (by simp [AV.target])
  refine ⟨_,h,⟨Os',by rw [e]; exact R'⟩,?_,by rw [e]; simp [Act.put,hn],by rw [e]; exact hs⟩
  intro t ht
  rw [e]
  have : d ≠ t:=by
   rintro rfl
   simp only [operOk,e,Bool.and_eq_true] at ho
   simpa [ht] using ho.2.2
  show (a.tmps.setIfInBounds d undef)[t]? = _
  rw [Array.getElem?_setIfInBounds_ne this]
  exact hkk t ht
 ·rename_i e
  rw [e]
  exact ⟨_,h,⟨Os,R⟩,hkk,hn,hs⟩
theorem ops_sound (hc : CallsOk P callW) {ops : Array Oper} {Q : Exit → Act → World → Prop} {K : St → Prop} (hok : ops.toList.all (operOk C.n C.ks) = true) (hQ : ∀ a w,lift C K a w → Q .normal a w) :
  ∀ (l : List Oper) (i : Nat) (σ : St) (a : Act) (w : World),ops.toList.drop i = l → opsW P callW ops.toList l σ K → Sim C σ a w → wpOps P ops Q (List.range' i l.length) a w
 | [],i,σ,a,w,_,h,S => by
  simp only [List.length_nil,List.range'_zero,wpOps]
  exact hQ _ _ ⟨σ,h,S⟩
 | o :: r,i,σ,a,w,hl,h,S => by
  have hi : ops.toList[i]? = some o:=by
   have:=congrArg (·[0]?) hl
   simpa using this
  have hi' : ops[i]? = some o:=by rw [← hi]; simp
  have hr : ops.toList.drop (i + 1) = r:=by
   have:=congrArg List.tail hl
   simpa using this
  have ho : operOk C.n C.ks o = true:=(List.all_eq_true.1 hok) o (List.mem_of_getElem? hi)
  simp only [List.length_cons,List.range'_succ,wpOps,hi']
  simp only [opsW] at h
  have next : ∀ a' w',lift C (fun σ' => opsW P callW ops.toList r σ' K) a' w' → wpOps P ops Q (List.range' (i + 1) r.length) a' w':=by
   rintro a' w' ⟨σ',h',S'⟩
   exact ops_sound hc hok hQ r (i + 1) σ' a' w' hr h' S'
  rcases cond_sound hok S h with ⟨hw,h⟩ | ⟨hw,h⟩
  ·rw [if_pos hw]
   refine .inl (Oper.wp_mono next ?_)
   exact sim_op hc (by rw [S.2.2.1]; exact ho) S h
  ·rw [if_neg (by simp [hw])]
   exact next _ _ (skip_sound ho S h)
end
end Go.Proofs.YtpffgegfjpdncaaGreatDoor.Am
namespace Go.Proofs.YtpffgegfjpdncaaGreatDoor.Am
open Go.RowKit AV
set_option linter.unusedVariables false
def aimIn (ks : List Nat) : AV → Bool
 | .vref s _ | .vagg s _ | .vsub s _ _ _ | .ptr s _ => ks.contains s
 | _ => true
def noAim : St → Nat → Bool
 | [],_ => true
 | (_,x) :: r,k => (match x.target with | some s => s != k | none => true) && noAim r k
def leW (b : Bool) (x y : AV) : Prop:=if b = true then leV x y else x = y
def leGo (σ : St) (τ0 : St) : St → Prop
 | [] => True
 | (k,x) :: r => leW (noAim τ0 k) (look σ k) x ∧ aimIn (keys τ0) x = true ∧ leGo σ τ0 r
def Le (σ τ : St) : Prop:=leGo σ τ τ
theorem leW_t (x y : AV) : leW true x y = leV x y:=by simp [leW]
theorem leW_f (x y : AV) : leW false x y = (x = y):=by simp [leW]
theorem noAim_spec : ∀ {τ : St} {k : Nat},noAim τ k = true → ∀ t,(look τ t).target ≠ some k
 | [],k,_,t => by simp [look,AV.target]
 | (a,x) :: r,k,h,t => by
  simp only [noAim,Bool.and_eq_true] at h
  simp only [look]
  split
  ·intro e
   rw [e] at h
   simp at h
  ·exact noAim_spec h.2 t
theorem leGo_look {σ τ0 : St} : ∀ {τ : St},leGo σ τ0 τ → ∀ k ∈ keys τ,leW (noAim τ0 k) (look σ k) (look τ k) ∧ aimIn (keys τ0) (look τ k) = true
 | [],_,k,hk => by simp [keys] at hk
 | (a,x) :: r,h,k,hk => by
  obtain ⟨h1,h2,h3⟩:=h
  simp only [look]
  by_cases hka : a = k
  ·subst hka; simp only [if_true]; exact ⟨h1,h2⟩
  ·simp only [if_neg hka]
   exact leGo_look h3 k (by simpa [keys,Ne.symm hka] using hk)
theorem look_none : ∀ {τ : St} {k : Nat},k ∉ keys τ → look τ k = .undef
 | [],k,_ => rfl
 | (a,x) :: r,k,h => by
  simp only [keys,List.mem_cons,not_or] at h
  simp only [look,if_neg (Ne.symm h.1)]
  exact look_none h.2
theorem aimIn_spec {ks : List Nat} {x : AV} (h : aimIn ks x = true) {s : Nat} (e : x.target = some s) : s ∈ ks:=by
 cases x <;> simp only [AV.target,Option.some.injEq,reduceCtorEq] at e <;> subst e <;> simpa [aimIn] using h
def Less (σ τ : St) : Prop:=∀ k,look τ k = .undef ∨ (look τ k = look σ k ∧ ∀ s,(look σ k).target = some s → (look σ s).target = none → look τ s = look σ s) ∨
 (leV (look σ k) (look τ k) ∧ (look σ k).target = none ∧ ∀ t,(look τ t).target ≠ some k)
theorem less_of_le {σ τ : St} (h : Le σ τ) : Less σ τ:=by
 have hk:=leGo_look h
 intro k
 by_cases ht : k ∈ keys τ
 ·obtain ⟨h1,h2⟩:=hk k ht
  cases hb : noAim τ k with
  | true =>
   rw [hb,leW_t] at h1
   cases htg : (look σ k).target with
   | none => exact .inr (.inr ⟨h1,rfl,noAim_spec hb⟩)
   | some s =>
    have he : look τ k = look σ k:=by
     generalize look σ k = x at h1 htg
     generalize look τ k = y at h1
     cases x <;> simp only [AV.target,reduceCtorEq] at htg <;> (cases y <;> first | (cases h1; rfl) | cases h1)
    refine .inr (.inl ⟨he,fun s' hs' _ => ?_⟩)
    cases hs'
    have hs : s ∈ keys τ:=aimIn_spec h2 (by rw [he]; exact htg)
    have hq:=(hk s hs).1
    have : noAim τ s = false:=by
     cases hn : noAim τ s with
     | false => rfl
     | true => exact absurd (by rw [he]; exact htg) (noAim_spec hn k)
    rw [this,leW_f] at hq
    exact hq.symm
  | false =>
   rw [hb,leW_f] at h1
   refine .inr (.inl ⟨h1.symm,fun s hs _ => ?_⟩)
   have hs2 : s ∈ keys τ:=aimIn_spec h2 (by rw [← h1]; exact hs)
   have hq:=(hk s hs2).1
   have : noAim τ s = false:=by
    cases hn : noAim τ s with
    | false => rfl
    | true => exact absurd (by rw [← h1]; exact hs) (noAim_spec hn k)
   rw [this,leW_f] at hq
   exact hq.symm
 ·exact .inl (look_none ht)
theorem Rel.weaken {h0 h : Array Obj} {ok O0 : Nat → Prop} {σ τ : St} {tm : Array Value} {Os : Nat → Nat → Prop} (R : Rel h0 ok O0 σ tm h Os) (hl : Less σ τ) : ∃ Os',Rel h0 ok O0 τ tm h Os':=by
 have hsub : ∀ k,Sh ok Os k → Sh ok (fun t k => leV (look σ t) (look τ t) ∧ Os t k) k:=fun k hk => ⟨hk.1,fun t ht => hk.2 t ht.2⟩
 refine ⟨fun t k => leV (look σ t) (look τ t) ∧ Os t k,?_,fun t ht k hk => R.out t ht k hk.2,fun s t k h1 h2 => R.dis s t k h1.2 h2.2,fun t k h => R.own t k h.2,?_,R.size,R.keep⟩
 ·intro t v hv
  have fin : leV (look σ t) (look τ t) → RepW h (Sh ok (fun t k => leV (look σ t) (look τ t) ∧ Os t k)) (look τ t) v (fun k => leV (look σ t) (look τ t) ∧ Os t k):=fun hle =>
   repW_cong _ (repW_le _ _ hle (repW_mono _ (R.rep t v hv) ⟨fun k hk _ => ⟨hsub k hk,rfl⟩,fun _ _ => rfl⟩)) (fun k => by simp [hle])
  rcases hl t with ht | ⟨ht,hs⟩ | ⟨ht,_⟩
  ·rw [ht]
   simp only [RepW]
   rintro k ⟨hk1,hk2⟩
   have hu : look σ t = .undef:=by
    generalize look σ t = x at hk1
    cases x <;> first | rfl | cases hk1
   have:=R.rep t v hv
   rw [hu] at this
   simp only [RepW] at this
   exact this k hk2
  ·exact fin (by rw [ht]; exact leV_refl _)
  ·exact fin ht
 ·intro t v hv
  rcases hl t with ht | ⟨ht,hs⟩ | ⟨ht,hn,_⟩
  ·rw [ht]; trivial
  ·rw [ht]
   have al:=R.ali t v hv
   cases htg : (look σ t).target with
   | none => exact aliasOk_none htg
   | some s =>
    refine aliasOk_same (S:=Sh ok Os) (O:=Os s) al ?_ (fun _ _ => rfl) ?_ (fun _ _ => rfl)
    ·intro s' u hs' hu
     rw [htg] at hs'; cases hs'
     exact R.rep s u hu
    ·intro s' hs' hn
     rw [htg] at hs'; cases hs'
     exact hs s htg hn
  ·exact aliasOk_none (by rw [leV_target ht]; exact hn)
theorem Sim.weaken {P : Program} {C : Ctx P} {σ τ : St} {a : Act} {w : World} (S : Sim C σ a w) (hl : Less σ τ) : Sim C τ a w:=by
 obtain ⟨⟨Os,R⟩,hs⟩:=S
 exact ⟨R.weaken hl,hs⟩
def keepV (ks : List Nat) (x : AV) : AV:=if aimIn ks x then x else .undef
def tidyGo (σ : St) (ks : List Nat) : List Nat → St
 | [] => []
 | k :: r => (k,keepV ks (look σ k)) :: tidyGo σ ks r
def tidy (ks : List Nat) (σ : St) : St:=tidyGo σ ks ks
theorem look_tidyGo {σ : St} {ks : List Nat} : ∀ (l : List Nat) (k : Nat),look (tidyGo σ ks l) k = if k ∈ l then keepV ks (look σ k) else .undef
 | [],k => by simp [tidyGo,look]
 | a :: l,k => by
  simp only [tidyGo,look,look_tidyGo l k,List.mem_cons]
  by_cases h : a = k
  ·subst h; simp
  ·simp [h,Ne.symm h]
theorem less_tidy (ks : List Nat) (σ : St) : Less σ (tidy ks σ):=by
 intro k
 unfold tidy
 rw [look_tidyGo]
 split
 ·rename_i hk
  unfold keepV
  split
  ·rename_i ha
   refine .inr (.inl ⟨rfl,fun s hs hn => ?_⟩)
   have hm:=aimIn_spec ha hs
   rw [look_tidyGo,if_pos hm]
   unfold keepV
   have : aimIn ks (look σ s) = true:=by cases hl : look σ s <;> simp_all [aimIn,AV.target]
   rw [if_pos this]
  ·exact .inl rfl
 ·exact .inl rfl
end Go.Proofs.YtpffgegfjpdncaaGreatDoor.Am
namespace Go.Proofs.YtpffgegfjpdncaaGreatDoor.Am
open Go.RowKit AV
set_option linter.unusedVariables false
def Like (σ τ : St) (s : Nat) : Prop:=look τ s = look σ s ∧ ∀ t,(look σ s).target = some t → look τ t = look σ t
def LikeX (σ τ : St) (x : Operand) : Prop:=∀ s,x = .tmp s → Like σ τ s
def From (σ : St) (xs : List Operand) (y : AV) : Prop:=∀ t,y.target = some t → ∃ s,.tmp s ∈ xs ∧ (t = s ∨ (look σ s).target = some t)
section
variable {σ τ : St} {x y z : Operand}
theorem like_ev (h : LikeX σ τ x) : ev τ x = ev σ x:=by
 cases x with
 | tmp s => exact (h s rfl).1
 | _ => rfl
theorem like_src (h : LikeX σ τ x) : srcOf τ x = srcOf σ x:=by
 unfold srcOf
 rw [like_ev h]
 have ht : ∀ s p,(ev σ x = .vref s p ∨ ev σ x = .ptr s p) → look τ s = look σ s:=by
  intro s p e
  cases x with
  | tmp s' =>
   simp only [ev] at e
   exact (h s' rfl).2 s (by rcases e with e | e <;> rw [e] <;> rfl)
  | const c =>
   have:=constV_target c
   simp only [ev] at e
   rcases e with e | e <;> rw [e] at this <;> simp [AV.target] at this
  | global g => simp [ev] at e
  | func f => simp [ev] at e
 cases e : ev σ x with
 | vref s p => simp only [ht s p (.inl e)]
 | ptr s p => simp only [ht s p (.inr e)]
 | sl o _ _ => cases o <;> rfl
 | _ => rfl
theorem from_none {xs : List Operand} {v : AV} (h : v.target = none) : From σ xs v:=by intro t ht; rw [h] at ht; cases ht
theorem From.mono {xs ys : List Operand} {v : AV} (h : From σ xs v) (hs : ∀ x ∈ xs,x ∈ ys) : From σ ys v:=by
 intro t ht
 obtain ⟨s,h1,h2⟩:=h t ht
 exact ⟨s,hs _ h1,h2⟩
theorem src_from : (∀ s p sz xs,srcOf σ x = .slo s p sz xs → ∃ s',x = .tmp s' ∧ (s = s' ∨ (look σ s').target = some s)) ∧ (∀ s p v,srcOf σ x = .pto s p v → ∃ s',x = .tmp s' ∧ (s = s' ∨ (look σ s').target = some s)):=by
 unfold srcOf
 cases x with
 | tmp s' =>
  simp only [ev]
  cases e : look σ s' with
  | sl o z l =>
   cases o
   ·simp
   ·refine ⟨?_,by simp⟩
    intro s p sz xs h
    simp only [Src.slo.injEq] at h
    exact ⟨s',rfl,.inl h.1.symm⟩
  | vref s1 p1 =>
   simp only
   constructor
   ·intro s p sz xs h
    split at h <;> simp only [Src.slo.injEq,reduceCtorEq] at h
    exact ⟨s',rfl,.inr (by rw [e]; simp [AV.target,h.1])⟩
   ·intro s p v h
    split at h <;> simp only [Src.pto.injEq,reduceCtorEq] at h
    exact ⟨s',rfl,.inr (by rw [e]; simp [AV.target,h.1])⟩
  | box v =>
   refine ⟨by simp,?_⟩
   intro s p v' h
   simp only [Src.pto.injEq] at h
   exact ⟨s',rfl,.inl h.1.symm⟩
  | ptr s1 p1 =>
   simp only
   constructor
   ·intro s p sz xs h
    split at h <;> cases h
   ·intro s p v h
    split at h <;> simp only [Src.pto.injEq,reduceCtorEq] at h
    exact ⟨s',rfl,.inr (by rw [e]; simp [AV.target,h.1])⟩
  | _ => (constructor <;> intros <;> rename_i h <;> simp only at h <;> (try split at h) <;> cases h)
 | const c =>
  have hc : (∃ k n,constV c = .int k n) ∨ (∃ b,constV c = .bool b) ∨ (∃ t,constV c = .str t) ∨ constV c = .sl true 0 [] ∨ (∃ v,constV c = .oth v) ∨ constV c = .undef:=by
   unfold constV
   split <;> simp
  simp only [ev]
  rcases hc with ⟨k,n,e⟩ | ⟨b,e⟩ | ⟨t,e⟩ | e | ⟨v,e⟩ | e <;> rw [e] <;> simp [plain]
 | global g => simp [ev]
 | func f => simp [ev,plain]
end
end Go.Proofs.YtpffgegfjpdncaaGreatDoor.Am
namespace Go.Proofs.YtpffgegfjpdncaaGreatDoor.Am
open Go.RowKit AV
set_option linter.unusedVariables false
theorem needW_ex {o : Option AV} {K : AV → Prop} (h : needW o K) : ∃ w,o = some w ∧ K w:=by
 cases o with
 | none => exact h.elim
 | some w => exact ⟨w,rfl,h⟩
def Pure1 (xs : List Operand) (W : St → (AV → Prop) → Prop) : Prop :=
 ∀ σ K,W σ K → ∃ y,From σ xs y ∧ K y ∧ ∀ τ,(∀ x ∈ xs,LikeX σ τ x) → ∀ K' : AV → Prop,K' y → W τ K'
section
variable {P : Program} {x y c i : Operand}
theorem pure_move : Pure1 [x] (fun σ K => moveW σ x K):=by
 intro σ K h
 unfold moveW at h
 split at h <;> rename_i e
 ·rename_i s p sz xs
  refine ⟨_,?_,h,fun τ hl K' hk => by simp only [moveW]; rw [like_src (hl x (by simp)),e]; exact hk⟩
  intro t ht
  simp only [AV.target,Option.some.injEq] at ht
  obtain ⟨s',rfl,h'⟩:=src_from.1 _ _ _ _ e
  exact ⟨s',by simp,by rw [← ht]; exact h'⟩
 ·refine ⟨_,?_,h,fun τ hl K' hk => by simp only [moveW]; rw [like_src (hl x (by simp)),like_ev (hl x (by simp)),e]; exact hk⟩
  refine from_none ?_
  have:=e
  unfold srcOf at this
  split at this
  ·rename_i e1; rw [e1]; rfl
  ·rename_i e1; rw [e1]; rfl
  ·split at this <;> cases this
  ·split at this <;> cases this
  ·split at this <;> cases this
  ·cases this
  ·cases this
  ·split at this <;> cases this
 ·rename_i s p v
  refine ⟨_,?_,h,fun τ hl K' hk => by simp only [moveW]; rw [like_src (hl x (by simp)),e]; exact hk⟩
  intro t ht
  simp only [AV.target,Option.some.injEq] at ht
  obtain ⟨s',rfl,h'⟩:=src_from.2 _ _ _ e
  exact ⟨s',by simp,by rw [← ht]; exact h'⟩
 ·exact ⟨_,from_none rfl,h,fun τ hl K' hk => by simp only [moveW]; rw [like_src (hl x (by simp)),e]; exact hk⟩
 ·rename_i v
  refine ⟨_,from_none ?_,h,fun τ hl K' hk => by simp only [moveW]; rw [like_src (hl x (by simp)),e]; exact hk⟩
  have:=e
  unfold srcOf at this
  split at this
  ·split at this
   ·cases this
   ·split at this <;> cases this
  ·cases this
  ·split at this <;> cases this
  ·split at this <;> cases this
  ·split at this <;> cases this
  ·cases this
  ·cases this
  ·split at this
   ·rename_i hp
    simp only [Src.va.injEq] at this
    rw [← this]; exact plain_target hp
   ·cases this
 ·unfold moveM at h
  split at h
  ·rename_i kvs t he
   refine ⟨_,?_,h,fun τ hl K' hk => by simp only [moveW]; rw [like_src (hl (.tmp t) (by simp)),like_ev (hl (.tmp t) (by simp)),e]; simp only [he,moveM]; exact hk⟩
   intro t' ht'
   simp only [AV.target,Option.some.injEq] at ht'
   exact ⟨t,by simp,.inl ht'.symm⟩
  ·exact h.elim
theorem pure_nil : Pure1 [x] (fun σ K => nilW σ x K):=by
 intro σ K h
 unfold nilW at h
 split at h <;> rename_i e
 ·rename_i s p v
  refine ⟨_,?_,h,fun τ hl K' hk => by simp only [nilW]; rw [like_src (hl x (by simp)),e]; exact hk⟩
  intro t ht
  simp only [AV.target,Option.some.injEq] at ht
  obtain ⟨s',rfl,h'⟩:=src_from.2 _ _ _ e
  exact ⟨s',by simp,by rw [← ht]; exact h'⟩
 ·exact ⟨_,from_none rfl,h,fun τ hl K' hk => by simp only [nilW]; rw [like_src (hl x (by simp)),e]; exact hk⟩
 ·exact h.elim
theorem pure_pick : Pure1 [c,x,y] (fun σ K => pickW σ c x y K):=by
 intro σ K h
 simp only [pickW] at h
 split at h
 ·rename_i t e
  cases t
  ·simp only [Bool.false_eq_true,if_false] at h
   obtain ⟨v,h1,h2,h3⟩:=pure_move σ K h
   refine ⟨v,h1.mono (by simp),h2,fun τ hl K' hk => ?_⟩
   simp only [pickW]
   rw [like_ev (hl c (by simp)),e]
   simp only [Bool.false_eq_true,if_false]
   exact h3 τ (fun z hz => hl z (by simp at hz; simp [hz])) K' hk
  ·simp only [if_true] at h
   obtain ⟨v,h1,h2,h3⟩:=pure_move σ K h
   refine ⟨v,h1.mono (by simp),h2,fun τ hl K' hk => ?_⟩
   simp only [pickW]
   rw [like_ev (hl c (by simp)),e]
   simp only [if_true]
   exact h3 τ (fun z hz => hl z (by simp at hz; simp [hz])) K' hk
 ·exact h.elim
theorem binA_target {op : BinOp} {t : TypeId} {a b v : AV} (h : binA P op t a b = some v) : v.target = none:=by
 unfold binA at h
 split at h
 ·split at h
  ·unfold intOp at h
   split at h <;> (try split at h) <;> simp only [Option.some.injEq,reduceCtorEq] at h <;> subst h <;> rfl
  ·cases h
 ·unfold strOp at h
  split at h <;> (try split at h) <;> simp only [Option.some.injEq,reduceCtorEq] at h <;> subst h <;> rfl
 ·split at h
  ·split at h <;> simp only [Option.some.injEq,reduceCtorEq] at h <;> subst h <;> rfl
  ·cases h
 ·unfold eqAgg at h
  split at h
  ·split at h
   ·split at h
    ·split at h <;> simp only [Option.some.injEq,reduceCtorEq] at h <;> subst h <;> rfl
    ·cases h
   ·cases h
  ·cases h
 ·cases h
theorem pure_bin {op : BinOp} {t : TypeId} : Pure1 [x,y] (fun σ K => needW (binA P op t (ev σ x) (ev σ y)) K):=by
 intro σ K h
 simp only at h ⊢
 cases e : binA P op t (ev σ x) (ev σ y) with
 | none => rw [e] at h; exact h.elim
 | some v =>
  rw [e] at h
  exact ⟨v,from_none (binA_target e),h,fun τ hl K' hk => by rw [like_ev (hl x (by simp)),like_ev (hl y (by simp)),e]; exact hk⟩
theorem minA_target {x y z : AV} (h : minA x y = some z) : z.target = none:=by
 unfold minA at h
 split at h
 ·split at h
  ·simp only [Option.some.injEq] at h; subst h; rfl
  ·cases h
 ·cases h
theorem pure_min : Pure1 [x,y] (fun σ K => needW (minA (ev σ x) (ev σ y)) K):=by
 intro σ K h
 simp only at h ⊢
 cases e : minA (ev σ x) (ev σ y) with
 | none => rw [e] at h; exact h.elim
 | some v =>
  rw [e] at h
  exact ⟨v,from_none (minA_target e),h,fun τ hl K' hk => by rw [like_ev (hl x (by simp)),like_ev (hl y (by simp)),e]; exact hk⟩
theorem pure_un {op : UnOp} : Pure1 [x] (fun σ K => needW (unA op (ev σ x)) K):=by
 intro σ K h
 simp only at h ⊢
 cases e : unA op (ev σ x) with
 | none => rw [e] at h; exact h.elim
 | some v =>
  rw [e] at h
  refine ⟨v,from_none ?_,h,fun τ hl K' hk => by rw [like_ev (hl x (by simp)),e]; exact hk⟩
  unfold unA at e
  split at e <;> simp only [Option.some.injEq,reduceCtorEq] at e <;> subst e <;> rfl
theorem pure_load {t : TypeId} : Pure1 [x] (fun σ K => loadW P σ t x K):=by
 intro σ K h
 simp only [loadW] at h
 split at h <;> rename_i e
 ·rename_i s p v
  obtain ⟨h1,h2,h3⟩:=h
  cases el : loaded s p v with
  | none => rw [el] at h3; exact h3.elim
  | some w =>
   rw [el] at h3
   refine ⟨w,?_,h3,fun τ hl K' hk => by simp only [loadW]; rw [like_src (hl x (by simp)),e]; exact ⟨h1,h2,by rw [el]; exact hk⟩⟩
   intro t' ht
   obtain ⟨s',rfl,h'⟩:=src_from.2 _ _ _ e
   have hts : t' = s:=by
    unfold loaded at el
    split at el
    ·rename_i hp
     split at el <;> simp only [Option.some.injEq,reduceCtorEq] at el
     subst el
     rw [plain_target hp] at ht; cases ht
    ·split at el
     ·simp only [Option.some.injEq] at el; subst el; simpa [AV.target] using ht.symm
     ·split at el
      ·simp only [Option.some.injEq] at el; subst el; simpa [AV.target] using ht.symm
      ·cases el
   exact ⟨s',by simp,by rw [hts]; exact h'⟩
 ·rename_i v
  obtain ⟨h1,h2,h3⟩:=h
  obtain ⟨w,el,h4⟩:=needW_ex h3
  refine ⟨w,from_none ?_,h4,fun τ hl K' hk => by simp only [loadW]; rw [like_src (hl x (by simp)),e]; exact ⟨h1,h2,by rw [el]; exact hk⟩⟩
  split at el
  ·rename_i hp
   split at el <;> simp only [Option.some.injEq,reduceCtorEq] at el
   subst el
   exact plain_target hp
  ·cases el
 ·exact h.elim
theorem pure_fieldAddr {t : TypeId} {f : Nat} : Pure1 [x] (fun σ K => fieldAddrW P σ t x f K):=by
 intro σ K h
 simp only [fieldAddrW] at h
 split at h
 ·rename_i off fsz ag ef
  obtain ⟨h0,h⟩:=h
  split at h <;> rename_i e
  ·rename_i s p fs
   obtain ⟨h1,h2,h3⟩:=h
   refine ⟨_,?_,h3,fun τ hl K' hk => by simp only [fieldAddrW]; rw [ef]; simp only; rw [like_src (hl x (by simp)),e]; exact ⟨h0,h1,h2,hk⟩⟩
   intro t' ht
   simp only [AV.target,Option.some.injEq] at ht
   obtain ⟨s',rfl,h'⟩:=src_from.2 _ _ _ e
   exact ⟨s',by simp,by rw [← ht]; exact h'⟩
  ·obtain ⟨h1,h2,h3⟩:=h
   exact ⟨_,from_none rfl,h3,fun τ hl K' hk => by simp only [fieldAddrW]; rw [ef]; simp only; rw [like_src (hl x (by simp)),e]; exact ⟨h0,h1,h2,hk⟩⟩
  ·exact h.elim
 ·exact h.elim
theorem pure_indexAddr {t : TypeId} : Pure1 [x,i] (fun σ K => indexAddrW P σ t x i K):=by
 intro σ K h
 simp only [indexAddrW] at h
 split at h
 ·rename_i k n ei
  split at h <;> rename_i e
  ·rename_i s p sz xs
   obtain ⟨h1,h2,h3,h4,h5,h6⟩:=h
   refine ⟨_,?_,h6,fun τ hl K' hk => by simp only [indexAddrW]; rw [like_ev (hl i (by simp)),ei]; simp only; rw [like_src (hl x (by simp)),e]; exact ⟨h1,h2,h3,h4,h5,hk⟩⟩
   intro t' ht
   simp only [AV.target,Option.some.injEq] at ht
   obtain ⟨s',rfl,h'⟩:=src_from.1 _ _ _ _ e
   exact ⟨s',by simp,by rw [← ht]; exact h'⟩
  ·obtain ⟨h1,h2,h3,h4,h5,h6⟩:=h
   exact ⟨_,from_none rfl,h6,fun τ hl K' hk => by simp only [indexAddrW]; rw [like_ev (hl i (by simp)),ei]; simp only; rw [like_src (hl x (by simp)),e]; exact ⟨h1,h2,h3,h4,h5,hk⟩⟩
  ·rename_i s p sz xs
   obtain ⟨h1,h2,h3,h4,h5,h6,h7⟩:=h
   refine ⟨_,?_,h7,fun τ hl K' hk => by simp only [indexAddrW]; rw [like_ev (hl i (by simp)),ei]; simp only; rw [like_src (hl x (by simp)),e]; exact ⟨h1,h2,h3,h4,h5,h6,hk⟩⟩
   intro t' ht
   simp only [AV.target,Option.some.injEq] at ht
   obtain ⟨s',rfl,h'⟩:=src_from.2 _ _ _ e
   exact ⟨s',by simp,by rw [← ht]; exact h'⟩
  ·obtain ⟨h1,h2,h3,h4,h5,h6,h7⟩:=h
   exact ⟨_,from_none rfl,h7,fun τ hl K' hk => by simp only [indexAddrW]; rw [like_ev (hl i (by simp)),ei]; simp only; rw [like_src (hl x (by simp)),e]; exact ⟨h1,h2,h3,h4,h5,h6,hk⟩⟩
  ·exact h.elim
 ·exact h.elim
theorem pure_len {t : TypeId} : Pure1 [x] (fun σ K => lenW σ P t x K):=by
 intro σ K h
 simp only [lenW] at h
 split at h <;> rename_i e
 ·exact ⟨_,from_none rfl,h.2,fun τ hl K' hk => by simp only [lenW]; rw [like_src (hl x (by simp)),e]; exact ⟨h.1,hk⟩⟩
 ·exact ⟨_,from_none rfl,h.2,fun τ hl K' hk => by simp only [lenW]; rw [like_src (hl x (by simp)),e]; exact ⟨h.1,hk⟩⟩
 ·exact ⟨_,from_none rfl,h.2,fun τ hl K' hk => by simp only [lenW]; rw [like_src (hl x (by simp)),e]; exact ⟨h.1,hk⟩⟩
 ·exact h.elim
theorem plainL_getD {xs : List AV} (h : plainL xs = true) (n : Nat) : (xs.getD n .undef).target = none:=by
 by_cases hn : n < xs.length
 ·rw [List.getD,List.getElem?_eq_getElem hn]
  rw [plainL_all,List.all_eq_true] at h
  exact plain_target (h _ (List.getElem_mem hn))
 ·rw [List.getD,List.getElem?_eq_none (by omega)]; rfl
theorem pure_index {t : TypeId} : Pure1 [x,i] (fun σ K => indexW P σ t x i K):=by
 intro σ K h
 simp only [indexW] at h
 split at h
 ·rename_i k n ei
  split at h <;> rename_i e
  ·obtain ⟨h1,h2,h3,h4⟩:=h
   exact ⟨_,from_none rfl,h4,fun τ hl K' hk => by simp only [indexW]; rw [like_ev (hl i (by simp)),ei]; simp only; rw [like_ev (hl x (by simp)),e]; exact ⟨h1,h2,h3,hk⟩⟩
  ·obtain ⟨h0,h1,h2,h3,h4,h5,h6,h7,h8⟩:=h
   exact ⟨_,from_none (plainL_getD h0 _),h8,fun τ hl K' hk => by simp only [indexW]; rw [like_ev (hl i (by simp)),ei]; simp only; rw [like_ev (hl x (by simp)),e]; exact ⟨h0,h1,h2,h3,h4,h5,h6,h7,hk⟩⟩
  ·exact h.elim
 ·exact h.elim
theorem pure_conv {s t : TypeId} : Pure1 [x] (fun σ K => convW P σ s t x K):=by
 intro σ K h
 simp only [convW] at h
 split at h
 ·rename_i e
  split at h
  ·rename_i eu
   exact ⟨_,from_none rfl,h.2,fun τ hl K' hk => by simp only [convW]; rw [like_ev (hl x (by simp)),e]; simp only [eu]; exact ⟨h.1,hk⟩⟩
  ·exact h.elim
 ·exact h.elim
theorem pure_bytesStr {s t : TypeId} : Pure1 [x] (fun σ K => bytesStrW P σ s t x K):=by
 intro σ K h
 simp only [bytesStrW] at h
 obtain ⟨h1,h2,h3,h⟩:=h
 have fin : ∀ (sz : Nat) (xs : List AV),(sz = 1 ∨ xs = []) → needW ((bytesBack xs).map AV.str) K → (∀ τ,(∀ z ∈ [x],LikeX σ τ z) → ∀ K' : AV → Prop,needW ((bytesBack xs).map AV.str) K' → bytesStrW P τ s t x K') →
   ∃ y,From σ [x] y ∧ K y ∧ ∀ τ,(∀ z ∈ [x],LikeX σ τ z) → ∀ K' : AV → Prop,K' y → bytesStrW P τ s t x K':=by
  intro sz xs hsz hK hW
  cases eb : bytesBack xs with
  | none => rw [eb] at hK; exact hK.elim
  | some bs =>
   rw [eb] at hK
   exact ⟨.str bs,from_none rfl,hK,fun τ hl K' hk => hW τ hl K' (by rw [eb]; exact hk)⟩
 split at h <;> rename_i e
 ·exact fin _ _ h.1 h.2 (fun τ hl K' hk => by simp only [bytesStrW]; rw [like_src (hl x (by simp)),e]; exact ⟨h1,h2,h3,h.1,hk⟩)
 ·exact fin _ _ h.1 h.2 (fun τ hl K' hk => by simp only [bytesStrW]; rw [like_src (hl x (by simp)),e]; exact ⟨h1,h2,h3,h.1,hk⟩)
 ·exact h.elim
end
end Go.Proofs.YtpffgegfjpdncaaGreatDoor.Am
namespace Go.Proofs.YtpffgegfjpdncaaGreatDoor.Am
open Go.RowKit AV
set_option linter.unusedVariables false
section
variable {P : Program} {x : Operand}
theorem pure_slice {t : TypeId} {lo hi : Option Operand} : Pure1 ([x] ++ lo.toList ++ hi.toList) (fun σ K => sliceStrW P σ t x lo hi K):=by
 intro σ K h
 simp only [sliceStrW] at h
 split at h
 ·rename_i s e
  obtain ⟨h1,h⟩:=h
  split at h
  ·rename_i l r e1 e2
   obtain ⟨h2,h3,h4,h5⟩:=h
   refine ⟨_,from_none rfl,h5,fun τ hl K' hk => ?_⟩
   simp only [sliceStrW]
   rw [like_ev (hl x (by simp)),e]
   cases lo with
   | none =>
    cases hi with
    | none => simp only [Option.some.injEq] at e1 e2; subst e1 e2; exact ⟨h1,h2,h3,h4,hk⟩
    | some r' => simp only [Option.some.injEq] at e1 e2 ⊢; subst e1; rw [like_ev (hl r' (by simp)),e2]; exact ⟨h1,h2,h3,h4,hk⟩
   | some l' =>
    cases hi with
    | none => simp only [Option.some.injEq] at e1 e2 ⊢; subst e2; rw [like_ev (hl l' (by simp)),e1]; exact ⟨h1,h2,h3,h4,hk⟩
    | some r' => simp only at e1 e2 ⊢; rw [like_ev (hl l' (by simp)),like_ev (hl r' (by simp)),e1,e2]; exact ⟨h1,h2,h3,h4,hk⟩
  ·exact h.elim
 ·rename_i sz xs e
  obtain ⟨h1,h2,h3,h⟩:=h
  split at h
  ·rename_i l r e1 e2
   obtain ⟨g1,g2,g3,g4⟩:=h
   refine ⟨_,from_none rfl,g4,fun τ hl K' hk => ?_⟩
   simp only [sliceStrW]
   rw [like_ev (hl x (by simp)),e]
   refine ⟨h1,h2,h3,?_⟩
   cases lo with
   | none =>
    cases hi with
    | none => simp only [Option.some.injEq] at e1 e2; subst e1 e2; exact ⟨g1,g2,g3,hk⟩
    | some r' => simp only [Option.some.injEq] at e1 e2 ⊢; subst e1; rw [like_ev (hl r' (by simp)),e2]; exact ⟨g1,g2,g3,hk⟩
   | some l' =>
    cases hi with
    | none => simp only [Option.some.injEq] at e1 e2 ⊢; subst e2; rw [like_ev (hl l' (by simp)),e1]; exact ⟨g1,g2,g3,hk⟩
    | some r' => simp only at e1 e2 ⊢; rw [like_ev (hl l' (by simp)),like_ev (hl r' (by simp)),e1,e2]; exact ⟨g1,g2,g3,hk⟩
  ·exact h.elim
 ·rename_i s p e
  split at h
  ·rename_i sz xs eg
   obtain ⟨h1,h2,h3,h⟩:=h
   split at h
   ·rename_i l r e1 e2
    obtain ⟨g1,g2,g3,g4⟩:=h
    have hx : ∃ q,x = .tmp q ∧ look σ q = .vref s p:=by
     cases x with
     | tmp q => exact ⟨q,rfl,by simpa only [ev] using e⟩
     | const v => have:=constV_target v; simp only [ev] at e; rw [e] at this; simp [AV.target] at this
     | global g => simp [ev] at e
     | func f => simp [ev] at e
    obtain ⟨q,rfl,eq⟩:=hx
    refine ⟨_,?_,g4,fun τ hl K' hk => ?_⟩
    ·intro t' ht
     simp only [AV.target,Option.some.injEq] at ht
     exact ⟨q,by simp,.inr (by rw [eq,← ht]; rfl)⟩
    have hs : look τ s = look σ s:=(hl (.tmp q) (by simp) q rfl).2 s (by rw [eq]; rfl)
    simp only [sliceStrW]
    rw [like_ev (hl (.tmp q) (by simp)),e]
    simp only
    rw [hs,eg]
    refine ⟨h1,h2,h3,?_⟩
    cases lo with
    | none =>
     cases hi with
     | none => simp only [Option.some.injEq] at e1 e2; subst e1 e2; exact ⟨g1,g2,g3,hk⟩
     | some r' => simp only [Option.some.injEq] at e1 e2 ⊢; subst e1; rw [like_ev (hl r' (by simp)),e2]; exact ⟨g1,g2,g3,hk⟩
    | some l' =>
     cases hi with
     | none => simp only [Option.some.injEq] at e1 e2 ⊢; subst e2; rw [like_ev (hl l' (by simp)),e1]; exact ⟨g1,g2,g3,hk⟩
     | some r' => simp only at e1 e2 ⊢; rw [like_ev (hl l' (by simp)),like_ev (hl r' (by simp)),e1,e2]; exact ⟨g1,g2,g3,hk⟩
   ·exact h.elim
  ·exact h.elim
 ·exact h.elim
end
def putO (σ : St) (dst : Option Tmp) (y : AV) : St:=match dst with | some d => put σ d y [] | none => σ
def putU (σ : St) (dst : Option Tmp) (y : AV) (us : List Nat) : St:=match dst with | some d => put σ d y us | none => σ
theorem putU_nil (σ : St) (dst : Option Tmp) (y : AV) : putU σ dst y [] = putO σ dst y:=by cases dst <;> rfl
def isMk : Op → Bool
 | .buildSlice .. => true
 | .makeSlice .. => true
 | .slice _ _ none (some _) none => true
 | .call c => (match c.callee with | .builtin .append => true | .value _ => true | _ => false)
 | _ => false
def madeIn (all : List Oper) (x : Operand) : Bool:=match x with
 | .tmp t => all.any fun o => o.dst == some t && isMk o.op
 | _ => false
def isB (all : List Oper) (o : Oper) : Bool:=match o.op with | .build .. => true | .buildSlice .. => true | .call c => (match c.callee,c.args.toList,c.argTypes.toList,o.dst with | .builtin .append,[x,_],[_,_],some _ => madeIn all x | _,_,_,_ => false) | _ => false
def CallsLoc (callW : Call → Option Tmp → St → (St → Prop) → Prop) : Prop :=
 ∀ (c : Call) (f : FuncId) (dst : Option Tmp) (σ : St) (K : St → Prop),c.callee = .value (.func f) → callW c dst σ K →
  ∃ y : AV,y.target = none ∧ K (putO σ dst y) ∧ ∀ τ,(∀ x ∈ c.args.toList,LikeX σ τ x) → ∀ K' : St → Prop,K' (putO τ dst y) → callW c dst τ K'
def isP (P : Program) (all : List Oper) (o : Oper) : Bool :=
 match o.op with
 | .move _ | .nilCheck _ | .pick .. | .load .. | .binOp .. | .unOp .. | .fieldAddr .. | .indexAddr .. | .index .. => true
 | .slice _ _ _ _ none => true
 | .alloc _ => true
 | .build _ _ => true
 | .buildSlice _ _ _ => true
 | .convert s t _ => (match (tinfo P s).kind,(tinfo P t).kind with | 1,4 => true | 5,5 => true | _,_ => false)
 | .call c => (match c.callee,c.args.toList,c.argTypes.toList,o.dst with | .builtin .len,[_],[_],_ => true | .builtin .min,[_,_],[_,_],_ => true | .builtin .append,[x,_],[_,_],some _ => madeIn all x | .value (.func _),_,_,_ => true | _,_,_,_ => false)
 | _ => false
section
variable {P : Program} {callW : Call → Option Tmp → St → (St → Prop) → Prop}
theorem of_pure1 {xs : List Operand} {W : St → (AV → Prop) → Prop} (hW : Pure1 xs W) {σ : St} {dst : Option Tmp} {K : St → Prop} (h : W σ (pureK σ dst K)) :
  ∃ y,From σ xs y ∧ (∀ d,dst = some d → y.target ≠ some d) ∧ K (putO σ dst y) ∧ ∀ τ,(∀ x ∈ xs,LikeX σ τ x) → ∀ K' : St → Prop,K' (putO τ dst y) → W τ (pureK τ dst K'):=by
 obtain ⟨y,h1,h2,h3⟩:=hW σ _ h
 cases dst with
 | none => exact ⟨y,h1,by simp,h2,fun τ hl K' hk => h3 τ hl _ hk⟩
 | some d => exact ⟨y,h1,by rintro d' ⟨⟩; exact h2.1,h2.2,fun τ hl K' hk => h3 τ hl _ ⟨h2.1,hk⟩⟩
theorem op_step (hcl : CallsLoc callW) {all : List Oper} {o : Oper} (hp : isP P all o = true) (hb : isB all o = false) {σ : St} (hT : ∀ s,Operand.tmp s ∈ o.op.operands.toList → look σ s = .undef ∨ live (look σ s) = true) {K : St → Prop} (h : opW P callW σ o K) :
  ∃ y,From σ o.op.operands.toList y ∧ (∀ d,o.dst = some d → y.target ≠ some d) ∧ K (putO σ o.dst y) ∧ ∀ τ,(∀ x ∈ o.op.operands.toList,LikeX σ τ x) → ∀ K' : St → Prop,K' (putO τ o.dst y) → opW P callW τ o K':=by
 obtain ⟨dst,op,ty,pos,af,g⟩:=o
 cases op <;> simp only [isP,Bool.false_eq_true] at hp
 case move x =>
  have hl : ev σ x = .undef ∨ live (ev σ x) = true:=by
   cases x with
   | tmp s => exact hT s (by simp [Op.operands])
   | const c =>
    simp only [ev]
    unfold constV
    split <;> first | exact .inl rfl | exact .inr rfl
   | global g => exact .inl rfl
   | func f => exact .inr rfl
  have h' : moveW σ x (pureK σ dst K):=by
   have h2 : mvX (ev σ x) σ x dst K:=h
   rwa [mvX_live hl] at h2
  obtain ⟨y,g1,g2,g3,g4⟩:=of_pure1 (W:=fun σ K => moveW σ x K) pure_move h'
  refine ⟨y,g1,g2,g3,fun τ hl' K' hk => ?_⟩
  have e : ev τ x = ev σ x:=like_ev (hl' x (by simp [Op.operands]))
  have h3:=g4 τ hl' K' hk
  show mvX (ev τ x) τ x dst K'
  rw [mvX_live (by rw [e]; exact hl)]
  exact h3
 case nilCheck x => exact of_pure1 (W:=fun σ K => nilW σ x K) pure_nil h
 case pick c x y => exact of_pure1 (W:=fun σ K => pickW σ c x y K) pure_pick h
 case load t x => exact of_pure1 (W:=fun σ K => loadW P σ t x K) pure_load h
 case binOp op t x y yt => exact of_pure1 (W:=fun σ K => needW (binA P op t (ev σ x) (ev σ y)) K) pure_bin h
 case unOp op t x => exact of_pure1 (W:=fun σ K => needW (unA op (ev σ x)) K) pure_un h
 case fieldAddr t x f => exact of_pure1 (W:=fun σ K => fieldAddrW P σ t x f K) pure_fieldAddr h
 case indexAddr t x i => exact of_pure1 (W:=fun σ K => indexAddrW P σ t x i K) pure_indexAddr h
 case index t x i => exact of_pure1 (W:=fun σ K => indexW P σ t x i K) pure_index h
 case build t ps => cases hb
 case alloc t =>
  cases dst with
  | none => exact h.elim
  | some d =>
   refine ⟨.box (tinfo P t).zero,from_none rfl,by rintro d' ⟨⟩; simp [AV.target],h.2,fun τ _ K' hk => ⟨h.1,hk⟩⟩
 case buildSlice t n ps => cases hb
 case convert s t x =>
  have hk : ((tinfo P s).kind = 1 ∧ (tinfo P t).kind = 4) ∨ ((tinfo P s).kind = 5 ∧ (tinfo P t).kind = 5):=by
   split at hp
   ·rename_i e1 e2; exact .inl ⟨e1,e2⟩
   ·rename_i e1 e2; exact .inr ⟨e1,e2⟩
   ·cases hp
  rcases hk with ⟨e1,e2⟩ | ⟨e1,e2⟩
  ·have he : ∀ τ K',opW P callW τ ⟨dst,.convert s t x,ty,pos,af,g⟩ K' = bytesStrW P τ s t x (pureK τ dst K'):=by
    intro τ K'
    show convertW P τ s t x dst K' = _
    unfold convertW
    rw [e1,e2]
    cases dst <;> rfl
   rw [he] at h
   obtain ⟨y,h1,h2,h3,h4⟩:=of_pure1 (W:=fun σ K => bytesStrW P σ s t x K) pure_bytesStr h
   exact ⟨y,h1,h2,h3,fun τ hl K' hk => by rw [he]; exact h4 τ hl K' hk⟩
  ·have he : ∀ τ K',opW P callW τ ⟨dst,.convert s t x,ty,pos,af,g⟩ K' = convW P τ s t x (pureK τ dst K'):=by
    intro τ K'
    show convertW P τ s t x dst K' = _
    unfold convertW
    rw [e1,e2]
    cases dst <;> rfl
   rw [he] at h
   obtain ⟨y,h1,h2,h3,h4⟩:=of_pure1 (W:=fun σ K => convW P σ s t x K) pure_conv h
   exact ⟨y,h1,h2,h3,fun τ hl K' hk => by rw [he]; exact h4 τ hl K' hk⟩
 case slice t x lo hi mx =>
  cases mx with
  | none =>
   have:=of_pure1 (W:=fun σ K => sliceStrW P σ t x lo hi K) pure_slice h
   simp only [Op.operands]
   obtain ⟨y,h1,h2,h3,h4⟩:=this
   have hm : ∀ z,z ∈ [x] ++ lo.toList ++ hi.toList ↔ z ∈ (#[x] ++ lo.toArray ++ hi.toArray ++ (none : Option Operand).toArray).toList:=by
    intro z
    cases lo <;> cases hi <;> simp
   exact ⟨y,h1.mono (fun z hz => (hm z).1 hz),h2,h3,fun τ hl K' hk => h4 τ (fun z hz => hl z ((hm z).1 hz)) K' hk⟩
  | some m => cases hp
 case call c =>
  obtain ⟨callee,args,argTypes⟩:=c
  simp only at hp
  split at hp
  ·rename_i x t e2 e3
   have ea : args = #[x]:=by rw [← Array.toArray_toList (xs:=args),e2]
   have et : argTypes = #[t]:=by rw [← Array.toArray_toList (xs:=argTypes),e3]
   subst ea et
   have:=of_pure1 (W:=fun σ K => lenW σ P t x K) pure_len h
   obtain ⟨y,h1,h2,h3,h4⟩:=this
   exact ⟨y,h1.mono (by simp [Op.operands,Call.operands]),h2,h3,fun τ hl K' hk => h4 τ (fun z hz => hl z (by simp [Op.operands,Call.operands]; simpa using hz)) K' hk⟩
  ·rename_i x y t t' e2 e3
   have ea : args = #[x,y]:=by rw [← Array.toArray_toList (xs:=args),e2]
   have et : argTypes = #[t,t']:=by rw [← Array.toArray_toList (xs:=argTypes),e3]
   subst ea et
   have:=of_pure1 (W:=fun σ K => needW (minA (ev σ x) (ev σ y)) K) pure_min h
   obtain ⟨y',h1,h2,h3,h4⟩:=this
   exact ⟨y',h1.mono (by simp [Op.operands,Call.operands]),h2,h3,fun τ hl K' hk => h4 τ (fun z hz => hl z (by simp [Op.operands,Call.operands]; simpa using hz)) K' hk⟩
  ·rename_i x y t t' d e2 e3
   simp only [isB,e2,e3,hp] at hb
   cases hb
  ·rename_i dst _ _ _ _ f
   have he : ∀ τ K',opW P callW τ ⟨dst,.call ⟨.value (.func f),args,argTypes⟩,ty,pos,af,g⟩ K' = callW ⟨.value (.func f),args,argTypes⟩ dst τ K':=by
    intro τ K'
    unfold opW
    rfl
   rw [he] at h
   obtain ⟨y,h1,h2,h3⟩:=hcl _ f dst σ K rfl h
   refine ⟨y,from_none h1,by intro d _; rw [h1]; simp,h2,fun τ hl K' hk => ?_⟩
   rw [he]
   refine h3 τ (fun z hz => hl z ?_) K' hk
   simp only [Op.operands,Call.operands,Array.toList_append,List.mem_append]
   exact Or.inr hz
  ·cases hp
def tmpsOf : List Operand → List Nat
 | [] => []
 | .tmp t :: r => t :: tmpsOf r
 | _ :: r => tmpsOf r
theorem mem_tmpsOf {s : Nat} : ∀ {l : List Operand},.tmp s ∈ l → s ∈ tmpsOf l
 | [],h => by simp at h
 | .tmp t :: r,h => by
  simp only [tmpsOf,List.mem_cons]
  rcases List.mem_cons.1 h with h | h
  ·injection h with h; exact .inl h
  ·exact .inr (mem_tmpsOf h)
 | .const _ :: r,h => by
  simp only [tmpsOf]
  rcases List.mem_cons.1 h with h | h
  ·cases h
  ·exact mem_tmpsOf h
 | .global _ :: r,h => by
  simp only [tmpsOf]
  rcases List.mem_cons.1 h with h | h
  ·cases h
  ·exact mem_tmpsOf h
 | .func _ :: r,h => by
  simp only [tmpsOf]
  rcases List.mem_cons.1 h with h | h
  ·cases h
  ·exact mem_tmpsOf h
def looks (all : List Oper) (o : Oper) : List Nat :=
  tmpsOf o.op.operands.toList ++
  (match o.guard with
   | some (g,_) => (match all[g]? with | some og => (match og.dst with | some t => [t] | none => []) | none => [])
   | none => [])
theorem looks_tmp {all : List Oper} {o : Oper} {s : Nat} (h : Operand.tmp s ∈ o.op.operands.toList) : s ∈ looks all o:=by
 exact List.mem_append_left _ (mem_tmpsOf h)
def stepW (P : Program) (callW : Call → Option Tmp → St → (St → Prop) → Prop) (all : List Oper) (o : Oper) (σ : St) (K : St → Prop) : Prop:=condW σ all o (opW P callW σ o K) (skipW σ o K)
theorem pull_none {σ : St} : ∀ {x : Operand},(∀ s,x = .tmp s → (look σ s).target = none) → pull σ x = σ
 | .tmp t,h => by
  have:=h t rfl
  simp only [pull]
  split <;> rename_i e <;> first | rfl | (rw [e] at this; cases this)
 | .const _,_ => rfl
 | .global _,_ => rfl
 | .func _,_ => rfl
theorem pulls_none {σ : St} : ∀ {xs : List Operand},(∀ s,.tmp s ∈ xs → (look σ s).target = none) → pulls σ xs = σ
 | [],_ => rfl
 | x :: xs,h => by
  show pulls (pull σ x) xs = σ
  rw [pull_none (fun s hs => h s (by simp [hs]))]
  exact pulls_none (fun s hs => h s (List.mem_cons_of_mem _ hs))
theorem usedOf_like {σ τ : St} : ∀ {xs : List Operand},(∀ x ∈ xs,LikeX σ τ x) → usedOf τ xs = usedOf σ xs
 | [],_ => rfl
 | .tmp t :: xs,h => by
  have e:=(h (.tmp t) (List.mem_cons_self ..) t rfl).1
  simp only [usedOf,e,usedOf_like (fun x hx => h x (List.mem_cons_of_mem _ hx))]
 | .const _ :: xs,h => by simp only [usedOf,usedOf_like (fun x hx => h x (List.mem_cons_of_mem _ hx))]
 | .global _ :: xs,h => by simp only [usedOf,usedOf_like (fun x hx => h x (List.mem_cons_of_mem _ hx))]
 | .func _ :: xs,h => by simp only [usedOf,usedOf_like (fun x hx => h x (List.mem_cons_of_mem _ hx))]
theorem usedOf_mem {σ : St} {t : Nat} : ∀ {xs : List Operand},t ∈ usedOf σ xs → .tmp t ∈ xs
 | [],h => by cases h
 | .tmp u :: xs,h => by
  simp only [usedOf] at h
  split at h
  ·exact List.mem_cons_of_mem _ (usedOf_mem h)
  ·rcases List.mem_cons.1 h with rfl | h
   ·exact List.mem_cons_self ..
   ·exact List.mem_cons_of_mem _ (usedOf_mem h)
 | .const _ :: xs,h => List.mem_cons_of_mem _ (usedOf_mem (by simpa only [usedOf] using h))
 | .global _ :: xs,h => List.mem_cons_of_mem _ (usedOf_mem (by simpa only [usedOf] using h))
 | .func _ :: xs,h => List.mem_cons_of_mem _ (usedOf_mem (by simpa only [usedOf] using h))
theorem partsFit_like {σ τ : St} {fs : List AV} {fields : List (Nat × Nat × Option Bool)} : ∀ {ps : List (Nat × Operand)},(∀ x ∈ ps.map (·.2),LikeX σ τ x) → partsFit σ fs fields ps → partsFit τ fs fields ps
 | [],_,h => h
 | (i,x) :: r,hl,h => by
  have e:=like_ev (hl x (List.mem_cons_self ..))
  refine ⟨?_,partsFit_like (fun z hz => hl z (List.mem_cons_of_mem _ hz)) h.2⟩
  have:=h.1
  rw [e]
  exact this
theorem buildS_step {t : TypeId} {ps : List (Nat × Operand)} {d : Tmp} {σ : St} {K : St → Prop} (hc : ∀ s,.tmp s ∈ ps.map (·.2) → (look σ s).target = none) (h : buildSW P σ t ps d K) :
  ∃ y us,y.target = none ∧ (∀ t ∈ us,Operand.tmp t ∈ ps.map (·.2)) ∧ K (put σ d y us) ∧ ∀ τ,(∀ x ∈ ps.map (·.2),LikeX σ τ x) → ∀ K' : St → Prop,K' (put τ d y us) → buildSW P τ t ps d K':=by
 unfold buildSW at h
 simp only [pulls_none hc] at h
 obtain ⟨h1,h2,h3,h4,h5⟩:=h
 split at h5
 ·rename_i fs ez
  refine ⟨_,_,rfl,fun t ht => usedOf_mem ht,h5.2,fun τ hl K' hk => ?_⟩
  have hc' : ∀ s,.tmp s ∈ ps.map (·.2) → (look τ s).target = none:=fun s hs => by rw [(hl _ hs s rfl).1]; exact hc s hs
  unfold buildSW
  simp only [pulls_none hc']
  refine ⟨h1,h2,h3,by rw [usedOf_like hl]; exact h4,?_⟩
  rw [ez]
  refine ⟨partsFit_like hl h5.1,?_⟩
  have e : (ps.map fun x => (x.1,ev τ x.2)) = ps.map fun x => (x.1,ev σ x.2):=List.map_congr_left fun x hx => by rw [like_ev (hl x.2 (List.mem_map_of_mem hx))]
  simp only [e,usedOf_like hl]
  exact hk
 ·exact h5.elim
theorem build_step {t : TypeId} {ps : List (Nat × Operand)} {d : Tmp} {σ : St} {K : St → Prop} (hc : ∀ s,.tmp s ∈ ps.map (·.2) → (look σ s).target = none) (h : buildW P σ t ps d K) :
  ∃ y us,y.target = none ∧ (∀ t ∈ us,Operand.tmp t ∈ ps.map (·.2)) ∧ K (put σ d y us) ∧ ∀ τ,(∀ x ∈ ps.map (·.2),LikeX σ τ x) → ∀ K' : St → Prop,K' (put τ d y us) → buildW P τ t ps d K':=by
 unfold buildW at h
 split at h
 ·rename_i hk
  obtain ⟨h1,h2,h3,h4⟩:=h
  split at h4
  ·rename_i z xs ez
   refine ⟨.arr z xs,[],rfl,by simp,h4,fun τ _ K' hK => ?_⟩
   unfold buildW
   rw [if_pos hk]
   refine ⟨h1,h2,h3,?_⟩
   rw [ez]
   exact hK
  ·exact h4.elim
 ·rename_i hk
  obtain ⟨y,us,g1,g2,g3,g4⟩:=buildS_step hc h
  refine ⟨y,us,g1,g2,g3,fun τ hl K' hK => ?_⟩
  unfold buildW
  rw [if_neg hk]
  exact g4 τ hl K' hK
theorem elemsFit_like {σ τ : St} {n sz : Nat} : ∀ {ps : List (Nat × Operand)},(∀ x ∈ ps.map (·.2),LikeX σ τ x) → elemsFit σ n sz ps → elemsFit τ n sz ps
 | [],_,h => h
 | (i,x) :: r,hl,h => by
  have e:=like_ev (hl x (List.mem_cons_self ..))
  refine ⟨?_,elemsFit_like (fun z hz => hl z (List.mem_cons_of_mem _ hz)) h.2⟩
  have:=h.1
  rw [e]
  exact this
theorem buildSlice_step {t : TypeId} {n : Nat} {ps : List (Nat × Operand)} {d : Tmp} {σ : St} {K : St → Prop} (hc : ∀ s,.tmp s ∈ ps.map (·.2) → (look σ s).target = none) (h : buildSliceW P σ t n ps d K) :
  ∃ y us,y.target = none ∧ (∀ t ∈ us,Operand.tmp t ∈ ps.map (·.2)) ∧ K (put σ d y us) ∧ ∀ τ,(∀ x ∈ ps.map (·.2),LikeX σ τ x) → ∀ K' : St → Prop,K' (put τ d y us) → buildSliceW P τ t n ps d K':=by
 unfold buildSliceW at h
 simp only [pulls_none hc] at h
 obtain ⟨h1,h2,h3,h4,h5,h6,h7⟩:=h
 refine ⟨_,_,rfl,fun t ht => usedOf_mem ht,h7,fun τ hl K' hk => ?_⟩
 have hc' : ∀ s,.tmp s ∈ ps.map (·.2) → (look τ s).target = none:=fun s hs => by rw [(hl _ hs s rfl).1]; exact hc s hs
 unfold buildSliceW
 simp only [pulls_none hc']
 refine ⟨h1,h2,h3,h4,by rw [usedOf_like hl]; exact h5,elemsFit_like hl h6,?_⟩
 have e : (ps.map fun x => (x.1,ev τ x.2)) = ps.map fun x => (x.1,ev σ x.2):=List.map_congr_left fun x hx => by rw [like_ev (hl x.2 (List.mem_map_of_mem hx))]
 simp only [e,usedOf_like hl]
 exact hk
theorem append_step {cw : Call → Option Tmp → St → (St → Prop) → Prop} {t t' : TypeId} {x y : Operand} {d : Tmp} {σ : St} {K : St → Prop} {ty : TypeId} {pos : String} {af : Array Edge} {g : Option (Nat × Bool)} (hc : ∀ s,.tmp s ∈ [x,y] → (look σ s).target = none)
  (h : opW P cw σ ⟨some d,.call ⟨.builtin .append,#[x,y],#[t,t']⟩,ty,pos,af,g⟩ K) :
  ∃ v us,v.target = none ∧ (∀ t ∈ us,Operand.tmp t ∈ [x,y]) ∧ K (put σ d v us) ∧ ∀ τ,(∀ z ∈ [x,y],LikeX σ τ z) → ∀ K' : St → Prop,K' (put τ d v us) → opW P cw τ ⟨some d,.call ⟨.builtin .append,#[x,y],#[t,t']⟩,ty,pos,af,g⟩ K':=by
 have hop : ∀ ρ K',opW P cw ρ ⟨some d,.call ⟨.builtin .append,#[x,y],#[t,t']⟩,ty,pos,af,g⟩ K' = (t = t' ∧ (match srcOf (pull ρ x) y with
   | .slo _ _ _ ys => if plainL ys then appendW P ρ t x y d K' else appendMW P ρ t x y d K'
   | _ => appendW P ρ t x y d K')):=fun _ _ => rfl
 have px : ∀ ρ : St,(∀ s,Operand.tmp s ∈ [x,y] → (look ρ s).target = none) → pull ρ x = ρ:=fun ρ hr => pull_none (fun s hs => hr s (by simp [hs]))
 have hA : appendW P σ t x y d K → ∃ v us,v.target = none ∧ (∀ t ∈ us,Operand.tmp t ∈ [x,y]) ∧ K (put σ d v us) ∧ ∀ τ,(∀ z ∈ [x,y],LikeX σ τ z) → ∀ K' : St → Prop,K' (put τ d v us) → appendW P τ t x y d K':=by
  intro h
  unfold appendW at h
  simp only [px σ hc] at h
  obtain ⟨h1,h2,h3,h4⟩:=h
  split at h4
  ·rename_i sz xs ex
   obtain ⟨h5,h6⟩:=h4
   split at h6
   ·rename_i sz2 ys ey
    obtain ⟨h7,h8,h9⟩:=h6
    refine ⟨_,_,rfl,fun t ht => List.mem_cons.2 (.inl (by simpa using usedOf_mem ht)),h9,fun τ hl K' hk => ?_⟩
    have hc' : ∀ s,.tmp s ∈ [x,y] → (look τ s).target = none:=fun s hs => by rw [(hl _ hs s rfl).1]; exact hc s hs
    unfold appendW
    simp only [px τ hc',like_ev (hl x (by simp)),like_src (hl y (by simp)),ex,ey,usedOf_like (xs:=[x]) (fun z hz => hl z (by simp at hz; simp [hz]))]
    exact ⟨h1,h2,h3,h5,h7,h8,hk⟩
   ·rename_i s p sz2 ys ey
    obtain ⟨h7,h8,h9,h10,h11⟩:=h6
    refine ⟨_,_,rfl,fun t ht => List.mem_cons.2 (.inl (by simpa using usedOf_mem ht)),h11,fun τ hl K' hk => ?_⟩
    have hc' : ∀ s,.tmp s ∈ [x,y] → (look τ s).target = none:=fun s hs => by rw [(hl _ hs s rfl).1]; exact hc s hs
    unfold appendW
    simp only [px τ hc',like_ev (hl x (by simp)),like_src (hl y (by simp)),ex,ey,usedOf_like (xs:=[x]) (fun z hz => hl z (by simp at hz; simp [hz]))]
    exact ⟨h1,h2,h3,h5,h7,h8,h9,h10,hk⟩
   ·exfalso
    split at h6
    ·rename_i s sz2 zs lo hi es
     obtain ⟨p,e1,_⟩:=subOf_some es
     cases y with
     | tmp q => simp only [ev] at e1; have:=hc q (by simp); rw [e1] at this; simp [AV.target] at this
     | const v => have:=constV_target v; simp only [ev] at e1; rw [e1] at this; simp [AV.target] at this
     | global g => simp [ev] at e1
     | func f => simp [ev] at e1
    ·exact h6
   ·exact h6.elim
  ·exact h4.elim
 have hM : appendMW P σ t x y d K → ∃ v us,v.target = none ∧ (∀ t ∈ us,Operand.tmp t ∈ [x,y]) ∧ K (put σ d v us) ∧ ∀ τ,(∀ z ∈ [x,y],LikeX σ τ z) → ∀ K' : St → Prop,K' (put τ d v us) → appendMW P τ t x y d K':=by
  intro h
  unfold appendMW at h
  simp only [pulls_none hc] at h
  obtain ⟨h1,h2,h3,h4⟩:=h
  split at h4
  ·rename_i sz xs sz2 ys ex ey
   obtain ⟨h5,h6,h7,h8,h9⟩:=h4
   refine ⟨_,_,rfl,fun t ht => usedOf_mem ht,h9,fun τ hl K' hk => ?_⟩
   have hc' : ∀ s,.tmp s ∈ [x,y] → (look τ s).target = none:=fun s hs => by rw [(hl _ hs s rfl).1]; exact hc s hs
   unfold appendMW
   simp only [pulls_none hc',like_ev (hl x (by simp)),like_ev (hl y (by simp)),ex,ey,usedOf_like hl]
   exact ⟨h1,h2,h3,h5,h6,h7,h8,hk⟩
  ·exact h4.elim
 rw [hop,px σ hc] at h
 obtain ⟨h0,h⟩:=h
 have fin : ∀ {B : St → (St → Prop) → Prop},(∃ v us,v.target = none ∧ (∀ t ∈ us,Operand.tmp t ∈ [x,y]) ∧ K (put σ d v us) ∧ ∀ τ,(∀ z ∈ [x,y],LikeX σ τ z) → ∀ K' : St → Prop,K' (put τ d v us) → B τ K') →
   (∀ τ,(∀ z ∈ [x,y],LikeX σ τ z) → ∀ K',B τ K' → opW P cw τ ⟨some d,.call ⟨.builtin .append,#[x,y],#[t,t']⟩,ty,pos,af,g⟩ K') →
   ∃ v us,v.target = none ∧ (∀ t ∈ us,Operand.tmp t ∈ [x,y]) ∧ K (put σ d v us) ∧ ∀ τ,(∀ z ∈ [x,y],LikeX σ τ z) → ∀ K' : St → Prop,K' (put τ d v us) → opW P cw τ ⟨some d,.call ⟨.builtin .append,#[x,y],#[t,t']⟩,ty,pos,af,g⟩ K':=by
  rintro B ⟨v,us,b1,b2,b3,b4⟩ hB
  exact ⟨v,us,b1,b2,b3,fun τ hl K' hk => hB τ hl K' (b4 τ hl K' hk)⟩
 have hs' : ∀ τ,(∀ z ∈ [x,y],LikeX σ τ z) → srcOf (pull τ x) y = srcOf σ y:=fun τ hl => by
  rw [px τ (fun s hs => by rw [(hl _ hs s rfl).1]; exact hc s hs),like_src (hl y (by simp))]
 split at h
 ·rename_i s p sz ys e
  split at h
  ·rename_i hp
   exact fin (hA h) (fun τ hl K' hb => by rw [hop,hs' τ hl,e]; simp only [hp,if_true]; exact ⟨h0,hb⟩)
  ·rename_i hp
   exact fin (hM h) (fun τ hl K' hb => by rw [hop,hs' τ hl,e]; simp only [hp]; exact ⟨h0,hb⟩)
 ·rename_i e
  exact fin (hA h) (fun τ hl K' hb => by
   rw [hop,hs' τ hl]
   refine ⟨h0,?_⟩
   split
   ·rename_i s p sz ys e2; exact absurd e2 (e s p sz ys)
   ·exact hb)
theorem t_step (hcl : CallsLoc callW) {all : List Oper} {o : Oper} (hp : isP P all o = true) {σ : St} (hT : ∀ s ∈ looks all o,live (look σ s) = true) (hB : isB all o = true → ∀ s ∈ looks all o,(look σ s).target = none) {K : St → Prop} (h : stepW P callW all o σ K) :
  ∃ y us,(∀ t,y.target = some t → ∃ s ∈ looks all o,t = s ∨ (look σ s).target = some t) ∧ (∀ d,o.dst = some d → y.target ≠ some d) ∧ (∀ t ∈ us,isB all o = true ∧ t ∈ looks all o) ∧ K (putU σ o.dst y us) ∧ ∀ τ,(∀ s ∈ looks all o,Like σ τ s) → ∀ K' : St → Prop,K' (putU τ o.dst y us) → stepW P callW all o τ K':=by
 have hops : opW P callW σ o K → (∀ τ,(∀ s ∈ looks all o,Like σ τ s) → ∀ K' : St → Prop,opW P callW τ o K' → stepW P callW all o τ K') → ∃ y us,(∀ t,y.target = some t → ∃ s ∈ looks all o,t = s ∨ (look σ s).target = some t) ∧ (∀ d,o.dst = some d → y.target ≠ some d) ∧ (∀ t ∈ us,isB all o = true ∧ t ∈ looks all o) ∧ K (putU σ o.dst y us) ∧ ∀ τ,(∀ s ∈ looks all o,Like σ τ s) → ∀ K' : St → Prop,K' (putU τ o.dst y us) → stepW P callW all o τ K':=by
  intro h1 h2
  cases hb : isB all o with
  | false =>
   obtain ⟨y,g1,g2,g3,g4⟩:=op_step hcl hp hb (fun s hs => .inr (hT s (looks_tmp hs))) h1
   refine ⟨y,[],?_,g2,by simp,by rw [putU_nil]; exact g3,fun τ hl K' hk => h2 τ hl K' (g4 τ (fun x hx s hs => ?_) K' (by rw [← putU_nil]; exact hk))⟩
   ·intro t ht
    obtain ⟨s,hs,hh⟩:=g1 t ht
    exact ⟨s,looks_tmp hs,hh⟩
   ·subst hs; exact hl s (looks_tmp hx)
  | true =>
   have hB':=hB hb
   obtain ⟨dst,op,ty,pos,af,g⟩:=o
   cases op <;> simp only [isB,Bool.false_eq_true] at hb
   case build t ps =>
    cases dst with
    | none => exact h1.elim
    | some d =>
     have hm : ∀ x,x ∈ ps.toList.map (·.2) ↔ x ∈ (Op.build t ps).operands.toList:=by intro x; simp [Op.operands]
     have h1' : buildW P σ t ps.toList d K:=h1
     obtain ⟨y,us,g1,g2,g3,g4⟩:=build_step (fun s hs => hB' s (looks_tmp ((hm _).1 hs))) h1'
     refine ⟨y,us,by rw [g1]; simp,by rw [g1]; simp,fun t ht => ⟨rfl,looks_tmp ((hm _).1 (g2 t ht))⟩,g3,fun τ hl K' hk => h2 τ hl K' ?_⟩
     exact g4 τ (fun x hx s hs => by subst hs; exact hl s (looks_tmp ((hm _).1 hx))) K' hk
   case buildSlice t n ps =>
    cases dst with
    | none => exact h1.elim
    | some d =>
     have hm : ∀ x,x ∈ ps.toList.map (·.2) ↔ x ∈ (Op.buildSlice t n ps).operands.toList:=by intro x; simp [Op.operands]
     have h1' : buildSliceW P σ t n ps.toList d K:=h1
     obtain ⟨y,us,g1,g2,g3,g4⟩:=buildSlice_step (fun s hs => hB' s (looks_tmp ((hm _).1 hs))) h1'
     refine ⟨y,us,by rw [g1]; simp,by rw [g1]; simp,fun t ht => ⟨rfl,looks_tmp ((hm _).1 (g2 t ht))⟩,g3,fun τ hl K' hk => h2 τ hl K' ?_⟩
     exact g4 τ (fun x hx s hs => by subst hs; exact hl s (looks_tmp ((hm _).1 hx))) K' hk
   case call c =>
    obtain ⟨callee,args,argTypes⟩:=c
    simp only at hb
    split at hb
    ·rename_i x y t t' d e2 e3
     have ea : args = #[x,y]:=by rw [← Array.toArray_toList (xs:=args),e2]
     have et : argTypes = #[t,t']:=by rw [← Array.toArray_toList (xs:=argTypes),e3]
     subst ea et
     have hm : ∀ z,z ∈ [x,y] ↔ z ∈ (Op.call ⟨.builtin .append,#[x,y],#[t,t']⟩).operands.toList:=by intro z; simp [Op.operands,Call.operands]
     obtain ⟨v,us,g1,g2,g3,g4⟩:=append_step (fun s hs => hB' s (looks_tmp ((hm _).1 hs))) h1
     refine ⟨v,us,by rw [g1]; simp,by rw [g1]; simp,fun t ht => ⟨by first | exact hb | rfl,looks_tmp ((hm _).1 (g2 t ht))⟩,g3,fun τ hl K' hk => h2 τ hl K' ?_⟩
     exact g4 τ (fun x hx s hs => by subst hs; exact hl s (looks_tmp ((hm _).1 hx))) K' hk
    ·cases hb
 have hskip : skipW σ o K → (∀ τ,(∀ s ∈ looks all o,Like σ τ s) → ∀ K' : St → Prop,skipW τ o K' → stepW P callW all o τ K') → ∃ y us,(∀ t,y.target = some t → ∃ s ∈ looks all o,t = s ∨ (look σ s).target = some t) ∧ (∀ d,o.dst = some d → y.target ≠ some d) ∧ (∀ t ∈ us,isB all o = true ∧ t ∈ looks all o) ∧ K (putU σ o.dst y us) ∧ ∀ τ,(∀ s ∈ looks all o,Like σ τ s) → ∀ K' : St → Prop,K' (putU τ o.dst y us) → stepW P callW all o τ K':=by
  intro h1 h2
  refine ⟨.tup [],[],by simp [AV.target],by simp [AV.target],by simp,?_,fun τ hl K' hk => h2 τ hl K' ?_⟩
  ·unfold skipW at h1
   unfold putU
   cases hd : o.dst <;> simp only [hd] at h1 ⊢ <;> exact h1
  ·unfold skipW
   unfold putU at hk
   cases hd : o.dst <;> simp only [hd] at hk ⊢ <;> exact hk
 unfold stepW condW at h
 split at h
 ·rename_i eg
  exact hops h (fun τ hl K' hk => by unfold stepW condW; rw [eg]; exact hk)
 ·rename_i g want eg
  split at h
  ·rename_i og eo
   split at h
   ·rename_i t et
    have hm : t ∈ looks all o:=by
     refine List.mem_append_right _ ?_
     rw [eg]; simp only [eo,et]; simp
    split at h
    ·rename_i b eb
     split at h
     ·rename_i hb
      exact hops h (fun τ hl K' hk => by unfold stepW condW; rw [eg]; simp only [eo,et]; rw [(hl t hm).1,eb]; simp only [hb,if_true]; exact hk)
     ·rename_i hb
      exact hskip h (fun τ hl K' hk => by unfold stepW condW; rw [eg]; simp only [eo,et]; rw [(hl t hm).1,eb]; simp only [hb,if_false]; exact hk)
    ·rename_i eb
     exact hskip h (fun τ hl K' hk => by unfold stepW condW; rw [eg]; simp only [eo,et]; rw [(hl t hm).1,eb]; exact hk)
    ·exact h.elim
   ·rename_i et
    exact hskip h (fun τ hl K' hk => by unfold stepW condW; rw [eg]; simp only [eo,et]; exact hk)
  ·rename_i eo
   exact hskip h (fun τ hl K' hk => by unfold stepW condW; rw [eg]; simp only [eo]; exact hk)
end
end Go.Proofs.YtpffgegfjpdncaaGreatDoor.Am
namespace Go.Proofs.YtpffgegfjpdncaaGreatDoor.Am
open Go.RowKit AV
set_option linter.unusedVariables false
def Eqv (σ τ : St) : Prop:=∀ s,look τ s = look σ s
theorem Eqv.refl (σ : St) : Eqv σ σ:=fun _ => rfl
theorem Eqv.symm {σ τ : St} (h : Eqv σ τ) : Eqv τ σ:=fun s => (h s).symm
theorem Eqv.trans {σ τ ρ : St} (h : Eqv σ τ) (k : Eqv τ ρ) : Eqv σ ρ:=fun s => (k s).trans (h s)
theorem Eqv.like {σ τ : St} (h : Eqv σ τ) (s : Nat) : Like σ τ s:=⟨h s,fun t _ => h t⟩
theorem look_put' (σ : St) (d : Nat) (y : AV) (k : Nat) : look (put σ d y []) k = if k = d then y else purgeV [d] (look σ k):=by
 unfold put
 rw [look_upd]
 simp only [keys,wipe,List.map_nil,look,List.mem_cons,List.not_mem_nil,or_false]
 by_cases h : k = d
 ·subst h; simp
 ·simp [h]
theorem look_putO (σ : St) (d : Option Tmp) (y : AV) (k : Nat) : look (putO σ d y) k = if d = some k then y else (match d with | some d => purgeV [d] (look σ k) | none => look σ k):=by
 cases d with
 | none => simp [putO]
 | some d =>
  simp only [putO,look_put',Option.some.injEq]
  by_cases h : k = d
  ·subst h; simp
  ·simp [h,Ne.symm h]
theorem look_putU (σ : St) (d : Option Tmp) (y : AV) (us : List Nat) (k : Nat) : look (putU σ d y us) k = (match d with | some d => if k = d then y else if k ∈ us then .undef else purgeV (d :: us) (look σ k) | none => look σ k):=by
 cases d with
 | none => rfl
 | some d =>
  simp only [putU]
  unfold put
  rw [look_upd]
  simp only [keys,keys_wipe,List.mem_cons,look,look_wipe]
  by_cases h : k = d
  ·subst h; simp
  ·by_cases h2 : k ∈ us <;> simp [h,h2,Ne.symm h]
theorem Eqv.putU {σ τ : St} (h : Eqv σ τ) (d : Option Tmp) (y : AV) (us : List Nat) : Eqv (putU σ d y us) (putU τ d y us):=by
 intro s
 rw [look_putU,look_putU,h s]
theorem Eqv.putO {σ τ : St} (h : Eqv σ τ) (d : Option Tmp) (y : AV) : Eqv (putO σ d y) (putO τ d y):=by
 intro s
 rw [look_putO,look_putO,h s]
def check1 (σ : St) (ds : List Nat) (s : Nat) : Bool:=live (look σ s) && (match (look σ s).target with | none => true | some t => !ds.contains t && (match look σ t with | .undef => false | y => y.target.isNone))
theorem check1_live {σ : St} {ds : List Nat} {s : Nat} (h : check1 σ ds s = true) : live (look σ s) = true:=by
 unfold check1 at h
 simp only [Bool.and_eq_true] at h
 exact h.1
theorem check1_spec {σ : St} {ds : List Nat} {s : Nat} (h : check1 σ ds s = true) : look σ s ≠ .undef ∧ ∀ t,(look σ s).target = some t → t ∉ ds ∧ look σ t ≠ .undef ∧ (look σ t).target = none:=by
 have hl:=check1_live h
 unfold check1 at h
 simp only [Bool.and_eq_true] at h
 refine ⟨fun e => by rw [e] at hl; simp [live] at hl,fun t ht => ?_⟩
 have h:=h.2
 rw [ht] at h
 simp only [Bool.and_eq_true] at h
 refine ⟨by simpa using h.1,?_,?_⟩
 ·intro e; rw [e] at h; simp at h
 ·have:=h.2
  split at this
  ·cases this
  ·simpa using this
theorem check1_mk {σ : St} {ds : List Nat} {s : Nat} (h : live (look σ s) = true) (h2 : ∀ t,(look σ s).target = some t → t ∉ ds ∧ look σ t ≠ .undef ∧ (look σ t).target = none) : check1 σ ds s = true:=by
  unfold check1
  rw [h,Bool.true_and]
  cases ht : (look σ s).target with
  | none => rfl
  | some t =>
    obtain ⟨h3,h4,h5⟩:=h2 t ht
    simp only [Bool.and_eq_true]
    refine ⟨by simpa using h3,?_⟩
    first
      | (rw [h5]; rfl)
      | (split
         · rename_i e; exact absurd e h4
         · simp [h5])
theorem purge_comm (a b : List Nat) (x : AV) : purgeV a (purgeV b x) = purgeV b (purgeV a x):=by
 rcases purgeV_undef a x with e1 | ⟨e1,_⟩ <;> rcases purgeV_undef b x with e2 | ⟨e2,_⟩
 ·rw [e2,e1,e2]
 ·rw [e1,e2]; rfl
 ·rw [e2,e1]; rfl
 ·rw [e2,e1]; rfl
theorem like_back {σ : St} {ds : List Nat} {d : Option Tmp} {y : AV} {us : List Nat} {s : Nat} (hd : ∀ t,d = some t → t ∈ ds ∧ s ≠ t) (hu : ∀ t ∈ us,t ∈ ds ∧ s ≠ t) (h : check1 (putU σ d y us) ds s = true) : Like (putU σ d y us) σ s ∧ check1 σ ds s = true:=by
 obtain ⟨h1,h2⟩:=check1_spec h
 have hL:=check1_live h
 cases d with
 | none => exact ⟨⟨rfl,fun _ _ => rfl⟩,h⟩
 | some d =>
  obtain ⟨hm,hne⟩:=hd d rfl
  have hsu : s ∉ us:=fun hs => (hu s hs).2 rfl
  have e1 : look (putU σ (some d) y us) s = look σ s:=by
   have:=h1
   rw [look_putU] at this ⊢
   simp only [if_neg hne,if_neg hsu] at this ⊢
   rcases purgeV_undef (d :: us) (look σ s) with e | ⟨e,_⟩
   ·exact e
   ·exact absurd e this
  have e2 : ∀ t,(look σ s).target = some t → t ∉ ds ∧ look (putU σ (some d) y us) t = look σ t ∧ look σ t ≠ .undef ∧ (look σ t).target = none:=by
   intro t ht
   obtain ⟨g1,g2,g3⟩:=h2 t (by rw [e1]; exact ht)
   have hnd : t ≠ d:=by rintro rfl; exact g1 hm
   have htu : t ∉ us:=fun hs => g1 (hu t hs).1
   have e3 : look (putU σ (some d) y us) t = look σ t:=by
    have:=g2
    rw [look_putU] at this ⊢
    simp only [if_neg hnd,if_neg htu] at this ⊢
    rcases purgeV_undef (d :: us) (look σ t) with e | ⟨e,_⟩
    ·exact e
    ·exact absurd e this
   rw [e3] at g2 g3
   exact ⟨g1,e3,g2,g3⟩
  refine ⟨⟨e1.symm,fun t ht => ?_⟩,?_⟩
  ·rw [e1] at ht
   exact (e2 t ht).2.1.symm
  ·rw [e1] at hL
   exact check1_mk hL fun t ht => ⟨(e2 t ht).1,(e2 t ht).2.2⟩
theorem like_forth {σ : St} {ds : List Nat} {d : Option Tmp} {y : AV} {us : List Nat} {s : Nat} (hd : ∀ t,d = some t → t ∈ ds ∧ s ≠ t) (hu : ∀ t ∈ us,t ∈ ds ∧ s ≠ t) (h : check1 σ ds s = true) : Like σ (putU σ d y us) s ∧ check1 (putU σ d y us) ds s = true:=by
 obtain ⟨h1,h2⟩:=check1_spec h
 have hL:=check1_live h
 cases d with
 | none => exact ⟨⟨rfl,fun _ _ => rfl⟩,h⟩
 | some d =>
  obtain ⟨hm,hne⟩:=hd d rfl
  have hsu : s ∉ us:=fun hs => (hu s hs).2 rfl
  have e1 : look (putU σ (some d) y us) s = look σ s:=by
   rw [look_putU]
   simp only [if_neg hne,if_neg hsu]
   rcases purgeV_undef (d :: us) (look σ s) with e | ⟨_,t,ht,hmm⟩
   ·exact e
   ·have:=(h2 t ht).1
    rcases List.mem_cons.1 hmm with rfl | hmm
    ·exact absurd hm this
    ·exact absurd (hu t hmm).1 this
  have e2 : ∀ t,(look σ s).target = some t → look (putU σ (some d) y us) t = look σ t:=by
   intro t ht
   obtain ⟨g1,g2,g3⟩:=h2 t ht
   have hnd : t ≠ d:=by rintro rfl; exact g1 hm
   have htu : t ∉ us:=fun hs => g1 (hu t hs).1
   rw [look_putU]
   simp only [if_neg hnd,if_neg htu]
   exact purgeV_none _ g3
  refine ⟨⟨e1,e2⟩,?_⟩
  refine check1_mk (by rw [e1]; exact hL) fun t ht => ?_
  rw [e1] at ht
  rw [e2 t ht]
  exact h2 t ht
theorem check1_like {σ τ : St} {ds : List Nat} {s : Nat} (h : Eqv σ τ) : check1 τ ds s = check1 σ ds s:=by
 unfold check1
 rw [h s]
 congr 1
 split
 ·rfl
 ·rename_i t _; rw [h t]
def check0 (σ : St) (ds : List Nat) (s : Nat) : Bool:=ds.contains s && (live (look σ s) && (look σ s).target.isNone)
def chkO (all : List Oper) (o : Oper) (σ : St) (ds : List Nat) (s : Nat) : Bool:=if isB all o = true then check0 σ ds s else check1 σ ds s
theorem chkO_n {all : List Oper} {o : Oper} (h : isB all o = false) (σ : St) (ds : List Nat) : chkO all o σ ds = check1 σ ds:=by funext s; simp [chkO,h]
theorem chkO_b {all : List Oper} {o : Oper} (h : isB all o = true) (σ : St) (ds : List Nat) : chkO all o σ ds = check0 σ ds:=by funext s; simp [chkO,h]
theorem check0_live {σ : St} {ds : List Nat} {s : Nat} (h : check0 σ ds s = true) : live (look σ s) = true:=by
 unfold check0 at h
 simp only [Bool.and_eq_true] at h
 exact h.2.1
theorem check0_spec {σ : St} {ds : List Nat} {s : Nat} (h : check0 σ ds s = true) : s ∈ ds ∧ look σ s ≠ .undef ∧ (look σ s).target = none:=by
 have hl:=check0_live h
 unfold check0 at h
 simp only [Bool.and_eq_true] at h
 obtain ⟨h1,_,h2⟩:=h
 exact ⟨by simpa using h1,fun e => by rw [e] at hl; simp [live] at hl,by simpa using h2⟩
theorem check0_mk {σ : St} {ds : List Nat} {s : Nat} (h1 : s ∈ ds) (h2 : live (look σ s) = true) (h3 : (look σ s).target = none) : check0 σ ds s = true:=by
 unfold check0
 rw [h2,h3]
 simpa using h1
theorem chkO_1 {all : List Oper} {o : Oper} {σ : St} {ds : List Nat} {s : Nat} (h : chkO all o σ ds s = true) : check1 σ ds s = true:=by
 cases hb : isB all o with
 | false => rw [chkO_n hb] at h; exact h
 | true =>
  rw [chkO_b hb] at h
  obtain ⟨h1,h2,h3⟩:=check0_spec h
  exact check1_mk (check0_live h) (by rw [h3]; simp)
theorem chkO_B {all : List Oper} {o : Oper} {σ : St} {ds : List Nat} {s : Nat} (hb : isB all o = true) (h : chkO all o σ ds s = true) : s ∈ ds ∧ look σ s ≠ .undef ∧ (look σ s).target = none:=by
 rw [chkO_b hb] at h; exact check0_spec h
theorem chkO_to {all : List Oper} {o : Oper} {σ τ : St} {ds : List Nat} {s : Nat} (hl : Like σ τ s) (h1 : check1 τ ds s = true) (h : chkO all o σ ds s = true) : chkO all o τ ds s = true:=by
 cases hb : isB all o with
 | false => rw [chkO_n hb]; exact h1
 | true =>
  obtain ⟨g1,g2,g3⟩:=chkO_B hb h
  rw [chkO_b hb]
  rw [chkO_b hb] at h
  exact check0_mk g1 (by rw [hl.1]; exact check0_live h) (by rw [hl.1]; exact g3)
theorem chkO_eqv {all : List Oper} {o : Oper} {σ τ : St} {ds : List Nat} {s : Nat} (h : Eqv σ τ) (hc : chkO all o σ ds s = true) : chkO all o τ ds s = true :=
 chkO_to (h.like s) (by rw [check1_like h]; exact chkO_1 hc) hc
section
variable {P : Program} {callW : Call → Option Tmp → St → (St → Prop) → Prop}
def Exec (P : Program) (callW : Call → Option Tmp → St → (St → Prop) → Prop) (all : List Oper) (σ : St) (o : Oper) (y : AV) (us : List Nat) : Prop :=
 (∀ t,y.target = some t → ∃ s ∈ looks all o,t = s ∨ (look σ s).target = some t) ∧ (∀ d,o.dst = some d → y.target ≠ some d) ∧ (∀ t ∈ us,isB all o = true ∧ t ∈ looks all o) ∧
 ∀ τ,(∀ s ∈ looks all o,Like σ τ s) → ∀ K' : St → Prop,K' (putU τ o.dst y us) → stepW P callW all o τ K'
theorem Like.trans {σ τ ρ : St} {s : Nat} (h : Like σ τ s) (k : Like τ ρ s) : Like σ ρ s:=⟨k.1.trans h.1,fun t ht => (k.2 t (by rw [h.1]; exact ht)).trans (h.2 t ht)⟩
theorem Like.symm {σ τ : St} {s : Nat} (h : Like σ τ s) : Like τ σ s:=⟨h.1.symm,fun t ht => (h.2 t (by rw [← h.1]; exact ht)).symm⟩
theorem Exec.like {all : List Oper} {σ τ : St} {o : Oper} {y : AV} {us : List Nat} (h : Exec P callW all σ o y us) (hl : ∀ s ∈ looks all o,Like σ τ s) : Exec P callW all τ o y us:=by
 refine ⟨fun t ht => ?_,h.2.1,h.2.2.1,fun ρ hr K' hk => h.2.2.2 ρ (fun s hs => (hl s hs).trans (hr s hs)) K' hk⟩
 obtain ⟨s,hs,hh⟩:=h.1 t ht
 exact ⟨s,hs,by rw [(hl s hs).1]; exact hh⟩
def dW (P : Program) (callW : Call → Option Tmp → St → (St → Prop) → Prop) (all : List Oper) (ds : List Nat) : List Oper → St → (St → Prop) → Prop
 | [],σ,K => K σ
 | o :: r,σ,K => (isP P all o = true → (looks all o).all (chkO all o σ ds) = true) ∧ stepW P callW all o σ (fun σ' => dW P callW all ds r σ' K)
def dE (P : Program) (callW : Call → Option Tmp → St → (St → Prop) → Prop) (all : List Oper) (ds : List Nat) : List Oper → St → (St → Prop) → Prop
 | [],σ,K => ∃ σ',Eqv σ σ' ∧ K σ'
 | o :: r,σ,K => (isP P all o = true ∧ (∀ s ∈ looks all o,chkO all o σ ds s = true) ∧ ∃ y us,Exec P callW all σ o y us ∧ dE P callW all ds r (putU σ o.dst y us) K) ∨
  (isP P all o = false ∧ ∃ σ',Eqv σ σ' ∧ stepW P callW all o σ' (fun σ1 => dW P callW all ds r σ1 K))
theorem dE_of_dW (hcl : CallsLoc callW) {all : List Oper} {ds : List Nat} : ∀ (l : List Oper) (σ : St) {K : St → Prop},dW P callW all ds l σ K → dE P callW all ds l σ K
 | [],σ,K,h => ⟨σ,.refl σ,h⟩
 | o :: r,σ,K,h => by
  obtain ⟨h1,h2⟩:=h
  cases hp : isP P all o with
  | false => exact .inr ⟨hp,σ,.refl σ,h2⟩
  | true =>
   have hc:=List.all_eq_true.1 (h1 hp)
   obtain ⟨y,us,g1,g2,g2',g3,g4⟩:=t_step hcl hp (fun s hs => check1_live (chkO_1 (hc s hs))) (fun hb s hs => (chkO_B hb (hc s hs)).2.2) h2
   exact .inl ⟨hp,hc,y,us,⟨g1,g2,g2',g4⟩,dE_of_dW hcl r _ g3⟩
theorem dE_eqv {all : List Oper} {ds : List Nat} : ∀ (l : List Oper) {σ τ : St} {K : St → Prop},Eqv σ τ → dE P callW all ds l σ K → dE P callW all ds l τ K
 | [],σ,τ,K,e,h => by
  obtain ⟨σ',h1,h2⟩:=h
  exact ⟨σ',e.symm.trans h1,h2⟩
 | o :: r,σ,τ,K,e,h => by
  rcases h with ⟨hp,h1,y,us,h2,h3⟩ | ⟨hp,σ',h1,h2⟩
  ·exact .inl ⟨hp,fun s hs => chkO_eqv e (h1 s hs),y,us,h2.like (fun s _ => e.like s),dE_eqv r (e.putU _ _ _) h3⟩
  ·exact .inr ⟨hp,σ',e.symm.trans h1,h2⟩
def disj (x y : List Nat) : Bool:=x.all fun s => !y.contains s
theorem disj_spec {x y : List Nat} (h : disj x y = true) {s : Nat} (h1 : s ∈ x) (h2 : s ∈ y) : False:=by
 have:=List.all_eq_true.1 h s h1
 simp [h2] at this
def apartS (all : List Oper) (x y : Oper) : Bool :=
 (match x.dst with | some d => !(looks all y).contains d && y.dst != some d | none => true) && (match y.dst with | some d => !(looks all x).contains d | none => true) && (!(isB all x || isB all y) || disj (looks all x) (looks all y))
theorem apartS_spec {all : List Oper} {x y : Oper} (h : apartS all x y = true) : (∀ d,x.dst = some d → d ∉ looks all y ∧ y.dst ≠ some d) ∧ (∀ d,y.dst = some d → d ∉ looks all x) ∧ ((isB all x = true ∨ isB all y = true) → ∀ s,s ∈ looks all x → s ∉ looks all y):=by
 unfold apartS at h
 simp only [Bool.and_eq_true] at h
 refine ⟨fun d hd => ?_,fun d hd => ?_,fun hb s h1 h2 => ?_⟩
 ·have:=h.1.1
  rw [hd] at this
  simp only [Bool.and_eq_true] at this
  exact ⟨by simpa using this.1,by simpa using this.2⟩
 ·have:=h.1.2
  rw [hd] at this
  simpa using this
 ·have:=h.2
  rcases hb with hb | hb <;> rw [hb] at this <;> simp only [Bool.or_true,Bool.true_or,Bool.not_true,Bool.false_or] at this <;> exact disj_spec this h1 h2
theorem front {all : List Oper} {ds : List Nat} {o : Oper} {post : List Oper} (hpo : isP P all o = true) (hdo : ∀ d,o.dst = some d → d ∈ ds) : ∀ (pre : List Oper) (σ : St) {K : St → Prop},(∀ k ∈ pre,isP P all k = true ∧ apartS all k o = true ∧ ∀ d,k.dst = some d → d ∈ ds) → dE P callW all ds (pre ++ o :: post) σ K →
  (∀ s ∈ looks all o,chkO all o σ ds s = true) ∧ ∃ y us,Exec P callW all σ o y us ∧ dE P callW all ds (pre ++ post) (putU σ o.dst y us) K
 | [],σ,K,_,h => by
  rcases h with ⟨_,h1,h2⟩ | ⟨hp,_⟩
  ·exact ⟨h1,h2⟩
  ·rw [hpo] at hp; cases hp
 | k :: pre,σ,K,hk,h => by
  obtain ⟨hpk,hap,hdk⟩:=hk k (List.mem_cons_self ..)
  obtain ⟨a1,a2,a3⟩:=apartS_spec hap
  rcases h with ⟨_,h1,yk,uk,h2,h3⟩ | ⟨hp,_⟩
  ·obtain ⟨g1,yo,uo,g2,g3⟩:=front hpo hdo pre (putU σ k.dst yk uk) (fun k' hm => hk k' (List.mem_cons_of_mem _ hm)) h3
   have huk : ∀ t ∈ uk,isB all k = true ∧ t ∈ looks all k ∧ t ∈ ds:=fun t ht => ⟨(h2.2.2.1 t ht).1,(h2.2.2.1 t ht).2,(chkO_B (h2.2.2.1 t ht).1 (h1 t (h2.2.2.1 t ht).2)).1⟩
   have huo : ∀ t ∈ uo,isB all o = true ∧ t ∈ looks all o ∧ t ∈ ds:=fun t ht => ⟨(g2.2.2.1 t ht).1,(g2.2.2.1 t ht).2,(chkO_B (g2.2.2.1 t ht).1 (g1 t (g2.2.2.1 t ht).2)).1⟩
   have hko : ∀ t ∈ uk,t ∉ looks all o:=fun t ht hs => a3 (.inl (huk t ht).1) t (huk t ht).2.1 hs
   have hok : ∀ t ∈ uo,t ∉ looks all k:=fun t ht hs => a3 (.inr (huo t ht).1) t hs (huo t ht).2.1
   have hback : ∀ s ∈ looks all o,Like (putU σ k.dst yk uk) σ s ∧ check1 σ ds s = true:=fun s hs => like_back (fun t ht => ⟨hdk t ht,by rintro rfl; exact (a1 _ ht).1 hs⟩) (fun t ht => ⟨(huk t ht).2.2,by rintro rfl; exact hko _ ht hs⟩) (chkO_1 (g1 s hs))
   have hforth : ∀ s ∈ looks all k,Like σ (putU σ o.dst yo uo) s ∧ check1 (putU σ o.dst yo uo) ds s = true:=fun s hs => like_forth (fun t ht => ⟨hdo t ht,by rintro rfl; exact a2 _ ht hs⟩) (fun t ht => ⟨(huo t ht).2.2,by rintro rfl; exact hok _ ht hs⟩) (chkO_1 (h1 s hs))
   refine ⟨fun s hs => chkO_to (hback s hs).1 (hback s hs).2 (g1 s hs),yo,uo,g2.like (fun s hs => (hback s hs).1),.inl ⟨hpk,fun s hs => chkO_to (hforth s hs).1 (hforth s hs).2 (h1 s hs),yk,uk,h2.like (fun s hs => (hforth s hs).1),dE_eqv _ ?_ g3⟩⟩
   -- the two slots,in either order
   intro s
   have hyo : ∀ d,k.dst = some d → purgeV (d :: uk) yo = yo:=by
    intro d hd
    rcases purgeV_undef (d :: uk) yo with e | ⟨_,t,ht,hm⟩
    ·exact e
    ·have hmd : t ∈ ds ∧ t ∉ looks all o:=by
      rcases List.mem_cons.1 hm with rfl | hm
      ·exact ⟨hdk _ hd,(a1 _ hd).1⟩
      ·exact ⟨(huk t hm).2.2,hko t hm⟩
     obtain ⟨s',hs',hh⟩:=g2.1 t ht
     rcases hh with rfl | hh
     ·exact absurd hs' hmd.2
     ·exact absurd hmd.1 ((check1_spec (chkO_1 (g1 s' hs'))).2 t hh).1
   have hyk : ∀ d,o.dst = some d → purgeV (d :: uo) yk = yk:=by
    intro d hd
    rcases purgeV_undef (d :: uo) yk with e | ⟨_,t,ht,hm⟩
    ·exact e
    ·have hmd : t ∈ ds ∧ t ∉ looks all k:=by
      rcases List.mem_cons.1 hm with rfl | hm
      ·exact ⟨hdo _ hd,a2 _ hd⟩
      ·exact ⟨(huo t hm).2.2,hok t hm⟩
     obtain ⟨s',hs',hh⟩:=h2.1 t ht
     rcases hh with rfl | hh
     ·exact absurd hs' hmd.2
     ·exact absurd hmd.1 ((check1_spec (chkO_1 (h1 s' hs'))).2 t hh).1
   rw [look_putU,look_putU,look_putU,look_putU]
   cases hkd : k.dst with
   | none => cases hod : o.dst <;> simp
   | some dk =>
    cases hod : o.dst with
    | none => simp
    | some d =>
     have hne : dk ≠ d:=by rintro rfl; exact (a1 dk hkd).2 hod
     have n1 : dk ∉ uo:=fun h => (a1 dk hkd).1 (huo dk h).2.1
     have n2 : d ∉ uk:=fun h => a2 d hod (huk d h).2.1
     simp only
     by_cases e1 : s = dk
     ·subst e1
      simp only [if_true,if_neg hne,if_neg n1]
      exact (hyk d hod).symm
     ·by_cases e2 : s = d
      ·subst e2
       simp only [if_true,if_neg e1,if_neg n2]
       exact hyo dk hkd
      ·simp only [if_neg e1,if_neg e2]
       by_cases e3 : s ∈ uk
       ·by_cases e4 : s ∈ uo
        ·simp [e3,e4]
        ·simp only [if_pos e3,if_neg e4]; rfl
       ·by_cases e4 : s ∈ uo
        ·simp only [if_neg e3,if_pos e4]; rfl
        ·simp only [if_neg e3,if_neg e4]
         exact purge_comm _ _ _
  ·rw [hpk] at hp; cases hp
end
end Go.Proofs.YtpffgegfjpdncaaGreatDoor.Am
namespace Go.Proofs.YtpffgegfjpdncaaGreatDoor.Am
open Go.RowKit AV
set_option linter.unusedVariables false
def predsOf (o : Oper) : List Nat:=(o.after.toList.filter (Region.binds .any)).map (·.on)
def maskOf (ms : List Nat) (ps : List Nat) : Nat:=ps.foldl (fun m p => m ||| (1 <<< p) ||| ms.getD p 0) 0
def maskGo : List Nat → List Oper → List Nat
 | done,[] => done
 | done,o :: r => maskGo (done ++ [maskOf done (predsOf o)]) r
def pairOk (P : Program) (all : List Oper) (m : Nat) (o : Oper) (k : Nat) : Bool:=m.testBit k || (match all[k]? with | some ok => isP P all ok && isP P all o && apartS all ok o | none => true)
def rowOk (P : Program) (all : List Oper) (ms : List Nat) (i : Nat) : Bool:=match all[i]? with
 | none => true
 | some o => (predsOf o).all (fun p => decide (p < i)) && (ms.getD i 0 == maskOf ms (predsOf o)) && (List.range i).all (pairOk P all (ms.getD i 0) o)
def drawOk (P : Program) (ops : List Oper) : Bool:=P.follows .mixedOrders && (List.range ops.length).all (rowOk P ops (maskGo [] ops))
theorem foldl_mask (ms : List Nat) : ∀ (ps : List Nat) (m k : Nat),(ps.foldl (fun m p => m ||| (1 <<< p) ||| ms.getD p 0) m).testBit k = true → m.testBit k = true ∨ ∃ p ∈ ps,k = p ∨ (ms.getD p 0).testBit k = true
 | [],m,k,h => .inl h
 | p :: ps,m,k,h => by
  rw [List.foldl_cons] at h
  rcases foldl_mask ms ps _ k h with h | ⟨q,hq,h⟩
  ·rw [Nat.testBit_or,Nat.testBit_or,Bool.or_eq_true,Bool.or_eq_true] at h
   rcases h with (h | h) | h
   ·exact .inl h
   ·rw [Nat.one_shiftLeft,Nat.testBit_two_pow] at h
    exact .inr ⟨p,List.mem_cons_self ..,.inl (by exact (by simpa using h : p = k).symm)⟩
   ·exact .inr ⟨p,List.mem_cons_self ..,.inr h⟩
  ·exact .inr ⟨q,List.mem_cons_of_mem _ hq,h⟩
theorem maskOf_spec {ms ps : List Nat} {k : Nat} (h : (maskOf ms ps).testBit k = true) : ∃ p ∈ ps,k = p ∨ (ms.getD p 0).testBit k = true:=by
 rcases foldl_mask ms ps 0 k h with h | h
 ·simp at h
 ·exact h
theorem Sim.eqv {P : Program} {C : Ctx P} {σ τ : St} {a : Act} {w : World} (S : Sim C σ a w) (h : Eqv σ τ) : Sim C τ a w:=S.weaken (fun k => .inr (.inl ⟨h k,fun s _ _ => h s⟩))
section
variable {P : Program} {C : Ctx P} {callW : Call → Option Tmp → St → (St → Prop) → Prop}
def Down (ops : Array Oper) (listed : Array Bool) : Prop:=∀ (j : Nat) (o : Oper),ops[j]? = some o → listed.getD j true = true → ∀ p ∈ predsOf o,listed.getD p false = true
def unl (n : Nat) (listed : Array Bool) : List Nat:=(List.range n).filter fun i => !listed.getD i true
def remOf (ops : Array Oper) (listed : Array Bool) : List Oper:=(unl ops.size listed).filterMap fun i => ops[i]?
theorem getD_tf {listed : Array Bool} {k : Nat} (hk : k < listed.size) : listed.getD k true = listed.getD k false:=by
 simp [hk]
theorem down_mask {ops : Array Oper} {listed : Array Bool} {ms : List Nat} (hsz : listed.size = ops.size) (hd : Down ops listed) (hrow : ∀ i,i < ops.size → rowOk P ops.toList ms i = true) :
  ∀ (n j : Nat),j ≤ n → j < ops.size → listed.getD j true = true → ∀ k,(ms.getD j 0).testBit k = true → listed.getD k false = true
 | n,j,hjn,hj,hl,k,hk => by
  have hr:=hrow j hj
  unfold rowOk at hr
  have hj' : ops.toList[j]? = some ops[j]:=by rw [Array.getElem?_toList,Array.getElem?_eq_getElem hj]
  rw [hj'] at hr
  simp only [Bool.and_eq_true,beq_iff_eq] at hr
  obtain ⟨⟨r1,r2⟩,_⟩:=hr
  rw [r2] at hk
  obtain ⟨p,hp,hh⟩:=maskOf_spec hk
  have hpl:=hd j ops[j] (Array.getElem?_eq_getElem hj) hl p hp
  have hpj : p < j:=by simpa using (List.all_eq_true.1 r1) p hp
  rcases hh with rfl | hh
  ·exact hpl
  ·cases n with
   | zero => omega
   | succ n => exact down_mask hsz hd hrow n p (by omega) (by omega) (by rw [getD_tf (by omega)]; exact hpl) k hh
theorem unl_split {n : Nat} {listed : Array Bool} {i : Nat} (hi : i < n) (hl : listed.getD i true = false) (hsz : listed.size = n) :
  ∃ pre post,unl n listed = pre ++ i :: post ∧ (∀ k ∈ pre,k < i ∧ listed.getD k true = false) ∧ unl n (listed.setIfInBounds i true) = pre ++ post:=by
 have hr : List.range n = List.range i ++ i :: List.range' (i + 1) (n - i - 1):=by
  rw [List.range_eq_range',List.range_eq_range']
  have : n = i + (1 + (n - i - 1)):=by omega
  conv => lhs; rw [this]
  rw [← List.range'_append_1,← List.range'_append_1]
  simp
 have hset : ∀ k,k ≠ i → (listed.setIfInBounds i true).getD k true = listed.getD k true:=fun k hk => getD_set_ne true (Ne.symm hk)
 refine ⟨(List.range i).filter fun k => !listed.getD k true,(List.range' (i + 1) (n - i - 1)).filter fun k => !listed.getD k true,?_,?_,?_⟩
 ·unfold unl
  rw [hr,List.filter_append,List.filter_cons,if_pos (by rw [hl]; rfl)]
 ·intro k hk
  obtain ⟨h1,h2⟩:=List.mem_filter.1 hk
  exact ⟨by simpa using h1,by simpa using h2⟩
 ·unfold unl
  rw [hr,List.filter_append,List.filter_cons]
  have hs : (listed.setIfInBounds i true).getD i true = true:=by simp [show i < listed.size by omega]
  rw [if_neg (by rw [hs]; simp)]
  congr 1
  ·refine List.filter_congr fun k hk => ?_
   rw [hset k (by have:=List.mem_range.1 hk; omega)]
  ·refine List.filter_congr fun k hk => ?_
   rw [hset k (by have:=List.mem_range'_1.1 hk; omega)]
theorem draw_any (hc : CallsOk P callW) (hcl : CallsLoc callW) {ops : Array Oper} {Q : Exit → Act → World → Prop} {K : St → Prop} (hok : ops.toList.all (operOk C.n C.ks) = true) (hdr : drawOk P ops.toList = true) (hQ : ∀ a w,lift C K a w → Q .normal a w) :
  ∀ (fuel : Nat) (listed : Array Bool) (σ : St) (a : Act) (w : World),listed.size = ops.size → Down ops listed → (unl ops.size listed).length = fuel →
   dE P callW ops.toList (ops.toList.filterMap (·.dst)) (remOf ops listed) σ K → Sim C σ a w → wpAny P .any ops Q fuel listed a w:=by
 have hrow : ∀ i,i < ops.size → rowOk P ops.toList (maskGo [] ops.toList) i = true:=by
  intro i hi
  simp only [drawOk,Bool.and_eq_true] at hdr
  exact (List.all_eq_true.1 hdr.2) i (by simpa using hi)
 generalize maskGo [] ops.toList = ms at hrow
 -- the first that is not listed is ready
 have hready : ∀ (listed : Array Bool),listed.size = ops.size → ∀ (i : Nat) (l : List Nat),unl ops.size listed = i :: l → i ∈ Region.ready .any ops listed:=by
  intro listed hsz i l hu
  have hi : i ∈ unl ops.size listed:=by rw [hu]; exact List.mem_cons_self ..
  obtain ⟨h1,h2⟩:=List.mem_filter.1 hi
  have hlt : i < ops.size:=by simpa using h1
  refine mem_ready.2 ⟨by simpa using h2,ops[i],Array.getElem?_eq_getElem hlt,fun e he hb => ?_⟩
  have hr:=hrow i hlt
  unfold rowOk at hr
  rw [Array.getElem?_toList,Array.getElem?_eq_getElem hlt] at hr
  simp only [Bool.and_eq_true] at hr
  have hp : e.on ∈ predsOf ops[i]:=List.mem_map.2 ⟨e,List.mem_filter.2 ⟨by simpa using he,hb⟩,rfl⟩
  have hlt' : e.on < i:=by simpa using (List.all_eq_true.1 hr.1.1) _ hp
  cases hh : listed.getD e.on false with
  | true => rfl
  | false =>
   have hm : e.on ∈ unl ops.size listed:=List.mem_filter.2 ⟨by simp; omega,by rw [getD_tf (by omega),hh]; rfl⟩
   have hsorted : (unl ops.size listed).Pairwise (· < ·):=(List.pairwise_lt_range).filter _
   rw [hu] at hm hsorted
   rcases List.mem_cons.1 hm with h | h
   ·omega
   ·have:=(List.pairwise_cons.1 hsorted).1 _ h
    omega
 intro fuel
 induction fuel with
 | zero =>
  intro listed σ a w hsz hd hu hE S
  have hu0 : unl ops.size listed = []:=List.eq_nil_of_length_eq_zero hu
  refine ⟨?_,?_⟩
  ·apply List.eq_nil_iff_forall_not_mem.2
   intro j hj
   obtain ⟨h1,o,ho,_⟩:=mem_ready.1 hj
   have : j ∈ unl ops.size listed:=List.mem_filter.2 ⟨by simpa using (Array.getElem?_eq_some_iff.1 ho).1,by rw [h1]; rfl⟩
   rw [hu0] at this; cases this
  ·unfold remOf at hE
   rw [hu0] at hE
   obtain ⟨σ',h1,h2⟩:=hE
   exact hQ a w ⟨σ',h2,S.eqv h1⟩
 | succ fuel ih =>
  intro listed σ a w hsz hd hu hE S
  refine ⟨fun hnil => ?_,fun i hi => ?_⟩
  ·cases hul : unl ops.size listed with
   | nil => rw [hul] at hu; cases hu
   | cons j l =>
    have:=hready listed hsz j l hul
    rw [hnil] at this; cases this
  ·obtain ⟨h1,o,ho,haft⟩:=mem_ready.1 hi
   have hlt : i < ops.size:=(Array.getElem?_eq_some_iff.1 ho).1
   obtain ⟨pre,post,u1,u2,u3⟩:=unl_split hlt h1 hsz
   have hoi : ops.toList[i]? = some o:=by rw [Array.getElem?_toList]; exact ho
   have hop : operOk C.n C.ks o = true:=(List.all_eq_true.1 hok) o (List.mem_of_getElem? hoi)
   have hds : ∀ (o' : Oper),o' ∈ ops.toList → ∀ d,o'.dst = some d → d ∈ ops.toList.filterMap (·.dst):=fun o' hm d hd' => List.mem_filterMap.2 ⟨o',hm,hd'⟩
   have hsz' : (listed.setIfInBounds i true).size = ops.size:=by simpa using hsz
   have hd' : Down ops (listed.setIfInBounds i true):=by
    intro j oj hj hl p hp
    have hpl : listed.getD p false = true:=by
     by_cases hji : j = i
     ·subst hji
      rw [ho] at hj; cases hj
      obtain ⟨e,he,rfl⟩:=List.mem_map.1 hp
      obtain ⟨he1,he2⟩:=List.mem_filter.1 he
      exact haft e (by simpa using he1) he2
     ·rw [getD_set_ne true (Ne.symm hji)] at hl
      exact hd j oj hj hl p hp
    exact getD_set_true hpl
   have hu' : (unl ops.size (listed.setIfInBounds i true)).length = fuel:=by
    rw [u3,List.length_append]
    rw [u1,List.length_append,List.length_cons] at hu
    omega
   have hrem : remOf ops listed = (pre.filterMap fun k => ops[k]?) ++ o :: (post.filterMap fun k => ops[k]?):=by
    unfold remOf
    rw [u1,List.filterMap_append,List.filterMap_cons,ho]
   have hrem' : remOf ops (listed.setIfInBounds i true) = (pre.filterMap fun k => ops[k]?) ++ (post.filterMap fun k => ops[k]?):=by
    unfold remOf
    rw [u3,List.filterMap_append]
   -- what is not listed before it has nothing to do with it
   have hmask : ∀ k,(ms.getD i 0).testBit k = true → listed.getD k false = true:=by
    intro k hk
    have hr:=hrow i hlt
    unfold rowOk at hr
    rw [hoi] at hr
    simp only [Bool.and_eq_true,beq_iff_eq] at hr
    rw [hr.1.2] at hk
    obtain ⟨p,hp,hh⟩:=maskOf_spec hk
    have hpi : p < i:=by simpa using (List.all_eq_true.1 hr.1.1) p hp
    have hpl : listed.getD p false = true:=by
     obtain ⟨e,he,rfl⟩:=List.mem_map.1 hp
     obtain ⟨he1,he2⟩:=List.mem_filter.1 he
     exact haft e (by simpa using he1) he2
    rcases hh with rfl | hh
    ·exact hpl
    ·exact down_mask hsz hd hrow p p (Nat.le_refl _) (by omega) (by rw [getD_tf (by omega)]; exact hpl) k hh
   have hpre : ∀ k ∈ pre.filterMap (fun k => ops[k]?),isP P ops.toList k = true ∧ isP P ops.toList o = true ∧ apartS ops.toList k o = true ∧ k ∈ ops.toList:=by
    intro ok hok'
    obtain ⟨k,hk,hkk⟩:=List.mem_filterMap.1 hok'
    obtain ⟨hki,hkl⟩:=u2 k hk
    have hr:=hrow i hlt
    unfold rowOk at hr
    rw [hoi] at hr
    simp only [Bool.and_eq_true] at hr
    have hp:=(List.all_eq_true.1 hr.2) k (by simpa using hki)
    unfold pairOk at hp
    rw [Bool.or_eq_true] at hp
    rcases hp with hp | hp
    ·have:=hmask k hp
     rw [← getD_tf (by omega),hkl] at this; cases this
    ·have hkk' : ops.toList[k]? = some ok:=by rw [Array.getElem?_toList]; exact hkk
     rw [hkk'] at hp
     simp only [Bool.and_eq_true] at hp
     exact ⟨hp.1.1,hp.1.2,hp.2,List.mem_of_getElem? hkk'⟩
   -- one step
   have step : ∀ {σ0 : St} {K0 : St → Prop},Sim C σ0 a w → stepW P callW ops.toList o σ0 K0 → wpOp P ops Q i (lift C K0) a w:=by
    intro σ0 K0 S0 hst
    unfold wpOp
    simp only [ho]
    rcases cond_sound hok S0 hst with ⟨hw,h⟩ | ⟨hw,h⟩
    ·rw [if_pos hw]
     exact .inl (sim_op hc (by rw [S0.2.2.1]; exact hop) S0 h)
    ·rw [if_neg (by simp [hw])]
     exact skip_sound hop S0 h
   rw [hrem] at hE
   cases hp : isP P ops.toList o with
   | true =>
    obtain ⟨_,y,us,g1,g2⟩:=front (o:=o) hp (hds o (List.mem_of_getElem? hoi)) _ σ (fun k hk => by
     obtain ⟨q1,_,q2,q3⟩:=hpre k hk
     exact ⟨q1,q2,hds k q3⟩) hE
    have hst:=g1.2.2.2 σ (fun s _ => ⟨rfl,fun _ _ => rfl⟩) (fun σ' => σ' = putU σ o.dst y us) rfl
    refine wpOp_mono ?_ (step S hst)
    rintro a' w' ⟨σ',rfl,S'⟩
    exact ih _ _ a' w' hsz' hd' hu' (by rw [hrem']; exact g2) S'
   | false =>
    have hpn : pre.filterMap (fun k => ops[k]?) = []:=by
     cases hl : pre.filterMap (fun k => ops[k]?) with
     | nil => rfl
     | cons k l =>
      have:=(hpre k (by rw [hl]; exact List.mem_cons_self ..)).2.1
      rw [hp] at this; cases this
    rw [hpn,List.nil_append] at hE
    rcases hE with ⟨h2,_⟩ | ⟨_,σ',e1,hst⟩
    ·rw [hp] at h2; cases h2
    ·refine wpOp_mono ?_ (step (S.eqv e1) hst)
     rintro a' w' ⟨σ1,hdw,S'⟩
     exact ih _ _ a' w' hsz' hd' hu' (by rw [hrem',hpn,List.nil_append]; exact dE_of_dW hcl _ _ hdw) S'
def DrawW (P : Program) (callW : Call → Option Tmp → St → (St → Prop) → Prop) (ops : List Oper) (σ : St) (K : St → Prop) : Prop :=
 drawOk P ops = true ∧ dW P callW ops (ops.filterMap (·.dst)) ops σ K
theorem Sim.drawn {σ : St} {a : Act} {w : World} (S : Sim C σ a w) : Sim C σ a { w with drawn:=w.drawn + 1 }:=S
theorem draw_sound (hc : CallsOk P callW) (hcl : CallsLoc callW) {ops : Array Oper} {id : Nat} {Q : Exit → Act → World → Prop} {K : St → Prop} {σ : St} {a : Act} {w : World} (hok : ops.toList.all (operOk C.n C.ks) = true) (hQ : ∀ a w,lift C K a w → Q .normal a w)
  (h : DrawW P callW ops.toList σ K) (S : Sim C σ a w) : (Code.region id ops true).wp P Q a w:=by
 obtain ⟨h1,h2⟩:=h
 have hm : P.follows .mixedOrders = true:=by
  have:=h1
  simp only [drawOk,Bool.and_eq_true] at this
  exact this.1
 have hget : ∀ k,(Array.replicate ops.size false).getD k true = true → ops.size ≤ k:=by
  intro k hk
  by_cases h : k < ops.size
  ·simp [h] at hk
  ·omega
 have hul : unl ops.size (Array.replicate ops.size false) = List.range ops.size:=by
  unfold unl
  refine List.filter_eq_self.2 fun k hk => ?_
  have : k < ops.size:=by simpa using hk
  simp [this]
 refine wp_region_any hm (draw_any (C:=C) hc hcl hok h1 hQ ops.size _ σ a _ (by simp) ?_ (by rw [hul]; simp) ?_ S.drawn)
 ·intro j o hj hl
  have:=hget j hl
  have:=(Array.getElem?_eq_some_iff.1 hj).1
  omega
 ·have hrm : remOf ops (Array.replicate ops.size false) = ops.toList:=by
   unfold remOf
   rw [hul]
   apply List.ext_getElem?
   intro k
   have : ∀ n,n ≤ ops.size → (List.range n).filterMap (fun i => ops[i]?) = ops.toList.take n:=by
    intro n
    induction n with
    | zero => simp
    | succ n ih =>
     intro hn
     rw [List.range_succ,List.filterMap_append,ih (by omega)]
     have hlt : n < ops.size:=by omega
     simp [Array.getElem?_eq_getElem hlt,List.take_add_one]
   rw [this ops.size (Nat.le_refl _),List.take_of_length_le (by simp)]
  rw [hrm]
  exact dE_of_dW hcl _ _ h2
end
end Go.Proofs.YtpffgegfjpdncaaGreatDoor.Am
namespace Go.Proofs.YtpffgegfjpdncaaGreatDoor.Am
open Go.RowKit AV
set_option linter.unusedVariables false
set_option maxHeartbeats 1000000
def isV (o : Oper) : Bool:=match o.op,o.dst,o.guard with
 | .move _,some _,none => true
 | .nilCheck _,some _,none => true
 | .assign _,some _,none => true
 | .load _ _,some _,none => true
 | .fieldAddr _ _ _,some _,none => true
 | .indexAddr _ _ _,some _,none => true
 | .binOp _ _ _ _ _,some _,none => true
 | .unOp _ _ _,some _,none => true
 | .pick _ _ _,some _,none => true
 | .index _ _ _,some _,none => true
 | .extract _ _,some _,none => true
 | _,_,_ => false
def isApp : Op → Bool
 | .call c => (match c.callee with | .builtin .append => true | _ => false)
 | _ => false
def isSt (o : Oper) : Bool:=match o.op,o.dst,o.guard with
 | .store _ _ _,none,none => true
 | op,some _,none => isApp op
 | _,_,_ => false
def rowM (all : List Oper) (ms : List Nat) (i : Nat) : Bool:=match all[i]? with
 | none => true
 | some o => (predsOf o).all (fun p => decide (p < i)) && (ms.getD i 0 == maskOf ms (predsOf o))
def rowLp (all : List Oper) (ms : List Nat) (pl : Nat → Bool) (i : Nat) : Bool:=match all[i]? with
 | none => true
 | some o => (isV o || isSt o) &&
  (tmpsOf o.op.operands.toList).all (fun t => (List.range all.length).all fun k => match all[k]? with | some ok => ok.dst != some t || (if k < i then (ms.getD i 0).testBit k else (decide (i < k) && (ms.getD k 0).testBit i)) | none => true) &&
  (List.range all.length).all (fun k => match all[k]? with | some ok => (decide (k = i) || ok.dst == none || ok.dst != o.dst) && (!(decide (k < i) && isSt ok) || ((ms.getD i 0).testBit k || pl k)) | none => true)
abbrev rowL (all : List Oper) (ms : List Nat) (i : Nat) : Bool:=rowLp all ms (fun _ => false) i
theorem rowM_spec {all : List Oper} {ms : List Nat} {i : Nat} {o : Oper} (h : rowM all ms i = true) (ho : all[i]? = some o) : (∀ p ∈ predsOf o,p < i) ∧ ms.getD i 0 = maskOf ms (predsOf o):=by
 unfold rowM at h
 rw [ho] at h
 simp only [Bool.and_eq_true,beq_iff_eq] at h
 exact ⟨fun p hp => by simpa using (List.all_eq_true.1 h.1) p hp,h.2⟩
theorem rowL_mono {all : List Oper} {ms : List Nat} {pl pl' : Nat → Bool} {i : Nat} (h : rowLp all ms pl i = true) (hp : ∀ k,pl k = true → pl' k = true) : rowLp all ms pl' i = true:=by
 unfold rowLp at h ⊢
 split
 ·rfl
 ·rename_i o ho
  rw [ho] at h
  simp only [Bool.and_eq_true] at h ⊢
  refine ⟨h.1,List.all_eq_true.2 fun k hk => ?_⟩
  have:=(List.all_eq_true.1 h.2) k hk
  split
  ·rename_i ok hok
   rw [hok] at this
   simp only [Bool.and_eq_true,Bool.or_eq_true] at this ⊢
   exact ⟨this.1,this.2.imp id fun h => h.imp id (hp k)⟩
  ·rfl
theorem rowL_spec {all : List Oper} {ms : List Nat} {pl : Nat → Bool} {i : Nat} {o : Oper} (h : rowLp all ms pl i = true) (ho : all[i]? = some o) :
  (isV o = true ∨ isSt o = true) ∧
  (∀ t,.tmp t ∈ o.op.operands.toList → ∀ (k : Nat) ok,all[k]? = some ok → ok.dst = some t → (k < i → (ms.getD i 0).testBit k = true) ∧ (¬ k < i → i < k ∧ (ms.getD k 0).testBit i = true)) ∧
  (∀ (k : Nat) ok,all[k]? = some ok → (∀ d,k ≠ i → ok.dst = some d → o.dst ≠ some d) ∧ (k < i → isSt ok = true → (ms.getD i 0).testBit k = true ∨ pl k = true)):=by
 unfold rowLp at h
 rw [ho] at h
 simp only [Bool.and_eq_true,Bool.or_eq_true] at h
 obtain ⟨⟨h1,h4⟩,h5⟩:=h
 refine ⟨h1,?_,?_⟩
 ·intro t ht k ok hk hd
  have:=(List.all_eq_true.1 ((List.all_eq_true.1 h4) t (mem_tmpsOf ht))) k (by simpa using (List.getElem?_eq_some_iff.1 hk).1)
  rw [hk] at this
  simp only [hd,bne_self_eq_false,Bool.false_or] at this
  refine ⟨fun hki => by rw [if_pos hki] at this; exact this,fun hki => ?_⟩
  rw [if_neg hki] at this
  simpa using this
 ·intro k ok hk
  have:=(List.all_eq_true.1 h5) k (by simpa using (List.getElem?_eq_some_iff.1 hk).1)
  rw [hk] at this
  simp only [Bool.and_eq_true,Bool.or_eq_true,beq_iff_eq,bne_iff_ne,Bool.not_eq_true',decide_eq_true_eq] at this
  refine ⟨fun d hne hd he => ?_,fun hki hs => ?_⟩
  ·rcases this.1 with (h | h) | h
   ·exact hne h
   ·rw [hd] at h; cases h
   ·exact h (hd.trans he.symm)
  ·rcases this.2 with h | h
   ·simp [hki,hs] at h
   ·exact h
section
variable {P : Program} {ops : Array Oper} {ms : List Nat} {base : Array Bool} {A A0 : Act} {E : Nat → Act} {W : Nat → World}
structure RefRun (P : Program) (ops : Array Oper) (ms : List Nat) (base : Array Bool) (A0 A : Act) (E : Nat → Act) (W : Nat → World) : Prop where
 rowm : ∀ i,i < ops.size → rowM ops.toList ms i = true
 row : ∀ i,i < ops.size → base.getD i false = false → rowLp ops.toList ms (fun k => base.getD k false) i = true
 was : ∀ j,j < ops.size → base.getD j false = true → W (j + 1) = W j
 env : ∀ (j : Nat) o,ops[j]? = some o → base.getD j false = false → (∀ t,(∀ (k : Nat) ok,ops[k]? = some ok → base.getD k false = false → ok.dst = some t → k < j → (E j).tmps[t]? = A.tmps[t]?) ∧
  ((∀ (k : Nat) ok,ops[k]? = some ok → base.getD k false = false → ok.dst = some t → ¬ k < j) → (E j).tmps[t]? = A0.tmps[t]?))
 pu : ∀ (j : Nat) o,ops[j]? = some o → base.getD j false = false → isV o = true → ∃ v d,o.dst = some d ∧ A.tmps[d]? = some v ∧ (execOp (E j).eval o).run P (W j) = .ok (.value v) (W j) ∧ W (j + 1) = W j ∧
  ∀ (s : Nat) os,ops[s]? = some os → base.getD s false = false → isSt os = true → j < s → (ms.getD s 0).testBit j = false → (execOp (E j).eval o).run P (W (s + 1)) = .ok (.value v) (W (s + 1))
 st : ∀ (s : Nat) o,ops[s]? = some o → base.getD s false = false → isSt o = true → ∃ nx v,(execOp (E s).eval o).run P (W s) = .ok nx (W (s + 1)) ∧ (nx = .value v ∨ (nx = .skip ∧ v = undef)) ∧ ∀ d,o.dst = some d → A.tmps[d]? = some v
structure Mid (ops : Array Oper) (base : Array Bool) (A0 A : Act) (W : Nat → World) (listed : Array Bool) (a : Act) (w : World) : Prop where
 act : ∃ tm,a = { A0 with tmps:=tm } ∧ tm.size = A0.tmps.size ∧ ∀ t,(∀ (k : Nat) ok,ops[k]? = some ok → base.getD k false = false → ok.dst = some t → listed.getD k false = true → tm[t]? = A.tmps[t]?) ∧
  ((∀ (k : Nat) ok,ops[k]? = some ok → base.getD k false = false → ok.dst = some t → listed.getD k false = false) → tm[t]? = A0.tmps[t]?)
 wor : ∃ m,m ≤ ops.size ∧ w = W m ∧ ∀ (s : Nat) o,ops[s]? = some o → base.getD s false = false → isSt o = true → (listed.getD s false = true ↔ s < m)
 mon : ∀ k,base.getD k false = true → listed.getD k false = true
theorem down_maskL (hrm : ∀ i,i < ops.size → rowM ops.toList ms i = true) {listed : Array Bool} (hsz : listed.size = ops.size) (hd : Down ops listed) :
  ∀ (n j : Nat),j ≤ n → j < ops.size → listed.getD j true = true → ∀ k,(ms.getD j 0).testBit k = true → listed.getD k false = true
 | n,j,hjn,hj,hl,k,hk => by
  have hj' : ops.toList[j]? = some ops[j]:=by rw [Array.getElem?_toList,Array.getElem?_eq_getElem hj]
  obtain ⟨r1,r2⟩:=rowM_spec (hrm j hj) hj'
  rw [r2] at hk
  obtain ⟨p,hp,hh⟩:=maskOf_spec hk
  have hpl:=hd j ops[j] (Array.getElem?_eq_getElem hj) hl p hp
  have hpj : p < j:=r1 p hp
  rcases hh with rfl | hh
  ·exact hpl
  ·cases n with
   | zero => omega
   | succ n => exact down_maskL hrm hsz hd n p (by omega) (by omega) (by rw [getD_tf (by omega)]; exact hpl) k hh
theorem not_both {o : Oper} (h : isV o = true) : isSt o = false:=by
 unfold isV at h; unfold isSt
 split at h <;> simp_all [isApp]
theorem isSt_guard {o : Oper} (h : isSt o = true) : o.guard = none:=by
 unfold isSt at h
 split at h <;> simp_all
theorem isSt_op {o : Oper} (h : isSt o = true) : (∃ t x v,o.op = .store t x v ∧ o.dst = none) ∨ (isApp o.op = true ∧ ∃ d,o.dst = some d):=by
 unfold isSt at h
 split at h
 ·rename_i e1 e2 e3; exact .inl ⟨_,_,_,e1,e2⟩
 ·rename_i e1 e2; exact .inr ⟨h,_,e1⟩
 ·cases h
theorem ref_step (R : RefRun P ops ms base A0 A E W) {m : Nat} (hlt : m < ops.size) : W (m + 1) = W m ∨ (∃ o,ops[m]? = some o ∧ base.getD m false = false ∧ isSt o = true):=by
 have ho : ops[m]? = some ops[m]:=Array.getElem?_eq_getElem hlt
 cases hb : base.getD m false with
 | true => exact .inl (R.was m hlt hb)
 | false =>
  rcases (rowL_spec (R.row m hlt hb) (by rw [Array.getElem?_toList]; exact ho)).1 with hp | hs
  ·obtain ⟨v,d,_,_,_,he,_⟩:=R.pu m _ ho hb hp
   exact .inl he
  ·exact .inr ⟨_,ho,rfl,hs⟩
theorem ref_const (R : RefRun P ops ms base A0 A E W) (i : Nat) : ∀ m,i ≤ m → m ≤ ops.size → (∀ (s : Nat) o,ops[s]? = some o → base.getD s false = false → isSt o = true → i ≤ s → s < m → False) → W m = W i
 | 0,h1,_,_ => by
  have h : i = 0:=by omega
  subst h; rfl
 | m + 1,h1,h2,h3 => by
  by_cases hm : i = m + 1
  ·subst hm; rfl
  ·rcases ref_step R (m:=m) (by omega) with he | ⟨o,ho,hb,hs⟩
   ·rw [he]
    exact ref_const R i m (by omega) (by omega) fun s o hso hb hs h4 h5 => h3 s o hso hb hs h4 (by omega)
   ·exact (h3 m o ho hb hs (by omega) (by omega)).elim
theorem ref_last (R : RefRun P ops ms base A0 A E W) (i : Nat) : ∀ m,i ≤ m → m ≤ ops.size → W m = W i ∨ ∃ (s : Nat) (o : Oper),ops[s]? = some o ∧ base.getD s false = false ∧ isSt o = true ∧ i ≤ s ∧ s < m ∧ W (s + 1) = W m
 | 0,h1,_ => by
  have h : i = 0:=by omega
  subst h; exact .inl rfl
 | m + 1,h1,h2 => by
  by_cases hm : i = m + 1
  ·subst hm; exact .inl rfl
  ·rcases ref_step R (m:=m) (by omega) with he | ⟨o,ho,hb,hs⟩
   ·rw [he]
    rcases ref_last R i m (by omega) (by omega) with h | ⟨s,o,g1,g2,g3,g4,g5,g6⟩
    ·exact .inl h
    ·exact .inr ⟨s,o,g1,g2,g3,g4,by omega,g6⟩
   ·exact .inr ⟨m,o,ho,hb,hs,by omega,by omega,rfl⟩
theorem Mid.eval (R : RefRun P ops ms base A0 A E W) {listed : Array Bool} (hsz : listed.size = ops.size) (hd : Down ops listed) {a : Act} {w : World} (M : Mid ops base A0 A W listed a w) {i : Nat} {o : Oper} (ho : ops[i]? = some o) (hil : listed.getD i false = false)
  (hmask : ∀ k,(ms.getD i 0).testBit k = true → listed.getD k false = true) : execOp a.eval o = execOp (E i).eval o:=by
 obtain ⟨tm,rfl,h1,h2⟩:=M.act
 have hlt : i < ops.size:=(Array.getElem?_eq_some_iff.1 ho).1
 have hb : base.getD i false = false:=by
  cases hh : base.getD i false with
  | false => rfl
  | true => rw [M.mon i hh] at hil; cases hil
 have ho' : ops.toList[i]? = some o:=by rw [Array.getElem?_toList]; exact ho
 obtain ⟨hk,r4,r5⟩:=rowL_spec (R.row i hlt hb) ho'
 obtain ⟨ev1,ev2⟩:=forall_and.1 (fun t => R.env i o ho hb t)
 have key : ∀ x ∈ o.op.operands,({ A0 with tmps:=tm } : Act).eval x = (E i).eval x:=by
  intro x hx
  cases x with
  | tmp t =>
   have hr:=r4 t (by simpa using hx)
   have : tm[t]? = (E i).tmps[t]?:=by
    by_cases hw : ∃ (k : Nat) (ok : Oper),ops[k]? = some ok ∧ base.getD k false = false ∧ ok.dst = some t ∧ k < i
    ·obtain ⟨k,ok,hk,hkb,hd,hki⟩:=hw
     rw [ev1 t k ok hk hkb hd hki]
     exact (h2 t).1 k ok hk hkb hd (hmask k ((hr k ok (by rw [Array.getElem?_toList]; exact hk) hd).1 hki))
    ·rw [ev2 t fun k ok hk hkb hd hki => hw ⟨k,ok,hk,hkb,hd,hki⟩]
     refine (h2 t).2 fun k ok hk hkb hd' => ?_
     have hki : ¬ k < i:=fun hki => hw ⟨k,ok,hk,hkb,hd',hki⟩
     obtain ⟨_,hbit⟩:=(hr k ok (by rw [Array.getElem?_toList]; exact hk) hd').2 hki
     cases hh : listed.getD k false with
     | false => rfl
     | true =>
      have hkl:=(Array.getElem?_eq_some_iff.1 hk).1
      have:=down_maskL R.rowm hsz hd k k (Nat.le_refl _) hkl (by rw [getD_tf (by omega)]; exact hh) i hbit
      rw [hil] at this; cases this
   simp [Act.eval,this]
  | const _ => rfl
  | global _ => rfl
  | func _ => rfl
 refine execOp_congr o ?_ key
 intro cs b he
 rcases hk with hk | hk
 ·unfold isV at hk
  rw [he] at hk
  simp at hk
 ·rcases isSt_op hk with ⟨t,x,v,e,_⟩ | ⟨e,_⟩
  ·rw [he] at e; cases e
  ·rw [he] at e; cases e
theorem late_any (R : RefRun P ops ms base A0 A E W) {Q : Exit → Act → World → Prop} (hQ : ∀ tm,A = { A0 with tmps:=tm } → Q .normal A (W ops.size)) (hAt : ∃ tm,A = { A0 with tmps:=tm } ∧ tm.size = A0.tmps.size ∧ ∀ t,(∀ (k : Nat) ok,ops[k]? = some ok → base.getD k false = false → ok.dst ≠ some t) → tm[t]? = A0.tmps[t]?) (hdl : ∀ (i : Nat) o d,ops[i]? = some o → o.dst = some d → d < A0.tmps.size) :
  ∀ (fuel : Nat) (listed : Array Bool) (a : Act) (w : World),listed.size = ops.size → Down ops listed → (unl ops.size listed).length = fuel → Mid ops base A0 A W listed a w → wpAny P .any ops Q fuel listed a w:=by
 have hready : ∀ (listed : Array Bool),listed.size = ops.size → ∀ (i : Nat) (l : List Nat),unl ops.size listed = i :: l → i ∈ Region.ready .any ops listed:=by
  intro listed hsz i l hu
  have hi : i ∈ unl ops.size listed:=by rw [hu]; exact List.mem_cons_self ..
  obtain ⟨h1,h2⟩:=List.mem_filter.1 hi
  have hlt : i < ops.size:=by simpa using h1
  refine mem_ready.2 ⟨by simpa using h2,ops[i],Array.getElem?_eq_getElem hlt,fun e he hb => ?_⟩
  have hp : e.on ∈ predsOf ops[i]:=List.mem_map.2 ⟨e,List.mem_filter.2 ⟨by simpa using he,hb⟩,rfl⟩
  have hlt' : e.on < i:=(rowM_spec (R.rowm i hlt) (by rw [Array.getElem?_toList,Array.getElem?_eq_getElem hlt])).1 _ hp
  cases hh : listed.getD e.on false with
  | true => rfl
  | false =>
   have hm : e.on ∈ unl ops.size listed:=List.mem_filter.2 ⟨by simp; omega,by rw [getD_tf (by omega),hh]; rfl⟩
   have hsorted : (unl ops.size listed).Pairwise (· < ·):=(List.pairwise_lt_range).filter _
   rw [hu] at hm hsorted
   rcases List.mem_cons.1 hm with h | h
   ·omega
   ·have:=(List.pairwise_cons.1 hsorted).1 _ h
    omega
 obtain ⟨tmA,hA,hAs,hAo⟩:=hAt
 intro fuel
 induction fuel with
 | zero =>
  intro listed a w hsz hd hu M
  have hu0 : unl ops.size listed = []:=List.eq_nil_of_length_eq_zero hu
  have hall : ∀ j,j < ops.size → listed.getD j false = true:=by
   intro j hj
   cases hh : listed.getD j false with
   | true => rfl
   | false =>
    have : j ∈ unl ops.size listed:=List.mem_filter.2 ⟨by simpa using hj,by rw [getD_tf (by omega),hh]; rfl⟩
    rw [hu0] at this; cases this
  refine ⟨?_,?_⟩
  ·apply List.eq_nil_iff_forall_not_mem.2
   intro j hj
   obtain ⟨h1,o,ho,_⟩:=mem_ready.1 hj
   have hjl:=(Array.getElem?_eq_some_iff.1 ho).1
   have:=hall j hjl
   rw [← getD_tf (by omega),h1] at this; cases this
  ·obtain ⟨⟨tm,rfl,h1,h2⟩,⟨m,hm,rfl,hs⟩,hmon⟩:=M
   have e1 : tm = tmA:=by
    apply Array.ext_getElem?
    intro t
    by_cases hw : ∃ (k : Nat) (ok : Oper),ops[k]? = some ok ∧ base.getD k false = false ∧ ok.dst = some t
    ·obtain ⟨k,ok,hk,hkb,hd'⟩:=hw
     rw [(h2 t).1 k ok hk hkb hd' (hall k (Array.getElem?_eq_some_iff.1 hk).1),hA]
    ·rw [(h2 t).2 fun k ok hk hkb hd' => absurd ⟨k,ok,hk,hkb,hd'⟩ hw,hAo t fun k ok hk hkb hd' => hw ⟨k,ok,hk,hkb,hd'⟩]
   have e2 : W ops.size = W m:=ref_const R m ops.size hm (Nat.le_refl _) fun s o hso hb hst h4 h5 => by
    have:=(hs s o hso hb hst).1 (hall s (Array.getElem?_eq_some_iff.1 hso).1)
    omega
   have:=hQ tmA hA
   rw [e1,← hA,← e2]
   exact this
 | succ fuel ih =>
  intro listed a w hsz hd hu M
  refine ⟨fun hnil => ?_,fun i hi => ?_⟩
  ·cases hul : unl ops.size listed with
   | nil => rw [hul] at hu; cases hu
   | cons j l =>
    have:=hready listed hsz j l hul
    rw [hnil] at this; cases this
  ·obtain ⟨h1,o,ho,haft⟩:=mem_ready.1 hi
   have hlt : i < ops.size:=(Array.getElem?_eq_some_iff.1 ho).1
   obtain ⟨pre,post,u1,u2,u3⟩:=unl_split hlt h1 hsz
   have hoi : ops.toList[i]? = some o:=by rw [Array.getElem?_toList]; exact ho
   have hil : listed.getD i false = false:=by rw [← getD_tf (by omega)]; exact h1
   have hbi : base.getD i false = false:=by
    cases hh : base.getD i false with
    | false => rfl
    | true => rw [M.mon i hh] at hil; cases hil
   obtain ⟨r1,r2⟩:=rowM_spec (R.rowm i hlt) hoi
   obtain ⟨rk,r4,r5⟩:=rowL_spec (R.row i hlt hbi) hoi
   have hd' : Down ops (listed.setIfInBounds i true):=by
    intro j oj hj hl p hp
    have hpl : listed.getD p false = true:=by
     by_cases hji : j = i
     ·subst hji
      rw [ho] at hj; cases hj
      obtain ⟨e,he,rfl⟩:=List.mem_map.1 hp
      obtain ⟨he1,he2⟩:=List.mem_filter.1 he
      exact haft e (by simpa using he1) he2
     ·rw [getD_set_ne true (Ne.symm hji)] at hl
      exact hd j oj hj hl p hp
    exact getD_set_true hpl
   have hsz' : (listed.setIfInBounds i true).size = ops.size:=by simpa using hsz
   have hu' : (unl ops.size (listed.setIfInBounds i true)).length = fuel:=by
    rw [u3,List.length_append]
    rw [u1,List.length_append,List.length_cons] at hu
    omega
   have hmask : ∀ k,(ms.getD i 0).testBit k = true → listed.getD k false = true:=by
    intro k hk
    rw [r2] at hk
    obtain ⟨p,hp,hh⟩:=maskOf_spec hk
    have hpi : p < i:=r1 p hp
    have hpl : listed.getD p false = true:=by
     obtain ⟨e,he,rfl⟩:=List.mem_map.1 hp
     obtain ⟨he1,he2⟩:=List.mem_filter.1 he
     exact haft e (by simpa using he1) he2
    rcases hh with rfl | hh
    ·exact hpl
    ·exact down_maskL R.rowm hsz hd p p (Nat.le_refl _) (by omega) (by rw [getD_tf (by omega)]; exact hpl) k hh
   have hev:=M.eval R hsz hd ho hil hmask
   have hset : ∀ j,(listed.setIfInBounds i true).getD j false = true ↔ (j = i ∨ listed.getD j false = true):=by
    intro j
    by_cases hji : j = i
    ·subst hji; simp [show j < listed.size by omega]
    ·rw [getD_set_ne false (Ne.symm hji)]; simp [hji]
   have hmon' : ∀ k,base.getD k false = true → (listed.setIfInBounds i true).getD k false = true:=fun k hk => (hset k).2 (.inr (M.mon k hk))
   obtain ⟨⟨tm,rfl,t1,t2⟩,⟨m,hm,rfl,hs⟩,hmon⟩:=M
   have hsti : ∀ (s : Nat) os,s < i → ops[s]? = some os → base.getD s false = false → isSt os = true → s < m:=fun s os hsi hso hb hst =>
    (hs s os hso hb hst).1 (hmask s (((r5 s os (by rw [Array.getElem?_toList]; exact hso)).2 hsi hst).resolve_right (by rw [hb]; simp)))
   unfold wpOp
   simp only [ho]
   rcases rk with hp | hst
   ·obtain ⟨v,d,g1,g2,g3,g4,g5⟩:=R.pu i o ho hbi hp
    have hrun : (execOp (E i).eval o).run P (W m) = .ok (.value v) (W m):=by
     rcases Nat.lt_or_ge i m with him | him
     ·rcases ref_last R i m (by omega) hm with h | ⟨s,os,q1,qb,q2,q3,q4,q5⟩
      ·rw [h]; exact g3
      ·have hne : s ≠ i:=by rintro rfl; rw [ho] at q1; cases q1; rw [not_both hp] at q2; cases q2
       rw [← q5]
       refine g5 s os q1 qb q2 (by omega) ?_
       cases hb : (ms.getD s 0).testBit i with
       | false => rfl
       | true =>
        have hsl:=(Array.getElem?_eq_some_iff.1 q1).1
        have:=down_maskL R.rowm hsz hd s s (Nat.le_refl _) hsl (by rw [getD_tf (by omega)]; exact (hs s os q1 qb q2).2 q4) i hb
        rw [hil] at this; cases this
     ·have : W i = W m:=ref_const R m i him (by omega) fun s os hso hb hst' h4 h5 => by have:=hsti s os h5 hso hb hst'; omega
      rw [← this]; exact g3
    have hg : o.guard = none:=by
     unfold isV at hp
     split at hp <;> simp_all
    rw [if_pos (by simp [Region.wanted,hg])]
    refine .inl ?_
    unfold Oper.wp
    rw [hev,hrun]
    simp only [Oper.upon]
    refine ih _ _ _ hsz' hd' hu' ⟨?_,?_,hmon'⟩
    ·refine ⟨tm.setIfInBounds d v,by rw [g1]; rfl,by simpa using t1,fun t => ⟨?_,?_⟩⟩
     ·intro k ok hk hkb hdk hl
      by_cases hdd : d = t
      ·subst hdd
       rw [g2,Array.getElem?_setIfInBounds_self_of_lt (by rw [t1]; exact hdl i o d ho g1)]
      ·rw [Array.getElem?_setIfInBounds_ne hdd]
       rcases (hset k).1 hl with rfl | hl
       ·rw [ho] at hk; cases hk
        rw [g1] at hdk; cases hdk; exact absurd rfl hdd
       ·exact (t2 t).1 k ok hk hkb hdk hl
     ·intro hno
      have hdd : d ≠ t:=by
       rintro rfl
       have:=hno i o ho hbi g1
       rw [(hset i).2 (.inl rfl)] at this; cases this
      rw [Array.getElem?_setIfInBounds_ne hdd]
      refine (t2 t).2 fun k ok hk hkb hdk => ?_
      have:=hno k ok hk hkb hdk
      cases hh : listed.getD k false with
      | false => rfl
      | true => rw [(hset k).2 (.inr hh)] at this; cases this
    ·refine ⟨m,hm,rfl,fun s os hso hb hst' => ?_⟩
     rw [hset s]
     have : s ≠ i:=by rintro rfl; rw [ho] at hso; cases hso; rw [not_both hp] at hst'; cases hst'
     simp only [this,false_or]
     exact hs s os hso hb hst'
   ·have hmi : m ≤ i:=by
     rcases Nat.lt_or_ge i m with h | h
     ·have:=(hs i o ho hbi hst).2 h
      rw [hil] at this; cases this
     ·exact h
    have hwi : W i = W m:=ref_const R m i hmi (by omega) fun s os hso hb hst' h4 h5 => by have:=hsti s os h5 hso hb hst'; omega
    obtain ⟨nx,v,hrun,hnx,hAv⟩:=R.st i o ho hbi hst
    rw [hwi] at hrun
    rw [if_pos (by simp [Region.wanted,isSt_guard hst])]
    refine .inl ?_
    unfold Oper.wp
    rw [hev,hrun]
    have hnext : wpAny P .any ops Q fuel (listed.setIfInBounds i true) (({ A0 with tmps:=tm } : Act).put o.dst v) (W (i + 1)):=?_
    ·rcases hnx with rfl | ⟨rfl,rfl⟩ <;> simp only [Oper.upon] <;> exact hnext
    have hputs : ∃ tm2,(({ A0 with tmps:=tm } : Act).put o.dst v) = { A0 with tmps:=tm2 } ∧ tm2.size = tm.size ∧ (∀ d,o.dst = some d → tm2[d]? = some v) ∧ ∀ t,o.dst ≠ some t → tm2[t]? = tm[t]?:=by
     cases hd : o.dst with
     | none => exact ⟨tm,rfl,rfl,by simp,fun _ _ => rfl⟩
     | some d =>
      refine ⟨tm.setIfInBounds d v,rfl,by simp,?_,?_⟩
      ·rintro d' ⟨⟩
       rw [Array.getElem?_setIfInBounds_self_of_lt (by rw [t1]; exact hdl i o d ho hd)]
      ·intro t ht
       have : d ≠ t:=fun e => ht (by rw [e])
       rw [Array.getElem?_setIfInBounds_ne this]
    obtain ⟨tm2,u1,u2,u3,u4⟩:=hputs
    rw [u1]
    refine ih _ _ _ hsz' hd' hu' ⟨⟨tm2,rfl,u2.trans t1,fun t => ⟨?_,?_⟩⟩,?_,hmon'⟩
    ·intro k ok hk hkb hdk hl
     by_cases hdd : o.dst = some t
     ·rw [u3 t hdd,hAv t hdd]
     ·rw [u4 t hdd]
      rcases (hset k).1 hl with rfl | hl
      ·rw [ho] at hk; cases hk
       exact absurd hdk hdd
      ·exact (t2 t).1 k ok hk hkb hdk hl
    ·intro hno
     have hdd : o.dst ≠ some t:=by
      intro e
      have:=hno i o ho hbi e
      rw [(hset i).2 (.inl rfl)] at this; cases this
     rw [u4 t hdd]
     refine (t2 t).2 fun k ok hk hkb hdk => ?_
     have:=hno k ok hk hkb hdk
     cases hh : listed.getD k false with
     | false => rfl
     | true => rw [(hset k).2 (.inr hh)] at this; cases this
    ·refine ⟨i + 1,by omega,rfl,fun s os hso hb hst' => ?_⟩
     rw [hset s]
     constructor
     ·rintro (rfl | h)
      ·omega
      ·have:=(hs s os hso hb hst').1 h
       omega
     ·intro h
      by_cases hsi : s = i
      ·exact .inl hsi
      ·exact .inr ((hs s os hso hb hst').2 (hsti s os (by omega) hso hb hst'))
end
end Go.Proofs.YtpffgegfjpdncaaGreatDoor.Am
namespace Go.Proofs.YtpffgegfjpdncaaGreatDoor.Am
open Go.RowKit AV
set_option linter.unusedVariables false
def valW (P : Program) (σ : St) (o : Oper) (K : AV → Prop) : Prop:=match o.op with
 | .move x => moveW σ x K
 | .nilCheck x => nilW σ x K
 | .load t x => loadW P σ t x K
 | .fieldAddr t x f => fieldAddrW P σ t x f K
 | .indexAddr t x i => indexAddrW P σ t x i K
 | .binOp op t x y _ => needW (binA P op t (ev σ x) (ev σ y)) K
 | .unOp op _ x => needW (unA op (ev σ x)) K
 | .pick c x y => pickW σ c x y K
 | .index t x i => indexW P σ t x i K
 | _ => False
def vStep (P : Program) (σ : St) (o : Oper) (K : St → Prop) : Prop:=match o.op,o.dst with
 | .assign x,some d => assignW σ x d K
 | .move x,dst => mvX (ev σ x) σ x dst K
 | .extract x i,some d => extractW σ x i d K
 | _,_ => valW P σ o (pureK σ o.dst K)
mutual
def rig : AV → Bool
 | .int _ _ | .bool _ | .str _ | .vref _ _ | .vagg _ _ | .ptr _ _ | .oth _ => true
 | .arr _ xs => rigL xs
 | .agg xs => rigL xs
 | _ => false
def rigL : List AV → Bool
 | [] => true
 | x :: r => rigC x && rigL r
def rigC : AV → Bool
 | .int _ _ | .bool _ | .str _ | .oth _ => true
 | .arr _ xs => rigL xs
 | .agg xs => rigL xs
 | _ => false
end
def sameAs (σ : St) (d : Nat) (y : AV) : Prop:=rig y = true ∧ look σ d = y
def lateK (P : Program) (σ : St) : Option Oper → Prop
 | some o => (match o.dst with | some d => valW P σ o (sameAs σ d) | none => False)
 | none => False
def latesOk (P : Program) (all : List Oper) (σ : St) : List Nat → Prop
 | [] => True
 | k :: r => lateK P σ all[k]? ∧ latesOk P all σ r
def noC : Call → Option Tmp → St → (St → Prop) → Prop:=fun _ _ _ _ => False
def barW (P : Program) (σ : St) (o : Oper) (K : St → Prop) : Prop:=opW P noC σ o K
def lW (P : Program) (all : List Oper) : List Oper → List (List Nat) → (St → Prop) → St → Prop
 | [],_,K,σ => K σ
 | o :: r,ls,K,σ => match isSt o with
  | true => (match ls with
   | l :: ls' => barW P σ o (fun σ1 => latesOk P all σ1 l ∧ lW P all r ls' K σ1)
   | [] => False)
  | false => vStep P σ o (fun σ1 => lW P all r ls K σ1)
def noWr (all : List Oper) (k i : Nat) : Bool:=match all[k]? with
 | some ok => (List.range i).all fun m => decide (m ≤ k) || (match all[m]? with | some om => (match om.dst with | some d => !(tmpsOf ok.op.operands.toList).contains d | none => true) | none => true)
 | none => true
def coverL (ms : List Nat) (all : List Oper) : Nat → List Oper → List (List Nat) → Bool
 | _,[],_ => true
 | i,o :: r,ls => if isSt o then (match ls with
   | l :: ls' => (List.range i).all (fun k => (ms.getD i 0).testBit k || l.contains k) && coverL ms all (i + 1) r ls'
   | [] => false) else coverL ms all (i + 1) r ls
def preOk (P : Program) (all : List Oper) (ms : List Nat) (s0 i : Nat) : Bool:=match all[i]? with
 | none => true
 | some o => isP P all o && (List.range i).all (pairOk P all (ms.getD i 0) o) && ((isV o && rowL all ms i) || (List.range all.length).all fun k => decide (k < s0) || (ms.getD k 0).testBit i)
def lateOk (P : Program) (ops : List Oper) (s0 : Nat) (ls : List (List Nat)) : Bool :=
 P.follows .mixedOrders && decide (s0 ≤ ops.length) && (List.range ops.length).all (rowM ops (maskGo [] ops)) && (List.range s0).all (preOk P ops (maskGo [] ops) s0) &&
  (List.range ops.length).all (fun i => decide (i < s0) || rowL ops (maskGo [] ops) i) && coverL (maskGo [] ops) ops s0 (ops.drop s0) ls &&
  (List.range ops.length).all (fun s => match ops[s]? with | some os => !isSt os || (List.range s).all (fun k => ((maskGo [] ops).getD s 0).testBit k || noWr ops k s) | none => true)
def LateW (P : Program) (callW : Call → Option Tmp → St → (St → Prop) → Prop) (ops : List Oper) (σ : St) (K : St → Prop) : Prop :=
 ∃ s0 ls,lateOk P ops s0 ls = true ∧ dW P callW ops ((ops.take s0).filterMap (·.dst)) (ops.take s0) σ (lW P ops (ops.drop s0) ls K)
section
variable {P : Program} {h0 : Array Obj} {ok O0 : Nat → Prop} {σ : St} {a : Act} {w : World} {Os : Nat → Nat → Prop}
theorem sim_val (R : Rel h0 ok O0 σ a.tmps w.heap Os) {o : Oper} (hx : opsOk a.tmps.size o.op.operands.toList = true) {K : AV → Prop} (h : valW P σ o K) : PureOk P σ ok Os a.tmps w (execOp a.eval o) K:=by
 have hx:=opsOk_mem hx
 obtain ⟨dst,op,ty,pos,after,guard⟩:=o
 unfold valW at h
 simp only at h hx
 split at h
 ·exact sim_move R (hx _ (by simp [Op.operands])) h
 ·exact sim_nil R (hx _ (by simp [Op.operands])) h rfl
 ·exact sim_load R (hx _ (by simp [Op.operands])) h
 ·exact sim_fieldAddr R (hx _ (by simp [Op.operands])) h
 ·exact sim_indexAddr R (hx _ (by simp [Op.operands])) (hx _ (by simp [Op.operands])) h
 ·exact sim_bin R (hx _ (by simp [Op.operands])) (hx _ (by simp [Op.operands])) h
 ·exact sim_un R (hx _ (by simp [Op.operands])) h
 ·exact sim_pick R (hx _ (by simp [Op.operands])) (hx _ (by simp [Op.operands])) (hx _ (by simp [Op.operands])) h
 ·exact sim_index R (hx _ (by simp [Op.operands])) (hx _ (by simp [Op.operands])) h
 ·exact h.elim
end
mutual
theorem rigC_det {h : Array Obj} : ∀ (x : AV) {S S' O O' : Nat → Prop} {cs cs' : List Value},rigC x = true → RepC h S x cs O → RepC h S' x cs' O' → cs = cs'
 | .int _ _,S,S',O,O',cs,cs',_,r,r' => by simp only [RepC] at r r'; rw [r.1,r'.1]
 | .bool _,S,S',O,O',cs,cs',_,r,r' => by simp only [RepC] at r r'; rw [r.1,r'.1]
 | .str _,S,S',O,O',cs,cs',_,r,r' => by simp only [RepC] at r r'; rw [r.1,r'.1]
 | .oth _,S,S',O,O',cs,cs',_,r,r' => by simp only [RepC] at r r'; rw [r.1.1,r'.1.1]
 | .agg fs,S,S',O,O',cs,cs',hr,r,r' => by simp only [RepC] at r r'; simp only [rigC] at hr; exact rigL_det fs hr r r'
 | .arr sz fs,S,S',O,O',cs,cs',hr,r,r' => by simp only [RepC] at r r'; simp only [rigC] at hr; exact rigL_det fs hr r.1 r'.1
 | .undef,_,_,_,_,_,_,hr,_,_ => by simp [rigC] at hr
 | .sl ..,_,_,_,_,_,_,hr,_,_ => by simp [rigC] at hr
 | .tup _,_,_,_,_,_,_,hr,_,_ => by simp [rigC] at hr
 | .box _,_,_,_,_,_,_,hr,_,_ => by simp [rigC] at hr
 | .dptr _,_,_,_,_,_,_,hr,_,_ => by simp [rigC] at hr
 | .vref ..,_,_,_,_,_,_,hr,_,_ => by simp [rigC] at hr
 | .vagg ..,_,_,_,_,_,_,hr,_,_ => by simp [rigC] at hr
 | .vsub ..,_,_,_,_,_,_,hr,_,_ => by simp [rigC] at hr
 | .ptr ..,_,_,_,_,_,_,hr,_,_ => by simp [rigC] at hr
theorem rigL_det {h : Array Obj} : ∀ (xs : List AV) {S S' O O' : Nat → Prop} {cs cs' : List Value},rigL xs = true → RepL h S xs cs O → RepL h S' xs cs' O' → cs = cs'
 | [],S,S',O,O',cs,cs',_,r,r' => by simp only [RepL] at r r'; rw [r.1,r'.1]
 | x :: xs,S,S',O,O',cs,cs',hr,r,r' => by
  simp only [RepL] at r r'
  simp only [rigL,Bool.and_eq_true] at hr
  obtain ⟨c1,c2,O1,O2,rfl,_,_,h1,h2⟩:=r
  obtain ⟨d1,d2,P1,P2,rfl,_,_,g1,g2⟩:=r'
  rw [rigC_det x hr.1 h1 g1,rigL_det xs hr.2 h2 g2]
end
theorem at_det {h : Array Obj} {B o : Nat} {a b : List Value} (ha : At h B o a) (hb : At h B o b) (hl : a.length = b.length) : a = b:=by
 refine List.ext_getElem hl fun j h1 h2 => ?_
 have e1:=ha j _ (List.getElem?_eq_getElem h1)
 have e2:=hb j _ (List.getElem?_eq_getElem h2)
 rw [e1] at e2
 exact Option.some.inj e2
theorem rig_det {h : Array Obj} {σ : St} {S S' O O' : Nat → Prop} {tm : Array Value} {y : AV} {v v' : Value} (hr : rig y = true) (r : RepW h S y v O) (al : AliasOk h σ tm y v) (r' : RepW h S' y v' O') (al' : AliasOk h σ tm y v') : v = v':=by
 cases y <;> simp only [rig,Bool.false_eq_true] at hr
 case oth => simp only [RepW,RepC] at r r'; have h1:=r.1.1; have h2:=r'.1.1; simp_all
 case int => simp only [RepW,RepC] at r r'; have h1:=r.1; have h2:=r'.1; simp_all
 case bool => simp only [RepW,RepC] at r r'; have h1:=r.1; have h2:=r'.1; simp_all
 case str => simp only [RepW,RepC] at r r'; have h1:=r.1; have h2:=r'.1; simp_all
 case agg fs =>
  simp only [RepW] at r r'
  obtain ⟨cs,rfl,h1⟩:=r
  obtain ⟨cs',rfl,h2⟩:=r'
  simp only [RepC] at h1 h2
  rw [Array.toList_inj.1 (rigL_det fs hr h1 h2)]
 case arr sz fs =>
  simp only [RepW] at r r'
  obtain ⟨cs,rfl,h1⟩:=r
  obtain ⟨cs',rfl,h2⟩:=r'
  simp only [RepC] at h1 h2
  rw [Array.toList_inj.1 (rigL_det fs hr h1.1 h2.1)]
 case vref s p =>
  obtain ⟨u,y,h1,h2,h3,h4⟩:=al
  obtain ⟨u',y',g1,g2,g3,g4⟩:=al'
  rw [h1] at g1; cases g1
  rcases h4 with ⟨rfl,rfl⟩ | ⟨B,o,e1,e2⟩
  ·rcases g4 with ⟨_,rfl⟩ | ⟨B',o',f1,f2⟩
   ·rfl
   ·exact absurd rfl (adr_in (S:=fun _ => True) (O:=fun _ => True) (x:=look σ s) (y:=look σ s) f1)
  ·rcases g4 with ⟨rfl,rfl⟩ | ⟨B',o',f1,f2⟩
   ·exact absurd rfl (adr_in (S:=fun _ => True) (O:=fun _ => True) (x:=look σ s) (y:=look σ s) e1)
   ·rw [e1] at f1; cases f1
    rw [e2] at f2; cases f2; rfl
 case vagg s p =>
  obtain ⟨u,y,B,o,cs,h1,h2,h3,h4,h5,h6,h7⟩:=al
  obtain ⟨u',y',B',o',cs',g1,g2,g3,g4,g5,g6,g7⟩:=al'
  rw [h1] at g1; cases g1
  rw [h2] at g2; cases g2
  rw [h4] at g4; cases g4
  rw [h5,g5,Array.toList_inj.1 (at_det h6 g6 (by simpa using h7.trans g7.symm))]
 case ptr s p =>
  obtain ⟨u,y,B,o,h1,h2,h3,h4⟩:=al
  obtain ⟨u',y',B',o',g1,g2,g3,g4⟩:=al'
  rw [h1] at g1; cases g1
  rw [h3] at g3; cases g3
  rw [h4,g4]
section
variable {P : Program} {C : Ctx P} {ops : Array Oper} {ms : List Nat} {base : Array Bool} {callW : Call → Option Tmp → St → (St → Prop) → Prop}
theorem vStep_of_opW {o : Oper} (hv : isV o = true) {σ : St} {K : St → Prop} (h : opW P callW σ o K) : vStep P σ o K:=by
 obtain ⟨dst,op,ty,pos,after,guard⟩:=o
 cases op <;> cases dst <;> simp only [isV,Bool.false_eq_true] at hv <;> exact h
theorem run_extract {P : Program} {v : Value} {i : Nat} {w w' : World} {nx : Next} (h : (do pure (.value (← Instr.extract v i)) : Sem Next).run P w = .ok nx w') : w' = w:=by
 unfold Instr.extract at h
 split at h
 ·split at h
  ·simp at h; exact h.2.symm
  ·simp at h
 ·simp at h
theorem sim_vStep {o : Oper} (hv : isV o = true) {σ : St} {a : Act} {w : World} {K : St → Prop} (ho : operOk C.n C.ks o = true) (S : Sim C σ a w) (h : vStep P σ o K) :
  ∃ v d,o.dst = some d ∧ d < a.tmps.size ∧ (execOp a.eval o).run P w = .ok (.value v) w ∧ ∃ σ',K σ' ∧ Sim C σ' (a.put (some d) v) w:=by
 obtain ⟨⟨Os,R⟩,hkk,hsz,hdf,hos,htp,hout⟩:=S
 simp only [operOk,Bool.and_eq_true] at ho
 obtain ⟨d,hd⟩ : ∃ d,o.dst = some d:=by
  unfold isV at hv
  split at hv <;> simp_all
 have hdl : d < a.tmps.size ∧ d ∉ C.ks:=by
  have:=ho.2
  rw [hd] at this
  simp only [Bool.and_eq_true,decide_eq_true_eq] at this
  exact ⟨by rw [hsz]; exact this.1,by simpa using this.2⟩
 have fin : ∀ v σ' Os',Rel C.h0 C.ok C.O0 σ' (a.put (some d) v).tmps w.heap Os' → Sim C σ' (a.put (some d) v) w:=by
  intro v σ' Os' R'
  refine ⟨⟨Os',R'⟩,?_,by simp [Act.put,hsz],hdf,hos,htp,hout⟩
  intro t ht
  have : d ≠ t:=by rintro rfl; exact hdl.2 ht
  show (a.tmps.setIfInBounds d v)[t]? = _
  rw [Array.getElem?_setIfInBounds_ne this]
  exact hkk t ht
 have asg : ∀ x,(o.op = .assign x ∨ o.op = .move x) → assignW σ x d K → ∃ v d,o.dst = some d ∧ d < a.tmps.size ∧ (execOp a.eval o).run P w = .ok (.value v) w ∧ ∃ σ',K σ' ∧ Sim C σ' (a.put (some d) v) w:=by
  intro x hx h
  have hxx:=opsOk_mem ho.1
  have hxo : opndOk a.tmps.size x = true:=by
   rw [hsz]; rcases hx with hx | hx <;> rw [hx] at hxx <;> exact hxx _ (by simp [Op.operands])
  obtain ⟨nx,v,w',σ',Os',e1,e2,e3,e4,e5,e6,e7⟩:=sim_assign (P:=P) R hxo hdl.1 h
  have hrun : (execOp a.eval o).run P w = .ok (.value (a.eval x)) w:=by
   obtain ⟨dst,op,ty,pos,after,guard⟩:=o
   rcases hx with hx | hx <;> simp only at hx <;> subst hx <;> rfl
  have e1' : (Result.ok (Next.value (a.eval x)) w : Result Next) = .ok nx w':=e1
  simp only [Result.ok.injEq] at e1'
  obtain ⟨rfl,rfl⟩:=e1'
  rcases e2 with e2 | ⟨e2,_⟩
  ·simp only [Next.value.injEq] at e2
   subst e2
   exact ⟨a.eval x,d,hd,hdl.1,hrun,σ',e3,fin (a.eval x) σ' Os' e4⟩
  ·cases e2
 have fin2 : valW P σ o (pureK σ o.dst K) → ∃ v d,o.dst = some d ∧ d < a.tmps.size ∧ (execOp a.eval o).run P w = .ok (.value v) w ∧ ∃ σ',K σ' ∧ Sim C σ' (a.put (some d) v) w:=by
  intro h'
  obtain ⟨y,v,p1,p2,p3,p4⟩:=sim_val R (by rw [hsz]; exact ho.1) h'
  rw [hd] at p1
  obtain ⟨Os',R'⟩:=R.put1 hdl.1 p3 p4 p1.1
  exact ⟨v,d,hd,hdl.1,p2,_,p1.2,fin v _ Os' R'⟩
 have key : (∃ x,o.op = .move x ∧ mvX (ev σ x) σ x (some d) K) ∨ (∃ x,o.op = .assign x ∧ assignW σ x d K) ∨ (∃ x i,o.op = .extract x i ∧ extractW σ x i d K) ∨ valW P σ o (pureK σ o.dst K):=by
  unfold vStep at h
  rw [hd] at h ⊢
  cases hop : o.op <;> rw [hop] at h <;> first | exact .inl ⟨_,rfl,h⟩ | exact .inr (.inl ⟨_,rfl,h⟩) | exact .inr (.inr (.inl ⟨_,_,rfl,h⟩)) | exact .inr (.inr (.inr h))
 rcases key with ⟨x,hx,h⟩ | ⟨x,hx,h⟩ | ⟨x,i,hx,h⟩ | h
 ·rcases mvX_or h with hm | ⟨d',hd',hm⟩
  ·exact fin2 (by unfold valW; rw [hx,hd]; exact hm)
  ·cases hd'
   exact asg x (.inr hx) hm
 ·exact asg x (.inl hx) h
 ·have hxx:=opsOk_mem ho.1
  have hxo : opndOk a.tmps.size x = true:=by rw [hsz]; rw [hx] at hxx; exact hxx _ (by simp [Op.operands])
  obtain ⟨nx,v,w',σ',Os',e1,e2,e3,e4,e5,e6,e7⟩:=sim_extract (P:=P) R hxo hdl.1 h
  have hw:=run_extract e1
  subst hw
  have hrun : (execOp a.eval o).run P w' = .ok nx w':=by
   obtain ⟨dst,op,ty,pos,after,guard⟩:=o
   simp only at hx
   subst hx
   exact e1
  rcases e2 with e2 | ⟨e2,_⟩
  ·subst e2
   exact ⟨v,d,hd,hdl.1,hrun,σ',e3,fin v σ' Os' e4⟩
  ·subst e2
   exfalso
   have : (do pure (.value (← Instr.extract (a.eval x) i)) : Sem Next).run P w' = .ok .skip w':=e1
   unfold Instr.extract at this
   split at this
   ·split at this <;> simp at this
   ·simp at this
 ·exact fin2 h
theorem sim_bar {o : Oper} (hst : isSt o = true) {σ : St} {a : Act} {w : World} {K : St → Prop} (ho : operOk C.n C.ks o = true) (S : Sim C σ a w) (h : barW P σ o K) :
  ∃ nx v w',(execOp a.eval o).run P w = .ok nx w' ∧ (nx = .value v ∨ (nx = .skip ∧ v = undef)) ∧ ∃ σ',K σ' ∧ Sim C σ' (a.put o.dst v) w':=by
 obtain ⟨⟨Os,R⟩,hkk,hsz,hdf,hos,htp,hout⟩:=S
 simp only [operOk,Bool.and_eq_true] at ho
 have hx:=opsOk_mem ho.1
 rw [← hsz] at hx
 have hdl : ∀ d,o.dst = some d → d < a.tmps.size ∧ d ∉ C.ks:=by
  intro d hd
  have:=ho.2
  rw [hd] at this
  simp only [Bool.and_eq_true,decide_eq_true_eq] at this
  exact ⟨by rw [hsz]; exact this.1,by simpa using this.2⟩
 have key : EffOk P C.h0 C.ok C.O0 a w (execOp a.eval o) o.dst K:=by
  rcases isSt_op hst with ⟨t,x,v,e,hd⟩ | ⟨e,d,hd⟩
  ·obtain ⟨dst,op,ty,pos,after,guard⟩:=o
   simp only at e hd
   subst e hd
   simp only [Op.operands] at hx
   exact sim_store R (hx _ (by simp)) (hx _ (by simp)) h
  ·obtain ⟨dst,op,ty,pos,after,guard⟩:=o
   simp only at e hd
   subst hd
   cases op <;> simp only [isApp,Bool.false_eq_true] at e
   rename_i c
   split at e
   ·rename_i hc
    obtain ⟨callee,args,argTypes⟩:=c
    simp only at hc
    subst hc
    unfold barW opW at h
    simp only at h
    split at h
    ·rename_i e1 e2 e3; cases e1
    ·rename_i e1 e2 e3; cases e1
    ·rename_i x y t t' d' e1 e2 e3 e4
     cases e4
     have ea : args = #[x,y]:=by rw [← Array.toArray_toList (xs:=args),e2]
     have et : argTypes = #[t,t']:=by rw [← Array.toArray_toList (xs:=argTypes),e3]
     subst ea et
     obtain ⟨rfl,h⟩:=h
     have hxx:=hx x (by simp [Op.operands,Call.operands])
     have hyy:=hx y (by simp [Op.operands,Call.operands])
     have hrun : EffOk P C.h0 C.ok C.O0 a w (do pure (.value (← Builtin.append_ #[t,t] ty #[a.eval x,a.eval y]))) (some d) K:=by
      split at h
      ·split at h
       ·exact sim_append R hxx hyy (hdl d rfl).1 h
       ·exact sim_appendM R hxx hyy (hdl d rfl).1 h
      ·exact sim_append R hxx hyy (hdl d rfl).1 h
     obtain ⟨nx,v,w',σ',Os',e1,e2,e3,e4,e5⟩:=hrun
     exact ⟨nx,v,w',σ',Os',by rw [← e1]; simp [execOp,resolve,invoke,builtin],e2,e3,e4,e5⟩
    ·exact h.elim
   ·cases e
 obtain ⟨nx,v,w',σ',Os',e1,e2,e3,e4,e5,e6,e7⟩:=key
 refine ⟨nx,v,w',e1,e2,σ',e3,⟨Os',e4⟩,?_,?_,?_,e5.trans hos,e6.trans htp,e7.trans hout⟩
 ·intro t ht
  cases hd : o.dst with
  | none => exact hkk t ht
  | some d =>
   have : d ≠ t:=by rintro rfl; exact (hdl _ hd).2 ht
   show (a.tmps.setIfInBounds d v)[t]? = _
   rw [Array.getElem?_setIfInBounds_ne this]
   exact hkk t ht
 ·cases o.dst <;> simp [Act.put,hsz]
 ·cases o.dst <;> exact hdf
def WalkOk (P : Program) (all : List Oper) (base : Array Bool) : Nat → List Oper → List (List Nat) → (St → Prop) → St → Prop
 | _,[],_,K,σ => ∃ σ',Eqv σ σ' ∧ K σ'
 | i,o :: r,ls,K,σ => if base.getD i false = true then WalkOk P all base (i + 1) r ls K σ else ∃ σ',Eqv σ σ' ∧ (match isSt o with
  | true => (match ls with
   | l :: ls' => barW P σ' o (fun σ1 => latesOk P all σ1 l ∧ WalkOk P all base (i + 1) r ls' K σ1)
   | [] => False)
  | false => vStep P σ' o (fun σ1 => WalkOk P all base (i + 1) r ls K σ1))
def coverB (ms : List Nat) (base : Array Bool) : Nat → List Oper → List (List Nat) → Bool
 | _,[],_ => true
 | i,o :: r,ls => if base.getD i false = true then coverB ms base (i + 1) r ls else if isSt o then (match ls with
   | l :: ls' => (List.range i).all (fun k => (ms.getD i 0).testBit k || l.contains k) && coverB ms base (i + 1) r ls'
   | [] => false) else coverB ms base (i + 1) r ls
structure Seg (P : Program) (C : Ctx P) (ops : Array Oper) (ms : List Nat) (base : Array Bool) (K : St → Prop) (i : Nat) (a : Act) (w : World) (A : Act) (E : Nat → Act) (W : Nat → World) : Prop where
 beg : W i = w
 act : ∃ tm,A = { a with tmps:=tm } ∧ tm.size = a.tmps.size ∧ ∀ t,(∀ (k : Nat) ok,i ≤ k → ops[k]? = some ok → base.getD k false = false → ok.dst ≠ some t) → tm[t]? = a.tmps[t]?
 env : ∀ (j : Nat) o,i ≤ j → ops[j]? = some o → base.getD j false = false → ∀ t,(∀ (k : Nat) ok,i ≤ k → ops[k]? = some ok → base.getD k false = false → ok.dst = some t → k < j → (E j).tmps[t]? = A.tmps[t]?) ∧
  ((∀ (k : Nat) ok,i ≤ k → ops[k]? = some ok → base.getD k false = false → ok.dst = some t → ¬ k < j) → (E j).tmps[t]? = a.tmps[t]?)
 fin : lift C K A (W ops.size)
 was : ∀ j,i ≤ j → j < ops.size → base.getD j false = true → W (j + 1) = W j
 pu : ∀ (j : Nat) o,i ≤ j → ops[j]? = some o → base.getD j false = false → isV o = true → ∃ v d,o.dst = some d ∧ A.tmps[d]? = some v ∧ (execOp (E j).eval o).run P (W j) = .ok (.value v) (W j) ∧ W (j + 1) = W j
 st : ∀ (s : Nat) o,i ≤ s → ops[s]? = some o → base.getD s false = false → isSt o = true → (∃ nx v,(execOp (E s).eval o).run P (W s) = .ok nx (W (s + 1)) ∧ (nx = .value v ∨ (nx = .skip ∧ v = undef)) ∧ ∀ d,o.dst = some d → A.tmps[d]? = some v) ∧
  ∀ (j : Nat) oj,ops[j]? = some oj → base.getD j false = false → isV oj = true → j < s → (ms.getD s 0).testBit j = false →
   ∃ v d,oj.dst = some d ∧ A.tmps[d]? = some v ∧ ∀ e : Act,(j < i → ∀ t,.tmp t ∈ oj.op.operands.toList → e.tmps[t]? = a.tmps[t]?) → (i ≤ j → e = E j) → (execOp e.eval oj).run P (W (s + 1)) = .ok (.value v) (W (s + 1))
theorem noWr_spec {all : List Oper} {k i : Nat} (h : noWr all k i = true) {ok : Oper} (hk : all[k]? = some ok) {m : Nat} {om : Oper} {d : Nat} (hm : m < i) (hkm : k < m) (ho : all[m]? = some om) (hd : om.dst = some d) : .tmp d ∉ ok.op.operands.toList:=by
 unfold noWr at h
 rw [hk] at h
 have:=(List.all_eq_true.1 h) m (by simpa using hm)
 rw [ho] at this
 simp only [hd,Bool.or_eq_true,decide_eq_true_eq,Bool.not_eq_true'] at this
 intro hmem
 rcases this with h | h
 ·omega
 ·have:=mem_tmpsOf hmem
  rw [← List.contains_iff_mem] at this
  rw [h] at this; cases this
theorem exec_same {o : Oper} (hk : isV o = true) {a b : Act} (h : ∀ t,.tmp t ∈ o.op.operands.toList → a.tmps[t]? = b.tmps[t]?) : execOp a.eval o = execOp b.eval o:=by
 refine execOp_congr o ?_ ?_
 ·intro cs b he
  unfold isV at hk
  rw [he] at hk
  simp at hk
 ·intro x hx
  cases x with
  | tmp t => simp [Act.eval,h t (by simpa using hx)]
  | const _ => rfl
  | global _ => rfl
  | func _ => rfl
theorem latesOk_mem {all : List Oper} {σ : St} : ∀ {l : List Nat},latesOk P all σ l → ∀ k ∈ l,lateK P σ all[k]?
 | k :: l,h,j,hj => by
  rcases List.mem_cons.1 hj with rfl | hj
  ·exact h.1
  ·exact latesOk_mem h.2 j hj
theorem lW_run (hnw : ∀ (s : Nat) os (j : Nat),ops[s]? = some os → isSt os = true → j < s → (ms.getD s 0).testBit j = false → noWr ops.toList j s = true) (hrm : ∀ i,i < ops.size → rowM ops.toList ms i = true) (hrow : ∀ i,i < ops.size → base.getD i false = false → rowLp ops.toList ms (fun k => base.getD k false) i = true) (hok : ops.toList.all (operOk C.n C.ks) = true) {K : St → Prop} :
  ∀ (l : List Oper) (i : Nat) (ls : List (List Nat)) (σ : St) (a : Act) (w : World),ops.toList.drop i = l → i + l.length = ops.size → coverB ms base i l ls = true → WalkOk P ops.toList base i l ls K σ → Sim C σ a w → ∃ A E W,Seg P C ops ms base K i a w A E W
 | [],i,ls,σ,a,w,hl,hn,hc,h,S => by
  simp only [List.length_nil,Nat.add_zero] at hn
  obtain ⟨σ',h1,h2⟩:=h
  have no : ∀ (j : Nat) (o : Oper),i ≤ j → ops[j]? = some o → False:=by
   intro j o hj ho
   have:=(Array.getElem?_eq_some_iff.1 ho).1
   omega
  exact ⟨a,fun _ => a,fun _ => w,rfl,⟨a.tmps,rfl,rfl,fun _ _ => rfl⟩,fun j o hj ho => (no j o hj ho).elim,⟨σ',h2,S.eqv h1⟩,fun _ _ _ _ => rfl,fun j o hj ho => (no j o hj ho).elim,fun j o hj ho => (no j o hj ho).elim⟩
 | o :: r,i,ls,σ,a,w,hl,hn,hc,h,S => by
  have hi0 : ops.toList[i]? = some o:=by
   have:=congrArg (·[0]?) hl
   simpa using this
  have hi : ops[i]? = some o:=by rw [← hi0]; simp
  have hr : ops.toList.drop (i + 1) = r:=by
   have:=congrArg List.tail hl
   simpa using this
  have hlt : i < ops.size:=(Array.getElem?_eq_some_iff.1 hi).1
  have hop : operOk C.n C.ks o = true:=(List.all_eq_true.1 hok) o (List.mem_of_getElem? hi0)
  have hn' : i + 1 + r.length = ops.size:=by rw [← hn,List.length_cons]; omega
  unfold WalkOk at h
  unfold coverB at hc
  cases hb : base.getD i false with
  | true =>
   rw [if_pos hb] at h hc
   obtain ⟨A,E,W,q1,⟨tm,q2,q3,q4⟩,q4',q5,q5',q6,q7⟩:=lW_run hnw hrm hrow hok r (i + 1) ls _ a w hr hn' hc h S
   have ne : ∀ j,base.getD j false = false → j ≠ i:=by rintro j hj rfl; rw [hb] at hj; cases hj
   refine ⟨A,E,fun k => if k ≤ i then w else W k,by simp,⟨tm,q2,q3,fun t ht => q4 t fun k ok hk => ht k ok (by omega)⟩,?_,?_,?_,?_,?_⟩
   ·intro j oj hij hj hbj t
    have:=ne j hbj
    obtain ⟨g1,g2⟩:=q4' j oj (by omega) hj hbj t
    exact ⟨fun k ok hk hko hkb => g1 k ok (by have:=ne k hkb; omega) hko hkb,fun hno => g2 fun k ok hk => hno k ok (by omega)⟩
   ·have : ¬ ops.size ≤ i:=by omega
    simp only [this,if_false]; exact q5
   ·intro j hij hj hbj
    by_cases hji : j = i
    ·subst hji; simp [q1]
    ·have e1 : ¬ j ≤ i:=by omega
     have e2 : ¬ j + 1 ≤ i:=by omega
     simp only [e1,e2,if_false]
     exact q5' j (by omega) hj hbj
   ·intro j oj hij hj hbj hpj
    have:=ne j hbj
    have e1 : ¬ j ≤ i:=by omega
    have e2 : ¬ j + 1 ≤ i:=by omega
    simp only [e1,e2,if_false]
    exact q6 j oj (by omega) hj hbj hpj
   ·intro s os his hs hsb hss
    have:=ne s hsb
    have e1 : ¬ s ≤ i:=by omega
    have e2 : ¬ s + 1 ≤ i:=by omega
    simp only [e1,e2,if_false]
    obtain ⟨g1,g2⟩:=q7 s os (by omega) hs hsb hss
    refine ⟨g1,fun j oj hj hjb hpj hjs hbit => ?_⟩
    obtain ⟨v,d,f1,f2,f3⟩:=g2 j oj hj hjb hpj hjs hbit
    have:=ne j hjb
    exact ⟨v,d,f1,f2,fun e h1 h2 => f3 e (fun h => h1 (by omega)) (fun h => h2 (by omega))⟩
  | false =>
  have hb' : ¬ base.getD i false = true:=by simp [hb]
  rw [if_neg hb'] at h hc
  obtain ⟨σ0,he0,h⟩:=h
  have S:=S.eqv he0
  obtain ⟨rk,r4,r5⟩:=rowL_spec (hrow i hlt hb) hi0
  -- distinct slots
  have hdist : ∀ (k j : Nat) ok oj d,k ≠ j → base.getD j false = false → ops[k]? = some ok → ops[j]? = some oj → oj.dst = some d → ok.dst ≠ some d:=fun k j ok oj d hjk hjb hk hj hd hkd =>
   ((rowL_spec (hrow j (Array.getElem?_eq_some_iff.1 hj).1 hjb) (by rw [Array.getElem?_toList]; exact hj)).2.2 k ok (by rw [Array.getElem?_toList]; exact hk)).1 d hjk hkd hd
  rcases rk with hp | hst
  ·have hns:=not_both hp
   rw [hns] at h hc
   simp only [Bool.false_eq_true,if_false] at h hc
   obtain ⟨v,d,hd,hdl,p2,σ',p3,S'⟩:=sim_vStep hp hop S h
   obtain ⟨A,E,W,q1,⟨tm,q2,q3,q4⟩,q4',q5,q5',q6,q7⟩:=lW_run hnw hrm hrow hok r (i + 1) ls _ _ w hr hn' hc p3 S'
   have hput : ∀ t,t ≠ d → (a.put (some d) v).tmps[t]? = a.tmps[t]?:=by
    intro t ht
    show (a.tmps.setIfInBounds d v)[t]? = _
    rw [Array.getElem?_setIfInBounds_ne (Ne.symm ht)]
   have hA : A.tmps[d]? = some v:=by
    rw [q2]
    show tm[d]? = _
    rw [q4 d fun k ok hk hko hkb => hdist k i ok o d (by omega) hb hko hi hd]
    show (a.tmps.setIfInBounds d v)[d]? = _
    rw [Array.getElem?_setIfInBounds_self_of_lt hdl]
   refine ⟨A,fun k => if k ≤ i then a else E k,fun k => if k ≤ i then w else W k,by simp,⟨tm,by rw [q2]; rfl,by rw [q3]; simp [Act.put],fun t ht => ?_⟩,?_,?_,?_,?_,?_⟩
   ·rw [q4 t fun k ok hk hok' => ht k ok (by omega) hok']
    exact hput t (by rintro rfl; exact ht i o (Nat.le_refl _) hi hb hd)
   ·intro j oj hij hj hbj t
    by_cases hji : j = i
    ·subst hji
     simp only [Nat.le_refl,if_true]
     exact ⟨fun k ok hk hko hkb hkd hlt => absurd hlt (by omega),fun _ => trivial⟩
    ·have e1 : ¬ j ≤ i:=by omega
     simp only [e1,if_false]
     obtain ⟨g1,g2⟩:=q4' j oj (by omega) hj hbj t
     constructor
     ·intro k ok hk hko hkb hkd hkj
      by_cases hki : k = i
      ·subst hki
       rw [hi] at hko; cases hko
       rw [hd] at hkd; cases hkd
       rw [g2 fun k' ok' hk' hko' hkb' hkd' _ => hdist k' k ok' o d (by omega) hb hko' hi hd hkd',hA]
       show (a.tmps.setIfInBounds d v)[d]? = _
       rw [Array.getElem?_setIfInBounds_self_of_lt hdl]
      ·exact g1 k ok (by omega) hko hkb hkd hkj
     ·intro hno
      rw [g2 fun k ok hk => hno k ok (by omega)]
      exact hput t (by rintro rfl; exact hno i o (Nat.le_refl _) hi hb hd (by omega))
   ·have : ¬ ops.size ≤ i:=by omega
    simp only [this,if_false]; exact q5
   ·intro j hij hj hbj
    have hji : j ≠ i:=by rintro rfl; rw [hb] at hbj; cases hbj
    have e1 : ¬ j ≤ i:=by omega
    have e2 : ¬ j + 1 ≤ i:=by omega
    simp only [e1,e2,if_false]
    exact q5' j (by omega) hj hbj
   ·intro j oj hij hj hbj hpj
    by_cases hji : j = i
    ·subst hji
     rw [hi] at hj; cases hj
     have e2 : ¬ j + 1 ≤ j:=by omega
     simp only [Nat.le_refl,if_true,e2,if_false,q1]
     exact ⟨v,d,hd,hA,p2,trivial⟩
    ·have e1 : ¬ j ≤ i:=by omega
     have e2 : ¬ j + 1 ≤ i:=by omega
     simp only [e1,e2,if_false]
     exact q6 j oj (by omega) hj hbj hpj
   ·intro s os his hs hsb hss
    have hsi : s ≠ i:=by rintro rfl; rw [hi] at hs; cases hs; rw [hns] at hss; cases hss
    have e1 : ¬ s ≤ i:=by omega
    have e2 : ¬ s + 1 ≤ i:=by omega
    simp only [e1,e2,if_false]
    obtain ⟨g1,g2⟩:=q7 s os (by omega) hs hsb hss
    refine ⟨g1,fun j oj hj hjb hpj hjs hbit => ?_⟩
    obtain ⟨v',d',f1,f2,f3⟩:=g2 j oj hj hjb hpj hjs hbit
    refine ⟨v',d',f1,f2,fun e h1 h2 => ?_⟩
    -- what the reading looks at is not written before the store
    have hne : ∀ t,.tmp t ∈ oj.op.operands.toList → j ≤ i → t ≠ d:=by
     rintro t ht hji rfl
     by_cases hji2 : j = i
     ·subst hji2
      have hrj:=(rowL_spec (hrow j (Array.getElem?_eq_some_iff.1 hj).1 hjb) (by rw [Array.getElem?_toList]; exact hj)).2.1 t ht j o hi0 hd
      have:=(hrj.2 (Nat.lt_irrefl _)).1
      omega
     ·exact noWr_spec (hnw s os j hs hss hjs hbit) (by rw [Array.getElem?_toList]; exact hj) (m:=i) (by omega) (by omega) hi0 hd ht
    by_cases hji : j ≤ i
    ·refine f3 e (fun _ t ht => ?_) (fun h => by omega)
     rw [hput t (hne t ht hji)]
     by_cases hji2 : j = i
     ·subst hji2
      rw [h2 (Nat.le_refl _)]
      simp
     ·exact h1 (by omega) t ht
    ·exact f3 e (fun h => by omega) (fun _ => by rw [h2 (by omega)]; simp [hji])
  ·rw [hst] at h hc
   simp only [if_true] at h hc
   cases ls with
   | nil => cases hc
   | cons l ls' =>
    simp only [Bool.and_eq_true] at h hc
    have hszC : a.tmps.size = C.n:=S.2.2.1
    obtain ⟨nx,v,w',hrun,hnx,σ',s3,S'⟩:=sim_bar hst hop S h
    obtain ⟨A,E,W,q1,⟨tm,q2,q3,q4⟩,q4',q5,q5',q6,q7⟩:=lW_run hnw hrm hrow hok r (i + 1) ls' _ _ w' hr hn' hc.2 s3.2 S'
    have hput : ∀ t,o.dst ≠ some t → (a.put o.dst v).tmps[t]? = a.tmps[t]?:=by
     intro t ht
     cases hd : o.dst with
     | none => rfl
     | some d =>
      show (a.tmps.setIfInBounds d v)[t]? = _
      rw [Array.getElem?_setIfInBounds_ne (by rintro rfl; exact ht hd)]
    have hputd : ∀ d,o.dst = some d → (a.put o.dst v).tmps[d]? = some v:=by
     intro d hd
     have hdl : d < a.tmps.size:=by
      simp only [operOk,hd,Bool.and_eq_true,decide_eq_true_eq] at hop
      rw [hszC]; exact hop.2.1
     rw [hd]
     show (a.tmps.setIfInBounds d v)[d]? = _
     rw [Array.getElem?_setIfInBounds_self_of_lt hdl]
    have hA : ∀ d,o.dst = some d → A.tmps[d]? = some v:=by
     intro d hd
     rw [q2]
     show tm[d]? = _
     rw [q4 d fun k ok hk hko hkb => hdist k i ok o d (by omega) hb hko hi hd]
     exact hputd d hd
    refine ⟨A,fun k => if k ≤ i then a else E k,fun k => if k ≤ i then w else W k,by simp,⟨tm,by rw [q2]; cases o.dst <;> rfl,by rw [q3]; cases o.dst <;> simp [Act.put],fun t ht => ?_⟩,?_,?_,?_,?_,?_⟩
    ·rw [q4 t fun k ok hk hok' => ht k ok (by omega) hok']
     exact hput t (ht i o (Nat.le_refl _) hi hb)
    ·intro j oj hij hj hbj t
     by_cases hji : j = i
     ·subst hji
      simp only [Nat.le_refl,if_true]
      exact ⟨fun k ok hk hko hkb hkd hlt => absurd hlt (by omega),fun _ => trivial⟩
     ·have e1 : ¬ j ≤ i:=by omega
      simp only [e1,if_false]
      obtain ⟨g1,g2⟩:=q4' j oj (by omega) hj hbj t
      constructor
      ·intro k ok hk hko hkb hkd hkj
       by_cases hki : k = i
       ·subst hki
        rw [hi] at hko; cases hko
        rw [g2 fun k' ok' hk' hko' hkb' hkd' _ => hdist k' k ok' o t (by omega) hb hko' hi hkd hkd',hA t hkd]
        exact hputd t hkd
       ·exact g1 k ok (by omega) hko hkb hkd hkj
      ·intro hno
       rw [g2 fun k ok hk => hno k ok (by omega)]
       exact hput t (fun e => hno i o (Nat.le_refl _) hi hb e (by omega))
    ·have : ¬ ops.size ≤ i:=by omega
     simp only [this,if_false]; exact q5
    ·intro j hij hj hbj
     have hji : j ≠ i:=by rintro rfl; rw [hb] at hbj; cases hbj
     have e1 : ¬ j ≤ i:=by omega
     have e2 : ¬ j + 1 ≤ i:=by omega
     simp only [e1,e2,if_false]
     exact q5' j (by omega) hj hbj
    ·intro j oj hij hj hbj hpj
     have hji : j ≠ i:=by rintro rfl; rw [hi] at hj; cases hj; rw [not_both hpj] at hst; cases hst
     have e1 : ¬ j ≤ i:=by omega
     have e2 : ¬ j + 1 ≤ i:=by omega
     simp only [e1,e2,if_false]
     exact q6 j oj (by omega) hj hbj hpj
    ·intro s os his hs hsb hss
     by_cases hsi : s = i
     ·subst hsi
      rw [hi] at hs; cases hs
      have e2 : ¬ s + 1 ≤ s:=by omega
      simp only [Nat.le_refl,if_true,e2,if_false,q1]
      refine ⟨⟨nx,v,hrun,hnx,hA⟩,?_⟩
      intro j oj hj hjb hpj hjs hbit
      have hm : j ∈ l:=by
       have:=(List.all_eq_true.1 hc.1) j (by simpa using hjs)
       rw [hbit] at this
       simpa using this
      have hlk:=latesOk_mem s3.1 j hm
      rw [Array.getElem?_toList,hj] at hlk
      unfold lateK at hlk
      simp only at hlk
      split at hlk
      ·rename_i d hd
       have hoj : operOk C.n C.ks oj = true:=(List.all_eq_true.1 hok) oj (List.mem_of_getElem? (by rw [Array.getElem?_toList]; exact hj : ops.toList[j]? = some oj))
       simp only [operOk,hd,Bool.and_eq_true,decide_eq_true_eq] at hoj
       obtain ⟨⟨Os',R'⟩,_,hsz',_⟩:=S'
       obtain ⟨y,v1,⟨b1,b2⟩,b3,b4,b5⟩:=sim_val R' (by rw [hsz']; exact hoj.1) hlk
       have hdl : d < (a.put o.dst v).tmps.size:=by rw [hsz']; exact hoj.2.1
       have hv0 : (a.put o.dst v).tmps[d]? = some (a.put o.dst v).tmps[d]:=Array.getElem?_eq_getElem hdl
       have c1:=R'.rep d _ hv0
       have c2:=R'.ali d _ hv0
       rw [b2] at c1 c2
       have hvv : (a.put o.dst v).tmps[d] = v1:=rig_det b1 c1 c2 b4 b5
       refine ⟨v1,d,hd,?_,fun e h1 h2 => ?_⟩
       ·rw [q2]
        show tm[d]? = _
        rw [q4 d fun k ok hk hko hkb => hdist k j ok oj d (by omega) hjb hko hj hd,hv0,hvv]
       ·rw [exec_same hpj (b:=a.put o.dst v) (fun t ht => by
         rw [h1 hjs t ht]
         refine (hput t fun hdo => ?_).symm
         have hrd:=(rowL_spec (hrow j (Array.getElem?_eq_some_iff.1 hj).1 hjb) (by rw [Array.getElem?_toList]; exact hj)).2.1 t ht s o hi0 hdo
         have:=(hrd.2 (by omega)).2
         rw [hbit] at this; cases this)]
        exact b3
      ·exact hlk.elim
     ·have e1 : ¬ s ≤ i:=by omega
      have e2 : ¬ s + 1 ≤ i:=by omega
      simp only [e1,e2,if_false]
      obtain ⟨g1,g2⟩:=q7 s os (by omega) hs hsb hss
      refine ⟨g1,fun j oj hj hjb hpj hjs hbit => ?_⟩
      obtain ⟨v',d',f1,f2,f3⟩:=g2 j oj hj hjb hpj hjs hbit
      have hji : j ≠ i:=by rintro rfl; rw [hi] at hj; cases hj; rw [not_both hpj] at hst; cases hst
      refine ⟨v',d',f1,f2,fun e h1 h2 => f3 e (fun h t ht => ?_) (fun h => ?_)⟩
      ·rw [h1 (by omega) t ht]
       exact (hput t fun hdo => noWr_spec (hnw s os j hs hss hjs hbit) (by rw [Array.getElem?_toList]; exact hj) (m:=i) (by omega) (by omega) hi0 hdo ht).symm
      ·have e3 : ¬ j ≤ i:=by omega
       rw [h2 (by omega)]
       simp only [e3,if_false]
end
end Go.Proofs.YtpffgegfjpdncaaGreatDoor.Am
