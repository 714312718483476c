/- What functions of the program answer, on values without memory (part 3): conditions stand at each theorem. -/
import Derived.Test.YtpffgegfjpdncaaGreatDoorRows
import Derived.Test.YtpffgegfjpdncaaGreatDoorAskShortU2
import Derived.Shelf.Strings.OnBuilder
import Derived.Shelf.LaysM
import Derived.Shelf.Strconv.Itoa3
import Derived.Shelf.Sort.Plain
import Derived.Shelf.Slices.In.SortNone2
set_option linter.unusedVariables false
set_option linter.unusedSimpArgs false
set_option maxRecDepth 100000
set_option maxHeartbeats 4000000
namespace Go.Proofs.YtpffgegfjpdncaaGreatDoor.U
open Go Go.RowKit Go.Proofs Go.Proofs.YtpffgegfjpdncaaGreatDoor.Am AV Go.Proofs.Tryz
def byteP (p : List Span) : UInt8:=UInt8.ofNat (firstB p).toNat
def stepK (d : Dfa) (s : Nat) (w : Txt) (k : Nat) (z : List (Nat × Txt)) : List (Nat × Txt) :=
 if 0 ≤ glV d s k ∧ (z.any fun x => x.1 == (glV d s k).toNat) = false then z ++ [((glV d s k).toNat,w ++ [byteP (d.parts.getD k [])])] else z
def colK (d : Dfa) (s : Nat) (w : Txt) : Nat → List (Nat × Txt) → List (Nat × Txt)
 | 0,z => z
 | k + 1,z => stepK d s w k (colK d s w k z)
def bfsK (d : Dfa) : Nat → Nat → List (Nat × Txt) → Option Txt
 | 0,_,_ => none
 | n + 1,i,z => match z[i]? with
  | none => none
  | some x => if 0 ≤ acV d x.1 then some x.2 else bfsK d n (i + 1) (colK d x.1 x.2 d.parts.length z)
noncomputable def shortD (d : Dfa) : Option Txt:=bfsK d 41 0 [(0,[])]
theorem nodup_len : ∀ (n : Nat) (S : List Nat),S.Nodup → (∀ x ∈ S,x < n) → S.length ≤ n
 | 0,S,_,h => by
  cases S with
  | nil => simp
  | cons x l => exact absurd (h x (by simp)) (by omega)
 | n + 1,S,hn,h => by
  by_cases hm : n ∈ S
  ·have h1:=nodup_len n (S.erase n) (hn.erase n) (fun x hx => by
    have h2:=h x (List.mem_of_mem_erase hx)
    have h3 : x ≠ n:=fun e => by subst e; exact (List.Nodup.not_mem_erase hn) hx
    omega)
   rw [List.length_erase_of_mem hm] at h1
   omega
  ·have:=nodup_len n S hn (fun x hx => by
    have h2:=h x hx
    have h3 : x ≠ n:=fun e => by subst e; exact hm hx
    omega)
   omega
structure ZOk (d : Dfa) (z : List (Nat × Txt)) : Prop where
 nd : (z.map Prod.fst).Nodup
 lt : ∀ x ∈ z,x.1 < d.rows.length
 tx : ∀ x ∈ z,x.2.length < z.length
theorem ZOk.len {d : Dfa} (h : MOk d) {z : List (Nat × Txt)} (hz : ZOk d z) : z.length ≤ 40:=by
 have:=nodup_len d.rows.length (z.map Prod.fst) hz.nd (fun x hx => by
  obtain ⟨y,hy,rfl⟩:=List.mem_map.1 hx
  exact hz.lt y hy)
 have h2:=h.n
 simp at this
 omega
theorem glV_lt {d : Dfa} (h : MOk d) {s k : Nat} (hs : s < d.rows.length) (hk : k < d.parts.length) : glV d s k < d.rows.length:=(dat_at h hs hk).2.2.2.2.1
theorem step_ok {d : Dfa} (h : MOk d) {s k : Nat} (hs : s < d.rows.length) (hk : k < d.parts.length) {w : Txt} {z : List (Nat × Txt)} (hz : ZOk d z) (hw : w.length < z.length) : ZOk d (stepK d s w k z) ∧ z.length ≤ (stepK d s w k z).length:=by
 unfold stepK
 split
 ·rename_i hc
  have hlt:=glV_lt h hs hk
  refine ⟨⟨?_,fun x hx => ?_,fun x hx => ?_⟩,by simp⟩
  ·rw [List.map_append,List.nodup_append]
   refine ⟨hz.nd,by simp,fun a ha b hb => ?_⟩
   simp at hb
   obtain ⟨y,hy,rfl⟩:=List.mem_map.1 ha
   have:=List.any_eq_false.1 hc.2 y hy
   intro e
   rw [hb] at e
   exact this (by simpa using e)
  ·rcases List.mem_append.1 hx with hx | hx
   ·exact hz.lt x hx
   ·simp at hx; subst hx; show (glV d s k).toNat < _; omega
  ·rw [List.length_append,List.length_singleton]
   rcases List.mem_append.1 hx with hx | hx
   ·have:=hz.tx x hx; omega
   ·simp at hx; subst hx; simp; omega
 ·exact ⟨hz,Nat.le_refl _⟩
theorem colK_ok {d : Dfa} (h : MOk d) {s : Nat} (hs : s < d.rows.length) {w : Txt} {z : List (Nat × Txt)} (hz : ZOk d z) (hw : w.length < z.length) : ∀ k,k ≤ d.parts.length → ZOk d (colK d s w k z) ∧ z.length ≤ (colK d s w k z).length
 | 0,_ => ⟨hz,Nat.le_refl _⟩
 | k + 1,hk => by
  obtain ⟨h1,h2⟩:=colK_ok h hs hz hw k (by omega)
  obtain ⟨h3,h4⟩:=step_ok h hs (show k < d.parts.length by omega) h1 (show w.length < _ by omega)
  exact ⟨h3,by show z.length ≤ (stepK d s w k (colK d s w k z)).length; omega⟩
def eMd (x : Nat × Txt) : AV:=.agg [.int .i64 x.1,.str x.2]
def kvS (x : Nat × Txt) : AV:=.agg [.int .i64 x.1,.bool true]
theorem md_at (z : List (Nat × Txt)) (i : Nat) (h : i < z.length) : (z.map eMd)[i]? = some (.agg [.int .i64 z[i].1,.str z[i].2]) ∧ (z.map eMd).getD i .undef = .agg [.int .i64 z[i].1,.str z[i].2]:=by
 have : (z.map eMd)[i]? = some (.agg [.int .i64 z[i].1,.str z[i].2]):=by simp [h,eMd]
 exact ⟨this,by rw [List.getD,this]; rfl⟩
theorem kvS_key (z : List (Nat × Txt)) (t : Int) : kvKeys (.int .i64 t) (z.map kvS):=by
 intro y hy
 obtain ⟨x,_,rfl⟩:=List.mem_map.1 hy
 exact ⟨_,_,rfl,rfl⟩
theorem kvS_no {z : List (Nat × Txt)} {t : Nat} (h : (z.any fun x => x.1 == t) = false) : kvNo (.int .i64 t) (z.map kvS):=by
 intro i v' e
 rw [List.getElem?_map] at e
 cases hx : z[i]? with
 | none => rw [hx] at e; cases e
 | some x =>
  rw [hx] at e
  simp only [Option.map_some,kvS,Option.some.injEq,AV.agg.injEq,List.cons.injEq,AV.int.injEq] at e
  have:=List.any_eq_false.1 h x (List.mem_of_getElem? hx)
  exact this (by have:=e.1.2; simp; omega)
theorem kvS_at {z : List (Nat × Txt)} (hn : (z.map Prod.fst).Nodup) {t : Nat} (h : (z.any fun x => x.1 == t) = true) : ∃ j,kvAt (.int .i64 t) (.bool true) (z.map kvS) j:=by
 obtain ⟨y,hy,e⟩:=List.any_eq_true.1 h
 obtain ⟨j,hj,rfl⟩:=List.mem_iff_getElem.1 hy
 have e : z[j].1 = t:=by simpa using e
 refine ⟨j,by rw [List.getElem?_map,List.getElem?_eq_getElem hj,← e]; rfl,fun i hi v' e2 => ?_⟩
 rw [List.getElem?_map,List.getElem?_eq_getElem (by omega)] at e2
 simp only [Option.map_some,kvS,Option.some.injEq,AV.agg.injEq,List.cons.injEq,AV.int.injEq] at e2
 have h1:=(List.pairwise_iff_getElem.1 hn) i j (by simp; omega) (by simpa using hj) hi
 rw [List.getElem_map,List.getElem_map] at h1
 exact h1 (by have:=e2.1.2; omega)
theorem first_byte {p : List Span} (h : setB p = true) (hl : 0 < p.length) : ∃ c : Nat,c < 256 ∧ firstB p = c ∧ byteP p = UInt8.ofNat c ∧ bytesBack [.int .u8 (c : Int)] = some [byteP p]:=by
 obtain ⟨n,h1,h2,_⟩:=has_first h hl
 have e : byteP p = UInt8.ofNat n:=by unfold byteP; rw [h2]; rfl
 refine ⟨n,h1,h2,e,?_⟩
 have e2 : ([.int .u8 (n : Int)] : List AV) = bytesA [byteP p]:=by
  rw [e]
  simp [bytesA]
  omega
 rw [e2,bytesBack_bytesA]
structure SG where
 n : Nat
 i : Nat
 z : List (Nat × Txt)
structure SI (d : Dfa) (R : Option Txt) (g : SG) : Prop where
 eq : R = bfsK d g.n g.i g.z
 ns : g.n + g.i = 41
 il : g.i ≤ g.z.length
 ok : ZOk d g.z
theorem bfs_at (d : Dfa) (n i : Nat) (z : List (Nat × Txt)) (h : i < z.length) : bfsK d (n + 1) i z = if 0 ≤ acV d z[i].1 then some z[i].2 else bfsK d n (i + 1) (colK d z[i].1 z[i].2 d.parts.length z):=by
 rw [bfsK,List.getElem?_eq_getElem h]
theorem bfs_end (d : Dfa) (n i : Nat) (z : List (Nat × Txt)) (h : z.length ≤ i) : bfsK d (n + 1) i z = none:=by
 rw [bfsK,List.getElem?_eq_none h]
theorem fits_shortest (d : Dfa) (hd : MOk d) (hne : ∀ p ∈ d.parts,0 < p.length) : Fits prog 63 [eDfa false d] (.tup [.str ((shortD d).getD []),.bool (shortD d).isSome]) []:=by
 have hR : shortD d = bfsK d 41 0 [(0,[])]:=rfl
 have hZ0 : ZOk d [(0,[])]:=⟨by simp,by simpa using hd.pos,by simp⟩
 have e0 : ([(0,[])] : List (Nat × Txt)).map eMd = [.agg [.int .i64 0,.str []]]:=rfl
 have k0 : ([(0,[])] : List (Nat × Txt)).map kvS = [.agg [.int .i64 0,.bool true]]:=rfl
 have hal : (d.acc.map eInt).length = d.rows.length:=by simpa using hd.a
 have hn:=hd.n
 have hpl:=hd.p
 generalize shortD d = R at *
 unfold eDfa
 refine fits_of_code [2,3] [] [0,1,2,3,4,5,6,7,8,9,10,18,31,35,36,37,38,58] func63 rfl rfl rfl (by rfl) (by show 1 ≤ 75; decide) (by rfl) (by rfl) (by show 0 ≤ 1; decide) (by rfl) (run_of ?_)
 (first | refine Zo (Z2 tis fls) ?_ | exact Zc (Z2 tis fls))
 refine mu_new 13 [] (.int .i64 0) (.bool true) _ _ _ rfl rfl (fun y hy => by simp at hy) (fun i v' e => by simp at e) ?_
 (first | refine Zo (Z2 tis fls) ?_ | exact Zc (Z2 tis fls))
 refine run_loop (α:=SG) (SI d R) (fun g => [(1,.box (.agg [.sl false 1 (d.parts.map (eSpans false)),.sl false 1 (d.rows.map (eInts false)),.sl false 1 (d.acc.map eInt)])),(4,.sl true 2 (g.z.map eMd)),(5,.mp (g.z.map kvS)),(6,.int .i64 g.i)]) (fun g => g.n) ⟨41,0,[(0,[])]⟩ ⟨hR,rfl,Nat.zero_le _,hZ0⟩ ?_ ?_
 ·simp only [e0,k0]
  (first | refine Zo (Z2 tis fls) ?_ | exact Zc (Z2 tis fls))
 ·rintro ⟨n,i,z⟩ ⟨m1,m2,m3,m4⟩
  simp only at m1 m2 m3 m4
  have hzl:=m4.len hd
  obtain ⟨n,rfl⟩ : ∃ k,n = k + 1:=⟨n - 1,by omega⟩
  by_cases hi : i < z.length
  ·obtain ⟨x1,x2⟩:=md_at z i hi
   have hst:=m4.lt _ (List.getElem_mem hi)
   have htx:=m4.tx _ (List.getElem_mem hi)
   rw [bfs_at d n i z hi] at m1
   generalize z[i].1 = s at *
   generalize z[i].2 = w at *
   obtain ⟨a1,a2⟩:=int_at d.acc s (by rw [hd.a]; exact hst)
   have eac : acV d s = d.acc.getD s 0:=rfl
   rw [eac] at m1
   generalize d.acc.getD s 0 = ac at *
   have hml : (z.map eMd).length = z.length:=by simp
   by_cases hac : 0 ≤ ac
   ·rw [if_pos hac] at m1
    subst m1
    simp only [Option.getD_some,Option.isSome_some]
    (repeat (first | refine Zo (Z11 tis fls @x1 @x2 @a1 @a2 @hal @hml @hac @retW2 Zi) ?_ | refine .inl ⟨by kernel_rfl,?_⟩ | exact .inl (by show _ = _; kernel_rfl) | exact Zc (Z11 tis fls @x1 @x2 @a1 @a2 @hal @hml @hac @retW2 Zi)))
   ·rw [if_neg hac] at m1
    (repeat (first | refine Zo (Z10 tis fls @x1 @x2 @a1 @a2 @hal @hml @hac Zi) ?_ | refine .inl ⟨by kernel_rfl,?_⟩ | exact .inl (by show _ = _; kernel_rfl) | exact Zc (Z10 tis fls @x1 @x2 @a1 @a2 @hal @hml @hac Zi)))
    refine run_loop (α:=Nat) (fun k => k ≤ d.parts.length) (fun k => [(1,.box (.agg [.sl false 1 (d.parts.map (eSpans false)),.sl false 1 (d.rows.map (eInts false)),.sl false 1 (d.acc.map eInt)])),(4,.sl true 2 ((colK d s w k z).map eMd)),(5,.mp ((colK d s w k z).map kvS)),(6,.int .i64 i),(7,.box (.agg [.int .i64 s,.str w])),(35,.sl false 1 (d.parts.map (eSpans false))),(36,.int .i64 d.parts.length),(37,.int .i64 k)]) (fun k => d.parts.length - k) 0 (Nat.zero_le _) ?_ ?_
    ·simp only [colK]
     (first | refine Zo (Z2 tis fls) ?_ | exact Zc (Z2 tis fls))
    ·intro k hk'
     obtain ⟨q1,q2⟩:=colK_ok hd hst m4 htx k hk'
     have q3:=q1.len hd
     by_cases hk : k < d.parts.length
     ·obtain ⟨⟨r1,r2⟩,⟨r3,r4⟩,⟨r5,r6⟩,r7,r8,r9⟩:=dat_at hd hst hk
      have hkS : colK d s w (k + 1) z = stepK d s w k (colK d s w k z):=rfl
      have ep : d.parts.getD k [] = d.parts[k]:=by simp [List.getD,hk]
      have hpm : d.parts.getD k [] ∈ d.parts:=by rw [ep]; exact List.getElem_mem hk
      obtain ⟨c,c1,c2,c3,c4⟩:=first_byte (hd.pc _ hpm) (hne _ hpm)
      have cF:=fits_setFirst (d.parts.getD k []) (by omega)
      rw [c2] at cF
      have hr7 : ((d.rows.getD s []).map eInt).length = d.parts.length:=by simpa using r7
      unfold stepK at hkS
      generalize byteP (d.parts.getD k []) = bt at *
      generalize glV d s k = t at *
      generalize d.parts.getD k [] = p at *
      generalize d.rows.getD s [] = row at *
      generalize colK d s w k z = Z at *
      have hZl : (Z.map eMd).length = Z.length:=by simp
      by_cases ht : 0 ≤ t
      ·obtain ⟨u,rfl⟩ : ∃ u : Nat,t = u:=⟨t.toNat,by omega⟩
       rw [Int.toNat_natCast] at hkS
       cases hany : Z.any (fun x => x.1 == u) with
       | true =>
        rw [hany,if_neg (by simp)] at hkS
        obtain ⟨j,ka⟩:=kvS_at q1.nd hany
        (repeat (first | refine Zo (Z12 tis fls @dx @r1 @r2 @r3 @r4 @r5 @r6 @hr7 @ht Zi) ?_ | refine .inl ⟨by kernel_rfl,?_⟩ | exact .inl (by show _ = _; kernel_rfl) | exact Zc (Z12 tis fls @dx @r1 @r2 @r3 @r4 @r5 @r6 @hr7 @ht Zi)))
        refine lk_yes 5 (Z.map kvS) (.int .i64 u) _ _ _ j _ rfl rfl (kvS_key _ _) ka ?_
        (repeat (first | refine Zo (Z4 tis fls @dx Zi) ?_ | refine .inl ⟨by kernel_rfl,?_⟩ | exact .inl (by show _ = _; kernel_rfl) | exact Zc (Z4 tis fls @dx Zi)))
        refine round_normal (k + 1) (by omega) ?_ (by show d.parts.length - (k + 1) < d.parts.length - k; omega)
        rw [hkS]
        (first | refine Zo tis ?_ | exact Zc tis)
       | false =>
        rw [hany,if_pos ⟨ht,rfl⟩] at hkS
        have eA : (Z ++ [(u,w ++ [bt])]).map eMd = Z.map eMd ++ [.agg [.int .i64 u,.str (w ++ [bt])]]:=by simp [eMd]
        have eK : (Z ++ [(u,w ++ [bt])]).map kvS = Z.map kvS ++ [.agg [.int .i64 u,.bool true]]:=by simp [kvS]
        (repeat (first | refine Zo (Z12 tis fls @dx @r1 @r2 @r3 @r4 @r5 @r6 @hr7 @ht Zi) ?_ | refine .inl ⟨by kernel_rfl,?_⟩ | exact .inl (by show _ = _; kernel_rfl) | exact Zc (Z12 tis fls @dx @r1 @r2 @r3 @r4 @r5 @r6 @hr7 @ht Zi)))
        refine lk_no 5 (Z.map kvS) (.int .i64 u) _ _ _ rfl rfl (by kernel_rfl) (kvS_key _ _) (kvS_no hany) ?_
        (repeat (first | refine Zo (Z4 tis fls @dx Zi) ?_ | refine .inl ⟨by kernel_rfl,?_⟩ | exact .inl (by show _ = _; kernel_rfl) | exact Zc (Z4 tis fls @dx Zi)))
        refine mu_new 5 (Z.map kvS) (.int .i64 u) (.bool true) _ _ _ rfl rfl (kvS_key _ _) (kvS_no hany) ?_
        (repeat (first | refine Zo (Z6 tis fls @dx @c4 @hZl Zi) ?_ | refine .inl ⟨by kernel_rfl,?_⟩ | exact .inl (by show _ = _; kernel_rfl) | exact Zc (Z6 tis fls @dx @c4 @hZl Zi)); try ((first | refine callL cF ?_ | refine callB cF ?_); repeat (first | refine Zo (Z6 tis fls @dx @c4 @hZl Zi) ?_ | refine .inl ⟨by kernel_rfl,?_⟩ | exact .inl (by show _ = _; kernel_rfl) | exact Zc (Z6 tis fls @dx @c4 @hZl Zi))))
        refine round_normal (k + 1) (by omega) ?_ (by show d.parts.length - (k + 1) < d.parts.length - k; omega)
        rw [hkS,eA,eK]
        (first | refine Zo tis ?_ | exact Zc tis)
      ·rw [if_neg (fun h => ht h.1)] at hkS
       (repeat (first | refine Zo (Z12 tis fls @dx @r1 @r2 @r3 @r4 @r5 @r6 @hr7 @ht Zi) ?_ | refine .inl ⟨by kernel_rfl,?_⟩ | exact .inl (by show _ = _; kernel_rfl) | exact Zc (Z12 tis fls @dx @r1 @r2 @r3 @r4 @r5 @r6 @hr7 @ht Zi)))
       refine round_normal (k + 1) (by omega) ?_ (by show d.parts.length - (k + 1) < d.parts.length - k; omega)
       rw [hkS]
       (first | refine Zo tis ?_ | exact Zc tis)
     ·obtain rfl : k = d.parts.length:=by omega
      (repeat (first | refine Zo (Z3 tis fls Zi) ?_ | refine .inl ⟨by kernel_rfl,?_⟩ | exact .inl (by show _ = _; kernel_rfl) | exact Zc (Z3 tis fls Zi)))
      refine round_normal ⟨n,i + 1,_⟩ ⟨m1,by simp only; omega,by simp only; omega,q1⟩ ?_ (by show n < n + 1; omega)
      (first | refine Zo tis ?_ | exact Zc tis)
  ·rw [bfs_end d n i z (by omega)] at m1
   subst m1
   simp only [Option.getD_none,Option.isSome_none]
   (repeat (first | refine Zo (Z4 tis fls @retW2 Zi) ?_ | refine .inl ⟨by kernel_rfl,?_⟩ | exact .inl (by show _ = _; kernel_rfl) | exact Zc (Z4 tis fls @retW2 Zi)))
def iFst (x : Nat × Txt) : AV:=.int .i64 x.1
def sSnd (x : Nat × Txt) : AV:=.str x.2
theorem colK_pre (d : Dfa) (s : Nat) (w : Txt) (z : List (Nat × Txt)) : ∀ k,z <+: colK d s w k z
 | 0 => List.prefix_refl _
 | k + 1 => by
  refine (colK_pre d s w z k).trans ?_
  show _ <+: stepK d s w k (colK d s w k z)
  unfold stepK
  split
  ·exact List.prefix_append _ _
  ·exact List.prefix_refl _
theorem pre_at {z Z : List (Nat × Txt)} (h : z <+: Z) (i : Nat) (hi : i < z.length) : ((Z.map iFst)[i]? = some (.int .i64 z[i].1) ∧ (Z.map iFst).getD i .undef = .int .i64 z[i].1) ∧ ((Z.map sSnd)[i]? = some (.str z[i].2) ∧ (Z.map sSnd).getD i .undef = .str z[i].2) ∧ i < Z.length:=by
 obtain ⟨t,rfl⟩:=h
 have h1 : ((z ++ t).map iFst)[i]? = some (.int .i64 z[i].1):=by
  rw [List.getElem?_map,List.getElem?_append_left hi,List.getElem?_eq_getElem hi]; rfl
 have h2 : ((z ++ t).map sSnd)[i]? = some (.str z[i].2):=by
  rw [List.getElem?_map,List.getElem?_append_left hi,List.getElem?_eq_getElem hi]; rfl
 exact ⟨⟨h1,by rw [List.getD,h1]; rfl⟩,⟨h2,by rw [List.getD,h2]; rfl⟩,by simp; omega⟩
theorem er_fst (z : List (Nat × Txt)) : eraseL (z.map iFst) = z.map iFst:=by
 rw [eraseL_map,List.map_map]; exact List.map_congr_left fun x _ => by simp [iFst,erase]
theorem fits_l8Find (z : List (Nat × Txt)) (hz : z.length ≤ 1048576) (t : Nat) : Fits prog 60 [.sl false 1 (z.map iFst),.int .i64 t] (.int .i64 (firstI (fun x => x.1 == t) z)) []:=by
 have hl : (z.map iFst).length = z.length:=by simp
 refine fits_of_code [4] [] [0,1,4,5,9,17] func60 rfl rfl rfl (by rfl) (by show 2 ≤ 19; decide) (by rfl) (by rfl) (by show 0 ≤ 2; decide) (by rfl) (run_of ?_)
 (first | refine Zo (Z2 tis fls) ?_ | exact Zc (Z2 tis fls))
 refine run_loop (α:=Nat) (fun i => i ≤ z.length ∧ (z.take i).any (fun x => x.1 == t) = false) (fun i => [(0,.sl false 1 (z.map iFst)),(1,.int .i64 t),(5,.int .i64 i)]) (fun i => z.length - i) 0 ⟨Nat.zero_le _,by simp⟩ ?_ ?_
 ·(first | refine Zo (Z2 tis fls) ?_ | exact Zc (Z2 tis fls))
 ·rintro i ⟨h1,h2⟩
  by_cases hi : i < z.length
  ·obtain ⟨⟨g1,g2⟩,_⟩:=pre_at (List.prefix_refl z) i hi
   by_cases he : z[i].1 = t
   ·have hf:=first_at (p:=fun x : Nat × Txt => x.1 == t) hi h2 (by simpa using he)
    rw [he] at g1 g2
    rw [hf]
    (repeat (first | refine Zo (Z6 tis fls @hl @g1 @g2 Zi) ?_ | refine .inl ⟨by kernel_rfl,?_⟩ | exact .inl (by show _ = _; kernel_rfl) | exact Zc (Z6 tis fls @hl @g1 @g2 Zi)))
   ·have he2 : ¬ (z[i].1 : Int) = t:=by omega
    (repeat (first | refine Zo (Z7 tis fls @hl @g1 @g2 @he2 Zi) ?_ | refine .inl ⟨by kernel_rfl,?_⟩ | exact .inl (by show _ = _; kernel_rfl) | exact Zc (Z7 tis fls @hl @g1 @g2 @he2 Zi)))
    refine round_normal (i + 1) ⟨by omega,any_s hi h2 (by simpa using he)⟩ (by (first | refine Zo tis ?_ | exact Zc tis)) (by show z.length - (i + 1) < z.length - i; omega)
  ·obtain rfl : i = z.length:=by omega
   rw [List.take_length] at h2
   rw [first_no h2]
   (repeat (first | refine Zo (Z4 tis fls @hl Zi) ?_ | refine .inl ⟨by kernel_rfl,?_⟩ | exact .inl (by show _ = _; kernel_rfl) | exact Zc (Z4 tis fls @hl Zi)))
noncomputable def shortR (r : Rex) : Txt × Bool × Bool:=if rexB r = true then (match machR r with | none => ([],false,false) | some d => ((shortD d).getD [],(shortD d).isSome,true)) else ([],false,false)
theorem machR_ne {r : Rex} {d : Dfa} (h : machR r = some d) : ∀ p ∈ d.parts,0 < p.length:=by
 rw [(machR_ok h).2]
 exact fun p hp => ((partsL_ok (setsR r)).2 p hp).2
theorem fits_askShort (r : Rex) (hb : bd r ≤ 1048576) : Fits prog 24 [eRex false r] (.tup [.str (shortR r).1,.bool (shortR r).2.1,.bool (shortR r).2.2]) []:=by
 have cR:=fits_rexOk r hb
 rw [eRex_eq] at cR ⊢
 cases hr : rexB r with
 | false =>
  have e : shortR r = ([],false,false):=by unfold shortR; rw [hr]; rfl
  rw [e]; rw [hr] at cR
  refine fits_of_code [2,3,4] [] [0,1,2,3,4,5,6,7,8,11,18] func24 rfl rfl rfl (by rfl) (by show 1 ≤ 26; decide) (by rfl) (by rfl) (by show 0 ≤ 1; decide) (by rfl) (run_of ?_)
  (repeat (first | refine Zo (Z5 tis rx fls @retW3 Zi) ?_ | refine .inl ⟨by kernel_rfl,?_⟩ | exact .inl (by show _ = _; kernel_rfl) | exact Zc (Z5 tis rx fls @retW3 Zi)); try ((first | refine callL cR ?_ | refine callB cR ?_); repeat (first | refine Zo (Z5 tis rx fls @retW3 Zi) ?_ | refine .inl ⟨by kernel_rfl,?_⟩ | exact .inl (by show _ = _; kernel_rfl) | exact Zc (Z5 tis rx fls @retW3 Zi))))
 | true =>
  rw [hr] at cR
  have cM:=fits_machineOf r hr
  rw [eRex_eq] at cM
  cases hM : machR r with
  | none =>
   have e : shortR r = ([],false,false):=by unfold shortR; rw [hr,hM]; rfl
   rw [e]
   rw [hM] at cM
   simp only [Option.getD_none,Option.isSome_none] at cM
   generalize zDfa = D at *
   unfold eDfa at cM
   refine fits_of_code [2,3,4] [] [0,1,2,3,4,5,6,7,8,11,18] func24 rfl rfl rfl (by rfl) (by show 1 ≤ 26; decide) (by rfl) (by rfl) (by show 0 ≤ 1; decide) (by rfl) (run_of ?_)
   (repeat (first | refine Zo (Z8 tis rx fls @dx @retW3 @ex_eq @exGo_tup Zi) ?_ | refine .inl ⟨by kernel_rfl,?_⟩ | exact .inl (by show _ = _; kernel_rfl) | exact Zc (Z8 tis rx fls @dx @retW3 @ex_eq @exGo_tup Zi)); try ((first | refine callL cR ?_ | refine callB cR ?_); repeat (first | refine Zo (Z8 tis rx fls @dx @retW3 @ex_eq @exGo_tup Zi) ?_ | refine .inl ⟨by kernel_rfl,?_⟩ | exact .inl (by show _ = _; kernel_rfl) | exact Zc (Z8 tis rx fls @dx @retW3 @ex_eq @exGo_tup Zi))); try ((first | refine callL cM ?_ | refine callB cM ?_); repeat (first | refine Zo (Z8 tis rx fls @dx @retW3 @ex_eq @exGo_tup Zi) ?_ | refine .inl ⟨by kernel_rfl,?_⟩ | exact .inl (by show _ = _; kernel_rfl) | exact Zc (Z8 tis rx fls @dx @retW3 @ex_eq @exGo_tup Zi))))
  | some d =>
   have e : shortR r = ((shortD d).getD [],(shortD d).isSome,true):=by unfold shortR; rw [hr,hM]; rfl
   have cS:=fits_shortest d (machR_ok hM).1 (machR_ne hM)
   rw [e]
   rw [hM] at cM
   simp only [Option.getD_some,Option.isSome_some] at cM ⊢
   generalize (shortD d).getD [] = X at *
   generalize (shortD d).isSome = Y at *
   unfold eDfa at cM cS
   refine fits_of_code [2,3,4] [] [0,1,2,3,4,5,6,7,8,11,18] func24 rfl rfl rfl (by rfl) (by show 1 ≤ 26; decide) (by rfl) (by rfl) (by show 0 ≤ 1; decide) (by rfl) (run_of ?_)
   (repeat (first | refine Zo (Z8 tis rx fls @dx @retW3 @ex_eq @exGo_tup Zi) ?_ | refine .inl ⟨by kernel_rfl,?_⟩ | exact .inl (by show _ = _; kernel_rfl) | exact Zc (Z8 tis rx fls @dx @retW3 @ex_eq @exGo_tup Zi)); try ((first | refine callL cR ?_ | refine callB cR ?_); repeat (first | refine Zo (Z8 tis rx fls @dx @retW3 @ex_eq @exGo_tup Zi) ?_ | refine .inl ⟨by kernel_rfl,?_⟩ | exact .inl (by show _ = _; kernel_rfl) | exact Zc (Z8 tis rx fls @dx @retW3 @ex_eq @exGo_tup Zi))); try ((first | refine callL cM ?_ | refine callB cM ?_); repeat (first | refine Zo (Z8 tis rx fls @dx @retW3 @ex_eq @exGo_tup Zi) ?_ | refine .inl ⟨by kernel_rfl,?_⟩ | exact .inl (by show _ = _; kernel_rfl) | exact Zc (Z8 tis rx fls @dx @retW3 @ex_eq @exGo_tup Zi))); try ((first | refine callL cS ?_ | refine callB cS ?_); repeat (first | refine Zo (Z8 tis rx fls @dx @retW3 @ex_eq @exGo_tup Zi) ?_ | refine .inl ⟨by kernel_rfl,?_⟩ | exact .inl (by show _ = _; kernel_rfl) | exact Zc (Z8 tis rx fls @dx @retW3 @ex_eq @exGo_tup Zi))))
theorem fits_sAskShort (r : Rex) (hb : bd r ≤ 1048576) : Fits prog 23 [eRex false r] (.tup [.str (shortR r).1,.bool (shortR r).2.1,.bool (shortR r).2.2]) []:=by
 have cR:=fits_sRexOk r hb
 rw [eRex_eq] at cR ⊢
 cases hr : rexB r with
 | false =>
  have e : shortR r = ([],false,false):=by unfold shortR; rw [hr]; rfl
  rw [e]; rw [hr] at cR
  refine fits_of_code [2,3,4] [] [0,1,2,3,4,5,6,7,8,9,10,11,14,21,27,38,47,68] func23 rfl rfl rfl (by rfl) (by show 1 ≤ 90; decide) (by rfl) (by rfl) (by show 0 ≤ 1; decide) (by rfl) (run_of ?_)
  (repeat (first | refine Zo (Z5 tis rx fls @retW3 Zi) ?_ | refine .inl ⟨by kernel_rfl,?_⟩ | exact .inl (by show _ = _; kernel_rfl) | exact Zc (Z5 tis rx fls @retW3 Zi)); try ((first | refine callL cR ?_ | refine callB cR ?_); repeat (first | refine Zo (Z5 tis rx fls @retW3 Zi) ?_ | refine .inl ⟨by kernel_rfl,?_⟩ | exact .inl (by show _ = _; kernel_rfl) | exact Zc (Z5 tis rx fls @retW3 Zi))))
 | true =>
  rw [hr] at cR
  have cM:=fits_l12Dfa r hr
  rw [eRex_eq] at cM
  cases hM : machR r with
  | none =>
   have e : shortR r = ([],false,false):=by unfold shortR; rw [hr,hM]; rfl
   rw [e]
   rw [hM] at cM
   simp only [Option.getD_none,Option.isSome_none] at cM
   generalize zDfa = D at *
   unfold eDfa at cM
   refine fits_of_code [2,3,4] [] [0,1,2,3,4,5,6,7,8,9,10,11,14,21,27,38,47,68] func23 rfl rfl rfl (by rfl) (by show 1 ≤ 90; decide) (by rfl) (by rfl) (by show 0 ≤ 1; decide) (by rfl) (run_of ?_)
   (repeat (first | refine Zo (Z8 tis rx fls @dx @retW3 @ex_eq @exGo_tup Zi) ?_ | refine .inl ⟨by kernel_rfl,?_⟩ | exact .inl (by show _ = _; kernel_rfl) | exact Zc (Z8 tis rx fls @dx @retW3 @ex_eq @exGo_tup Zi)); try ((first | refine callL cR ?_ | refine callB cR ?_); repeat (first | refine Zo (Z8 tis rx fls @dx @retW3 @ex_eq @exGo_tup Zi) ?_ | refine .inl ⟨by kernel_rfl,?_⟩ | exact .inl (by show _ = _; kernel_rfl) | exact Zc (Z8 tis rx fls @dx @retW3 @ex_eq @exGo_tup Zi))); try ((first | refine callL cM ?_ | refine callB cM ?_); repeat (first | refine Zo (Z8 tis rx fls @dx @retW3 @ex_eq @exGo_tup Zi) ?_ | refine .inl ⟨by kernel_rfl,?_⟩ | exact .inl (by show _ = _; kernel_rfl) | exact Zc (Z8 tis rx fls @dx @retW3 @ex_eq @exGo_tup Zi))))
  | some d =>
   have e : shortR r = ((shortD d).getD [],(shortD d).isSome,true):=by unfold shortR; rw [hr,hM]; rfl
   have hd:=(machR_ok hM).1
   have hne:=machR_ne hM
   rw [e]
   rw [hM] at cM
   simp only [Option.getD_some,Option.isSome_some] at cM ⊢
   have hR : shortD d = bfsK d 41 0 [(0,[])]:=rfl
   have hZ0 : ZOk d [(0,[])]:=⟨by simp,by simpa using hd.pos,by simp⟩
   have e0 : ([(0,[])] : List (Nat × Txt)).map iFst = [.int .i64 0]:=rfl
   have k0 : ([(0,[])] : List (Nat × Txt)).map sSnd = [.str []]:=rfl
   have hal : (d.acc.map eInt).length = d.rows.length:=by simpa using hd.a
   have hn:=hd.n
   have hpl:=hd.p
   generalize shortD d = R at *
   unfold eDfa at cM
   refine fits_of_code [2,3,4] [] [0,1,2,3,4,5,6,7,8,9,10,11,14,21,27,38,47,68] func23 rfl rfl rfl (by rfl) (by show 1 ≤ 90; decide) (by rfl) (by rfl) (by show 0 ≤ 1; decide) (by rfl) (run_of ?_)
   (repeat (first | refine Zo (Z7 tis rx fls @dx @ex_eq @exGo_tup Zi) ?_ | refine .inl ⟨by kernel_rfl,?_⟩ | exact .inl (by show _ = _; kernel_rfl) | exact Zc (Z7 tis rx fls @dx @ex_eq @exGo_tup Zi)); try ((first | refine callL cR ?_ | refine callB cR ?_); repeat (first | refine Zo (Z7 tis rx fls @dx @ex_eq @exGo_tup Zi) ?_ | refine .inl ⟨by kernel_rfl,?_⟩ | exact .inl (by show _ = _; kernel_rfl) | exact Zc (Z7 tis rx fls @dx @ex_eq @exGo_tup Zi))); try ((first | refine callL cM ?_ | refine callB cM ?_); repeat (first | refine Zo (Z7 tis rx fls @dx @ex_eq @exGo_tup Zi) ?_ | refine .inl ⟨by kernel_rfl,?_⟩ | exact .inl (by show _ = _; kernel_rfl) | exact Zc (Z7 tis rx fls @dx @ex_eq @exGo_tup Zi))))
   refine run_loop (α:=SG) (SI d R) (fun g => [(5,.box (.agg [.sl false 1 (d.parts.map (eSpans false)),.sl false 1 (d.rows.map (eInts false)),.sl false 1 (d.acc.map eInt)])),(7,.sl true 1 (g.z.map iFst)),(8,.sl true 1 (g.z.map sSnd)),(9,.int .i64 g.i)]) (fun g => g.n) ⟨41,0,[(0,[])]⟩ ⟨hR,rfl,Nat.zero_le _,hZ0⟩ ?_ ?_
   ·simp only [e0,k0]
    (first | refine Zo (Z2 tis fls) ?_ | exact Zc (Z2 tis fls))
   ·rintro ⟨n,i,z⟩ ⟨m1,m2,m3,m4⟩
    simp only at m1 m2 m3 m4
    have hzl:=m4.len hd
    obtain ⟨n,rfl⟩ : ∃ k,n = k + 1:=⟨n - 1,by omega⟩
    have hml : (z.map iFst).length = z.length:=by simp
    have hml2 : (z.map sSnd).length = z.length:=by simp
    by_cases hi : i < z.length
    ·obtain ⟨⟨x1,x2⟩,⟨x3,x4⟩,_⟩:=pre_at (List.prefix_refl z) i hi
     have hst:=m4.lt _ (List.getElem_mem hi)
     have htx:=m4.tx _ (List.getElem_mem hi)
     have hpa:=fun Z (h : z <+: Z) => pre_at h i hi
     rw [bfs_at d n i z hi] at m1
     generalize z[i].1 = s at *
     generalize z[i].2 = w at *
     obtain ⟨a1,a2⟩:=int_at d.acc s (by rw [hd.a]; exact hst)
     have eac : acV d s = d.acc.getD s 0:=rfl
     rw [eac] at m1
     generalize d.acc.getD s 0 = ac at *
     by_cases hac : 0 ≤ ac
     ·rw [if_pos hac] at m1
      subst m1
      simp only [Option.getD_some,Option.isSome_some]
      (repeat (first | refine Zo (Z14 tis fls @x1 @x2 @x3 @x4 @a1 @a2 @hal @hml @hml2 @hac @retW3 Zi) ?_ | refine .inl ⟨by kernel_rfl,?_⟩ | exact .inl (by show _ = _; kernel_rfl) | exact Zc (Z14 tis fls @x1 @x2 @x3 @x4 @a1 @a2 @hal @hml @hml2 @hac @retW3 Zi)))
     ·rw [if_neg hac] at m1
      (repeat (first | refine Zo (Z10 tis fls @x1 @x2 @a1 @a2 @hal @hml @hac Zi) ?_ | refine .inl ⟨by kernel_rfl,?_⟩ | exact .inl (by show _ = _; kernel_rfl) | exact Zc (Z10 tis fls @x1 @x2 @a1 @a2 @hal @hml @hac Zi)))
      refine run_loop (α:=Nat) (fun k => k ≤ d.parts.length) (fun k => [(5,.box (.agg [.sl false 1 (d.parts.map (eSpans false)),.sl false 1 (d.rows.map (eInts false)),.sl false 1 (d.acc.map eInt)])),(7,.sl true 1 ((colK d s w k z).map iFst)),(8,.sl true 1 ((colK d s w k z).map sSnd)),(9,.int .i64 i),(10,.int .i64 k)]) (fun k => d.parts.length - k) 0 (Nat.zero_le _) ?_ ?_
      ·simp only [colK]
       (first | refine Zo (Z2 tis fls) ?_ | exact Zc (Z2 tis fls))
      ·intro k hk'
       obtain ⟨q1,q2⟩:=colK_ok hd hst m4 htx k hk'
       have q3:=q1.len hd
       by_cases hk : k < d.parts.length
       ·obtain ⟨⟨r1,r2⟩,⟨r3,r4⟩,⟨r5,r6⟩,r7,r8,r9⟩:=dat_at hd hst hk
        have hkS : colK d s w (k + 1) z = stepK d s w k (colK d s w k z):=rfl
        have ep : d.parts.getD k [] = d.parts[k]:=by simp [List.getD,hk]
        have hpm : d.parts.getD k [] ∈ d.parts:=by rw [ep]; exact List.getElem_mem hk
        obtain ⟨c,c1,c2,c3,c4⟩:=first_byte (hd.pc _ hpm) (hne _ hpm)
        have cF:=fits_sSetFirst (d.parts.getD k []) (by omega)
        rw [c2] at cF
        have hr7 : ((d.rows.getD s []).map eInt).length = d.parts.length:=by simpa using r7
        obtain ⟨⟨y1,y2⟩,⟨y3,y4⟩,y5⟩:=hpa _ (colK_pre d s w z k)
        have cL:=fun t => fits_l8Find (colK d s w k z) (by omega) t
        unfold stepK at hkS
        generalize byteP (d.parts.getD k []) = bt at *
        generalize glV d s k = t at *
        generalize d.parts.getD k [] = p at *
        generalize d.rows.getD s [] = row at *
        generalize colK d s w k z = Z at *
        have hZl : (Z.map iFst).length = Z.length:=by simp
        have hZl2 : (Z.map sSnd).length = Z.length:=by simp
        have hEr:=er_fst Z
        by_cases ht : 0 ≤ t
        ·obtain ⟨u,rfl⟩ : ∃ u : Nat,t = u:=⟨t.toNat,by omega⟩
         rw [Int.toNat_natCast] at hkS
         have cLu:=cL u
         cases hany : Z.any (fun x => x.1 == u) with
         | true =>
          rw [hany,if_neg (by simp)] at hkS
          have hf : ¬ firstI (fun x : Nat × Txt => x.1 == u) Z < 0:=by
           obtain ⟨y,hy,e⟩:=List.any_eq_true.1 hany
           unfold firstI
           split
           ·omega
           ·rename_i h
            rw [List.findIdx?_eq_none_iff] at h
            have:=h y hy
            rw [e] at this; cases this
          generalize firstI (fun x : Nat × Txt => x.1 == u) Z = fi at *
          (repeat (first | refine Zo (Z15 tis fls @dx @r1 @r2 @r3 @r4 @hr7 @ht @y1 @y2 @hZl @hf @hEr Zi) ?_ | refine .inl ⟨by kernel_rfl,?_⟩ | exact .inl (by show _ = _; kernel_rfl) | exact Zc (Z15 tis fls @dx @r1 @r2 @r3 @r4 @hr7 @ht @y1 @y2 @hZl @hf @hEr Zi)); try ((first | refine callL cLu ?_ | refine callB cLu ?_); repeat (first | refine Zo (Z15 tis fls @dx @r1 @r2 @r3 @r4 @hr7 @ht @y1 @y2 @hZl @hf @hEr Zi) ?_ | refine .inl ⟨by kernel_rfl,?_⟩ | exact .inl (by show _ = _; kernel_rfl) | exact Zc (Z15 tis fls @dx @r1 @r2 @r3 @r4 @hr7 @ht @y1 @y2 @hZl @hf @hEr Zi))))
          refine round_normal (k + 1) (by omega) ?_ (by show d.parts.length - (k + 1) < d.parts.length - k; omega)
          rw [hkS]
          (first | refine Zo tis ?_ | exact Zc tis)
         | false =>
          rw [hany,if_pos ⟨ht,rfl⟩] at hkS
          rw [first_no hany] at cLu
          have eA : (Z ++ [(u,w ++ [bt])]).map iFst = Z.map iFst ++ [.int .i64 u]:=by simp [iFst]
          have eK : (Z ++ [(u,w ++ [bt])]).map sSnd = Z.map sSnd ++ [.str (w ++ [bt])]:=by simp [sSnd]
          have rr:=And.intro r1 (And.intro r2 (And.intro r3 (And.intro r4 (And.intro r5 r6))))
          have yy:=And.intro y1 (And.intro y2 (And.intro y3 y4))
          (repeat (first | refine Zo (Z9 tis fls @dx @rr @hr7 @yy @hZl @hEr Zi) ?_ | refine .inl ⟨by kernel_rfl,?_⟩ | exact .inl (by show _ = _; kernel_rfl) | exact Zc (Z9 tis fls @dx @rr @hr7 @yy @hZl @hEr Zi)); try ((first | refine callL cLu ?_ | refine callB cLu ?_); repeat (first | refine Zo (Z9 tis fls @dx @rr @hr7 @yy @hZl @hEr Zi) ?_ | refine .inl ⟨by kernel_rfl,?_⟩ | exact .inl (by show _ = _; kernel_rfl) | exact Zc (Z9 tis fls @dx @rr @hr7 @yy @hZl @hEr Zi))))
          refine run_late 16 [[],[]] (by kernel_rfl) ?_
          (repeat (first | refine Zo (Z11 tis fls @dx @rr @hr7 @yy @hZl @hZl2 @hEr @c4 Zi) ?_ | refine .inl ⟨by kernel_rfl,?_⟩ | exact .inl (by show _ = _; kernel_rfl) | exact Zc (Z11 tis fls @dx @rr @hr7 @yy @hZl @hZl2 @hEr @c4 Zi)); try ((first | refine callL cF ?_ | refine callB cF ?_); repeat (first | refine Zo (Z11 tis fls @dx @rr @hr7 @yy @hZl @hZl2 @hEr @c4 Zi) ?_ | refine .inl ⟨by kernel_rfl,?_⟩ | exact .inl (by show _ = _; kernel_rfl) | exact Zc (Z11 tis fls @dx @rr @hr7 @yy @hZl @hZl2 @hEr @c4 Zi))))
          refine round_normal (k + 1) (by omega) ?_ (by show d.parts.length - (k + 1) < d.parts.length - k; omega)
          rw [hkS,eA,eK]
          (first | refine Zo tis ?_ | exact Zc tis)
        ·rw [if_neg (fun h => ht h.1)] at hkS
         (repeat (first | refine Zo (Z13 tis fls @dx @r1 @r2 @r3 @r4 @hr7 @ht @y1 @y2 @hZl Zi) ?_ | refine .inl ⟨by kernel_rfl,?_⟩ | exact .inl (by show _ = _; kernel_rfl) | exact Zc (Z13 tis fls @dx @r1 @r2 @r3 @r4 @hr7 @ht @y1 @y2 @hZl Zi)))
         refine round_normal (k + 1) (by omega) ?_ (by show d.parts.length - (k + 1) < d.parts.length - k; omega)
         rw [hkS]
         (first | refine Zo tis ?_ | exact Zc tis)
       ·obtain rfl : k = d.parts.length:=by omega
        (repeat (first | refine Zo (Z3 tis fls Zi) ?_ | refine .inl ⟨by kernel_rfl,?_⟩ | exact .inl (by show _ = _; kernel_rfl) | exact Zc (Z3 tis fls Zi)))
        refine round_normal ⟨n,i + 1,_⟩ ⟨m1,by simp only; omega,by simp only; omega,q1⟩ ?_ (by show n < n + 1; omega)
        (first | refine Zo tis ?_ | exact Zc tis)
    ·rw [bfs_end d n i z (by omega)] at m1
     subst m1
     simp only [Option.getD_none,Option.isSome_none]
     (repeat (first | refine Zo (Z5 tis fls @hml @retW3 Zi) ?_ | refine .inl ⟨by kernel_rfl,?_⟩ | exact .inl (by show _ = _; kernel_rfl) | exact Zc (Z5 tis fls @hml @retW3 Zi)))
section
variable {h h' : Array Obj} {S : Nat → Prop}
end

theorem szR_ok2 {n : Int} {b : Nat} (h : ¬ (if n - b < 0 then (-1 : Int) else n - b) < 0) : (b : Int) ≤ n:=by
 split at h <;> omega
theorem law_AskShort (r : Rex) (hl : Lens r) : Fits prog 5 [eRex false r] (.bool true) []:=by
 have cZ:=fits_szRex r 1048576 hl (by omega) (by omega)
 by_cases h : (if (1048576 : Int) - bd r < 0 then (-1 : Int) else 1048576 - bd r) < 0
 ·rw [eRex_eq] at *
  refine fits_of_code [2] [] [0,1,2,3,4,5,6,7,8,9,10,15,43,48] func5 rfl rfl rfl (by rfl) (by show 1 ≤ 49; decide) (by rfl) (by rfl) (by show 0 ≤ 1; decide) (by rfl) (run_of ?_)
  (repeat (first | refine Zo (Z3 tis @h Zi) ?_ | refine .inl ⟨by kernel_rfl,?_⟩ | exact .inl (by show _ = _; kernel_rfl) | exact Zc (Z3 tis @h Zi)); try ((first | refine callL cZ ?_ | refine callB cZ ?_); repeat (first | refine Zo (Z3 tis @h Zi) ?_ | refine .inl ⟨by kernel_rfl,?_⟩ | exact .inl (by show _ = _; kernel_rfl) | exact Zc (Z3 tis @h Zi))))
 have hb:=szR_ok2 h
 have hb : bd r ≤ 1048576:=by omega
 have hbb:=bd_eq r
 have hc1:=ctL_le r.kids
 have cI:=fits_toRex r hb
 have cO:=fits_sAskShort r hb
 have cP:=fits_askShort r hb
 have cL:=fits_eqRex r hb
 generalize (shortR r).1 = g at *
 generalize (shortR r).2.1 = B at *
 generalize (shortR r).2.2 = C at *
 simp only [eRex_eq] at *
 refine fits_of_code [2] [] [0,1,2,3,4,5,6,7,8,9,10,15,43,48] func5 rfl rfl rfl (by rfl) (by show 1 ≤ 49; decide) (by rfl) (by rfl) (by show 0 ≤ 1; decide) (by rfl) (run_of ?_)
 (repeat (first | refine Zo (Z7 tis @h fls rx @ex_eq @exGo_tup Zi) ?_ | refine .inl ⟨by kernel_rfl,?_⟩ | exact .inl (by show _ = _; kernel_rfl) | exact Zc (Z7 tis @h fls rx @ex_eq @exGo_tup Zi)); try ((first | refine callL cZ ?_ | refine callB cZ ?_); repeat (first | refine Zo (Z7 tis @h fls rx @ex_eq @exGo_tup Zi) ?_ | refine .inl ⟨by kernel_rfl,?_⟩ | exact .inl (by show _ = _; kernel_rfl) | exact Zc (Z7 tis @h fls rx @ex_eq @exGo_tup Zi))); try ((first | refine callL cI ?_ | refine callB cI ?_); repeat (first | refine Zo (Z7 tis @h fls rx @ex_eq @exGo_tup Zi) ?_ | refine .inl ⟨by kernel_rfl,?_⟩ | exact .inl (by show _ = _; kernel_rfl) | exact Zc (Z7 tis @h fls rx @ex_eq @exGo_tup Zi))); try ((first | refine callL cO ?_ | refine callB cO ?_); repeat (first | refine Zo (Z7 tis @h fls rx @ex_eq @exGo_tup Zi) ?_ | refine .inl ⟨by kernel_rfl,?_⟩ | exact .inl (by show _ = _; kernel_rfl) | exact Zc (Z7 tis @h fls rx @ex_eq @exGo_tup Zi))); try ((first | refine callL cI ?_ | refine callB cI ?_); repeat (first | refine Zo (Z7 tis @h fls rx @ex_eq @exGo_tup Zi) ?_ | refine .inl ⟨by kernel_rfl,?_⟩ | exact .inl (by show _ = _; kernel_rfl) | exact Zc (Z7 tis @h fls rx @ex_eq @exGo_tup Zi))); try ((first | refine callL cP ?_ | refine callB cP ?_); repeat (first | refine Zo (Z7 tis @h fls rx @ex_eq @exGo_tup Zi) ?_ | refine .inl ⟨by kernel_rfl,?_⟩ | exact .inl (by show _ = _; kernel_rfl) | exact Zc (Z7 tis @h fls rx @ex_eq @exGo_tup Zi))); try ((first | refine callL cI ?_ | refine callB cI ?_); repeat (first | refine Zo (Z7 tis @h fls rx @ex_eq @exGo_tup Zi) ?_ | refine .inl ⟨by kernel_rfl,?_⟩ | exact .inl (by show _ = _; kernel_rfl) | exact Zc (Z7 tis @h fls rx @ex_eq @exGo_tup Zi))); try ((first | refine callL cL ?_ | refine callB cL ?_); repeat (first | refine Zo (Z7 tis @h fls rx @ex_eq @exGo_tup Zi) ?_ | refine .inl ⟨by kernel_rfl,?_⟩ | exact .inl (by show _ = _; kernel_rfl) | exact Zc (Z7 tis @h fls rx @ex_eq @exGo_tup Zi))))
theorem own : ownKnob prog.godebug = none:=by kernel_rfl
theorem laidOut : laidOutB prog = true:=by kernel_rfl
theorem typ_int {n : Nat} {x : AV} (h : Typed prog n 3 x) : ∃ v,x = .int .i64 v ∧ -9223372036854775808 ≤ v ∧ v ≤ 9223372036854775807:=by
 cases n with
 | zero => exact h.elim
 | succ n =>
  simp only [Typed,underlying3] at h
  obtain ⟨v,rfl,hw⟩:=h
  refine ⟨v,rfl,?_⟩
  simp [Lit.wf,IntKind.min,IntKind.max,IntKind.bits,IntKind.signed] at hw
  omega
theorem all_map {α : Type} (f : α → AV) : ∀ xs : List AV,(∀ y ∈ xs,∃ i,y = f i) → ∃ is : List α,xs = is.map f
 | [],_ => ⟨[],rfl⟩
 | y :: r,h => by
  obtain ⟨i,rfl⟩:=h y (List.mem_cons_self ..)
  obtain ⟨is,rfl⟩:=all_map f r (fun z hz => h z (List.mem_cons_of_mem _ hz))
  exact ⟨i :: is,rfl⟩
theorem co_span : prog.cellsOf 84 = 2:=by kernel_rfl
theorem co_rex : prog.cellsOf 25 = 3:=by kernel_rfl
theorem typ_span {n : Nat} {x : AV} (h : Typed prog n 84 x) : ∃ i,x = eSpan i:=by
 cases n with
 | zero => exact h.elim
 | succ n =>
  simp only [Typed,underlying84] at h
  obtain ⟨ys,rfl,hl,hf⟩:=h
  match ys,hl,hf with
  | [a,b],_,hf =>
   obtain ⟨a',rfl,_⟩:=typ_int (hf 0 _ a rfl rfl)
   obtain ⟨b',rfl,_⟩:=typ_int (hf 1 _ b rfl rfl)
   exact ⟨⟨a',b'⟩,rfl⟩
theorem typ_spans {n : Nat} {x : AV} (h : Typed prog n 22 x) : ∃ p : List Span,x = .sl false 2 (p.map eSpan) ∧ p.length ≤ 9223372036854775807:=by
 cases n with
 | zero => exact h.elim
 | succ n =>
  simp only [Typed,underlying22,co_span] at h
  obtain ⟨xs,rfl,hl,hf⟩:=h
  obtain ⟨p,rfl⟩:=all_map eSpan xs (fun y hy => typ_span (hf y hy))
  exact ⟨p,rfl,by simpa [maxLen] using hl⟩
theorem all_mapP {α : Type} (f : α → AV) (Q : α → Prop) : ∀ xs : List AV,(∀ y ∈ xs,∃ i,y = f i ∧ Q i) → ∃ is : List α,xs = is.map f ∧ ∀ i ∈ is,Q i
 | [],_ => ⟨[],rfl,by simp⟩
 | y :: r,h => by
  obtain ⟨i,rfl,hi⟩:=h y (List.mem_cons_self ..)
  obtain ⟨is,rfl,hr⟩:=all_mapP f Q r (fun z hz => h z (List.mem_cons_of_mem _ hz))
  exact ⟨i :: is,rfl,fun j hj => (List.mem_cons.1 hj).elim (fun e => e ▸ hi) (hr j)⟩
theorem typ_rex : ∀ {n : Nat} {x : AV},Typed prog n 25 x → ∃ r,x = eRex false r ∧ Lens r
 | 0,x,h => h.elim
 | n + 1,x,h => by
  simp only [Typed,underlying25] at h
  obtain ⟨ys,rfl,hl,hf⟩:=h
  match ys,hl,hf with
  | [a,b,c],_,hf =>
   obtain ⟨k,rfl,_⟩:=typ_int (hf 0 _ a rfl rfl)
   obtain ⟨s,rfl,hs⟩:=typ_spans (hf 1 _ b rfl rfl)
   have hc:=hf 2 _ c rfl rfl
   cases n with
   | zero => exact hc.elim
   | succ n =>
    simp only [Typed,underlying23,co_rex] at hc
    obtain ⟨xs,rfl,hl2,hf2⟩:=hc
    obtain ⟨p,rfl,hp⟩:=all_mapP (eRex false) Lens xs (fun y hy => typ_rex (hf2 y hy))
    have hl3 : p.length ≤ 9223372036854775807:=by simpa [maxLen] using hl2
    refine ⟨.mk k s p,by rw [eRex,show prog.cellsOf 25 = 3 from co_rex],.mk _ hs hl3 hp⟩
end Go.Proofs.YtpffgegfjpdncaaGreatDoor.U
