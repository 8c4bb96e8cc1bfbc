/-
  Lemmas towards the law, 13: Same, OrdX, Fits.
-/
import Derived.Test.YtdkamgafpphdjaaEAJ
import Derived.Test.YtdkamgafpphdjaaEAK
import Derived.BigQuiet
import Derived.Outline
import Derived.StillTailTactics
import Derived.Test.YtdkamgafpphdjaaProg
namespace Go.Proofs.Ytdkamgafpphdjaa
open Go.RowKit
set_option linter.unusedVariables false
def SameTermC (t : Tr) : Prop := ∀ (w : World) (t' : Tr) (v v' : Value), Lies w t v → Lies w t' v' →
  Calls Try.prog 7 #[v, v'] w fun e w' => e = .returned (.bool (eqTr t t')) ∧ Ext w w'
set_option maxHeartbeats 400000 in
theorem equalTerm (ks ks' : List Tr) (hk : ∀ t ∈ ks, SameTermC t) (w : World) (A A' : Option Addr) (cap cap' : Nat) (h : LiesK w A ks) (hl : ks.length ≤ cap) (hc : cap ≤ maxLen) (h' : LiesK w A' ks') (hl' : ks'.length ≤ cap') (hc' : cap' ≤ maxLen) :
    Calls Try.prog 18 #[.slice A ks.length cap, .slice A' ks'.length cap', .func (.func 7) #[] #[]] w fun e w' => e = .returned (.bool (eqTs ks ks')) ∧ Ext w w' := by
  unfold maxLen at hc hc'
  by_cases h0 : ks.length = ks'.length
  · have hd : ((ks.length : Int) != (ks'.length : Int)) = false := by rw [h0]; simp
    have H0 := Lib.hid h0
    clear h0
    go_enter Try.func18, Try.ntmps18
    go_wp2_with fail
    go_loopw [17] (fun i wr => ∃ j : Nat, j ≤ ks.length ∧ i = .int .i64 j ∧ eqTs ks ks' = eqTs (ks.drop j) (ks'.drop j) ∧ Ext w wr) (fun i _ => ks.length - (intOf i).toNat)
    case atStart => exact ⟨0, Nat.zero_le _, rfl, rfl, Ext.refl _⟩
    case round =>
      obtain ⟨j, hj, rfl, hsz, hb⟩ := hrel
      have HS := Lib.hid hsz
      clear hsz
      by_cases hlt : j < ks.length
      · have hlt' : j < ks'.length := by rw [← H0.out]; exact hlt
        obtain ⟨b, o, k, n, B, c, kids, rfl, HK, c0, c1, c2, hkl, hkc, hK, hin, hmem⟩ := h.get hb hlt
        obtain ⟨b', o', k', n', B', c', kids', rfl, HK', c0', c1', c2', hkl', hkc', hK', hin', hmem'⟩ := h'.get hb hlt'
        have hlb := World.block_lt_of_cell? _ _ c0'
        have hstep : eqTs (ks.drop j) (ks'.drop j) = (eqTr (.mk k n kids) (.mk k' n' kids') && eqTs (ks.drop (j + 1)) (ks'.drop (j + 1))) := by
          rw [List.drop_eq_getElem_cons hlt, List.drop_eq_getElem_cons hlt', HK.out, HK'.out]
          conv => lhs; unfold eqTs
        have HST := Lib.hid hstep
        clear hstep
        go_wp2_with fail
        refine (hk _ hmem _ (.mk k' n' kids') _ _ (hin.ext (((Ext.refl wr).alloc _).alloc _)) (hin'.ext (((Ext.refl wr).alloc _).alloc _))).mono ?_
        rintro e w1 ⟨rfl, hb1⟩
        have hb2 := hb.trans hb1.pre.pre
        generalize eqTr (.mk k n kids) (.mk k' n' kids') = q at HST
        cases q with
        | false =>
          go_wp2_with fail
          go_ret
          exact ⟨by rw [HS.out, HST.out]; rfl, hb2⟩
        | true =>
          go_wp2_with fail
          go_roundw
          case rel => exact ⟨j + 1, by omega, by go_num, by rw [HS.out, HST.out]; rfl, hb2⟩
          case measure => simp [intOf]; omega
      · go_wp2_with fail
        go_ret
        exact ⟨by rw [HS.out, List.drop_of_length_le (by omega), List.drop_of_length_le (by rw [← H0.out]; omega)]; rfl, hb⟩
  · have hd : ((ks.length : Int) != (ks'.length : Int)) = true := by rw [bne_iff_ne]; omega
    have e : eqTs ks ks' = false := by
      rw [Bool.eq_false_iff]
      intro he
      exact h0 (eqTs_len he)
    have E := Lib.hid e
    clear e
    go_enter Try.func18, Try.ntmps18
    go_wp2_with fail
    go_ret
    exact ⟨by rw [E.out]; rfl, Ext.refl _⟩
theorem sameTerm_any : ∀ t : Tr, SameTermC t := Tr.ind fun k n ks hk => by
  intro w t' v v' h h'
  obtain ⟨A, cap, rfl, hl, hc, hK⟩ := Lies.mk_iff.1 h
  obtain ⟨k', n', ks'⟩ := t'
  obtain ⟨A', cap', rfl, hl', hc', hK'⟩ := Lies.mk_iff.1 h'
  clear h h'
  have HW := fun W (hW : Ext w W) => equalTerm ks ks' hk W A A' cap cap' (hK.ext hW) hl hc (hK'.ext hW) hl' hc'
  have HS := Lib.hid HW
  clear HW
  by_cases h1 : k = k'
  · by_cases h2 : n = n'
    · have e : eqTr (.mk k n ks) (.mk k' n' ks') = eqTs ks ks' := by simp [eqTr, h1, h2]
      have E := Lib.hid e
      have d1 : (k == k') = true := by simp [h1]
      have d2 : (n == n') = true := by simp [h2]
      clear e h1 h2
      go_enter Try.func7, Try.ntmps7
      go_wp2_with fail
      refine (HS.out _ (((Ext.refl w).alloc _).alloc _)).mono ?_
      rintro e w1 ⟨rfl, hE⟩
      go_wp2_with fail
      go_ret
      exact ⟨by rw [E.out]; rfl, hE.pre.pre⟩
    · have e : eqTr (.mk k n ks) (.mk k' n' ks') = false := by simp [eqTr, h2]
      have E := Lib.hid e
      have d1 : (k == k') = true := by simp [h1]
      have d2 : (n == n') = false := by simpa using h2
      clear e h1 h2
      go_enter Try.func7, Try.ntmps7
      go_wp2_with fail
      go_ret
      exact ⟨by rw [E.out]; rfl, ((Ext.refl w).alloc _).alloc _⟩
  · have e : eqTr (.mk k n ks) (.mk k' n' ks') = false := by simp [eqTr, h1]
    have E := Lib.hid e
    have d1 : (k == k') = false := by simpa using h1
    clear e h1
    go_enter Try.func7, Try.ntmps7
    go_wp2_with fail
    go_ret
    exact ⟨by rw [E.out]; rfl, ((Ext.refl w).alloc _).alloc _⟩
end Go.Proofs.Ytdkamgafpphdjaa
namespace Go.Proofs.Ytdkamgafpphdjaa.OrdX
open Go Go.Proofs.Ytdkamgafpphdjaa.Ord Go.Proofs.Ytdkamgafpphdjaa.OrdG
set_option linter.unusedVariables false

/-- As okO, but the tail need not wait for number x. -/
def okX (ops : Array Oper) (l : Array Bool) (m N x : Nat) : Bool :=
  ((List.range m).all fun i => isOn l i || match dstOf ops i with
    | some d => decide (d < N) && (List.range i).all fun j => isOn l j || dstOf ops j != some d
    | none => false) &&
  (List.range (ops.size - m)).all (fun i => isOn l (m + i) || (List.range m).all fun j => j == x || isOn l j || waits ops ops.size (m + i) j) &&
  (List.range ops.size).all (fun i => (edges ops i).all fun k => decide (k < i) && (!isOn l i || isOn l k)) && decide (m ≤ ops.size) && decide (l.size = ops.size)
/-- What okO says of the first m. -/
def okD (ops : Array Oper) (l : Array Bool) (m N : Nat) : Bool :=
  (List.range m).all fun i => isOn l i || match dstOf ops i with
    | some d => decide (d < N) && (List.range i).all fun j => isOn l j || dstOf ops j != some d
    | none => false
section
variable {Γ : Type} {P : Program} {ops : Array Oper} {Q : Exit → Act → World → Prop} {l0 : Array Bool} {m : Nat} {E : World × Γ → World × Γ → Prop} {G : Nat → Value → World × Γ → Prop} {a0 : Act} {w0 : World × Γ}
theorem ok_dst {N : Nat} (h : okD ops l0 m N = true) {i : Nat} (hi : i < m) (hl : isOn l0 i = false) : ∃ d, dstOf ops i = some d ∧ d < N ∧ ∀ j, j < i → isOn l0 j = false → dstOf ops j ≠ some d := by
  unfold okD at h
  simp only [List.all_eq_true, List.mem_range] at h
  have := h i hi
  rw [hl, Bool.false_or] at this
  split at this
  · rename_i d hd
    simp only [Bool.and_eq_true, decide_eq_true_eq, List.all_eq_true, List.mem_range, bne_iff_ne, Bool.or_eq_true] at this
    refine ⟨d, hd, this.1, fun j hj hjl => (this.2 j hj).resolve_left (by rw [hjl]; decide)⟩
  · cases this
theorem ok_ne {N : Nat} (h : okD ops l0 m N = true) {i j : Nat} (hi : i < m) (hj : j < m) (li : isOn l0 i = false) (lj : isOn l0 j = false) (hne : i ≠ j) {d : Tmp} (hd : dstOf ops i = some d) : dstOf ops j ≠ some d := by
  rcases Nat.lt_or_gt_of_ne hne with hlt | hlt
  · intro e
    obtain ⟨d', h1, -, h2⟩ := ok_dst h hj lj
    rw [e] at h1
    simp only [Option.some.injEq] at h1
    subst h1
    exact h2 i hlt li hd
  · obtain ⟨d', h1, -, h2⟩ := ok_dst h hi li
    rw [hd] at h1
    simp only [Option.some.injEq] at h1
    subst h1
    exact h2 j hlt lj
theorem putN_set {N : Nat} (h : okD ops l0 m N = true) {v : Nat → Value} {s : Nat → Bool} (a : Act) (hsl : ∀ j, s j = true → isOn l0 j = false) {i : Nat} (hs : s i = false) (hi0 : isOn l0 i = false) (u : Value) : ∀ {n : Nat}, i < n → n ≤ m →
    putN ops (fun j => if j = i then u else v j) (fun j => if j = i then true else s j) a n = (putN ops v s a n).put (dstOf ops i) u
  | 0, hi, _ => by omega
  | n + 1, hi, hn => by
    by_cases e : n = i
    · subst e
      have e1 : (if n = n then true else s n) = true := if_pos rfl
      have e2 : ¬ s n = true := by rw [hs]; decide
      have e3 : (if n = n then u else v n) = u := if_pos rfl
      unfold putN
      rw [if_pos e1, if_neg e2, e3]
      rw [putN_congr a (v := fun j => if j = n then u else v j) (s := fun j => if j = n then true else s j) (v' := v) (s' := s) (fun j hj => ⟨by rw [if_neg (by omega)], fun _ => by rw [if_neg (by omega)]⟩)]
    · have ih := putN_set h (v := v) a hsl hs hi0 u (n := n) (by omega) (by omega)
      unfold putN
      rw [if_neg e, if_neg e, ih]
      split
      · rename_i hsn
        rw [Act.put_comm]
        intro d hd
        exact ok_ne h (by omega) (by omega) hi0 (hsl n hsn) (Ne.symm e) hd
      · rfl
theorem putN_hit {N : Nat} (h : okD ops l0 m N = true) (v : Nat → Value) (s : Nat → Bool) (hsl : ∀ j, s j = true → isOn l0 j = false) (a : Act) (hN : a.tmps.size = N) {k : Nat} {d : Tmp} (hd : dstOf ops k = some d) (hk : s k = true) : ∀ {n : Nat}, k < n → n ≤ m → (putN ops v s a n).eval (.tmp d) = v k
  | 0, hi, _ => by omega
  | n + 1, hi, hn => by
    by_cases e : n = k
    · subst e
      unfold putN
      rw [if_pos hk, hd, eval_put, if_pos rfl, if_pos]
      rw [putN_size, hN]
      obtain ⟨d', h1, h2, -⟩ := ok_dst h (i := n) (by omega) (hsl _ hk)
      rw [hd] at h1
      simp only [Option.some.injEq] at h1
      subst h1
      exact h2
    · have ih := putN_hit h v s hsl a hN hd hk (n := n) (by omega) (by omega)
      unfold putN
      split
      · rename_i hsn
        cases hd' : dstOf ops n with
        | none => exact ih
        | some d' =>
          rw [eval_put, if_neg, ih]
          intro e'
          subst e'
          exact ok_ne h (by omega) (by omega) (hsl _ hk) (hsl _ hsn) (Ne.symm e) hd hd'
      · exact ih
/-- The rest of the region from a state in which some operations are done. -/
theorem wpAnyH_orderX {S : World → Prop} {N fuel fT x : Nat} {lT lX : Array Bool} {ox : Oper} (hok1 : okX ops l0 m N x = true) (hN : a0.tmps.size = N) (hf : fuel = opnO l0 ops.size) (hlT : doneO l0 m = lT) (hfT : opnO lT ops.size = fT)
    (hox : ops[x]? = some ox) (hxm : x < m) (hxl : isOn l0 x = false) (hlX : lT.setIfInBounds x false = lX) (hns : Region.noSelect ops = true) (hfr : Region.free .any ops lX x = true) (hrd : (Region.ready .any ops lX).contains x = true)
    (hQ : ∀ v c a w, Q (.panic c) (a.put ox.dst v) w → Q (.panic c) a w)
    (hX : ∀ a w z, E w0 (w, z) → (∀ t, isDst ops l0 m t = false → a.eval (.tmp t) = a0.eval (.tmp t)) → (∀ j d, depO ops l0 x j d = true → G j (a.eval (.tmp d)) (w, z)) → ∃ u, YieldsIf P ops S ox u a ∧ G x u (w, z))
    (hE0 : E w0 w0) (hE : ∀ u v w, E u v → E v w → E u w) (hG : ∀ i v w w', G i v w → E w w' → G i v w') (hS : ∀ w z, E w0 (w, z) → S w)
    (steps : StepsO P ops Q l0 m E G a0 w0 0 (ops.toList.take m))
    (fin : ∀ (v : Nat → Value) w z, E w0 (w, z) → (∀ j, j < m → isOn l0 j = false → G j (v j) (w, z)) → wpAnyH P .any ops Q S fT lT (putN ops v (fun j => !isOn l0 j) a0 m) w) :
    wpAnyH P .any ops Q S fuel l0 a0 w0.1 := by
  subst hlX
  subst hlT
  subst hfT
  have hok2 := hok1
  unfold okX at hok2
  simp only [Bool.and_eq_true, decide_eq_true_eq, List.all_eq_true, List.mem_range, Bool.or_eq_true, Bool.not_eq_true'] at hok2
  obtain ⟨⟨⟨⟨-, hupb⟩, hlowb⟩, hm⟩, hlsz⟩ := hok2
  have hok : okD ops l0 m N = true := by
    unfold okX at hok1
    simp only [Bool.and_eq_true] at hok1
    exact hok1.1.1.1.1
  have hlow : ∀ i, i < ops.size → ∀ k ∈ edges ops i, k < i := fun i hi k hk => (hlowb i hi k hk).1
  have hdn0 : ∀ i, isOn l0 i = true → ∀ k ∈ edges ops i, isOn l0 k = true := fun i hl k hk => by
    by_cases hi : i < ops.size
    · exact (hlowb i hi k hk).2.resolve_left (by rw [hl]; decide)
    · unfold edges at hk
      rw [show ops[i]? = none from Array.getElem?_eq_none (by omega)] at hk
      simp at hk
  have hup : ∀ i, m ≤ i → i < ops.size → isOn l0 i = false → ∀ j, j < m → j ≠ x → isOn l0 j = false → waits ops ops.size i j = true := fun i h1 h2 hi j hj hjx hl => by
    have := hupb (i - m) (by omega)
    rw [show m + (i - m) = i by omega] at this
    have := this.resolve_left (by rw [hi]; decide) j hj
    exact this.resolve_left (fun h => h.elim (fun h => hjx (by simpa using h)) (fun h => by rw [hl] at h; cases h))
  have hsl : ∀ listed : Array Bool, ∀ j, (isOn listed j && !isOn l0 j) = true → isOn l0 j = false := fun listed j h => by
    simp only [Bool.and_eq_true, Bool.not_eq_true'] at h
    exact h.2
  have main : ∀ (fuel : Nat) (listed : Array Bool) (a : Act) (w : World) (z : Γ) (v : Nat → Value), listed.size = ops.size → (∀ i, m ≤ i → isOn listed i = isOn l0 i) → (∀ i, isOn l0 i = true → isOn listed i = true) →
      (∀ i, isOn listed i = true → ∀ k ∈ edges ops i, isOn listed k = true) → a = putN ops v (fun j => isOn listed j && !isOn l0 j) a0 m → (∀ j, j < m → isOn listed j = true → isOn l0 j = false → G j (v j) (w, z)) → E w0 (w, z) →
      fuel = opnO listed ops.size → wpAnyH P .any ops Q S fuel listed a w := by
    intro fuel
    have done : ∀ (fuel : Nat) (listed : Array Bool) (a : Act) (w : World) (z : Γ) (v : Nat → Value), listed.size = ops.size → (∀ i, m ≤ i → isOn listed i = isOn l0 i) → a = putN ops v (fun j => isOn listed j && !isOn l0 j) a0 m → (∀ j, j < m → isOn listed j = true → isOn l0 j = false → G j (v j) (w, z)) → E w0 (w, z) →
        fuel = opnO listed ops.size → (∀ j, j < m → isOn listed j = true) → wpAnyH P .any ops Q S fuel listed a w := by
      intro fuel listed a w z v hsz h1 ha hg he hf hall
      have hl : listed = doneO l0 m := by
        apply Array.ext
        · simp [doneO, hsz, hlsz]
        · intro i hi1 hi2
          have e1 : isOn listed i = listed[i] := by simp [isOn, Array.getD_eq_getD_getElem?, hi1]
          have e2 : (doneO l0 m)[i] = (decide (i < m) || isOn l0 i) := by simp [doneO]
          rw [← e1, e2]
          by_cases hi : i < m
          · rw [hall i hi]; simp [hi]
          · rw [h1 i (by omega)]; simp [hi]
      subst hl
      subst ha
      subst hf
      rw [putN_congr (v' := v) (s' := fun j => !isOn l0 j) a0 (fun j hj => ⟨by rw [hall j hj, Bool.true_and], fun _ => rfl⟩)]
      exact fin v w z he (fun j hj hl => hg j hj (hall j hj) hl)
    induction fuel with
    | zero =>
      intro listed a w z v hsz h1 hmo h2 ha hg he hf
      refine done 0 listed a w z v hsz h1 ha hg he hf fun j hj => ?_
      have : ∀ n, opnO listed n = 0 → ∀ j, j < n → isOn listed j = true := by
        intro n
        induction n with
        | zero => intro _ j hj; omega
        | succ n ih =>
          intro h j hj
          unfold opnO at h
          by_cases e : j = n
          · subst e
            split at h
            · assumption
            · omega
          · exact ih (by omega) j (by omega)
      exact this ops.size hf.symm j (by omega)
    | succ fuel ih =>
      intro listed a w z v hsz h1 hmo h2 ha hg he hf
      by_cases hall : ∀ j, j < m → isOn listed j = true
      · exact done _ listed a w z v hsz h1 ha hg he hf hall
      by_cases hallx : ∀ j, j < m → j ≠ x → isOn listed j = true
      · have hxo : isOn listed x = false := by
          cases hp : isOn listed x with
          | false => rfl
          | true => exact absurd (fun j hj => if e : j = x then e ▸ hp else hallx j hj e) hall
        have hl : listed = (doneO l0 m).setIfInBounds x false := by
          apply Array.ext
          · simp [doneO, hsz, hlsz]
          · intro i hi1 hi2
            have e1 : isOn listed i = listed[i] := by simp [isOn, Array.getD_eq_getD_getElem?, hi1]
            have hi3 : i < (doneO l0 m).size := by simpa using hi2
            have e2 : (doneO l0 m)[i] = (decide (i < m) || isOn l0 i) := by simp [doneO]
            rw [← e1]
            by_cases e : i = x
            · subst e
              rw [hxo]; simp
            · rw [Array.getElem_setIfInBounds_ne hi3 (Ne.symm e), e2]
              by_cases hi : i < m
              · rw [hallx i hi e]; simp [hi]
              · rw [h1 i (by omega)]; simp [hi]
        have hset : listed.setIfInBounds x true = doneO l0 m := by
          rw [hl]
          apply Array.ext
          · simp
          · intro i hi1 hi2
            have e2 : (doneO l0 m)[i] = (decide (i < m) || isOn l0 i) := by simp [doneO]
            by_cases e : i = x
            · subst e
              rw [e2]; simp [hxm]
            · rw [Array.getElem_setIfInBounds_ne (by simpa using hi1) (Ne.symm e), Array.getElem_setIfInBounds_ne hi2 (Ne.symm e)]
        have hd : (dstOf ops x) = ox.dst := by unfold dstOf; rw [hox]; rfl
        have hsx : (isOn listed x && !isOn l0 x) = false := by rw [hxo]; rfl
        obtain ⟨u, hy, hgx⟩ := hX a w z he (by
            intro t ht
            rw [ha, putN_miss]
            intro j hj hs e
            unfold isDst at ht
            rw [List.any_eq_false] at ht
            refine ht j (List.mem_range.2 hj) ?_
            rw [hsl listed j hs, e]
            simp) (by
            intro j d hjd
            unfold depO at hjd
            simp only [Bool.and_eq_true, beq_iff_eq, List.contains_iff_mem, Bool.not_eq_true'] at hjd
            have hji := hlow x (by omega) j hjd.1.1
            have hjl := hallx j (by omega) (by omega)
            rw [ha, putN_hit hok v _ (hsl listed) a0 hN hjd.1.2 (by rw [hjl, hjd.2]; rfl) (by omega) (Nat.le_refl _)]
            exact hg j (by omega) hjl hjd.2)
        have hfu : fuel = opnO (doneO l0 m) ops.size := by
          have := opn_set (l := listed) (l' := listed.setIfInBounds x true) (i := x) hxo (by
            unfold isOn; simp [Array.getD_eq_getD_getElem?, show x < listed.size by omega]) (fun j hj => by
            unfold isOn; simp [Array.getD_eq_getD_getElem?, Array.getElem?_setIfInBounds_ne (Ne.symm hj)]) (n := ops.size)
          rw [if_pos (by omega), hset] at this
          omega
        refine wpAnyH_take (v := u) hox hns (hl ▸ hfr) (hl ▸ hrd) (hQ u) hy (hS _ _ he) ?_
        rw [hset, hfu, ha, ← hd, ← putN_set hok (s := fun j => isOn listed j && !isOn l0 j) a0 (hsl listed) hsx hxl u hxm (Nat.le_refl _)]
        rw [putN_congr (v' := fun j => if j = x then u else v j) (s' := fun j => !isOn l0 j) a0 (fun j hj => ⟨by
          by_cases e : j = x
          · simp only [if_pos e]; rw [e, hxl]; rfl
          · simp only [if_neg e]; rw [hallx j hj e, Bool.true_and], fun _ => rfl⟩)]
        refine fin _ w z he fun j hj hjl => ?_
        by_cases e : j = x
        · simp only [if_pos e]; rw [e]; exact hgx
        · simp only [if_neg e]; exact hg j hj (hallx j hj e) hjl
      · obtain ⟨j1, hj11, hj12, hj13⟩ := least (p := isOn listed) (n := m) (by
          apply Classical.byContradiction
          intro h
          exact hall fun j hj => by
            cases hp : isOn listed j with
            | true => rfl
            | false => exact absurd ⟨j, hj, hp⟩ h)
        obtain ⟨j0, hj0, hjx, hj1⟩ : ∃ j, j < m ∧ j ≠ x ∧ isOn listed j = false := by
          apply Classical.byContradiction
          intro h
          exact hallx fun j hj hjx => by
            cases hp : isOn listed j with
            | true => rfl
            | false => exact absurd ⟨j, hj, hjx, hp⟩ h
        have gt : ∀ i, i < ops.size → listed.getD i true = isOn listed i := fun i hi => by
          simp [isOn, Array.getD_eq_getD_getElem?, show i < listed.size by omega]
        refine ⟨fun h0 => ?_, fun i hi => ?_⟩
        · have hr : j1 ∈ Region.ready .any ops listed := ready_of (by omega) (by rw [gt _ (by omega)]; exact hj12) (fun k hk => hj13 k (hlow j1 (by omega) k hk))
          rw [h0] at hr
          cases hr
        · obtain ⟨r1, ⟨o, ho⟩, r3⟩ := ready_edges hi
          have hin : i < ops.size := (Array.getElem?_eq_some_iff.1 ho).1
          have hi0 : isOn listed i = false := by rw [← gt i hin]; exact r1
          have hil : isOn l0 i = false := by
            cases hp : isOn l0 i with
            | false => rfl
            | true => rw [hmo i hp] at hi0; cases hi0
          have hj0l : isOn l0 j0 = false := by
            cases hp : isOn l0 j0 with
            | false => rfl
            | true => rw [hmo j0 hp] at hj1; cases hj1
          have him : i < m := by
            apply Classical.byContradiction
            intro hge
            have := waits_listed (l := isOn listed) h2 ops.size i j0 r3 (hup i (by omega) hin hil j0 hj0 hjx hj0l)
            rw [hj1] at this
            cases this
          have hst := StepsO.get (j := i) steps (by rw [List.getElem?_take, if_pos him]; simpa using ho)
          rw [Nat.zero_add] at hst
          have hst := hst.resolve_left (by rw [hil]; decide)
          have hd : (dstOf ops i) = o.dst := by unfold dstOf; rw [ho]; rfl
          have hsi : (isOn listed i && !isOn l0 i) = false := by rw [hi0]; rfl
          refine wpOp_mono ?_ (hst a w z he ?_ ?_)
          · rintro a' w' ⟨u, z', rfl, he', hg'⟩
            have hset : ∀ j, isOn (listed.setIfInBounds i true) j = if j = i then true else isOn listed j := fun j => by
              unfold isOn
              by_cases e : j = i
              · subst e
                rw [if_pos rfl]
                simp [Array.getD_eq_getD_getElem?, show j < listed.size by omega]
              · rw [if_neg e]
                simp [Array.getD_eq_getD_getElem?, Array.getElem?_setIfInBounds_ne (Ne.symm e)]
            refine ⟨hS _ _ (hE _ _ _ he he'), ih (listed.setIfInBounds i true) _ w' z' (fun j => if j = i then u else v j) (by simpa using hsz) ?_ ?_ ?_ ?_ ?_ (hE _ _ _ he he') ?_⟩
            · intro j hj
              rw [hset, if_neg (by omega)]
              exact h1 j hj
            · intro j hj
              rw [hset]
              split
              · rfl
              · exact hmo j hj
            · intro j hj k hk
              rw [hset] at hj ⊢
              by_cases e : k = i
              · rw [if_pos e]
              · rw [if_neg e]
                by_cases e2 : j = i
                · subst e2; exact r3 k hk
                · rw [if_neg e2] at hj
                  exact h2 j hj k hk
            · rw [ha, ← hd, ← putN_set hok (s := fun j => isOn listed j && !isOn l0 j) a0 (hsl listed) hsi hil u him (Nat.le_refl _)]
              refine putN_congr a0 (fun j hj => ⟨?_, fun _ => rfl⟩)
              simp only [hset]
              by_cases e : j = i
              · rw [if_pos e, if_pos e, e, hil]; rfl
              · rw [if_neg e, if_neg e]
            · intro j hj hl hjl
              by_cases e : j = i
              · simp only [if_pos e]; rw [e]; exact hg'
              · simp only [if_neg e]
                rw [hset, if_neg e] at hl
                exact hG _ _ _ _ (hg j hj hl hjl) he'
            · have := opn_set (l := listed) (l' := listed.setIfInBounds i true) (i := i) hi0 (by rw [hset, if_pos rfl]) (fun j hj => by rw [hset, if_neg hj]) (n := ops.size)
              rw [if_pos hin] at this
              omega
          · intro t ht
            rw [ha, putN_miss]
            intro j hj hs e
            unfold isDst at ht
            rw [List.any_eq_false] at ht
            refine ht j (List.mem_range.2 hj) ?_
            rw [hsl listed j hs, e]
            simp
          · intro j d hjd
            unfold depO at hjd
            simp only [Bool.and_eq_true, beq_iff_eq, List.contains_iff_mem, Bool.not_eq_true'] at hjd
            have hjl := r3 j hjd.1.1
            have hji := hlow i hin j hjd.1.1
            rw [ha, putN_hit hok v _ (hsl listed) a0 hN hjd.1.2 (by rw [hjl, hjd.2]; rfl) (by omega) (Nat.le_refl _)]
            exact hg j (by omega) hjl hjd.2
  refine main fuel l0 a0 w0.1 w0.2 (fun _ => undef) hlsz (fun _ _ => rfl) (fun _ h => h) hdn0 ?_ ?_ hE0 hf
  · have : ∀ n, putN ops (fun _ => undef) (fun j => isOn l0 j && !isOn l0 j) a0 n = a0 := fun n => by
      induction n with
      | zero => rfl
      | succ n ih =>
        unfold putN
        rw [if_neg, ih]
        simp
    exact (this m).symm
  · intro j hj hl hl2
    rw [hl] at hl2
    cases hl2
end
end Go.Proofs.Ytdkamgafpphdjaa.OrdX

namespace Go.Proofs.Ytdkamgafpphdjaa
open Go.RowKit
set_option linter.unusedVariables false
/-- At most eight terms, all valid. -/
def fitsC (ks : List Tr) : Bool := decide (ks.length ≤ 8) && !ks.any (fun t => !valid sigT t)
theorem fitsC_mem {ks : List Tr} (h : fitsC ks = true) : ks.length ≤ 8 ∧ ∀ t ∈ ks, valid sigT t = true := by
  unfold fitsC at h
  rw [Bool.and_eq_true, decide_eq_true_eq] at h
  refine ⟨h.1, fun t ht => ?_⟩
  have h2 := h.2
  simp only [Bool.not_eq_true', List.any_eq_false] at h2
  simpa using h2 t ht
end Go.Proofs.Ytdkamgafpphdjaa
