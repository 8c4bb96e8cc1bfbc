/-
  Lemmas towards the law, 45: DrawF, LiftS.
-/
import Derived.Test.YtenpknapajckbaaDoorPAB
import Derived.Test.YtenpknapajckbaaDoorPBF
import Derived.Test.YtenpknapajckbaaDoorPBR
import Derived.HandedShaped
namespace Go.Proofs.YtenpknapajckbaaDoor
open Go.RowKit
set_option linter.unusedVariables false
attribute [local go_sem ↓] Go.wp_at_zero Go.wp_at_succ
/-- Definitions that were drawn. -/
def DrawnD (w : World) (e : Ending) (w' : World) : Prop := ∃ A n c ks, e = .returned (.slice A n c) ∧ n ≤ c ∧ c ≤ maxLen ∧ (A = none → c = 0) ∧ ks.length = n * 2 ∧ n ≤ 9 ∧ LiesK w' A ks ∧ Ext w w'
set_option maxRecDepth 100000 in
set_option maxHeartbeats 1000000 in
theorem drawDefsValid_any (w : World) (A : Option Addr) (cap : Nat) (bs : List Int) (hl : bs.length ≤ cap) (hc : cap ≤ maxLen) (hB : Bytes w w.heap.size A bs) : Calls Tryd.prog 33 #[.slice A bs.length cap] w fun e w' => DrawnD w e w' := by
  go_enter Tryd.func33, Tryd.ntmps33
  go_wp2_with fail
  refine (l19Open_any w A cap bs hl hc hB).mono ?_
  rintro e w1 ⟨rfl, hR, h1⟩
  generalize hg : w.heap.size = g at hR ⊢
  have hg1 : g < w1.heap.size := hR.lt
  go_wp2_with fail
  refine (l9Draw_any w1 g 0 hR (by omega)).mono ?_
  rintro e w2 ⟨A2, n2, c2, ks2, t2, u2, rfl, hl2, hc2, hn2, hn8, hv2, ht2, hK2, hF2, hR2, ho2⟩
  obtain ⟨a1, a2, a3, a4, a5, rfl⟩ := hF2.three
  have hx := (Ext.refl w2).alloc (.cells #[.int .i64 a1, .int .i64 a2, .slice a3 a4 a5] 57)
  have hK3 : LiesK (w2.alloc (.cells #[.int .i64 a1, .int .i64 a2, .slice a3 a4 a5] 57)) A2 ks2 := InK.mono (fun b hb => Nat.lt_of_lt_of_le hb.2 hx.size) (fun b hb => hx.heap b hb.2) hK2
  have hR3 := hR2.ext hx
  have ho3 := ho2.trans (Only.of_ext (L := [g]) hx)
  go_wp2_with fail
  refine (l9Mutate_any ks2 n2 c2 _ g _ A2 hK3 hn2 hl2 hc2 hv2 hn8 hR3 (by omega)).mono ?_
  rintro e w4 ⟨A', n', cap', ks', rfl, q1, q2, q3, q4, q5, q6, q7, hR4, ho4⟩
  go_wp2_with fail
  go_ret
  exact ⟨A', n', cap', ks', rfl, q1, q2, q3, q4, q5, InK.mono (fun b hb => hb.2) (fun _ _ => rfl) q7, (ho3.trans ho4).ext h1 (by intro b hb; simp at hb; omega)⟩
theorem drawFormatDefs_any (w : World) (A : Option Addr) (cap : Nat) (bs : List Int) (hl : bs.length ≤ cap) (hc : cap ≤ maxLen) (hB : Bytes w w.heap.size A bs) : Calls Tryd.prog 16 #[.slice A bs.length cap] w fun e w' => DrawnD w e w' := by
  go_enter Tryd.func16, Tryd.ntmps16
  go_wp2_with fail
  refine (drawDefsValid_any w A cap bs hl hc hB).mono ?_
  rintro e w1 ⟨A', n', c', ks', rfl, h⟩
  go_wp2_with fail
  go_ret
  exact ⟨A', n', c', ks', rfl, h⟩
theorem dvs_take : ∀ (m : Nat) (ks : List Tr) (i : Nat), dvs ks i = true → dvs (ks.take (m * 2)) i = true
  | 0, ks, i, h => by simp [dvs]
  | m + 1, [], i, h => by simp [dvs]
  | m + 1, [t], i, h => by
    rw [show (m + 1) * 2 = m * 2 + 1 + 1 by omega]
    simpa using h
  | m + 1, t :: b :: r, i, h => by
    rw [show (m + 1) * 2 = m * 2 + 1 + 1 by omega, List.take_succ_cons, List.take_succ_cons]
    unfold dvs at h ⊢
    simp only [Bool.and_eq_true] at h ⊢
    exact ⟨h.1, h.2.1, h.2.2.1, h.2.2.2.1, dvs_take m r (i + 1) h.2.2.2.2⟩
theorem fmtDs_take : ∀ (m : Nat) (ks : List Tr), fmtDs ks = fmtDs (ks.take (m * 2)) ++ fmtDs (ks.drop (m * 2)) ∨ ks.length < m * 2
  | 0, ks => .inl (by simp [fmtDs])
  | m + 1, [] => .inr (by simp)
  | m + 1, [t] => .inr (by simp; omega)
  | m + 1, t :: b :: r => by
    rcases fmtDs_take m r with h | h
    · refine .inl ?_
      rw [show (m + 1) * 2 = m * 2 + 1 + 1 by omega, List.take_succ_cons, List.take_succ_cons, List.drop_succ_cons, List.drop_succ_cons, fmtDs, fmtDs, h]
      simp
    · exact .inr (by simp; omega)
/-- A prefix of valid definitions is valid, and its text is a prefix of theirs. -/
theorem prefix_facts {ks : List Tr} {n m : Nat} (hd : dfV ks n = true) (hn : ks.length = n * 2) (hm : m ≤ n) : dfV (ks.take (m * 2)) m = true ∧ (ks.take (m * 2)).length = m * 2 ∧ ∃ r, fmtDV ks n = fmtDV (ks.take (m * 2)) m ++ r := by
  have h1 : dfV (ks.take (m * 2)) m = true := by
    unfold dfV at hd ⊢
    simp only [Bool.and_eq_true, decide_eq_true_eq] at hd ⊢
    exact ⟨dvs_take m ks 0 hd.1, by omega⟩
  refine ⟨h1, by rw [List.length_take]; omega, fmtDs (ks.drop (m * 2)), ?_⟩
  unfold fmtDV
  rw [if_pos hd, if_pos h1]
  rcases fmtDs_take m ks with h | h
  · exact h
  · omega
end Go.Proofs.YtenpknapajckbaaDoor
namespace Go.Proofs.YtenpknapajckbaaDoor
open Go.RowKit Go.ChangeShapes Go.WideShapes Go.ChangeAt
set_option linter.unusedVariables false
section
variable {H : Type} {enc : TypeId × Value → H} {P : Program}

/-- As returnsInHanded_of_change_and, and the first world's shape is handed on. -/
theorem handed_and_shaped {a : Assume} {C : Checked} {os : Os} {f : FuncId} {fn : Func} {s : ChangeSpec} {conds : List PathCond} {apart fresh handsOn again : Bool} {X : World → Array Value → Prop}
    (hX : ∀ (w w' : World) (args : Array Value), w.heap = w'.heap → X w args → X w' args)
    (own : ownKnob C.prog.godebug = none) (started : os.Started) (noInit : C.prog.inits.idxOf? f = none) (hfn : C.prog.funcs[f]? = some fn)
    (witness : ∃ (w : World) (tape : Tape) (i : Input), w.os = os ∧ (w.forCall tape i).Shaped C.prog ∧ i.vars = [] ∧ Input.okWide C.prog (w.forCall tape i) .any w.heap.size f i ∧
      ((s.pre enc C.prog fn conds apart (w.forCall tape i).memory i.args ∧ X (w.forCall tape i).memory i.args) ∧ sizedMet enc C.prog fn (OpenSpec.ofChange s) apart (w.forCall tape i).memory i.args) ∧ a.holds C.prog (lone (Frame.enter C.prog f i.args .normal) [] (w.forCall tape i)))
    (contract : ∀ (W : World) (base : Nat) (args : Array Value) (ds gs : List (DataW H)) (before : List MemPlace),
      (∀ (j : Nat) t v, fn.params[j]? = some t → args[j]? = some v → Value.okWide C.prog W .any base t v) →
      DataW.Whole enc C.prog fn.params.toList s.vars apart W args.toList ds gs before →
      conds.all (PathCond.test C.prog ⟨fn.params.toList, ds, s.plain.varTypes C.prog, gs⟩) = true →
      (DataW.weightsEach C.prog (fn.params.toList ++ s.plain.varTypes C.prog) (ds ++ gs)).all (· ≤ reachBytes) = true → X W args → W.ShapedOpen C.prog →
      a.holds C.prog (lone (Frame.enter C.prog f args .normal) [] W) →
      Calls C.prog f args W fun e W' => ∃ v, e = .returned v ∧ s.post enc C.prog fn apart fresh handsOn again W args v W') :
    ReturnsInHanded a C os f .any (fun w args => (s.pre enc C.prog fn conds apart w args ∧ X w args) ∧ sizedMet enc C.prog fn (OpenSpec.ofChange s) apart w args) (s.post enc C.prog fn apart fresh handsOn again) := by
  refine returnsInHanded_of_calls own started noInit witness ?_
  intro w tape i _ hsh _ hok hpre hholds
  obtain ⟨_, _, _, fn', hfn', _, _, _, _, hval⟩ := hok
  have e : fn' = fn := Option.some.inj (hfn'.symm.trans hfn)
  subst e
  obtain ⟨⟨⟨ds, gs, before, hw, hc⟩, hx⟩, hz⟩ := hpre
  have hw' := DataW.Whole.of_heap (w' := w.forCall tape i) (by rfl) hw
  refine (contract (w.forCall tape i) w.heap.size i.args ds gs before hval hw' hc (hz.weights hw) (hX _ _ _ (by rfl) hx) hsh hholds).mono fun e W' ⟨v, he, hp⟩ => ?_
  subst he
  exact ChangeSpec.post_blind hp

/-- A law over listed variables that answers true and leaves all that was there as1 it was. -/
theorem law_liftD {C : Checked} {os : Os} {f : FuncId} {fn : Func} {s : ChangeSpec} {tb : TypeId} {X : World → Array Value → Prop} (hX : ∀ (w w' : World) (args : Array Value), w.heap = w'.heap → X w args → X w' args) (own : ownKnob C.prog.godebug = none) (started : os.Started) (noInit : C.prog.inits.idxOf? f = none) (hfn : C.prog.funcs[f]? = some fn)
    (hl : laidOutB C.prog = true) (hread : (fn.params.toList.all fun t => C.prog.readableRec t && decide (t < C.prog.types.size)) = true) (hres : fn.resultTypes = #[tb]) (hbool : C.prog.underlying tb = some .bool)
    (hvars : s.vars = []) (hspec : ∀ ds : List (DataW H), ds.length = fn.params.size → (s.fn H ds).results = [.lit (.bool true)] ∧ (s.fn H ds).args = ds ∧ (s.fn H ds).vars = [])
    (witness : ∃ (w : World) (tape : Tape) (i : Input), w.os = os ∧ (w.forCall tape i).Shaped C.prog ∧ i.vars = [] ∧ Input.okWide C.prog (w.forCall tape i) .any w.heap.size f i ∧
      ((s.pre enc C.prog fn [] false (w.forCall tape i).memory i.args ∧ X (w.forCall tape i).memory i.args) ∧ sizedMet enc C.prog fn (OpenSpec.ofChange s) false (w.forCall tape i).memory i.args) ∧ ({} : Assume).holds C.prog (lone (Frame.enter C.prog f i.args .normal) [] (w.forCall tape i)))
    (walk : ∀ (W : World) (base : Nat) (args : Array Value) (ds : List (DataW H)) (p : List MemPlace),
      (∀ (j : Nat) t v, fn.params[j]? = some t → args[j]? = some v → Value.okWide C.prog W .any base t v) → DataW.TrodAll enc C.prog W 0 (fun _ => true) true fn.params.toList args.toList ds p →
      (∀ x ∈ p, x.block < W.heap.size) → X W args → W.ShapedOpen C.prog → Calls C.prog f args W fun e W' => e = .returned (.bool true) ∧ Ext W W') :
    ReturnsInHanded {} C os f .any (fun w args => (s.pre enc C.prog fn [] false w args ∧ X w args) ∧ sizedMet enc C.prog fn (OpenSpec.ofChange s) false w args) (s.post enc C.prog fn false true false false) := by
  refine handed_and_shaped hX own started noInit hfn witness ?_
  intro W base args ds gs before hval hW _ _ hXW hsh _
  have hlt : ∀ x ∈ before, x.block < W.heap.size := fun x hx => hW.lt x hx
  have hW' := hW
  obtain ⟨p, q, hA, hV, rfl, hfz, hnd⟩ := hW
  rw [hvars] at hV
  obtain ⟨rfl, rfl⟩ := trodVars_none hV
  simp only [List.append_nil] at hlt hW'
  refine (walk W base args ds p hval hA hlt hXW hsh).mono ?_
  rintro e W' ⟨rfl, hE⟩
  have hlen : ds.length = fn.params.size := by
    have h1 : ∀ {ts : List TypeId} {vs : List Value} {es : List (DataW H)} {ps : List MemPlace}, DataW.TrodAll enc C.prog W 0 (fun _ => true) true ts vs es ps → es.length = ts.length := by
      intro ts
      induction ts with
      | nil => intro vs es ps h; obtain ⟨_, rfl, _⟩ := trodAll_nil h; rfl
      | cons t ts ih => intro vs es ps h; obtain ⟨v, vs', d, ds', p, q, rfl, rfl, rfl, h0, r⟩ := trodAll_cons h; simp [ih r]
    rw [h1 hA, Array.length_toList]
  obtain ⟨e1, e2, e3⟩ := hspec ds hlen
  refine ⟨_, rfl, ds, [], p, [], p, [], by simpa using hW', ?_, ?_, ?_, Below.frame hE _ |> World.keptBut_mono (fun x hx => ⟨hx, .inr (.inl hx)⟩), fun h => by cases h⟩
  · rw [List.append_nil, e1, hres]
    exact trodAll_mk1 (shut_bool hbool _)
  · rw [List.append_nil, e2]
    exact trodAll_stays hl hE hread hA hlt
  · rw [List.append_nil, e3, hvars]
    exact rfl
end
end Go.Proofs.YtenpknapajckbaaDoor

