/- The reckoning is sound: every operation. -/
import Derived.Test.YthbighklfajmdaaEvA
import Derived.Laws.Cover1
namespace Go.Proofs.Ythbighklfajmdaa.Ev
open Go.RowKit
set_option linter.unusedVariables false
set_option linter.unusedSimpArgs false

section
variable {P : Program} {T : Tab} {C : List Con} {B : Nat} {bad : Nat → Prop} {w0 : World} {m : Map} {st : St} {a : Act} {w : World} {rd : Nat → Blk} {r : Res}

theorem vals_den (H : Holds B bad w0 m st a w) : ∀ (l : List Operand), All2 (Den m) (vals st.tmps l) (l.map a.eval)
  | [] => trivial
  | x :: l => ⟨evL_den H.tmp x, vals_den H l⟩

theorem wp_of_yields {o : Oper} {Q : Exit → Act → World → Prop} {s : Sem Value} (hx : execOp a.eval o = (do pure (.value (← s)))) (H : Holds B bad w0 m st a w) (h : Yields P m s w r) :
    o.wp P a w (After B bad w0 m (st.app o.dst r) (r.wr.map (·.1))) Q := wp_of_does hx (h.does H)

theorem append_nid {nid : Nat} {ts : Array TypeId} {s x : SV} (he : effAppend T rd nid ts s x = some r) : nid ∈ r.wr.map (·.1) := by
  unfold effAppend at he
  iterate 16 (all_goals (try (split at he)))
  all_goals (first | (cases he; done) | (cases he; exact List.mem_cons_self))
theorem buildSlice_nid {nid n : Nat} {t : TypeId} {ps : Array (Nat × Operand)} {vs : List SV} (he : effBuildSlice T nid t n ps vs = some r) : nid ∈ r.wr.map (·.1) := by
  unfold effBuildSlice at he
  iterate 8 (all_goals (try (split at he)))
  all_goals (first | (cases he; done) | (cases he; exact List.mem_cons_self))
theorem build0_nid {nid : Nat} {t : TypeId} {ps : Array (Nat × Operand)} (he : effBuild0 T nid t ps = some r) : nid ∈ r.wr.map (·.1) := by
  unfold effBuild0 at he
  iterate 4 (all_goals (try (split at he)))
  all_goals (first | (cases he; done) | (cases he; exact List.mem_cons_self))
theorem make_nid {nid : Nat} {t : TypeId} {l c : SV} (he : effMake T nid t l c = some r) : nid ∈ r.wr.map (·.1) := by
  unfold effMake at he
  iterate 8 (all_goals (try (split at he)))
  all_goals (first | (cases he; done) | (cases he; exact List.mem_cons_self))

theorem sound_builtin {nid : Nat} {b : Builtin} {ts : Array TypeId} {ty : TypeId} {cs : Array Bool} {l : List Operand} (hT : T.Ok P) (hrd : ∀ id, rd id = getB st.heap id ∨ rd id = .dead) (he : effBuiltin T rd nid b ts (vals st.tmps l) = some r) (hp : ∀ q ∈ r.pre, q)
    (hf : ∀ id, id ∈ r.wr.map (·.1) → nid ≤ id → m id = none) (H : Holds B bad w0 m st a w) :
    ∃ s : Sem Value, builtin b ts ty cs (l.map a.eval).toArray = (do pure (.value (← s))) ∧ Does P B bad w0 m st a w r s := by
  unfold effBuiltin at he
  split at he
  · split at he
    rotate_left
    · cases he
    rename_i x hvs
    match l, hvs with
    | [y], hvs =>
      simp only [vals, List.cons.injEq, and_true] at hvs
      split at he
      rotate_left
      · cases he
      rename_i t hts
      have hts' : ts = #[t] := by apply Array.ext'; rw [hts]
      subst hts'
      split at he
      rotate_left
      · cases he
      rename_i e _ _ _ _ hti
      split at he
      rotate_left
      · cases he
      rename_i v hv
      cases he
      subst hvs
      obtain ⟨z, h1, h2⟩ := sound_len (w := w) (ty := ty) hT hti rfl hv (evL_den H.tmp y)
      exact ⟨_, rfl, Yields.does ⟨z, h1, h2, rfl⟩ H⟩
  · split at he
    rotate_left
    · cases he
    rename_i x y hvs
    match l, hvs with
    | [p, q], hvs =>
      simp only [vals, List.cons.injEq, and_true] at hvs
      obtain ⟨rfl, rfl⟩ := hvs
      split at he
      rotate_left
      · cases he
      rename_i k u _ hu
      split at he
      rotate_left
      · cases he
      rename_i k' u' _ hu'
      cases he
      have e1 := toN_den hu (evL_den H.tmp p)
      have e2 := toN_den hu' (evL_den H.tmp q)
      refine ⟨_, rfl, Yields.does ⟨.int k (min u u'), ?_, rfl, rfl⟩ H⟩
      simp only [List.map_cons, List.map_nil, e1, e2]
      rw [run_min_int2, min_int]
  · split at he
    · rename_i x y hvs
      match l, hvs with
      | [p, q], hvs =>
        simp only [vals, List.cons.injEq, and_true] at hvs
        obtain ⟨rfl, rfl⟩ := hvs
        split at he
        rotate_left
        · cases he
        rename_i k u _ hu
        split at he
        rotate_left
        · cases he
        rename_i k' u' _ hu'
        cases he
        have e1 := toN_den hu (evL_den H.tmp p)
        have e2 := toN_den hu' (evL_den H.tmp q)
        refine ⟨_, rfl, Yields.does ⟨.int k (max u u'), ?_, rfl, rfl⟩ H⟩
        simp only [List.map_cons, List.map_nil, e1, e2]
        rw [run_max_int2, max_int]
    · rename_i x y z hvs
      match l, hvs with
      | [p, q, o], hvs =>
        simp only [vals, List.cons.injEq, and_true] at hvs
        obtain ⟨rfl, rfl, rfl⟩ := hvs
        split at he
        rotate_left
        · cases he
        rename_i k u _ hu
        split at he
        rotate_left
        · cases he
        rename_i k' u' _ hu'
        split at he
        rotate_left
        · cases he
        rename_i k'' u'' _ hu''
        cases he
        have e1 := toN_den hu (evL_den H.tmp p)
        have e2 := toN_den hu' (evL_den H.tmp q)
        have e3 := toN_den hu'' (evL_den H.tmp o)
        refine ⟨_, rfl, Yields.does ⟨.int k (max (max u u') u''), ?_, rfl, rfl⟩ H⟩
        simp only [List.map_cons, List.map_nil, e1, e2, e3]
        rw [run_max_int3, max_int, max_int]
    · cases he
  · split at he
    rotate_left
    · cases he
    rename_i x y hvs
    match l, hvs with
    | [p, q], hvs =>
      simp only [vals, List.cons.injEq, and_true] at hvs
      obtain ⟨rfl, rfl⟩ := hvs
      refine ⟨_, rfl, sound_append hT hrd he hp (hf nid ?_ (Nat.le_refl _)) (evL_den H.tmp p) (evL_den H.tmp q) H⟩
      exact append_nid he
  · cases he

/-- THE LAW OF AN OPERATION. -/
theorem op_sound {nid : Nat} {o : Oper} {Q : Exit → Act → World → Prop} (hT : T.Ok P) (hC : Cons.Ok P C) (hrd : ∀ id, rd id = getB st.heap id ∨ rd id = .dead) (he : eff T C o.op (vals st.tmps (opnds o.op)) rd nid = some r) (hp : ∀ q ∈ r.pre, q)
    (hf : ∀ id, id ∈ r.wr.map (·.1) → nid ≤ id → m id = none) (H : Holds B bad w0 m st a w) : o.wp P a w (After B bad w0 m (st.app o.dst r) (r.wr.map (·.1))) Q := by
  have ev := fun x => evL_den H.tmp x
  have hB := fun id => (show BlkH m id w (rd id) from by
    rcases hrd id with h | h <;> rw [h]
    · exact H.blk id
    · trivial)
  have hx0 : execOp a.eval o = execOp a.eval { o with op := o.op } := rfl
  cases hop : o.op <;> rw [hop] at he
  case move x =>
    have he' : some (Res.mk [] (evL st.tmps x) []) = some r := he
    cases he'
    exact wp_of_yields (s := pure (a.eval x)) (by unfold execOp; rw [hop]; rfl) H ⟨_, rfl, ev x, rfl⟩
  case assign x =>
    have he' : some (Res.mk [] (evL st.tmps x) []) = some r := he
    cases he'
    exact wp_of_yields (s := pure (a.eval x)) (by unfold execOp; rw [hop]; rfl) H ⟨_, rfl, ev x, rfl⟩
  case pick c x y =>
    obtain ⟨z, h1, h2, h3⟩ := sound_pick (P := P) (w := w) (r := r) (show effPick (evL st.tmps c) (evL st.tmps x) (evL st.tmps y) = some r from he) hp (ev c) (ev x) (ev y)
    have D : Does P B bad w0 m st a w r (pure z) := Yields.does ⟨z, rfl, h2, h3⟩ H
    obtain ⟨v, w', h4, h5⟩ := D.after o.dst
    cases h4
    unfold Oper.wp execOp
    rw [hop]
    simp only
    rw [h1]
    exact h5
  case alloc t => exact wp_of_does (by unfold execOp; rw [hop]) (sound_alloc hT (show effAlloc T nid t = some r from he) (hf nid (by
      have he' : effAlloc T nid t = some r := he
      unfold effAlloc at he'; split at he' <;> cases he'; simp) (Nat.le_refl _)) H)
  case box t x => exact wp_of_does (by unfold execOp; rw [hop]) (sound_box (show effBox nid (evL st.tmps x) = some r from he) (hf nid (by
      have he' : effBox nid (evL st.tmps x) = some r := he
      unfold effBox at he'; split at he' <;> cases he'; simp) (Nat.le_refl _)) (ev x) H)
  case build t ps =>
    refine wp_of_yields (by unfold execOp; rw [hop]) H (sound_build hT (show effBuild T t ps (vals st.tmps (ps.toList.map (·.2))) = some r from he) ?_)
    have := vals_den H (ps.toList.map (·.2))
    rwa [List.map_map] at this
  case buildSlice t n ps =>
    cases n with
    | zero =>
      refine wp_of_does (by unfold execOp; rw [hop]) (sound_build0 hT (show effBuild0 T nid t ps = some r from he) (hf nid ?_ (Nat.le_refl _)) H _)
      exact build0_nid (show effBuild0 T nid t ps = some r from he)
    | succ n =>
    refine wp_of_does (by unfold execOp; rw [hop]) (sound_buildSlice hT (show effBuildSlice T nid t (n + 1) ps (vals st.tmps (ps.toList.map (·.2))) = some r from he) (hf nid ?_ (Nat.le_refl _)) ?_ H)
    · exact buildSlice_nid (show effBuildSlice T nid t (n + 1) ps (vals st.tmps (ps.toList.map (·.2))) = some r from he)
    · have := vals_den H (ps.toList.map (·.2))
      rwa [List.map_map] at this
  case load t x => exact wp_of_yields (by unfold execOp; rw [hop]) H (sound_load hT (show effLoad T rd t (evL st.tmps x) = some r from he) hp (ev x) hB)
  case store t x y =>
    obtain ⟨w', h1, h2, h3⟩ := sound_store hT hrd (show effStore T rd t (evL st.tmps x) (evL st.tmps y) = some r from he) hp (ev x) (ev y) H
    unfold Oper.wp execOp
    rw [hop]
    simp only [Sem.run_bind, h1, Result.andThen_ok, Sem.run_pure, Oper.upon_skip]
    refine ⟨m, Map.le.refl m, fun id h => Or.inl h, ?_⟩
    have := h2.put o.dst (s := r.val) (v := undef) (by rw [h3]; trivial)
    exact this
  case nilCheck x =>
    obtain ⟨⟨ad, h1⟩, h2, h3⟩ := sound_nil (r := r) (show effNil (evL st.tmps x) = some r from he) (ev x)
    obtain ⟨v, w', h4, h5⟩ := (Yields.does (s := pure (a.eval x)) ⟨a.eval x, rfl, h2, h3⟩ H : Does P B bad w0 m st a w r (pure (a.eval x))).after o.dst
    cases h4
    unfold Oper.wp execOp
    rw [hop]
    simp only [h1]
    rw [h1] at h5
    exact h5
  case binOp op t x y t2 =>
    have he' : (match binS T op t (evL st.tmps x) (evL st.tmps y) with | some (ps, v) => some (Res.mk ps v []) | none => none) = some r := he
    split at he'
    · rename_i ps v hb
      cases he'
      obtain ⟨z, h1, h2⟩ := sound_bin (P := P) (w := w) x y hT hb hp (ev x) (ev y)
      exact wp_of_yields (by unfold execOp; rw [hop]) H ⟨z, h1, h2, rfl⟩
    · cases he'
  case unOp op t x => exact wp_of_yields (by unfold execOp; rw [hop]) H (sound_un (show effUn op (evL st.tmps x) = some r from he) hp (ev x))
  case convert s d x => exact wp_of_yields (by unfold execOp; rw [hop]) H (sound_conv hT (show effConv T s d (evL st.tmps x) = some r from he) hp (ev x))
  case makeSlice t l c =>
    refine wp_of_does (by unfold execOp; rw [hop]) (sound_make hT (show effMake T nid t (evL st.tmps l) (evL st.tmps c) = some r from he) hp (hf nid ?_ (Nat.le_refl _)) (ev l) (ev c) H)
    exact make_nid (show effMake T nid t (evL st.tmps l) (evL st.tmps c) = some r from he)
  case slice t x lo hi mx =>
    cases mx with
    | some z => exact absurd he (by cases lo <;> cases hi <;> exact fun h => by cases h)
    | none =>
      cases lo with
      | none =>
        cases hi with
        | none => exact wp_of_yields (by unfold execOp; rw [hop]; rfl) H (sound_slice (lv := none) (hv := none) hT (show effSlice T t none none (evL st.tmps x) [] = some r from he) hp (ev x) rfl rfl trivial)
        | some h => exact wp_of_yields (by unfold execOp; rw [hop]; rfl) H (sound_slice (lv := none) (hv := some (a.eval h)) hT (show effSlice T t none (some h) (evL st.tmps x) [evL st.tmps h] = some r from he) hp (ev x) rfl rfl ⟨ev h, trivial⟩)
      | some l =>
        cases hi with
        | none => exact wp_of_yields (by unfold execOp; rw [hop]; rfl) H (sound_slice (lv := some (a.eval l)) (hv := none) hT (show effSlice T t (some l) none (evL st.tmps x) [evL st.tmps l] = some r from he) hp (ev x) rfl rfl ⟨ev l, trivial⟩)
        | some h => exact wp_of_yields (by unfold execOp; rw [hop]; rfl) H (sound_slice (lv := some (a.eval l)) (hv := some (a.eval h)) hT (show effSlice T t (some l) (some h) (evL st.tmps x) [evL st.tmps l, evL st.tmps h] = some r from he) hp (ev x) rfl rfl ⟨ev l, ev h, trivial⟩)
  case fieldAddr t x f => exact wp_of_yields (by unfold execOp; rw [hop]) H (sound_fieldAddr hT (show effFieldAddr T t f (evL st.tmps x) = some r from he) (ev x))
  case field t x f => exact wp_of_yields (by unfold execOp; rw [hop]) H (sound_field hT (show effField T t f (evL st.tmps x) = some r from he) (ev x))
  case indexAddr t x i => exact wp_of_yields (by unfold execOp; rw [hop]) H (sound_indexAddr hT (show effIndexAddr T t (evL st.tmps x) (evL st.tmps i) = some r from he) hp (ev x) (ev i))
  case index t x i => exact wp_of_yields (by unfold execOp; rw [hop]) H (sound_index hT (show effIndex T t (evL st.tmps x) (evL st.tmps i) = some r from he) (ev x) (ev i))
  case extract x i => exact wp_of_yields (by unfold execOp; rw [hop]) H (sound_extract (show effExtract i (evL st.tmps x) = some r from he) (ev x))
  case call c =>
    obtain ⟨callee, args, ts⟩ := c
    cases callee with
    | value f =>
      cases f with
      | func f =>
        have he' : effCall C rd nid f (vals st.tmps args.toList) = some r := he
        obtain ⟨⟨fn, h1, h2, h3⟩, hc⟩ := sound_call hC hrd he' hp hf (vals_den H args.toList) H o.dst
        unfold Oper.wp execOp
        rw [hop]
        have hb : fn.body.isNone = false := by cases hb : fn.body <;> simp [hb] at h2 ⊢
        have harr : (args.toList.map a.eval).toArray = args.map a.eval := by apply Array.ext'; simp
        have hfn : a.eval (.func f) = .func (.func f) #[] #[] := rfl
        rw [harr] at hc
        simp only [resolve, hfn, Deferred.ofValue, Sem.run_bind, Sem.run_pure, Result.andThen_ok, invoke, callFunc, run_program, h1, h3, Bool.false_eq_true, if_false, hb, Array.append_empty, Array.empty_append, Oper.upon_enter]
        refine hc.mono ?_
        rintro e w' ⟨v, rfl, hv⟩
        exact hv
      | _ => cases he
    | invoke x n => cases he
    | builtin b =>
      obtain ⟨s, h1, h2⟩ := sound_builtin (ty := o.type) (cs := args.map fun | .const _ => true | _ => false) (l := args.toList) hT hrd (show effBuiltin T rd nid b ts (vals st.tmps args.toList) = some r from he) hp hf H
      refine wp_of_does ?_ h2
      have harr : (args.toList.map a.eval).toArray = args.map a.eval := by apply Array.ext'; simp
      rw [harr] at h1
      rw [← h1]
      unfold execOp
      rw [hop]
      rfl
  all_goals (cases he)
end
end Go.Proofs.Ythbighklfajmdaa.Ev
