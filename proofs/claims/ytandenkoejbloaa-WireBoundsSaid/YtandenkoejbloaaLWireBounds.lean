/- For every input the law quorumitelaw4.WireBounds returns true: each part of a message has its bounds, on both sides. Conditions: none. -/
import Derived.Test.YtandenkoejbloaaWbA
import Derived.Test.YtandenkoejbloaaWbB
import Derived.Test.YtandenkoejbloaaWbC
import Derived.Test.YtandenkoejbloaaWbD
import Derived.Test.YtandenkoejbloaaFacts
namespace Go.Proofs.Ytandenkoejbloaa
open Go Go.RowKit


theorem walk_WireBounds (w : World) (part : Int) (_ : -9223372036854775808 ≤ part) (_ : part ≤ 9223372036854775807) (edge : Int) (_ : -9223372036854775808 ≤ edge) (_ : edge ≤ 9223372036854775807) (kind : Int) (_ : -9223372036854775808 ≤ kind) (_ : kind ≤ 9223372036854775807) :
    Calls Try.prog 17 #[.int .i64 part, .int .i64 edge, .int .i64 kind] w fun e w' => e = .returned (.bool true) ∧ Fr none_ w w' := by
  obtain ⟨k, hk7, hk⟩ := modN 7 (by decide) part
  obtain ⟨e, he4, he⟩ := modN 4 (by decide) edge
  obtain ⟨q, hq3, hq⟩ := modN 3 (by decide) kind
  have hqa : (IntKind.u64.wrap kind).tmod 3 = (q : Int) := hq
  have hqi : IntKind.i64.wrap (q : Int) = q := IntWalk.i64_in _ (by omega)
  have hq1 : IntKind.i64.wrap (1 + (q : Int)) = 1 + (q : Int) := IntWalk.i64_in _ (by omega)
  rcases (show k = 0 ∨ k = 1 ∨ k = 2 ∨ k = 3 ∨ k = 4 ∨ k = 5 ∨ k = 6 by omega) with rfl | rfl | rfl | rfl | rfl | rfl | rfl
  · rcases (show e = 0 ∨ e = 1 ∨ e = 2 ∨ e = 3 by omega) with rfl | rfl | rfl | rfl
    · exact bounds_0_0 w part edge kind _ hk he q hqa hqi hq1 (by omega)
    · exact bounds_0_1 w part edge kind _ hk he q hqa hqi hq1 (by omega)
    · exact bounds_0_2 w part edge kind _ hk he q hqa hqi hq1 (by omega)
    · exact bounds_0_3 w part edge kind _ hk he q hqa hqi hq1 (by omega)
  · rcases (show e = 0 ∨ e = 1 ∨ e = 2 ∨ e = 3 by omega) with rfl | rfl | rfl | rfl
    · exact bounds_1_0 w part edge kind _ hk he q hqa hqi hq1 (by omega)
    · exact bounds_1_1 w part edge kind _ hk he q hqa hqi hq1 (by omega)
    · exact bounds_1_2 w part edge kind _ hk he q hqa hqi hq1 (by omega)
    · exact bounds_1_3 w part edge kind _ hk he q hqa hqi hq1 (by omega)
  · rcases (show e = 0 ∨ e = 1 ∨ e = 2 ∨ e = 3 by omega) with rfl | rfl | rfl | rfl
    · exact bounds_2_0 w part edge kind _ hk he q hqa hqi hq1 (by omega)
    · exact bounds_2_1 w part edge kind _ hk he q hqa hqi hq1 (by omega)
    · exact bounds_2_2 w part edge kind _ hk he q hqa hqi hq1 (by omega)
    · exact bounds_2_3 w part edge kind _ hk he q hqa hqi hq1 (by omega)
  · rcases (show e = 0 ∨ e = 1 ∨ e = 2 ∨ e = 3 by omega) with rfl | rfl | rfl | rfl
    · exact bounds_3_0 w part edge kind _ hk he q hqa hqi hq1 (by omega)
    · exact bounds_3_1 w part edge kind _ hk he q hqa hqi hq1 (by omega)
    · exact bounds_3_2 w part edge kind _ hk he q hqa hqi hq1 (by omega)
    · exact bounds_3_3 w part edge kind _ hk he q hqa hqi hq1 (by omega)
  · rcases (show e = 0 ∨ e = 1 ∨ e = 2 ∨ e = 3 by omega) with rfl | rfl | rfl | rfl
    · exact bounds_4_0 w part edge kind _ hk he q hqa hqi hq1 (by omega)
    · exact bounds_4_1 w part edge kind _ hk he q hqa hqi hq1 (by omega)
    · exact bounds_4_2 w part edge kind _ hk he q hqa hqi hq1 (by omega)
    · exact bounds_4_3 w part edge kind _ hk he q hqa hqi hq1 (by omega)
  · rcases (show e = 0 ∨ e = 1 ∨ e = 2 ∨ e = 3 by omega) with rfl | rfl | rfl | rfl
    · by_cases hz : q = 0
      · exact bounds_5_0_0 w part edge kind _ hk he q hqa hqi hq1 (by omega)
      · exact bounds_5_0_1 w part edge kind _ hk he q hqa hqi hq1 (by omega)
    · by_cases hz : q = 0
      · exact bounds_5_1_0 w part edge kind _ hk he q hqa hqi hq1 (by omega)
      · exact bounds_5_1_1 w part edge kind _ hk he q hqa hqi hq1 (by omega)
    · by_cases hz : q = 0
      · exact bounds_5_2_0 w part edge kind _ hk he q hqa hqi hq1 (by omega)
      · exact bounds_5_2_1 w part edge kind _ hk he q hqa hqi hq1 (by omega)
    · by_cases hz : q = 0
      · exact bounds_5_3_0 w part edge kind _ hk he q hqa hqi hq1 (by omega)
      · exact bounds_5_3_1 w part edge kind _ hk he q hqa hqi hq1 (by omega)
  · rcases (show e = 0 ∨ e = 1 ∨ e = 2 ∨ e = 3 by omega) with rfl | rfl | rfl | rfl
    · by_cases hz : q = 0
      · exact bounds_6_0_0 w part edge kind _ hk he q hqa hqi hq1 (by omega)
      · exact bounds_6_0_1 w part edge kind _ hk he q hqa hqi hq1 (by omega)
    · by_cases hz : q = 0
      · exact bounds_6_1_0 w part edge kind _ hk he q hqa hqi hq1 (by omega)
      · exact bounds_6_1_1 w part edge kind _ hk he q hqa hqi hq1 (by omega)
    · by_cases hz : q = 0
      · exact bounds_6_2_0 w part edge kind _ hk he q hqa hqi hq1 (by omega)
      · exact bounds_6_2_1 w part edge kind _ hk he q hqa hqi hq1 (by omega)
    · by_cases hz : q = 0
      · exact bounds_6_3_0 w part edge kind _ hk he q hqa hqi hq1 (by omega)
      · exact bounds_6_3_1 w part edge kind _ hk he q hqa hqi hq1 (by omega)

namespace wireBounds
open Go Go.ChangeShapes Go.WideShapes Go.ChangeAt Go.RowKit
set_option linter.unusedVariables false
set_option maxRecDepth 100000 in
theorem lifted (os : Os) (started : os.Started) (H : Type) (enc : TypeId × Value → H) :
    ReturnsInHanded {} Try.checked os 17 .any (Rows.wireBoundsSpec.pre6 enc Try.prog Try.f17 Rows.wireBoundsRow.domain false) (Rows.wireBoundsSpec.post enc Try.prog Try.f17 false true false false) := by
  refine returnsInHanded_of_change (C := Try.checked) owned started (by kernel_rfl) Try.func17
    (ChangeSpec.witness6 (enc := enc) (C := Try.checked) false ⟨#[], #[.int .i64 0, .int .i64 0, .int .i64 0], []⟩ 8 (by kernel_rfl) (by kernel_rfl) (by kernel_rfl) (by kernel_rfl)) ?_
  intro W base args ds gs before hval0 hW hcnd _
  have hval : ∀ (j : Nat) t v, Try.f17.params[j]? = some t → args[j]? = some v → Value.okWide Try.prog W .any base t v := hval0
  have hW' := hW
  obtain ⟨p, q, hA0, hV, rfl, hfz, hnd⟩ := hW
  have hA : DataW.TrodAll enc Try.prog W 0 (fun _ => true) true Try.f17.params.toList args.toList ds p := hA0
  rw [Try.params17] at hA hval
  obtain ⟨v0, vs0, d0, ds0, p0, q0, hargs, rfl, rfl, h0, r0⟩ := trodAll_cons hA
  obtain ⟨v1, vs1, d1, ds1, p1, q1, rfl, rfl, rfl, h1, r1⟩ := trodAll_cons r0
  obtain ⟨v2, vs2, d2, ds2, p2, q2, rfl, rfl, rfl, h2, r2⟩ := trodAll_cons r1
  obtain ⟨rfl, rfl, rfl⟩ := trodAll_nil r2
  obtain rfl : args = #[v0, v1, v2] := by cases args; simp_all
  obtain ⟨rfl, rfl⟩ := trodVars_none hV
  have k0 := h0
  have lt0 : ∀ x ∈ p0, x.block < W.heap.size := by obtain ⟨m, hm⟩ := k0; exact DataW.trod_lt m _ _ _ hm
  have k1 := h1
  have lt1 : ∀ x ∈ p1, x.block < W.heap.size := by obtain ⟨m, hm⟩ := k1; exact DataW.trod_lt m _ _ _ hm
  have k2 := h2
  have lt2 : ∀ x ∈ p2, x.block < W.heap.size := by obtain ⟨m, hm⟩ := k2; exact DataW.trod_lt m _ _ _ hm
  obtain ⟨x0, rfl, bl0, bh0⟩ := open_num Try.underlying3 (hval 0 3 v0 rfl rfl) h0
  obtain ⟨x1, rfl, bl1, bh1⟩ := open_num Try.underlying3 (hval 1 3 v1 rfl rfl) h1
  obtain ⟨x2, rfl, bl2, bh2⟩ := open_num Try.underlying3 (hval 2 3 v2 rfl rfl) h2
  clear hA0 hval0
  refine (walk_WireBounds W x0 bl0 bh0 x1 bl1 bh1 x2 bl2 bh2).mono fun e W' ⟨he, fr⟩ => ?_
  subst he
  have bel := fr.below
  exact ⟨_, rfl, _, _, _, [], _, [], hW', trodAll_mk1 (shut_bool Try.underlying4 _), (trodAll_cons_mk (Below.trod laid (by kernel_rfl) (of_decide_eq_true (by kernel_rfl)) k0 bel lt0) (trodAll_cons_mk (Below.trod laid (by kernel_rfl) (of_decide_eq_true (by kernel_rfl)) k1 bel lt1) (trodAll_cons_mk (Below.trod laid (by kernel_rfl) (of_decide_eq_true (by kernel_rfl)) k2 bel lt2) trodAll_mk0))), rfl, bel.frame _, fun h => by cases h⟩

theorem inPlace : Try.prog.inPlace 17 = [] := inPlace_none _ _ (by kernel_rfl)
theorem closed : joinedFacts Try.prog 17 Try.f17 Rows.wireBoundsSpec Rows.wireBoundsRow = true := by
  unfold joinedFacts
  repeat' (with_reducible refine and_mk ?_ ?_)
  all_goals first
    | with_reducible exact enters
    | with_reducible exact laid
    | with_reducible exact rowed
    | with_reducible exact noStops
    | with_reducible exact noKnobs
    | with_reducible exact heard
    | (rw [lifts]; as_aux_lemma => kernel_rfl)
    | (rw [makes]; as_aux_lemma => kernel_rfl)
    | (rw [plains]; as_aux_lemma => kernel_rfl)
    | (rw [inPlace]; as_aux_lemma => kernel_rfl)
    | as_aux_lemma => kernel_rfl
theorem named : Try.prog.funcNamed Rows.wireBoundsRow.func = some 17 := by kernel_rfl
theorem isOne : (Try.f17).isInstance Try.prog Rows.wireBoundsRow.origin Rows.wireBoundsRow.targs := of_decide_eq_true (by kernel_rfl)
theorem wraps : (Try.f17).isWrapper Try.prog Rows.wireBoundsRow.wrapper Rows.wireBoundsRow.mainSum := by unfold Func.isWrapper; first | (rw [if_pos (by decide +kernel)]; kernel_rfl) | (rw [if_neg (by decide +kernel)]; exact ⟨rfl, rfl⟩)
theorem over : Rows.wireBoundsRow.holds Try.pinned (OpenSpec.ofChange Rows.wireBoundsSpec) :=
  OpenClaim.holds_of_wide 17 Try.f17 rfl rfl rfl rfl rfl rfl rfl ⟨rfl, rfl, rfl, rfl, rfl⟩ rfl rfl rfl rfl rfl named Try.func17 closed
    isOne wraps
    (fun os started H enc _ => lifted os started H enc)

/-- THE STATEMENT. -/
theorem proved : Rows.WireBoundsSaid := over
#print axioms proved
end wireBounds
end Go.Proofs.Ytandenkoejbloaa
