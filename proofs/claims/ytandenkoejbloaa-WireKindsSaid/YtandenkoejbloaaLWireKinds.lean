/- For every input the law quorumitelaw4.WireKinds returns true: messages that are unlike in any part have unlike bytes. Conditions: none. -/
import Derived.Test.YtandenkoejbloaaTold4
import Derived.Test.YtandenkoejbloaaFacts
namespace Go.Proofs.Ytandenkoejbloaa
open Go Go.RowKit

set_option maxRecDepth 100000 in
set_option maxHeartbeats 12800000 in
theorem walk_WireKinds (w : World) (a : Ms) (_ : okM a) (b : Ms) (_ : okM b) : Calls Try.prog 18 #[msgv a, msgv b] w fun e w' => e = .returned (.bool true) ∧ Fr none_ w w' := by
  have HMa := fun wa => may_any a wa
  have HMb := fun wa => may_any b wa
  have hq := eq_msgs a b
  unfold msgv at *
  have hA := (Blk.new w #[.int .i64 a.kind, .int .i64 a.who, .int .i64 a.gen, .int .i64 a.seq, .int .i64 a.epoch, .int .i64 a.value, .int .i64 a.metric] 68).alloc (.cells #[.int .i64 b.kind, .int .i64 b.who, .int .i64 b.gen, .int .i64 b.seq, .int .i64 b.epoch, .int .i64 b.value, .int .i64 b.metric] 68)
  have hB := Blk.new (w.alloc (.cells #[.int .i64 a.kind, .int .i64 a.who, .int .i64 a.gen, .int .i64 a.seq, .int .i64 a.epoch, .int .i64 a.value, .int .i64 a.metric] 68)) #[.int .i64 b.kind, .int .i64 b.who, .int .i64 b.gen, .int .i64 b.seq, .int .i64 b.epoch, .int .i64 b.value, .int .i64 b.metric] 68
  rw [World.size_alloc] at hB
  have hF := ((Fr.refl none_ w).alloc (.cells #[.int .i64 a.kind, .int .i64 a.who, .int .i64 a.gen, .int .i64 a.seq, .int .i64 a.epoch, .int .i64 a.value, .int .i64 a.metric] 68)).alloc (.cells #[.int .i64 b.kind, .int .i64 b.who, .int .i64 b.gen, .int .i64 b.seq, .int .i64 b.epoch, .int .i64 b.value, .int .i64 b.metric] 68)
  go_enter Try.func18, Try.ntmps18
  go_wp2_with fail
  generalize (w.alloc (.cells #[.int .i64 a.kind, .int .i64 a.who, .int .i64 a.gen, .int .i64 a.seq, .int .i64 a.epoch, .int .i64 a.value, .int .i64 a.metric] 68)).alloc (.cells #[.int .i64 b.kind, .int .i64 b.who, .int .i64 b.gen, .int .i64 b.seq, .int .i64 b.epoch, .int .i64 b.value, .int .i64 b.metric] 68) = w0 at *
  have HK : ∀ w' : World, Fr none_ w0 w' → (w'.cell? ⟨w.heap.size, 0, none⟩ = some (.int .i64 a.kind) ∧ w'.cell? ⟨w.heap.size, 1, none⟩ = some (.int .i64 a.who) ∧ w'.cell? ⟨w.heap.size, 2, none⟩ = some (.int .i64 a.gen) ∧ w'.cell? ⟨w.heap.size, 3, none⟩ = some (.int .i64 a.seq) ∧ w'.cell? ⟨w.heap.size, 4, none⟩ = some (.int .i64 a.epoch) ∧ w'.cell? ⟨w.heap.size, 5, none⟩ = some (.int .i64 a.value) ∧ w'.cell? ⟨w.heap.size, 6, none⟩ = some (.int .i64 a.metric)) ∧ (w'.cell? ⟨w.heap.size + 1, 0, none⟩ = some (.int .i64 b.kind) ∧ w'.cell? ⟨w.heap.size + 1, 1, none⟩ = some (.int .i64 b.who) ∧ w'.cell? ⟨w.heap.size + 1, 2, none⟩ = some (.int .i64 b.gen) ∧ w'.cell? ⟨w.heap.size + 1, 3, none⟩ = some (.int .i64 b.seq) ∧ w'.cell? ⟨w.heap.size + 1, 4, none⟩ = some (.int .i64 b.epoch) ∧ w'.cell? ⟨w.heap.size + 1, 5, none⟩ = some (.int .i64 b.value) ∧ w'.cell? ⟨w.heap.size + 1, 6, none⟩ = some (.int .i64 b.metric)) := fun w' hf => ⟨hA.at7 hf, hB.at7 hf⟩
  clear hA hB
  refine (HMa w0).mono ?_
  rintro e w1 ⟨rfl, hf1⟩
  cases hma : mayM a
  · go_wp2_with fail
    refine (told4_any _).mono ?_
    rintro e w2 ⟨rfl, hf2⟩
    go_wp2
    go_ret
    exact ⟨rfl, (hF.trans hf1).trans hf2⟩
  obtain ⟨⟨a0, a1, a2, a3, a4, a5, a6⟩, ⟨b0, b1, b2, b3, b4, b5, b6⟩⟩ := HK w1 hf1
  go_wp2_with fail
  clear a0 a1 a2 a3 a4 a5 a6 b0 b1 b2 b3 b4 b5 b6
  refine (HMb w1).mono ?_
  rintro e w2 ⟨rfl, hf2⟩
  cases hmb : mayM b
  · go_wp2_with fail
    refine (told4_any _).mono ?_
    rintro e w3 ⟨rfl, hf3⟩
    go_wp2
    go_ret
    exact ⟨rfl, ((hF.trans hf1).trans hf2).trans hf3⟩
  have hg2 := hf1.trans hf2
  obtain ⟨⟨a0, a1, a2, a3, a4, a5, a6⟩, ⟨b0, b1, b2, b3, b4, b5, b6⟩⟩ := HK w2 hg2
  have HP := wput_ok a w2 hma
  unfold msgv at HP
  go_wp2_with fail
  clear a0 a1 a2 a3 a4 a5 a6 b0 b1 b2 b3 b4 b5 b6
  refine HP.mono ?_
  rintro e w3 ⟨vp, rfl, hop, hf3⟩
  have hg3 := hg2.trans hf3
  obtain ⟨⟨a0, a1, a2, a3, a4, a5, a6⟩, ⟨b0, b1, b2, b3, b4, b5, b6⟩⟩ := HK w3 hg3
  have HQ := wput_ok b w3 hmb
  unfold msgv at HQ
  go_wp2_with fail
  clear a0 a1 a2 a3 a4 a5 a6 b0 b1 b2 b3 b4 b5 b6
  refine HQ.mono ?_
  rintro e w4 ⟨vq, rfl, hoq, hf4⟩
  have hg4 := hg3.trans hf4
  have HRp := Lib.hid (hop.kept hf4 (fun _ _ f => f)).rd
  have HRq := Lib.hid hoq.rd
  have hE : ((bs (msgB a)).toList == (bs (msgB b)).toList) = decide (a = b) := by
    rw [bs_toList, bs_toList, Bool.eq_iff_iff, beq_iff_eq, decide_eq_true_eq]
    exact ⟨fun h => msgB_inj hma hmb h, fun h => by rw [h]⟩
  generalize decide (a = b) = bz at *
  generalize msgB a = pa at *
  generalize msgB b = pb at *
  clear hop hoq HP HQ hf1 hf2 hf3 hf4 hg2 hg3 HMa HMb
  have HK4 : ∀ w' : World, Fr none_ w4 w' → (w'.cell? ⟨w.heap.size, 0, none⟩ = some (.int .i64 a.kind) ∧ w'.cell? ⟨w.heap.size, 1, none⟩ = some (.int .i64 a.who) ∧ w'.cell? ⟨w.heap.size, 2, none⟩ = some (.int .i64 a.gen) ∧ w'.cell? ⟨w.heap.size, 3, none⟩ = some (.int .i64 a.seq) ∧ w'.cell? ⟨w.heap.size, 4, none⟩ = some (.int .i64 a.epoch) ∧ w'.cell? ⟨w.heap.size, 5, none⟩ = some (.int .i64 a.value) ∧ w'.cell? ⟨w.heap.size, 6, none⟩ = some (.int .i64 a.metric)) ∧ (w'.cell? ⟨w.heap.size + 1, 0, none⟩ = some (.int .i64 b.kind) ∧ w'.cell? ⟨w.heap.size + 1, 1, none⟩ = some (.int .i64 b.who) ∧ w'.cell? ⟨w.heap.size + 1, 2, none⟩ = some (.int .i64 b.gen) ∧ w'.cell? ⟨w.heap.size + 1, 3, none⟩ = some (.int .i64 b.seq) ∧ w'.cell? ⟨w.heap.size + 1, 4, none⟩ = some (.int .i64 b.epoch) ∧ w'.cell? ⟨w.heap.size + 1, 5, none⟩ = some (.int .i64 b.value) ∧ w'.cell? ⟨w.heap.size + 1, 6, none⟩ = some (.int .i64 b.metric)) := fun w' hf => HK w' (hg4.trans hf)
  have HF4 := Lib.hid (hF.trans hg4)
  have hg0 := (Fr.refl none_ w4).drew
  clear HK hF hg4
  go_wp2_with fail
  refine region_tm [0, 11, 13] [] [0, 1, 2, 6, 10, 18, 32, 96, 160, 288, 512, 1536, 512, 4608, 10752, 512, 512, 98816, 147968, 262656, 1048575] [0, 2097150, 2097149, 2097145, 2097141, 2097135, 2097119, 2097055, 2096991, 2096895, 2096639, 0, 2096639, 0, 2086399, 2096639, 2096639, 1998335, 1949183, 1834495, 1572863] [0, 1, 3, 7, 15, 31, 63, 127, 255, 511, 1023, 2047, 1023, 5119, 16383, 1023, 1023, 99327, 262143, 524287, 1048575] 2097151 (.alt 0 (.quiet 1 (.quiet 2 (.quiet 3 (.quiet 4 (.quiet 5 (.quiet 6 (.quiet 7 (.quiet 8 (.quiet 9 (.quiet 10 (.quiet 12 (.quiet 15 (.quiet 16 (.quiet 17 (.alt 11 (.alt 13 (.quiet 14 (.quiet 18 (.quiet 19 (.quiet 20 .done)))) (.fin)) (.alt 13 (.alt 11 (.quiet 14 (.quiet 18 (.quiet 19 (.quiet 20 .done)))) (.fin)) (.fin))))))))))))))))) (.fin)) (fun w' => (w'.cell? ⟨w.heap.size, 0, none⟩ = some (.int .i64 a.kind) ∧ w'.cell? ⟨w.heap.size, 1, none⟩ = some (.int .i64 a.who) ∧ w'.cell? ⟨w.heap.size, 2, none⟩ = some (.int .i64 a.gen) ∧ w'.cell? ⟨w.heap.size, 3, none⟩ = some (.int .i64 a.seq) ∧ w'.cell? ⟨w.heap.size, 4, none⟩ = some (.int .i64 a.epoch) ∧ w'.cell? ⟨w.heap.size, 5, none⟩ = some (.int .i64 a.value) ∧ w'.cell? ⟨w.heap.size, 6, none⟩ = some (.int .i64 a.metric)) ∧ (w'.cell? ⟨w.heap.size + 1, 0, none⟩ = some (.int .i64 b.kind) ∧ w'.cell? ⟨w.heap.size + 1, 1, none⟩ = some (.int .i64 b.who) ∧ w'.cell? ⟨w.heap.size + 1, 2, none⟩ = some (.int .i64 b.gen) ∧ w'.cell? ⟨w.heap.size + 1, 3, none⟩ = some (.int .i64 b.seq) ∧ w'.cell? ⟨w.heap.size + 1, 4, none⟩ = some (.int .i64 b.epoch) ∧ w'.cell? ⟨w.heap.size + 1, 5, none⟩ = some (.int .i64 b.value) ∧ w'.cell? ⟨w.heap.size + 1, 6, none⟩ = some (.int .i64 b.metric))) (by as_aux_lemma => kernel_rfl) (by as_aux_lemma => kernel_rfl) (by as_aux_lemma => kernel_rfl) (by as_aux_lemma => kernel_rfl) (by as_aux_lemma => kernel_rfl) (by as_aux_lemma => kernel_rfl) (by as_aux_lemma => kernel_rfl) (by as_aux_lemma => kernel_rfl) (by first | exact HK4 _ hg5 | exact HK4 _ hg0) ?_
  repeat' (first
    | (refine t_float (v := ?_) (a' := ?_) rfl rfl rfl ?_ ?_ ?_
       rotate_left 2
       · (intro w' hU; (try dsimp only at hU); go_simp; with_reducible rfl)
       · (simp only [Act.put, List.setIfInBounds_toArray, List.set_cons_zero, List.set_cons_succ]; rfl))
    | (refine t_bound (v := ?_) (a' := ?_) rfl rfl rfl ?_ ?_ ?_
       rotate_left 2
       · (go_simp; with_reducible rfl)
       · (simp only [Act.put, List.setIfInBounds_toArray, List.set_cons_zero, List.set_cons_succ]; rfl))
    | (refine t_skip (a' := ?_) rfl rfl ?_ ?_
       rotate_left 1
       · (simp only [Act.put, List.setIfInBounds_toArray, List.set_cons_zero, List.set_cons_succ]; rfl))
    | exact t_fin
    | (refine t_acts rfl rfl (fun K hK => ?_) ?_
       first | ((first | (refine wp_str _ _ 25 9 5 rfl Try.underlying25 Try.underlying5 Try.underlying9 vp pa rfl (HRp.out.kept hg5 (fun _ _ _ _ f => f)) ?_) | (refine wp_str _ _ 25 9 5 rfl Try.underlying25 Try.underlying5 Try.underlying9 vq pb rfl (HRq.out.kept hg5 (fun _ _ _ _ f => f)) ?_)); simp only [Act.put, List.setIfInBounds_toArray, List.set_cons_zero, List.set_cons_succ]) | (go_simp; try (go_wp2_with ((go_at_call 52; refine (told4_any _).mono ?_; rintro e w5 ⟨rfl, hf5⟩; have hg5 := hg0.trans hf5))))
       refine hK.out _ _ (by first | exact HK4 _ hg5 | exact HK4 _ hg0) ?_
       clear hK K))
  all_goals (refine t_done ?_)
  all_goals
    go_wp2
    go_ret
    exact ⟨rfl, HF4.out.trans hg5⟩

namespace wireKinds
open Go Go.ChangeShapes Go.WideShapes Go.ChangeAt Go.RowKit
set_option linter.unusedVariables false
set_option maxRecDepth 100000 in
theorem lifted (os : Os) (started : os.Started) (H : Type) (enc : TypeId × Value → H) :
    ReturnsInHanded {} Try.checked os 18 .any (Rows.wireKindsSpec.pre6 enc Try.prog Try.f18 Rows.wireKindsRow.domain false) (Rows.wireKindsSpec.post enc Try.prog Try.f18 false true false false) := by
  refine returnsInHanded_of_change (C := Try.checked) owned started (by kernel_rfl) Try.func18
    (ChangeSpec.witness6 (enc := enc) (C := Try.checked) false ⟨#[], #[.agg #[.int .i64 0, .int .i64 0, .int .i64 0, .int .i64 0, .int .i64 0, .int .i64 0, .int .i64 0], .agg #[.int .i64 0, .int .i64 0, .int .i64 0, .int .i64 0, .int .i64 0, .int .i64 0, .int .i64 0]], []⟩ 8 (by kernel_rfl) (by kernel_rfl) (by kernel_rfl) (by kernel_rfl)) ?_
  intro W base args ds gs before hval0 hW hcnd _
  have hval : ∀ (j : Nat) t v, Try.f18.params[j]? = some t → args[j]? = some v → Value.okWide Try.prog W .any base t v := hval0
  have hW' := hW
  obtain ⟨p, q, hA0, hV, rfl, hfz, hnd⟩ := hW
  have hA : DataW.TrodAll enc Try.prog W 0 (fun _ => true) true Try.f18.params.toList args.toList ds p := hA0
  rw [Try.params18] at hA hval
  obtain ⟨v0, vs0, d0, ds0, p0, q0, hargs, rfl, rfl, h0, r0⟩ := trodAll_cons hA
  obtain ⟨v1, vs1, d1, ds1, p1, q1, rfl, rfl, rfl, h1, r1⟩ := trodAll_cons r0
  obtain ⟨rfl, rfl, rfl⟩ := trodAll_nil r1
  obtain rfl : args = #[v0, v1] := by cases args; simp_all
  obtain ⟨rfl, rfl⟩ := trodVars_none hV
  have k0 := h0
  have lt0 : ∀ x ∈ p0, x.block < W.heap.size := by obtain ⟨m, hm⟩ := k0; exact DataW.trod_lt m _ _ _ hm
  have k1 := h1
  have lt1 : ∀ x ∈ p1, x.block < W.heap.size := by obtain ⟨m, hm⟩ := k1; exact DataW.trod_lt m _ _ _ hm
  obtain ⟨x0, hx0, rfl⟩ := open_msg Try.underlying68 (by kernel_rfl) (by kernel_rfl) (by kernel_rfl) (hval 0 68 v0 rfl rfl) h0
  obtain ⟨x1, hx1, rfl⟩ := open_msg Try.underlying68 (by kernel_rfl) (by kernel_rfl) (by kernel_rfl) (hval 1 68 v1 rfl rfl) h1
  clear hA0 hval0
  refine (walk_WireKinds W x0 hx0 x1 hx1).mono fun e W' ⟨he, fr⟩ => ?_
  subst he
  have bel := fr.below
  exact ⟨_, rfl, _, _, _, [], _, [], hW', trodAll_mk1 (shut_bool Try.underlying4 _), (trodAll_cons_mk (Below.trod laid (by kernel_rfl) (of_decide_eq_true (by kernel_rfl)) k0 bel lt0) (trodAll_cons_mk (Below.trod laid (by kernel_rfl) (of_decide_eq_true (by kernel_rfl)) k1 bel lt1) trodAll_mk0)), rfl, bel.frame _, fun h => by cases h⟩

theorem inPlace : Try.prog.inPlace 18 = [] := inPlace_none _ _ (by kernel_rfl)
theorem closed : joinedFacts Try.prog 18 Try.f18 Rows.wireKindsSpec Rows.wireKindsRow = true := by
  unfold joinedFacts
  repeat' (with_reducible refine and_mk ?_ ?_)
  all_goals first
    | with_reducible exact enters
    | with_reducible exact laid
    | with_reducible exact rowed
    | with_reducible exact noStops
    | with_reducible exact noKnobs
    | with_reducible exact heard
    | (rw [lifts]; as_aux_lemma => kernel_rfl)
    | (rw [makes]; as_aux_lemma => kernel_rfl)
    | (rw [plains]; as_aux_lemma => kernel_rfl)
    | (rw [inPlace]; as_aux_lemma => kernel_rfl)
    | as_aux_lemma => kernel_rfl
theorem named : Try.prog.funcNamed Rows.wireKindsRow.func = some 18 := by kernel_rfl
theorem isOne : (Try.f18).isInstance Try.prog Rows.wireKindsRow.origin Rows.wireKindsRow.targs := of_decide_eq_true (by kernel_rfl)
theorem wraps : (Try.f18).isWrapper Try.prog Rows.wireKindsRow.wrapper Rows.wireKindsRow.mainSum := by unfold Func.isWrapper; first | (rw [if_pos (by decide +kernel)]; kernel_rfl) | (rw [if_neg (by decide +kernel)]; exact ⟨rfl, rfl⟩)
theorem over : Rows.wireKindsRow.holds Try.pinned (OpenSpec.ofChange Rows.wireKindsSpec) :=
  OpenClaim.holds_of_wide 18 Try.f18 rfl rfl rfl rfl rfl rfl rfl ⟨rfl, rfl, rfl, rfl, rfl⟩ rfl rfl rfl rfl rfl named Try.func18 closed
    isOne wraps
    (fun os started H enc _ => lifted os started H enc)

/-- THE STATEMENT. -/
theorem proved : Rows.WireKindsSaid := over
#print axioms proved
end wireKinds
end Go.Proofs.Ytandenkoejbloaa
