/- For every input the law quorumitelaw2.MacBytes returns true: bytes of two tags are the same just if the tags are. Conditions: none. -/
import Derived.Test.YtandenkoejbloaaTold2
import Derived.Test.YtandenkoejbloaaFacts
namespace Go.Proofs.Ytandenkoejbloaa
open Go Go.RowKit

theorem xor_self_iff (a x : W) : (a ^^^ x = a) ↔ x = 0 := by
  constructor
  · intro h
    have h2 := congrArg (fun y => a ^^^ y) h
    simpa [← BitVec.xor_assoc] using h2
  · rintro rfl; simp
/-- A tag, one of its words turned. -/
def turned (t : W × W) (m : Nat) (x : W) : W × W := if m = 0 then (t.1 ^^^ x, t.2) else (t.1, t.2 ^^^ x)
theorem turned_iff (t : W × W) (m : Nat) (x : W) : t = turned t m x ↔ x = 0 := by
  unfold turned
  split
  · constructor
    · intro h; exact (xor_self_iff t.1 x).1 (congrArg Prod.fst h).symm
    · rintro rfl; simp
  · constructor
    · intro h; exact (xor_self_iff t.2 x).1 (congrArg Prod.snd h).symm
    · rintro rfl; simp

set_option maxRecDepth 100000 in
set_option maxHeartbeats 30000000 in
theorem walk_MacBytes (w : World) (t : W × W) (q : Int) (_ : -9223372036854775808 ≤ q) (_ : q ≤ 9223372036854775807) (x : W) :
    Calls Try.prog 9 #[.agg #[.int .u64 (u t.1), .int .u64 (u t.2)], .int .i64 q, .int .u64 (u x)] w fun e w' => e = .returned (.bool true) ∧ Fr none_ w w' := by
  obtain ⟨m, hm, hmod⟩ := modN 2 (by decide) q
  have hmod : (IntKind.u64.wrap q).tmod 2 = (m : Int) := hmod
  have hZ : (u x == 0) = decide (turned t m x = t) := by
    rw [show (0 : Int) = u (0 : W) from by decide, u_beq]
    have := turned_iff t m x
    rw [Bool.eq_iff_iff, beq_iff_eq, decide_eq_true_eq, ← this]
    exact eq_comm
  have hE : ((bs (tagB t)).toList == (bs (tagB (turned t m x))).toList) = decide (turned t m x = t) := by
    rw [bs_toList, bs_toList, Bool.eq_iff_iff, beq_iff_eq, decide_eq_true_eq]
    exact ⟨fun h => (tagB_inj h).symm, fun h => by rw [h]⟩
  have HSm : ∀ wa : World, Calls Try.prog 41 #[keyv t, keyv (turned t m x)] wa fun e w' => e = .returned (.bool (decide (turned t m x = t))) ∧ Fr none_ wa w' := fun wa => by
    have h : (t.1 == (turned t m x).1 && t.2 == (turned t m x).2) = decide (turned t m x = t) := by
      rw [Bool.eq_iff_iff, Bool.and_eq_true, beq_iff_eq, beq_iff_eq, decide_eq_true_eq]
      exact ⟨fun h => (Prod.ext h.1 h.2).symm, fun h => by rw [h]; exact ⟨rfl, rfl⟩⟩
    rw [← h]; exact msame_any t (turned t m x) wa
  have hcell : (m = 0 ∧ turned t m x = (t.1 ^^^ x, t.2)) ∨ (m = 1 ∧ turned t m x = (t.1, t.2 ^^^ x)) := by
    unfold turned
    rcases (show m = 0 ∨ m = 1 by omega) with rfl | rfl
    · exact .inl ⟨rfl, rfl⟩
    · exact .inr ⟨rfl, rfl⟩
  generalize decide (turned t m x = t) = bz at *
  generalize turned t m x = s at *
  unfold keyv at HSm
  have HE := Lib.hid hE
  clear hE
  go_enter Try.func9, Try.ntmps9
  rcases hcell with ⟨rfl, hs⟩ | ⟨rfl, hs⟩
  case' inl =>
    go_wp2_with fail
    have hB := (Blk.new w #[.int .u64 (u t.1), .int .u64 (u t.2)] 23).alloc (.cells #[.int .u64 (u (t.1 ^^^ x)), .int .u64 (u t.2)] 23)
    have hS := Blk.new (w.alloc (.cells #[.int .u64 (u t.1), .int .u64 (u t.2)] 23)) #[.int .u64 (u (t.1 ^^^ x)), .int .u64 (u t.2)] 23
    have hF := ((Fr.refl none_ w).alloc (.cells #[.int .u64 (u t.1), .int .u64 (u t.2)] 23)).alloc (.cells #[.int .u64 (u (t.1 ^^^ x)), .int .u64 (u t.2)] 23)
    rw [World.size_alloc] at hS
    generalize (w.alloc (.cells #[.int .u64 (u t.1), .int .u64 (u t.2)] 23)).alloc (.cells #[.int .u64 (u (t.1 ^^^ x)), .int .u64 (u t.2)] 23) = w0 at *
    replace hS : Blk w0 (w.heap.size + 1) 23 [.int .u64 (u s.1), .int .u64 (u s.2)] := by rw [hs]; exact hS
  case' inr =>
    go_wp2_with fail
    have hB := (Blk.new w #[.int .u64 (u t.1), .int .u64 (u t.2)] 23).alloc (.cells #[.int .u64 (u t.1), .int .u64 (u (t.2 ^^^ x))] 23)
    have hS := Blk.new (w.alloc (.cells #[.int .u64 (u t.1), .int .u64 (u t.2)] 23)) #[.int .u64 (u t.1), .int .u64 (u (t.2 ^^^ x))] 23
    have hF := ((Fr.refl none_ w).alloc (.cells #[.int .u64 (u t.1), .int .u64 (u t.2)] 23)).alloc (.cells #[.int .u64 (u t.1), .int .u64 (u (t.2 ^^^ x))] 23)
    rw [World.size_alloc] at hS
    generalize (w.alloc (.cells #[.int .u64 (u t.1), .int .u64 (u t.2)] 23)).alloc (.cells #[.int .u64 (u t.1), .int .u64 (u (t.2 ^^^ x))] 23) = w0 at *
    replace hS : Blk w0 (w.heap.size + 1) 23 [.int .u64 (u s.1), .int .u64 (u s.2)] := by rw [hs]; exact hS
  all_goals
    have hbl := hB.lt
    have hbt := hS.lt
    have HU := Lib.hid (show w0.cell? ⟨w.heap.size, 0, none⟩ = some (.int .u64 (u t.1)) ∧ w0.cell? ⟨w.heap.size, 1, none⟩ = some (.int .u64 (u t.2)) ∧ w0.cell? ⟨w.heap.size + 1, 0, none⟩ = some (.int .u64 (u s.1)) ∧ w0.cell? ⟨w.heap.size + 1, 1, none⟩ = some (.int .u64 (u s.2)) from ⟨hB.cell_of rfl, hB.cell_of rfl, hS.cell_of rfl, hS.cell_of rfl⟩)
    have HF := Lib.hid hF
    clear hB hS hF hs
    have hE := HE.out
    refine region_tm [0, 3, 4, 6, 7, 16] [2, 14, 15] [0, 1, 2, 6, 10, 2, 42, 66, 146, 2, 514, 1282, 2050, 4160, 8192, 8192, 57344, 8192, 139264, 335872, 532480, 2097151] [0, 4194302, 4194301, 0, 0, 4194301, 0, 0, 4194157, 4194301, 4193789, 4193021, 4192253, 4190207, 4186111, 4186111, 0, 4186111, 4055039, 3858431, 3661823, 3145727] [0, 1, 3, 7, 15, 3, 47, 111, 255, 3, 515, 2047, 4095, 8191, 16383, 16383, 65535, 16383, 147455, 524287, 1048575, 2097151] 4194303 (.alt 0 (.quiet 1 (.quiet 2 (.quiet 5 (.quiet 9 (.quiet 10 (.alt 3 (.alt 4 (.alt 6 (.alt 7 (.quiet 8 (.quiet 11 (.quiet 12 (.quiet 13 (.quiet 14 (.quiet 15 (.quiet 17 (.quiet 18 (.alt 16 (.quiet 19 (.quiet 20 (.quiet 21 .done))) (.fin)))))))))) (.fin)) (.fin)) (.alt 6 (.alt 4 (.alt 7 (.quiet 8 (.quiet 11 (.quiet 12 (.quiet 13 (.quiet 14 (.quiet 15 (.quiet 17 (.quiet 18 (.alt 16 (.quiet 19 (.quiet 20 (.quiet 21 .done))) (.fin)))))))))) (.fin)) (.alt 7 (.alt 4 (.quiet 8 (.quiet 11 (.quiet 12 (.quiet 13 (.quiet 14 (.quiet 15 (.quiet 17 (.quiet 18 (.alt 16 (.quiet 19 (.quiet 20 (.quiet 21 .done))) (.fin)))))))))) (.fin)) (.fin))) (.fin))) (.fin))))))) (.fin)) (fun w' => w'.cell? ⟨w.heap.size, 0, none⟩ = some (.int .u64 (u t.1)) ∧ w'.cell? ⟨w.heap.size, 1, none⟩ = some (.int .u64 (u t.2)) ∧ w'.cell? ⟨w.heap.size + 1, 0, none⟩ = some (.int .u64 (u s.1)) ∧ w'.cell? ⟨w.heap.size + 1, 1, none⟩ = some (.int .u64 (u s.2))) (by as_aux_lemma => kernel_rfl) (by as_aux_lemma => kernel_rfl) (by as_aux_lemma => kernel_rfl) (by as_aux_lemma => kernel_rfl) (by as_aux_lemma => kernel_rfl) (by as_aux_lemma => kernel_rfl) (by as_aux_lemma => kernel_rfl) (by as_aux_lemma => kernel_rfl) (by first | with_reducible exact cells4_kept hg4 hbl hbt HU.out | with_reducible exact cells4_kept hg3 hbl hbt HU.out | with_reducible exact cells4_kept hg2 hbl hbt HU.out | with_reducible exact cells4_kept hg1 hbl hbt HU.out | exact HU.out) ?_
    repeat' (first
      | (refine t_float (v := ?_) (a' := ?_) rfl rfl rfl ?_ ?_ ?_
         rotate_left 2
         · (intro w' hU; (try dsimp only at hU); go_simp; with_reducible rfl)
         · (simp only [Act.put, List.setIfInBounds_toArray, List.set_cons_zero, List.set_cons_succ]; rfl))
      | (refine t_bound (v := ?_) (a' := ?_) rfl rfl rfl ?_ ?_ ?_
         rotate_left 2
         · (go_simp; with_reducible rfl)
         · (simp only [Act.put, List.setIfInBounds_toArray, List.set_cons_zero, List.set_cons_succ]; rfl))
      | (refine t_skip (a' := ?_) rfl rfl ?_ ?_
         rotate_left 1
         · (simp only [Act.put, List.setIfInBounds_toArray, List.set_cons_zero, List.set_cons_succ]; rfl))
      | exact t_fin
      | (refine t_acts rfl rfl (fun K hK => ?_) ?_
         first | ((first | (refine wp_str _ _ 25 9 5 rfl Try.underlying25 Try.underlying5 Try.underlying9 v3 (tagB s) rfl ho3.rd ?_) | (refine wp_str _ _ 25 9 5 rfl Try.underlying25 Try.underlying5 Try.underlying9 v2 (tagB t) rfl (ho2.kept hf3 (fun _ _ f => f)).rd ?_) | (refine wp_str _ _ 25 9 5 rfl Try.underlying25 Try.underlying5 Try.underlying9 v2 (tagB t) rfl ho2.rd ?_)); simp only [Act.put, List.setIfInBounds_toArray, List.set_cons_zero, List.set_cons_succ]) | (go_simp; try (go_wp2_with (first | (go_at_call 41; have hq := hf3; refine (HSm _).mono ?_; clear hq; rintro e w4 ⟨rfl, hf4⟩; have hg4 := hg3.trans hf4) | (go_at_call 40; have hq := hf2; refine (mbytes_any s _).mono ?_; clear hq; rintro e w3 ⟨v3, rfl, ho3, hf3⟩; have hg3 := hg2.trans hf3; obtain ⟨z0, z1, z2, z3⟩ := cells4_kept hg3 hbl hbt HU.out) | (go_at_call 40; have hq := hf1; refine (mbytes_any t _).mono ?_; clear hq; rintro e w2 ⟨v2, rfl, ho2, hf2⟩; have hg2 := hg1.trans hf2; obtain ⟨y0, y1, y2, y3⟩ := cells4_kept hg2 hbl hbt HU.out) | (go_at_call 39; refine (told2_any _).mono ?_; rintro e w1 ⟨rfl, hf1⟩; have hg1 := (Fr.refl none_ w0).drew.trans hf1; obtain ⟨x0, x1, x2, x3⟩ := cells4_kept hg1 hbl hbt HU.out))))
         refine hK.out _ _ (by first | with_reducible exact cells4_kept hg4 hbl hbt HU.out | with_reducible exact cells4_kept hg3 hbl hbt HU.out | with_reducible exact cells4_kept hg2 hbl hbt HU.out | with_reducible exact cells4_kept hg1 hbl hbt HU.out | exact HU.out) ?_
         clear hK K))
    all_goals (refine t_done ?_)
    all_goals
      go_wp2
      go_ret
      exact ⟨rfl, HF.out.trans hg4⟩

namespace macBytes
open Go Go.ChangeShapes Go.WideShapes Go.ChangeAt Go.RowKit
set_option linter.unusedVariables false
set_option maxRecDepth 100000 in
theorem lifted (os : Os) (started : os.Started) (H : Type) (enc : TypeId × Value → H) :
    ReturnsInHanded {} Try.checked os 9 .any (Rows.macBytesSpec.pre6 enc Try.prog Try.f9 Rows.macBytesRow.domain false) (Rows.macBytesSpec.post enc Try.prog Try.f9 false true false false) := by
  refine returnsInHanded_of_change (C := Try.checked) owned started (by kernel_rfl) Try.func9
    (ChangeSpec.witness6 (enc := enc) (C := Try.checked) false ⟨#[], #[.agg #[.int .u64 0, .int .u64 0], .int .i64 0, .int .u64 0], []⟩ 8 (by kernel_rfl) (by kernel_rfl) (by kernel_rfl) (by kernel_rfl)) ?_
  intro W base args ds gs before hval0 hW hcnd _
  have hval : ∀ (j : Nat) t v, Try.f9.params[j]? = some t → args[j]? = some v → Value.okWide Try.prog W .any base t v := hval0
  have hW' := hW
  obtain ⟨p, q, hA0, hV, rfl, hfz, hnd⟩ := hW
  have hA : DataW.TrodAll enc Try.prog W 0 (fun _ => true) true Try.f9.params.toList args.toList ds p := hA0
  rw [Try.params9] at hA hval
  obtain ⟨v0, vs0, d0, ds0, p0, q0, hargs, rfl, rfl, h0, r0⟩ := trodAll_cons hA
  obtain ⟨v1, vs1, d1, ds1, p1, q1, rfl, rfl, rfl, h1, r1⟩ := trodAll_cons r0
  obtain ⟨v2, vs2, d2, ds2, p2, q2, rfl, rfl, rfl, h2, r2⟩ := trodAll_cons r1
  obtain ⟨rfl, rfl, rfl⟩ := trodAll_nil r2
  obtain rfl : args = #[v0, v1, v2] := by cases args; simp_all
  obtain ⟨rfl, rfl⟩ := trodVars_none hV
  have k0 := h0
  have lt0 : ∀ x ∈ p0, x.block < W.heap.size := by obtain ⟨m, hm⟩ := k0; exact DataW.trod_lt m _ _ _ hm
  have k1 := h1
  have lt1 : ∀ x ∈ p1, x.block < W.heap.size := by obtain ⟨m, hm⟩ := k1; exact DataW.trod_lt m _ _ _ hm
  have k2 := h2
  have lt2 : ∀ x ∈ p2, x.block < W.heap.size := by obtain ⟨m, hm⟩ := k2; exact DataW.trod_lt m _ _ _ hm
  obtain ⟨x0, rfl⟩ := open_arr2 Try.underlying23 Try.underlying22 (by kernel_rfl) (by kernel_rfl) (hval 0 23 v0 rfl rfl) h0
  obtain ⟨x1, rfl, bl1, bh1⟩ := open_num Try.underlying3 (hval 1 3 v1 rfl rfl) h1
  obtain ⟨x2, rfl⟩ := open_word Try.underlying22 (hval 2 22 v2 rfl rfl) h2
  clear hA0 hval0
  refine (walk_MacBytes W x0 x1 bl1 bh1 x2).mono fun e W' ⟨he, fr⟩ => ?_
  subst he
  have bel := fr.below
  exact ⟨_, rfl, _, _, _, [], _, [], hW', trodAll_mk1 (shut_bool Try.underlying4 _), (trodAll_cons_mk (Below.trod laid (by kernel_rfl) (of_decide_eq_true (by kernel_rfl)) k0 bel lt0) (trodAll_cons_mk (Below.trod laid (by kernel_rfl) (of_decide_eq_true (by kernel_rfl)) k1 bel lt1) (trodAll_cons_mk (Below.trod laid (by kernel_rfl) (of_decide_eq_true (by kernel_rfl)) k2 bel lt2) trodAll_mk0))), rfl, bel.frame _, fun h => by cases h⟩

theorem inPlace : Try.prog.inPlace 9 = [] := inPlace_none _ _ (by kernel_rfl)
theorem closed : joinedFacts Try.prog 9 Try.f9 Rows.macBytesSpec Rows.macBytesRow = true := by
  unfold joinedFacts
  repeat' (with_reducible refine and_mk ?_ ?_)
  all_goals first
    | with_reducible exact enters
    | with_reducible exact laid
    | with_reducible exact rowed
    | with_reducible exact noStops
    | with_reducible exact noKnobs
    | with_reducible exact heard
    | (rw [lifts]; as_aux_lemma => kernel_rfl)
    | (rw [makes]; as_aux_lemma => kernel_rfl)
    | (rw [plains]; as_aux_lemma => kernel_rfl)
    | (rw [inPlace]; as_aux_lemma => kernel_rfl)
    | as_aux_lemma => kernel_rfl
theorem named : Try.prog.funcNamed Rows.macBytesRow.func = some 9 := by kernel_rfl
theorem isOne : (Try.f9).isInstance Try.prog Rows.macBytesRow.origin Rows.macBytesRow.targs := of_decide_eq_true (by kernel_rfl)
theorem wraps : (Try.f9).isWrapper Try.prog Rows.macBytesRow.wrapper Rows.macBytesRow.mainSum := by unfold Func.isWrapper; first | (rw [if_pos (by decide +kernel)]; kernel_rfl) | (rw [if_neg (by decide +kernel)]; exact ⟨rfl, rfl⟩)
theorem over : Rows.macBytesRow.holds Try.pinned (OpenSpec.ofChange Rows.macBytesSpec) :=
  OpenClaim.holds_of_wide 9 Try.f9 rfl rfl rfl rfl rfl rfl rfl ⟨rfl, rfl, rfl, rfl, rfl⟩ rfl rfl rfl rfl rfl named Try.func9 closed
    isOne wraps
    (fun os started H enc _ => lifted os started H enc)

/-- THE STATEMENT. -/
theorem proved : Rows.MacBytesSaid := over
#print axioms proved
end macBytes
end Go.Proofs.Ytandenkoejbloaa
