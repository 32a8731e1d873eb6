/- For every input the law quorumitelaw1.SipParts returns true: what is written in parts has the sum of all, asked at any time. Conditions: none. -/
import Derived.Test.YtandenkoejbloaaRegM
import Derived.Test.YtandenkoejbloaaFacts
import Derived.Test.YtandenkoejbloaaOpenR
import Derived.Test.YtandenkoejbloaaHash
namespace Go.Proofs.Ytandenkoejbloaa
open Go Go.RowKit

theorem cells3_kept {w w' : World} {b c : Nat} {o : Nat} {x y z : Value} (hf : Fr none_ w w') (hb : b < w.heap.size) (hc : c < w.heap.size) (h : w.cell? ⟨b, 0, none⟩ = some x ∧ w.cell? ⟨b, 1, none⟩ = some y ∧ w.cell? ⟨c, o, none⟩ = some z) :
    w'.cell? ⟨b, 0, none⟩ = some x ∧ w'.cell? ⟨b, 1, none⟩ = some y ∧ w'.cell? ⟨c, o, none⟩ = some z :=
  ⟨(hf.cell hb (fun f => f)).trans h.1, (hf.cell hb (fun f => f)).trans h.2.1, (hf.cell hc (fun f => f)).trans h.2.2⟩

set_option maxRecDepth 100000 in
set_option maxHeartbeats 30000000 in
theorem walk_SipParts (w : World) (k : W × W) (v1 : Value) (L : List (Value × List UInt8)) (h1 : Rd w v1 (L.map (·.1)) ∧ ∀ q ∈ L, Rd w q.1 (q.2.map bv)) :
    Calls Try.prog 4 #[.agg #[.int .u64 (u k.1), .int .u64 (u k.2)], v1] w fun e w' => e = .returned (.bool true) ∧ Fr none_ w w' := by
  obtain ⟨i0, hi, hz0, hz1, hz2⟩ := info_parts info_u8
  obtain ⟨h1, h2⟩ := h1
  have H1 := Lib.hid (h1.alloc (.cells #[.int .u64 (u k.1), .int .u64 (u k.2)] 23))
  have H2 := Lib.hid (fun q hq => (h2 q hq).alloc (.cells #[.int .u64 (u k.1), .int .u64 (u k.2)] 23))
  obtain ⟨ao1, cap1, rfl, hc1, hm1, _⟩ := h1
  clear h2
  simp only [List.length_map] at *
  unfold maxLen at hm1
  have hB := Blk.new w #[.int .u64 (u k.1), .int .u64 (u k.2)] 23
  have HB := Lib.hid hB
  have HF := Lib.hid ((Fr.refl none_ w).alloc (.cells #[.int .u64 (u k.1), .int .u64 (u k.2)] 23))
  clear hB
  go_enter Try.func4, Try.ntmps4
  go_wp2_with fail
  refine (hnew_any k _).mono ?_
  rintro e w1 ⟨b, rfl, hs1, hb1, hx1, hf1⟩
  generalize w.alloc (.cells #[.int .u64 (u k.1), .int .u64 (u k.2)] 23) = w0 at *
  have HF1 := Lib.hid hf1
  have HX1 := Lib.hid (hx1 w0.heap.size)
  have HB0 := Lib.hid hs1
  clear hf1 hx1 hs1
  by_cases hl1 : 12 < L.length
  · have hd : decide ((12 : Int) < (L.length : Int)) = true := by simp; omega
    go_wp2_with fail
    refine (told1_any _).mono ?_
    rintro e w3 ⟨rfl, hf⟩
    go_wp2
    go_ret
    exact ⟨rfl, (HF.out.trans HF1.out).trans hf⟩
  have hd : decide ((12 : Int) < (L.length : Int)) = false := by simp; omega
  go_wp2_with fail
  go_loopw [6, 7] (fun v i wr => ∃ (j : Nat) (left : Value), j ≤ L.length ∧ i = .int .i64 j ∧ Own wr w0.heap.size 5 v (((L.take j).flatMap (·.2)).map bv) ∧ HashAt wr w0.heap.size b k left ((L.take j).flatMap (·.2)) ∧
    (∀ q, v.ownBlock = some q → left.ownBlock ≠ some q) ∧ ((L.take j).flatMap (·.2)).length ≤ 40 * j ∧ Fr none_ w0 wr) (fun _ i _ => L.length - (intOf i).toNat)
  case atStart => exact ⟨0, _, Nat.zero_le _, rfl, Own.nil _ _ _, HX1.out, (fun q h => by cases h), by simp, HF1.out⟩
  case round =>
    clear HX1 HF1
    obtain ⟨j, left, hj, rfl, ho, hh, hdis, hlen, hf⟩ := hrel
    by_cases hlt : j < L.length
    · have hlk : (j : Int) < (L.length : Int) := by omega
      obtain ⟨bl, ol, hao, hbl, hcell⟩ := H1.out.at_ (j := j) (x := L[j].1) (by simp [List.getElem?_eq_getElem hlt])
      subst hao
      have hrow := H2.out L[j] (List.getElem_mem hlt)
      have htake : (L.take (j + 1)).flatMap (·.2) = (L.take j).flatMap (·.2) ++ L[j].2 := by rw [List.take_succ_eq_append_getElem hlt, List.flatMap_append]; simp
      have HT := Lib.hid htake
      generalize L[j] = q at *
      obtain ⟨rv, row⟩ := q
      simp only at hcell hrow htake HT
      have HRow := Lib.hid hrow
      obtain ⟨aor, capr, rfl, hr1, hr2, _⟩ := hrow
      simp only [List.length_map] at *
      have hcr := (hf.cell hbl (fun f => f)).trans hcell
      have HO := Lib.hid ho
      have HH := Lib.hid hh
      have HD := Lib.hid hdis
      have HG := Lib.hid hf
      have HCell := Lib.hid hcell
      have HBL := Lib.hid hbl
      clear ho hh hdis hf hcell htake hbl
      by_cases hbig : 40 < row.length
      · have he : decide ((40 : Int) < (row.length : Int)) = true := by simp; omega
        go_wp2_with fail
        refine (told1_any _).mono ?_
        rintro e w3 ⟨rfl, hf⟩
        go_wp2
        go_ret
        exact ⟨rfl, (HF.out.trans HG.out).trans hf⟩
      have he : decide ((40 : Int) < (row.length : Int)) = false := by simp; omega
      go_wp2_with (first | (at_builtin; go_must (refine wpList_append_b _ rfl _ _ 25 25 rfl w0.heap.size 5 i0 (.int .u8 0) 1 Try.underlying25 hi hz0 hz1 hz2 rfl _ _ rfl HO.out (.slice aor row.length capr) rfl row.length (row.map bv) ?c1 ?c2 ?c3 ?c4 ?c5)))
      case c1 => have := src_of_rd (P := Try.prog) Try.underlying25 (HRow.out.kept HG.out (fun _ _ _ _ f => f)) (bvs_one row); rw [List.length_map] at this; exact this
      case c2 => rw [List.length_map]; unfold maxLen; omega
      case c3 => rw [List.length_map]; omega
      case c4 => exact HG.out.size
      intro v2 w2 ho2 hf2 hk2
      replace ho2 : Own w2 w0.heap.size 5 v2 (((L.take (j + 1)).flatMap (·.2)).map bv) := by rw [HT.out]; simpa only [List.map_append] using ho2
      have hg2 : Fr none_ w0 w2 := HG.out.step hf2 (fun i hi h => absurd (HO.out.blk _ h).1 (by omega))
      have hh2 := HH.out.kept hf2 (own_ne HO.out HH.out.1 (by decide)) (fun i h h' => HD.out i h' h)
      have hd2 : ∀ q, v2.ownBlock = some q → left.ownBlock ≠ some q := fun q hq h => (hk2 q hq).elim (fun h' => HD.out q h' h) (fun h' => absurd (HH.out.2.blk q h).2 (by omega))
      have hlen1 : ((L.take (j + 1)).flatMap (·.2)).length ≤ 40 * (j + 1) := by rw [HT.out, List.length_append]; omega
      have HU0 := Lib.hid (show w0.cell? ⟨w.heap.size, 0, none⟩ = some (.int .u64 (u k.1)) ∧ w0.cell? ⟨w.heap.size, 1, none⟩ = some (.int .u64 (u k.2)) ∧ w0.cell? ⟨bl, ol + j, none⟩ = some (.slice aor row.length capr) from ⟨HB.out.cell_of rfl, HB.out.cell_of rfl, HCell.out⟩)
      have hbB := HB.out.lt
      have hbl := HBL.out
      have hvb : row ≠ [] → (Value.slice aor row.length capr).ownBlock ≠ some b := fun hne h => by
        have q2 := HRow.out.lt (fun e => hne (List.map_eq_nil_iff.1 e)) b h
        have := HB0.out; omega
      generalize hF1 : (L.take (j + 1)).flatMap (·.2) = F1 at *
      generalize hF0 : (L.take j).flatMap (·.2) = F0 at *
      have HF1 := Lib.hid hF1
      clear hF1 hF0 hf2 hk2 HO HH HD hcr
      have ho2' := ho2.drew
      have hg2' := hg2.drew
      have hh2' : HashAt w2.drew w0.heap.size b k left F0 := hh2
      obtain ⟨p2, q2, r2⟩ := cells3_kept hg2 hbB hbl HU0.out
      go_wp2_with fail
      clear ho2 hg2 hh2
      have ho2 := ho2'
      have hg2 := hg2'
      have hh2 := hh2'
      clear ho2' hg2' hh2'
      refine region_tm [5, 14, 17, 22, 24] [4] [0, 0, 0, 6, 8, 17, 0, 0, 192, 256, 512, 1056, 2080, 4096, 12288, 4096, 4096, 118784, 151552, 266240, 655360, 1048576, 3145728, 1048576, 13631488, 22020096, 34603008] [134217727, 134217727, 134217727, 134217721, 134217719, 0, 134217727, 134217727, 134217535, 134217471, 134217215, 134216671, 134215679, 134213631, 0, 134213631, 134213631, 0, 134066175, 133951487, 133693439, 133169151, 0, 133169151, 0, 112197631, 99614719] [0, 0, 0, 6, 14, 31, 0, 0, 192, 448, 960, 2047, 4095, 8191, 16383, 8191, 8191, 131071, 262143, 524287, 1048575, 2097151, 4194303, 2097151, 16777215, 33554431, 67108863] 134217727 (.quiet 0 (.quiet 1 (.quiet 2 (.quiet 3 (.quiet 4 (.quiet 6 (.quiet 7 (.quiet 8 (.quiet 9 (.quiet 10 (.alt 5 (.quiet 11 (.quiet 12 (.quiet 13 (.quiet 15 (.quiet 16 (.alt 14 (.alt 17 (.quiet 18 (.quiet 19 (.quiet 20 (.quiet 21 (.quiet 23 (.alt 22 (.alt 24 (.quiet 25 (.quiet 26 .done)) (.fin)) (.fin))))))) (.fin)) (.fin))))))) (.fin)))))))))))) (fun w' => w'.cell? ⟨w.heap.size, 0, none⟩ = some (.int .u64 (u k.1)) ∧ w'.cell? ⟨w.heap.size, 1, none⟩ = some (.int .u64 (u k.2)) ∧ w'.cell? ⟨bl, ol + j, none⟩ = some (.slice aor row.length capr)) (by as_aux_lemma => kernel_rfl) (by as_aux_lemma => kernel_rfl) (by as_aux_lemma => kernel_rfl) (by as_aux_lemma => kernel_rfl) (by as_aux_lemma => kernel_rfl) (by as_aux_lemma => kernel_rfl) (by as_aux_lemma => kernel_rfl) (by as_aux_lemma => kernel_rfl) (by first | exact cells3_kept hg7 hbB hbl HU0.out | exact cells3_kept hg6 hbB hbl HU0.out | exact cells3_kept hg5 hbB hbl HU0.out | exact cells3_kept hg4 hbB hbl HU0.out | exact cells3_kept hg3 hbB hbl HU0.out | exact cells3_kept hg2 hbB hbl HU0.out) ?_
      repeat' (first
        | (refine t_float (v := ?_) (a' := ?_) rfl rfl rfl ?_ ?_ ?_
           rotate_left 2
           · (intro w' hU; (try dsimp only at hU); go_simp; with_reducible rfl)
           · (simp only [Act.put, List.setIfInBounds_toArray, List.set_cons_zero, List.set_cons_succ]; rfl))
        | (refine t_bound (v := ?_) (a' := ?_) rfl rfl rfl ?_ ?_ ?_
           rotate_left 2
           · (go_simp; with_reducible rfl)
           · (simp only [Act.put, List.setIfInBounds_toArray, List.set_cons_zero, List.set_cons_succ]; rfl))
        | (refine t_skip (a' := ?_) rfl rfl ?_ ?_
           rotate_left 1
           · (simp only [Act.put, List.setIfInBounds_toArray, List.set_cons_zero, List.set_cons_succ]; rfl))
        | exact t_fin
        | (refine t_acts rfl rfl (fun K hK => ?_) ?_
           go_simp; try (go_wp2_with (first | (go_at_call 37; (refine (hwrite_any b k left F0 (.slice aor row.length capr) row w0.heap.size _ hh2 hg2.size (HRow.out.kept hg2 (fun _ _ _ _ f => f)) hvb (by omega)).mono ?_; rintro e w3 ⟨rfl, left3, hh3, hk3, hf3⟩; rw [← HT.out] at hh3; have hg3 : Fr none_ w0 w3 := hg2.step hf3 (fun i hi h => h.elim (fun h => by have := HB0.out; omega) (fun h => absurd (hh2.2.blk _ h).1 (by omega))); have ho3 := ho2.kept hf3 (fun q hq h => h.elim (fun h => own_ne ho2 hh2.1 (by decide) (h ▸ hq)) (fun h => hd2 q hq h)); have hd3 : ∀ q, v2.ownBlock = some q → left3.ownBlock ≠ some q := fun q hq h => (hk3 q h).elim (fun h' => hd2 q hq h') (fun h' => absurd (ho2.blk q hq).2 (Nat.not_lt.2 h')); obtain ⟨p3, q3, r3⟩ := cells3_kept hg3 hbB hbl HU0.out)) | (go_at_call 38; refine (hasks_any b k left3 F1 w0.heap.size _ (hh3.same ((hf4.trans hf5).trans hf6))).mono ?_; rintro e w7 ⟨rfl, hf7⟩; have hg7 := hg6.trans hf7) | (go_at_call 38; refine (hasks_any b k left3 F1 w0.heap.size _ (hh3.same (hf4.trans hf5))).mono ?_; rintro e w6 ⟨rfl, hf6⟩; have hg6 := hg5.trans hf6) | (go_at_call 38; refine (hasks_any b k left3 F1 w0.heap.size _ hh3).mono ?_; rintro e w4 ⟨rfl, hf4⟩; have hg4 := hg3.trans hf4; obtain ⟨p4, q4, r4⟩ := cells3_kept hg4 hbB hbl HU0.out) | (go_at_call 32; refine (ssum_any k v2 F1 _ (ho3.rd.kept hf4 (fun _ _ _ _ f => f)) (by omega)).mono ?_; rintro e w5 ⟨rfl, hf5⟩; have hg5 := hg4.trans hf5)))
           refine hK.out _ _ (by first | exact cells3_kept hg7 hbB hbl HU0.out | exact cells3_kept hg6 hbB hbl HU0.out | exact cells3_kept hg5 hbB hbl HU0.out | exact cells3_kept hg4 hbB hbl HU0.out | exact cells3_kept hg3 hbB hbl HU0.out | exact cells3_kept hg2 hbB hbl HU0.out) ?_
           clear hK K))
      all_goals (refine t_done ?_)
      have HS := Lib.hid (((hf4.trans hf5).trans hf6).trans hf7)
      have HG7 := Lib.hid hg7
      have HO7 := Lib.hid ho3
      have HH7 := Lib.hid hh3
      have HD7 := Lib.hid hd3
      clear hf3 hf4 hf5 hf6 hf7 hg2 hg3 hg4 hg5 hg6 hg7 ho2 ho3 hh2 hh3 hd2 hd3 hk3 p2 q2 r2 p3 q3 r3 p4 q4 r4
      go_wp2
      go_roundw
      case rel => exact ⟨j + 1, left3, by omega, by go_num, by rw [HF1.out]; exact HO7.out.kept HS.out (fun _ _ f => f), by rw [HF1.out]; exact HH7.out.same HS.out, HD7.out, by rw [HF1.out]; exact hlen1, HG7.out⟩
      case measure => simp [intOf]; omega
    · obtain rfl : j = L.length := by omega
      go_wp2_with fail
      refine (told1_any _).mono ?_
      rintro e w3 ⟨rfl, hf3⟩
      go_wp2
      go_ret
      exact ⟨rfl, (HF.out.trans hf).trans hf3⟩

namespace sipParts
open Go Go.ChangeShapes Go.WideShapes Go.ChangeAt Go.RowKit
set_option linter.unusedVariables false
set_option maxRecDepth 100000 in
theorem lifted (os : Os) (started : os.Started) (H : Type) (enc : TypeId × Value → H) :
    ReturnsInHanded {} Try.checked os 4 .any (Rows.sipPartsSpec.pre6 enc Try.prog Try.f4 Rows.sipPartsRow.domain false) (Rows.sipPartsSpec.post enc Try.prog Try.f4 false true false false) := by
  refine returnsInHanded_of_change (C := Try.checked) owned started (by kernel_rfl) Try.func4
    (ChangeSpec.witness6 (enc := enc) (C := Try.checked) false ⟨#[], #[.agg #[.int .u64 0, .int .u64 0], .slice none 0 0], []⟩ 8 (by kernel_rfl) (by kernel_rfl) (by kernel_rfl) (by kernel_rfl)) ?_
  intro W base args ds gs before hval0 hW hcnd _
  have hval : ∀ (j : Nat) t v, Try.f4.params[j]? = some t → args[j]? = some v → Value.okWide Try.prog W .any base t v := hval0
  have hW' := hW
  obtain ⟨p, q, hA0, hV, rfl, hfz, hnd⟩ := hW
  have hA : DataW.TrodAll enc Try.prog W 0 (fun _ => true) true Try.f4.params.toList args.toList ds p := hA0
  rw [Try.params4] at hA hval
  obtain ⟨v0, vs0, d0, ds0, p0, q0, hargs, rfl, rfl, h0, r0⟩ := trodAll_cons hA
  obtain ⟨v1, vs1, d1, ds1, p1, q1, rfl, rfl, rfl, h1, r1⟩ := trodAll_cons r0
  obtain ⟨rfl, rfl, rfl⟩ := trodAll_nil r1
  obtain rfl : args = #[v0, v1] := by cases args; simp_all
  obtain ⟨rfl, rfl⟩ := trodVars_none hV
  have k0 := h0
  have lt0 : ∀ x ∈ p0, x.block < W.heap.size := by obtain ⟨m, hm⟩ := k0; exact DataW.trod_lt m _ _ _ hm
  have k1 := h1
  have lt1 : ∀ x ∈ p1, x.block < W.heap.size := by obtain ⟨m, hm⟩ := k1; exact DataW.trod_lt m _ _ _ hm
  obtain ⟨x0, rfl⟩ := open_arr2 Try.underlying23 Try.underlying22 (by kernel_rfl) (by kernel_rfl) (hval 0 23 v0 rfl rfl) h0
  obtain ⟨x1, hr1⟩ := open_rows Try.underlying37 Try.underlying25 Try.underlying5 (by kernel_rfl) (by kernel_rfl) (hval 1 37 v1 rfl rfl) h1
  clear hA0 hval0
  refine (walk_SipParts W x0 v1 x1 hr1).mono fun e W' ⟨he, fr⟩ => ?_
  subst he
  have bel := fr.below
  exact ⟨_, rfl, _, _, _, [], _, [], hW', trodAll_mk1 (shut_bool Try.underlying4 _), (trodAll_cons_mk (Below.trod laid (by kernel_rfl) (of_decide_eq_true (by kernel_rfl)) k0 bel lt0) (trodAll_cons_mk (Below.trod laid (by kernel_rfl) (of_decide_eq_true (by kernel_rfl)) k1 bel lt1) trodAll_mk0)), rfl, bel.frame _, fun h => by cases h⟩

theorem inPlace : Try.prog.inPlace 4 = [] := inPlace_none _ _ (by kernel_rfl)
theorem closed : joinedFacts Try.prog 4 Try.f4 Rows.sipPartsSpec Rows.sipPartsRow = true := by
  unfold joinedFacts
  repeat' (with_reducible refine and_mk ?_ ?_)
  all_goals first
    | with_reducible exact enters
    | with_reducible exact laid
    | with_reducible exact rowed
    | with_reducible exact noStops
    | with_reducible exact noKnobs
    | with_reducible exact heard
    | (rw [lifts]; as_aux_lemma => kernel_rfl)
    | (rw [makes]; as_aux_lemma => kernel_rfl)
    | (rw [plains]; as_aux_lemma => kernel_rfl)
    | (rw [inPlace]; as_aux_lemma => kernel_rfl)
    | as_aux_lemma => kernel_rfl
theorem named : Try.prog.funcNamed Rows.sipPartsRow.func = some 4 := by kernel_rfl
theorem isOne : (Try.f4).isInstance Try.prog Rows.sipPartsRow.origin Rows.sipPartsRow.targs := of_decide_eq_true (by kernel_rfl)
theorem wraps : (Try.f4).isWrapper Try.prog Rows.sipPartsRow.wrapper Rows.sipPartsRow.mainSum := by unfold Func.isWrapper; first | (rw [if_pos (by decide +kernel)]; kernel_rfl) | (rw [if_neg (by decide +kernel)]; exact ⟨rfl, rfl⟩)
theorem over : Rows.sipPartsRow.holds Try.pinned (OpenSpec.ofChange Rows.sipPartsSpec) :=
  OpenClaim.holds_of_wide 4 Try.f4 rfl rfl rfl rfl rfl rfl rfl ⟨rfl, rfl, rfl, rfl, rfl⟩ rfl rfl rfl rfl rfl named Try.func4 closed
    isOne wraps
    (fun os started H enc _ => lifted os started H enc)

/-- THE STATEMENT. -/
theorem proved : Rows.SipPartsSaid := over
#print axioms proved
end sipParts
end Go.Proofs.Ytandenkoejbloaa
