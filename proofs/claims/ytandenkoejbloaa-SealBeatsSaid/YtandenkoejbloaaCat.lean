/- Walks of slices.Grow and slices.Concat, of bytes. -/
import Derived.Test.YtandenkoejbloaaRegM
import Derived.Test.YtandenkoejbloaaPut
import Derived.Test.YtandenkoejbloaaMore
namespace Go.Proofs.Ytandenkoejbloaa
open Go Go.RowKit

theorem Own.none_of {w : World} {base : Nat} {e : TypeId} {g off n cap : Nat} {vs : List Value} (h : Own w base e (.slice (some ⟨g, off, none⟩) n cap) vs) : Own w base e (.slice (some ⟨g, off, none⟩) 0 cap) [] := by
  rcases h with ⟨h, _⟩ | ⟨g', off', cap', cur, fz, hv, hb, hg, hz, h1, h2, h3, h4⟩
  · cases h
  · simp only [Value.slice.injEq, Option.some.injEq, Addr.mk.injEq, and_true, true_and] at hv
    obtain ⟨⟨rfl, rfl⟩, _, rfl⟩ := hv
    exact .inr ⟨g, off, cap, cur, fz, rfl, hb, hg, hz, Nat.zero_le _, h2, h3, by simp⟩

set_option maxRecDepth 100000 in
set_option maxHeartbeats 3200000 in
theorem grow_any (n : Nat) (w : World) (hn : n ≤ 140737488355328) :
    Calls Try.prog 103 #[.slice none 0 0, .int .i64 n] w fun e w' => ∃ v, e = .returned v ∧ Own w' w.heap.size 5 v [] ∧ Fr none_ w w' := by
  obtain ⟨i0, hi, hz0, hz1, hz2⟩ := info_parts info_u8
  have h0 : decide ((n : Int) < 0) = false := by simp
  have hw : IntKind.i64.wrap (n : Int) = n := IntWalk.i64_in _ (by omega)
  go_enter Try.func103, Try.ntmps103
  by_cases hp : n = 0
  · subst hp
    go_wp2_with fail
    go_ret
    exact ⟨_, rfl, Own.nil _ _ _, Fr.refl _ _⟩
  · have h1 : decide ((0 : Int) < (n : Int)) = true := by simp; omega
    go_wp2_with (first | (at_builtin; go_must (refine wpList_append_z _ rfl _ _ 25 3 rfl w.heap.size 5 i0 (.int .u8 0) 1 hz2 rfl (.slice none 0 0) [] rfl (Own.nil _ _ _) _ rfl n (List.replicate n (.int .u8 0)) (fun ty => appends_zeros _ _ ty _ .i64 i0 _ Try.underlying25 Try.underlying3 hi hz0 hz1 rfl rfl .i64 (n : Int) n rfl (by rw [hz2]; omega) (by omega)) ?c2 ?c3 (Nat.le_refl _) ?c5)))
    case c2 => simp [maxLen]; omega
    case c3 => simp; omega
    intro v1 w1 ho1 hf1 hk1
    try simp only [List.nil_append] at ho1
    obtain ⟨g, off, cap, rfl, hb, hg, hc1, hc2, _⟩ := ho1.at (by simp; omega)
    simp only [List.length_replicate] at *
    have ho2 := ho1.none_of
    unfold maxLen at hc2
    have h3 : decide ((0 : Int) ≤ (cap : Int)) = true := by simp
    go_wp2_with fail
    go_ret
    exact ⟨_, rfl, ho2, hf1.mono (fun i hi h => by simp [Value.ownBlock] at h)⟩

theorem flat_take (L : List (Value × List UInt8)) (j : Nat) (h : j < L.length) : (L.take (j + 1)).flatMap (·.2) = (L.take j).flatMap (·.2) ++ L[j].2 := by
  rw [List.take_succ_eq_append_getElem h, List.flatMap_append]; simp
theorem flat_le (L : List (Value × List UInt8)) (j : Nat) : ((L.take j).flatMap (·.2)).length ≤ (L.flatMap (·.2)).length := by
  have h : L.flatMap (·.2) = (L.take j).flatMap (·.2) ++ (L.drop j).flatMap (·.2) := by rw [← List.flatMap_append, List.take_append_drop]
  rw [h, List.length_append]; omega

set_option maxRecDepth 100000 in
set_option maxHeartbeats 6400000 in
theorem concat_any (v : Value) (L : List (Value × List UInt8)) (w : World) (h1 : Rd w v (L.map (·.1))) (h2 : ∀ q ∈ L, Rd w q.1 (q.2.map bv)) (hb : (L.flatMap (·.2)).length ≤ 140737488355000) :
    Calls Try.prog 91 #[v] w fun e w' => ∃ r, e = .returned r ∧ Own w' w.heap.size 5 r ((L.flatMap (·.2)).map bv) ∧ Fr none_ w w' := by
  obtain ⟨i0, hi, hz0, hz1, hz2⟩ := info_parts info_u8
  have H1 := Lib.hid h1
  have H2 := Lib.hid h2
  obtain ⟨ao1, cap1, rfl, hc1, hm1, _⟩ := h1
  clear h2
  simp only [List.length_map] at *
  unfold maxLen at hm1
  have HB := Lib.hid hb
  clear hb
  go_enter Try.func91, Try.ntmps91
  go_wp2_with fail
  go_loopw [3, 11] (fun s i wr => ∃ j : Nat, j ≤ L.length ∧ i = .int .i64 j ∧ s = .int .i64 (((L.take j).flatMap (·.2)).length : Nat) ∧ wr = w) (fun _ i _ => L.length - (intOf i).toNat)
  case atStart => exact ⟨0, Nat.zero_le _, rfl, by simp, rfl⟩
  case round =>
    obtain ⟨j, hj, rfl, rfl, hwr⟩ := hrel
    subst wr
    by_cases hlt : j < L.length
    · have hlk : (j : Int) < (L.length : Int) := by omega
      obtain ⟨bl, ol, hao, hbl, hcell⟩ := H1.out.at_ (j := j) (x := L[j].1) (by simp [List.getElem?_eq_getElem hlt])
      subst hao
      have hrow := H2.out L[j] (List.getElem_mem hlt)
      have htake := flat_take L j hlt
      have hle := flat_le L (j + 1)
      generalize L[j] = q at *
      obtain ⟨rv, row⟩ := q
      simp only at hcell hrow htake
      obtain ⟨aor, capr, rfl, hr1, hr2, _⟩ := hrow
      simp only [List.length_map] at *
      rw [htake, List.length_append] at hle
      have HT := Lib.hid htake
      clear htake
      generalize hF0 : ((L.take j).flatMap (·.2)).length = n0 at *
      have hB := HB.out
      have hwrap : IntKind.i64.wrap ((n0 : Int) + (row.length : Int)) = ((n0 + row.length : Nat) : Int) := by rw [IntWalk.i64_in _ (by omega)]; omega
      have hneg : decide (((n0 + row.length : Nat) : Int) < 0) = false := by simp; omega
      go_wp2_with fail
      go_roundw
      case rel => exact ⟨j + 1, by omega, by go_num, by rw [HT.out, List.length_append, hF0, Int.natCast_add], by first | rfl | trivial⟩
      case measure => simp [intOf]; omega
    · obtain rfl : j = L.length := by omega
      have hn := HB.out
      rw [List.take_length]
      generalize hF0 : (L.flatMap (·.2)).length = n0 at *
      go_wp2_with fail
      refine (grow_any n0 w (by omega)).mono ?_
      rintro e w1 ⟨v1, rfl, ho1, hf1⟩
      have HO := Lib.hid ho1
      have HF := Lib.hid hf1
      clear ho1 hf1
      go_wp2_with fail
      go_loopw [6, 27] (fun s i wr => ∃ j : Nat, j ≤ L.length ∧ i = .int .i64 j ∧ Own wr w.heap.size 5 s (((L.take j).flatMap (·.2)).map bv) ∧ Fr none_ w wr) (fun _ i _ => L.length - (intOf i).toNat)
      case atStart => exact ⟨0, Nat.zero_le _, rfl, by simpa using HO.out, HF.out⟩
      case round =>
        clear HO HF
        obtain ⟨j, hj, rfl, ho, hf⟩ := hrel
        by_cases hlt : j < L.length
        · have hlk : (j : Int) < (L.length : Int) := by omega
          obtain ⟨bl, ol, hao, hbl, hcell⟩ := H1.out.at_ (j := j) (x := L[j].1) (by simp [List.getElem?_eq_getElem hlt])
          subst hao
          have hrow := H2.out L[j] (List.getElem_mem hlt)
          have htake := flat_take L j hlt
          have hle := flat_le L (j + 1)
          generalize L[j] = q at *
          obtain ⟨rv, row⟩ := q
          simp only at hcell hrow htake
          have HRow := Lib.hid hrow
          obtain ⟨aor, capr, rfl, hr1, hr2, _⟩ := hrow
          simp only [List.length_map] at *
          rw [htake, List.length_append] at hle
          generalize hF0 : (L.take j).flatMap (·.2) = F0 at *
          have hcr := (hf.cell hbl (fun f => f)).trans hcell
          have HT := Lib.hid htake
          have HO := Lib.hid ho
          have HG := Lib.hid hf
          clear htake ho hf
          go_wp2_with (first | (at_builtin; go_must (refine wpList_append_b _ rfl _ _ 25 25 rfl w.heap.size 5 i0 (.int .u8 0) 1 Try.underlying25 hi hz0 hz1 hz2 rfl _ _ rfl HO.out (.slice aor row.length capr) rfl row.length (row.map bv) ?c1 ?c2 ?c3 ?c4 ?c5)))
          case c1 => have := src_of_rd (P := Try.prog) Try.underlying25 (HRow.out.kept HG.out (fun _ _ _ _ f => f)) (bvs_one row); rw [List.length_map] at this; exact this
          case c2 => have := HB.out; simp [maxLen]; omega
          case c3 => have := HB.out; simp; omega
          case c4 => exact HG.out.size
          intro v2 w2 ho2 hf2 hk2
          replace ho2 : Own w2 w.heap.size 5 v2 (((L.take (j + 1)).flatMap (·.2)).map bv) := by rw [HT.out]; simpa only [List.map_append] using ho2
          have hg2 : Fr none_ w w2 := HG.out.step hf2 (fun i hi h => absurd (HO.out.blk _ h).1 (by omega))
          go_wp2
          go_roundw
          case rel => exact ⟨j + 1, by omega, by go_num, ho2, hg2⟩
          case measure => simp [intOf]; omega
        · obtain rfl : j = L.length := by omega
          rw [List.take_length] at ho
          go_wp2_with fail
          go_ret
          exact ⟨_, rfl, ho, hf⟩
end Go.Proofs.Ytandenkoejbloaa
