/- Walk of sip.Hash.Write. -/
import Derived.Test.YtandenkoejbloaaBegin
import Derived.Test.YtandenkoejbloaaPut
import Derived.Deep.LoopGhost
namespace Go.Proofs.Ytandenkoejbloaa
open Go Go.RowKit

/-- k words of the bytes are taken. -/
def absTo (s : W × W × W × W) (l : List UInt8) : Nat → W × W × W × W
  | 0 => s
  | k + 1 => takeW (absTo s l k) (wordAt l (8 * k))
theorem wordAt_drop (l : List UInt8) (k a : Nat) : wordAt (l.drop k) a = wordAt l (k + a) := by
  unfold wordAt; congr 1; funext j
  simp [List.getD_eq_getElem?_getD, List.getElem?_drop, Nat.add_assoc]

section
variable {w w' : World} {base : Nat} {e : TypeId} {v : Value} {vs : List Value}
/-- Cut at its head, as the walk writes it. -/
theorem own_sliced {ao : Option Addr} {n cap : Nat} (h : Own w base e (.slice ao n cap) vs) (l : Nat) (hl : l ≤ vs.length) :
    Own w base e (.slice (if cap = l then ao else ao.map (·.add l)) (n - l) (cap - l)) (vs.drop l) ∧ (Value.slice (if cap = l then ao else ao.map (·.add l)) (n - l) (cap - l)).ownBlock = (Value.slice ao n cap).ownBlock := by
  rcases h with ⟨h, rfl⟩ | ⟨g, off, cap', cur, fz, hv, hb, hg, hz, h1, h2, h3, h4⟩
  · simp only [Value.slice.injEq] at h
    obtain ⟨rfl, rfl, rfl⟩ := h
    obtain rfl : l = 0 := by simpa using hl
    exact ⟨.inl ⟨by simp, by simp⟩, by simp⟩
  · simp only [Value.slice.injEq] at hv
    obtain ⟨rfl, rfl, rfl⟩ := hv
    refine ⟨.inr ?_, ?_⟩
    · by_cases hc : cap = l
      · have hd : vs.drop l = [] := List.drop_eq_nil_of_le (by omega)
        refine ⟨g, off, cap - l, cur, fz, ?_, hb, hg, hz, by simp; omega, by omega, by omega, ?_⟩
        · rw [if_pos hc]; simp
        · rw [hd]; rfl
      · refine ⟨g, off + l, cap - l, cur, fz, ?_, hb, hg, hz, by simp; omega, by omega, by omega, ?_⟩
        · rw [if_neg hc]
          by_cases hl0 : l = 0 <;> simp [Addr.add, hl0]
        · rw [← List.drop_drop, List.length_drop, ← List.drop_take, h4]
    · by_cases hc : cap = l
      · rw [if_pos hc]; rfl
      · rw [if_neg hc]; simp only [Value.ownBlock, Option.map_some]
        by_cases hl0 : l = 0 <;> simp [Addr.add, hl0]
/-- Two blocks of unlike kinds are two. -/
theorem own_ne {b : Nat} {e' : TypeId} {cs : List Value} (h : Own w base e v vs) (hb : Blk w b e' cs) (he : e ≠ e') : v.ownBlock ≠ some b := by
  rcases h with ⟨rfl, _⟩ | ⟨g, off, cap, cur, fz, rfl, _, hg, _⟩
  · simp [Value.ownBlock]
  · intro hk
    simp [Value.ownBlock] at hk
    subst hk
    rw [Blk, hg] at hb
    injection hb with hb
    injection hb with _ hb
    exact he hb
end

set_option maxHeartbeats 1600000 in
theorem write_any (b : Nat) (s : W × W × W × W) (left : Value) (lv : List UInt8) (n0 : Nat) (v : Value) (l : List UInt8) (base : Nat) (w : World)
    (h : Blk w b 132 (hcells s left n0)) (ho : Own w base 5 left (lv.map bv)) (hbase : base ≤ w.heap.size) (hv : Rd w v (l.map bv)) (hvb : l ≠ [] → v.ownBlock ≠ some b) (hlv : lv.length < 8) (hn : n0 + l.length ≤ 140737488355000) :
    Calls Try.prog 37 #[.pointer (some ⟨b, 0, none⟩), v] w fun e w' => e = .returned (.int .i64 l.length) ∧
      ∃ left', Blk w' b 132 (hcells (absTo s (lv ++ l) ((lv ++ l).length / 8)) left' ((n0 + l.length : Nat) : Int)) ∧ Own w' base 5 left' (((lv ++ l).drop (8 * ((lv ++ l).length / 8))).map bv) ∧
        (∀ k, left'.ownBlock = some k → left.ownBlock = some k ∨ w.heap.size ≤ k) ∧ Fr (fun k => k = b ∨ left.ownBlock = some k) w w' := by
  obtain ⟨i0, hi, hz0, hz1, hz2⟩ := info_parts info_u8
  obtain ⟨aol, capl, rfl, hcl1, hcl2⟩ := ho.shape
  have hv0 := hv
  obtain ⟨aov, capv, rfl, hcv1, hcv2, _⟩ := hv
  rw [List.length_map] at *
  unfold maxLen at hcl2 hcv2
  have c5 : w.cell? ⟨b, 5, none⟩ = some (.int .i64 n0) := h.cell_of rfl
  have c4 : w.cell? ⟨b, 4, none⟩ = some (.slice aol lv.length capl) := h.cell_of rfl
  have f5 := h.free 5
  have f4 := h.free 4
  have e1 : IntKind.i64.wrap ((n0 : Int) + (l.length : Int)) = (n0 : Int) + (l.length : Int) := IntWalk.i64_in _ (by omega)
  have HB := Lib.hid (h.setCell 5 (.int .i64 ((n0 : Int) + (l.length : Int))))
  have HF := Lib.hid ((Fr.refl (fun k => k = b ∨ (Value.slice aol lv.length capl).ownBlock = some k) w).setCell (p := ⟨b, 5, none⟩) (fun _ => .inl rfl) (.int .i64 ((n0 : Int) + (l.length : Int))))
  have HO := Lib.hid (ho.setCell (p := ⟨b, 5, none⟩) (own_ne ho h (by decide)) (.int .i64 ((n0 : Int) + (l.length : Int))))
  have HV := Lib.hid (hv0.kept (S := fun k => k = b) ((Fr.refl (fun k => k = b) w).setCell (p := ⟨b, 5, none⟩) (fun _ => rfl) (.int .i64 ((n0 : Int) + (l.length : Int)))) (fun k hk _ hne e => hvb (fun h => hne (by rw [h]; rfl)) (by rw [hk, e])))
  clear h ho hv0
  go_enter Try.func37, Try.ntmps37
  go_wp2_with (first | (at_builtin; refine wpList_append_b _ rfl _ _ 25 25 rfl base 5 i0 (.int .u8 0) 1 Try.underlying25 hi hz0 hz1 hz2 rfl _ _ rfl HO.out _ rfl l.length (l.map bv) ?c1 ?c2 ?c3 ?c4 ?c5))
  case c1 => have := src_of_rd (P := Try.prog) Try.underlying25 HV.out (bvs_one l); rw [List.length_map] at this; exact this
  case c2 => simp [maxLen]; omega
  case c3 => simp; omega
  case c4 => simpa using hbase
  intro v' w1 hown hfr hblk
  obtain ⟨ao1, cap1, rfl, hcap1, hcap2⟩ := hown.shape
  rw [← List.map_append] at hown
  rw [← List.map_append, List.length_map] at *
  unfold maxLen at hcap2
  have hL1 : (lv ++ l).length = lv.length + l.length := List.length_append
  generalize hLe : lv ++ l = L at *
  have HLE := Lib.hid hLe
  clear hLe
  have hL2 : L.length ≤ 140737488355010 := by omega
  have HL := Lib.hid hL1
  clear hL1
  have hB1 := HB.out.kept hfr (own_ne HO.out HB.out (by decide))
  have c4' : w1.cell? ⟨b, 4, none⟩ = some (.slice aol lv.length capl) := hB1.cell_of rfl
  have f4' := hB1.free 4
  have hB2 := hB1.setCell 4 (.slice ao1 L.length cap1)
  have hO2 := hown.setCell (p := ⟨b, 4, none⟩) (own_ne hown hB1 (by decide)) (.slice ao1 L.length cap1)
  have hF2 := (HF.out.trans (hfr.mono (fun k _ hk => Or.inr hk))).setCell (p := ⟨b, 4, none⟩) (fun _ => .inl rfl) (.slice ao1 L.length cap1)
  have hsz : w.heap.size ≤ w1.heap.size := by have := hfr.size; simpa using this
  clear hown hfr hB1
  have HB2 := Lib.hid hB2
  have HO2 := Lib.hid hO2
  have HF2 := Lib.hid hF2
  have HK2 := Lib.hid hblk
  clear hB2 hO2 hF2 hblk HB HO HF HV c4 c5 f4 f5
  go_wp2_with fail
  go_loopg [5] (L.length / 8) (fun g s5 wr => ∃ k r ao cap, g = L.length / 8 - k ∧ 8 * k + r = L.length ∧ Blk wr b 132 (hcells (absTo s L k) (.slice ao r cap) ((n0 : Int) + (l.length : Int))) ∧
      Own wr base 5 (.slice ao r cap) ((L.drop (8 * k)).map bv) ∧ (∀ k', (Value.slice ao r cap).ownBlock = some k' → (Value.slice aol lv.length capl).ownBlock = some k' ∨ w.heap.size ≤ k') ∧ Fr (fun k => k = b ∨ (Value.slice aol lv.length capl).ownBlock = some k) w wr)
  case atStart => exact ⟨0, L.length, ao1, cap1, rfl, by omega, HB2.out, HO2.out, fun k hk => (HK2.out k hk).imp id (fun h => by simpa using h), HF2.out⟩
  case round =>
    obtain ⟨k, r, ao, cap, rfl, hk, hb, ho, hkk, hf⟩ := hrel
    obtain ⟨_, _, he, hc1, hc2⟩ := ho.shape
    simp only [Value.slice.injEq] at he
    obtain ⟨rfl, -, rfl⟩ := he
    unfold maxLen at hc2
    have en : (L.drop (8 * k)).length = r := by rw [List.length_drop]; omega
    rw [List.length_map, en] at hc1
    generalize hs1 : absTo s L k = s1 at hb
    have HS := Lib.hid hs1
    have HE := Lib.hid hk
    have HN := Lib.hid en
    clear hs1 hk en
    have c4 : wr.cell? ⟨b, 4, none⟩ = some (.slice ao r cap) := hb.cell_of rfl
    have HO := Lib.hid ho
    have HB := Lib.hid hb
    have HF := Lib.hid hf
    have HK := Lib.hid hkk
    have HR := Lib.hid ho.rd
    clear ho hb hf hkk
    by_cases hlt : 8 ≤ r
    · have hd : decide (8 ≤ (r : Int)) = true := by simp; omega
      go_wp2_with fail
      refine (get_ok _ (L.drop (8 * k)) 0 _ HR.out (by decide) (by rw [HN.out]; omega)).mono ?_
      rintro e w' ⟨rfl, rfl⟩
      go_wp2_with fail
      refine (take_any b s1 _ _ _ _ HB.out).mono ?_
      rintro e w3 ⟨rfl, hb3, hf3⟩
      have hne : (Value.slice ao r cap).ownBlock ≠ some b := own_ne HO.out HB.out (by decide)
      have ho3 := HO.out.kept hf3 (fun k hk e => hne (by rw [hk, e]))
      have c4 : w3.cell? ⟨b, 4, none⟩ = some (.slice ao r cap) := hb3.cell_of rfl
      have f4 := hb3.free 4
      obtain ⟨ho4, hkeep⟩ := own_sliced ho3 8 (by rw [List.length_map, HN.out]; exact hlt)
      have HB3 := Lib.hid hb3
      have HF3 := Lib.hid (HF.out.trans (hf3.mono (T := fun k => k = b ∨ (Value.slice aol lv.length capl).ownBlock = some k) (fun k _ hk => Or.inl hk)))
      have HO4 := Lib.hid ho4
      have HKE := Lib.hid hkeep
      have HNE := Lib.hid hne
      clear hb3 hf3 ho3 ho4 hkeep hne
      by_cases hcap : cap = 8
      · subst hcap
        obtain rfl : r = 8 := by omega
        go_wp2_with fail
        go_roundg (L.length / 8 - (k + 1))
        case measure => have := HE.out; omega
        case rel =>
          have ho4 := HO4.out
          have hkeep := HKE.out
          simp only [if_true, Nat.sub_self] at ho4 hkeep
          have ho4' := ho4
          rw [← List.map_drop] at ho4'
          refine ⟨k + 1, 0, ao, 0, rfl, by have := HE.out; omega, ?_, ?_, fun k' hk' => HK.out k' (hkeep.symm.trans hk'), (HF3.out.setCell (p := ⟨b, 4, none⟩) (fun _ => .inl rfl) _)⟩
          · rw [absTo, HS.out, ← Nat.add_zero (8 * k), ← wordAt_drop]
            exact HB3.out.setCell 4 _
          · rw [List.drop_drop, ← Nat.mul_succ] at ho4'
            exact ho4'.setCell (p := ⟨b, 4, none⟩) (by rw [hkeep]; exact HNE.out) _
      · go_wp2_with fail
        go_roundg (L.length / 8 - (k + 1))
        case measure => have := HE.out; omega
        case rel =>
          have ho4 := HO4.out
          have hkeep := HKE.out
          rw [if_neg hcap] at ho4 hkeep
          have ho4' := ho4
          rw [← List.map_drop] at ho4'
          refine ⟨k + 1, r - 8, _, cap - 8, rfl, by have := HE.out; omega, ?_, ?_, fun k' hk' => HK.out k' (hkeep.symm.trans hk'), (HF3.out.setCell (p := ⟨b, 4, none⟩) (fun _ => .inl rfl) _)⟩
          · rw [absTo, HS.out, ← Nat.add_zero (8 * k), ← wordAt_drop]
            exact HB3.out.setCell 4 _
          · rw [List.drop_drop, ← Nat.mul_succ] at ho4'
            exact ho4'.setCell (p := ⟨b, 4, none⟩) (by rw [hkeep]; exact HNE.out) _
    · have hd : decide (8 ≤ (r : Int)) = false := by simp; omega
      go_wp2_with fail
      go_ret
      have h8 := HE.out
      have hk8 : k = L.length / 8 := by omega
      rw [HLE.out, ← hk8]
      refine ⟨rfl, .slice ao r cap, by rw [HS.out]; exact HB.out, HO.out, fun k' hk' => by simpa using HK.out k' hk', by simpa using HF.out⟩
end Go.Proofs.Ytandenkoejbloaa
