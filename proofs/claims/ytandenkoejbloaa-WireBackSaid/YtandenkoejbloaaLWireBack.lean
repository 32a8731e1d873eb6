/- For every input the law quorumitelaw4.WireBack returns true: a message comes back from its bytes, and from these alone. Conditions: none. -/
import Derived.Test.YtandenkoejbloaaTold4
import Derived.Test.YtandenkoejbloaaFacts
namespace Go.Proofs.Ytandenkoejbloaa
open Go Go.RowKit

theorem Own.set_at {w : World} {base : Nat} {e : TypeId} {g off n cap : Nat} {vs : List Value} (h : Own w base e (.slice (some ⟨g, off, none⟩) n cap) vs) (r : Nat) (hr : r < vs.length) (x : Value) :
    Own (w.setCell ⟨g, off + r, none⟩ x) base e (.slice (some ⟨g, off, none⟩) n cap) (vs.set r x) ∧ w.frozen? ⟨g, off + r, none⟩ = false := by
  rcases h with ⟨h, _⟩ | ⟨g', off', cap', cur, fz, hv, hb, hg, hz, h1, h2, h3, h4⟩
  · cases h
  · simp only [Value.slice.injEq, Option.some.injEq, Addr.mk.injEq, and_true, true_and] at hv
    obtain ⟨⟨rfl, rfl⟩, rfl, rfl⟩ := hv
    have hlt : off + r < cur.size := by omega
    have hg' : (w.setCell ⟨g, off + r, none⟩ x).heap[g]? = some (.cells (cur.setIfInBounds (off + r) x) e fz) := by
      simp only [World.setCell, Array.getElem?_modify, if_true, hg, Option.map_some]
      simp
    refine ⟨.inr ⟨g, off, cap, cur.setIfInBounds (off + r) x, fz, by rw [List.length_set], hb, hg', by rw [Array.size_setIfInBounds]; exact hz, by rw [List.length_set]; exact h1, h2, by rw [Array.size_setIfInBounds]; exact h3, ?_⟩, ?_⟩
    · rw [List.length_set]
      apply List.ext_getElem?
      intro j
      rw [List.getElem?_set]
      by_cases hj : j < vs.length
      · rw [List.getElem?_take_of_lt hj, List.getElem?_drop]
        have e1 : (cur.setIfInBounds (off + r) x).toList[off + j]? = (cur.setIfInBounds (off + r) x)[off + j]? := by rw [Array.getElem?_toList]
        rw [e1, Array.getElem?_setIfInBounds]
        by_cases hjr : r = j
        · subst hjr; simp [hr, hlt]
        · have hne : ¬ off + r = off + j := by omega
          rw [if_neg hjr, if_neg hne, ← h4, List.getElem?_take_of_lt hj, List.getElem?_drop, Array.getElem?_toList]
      · rw [List.getElem?_eq_none (by rw [List.length_take]; omega)]
        split
        · omega
        · exact (List.getElem?_eq_none (by omega)).symm
    · simp only [World.frozen?, hg]
      exact hz _ hlt
theorem own_made_at {n : Nat} (w : World) (xs : List Value) (e : TypeId) (h : xs.length ≤ maxLen) (base : Nat) (hb : base ≤ n) (hn : w.heap.size = n) : Own (w.alloc (.cells xs.toArray e)) base e (.slice (some ⟨n, 0, none⟩) xs.length xs.length) xs := by
  subst hn; exact own_made w xs e h base hb
theorem v8_xor (a b : UInt8) : bits .xor .u8 (v8 a) (v8 b) = v8 (a ^^^ b) := by
  show IntKind.u8.wrap ((BitVec.ofInt 8 (v8 a) ^^^ BitVec.ofInt 8 (v8 b)).toNat : Int) = _
  have e : ∀ c : UInt8, BitVec.ofInt 8 (v8 c) = c.toBitVec := fun c => by unfold v8; rw [BitVec.ofInt_natCast]; show BitVec.ofNat 8 c.toBitVec.toNat = _; rw [BitVec.ofNat_toNat, BitVec.setWidth_eq]
  rw [e, e, IntKind.wrap_u8]
  have : ((a ^^^ b).toBitVec) = a.toBitVec ^^^ b.toBitVec := rfl
  unfold v8
  show _ = (((a ^^^ b).toBitVec.toNat : Nat) : Int)
  rw [this]
  have := (a.toBitVec ^^^ b.toBitVec).isLt
  omega
theorem xor8_zero (a x : UInt8) : a ^^^ x = a ↔ x = 0 := by
  constructor
  · intro h
    have h2 := congrArg (fun y => a ^^^ y) h
    simpa [← UInt8.xor_assoc] using h2
  · rintro rfl; simp
theorem none_of_length {l : List UInt8} (h : l.length ≠ 32) : gv l = zeroM ∧ gc l = 2 := by
  have hg : getM l = none := by unfold getM; rw [if_neg (fun hc => h hc.1)]
  exact ⟨by unfold gv; rw [hg]; rfl, by unfold gc; rw [hg]; rfl⟩

set_option maxRecDepth 100000 in
set_option maxHeartbeats 12800000 in
theorem walk_WireBack (w : World) (m : Ms) (_ : okM m) (at_ : Int) (_ : -9223372036854775808 ≤ at_) (_ : at_ ≤ 9223372036854775807) (tn : UInt8) (cut : Int) (_ : -9223372036854775808 ≤ cut) (_ : cut ≤ 9223372036854775807) :
    Calls Try.prog 16 #[msgv m, .int .i64 at_, .int .u8 (v8 tn), .int .i64 cut] w fun e w' => e = .returned (.bool true) ∧ Fr none_ w w' := by
  obtain ⟨i0, hi, hz0, hz1, hz2⟩ := info_parts info_u8
  have HM := fun wa => may_any m wa
  have hqm : ∀ wa : World, (Op.equalIn 10000 68 (.agg #[.int .i64 m.kind, .int .i64 m.who, .int .i64 m.gen, .int .i64 m.seq, .int .i64 m.epoch, .int .i64 m.value, .int .i64 m.metric]) (.agg #[.int .i64 m.kind, .int .i64 m.who, .int .i64 m.gen, .int .i64 m.seq, .int .i64 m.epoch, .int .i64 m.value, .int .i64 m.metric])).run Try.prog wa = .ok true wa := fun wa => by have := eq_msgs m m wa; rw [decide_eq_true rfl] at this; exact this
  have hA := Blk.new w #[.int .i64 m.kind, .int .i64 m.who, .int .i64 m.gen, .int .i64 m.seq, .int .i64 m.epoch, .int .i64 m.value, .int .i64 m.metric] 68
  have hF := (Fr.refl none_ w).alloc (.cells #[.int .i64 m.kind, .int .i64 m.who, .int .i64 m.gen, .int .i64 m.seq, .int .i64 m.epoch, .int .i64 m.value, .int .i64 m.metric] 68)
  cases hma : mayM m
  · have HS := fun wa => wput_bad m wa hma
    rw [hma] at HM
    unfold msgv at *
    go_enter Try.func16, Try.ntmps16
    go_wp2_with fail
    generalize w.alloc (.cells #[.int .i64 m.kind, .int .i64 m.who, .int .i64 m.gen, .int .i64 m.seq, .int .i64 m.epoch, .int .i64 m.value, .int .i64 m.metric] 68) = w0 at *
    refine (HS w0).mono ?_
    rintro e w1 ⟨rfl, hf1⟩
    obtain ⟨a0, a1, a2, a3, a4, a5, a6⟩ := hA.at7 hf1
    go_wp2_with fail
    refine (HM w1).mono ?_
    rintro e w2 ⟨rfl, hf2⟩
    go_wp2_with fail
    refine (told4_any _).mono ?_
    rintro e w3 ⟨rfl, hf3⟩
    go_wp2
    go_ret
    exact ⟨rfl, ((hF.trans hf1).trans hf2).trans hf3⟩
  have HP := fun wa => wput_ok m wa hma
  rw [hma] at HM
  have hgm : getM (msgB m) = some m := get_msg hma
  have hgv : gv (msgB m) = m := by unfold gv; rw [hgm]; rfl
  have hgc : gc (msgB m) = 0 := by unfold gc; rw [hgm]; rfl
  have HG : ∀ (wa : World) (v : Value), Rd wa v ((msgB m).map bv) → Calls Try.prog 57 #[v] wa fun e w' => e = .returned (.tuple #[msgv m, .int .i64 0]) ∧ Fr none_ wa w' := fun wa v h => by
    have := wget_any v (msgB m) wa h
    rw [hgv, hgc] at this
    exact this
  have hlm := msgB_length m
  have hback : ∀ l : List UInt8, (getM l = none ∧ gc l = 2 ∧ l ≠ msgB m) ∨ (∃ y, getM l = some y ∧ gc l = 0 ∧ gv l = y ∧ (y = m ↔ l = msgB m)) := fun l => by
    cases hl : getM l with
    | none => exact .inl ⟨rfl, by unfold gc; rw [hl]; rfl, fun e => by rw [e, hgm] at hl; cases hl⟩
    | some y =>
      refine .inr ⟨y, rfl, by unfold gc; rw [hl]; rfl, by unfold gv; rw [hl]; rfl, fun e => ?_, fun e => ?_⟩
      · rw [← (msg_of_get hl).2, e]
      · rw [e, hgm] at hl; exact (Option.some.inj hl).symm
  clear hgv hgc hgm hma
  generalize msgB m = pm at *
  obtain ⟨q, hq32, hq⟩ := modN 32 (by decide) cut
  obtain ⟨r, hr32, hr⟩ := modN 32 (by decide) at_
  have hq : (IntKind.u64.wrap cut).tmod 32 = (q : Int) := hq
  have hr : (IntKind.u64.wrap at_).tmod 32 = (r : Int) := hr
  have hqi : IntKind.i64.wrap (q : Int) = q := IntWalk.i64_in _ (by omega)
  unfold msgv at *
  go_enter Try.func16, Try.ntmps16
  go_wp2_with fail
  generalize w.alloc (.cells #[.int .i64 m.kind, .int .i64 m.who, .int .i64 m.gen, .int .i64 m.seq, .int .i64 m.epoch, .int .i64 m.value, .int .i64 m.metric] 68) = w0 at *
  refine (HP w0).mono ?_
  rintro e w1 ⟨vp, rfl, ho1, hf1⟩
  have hbx := hA.lt
  obtain ⟨pg, po, pcap, rfl, hpb, _, hpc1, hpc2, _⟩ := ho1.at (by rw [List.length_map, hlm]; omega)
  rw [List.length_map, hlm] at ho1 hpc1
  rw [List.length_map, hlm]
  unfold maxLen at hpc2
  obtain ⟨a0, a1, a2, a3, a4, a5, a6⟩ := hA.at7 hf1
  go_wp2_with fail
  clear a0 a1 a2 a3 a4 a5 a6
  refine (HM w1).mono ?_
  rintro e w2 ⟨rfl, hf2⟩
  have ho2 := ho1.kept hf2 (fun _ _ f => f)
  go_wp2_with fail
  refine (HG w2 _ ho2.rd).mono ?_
  rintro e w3 ⟨rfl, hf3⟩
  have hA3 := ((hA.kept ((hf1.trans hf2).trans hf3) (fun f => f))).alloc (.cells #[.int .i64 m.kind, .int .i64 m.who, .int .i64 m.gen, .int .i64 m.seq, .int .i64 m.epoch, .int .i64 m.value, .int .i64 m.metric] 68)
  have ho3 := (ho2.kept hf3 (fun _ _ f => f)).alloc (.cells #[.int .i64 m.kind, .int .i64 m.who, .int .i64 m.gen, .int .i64 m.seq, .int .i64 m.epoch, .int .i64 m.value, .int .i64 m.metric] 68)
  have hF3 := (((hF.trans hf1).trans hf2).trans hf3).alloc (.cells #[.int .i64 m.kind, .int .i64 m.who, .int .i64 m.gen, .int .i64 m.seq, .int .i64 m.epoch, .int .i64 m.value, .int .i64 m.metric] 68)
  have hz3 : w0.heap.size ≤ w3.heap.size := Nat.le_trans hf1.size (Nat.le_trans hf2.size hf3.size)
  clear hA hF hf1 hf2 hf3 ho1 ho2 HP HM HG
  have hqc : (q : Int) ≤ (pcap : Int) := by omega
  have hrq := (ho3.take q (by rw [List.length_map, hlm]; omega)).rd
  rw [← List.map_take] at hrq
  have hsh := none_of_length (l := pm.take q) (by rw [List.length_take, hlm]; omega)
  have HG2 := wget_any _ (pm.take q) _ hrq
  rw [hsh.1, hsh.2] at HG2
  unfold msgv zeroM at HG2
  obtain ⟨a0, a1, a2, a3, a4, a5, a6⟩ := hA3.at7 (Fr.refl none_ _)
  go_wp2_with fail
  clear a0 a1 a2 a3 a4 a5 a6
  have hz4 : w0.heap.size ≤ (w3.alloc (.cells #[.int .i64 m.kind, .int .i64 m.who, .int .i64 m.gen, .int .i64 m.seq, .int .i64 m.epoch, .int .i64 m.value, .int .i64 m.metric] 68)).heap.size := by rw [World.size_alloc]; omega
  generalize w3.alloc (.cells #[.int .i64 m.kind, .int .i64 m.who, .int .i64 m.gen, .int .i64 m.seq, .int .i64 m.epoch, .int .i64 m.value, .int .i64 m.metric] 68) = w4 at *
  refine HG2.mono ?_
  rintro e w5 ⟨rfl, hf5⟩
  have hA5 := (hA3.kept hf5 (fun f => f)).alloc (.cells #[.int .i64 0, .int .i64 0, .int .i64 0, .int .i64 0, .int .i64 0, .int .i64 0, .int .i64 0] 68)
  have ho5 := (ho3.kept hf5 (fun _ _ f => f)).alloc (.cells #[.int .i64 0, .int .i64 0, .int .i64 0, .int .i64 0, .int .i64 0, .int .i64 0, .int .i64 0] 68)
  have hF5 := (hF3.trans hf5).alloc (.cells #[.int .i64 0, .int .i64 0, .int .i64 0, .int .i64 0, .int .i64 0, .int .i64 0, .int .i64 0] 68)
  have hz5 : w0.heap.size ≤ w5.heap.size := Nat.le_trans hz4 hf5.size
  clear hA3 ho3 hF3 hf5 HG2 hsh hrq hz3 hz4
  have hpg : pg < w5.heap.size + 1 := by have := (ho5.blk pg rfl).2; rw [World.size_alloc] at this; exact this
  have HO6 := Lib.hid ho5
  have HA6 := Lib.hid hA5
  have HF6 := Lib.hid hF5
  have hws : w0.heap.size ≤ w5.heap.size + 1 := by omega
  clear hA5 ho5 hF5 hq hqi hqc hqm
  go_wp2_with (first | (at_builtin; go_must (refine wpList_append_b _ rfl _ _ 25 25 rfl w0.heap.size 5 i0 (.int .u8 0) 1 Try.underlying25 hi hz0 hz1 hz2 rfl (.slice (some ⟨w5.heap.size + 1, 0, none⟩) 0 0) [] rfl (own_made_at (w5.alloc (.cells #[.int .i64 0, .int .i64 0, .int .i64 0, .int .i64 0, .int .i64 0, .int .i64 0, .int .i64 0] 68)) [] 5 (by decide) w0.heap.size hws (by rw [World.size_alloc])) (.slice (some ⟨pg, po, none⟩) 32 pcap) rfl 32 (pm.map bv) ?c1 ?c2 ?c3 ?c4 ?c5)))
  case c1 => have := src_of_rd (P := Try.prog) Try.underlying25 (HO6.out.alloc (.cells #[] 5)).rd (bvs_one pm); rw [List.length_map, hlm] at this; exact this
  case c2 => decide
  case c3 => decide
  case c4 => simp only [World.size_alloc]; omega
  intro v7 w7 ho7 hf7 hk7
  try simp only [List.nil_append] at ho7
  have hn7 : ∀ k, v7.ownBlock = some k → k ≠ pg := fun k hk => (hk7 k hk).elim (fun h => by simp [Value.ownBlock] at h; omega) (fun h => by (try simp only [World.size_alloc] at h); omega)
  have hO7 := (HO6.out.alloc (.cells #[] 5)).kept hf7 (fun k hk h => by simp [Value.ownBlock] at h hk; omega)
  have hA7 := (HA6.out.alloc (.cells #[] 5)).kept hf7 (fun h => by simp [Value.ownBlock] at h; omega)
  have hF7 : Fr none_ w w7 := (HF6.out.alloc (.cells #[] 5)).step hf7 (fun i hi h => by simp [Value.ownBlock] at h; omega)
  have hz7 : w0.heap.size ≤ w7.heap.size := by have := hf7.size; simp only [World.size_alloc] at this; omega
  clear hf7 hk7 HO6 HA6 HF6 hws
  have HO7 := Lib.hid hO7
  have HA7 := Lib.hid hA7
  have HF7 := Lib.hid hF7
  have h77 := Lib.hid ho7
  have hpg7 := (hO7.blk pg rfl).2
  clear hO7 hA7 hF7 ho7
  go_wp2_with (first | (at_builtin; go_must (refine wpList_append_b _ rfl _ _ 25 25 rfl w0.heap.size 5 i0 (.int .u8 0) 1 Try.underlying25 hi hz0 hz1 hz2 rfl _ _ rfl (h77.out.alloc _) (.slice (some ⟨w7.heap.size, 0, none⟩) 1 1) rfl 1 [bv tn] ?d1 ?d2 ?d3 ?d4 ?d5)))
  case d1 => exact src_of_rd Try.underlying25 (rd_made w7 [bv tn] 5 (by show 1 ≤ maxLen; decide)) (bvs_one [tn])
  case d2 => rw [List.length_map, hlm]; decide
  case d3 => rw [List.length_map, hlm]; decide
  case d4 => simp only [World.size_alloc]; omega
  intro v8_ w8 ho8 hf8 hk8
  have hO8 := (HO7.out.alloc (.cells #[bv tn] 5)).kept hf8 (fun k hk h => by have h2 : pg = k := (by simpa [Value.ownBlock] using hk); exact absurd h2.symm (hn7 k h))
  have hA8 := (HA7.out.alloc (.cells #[bv tn] 5)).kept hf8 (fun h => absurd (h77.out.blk _ h).1 (by omega))
  have hF8 : Fr none_ w w8 := (HF7.out.alloc (.cells #[bv tn] 5)).step hf8 (fun i hi h => absurd (h77.out.blk _ h).1 (by omega))
  replace ho8 : Own w8 w0.heap.size 5 v8_ ((pm ++ [tn]).map bv) := by simpa only [List.map_append, List.map_cons, List.map_nil] using ho8
  have hsh := none_of_length (l := pm ++ [tn]) (by rw [List.length_append, hlm, List.length_singleton]; decide)
  have HG2 := wget_any _ (pm ++ [tn]) _ ho8.rd
  rw [hsh.1, hsh.2] at HG2
  unfold msgv zeroM at HG2
  clear hf8 hk8 HO7 HA7 HF7 h77 hsh ho8
  go_wp2_with fail
  refine HG2.mono ?_
  rintro e w9 ⟨rfl, hf9⟩
  have hA9 := (hA8.kept hf9 (fun f => f)).alloc (.cells #[.int .i64 0, .int .i64 0, .int .i64 0, .int .i64 0, .int .i64 0, .int .i64 0, .int .i64 0] 68)
  have hO9 := (hO8.kept hf9 (fun _ _ f => f)).alloc (.cells #[.int .i64 0, .int .i64 0, .int .i64 0, .int .i64 0, .int .i64 0, .int .i64 0, .int .i64 0] 68)
  have hF9 := (hF8.trans hf9).alloc (.cells #[.int .i64 0, .int .i64 0, .int .i64 0, .int .i64 0, .int .i64 0, .int .i64 0, .int .i64 0] 68)
  clear hA8 hO8 hF8 hf9 HG2 hpg7 hz7
  obtain ⟨b, hb⟩ : ∃ b, pm[r]? = some b := ⟨pm[r]'(by omega), List.getElem?_eq_getElem (by omega)⟩
  have hcell : (w9.alloc (.cells #[.int .i64 0, .int .i64 0, .int .i64 0, .int .i64 0, .int .i64 0, .int .i64 0, .int .i64 0] 68)).cell? ⟨pg, po + r, none⟩ = some (.int .u8 (v8 b)) := by
    obtain ⟨b', o', e1, _, h⟩ := hO9.rd.at_ (j := r) (x := bv b) (by rw [List.getElem?_map, hb]; rfl)
    cases e1; exact h
  have hset := hO9.set_at r (by rw [List.length_map, hlm]; omega) (.int .u8 (v8 (b ^^^ tn)))
  have hfr := hset.2
  have hO10 := hset.1
  have hA10 := hA9.setCell_other (p := ⟨pg, po + r, none⟩) (by have := (hO9.blk pg rfl).1; show pg ≠ w.heap.size; omega) (.int .u8 (v8 (b ^^^ tn)))
  have hF10 := hF9.setCell (p := ⟨pg, po + r, none⟩) (fun h => by have := (hO9.blk pg rfl).1; have h : pg < w.heap.size := h; omega) (.int .u8 (v8 (b ^^^ tn)))
  have hxor := v8_xor b tn
  have hr33 : (r : Int) < 32 := by omega
  have hr0 : (0 : Int) ≤ (r : Int) := by omega
  go_wp2_with fail
  generalize (w9.alloc (.cells #[.int .i64 0, .int .i64 0, .int .i64 0, .int .i64 0, .int .i64 0, .int .i64 0, .int .i64 0] 68)).setCell ⟨pg, po + r, none⟩ (.int .u8 (v8 (b ^^^ tn))) = w10 at *
  have e10 : (pm.map bv).set r (.int .u8 (v8 (b ^^^ tn))) = (pm.set r (b ^^^ tn)).map bv := by rw [List.map_set]; rfl
  rw [e10] at hO10
  have hpp : pm.set r (b ^^^ tn) = pm ↔ tn = 0 := by
    rw [← xor8_zero b tn]
    constructor
    · intro h
      have h2 : (pm.set r (b ^^^ tn))[r]? = pm[r]? := by rw [h]
      rw [hb, List.getElem?_set_self (by omega)] at h2
      exact Option.some.inj h2
    · intro h
      rw [h]
      apply List.ext_getElem?
      intro j
      rw [List.getElem?_set]
      by_cases hj : r = j
      · subst hj; rw [if_pos rfl, if_pos (by omega), hb]
      · rw [if_neg hj]
  have hHG := wget_any _ (pm.set r (b ^^^ tn)) w10 hO10.rd
  have hv0 : ∀ h : tn = 0, v8 tn = 0 := fun h => by rw [h]; rfl
  have hv1 : ∀ h : ¬ tn = 0, ¬ v8 tn = 0 := fun h e => h (v8_inj (e.trans rfl))
  clear hset hfr hcell hxor hA9 hO9 hF9 hr hr33 hr0 e10 hO10 hb
  rcases hback (pm.set r (b ^^^ tn)) with ⟨_, hc2, hne⟩ | ⟨y, _, hc0, hy, hiff⟩
  · have hz := hv1 (fun h => hne (hpp.2 h))
    have hz1 : (v8 tn == 0) = false := by simp [hz]
    have hz2 : (v8 tn != 0) = true := by simp [hz]
    have hz3 : decide (v8 tn = 0) = false := by simp [hz]
    rw [hc2] at hHG
    unfold msgv at hHG
    generalize gv (pm.set r (b ^^^ tn)) = y at *
    refine hHG.mono ?_
    rintro e w11 ⟨rfl, hf11⟩
    clear hback hpp hv0 hv1 hc2 hne hz
    have hA12 := (hA10.kept hf11 (fun f => f)).alloc (.cells #[.int .i64 y.kind, .int .i64 y.who, .int .i64 y.gen, .int .i64 y.seq, .int .i64 y.epoch, .int .i64 y.value, .int .i64 y.metric] 68)
    have hF12 := (hF10.trans hf11).alloc (.cells #[.int .i64 y.kind, .int .i64 y.who, .int .i64 y.gen, .int .i64 y.seq, .int .i64 y.epoch, .int .i64 y.value, .int .i64 y.metric] 68)
    have hX12 := Blk.new w11 #[.int .i64 y.kind, .int .i64 y.who, .int .i64 y.gen, .int .i64 y.seq, .int .i64 y.epoch, .int .i64 y.value, .int .i64 y.metric] 68
    clear hA10 hF10 hf11 hHG
    go_wp2_with fail
    generalize w11.alloc (.cells #[.int .i64 y.kind, .int .i64 y.who, .int .i64 y.gen, .int .i64 y.seq, .int .i64 y.epoch, .int .i64 y.value, .int .i64 y.metric] 68) = w12 at *
    refine (told4_any _).mono ?_
    rintro e w13 ⟨rfl, hf13⟩
    obtain ⟨a0, a1, a2, a3, a4, a5, a6⟩ := hA12.at7 hf13
    obtain ⟨x0, x1, x2, x3, x4, x5, x6⟩ := hX12.at7 hf13
    go_wp2
    go_ret
    exact ⟨rfl, hF12.trans hf13⟩
  · rw [hc0, hy] at hHG
    unfold msgv at hHG
    have hqe := eq_msgs y m
    by_cases htn : tn = 0
    · have hz := hv0 htn
      have hz1 : (v8 tn == 0) = true := by simp [hz]
      have hz2 : (v8 tn != 0) = false := by simp [hz]
      have hz3 : decide (v8 tn = 0) = true := by simp [hz]
      rw [decide_eq_true (hiff.2 (hpp.2 htn))] at hqe
      refine hHG.mono ?_
      rintro e w11 ⟨rfl, hf11⟩
      clear hback hpp hv0 hv1 hc0 hy hiff hz htn
      have hA12 := (hA10.kept hf11 (fun f => f)).alloc (.cells #[.int .i64 y.kind, .int .i64 y.who, .int .i64 y.gen, .int .i64 y.seq, .int .i64 y.epoch, .int .i64 y.value, .int .i64 y.metric] 68)
      have hF12 := (hF10.trans hf11).alloc (.cells #[.int .i64 y.kind, .int .i64 y.who, .int .i64 y.gen, .int .i64 y.seq, .int .i64 y.epoch, .int .i64 y.value, .int .i64 y.metric] 68)
      have hX12 := Blk.new w11 #[.int .i64 y.kind, .int .i64 y.who, .int .i64 y.gen, .int .i64 y.seq, .int .i64 y.epoch, .int .i64 y.value, .int .i64 y.metric] 68
      clear hA10 hF10 hf11 hHG
      go_wp2_with fail
      generalize w11.alloc (.cells #[.int .i64 y.kind, .int .i64 y.who, .int .i64 y.gen, .int .i64 y.seq, .int .i64 y.epoch, .int .i64 y.value, .int .i64 y.metric] 68) = w12 at *
      refine (told4_any _).mono ?_
      rintro e w13 ⟨rfl, hf13⟩
      obtain ⟨a0, a1, a2, a3, a4, a5, a6⟩ := hA12.at7 hf13
      obtain ⟨x0, x1, x2, x3, x4, x5, x6⟩ := hX12.at7 hf13
      go_wp2
      go_ret
      exact ⟨rfl, hF12.trans hf13⟩
    · have hz := hv1 htn
      have hz1 : (v8 tn == 0) = false := by simp [hz]
      have hz2 : (v8 tn != 0) = true := by simp [hz]
      have hz3 : decide (v8 tn = 0) = false := by simp [hz]
      rw [decide_eq_false (fun h => htn (hpp.1 (hiff.1 h)))] at hqe
      refine hHG.mono ?_
      rintro e w11 ⟨rfl, hf11⟩
      clear hback hpp hv0 hv1 hc0 hy hiff hz htn
      have hA12 := (hA10.kept hf11 (fun f => f)).alloc (.cells #[.int .i64 y.kind, .int .i64 y.who, .int .i64 y.gen, .int .i64 y.seq, .int .i64 y.epoch, .int .i64 y.value, .int .i64 y.metric] 68)
      have hF12 := (hF10.trans hf11).alloc (.cells #[.int .i64 y.kind, .int .i64 y.who, .int .i64 y.gen, .int .i64 y.seq, .int .i64 y.epoch, .int .i64 y.value, .int .i64 y.metric] 68)
      have hX12 := Blk.new w11 #[.int .i64 y.kind, .int .i64 y.who, .int .i64 y.gen, .int .i64 y.seq, .int .i64 y.epoch, .int .i64 y.value, .int .i64 y.metric] 68
      clear hA10 hF10 hf11 hHG
      go_wp2_with fail
      generalize w11.alloc (.cells #[.int .i64 y.kind, .int .i64 y.who, .int .i64 y.gen, .int .i64 y.seq, .int .i64 y.epoch, .int .i64 y.value, .int .i64 y.metric] 68) = w12 at *
      refine (told4_any _).mono ?_
      rintro e w13 ⟨rfl, hf13⟩
      obtain ⟨a0, a1, a2, a3, a4, a5, a6⟩ := hA12.at7 hf13
      obtain ⟨x0, x1, x2, x3, x4, x5, x6⟩ := hX12.at7 hf13
      go_wp2
      go_ret
      exact ⟨rfl, hF12.trans hf13⟩

namespace wireBack
open Go Go.ChangeShapes Go.WideShapes Go.ChangeAt Go.RowKit
set_option linter.unusedVariables false
set_option maxRecDepth 100000 in
theorem lifted (os : Os) (started : os.Started) (H : Type) (enc : TypeId × Value → H) :
    ReturnsInHanded {} Try.checked os 16 .any (Rows.wireBackSpec.pre6 enc Try.prog Try.f16 Rows.wireBackRow.domain false) (Rows.wireBackSpec.post enc Try.prog Try.f16 false true false false) := by
  refine returnsInHanded_of_change (C := Try.checked) owned started (by kernel_rfl) Try.func16
    (ChangeSpec.witness6 (enc := enc) (C := Try.checked) false ⟨#[], #[.agg #[.int .i64 0, .int .i64 0, .int .i64 0, .int .i64 0, .int .i64 0, .int .i64 0, .int .i64 0], .int .i64 0, .int .u8 0, .int .i64 0], []⟩ 8 (by kernel_rfl) (by kernel_rfl) (by kernel_rfl) (by kernel_rfl)) ?_
  intro W base args ds gs before hval0 hW hcnd _
  have hval : ∀ (j : Nat) t v, Try.f16.params[j]? = some t → args[j]? = some v → Value.okWide Try.prog W .any base t v := hval0
  have hW' := hW
  obtain ⟨p, q, hA0, hV, rfl, hfz, hnd⟩ := hW
  have hA : DataW.TrodAll enc Try.prog W 0 (fun _ => true) true Try.f16.params.toList args.toList ds p := hA0
  rw [Try.params16] at hA hval
  obtain ⟨v0, vs0, d0, ds0, p0, q0, hargs, rfl, rfl, h0, r0⟩ := trodAll_cons hA
  obtain ⟨v1, vs1, d1, ds1, p1, q1, rfl, rfl, rfl, h1, r1⟩ := trodAll_cons r0
  obtain ⟨v2, vs2, d2, ds2, p2, q2, rfl, rfl, rfl, h2, r2⟩ := trodAll_cons r1
  obtain ⟨v3, vs3, d3, ds3, p3, q3, rfl, rfl, rfl, h3, r3⟩ := trodAll_cons r2
  obtain ⟨rfl, rfl, rfl⟩ := trodAll_nil r3
  obtain rfl : args = #[v0, v1, v2, v3] := by cases args; simp_all
  obtain ⟨rfl, rfl⟩ := trodVars_none hV
  have k0 := h0
  have lt0 : ∀ x ∈ p0, x.block < W.heap.size := by obtain ⟨m, hm⟩ := k0; exact DataW.trod_lt m _ _ _ hm
  have k1 := h1
  have lt1 : ∀ x ∈ p1, x.block < W.heap.size := by obtain ⟨m, hm⟩ := k1; exact DataW.trod_lt m _ _ _ hm
  have k2 := h2
  have lt2 : ∀ x ∈ p2, x.block < W.heap.size := by obtain ⟨m, hm⟩ := k2; exact DataW.trod_lt m _ _ _ hm
  have k3 := h3
  have lt3 : ∀ x ∈ p3, x.block < W.heap.size := by obtain ⟨m, hm⟩ := k3; exact DataW.trod_lt m _ _ _ hm
  obtain ⟨x0, hx0, rfl⟩ := open_msg Try.underlying68 (by kernel_rfl) (by kernel_rfl) (by kernel_rfl) (hval 0 68 v0 rfl rfl) h0
  obtain ⟨x1, rfl, bl1, bh1⟩ := open_num Try.underlying3 (hval 1 3 v1 rfl rfl) h1
  obtain ⟨x2, rfl⟩ := open_byte Try.underlying5 (hval 2 5 v2 rfl rfl) h2
  obtain ⟨x3, rfl, bl3, bh3⟩ := open_num Try.underlying3 (hval 3 3 v3 rfl rfl) h3
  clear hA0 hval0
  refine (walk_WireBack W x0 hx0 x1 bl1 bh1 x2 x3 bl3 bh3).mono fun e W' ⟨he, fr⟩ => ?_
  subst he
  have bel := fr.below
  exact ⟨_, rfl, _, _, _, [], _, [], hW', trodAll_mk1 (shut_bool Try.underlying4 _), (trodAll_cons_mk (Below.trod laid (by kernel_rfl) (of_decide_eq_true (by kernel_rfl)) k0 bel lt0) (trodAll_cons_mk (Below.trod laid (by kernel_rfl) (of_decide_eq_true (by kernel_rfl)) k1 bel lt1) (trodAll_cons_mk (Below.trod laid (by kernel_rfl) (of_decide_eq_true (by kernel_rfl)) k2 bel lt2) (trodAll_cons_mk (Below.trod laid (by kernel_rfl) (of_decide_eq_true (by kernel_rfl)) k3 bel lt3) trodAll_mk0)))), rfl, bel.frame _, fun h => by cases h⟩

theorem inPlace : Try.prog.inPlace 16 = [] := inPlace_none _ _ (by kernel_rfl)
theorem closed : joinedFacts Try.prog 16 Try.f16 Rows.wireBackSpec Rows.wireBackRow = true := by
  unfold joinedFacts
  repeat' (with_reducible refine and_mk ?_ ?_)
  all_goals first
    | with_reducible exact enters
    | with_reducible exact laid
    | with_reducible exact rowed
    | with_reducible exact noStops
    | with_reducible exact noKnobs
    | with_reducible exact heard
    | (rw [lifts]; as_aux_lemma => kernel_rfl)
    | (rw [makes]; as_aux_lemma => kernel_rfl)
    | (rw [plains]; as_aux_lemma => kernel_rfl)
    | (rw [inPlace]; as_aux_lemma => kernel_rfl)
    | as_aux_lemma => kernel_rfl
theorem named : Try.prog.funcNamed Rows.wireBackRow.func = some 16 := by kernel_rfl
theorem isOne : (Try.f16).isInstance Try.prog Rows.wireBackRow.origin Rows.wireBackRow.targs := of_decide_eq_true (by kernel_rfl)
theorem wraps : (Try.f16).isWrapper Try.prog Rows.wireBackRow.wrapper Rows.wireBackRow.mainSum := by unfold Func.isWrapper; first | (rw [if_pos (by decide +kernel)]; kernel_rfl) | (rw [if_neg (by decide +kernel)]; exact ⟨rfl, rfl⟩)
theorem over : Rows.wireBackRow.holds Try.pinned (OpenSpec.ofChange Rows.wireBackSpec) :=
  OpenClaim.holds_of_wide 16 Try.f16 rfl rfl rfl rfl rfl rfl rfl ⟨rfl, rfl, rfl, rfl, rfl⟩ rfl rfl rfl rfl rfl named Try.func16 closed
    isOne wraps
    (fun os started H enc _ => lifted os started H enc)

/-- THE STATEMENT. -/
theorem proved : Rows.WireBackSaid := over
#print axioms proved
end wireBack
end Go.Proofs.Ytandenkoejbloaa
