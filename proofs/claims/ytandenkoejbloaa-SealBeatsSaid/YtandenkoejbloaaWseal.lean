/- Walks of wire.Seal, bytes.Equal, bytes.Clone. -/
import Derived.Test.YtandenkoejbloaaWput
import Derived.Test.YtandenkoejbloaaMac2
namespace Go.Proofs.Ytandenkoejbloaa
open Go Go.RowKit

set_option maxHeartbeats 1600000 in
theorem equal_any (v1 v2 : Value) (a b : List UInt8) (w : World) (h1 : Rd w v1 (a.map bv)) (h2 : Rd w v2 (b.map bv)) :
    Calls Try.prog 93 #[v1, v2] w fun e w' => e = .returned (.bool (a == b)) ∧ w = w' := by
  have hc1 := run_str_of_rd (P := Try.prog) Try.underlying25 Try.underlying5 Try.underlying9 h1
  have hc2 := run_str_of_rd (P := Try.prog) Try.underlying25 Try.underlying5 Try.underlying9 h2
  have hE : ((bs a).toList == (bs b).toList) = (a == b) := by rw [bs_toList, bs_toList]
  go_enter Try.func93, Try.ntmps93
  go_wp2
  go_ret
  exact ⟨by simp [bs_toList], rfl⟩

theorem nil_eq (n c : Nat) (w : World) : (binOp .eql 25 (.slice none n c) (.slice none 0 0)).run Try.prog w = .ok (.bool true) w := by
  simp only [binOp, Op.equal, Op.maxDepth]
  rw [show (10000 : Nat) = 9999 + 1 from rfl, Op.equalIn]
  simp [Sem.run_bind, run_underlying Try.underlying25]
theorem some_eq (p : Addr) (n c : Nat) (w : World) : (binOp .eql 25 (.slice (some p) n c) (.slice none 0 0)).run Try.prog w = .ok (.bool false) w := by
  simp only [binOp, Op.equal, Op.maxDepth]
  rw [show (10000 : Nat) = 9999 + 1 from rfl, Op.equalIn]
  simp [Sem.run_bind, run_underlying Try.underlying25]

set_option maxRecDepth 100000 in
set_option maxHeartbeats 3200000 in
theorem clone_any (v : Value) (l : List UInt8) (w : World) (h : Rd w v (l.map bv)) (hl : l.length ≤ 140737488355000) :
    Calls Try.prog 94 #[v] w fun e w' => ∃ r, e = .returned r ∧ Own w' w.heap.size 5 r (l.map bv) ∧ Fr none_ w w' := by
  obtain ⟨i0, hi, hz0, hz1, hz2⟩ := info_parts info_u8
  have h0 := h
  obtain ⟨ao, cap, rfl, hc1, hm1, hcell⟩ := h
  simp only [List.length_map] at *
  unfold maxLen at hm1
  have hq1 := nil_eq
  have hq2 := some_eq
  go_enter Try.func94, Try.ntmps94
  cases ao with
  | none =>
    have hnil : l = [] := by
      cases l with
      | nil => rfl
      | cons x r => obtain ⟨b, o, hb, _⟩ := hcell 0 (bv x) rfl; cases hb
    subst hnil
    go_wp2_with fail
    go_ret
    exact ⟨_, rfl, Own.nil _ _ _, Fr.refl _ _⟩
  | some p =>
    have HR := Lib.hid (h0.alloc (.cells #[] 5))
    clear h0 hcell
    go_wp2_with (first | (at_builtin; go_must (refine wpList_append_b _ rfl _ _ 25 25 rfl w.heap.size 5 i0 (.int .u8 0) 1 Try.underlying25 hi hz0 hz1 hz2 rfl (.slice (some ⟨w.heap.size, 0, none⟩) 0 0) [] rfl (own_made w [] 5 (by decide) w.heap.size (Nat.le_refl _)) (.slice (some p) l.length cap) rfl l.length (l.map bv) ?c1 ?c2 ?c3 ?c4 ?c5)))
    case c1 => have := src_of_rd (P := Try.prog) Try.underlying25 HR.out (bvs_one l); rw [List.length_map] at this; exact this
    case c2 => simp [maxLen]; omega
    case c3 => simp; omega
    case c4 => simp
    intro v1 w1 ho1 hf1 _
    try simp only [List.nil_append] at ho1
    go_wp2
    go_ret
    exact ⟨_, rfl, ho1, ((Fr.refl none_ w).alloc (.cells #[] 5)).step hf1 (fun i hi h => by simp [Value.ownBlock] at h; omega)⟩

def sealB (k : W × W) (m : Ms) : List UInt8 := msgB m ++ tagB (tagW k (msgB m))
theorem sealB_length (k : W × W) (m : Ms) : (sealB k m).length = 48 := by rw [sealB, List.length_append, msgB_length, tagB_length]

set_option maxRecDepth 100000 in
set_option maxHeartbeats 3200000 in
theorem seal_bad (k : W × W) (m : Ms) (w : World) (hm : mayM m = false) : Calls Try.prog 55 #[keyv k, msgv m] w fun e w' => e = .returned (.tuple #[.slice none 0 0, .int .i64 1]) ∧ Fr none_ w w' := by
  have hF := ((Fr.refl none_ w).alloc (.cells #[.int .u64 (u k.1), .int .u64 (u k.2)] 56)).alloc (.cells #[.int .i64 m.kind, .int .i64 m.who, .int .i64 m.gen, .int .i64 m.seq, .int .i64 m.epoch, .int .i64 m.value, .int .i64 m.metric] 68)
  have HP := fun wa => wput_bad m wa hm
  unfold msgv keyv at *
  go_enter Try.func55, Try.ntmps55
  go_wp2_with fail
  refine (HP _).mono ?_
  rintro e w1 ⟨rfl, hf1⟩
  go_wp2
  exact bodyPost_ret (v := .tuple #[.slice none 0 0, .int .i64 1]) (by simp [results, Try.results55, go_sem]) rfl ⟨rfl, hF.trans hf1⟩

set_option maxRecDepth 100000 in
set_option maxHeartbeats 3200000 in
theorem seal_ok (k : W × W) (m : Ms) (w : World) (hm : mayM m = true) : Calls Try.prog 55 #[keyv k, msgv m] w fun e w' => ∃ v, e = .returned (.tuple #[v, .int .i64 0]) ∧ Own w' w.heap.size 5 v ((sealB k m).map bv) ∧ Fr none_ w w' := by
  obtain ⟨i0, hi, hz0, hz1, hz2⟩ := info_parts info_u8
  have hF := ((Fr.refl none_ w).alloc (.cells #[.int .u64 (u k.1), .int .u64 (u k.2)] 56)).alloc (.cells #[.int .i64 m.kind, .int .i64 m.who, .int .i64 m.gen, .int .i64 m.seq, .int .i64 m.epoch, .int .i64 m.value, .int .i64 m.metric] 68)
  have hB := (Blk.new w #[.int .u64 (u k.1), .int .u64 (u k.2)] 56).alloc (.cells #[.int .i64 m.kind, .int .i64 m.who, .int .i64 m.gen, .int .i64 m.seq, .int .i64 m.epoch, .int .i64 m.value, .int .i64 m.metric] 68)
  have HP := fun wa => wput_ok m wa hm
  have hlm := msgB_length m
  have hlt := tagB_length (tagW k (msgB m))
  have HT : ∀ wa v, Rd wa v ((msgB m).map bv) → Calls Try.prog 42 #[keyv k, v] wa fun e w' => e = .returned (keyv (tagW k (msgB m))) ∧ Fr none_ wa w' := fun wa v h => mtag_any k v (msgB m) wa h (by omega)
  have HB := fun wa => mbytes_any (tagW k (msgB m)) wa
  have HS := Lib.hid (show sealB k m = msgB m ++ tagB (tagW k (msgB m)) from rfl)
  generalize tagW k (msgB m) = t at *
  unfold msgv keyv at *
  go_enter Try.func55, Try.ntmps55
  go_wp2_with fail
  refine (HP _).mono ?_
  rintro e w1 ⟨v1, rfl, ho1, hf1⟩
  have hB1 := hB.kept hf1 (fun f => f)
  have hF1 := hF.trans hf1
  replace ho1 := ho1.mono hF.size
  have k0 : w1.cell? ⟨w.heap.size, 0, none⟩ = some (.int .u64 (u k.1)) := hB1.cell_of rfl
  have k1 : w1.cell? ⟨w.heap.size, 1, none⟩ = some (.int .u64 (u k.2)) := hB1.cell_of rfl
  clear hB hF hf1 hB1 HP
  go_wp2_with fail
  refine (HT _ _ ho1.rd).mono ?_
  rintro e w2 ⟨rfl, hf2⟩
  go_wp2_with fail
  refine (HB _).mono ?_
  rintro e w3 ⟨v3, rfl, ho3, hf3⟩
  have ho2 := ho1.kept (hf2.trans hf3) (fun _ _ f => f)
  have hF3 := (hF1.trans hf2).trans hf3
  have HO2 := Lib.hid ho2
  have HF3 := Lib.hid hF3
  clear ho1 hf2 hf3 hF1 k0 k1 ho2 hF3
  go_wp2_with (first | (at_builtin; go_must (refine wpList_append_b _ rfl _ _ 25 25 rfl w.heap.size 5 i0 (.int .u8 0) 1 Try.underlying25 hi hz0 hz1 hz2 rfl _ _ rfl HO2.out v3 rfl 16 ((tagB t).map bv) ?c1 ?c2 ?c3 ?c4 ?c5)))
  case c1 => have := src_of_rd (P := Try.prog) Try.underlying25 ho3.rd (bvs_one (tagB t)); rw [List.length_map, hlt] at this; exact this
  case c2 => rw [List.length_map, hlm]; decide
  case c3 => rw [List.length_map, hlm]; decide
  case c4 => exact HF3.out.size
  intro v4 w4 ho4 hf4 _
  replace ho4 : Own w4 w.heap.size 5 v4 ((sealB k m).map bv) := by rw [HS.out]; simpa only [List.map_append] using ho4
  have hF4 : Fr none_ w w4 := HF3.out.step hf4 (fun i hi h => absurd (HO2.out.blk _ h).1 (by omega))
  go_wp2
  exact bodyPost_ret (v := .tuple #[v4, .int .i64 0]) (by simp [results, Try.results55, go_sem]) rfl ⟨_, rfl, ho4, hF4⟩
end Go.Proofs.Ytandenkoejbloaa
