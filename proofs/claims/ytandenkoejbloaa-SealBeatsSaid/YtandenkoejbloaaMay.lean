/- Walks of wire.May and of the document's MayMsg. -/
import Derived.Test.YtandenkoejbloaaEq
namespace Go.Proofs.Ytandenkoejbloaa
open Go Go.RowKit

set_option maxHeartbeats 800000 in
theorem in_any (n lo hi : Int) (w : World) : Calls Try.prog 95 #[.int .i64 n, .int .i64 lo, .int .i64 hi] w fun e w' => e = .returned (.bool (inI n lo hi)) ∧ w = w' := by
  unfold inI
  go_enter Try.func95, Try.ntmps95
  cases h1 : decide (lo ≤ n)
  · go_wp2
    go_ret
    exact ⟨by simp, rfl⟩
  · go_wp2
    go_ret
    exact ⟨by simp, rfl⟩
set_option maxHeartbeats 800000 in
theorem rin_any (n lo hi : Int) (w : World) : Calls Try.prog 96 #[.int .i64 n, .int .i64 lo, .int .i64 hi] w fun e w' => e = .returned (.bool (inI n lo hi)) ∧ w = w' := by
  unfold inI
  go_enter Try.func96, Try.ntmps96
  cases h1 : decide (lo ≤ n)
  · go_wp2
    go_ret
    exact ⟨by simp, rfl⟩
  · go_wp2
    go_ret
    exact ⟨by simp, rfl⟩

set_option maxRecDepth 100000 in
set_option maxHeartbeats 12800000 in
theorem may_any (m : Ms) (w : World) : Calls Try.prog 61 #[msgv m] w fun e w' => e = .returned (.bool (mayM m)) ∧ Fr none_ w w' := by
  unfold msgv
  have hF := (Fr.refl none_ w).alloc (.cells #[.int .i64 m.kind, .int .i64 m.who, .int .i64 m.gen, .int .i64 m.seq, .int .i64 m.epoch, .int .i64 m.value, .int .i64 m.metric] 68)
  go_enter Try.func61, Try.ntmps61
  by_cases hk : m.kind = 1
  · have hk1 : (m.kind == 1) = true := by simp [hk]
    have hmay : mayM m = (inI m.kind 1 3 && inI m.who 0 15 && inI m.gen 0 60000 && inI m.seq 1 1099511627776 && inI m.epoch 0 1099511627776 && inI m.metric 0 3 && inI m.value 0 1099511627776) := by simp [mayM, hk]
    clear hk
    go_wp2_with fail
    refine (in_any _ _ _ _).mono ?_
    rintro e w' ⟨rfl, rfl⟩
    cases h1 : inI m.kind 1 3
    · go_wp2
      go_ret
      exact ⟨by rw [hmay]; simp [h1], hF⟩
    go_wp2_with fail
    refine (in_any _ _ _ _).mono ?_
    rintro e w' ⟨rfl, rfl⟩
    cases h2 : inI m.who 0 15
    · go_wp2
      go_ret
      exact ⟨by rw [hmay]; simp [h1, h2], hF⟩
    go_wp2_with fail
    refine (in_any _ _ _ _).mono ?_
    rintro e w' ⟨rfl, rfl⟩
    cases h3 : inI m.gen 0 60000
    · go_wp2
      go_ret
      exact ⟨by rw [hmay]; simp [h1, h2, h3], hF⟩
    go_wp2_with fail
    refine (in_any _ _ _ _).mono ?_
    rintro e w' ⟨rfl, rfl⟩
    cases h4 : inI m.seq 1 1099511627776
    · go_wp2
      go_ret
      exact ⟨by rw [hmay]; simp [h1, h2, h3, h4], hF⟩
    go_wp2_with fail
    refine (in_any _ _ _ _).mono ?_
    rintro e w' ⟨rfl, rfl⟩
    cases h5 : inI m.epoch 0 1099511627776
    · go_wp2
      go_ret
      exact ⟨by rw [hmay]; simp [h1, h2, h3, h4, h5], hF⟩
    go_wp2_with fail
    refine (in_any _ _ _ _).mono ?_
    rintro e w' ⟨rfl, rfl⟩
    cases h6 : inI m.metric 0 3
    · go_wp2
      go_ret
      exact ⟨by rw [hmay]; simp [h1, h2, h3, h4, h5, h6], hF⟩
    go_wp2_with fail
    refine (in_any _ _ _ _).mono ?_
    rintro e w' ⟨rfl, rfl⟩
    cases h7 : inI m.value 0 1099511627776
    · go_wp2
      go_ret
      exact ⟨by rw [hmay]; simp [h1, h2, h3, h4, h5, h6, h7], hF⟩
    go_wp2
    go_ret
    exact ⟨by rw [hmay]; simp [h1, h2, h3, h4, h5, h6, h7], hF⟩
  · have hk1 : (m.kind == 1) = false := by simp [hk]
    have hmay : mayM m = (inI m.kind 1 3 && inI m.who 0 15 && inI m.gen 0 60000 && inI m.seq 1 1099511627776 && inI m.epoch 0 1099511627776 && inI m.metric 0 0 && inI m.value 0 0) := by simp [mayM, hk]
    go_wp2_with fail
    refine (in_any _ _ _ _).mono ?_
    rintro e w' ⟨rfl, rfl⟩
    cases h1 : inI m.kind 1 3
    · go_wp2
      go_ret
      exact ⟨by rw [hmay]; simp [h1], hF⟩
    go_wp2_with fail
    refine (in_any _ _ _ _).mono ?_
    rintro e w' ⟨rfl, rfl⟩
    cases h2 : inI m.who 0 15
    · go_wp2
      go_ret
      exact ⟨by rw [hmay]; simp [h1, h2], hF⟩
    go_wp2_with fail
    refine (in_any _ _ _ _).mono ?_
    rintro e w' ⟨rfl, rfl⟩
    cases h3 : inI m.gen 0 60000
    · go_wp2
      go_ret
      exact ⟨by rw [hmay]; simp [h1, h2, h3], hF⟩
    go_wp2_with fail
    refine (in_any _ _ _ _).mono ?_
    rintro e w' ⟨rfl, rfl⟩
    cases h4 : inI m.seq 1 1099511627776
    · go_wp2
      go_ret
      exact ⟨by rw [hmay]; simp [h1, h2, h3, h4], hF⟩
    go_wp2_with fail
    refine (in_any _ _ _ _).mono ?_
    rintro e w' ⟨rfl, rfl⟩
    cases h5 : inI m.epoch 0 1099511627776
    · go_wp2
      go_ret
      exact ⟨by rw [hmay]; simp [h1, h2, h3, h4, h5], hF⟩
    go_wp2_with fail
    refine (in_any _ _ _ _).mono ?_
    rintro e w' ⟨rfl, rfl⟩
    cases h6 : inI m.metric 0 0
    · go_wp2
      go_ret
      exact ⟨by rw [hmay]; simp [h1, h2, h3, h4, h5, h6], hF⟩
    go_wp2_with fail
    refine (in_any _ _ _ _).mono ?_
    rintro e w' ⟨rfl, rfl⟩
    cases h7 : inI m.value 0 0
    · go_wp2
      go_ret
      exact ⟨by rw [hmay]; simp [h1, h2, h3, h4, h5, h6, h7], hF⟩
    go_wp2
    go_ret
    exact ⟨by rw [hmay]; simp [h1, h2, h3, h4, h5, h6, h7], hF⟩
theorem may_false {m : Ms} (h : ¬ (1 ≤ m.kind ∧ m.kind ≤ 3 ∧ 0 ≤ m.who ∧ m.who ≤ 15 ∧ 0 ≤ m.gen ∧ m.gen ≤ 60000 ∧ 1 ≤ m.seq ∧ m.seq ≤ 1099511627776 ∧ 0 ≤ m.epoch ∧ m.epoch ≤ 1099511627776)) : mayM m = false := by
  rw [Bool.eq_false_iff]
  intro hm
  apply h
  unfold mayM inI at hm
  simp only [Bool.and_eq_true, decide_eq_true_eq] at hm
  omega
theorem in_false {n lo hi : Int} (h : inI n lo hi = false) : ¬ (lo ≤ n ∧ n ≤ hi) := by
  intro hc
  unfold inI at h
  simp [hc.1, hc.2] at h
theorem in_true {n lo hi : Int} (h : inI n lo hi = true) : lo ≤ n ∧ n ≤ hi := by
  unfold inI at h
  simpa using h
theorem may_at {m : Ms} (h : 1 ≤ m.kind ∧ m.kind ≤ 3 ∧ 0 ≤ m.who ∧ m.who ≤ 15 ∧ 0 ≤ m.gen ∧ m.gen ≤ 60000 ∧ 1 ≤ m.seq ∧ m.seq ≤ 1099511627776 ∧ 0 ≤ m.epoch ∧ m.epoch ≤ 1099511627776) : mayM m = (inI m.metric 0 (if m.kind = 1 then 3 else 0) && inI m.value 0 (if m.kind = 1 then 1099511627776 else 0)) := by
  unfold mayM inI
  have h1 : decide (1 ≤ m.kind) = true := by simp; omega
  have h2 : decide (m.kind ≤ 3) = true := by simp; omega
  have h3 : decide (0 ≤ m.who) = true := by simp; omega
  have h4 : decide (m.who ≤ 15) = true := by simp; omega
  have h5 : decide (0 ≤ m.gen) = true := by simp; omega
  have h6 : decide (m.gen ≤ 60000) = true := by simp; omega
  have h7 : decide (1 ≤ m.seq) = true := by simp; omega
  have h8 : decide (m.seq ≤ 1099511627776) = true := by simp; omega
  have h9 : decide (0 ≤ m.epoch) = true := by simp; omega
  have h10 : decide (m.epoch ≤ 1099511627776) = true := by simp; omega
  simp only [h1, h2, h3, h4, h5, h6, h7, h8, h9, h10, Bool.true_and, Bool.and_true]

set_option maxRecDepth 100000 in
set_option maxHeartbeats 12800000 in
theorem rmay_any (m : Ms) (w : World) : Calls Try.prog 62 #[msgv m] w fun e w' => e = .returned (.bool (mayM m)) ∧ Fr none_ w w' := by
  unfold msgv
  have hF := (Fr.refl none_ w).alloc (.cells #[.int .i64 m.kind, .int .i64 m.who, .int .i64 m.gen, .int .i64 m.seq, .int .i64 m.epoch, .int .i64 m.value, .int .i64 m.metric] 68)
  go_enter Try.func62, Try.ntmps62
  go_wp2_with fail
  refine (rin_any _ _ _ _).mono ?_
  rintro e w' ⟨rfl, rfl⟩
  cases h1 : inI m.kind 1 3
  · have hm := may_false (m := m) (by have := in_false h1; omega)
    go_wp2
    go_ret
    exact ⟨by rw [hm]; rfl, hF⟩
  go_wp2_with fail
  refine (rin_any _ _ _ _).mono ?_
  rintro e w' ⟨rfl, rfl⟩
  cases h2 : inI m.who 0 15
  · have hm := may_false (m := m) (by have := in_false h2; omega)
    go_wp2
    go_ret
    exact ⟨by rw [hm]; rfl, hF⟩
  go_wp2_with fail
  refine (rin_any _ _ _ _).mono ?_
  rintro e w' ⟨rfl, rfl⟩
  cases h3 : inI m.gen 0 60000
  · have hm := may_false (m := m) (by have := in_false h3; omega)
    go_wp2
    go_ret
    exact ⟨by rw [hm]; rfl, hF⟩
  by_cases g4 : m.seq < 1
  · have hm := may_false (m := m) (by omega)
    have d4 : decide (m.seq < 1) = true := by simp; omega
    go_wp2
    go_ret
    exact ⟨by rw [hm]; rfl, hF⟩
  have d4 : decide (m.seq < 1) = false := by simp; omega
  by_cases g5 : 1099511627776 < m.seq
  · have hm := may_false (m := m) (by omega)
    have d5 : decide (1099511627776 < m.seq) = true := by simp; omega
    go_wp2
    go_ret
    exact ⟨by rw [hm]; rfl, hF⟩
  have d5 : decide (1099511627776 < m.seq) = false := by simp; omega
  by_cases g6 : m.epoch < 0
  · have hm := may_false (m := m) (by omega)
    have d6 : decide (m.epoch < 0) = true := by simp; omega
    go_wp2
    go_ret
    exact ⟨by rw [hm]; rfl, hF⟩
  have d6 : decide (m.epoch < 0) = false := by simp; omega
  by_cases g7 : 1099511627776 < m.epoch
  · have hm := may_false (m := m) (by omega)
    have d7 : decide (1099511627776 < m.epoch) = true := by simp; omega
    go_wp2
    go_ret
    exact ⟨by rw [hm]; rfl, hF⟩
  have d7 : decide (1099511627776 < m.epoch) = false := by simp; omega
  have hm := may_at (m := m) (by have := in_true h1; have := in_true h2; have := in_true h3; omega)
  clear g4 g5 g6 g7 h1 h2 h3
  by_cases hk : m.kind = 1
  · have hk1 : (m.kind == 1) = true := by simp [hk]
    have hk3 : decide (m.kind = 1) = true := by simp [hk]
    rw [if_pos hk, if_pos hk] at hm
    clear hk
    go_wp2_with fail
    refine (rin_any _ _ _ _).mono ?_
    rintro e w' ⟨rfl, rfl⟩
    cases h4 : inI m.metric 0 3
    · rw [h4] at hm
      go_wp2
      go_ret
      exact ⟨by rw [hm]; simp, hF⟩
    rw [h4] at hm
    unfold inI at hm
    cases h5 : decide (0 ≤ m.value)
    · rw [h5] at hm
      go_wp2
      go_ret
      exact ⟨by rw [hm]; simp, hF⟩
    · rw [h5] at hm
      go_wp2
      go_ret
      exact ⟨by rw [hm]; simp, hF⟩
  · have hk1 : (m.kind == 1) = false := by simp [hk]
    have hk3 : decide (m.kind = 1) = false := by simp [hk]
    rw [if_neg hk, if_neg hk] at hm
    clear hk
    have e1 : (m.metric == 0) = inI m.metric 0 0 := by unfold inI; rw [Bool.eq_iff_iff]; simp; omega
    have e2 : (m.value == 0) = inI m.value 0 0 := by unfold inI; rw [Bool.eq_iff_iff]; simp; omega
    cases h4 : inI m.metric 0 0
    · rw [h4] at e1 hm
      go_wp2
      go_ret
      exact ⟨by rw [hm]; simp, hF⟩
    · rw [h4] at e1 hm
      go_wp2
      go_ret
      exact ⟨by rw [hm, ← e2]; simp, hF⟩
end Go.Proofs.Ytandenkoejbloaa
