/- Walks of a ring's Gen, Since, Rotate, Set. -/
import Derived.Test.YtandenkoejbloaaRing1
namespace Go.Proofs.Ytandenkoejbloaa
open Go Go.RowKit
theorem gat_cases (g : Gs) (who : Int) : ((who < 0 ∨ (g.length : Int) ≤ who) ∧ gat g who = none) ∨ ∃ (n : Nat) (p : Int × Int), who = n ∧ n < g.length ∧ g[n]? = some p ∧ gat g who = some p := by
  by_cases ho : who < 0 ∨ (g.length : Int) ≤ who
  · exact .inl ⟨ho, gat_out ho⟩
  · obtain ⟨n, rfl⟩ : ∃ n : Nat, who = n := ⟨who.toNat, by omega⟩
    obtain ⟨p, h1, h2⟩ := gat_in (g := g) (who := (n : Int)) (by omega) (by omega)
    exact .inr ⟨n, p, rfl, by omega, h1, h2⟩
section
variable {b lb : Nat} {seed : W} {grace : Int} {g : Gs} {w : World}
set_option maxHeartbeats 800000 in
theorem rgen_any (h : RgAt w b lb seed grace g) (who : Int) : Calls Try.prog 72 #[.pointer (some ⟨b, 0, none⟩), .int .i64 who] w fun e w' => e = .returned (.int .i64 (genC g who)) ∧ w = w' := by
  unfold genC
  rcases gat_cases g who with ⟨ho, hg⟩ | ⟨n, p, rfl, hn, hp, hg⟩
  · have HA := at_out h who ho
    rw [hg]
    go_enter Try.func72, Try.ntmps72
    go_wp2_with fail
    refine HA.mono ?_
    rintro e w1 ⟨rfl, rfl⟩
    go_wp2
    go_ret
    exact ⟨rfl, rfl⟩
  · have HA := at_in h n hn
    obtain ⟨c0, c1⟩ := h.cells hp
    rw [hg]
    go_enter Try.func72, Try.ntmps72
    go_wp2_with fail
    refine HA.mono ?_
    rintro e w1 ⟨rfl, rfl⟩
    go_wp2
    go_ret
    exact ⟨rfl, rfl⟩
set_option maxHeartbeats 800000 in
theorem rsince_any (h : RgAt w b lb seed grace g) (who : Int) : Calls Try.prog 73 #[.pointer (some ⟨b, 0, none⟩), .int .i64 who] w fun e w' => e = .returned (.int .i64 (sinC g who)) ∧ w = w' := by
  unfold sinC
  rcases gat_cases g who with ⟨ho, hg⟩ | ⟨n, p, rfl, hn, hp, hg⟩
  · have HA := at_out h who ho
    rw [hg]
    go_enter Try.func73, Try.ntmps73
    go_wp2_with fail
    refine HA.mono ?_
    rintro e w1 ⟨rfl, rfl⟩
    go_wp2
    go_ret
    exact ⟨rfl, rfl⟩
  · have HA := at_in h n hn
    obtain ⟨c0, c1⟩ := h.cells hp
    rw [hg]
    go_enter Try.func73, Try.ntmps73
    go_wp2_with fail
    refine HA.mono ?_
    rintro e w1 ⟨rfl, rfl⟩
    go_wp2
    go_ret
    exact ⟨rfl, rfl⟩
end
theorem two_put (w : World) (b lb who : Nat) (x y : Int) : Fr (two b lb) w ((w.setCell ⟨lb, who * 2, none⟩ (.int .i64 x)).setCell ⟨lb, who * 2 + 1, none⟩ (.int .i64 y)) :=
  ((Fr.refl (two b lb) w).setCell (p := ⟨lb, who * 2, none⟩) (fun _ => .inr rfl) _).setCell (p := ⟨lb, who * 2 + 1, none⟩) (fun _ => .inr rfl) _
theorem rotC_some {g : Gs} {who : Int} {p : Int × Int} (h : gat g who = some p) (gen now : Int) : (gen ≠ p.1 + 1 ∨ 60000 < gen → rotC g who gen now = 4) ∧ (gen = p.1 + 1 ∧ gen ≤ 60000 ∧ (now < 0 ∨ 1099511627776 < now) → rotC g who gen now = 1) ∧ (gen = p.1 + 1 ∧ gen ≤ 60000 ∧ 0 ≤ now ∧ now ≤ 1099511627776 → rotC g who gen now = 0) := by
  unfold rotC; rw [h]; dsimp only
  refine ⟨fun h1 => if_pos h1, fun h1 => ?_, fun h1 => ?_⟩
  · rw [if_neg (by omega), if_pos h1.2.2]
  · rw [if_neg (by omega), if_neg (by omega)]
theorem rotC_none {g : Gs} {who : Int} (h : gat g who = none) (gen now : Int) : rotC g who gen now = 3 := by unfold rotC; rw [h]
theorem setC_some {g : Gs} {who : Int} {p : Int × Int} (h : gat g who = some p) (gen now : Int) : (gen < 0 ∨ 60000 < gen ∨ now < 0 ∨ 1099511627776 < now → setC g who gen now = 1) ∧ (0 ≤ gen ∧ gen ≤ 60000 ∧ 0 ≤ now ∧ now ≤ 1099511627776 → setC g who gen now = 0) := by
  unfold setC; rw [h]; dsimp only
  refine ⟨fun h1 => if_pos h1, fun h1 => ?_⟩
  rw [if_neg (by omega)]
theorem setC_none {g : Gs} {who : Int} (h : gat g who = none) (gen now : Int) : setC g who gen now = 3 := by unfold setC; rw [h]
theorem keyC_some {g : Gs} {who : Int} {p : Int × Int} (h : gat g who = some p) (grace gen now : Int) : (gen = p.1 ∨ gen = p.1 - 1 ∧ 0 ≤ gen ∧ now < p.2 + grace → keyC g grace who gen now = 0) ∧ (gen ≠ p.1 ∧ (gen ≠ p.1 - 1 ∨ gen < 0 ∨ p.2 + grace ≤ now) → keyC g grace who gen now = 4) := by
  unfold keyC; rw [h]; dsimp only
  refine ⟨fun h1 => if_pos h1, fun h1 => ?_⟩
  rw [if_neg (by omega)]
theorem keyC_none {g : Gs} {who : Int} (h : gat g who = none) (grace gen now : Int) : keyC g grace who gen now = 3 := by unfold keyC; rw [h]
theorem putG_no {g : Gs} {c who gen now : Int} (h : c ≠ 0) : putG g c who gen now = g := if_neg h
theorem putG_ok {g : Gs} {who : Nat} {gen now : Int} : putG g 0 who gen now = g.set who (gen, now) := by unfold putG; rw [if_pos rfl, Int.toNat_natCast]
section
variable {b lb : Nat} {seed : W} {grace : Int} {g : Gs} {w : World}

set_option maxRecDepth 100000 in
set_option maxHeartbeats 1600000 in
theorem rrot_any (h : RgAt w b lb seed grace g) (who gen now : Int) : Calls Try.prog 66 #[.pointer (some ⟨b, 0, none⟩), .int .i64 who, .int .i64 gen, .int .i64 now] w fun e w' =>
    e = .returned (.int .i64 (rotC g who gen now)) ∧ RgAt w' b lb seed grace (putG g (rotC g who gen now) who gen now) ∧ Fr (two b lb) w w' := by
  rcases gat_cases g who with ⟨ho, hg⟩ | ⟨n, p, rfl, hn, hp, hg⟩
  · have HA := at_out h who ho
    rw [rotC_none hg, putG_no (by decide)]
    go_enter Try.func66, Try.ntmps66
    go_wp2_with fail
    refine HA.mono ?_
    rintro e w1 ⟨rfl, rfl⟩
    go_wp2
    go_ret
    exact ⟨rfl, h, Fr.refl _ _⟩
  · have HA := at_in h n hn
    obtain ⟨c0, c1⟩ := h.cells hp
    have f0 : w.frozen? ⟨lb, n * 2, none⟩ = false := h.2.2.2.2.2.1.free _
    have f1 : w.frozen? ⟨lb, n * 2 + 1, none⟩ = false := h.2.2.2.2.2.1.free _
    have hok := h.2.1 p (List.mem_of_getElem? hp)
    have hwp : IntKind.i64.wrap (p.1 + 1) = p.1 + 1 := IntWalk.i64_in _ (by omega)
    have hc := Lib.hid (rotC_some hg gen now)
    generalize rotC g n gen now = code at *
    have HH := Lib.hid h
    clear h
    go_enter Try.func66, Try.ntmps66
    go_wp2_with fail
    refine HA.mono ?_
    rintro e w1 ⟨rfl, rfl⟩
    go_wp2
    all_goals
      replace hc := hc.out
      first
        | (have hcc : code = 4 := by omega
           subst hcc
           rw [putG_no (by decide)]
           exact bodyPost_ret (v := .int .i64 4) (by simp [results, Try.results66, go_sem]) rfl ⟨rfl, HH.out, Fr.refl _ _⟩)
        | (have hcc : code = 1 := by omega
           subst hcc
           rw [putG_no (by decide)]
           exact bodyPost_ret (v := .int .i64 1) (by simp [results, Try.results66, go_sem]) rfl ⟨rfl, HH.out, Fr.refl _ _⟩)
        | (have hcc : code = 0 := by omega
           have hgg : gen = p.1 + 1 := by omega
           subst hcc
           subst hgg
           rw [putG_ok]
           exact bodyPost_ret (v := .int .i64 0) (by simp [results, Try.results66, go_sem]) rfl ⟨rfl, HH.out.put n (by omega) (by omega) (by omega) (by omega), two_put _ _ _ _ _ _⟩)

set_option maxRecDepth 100000 in
set_option maxHeartbeats 1600000 in
theorem rset_any (h : RgAt w b lb seed grace g) (who gen now : Int) : Calls Try.prog 68 #[.pointer (some ⟨b, 0, none⟩), .int .i64 who, .int .i64 gen, .int .i64 now] w fun e w' =>
    e = .returned (.int .i64 (setC g who gen now)) ∧ RgAt w' b lb seed grace (putG g (setC g who gen now) who gen now) ∧ Fr (two b lb) w w' := by
  rcases gat_cases g who with ⟨ho, hg⟩ | ⟨n, p, rfl, hn, hp, hg⟩
  · have HA := at_out h who ho
    rw [setC_none hg, putG_no (by decide)]
    go_enter Try.func68, Try.ntmps68
    go_wp2_with fail
    refine HA.mono ?_
    rintro e w1 ⟨rfl, rfl⟩
    go_wp2
    go_ret
    exact ⟨rfl, h, Fr.refl _ _⟩
  · have HA := at_in h n hn
    obtain ⟨c0, c1⟩ := h.cells hp
    have f0 : w.frozen? ⟨lb, n * 2, none⟩ = false := h.2.2.2.2.2.1.free _
    have f1 : w.frozen? ⟨lb, n * 2 + 1, none⟩ = false := h.2.2.2.2.2.1.free _
    have hc := Lib.hid (setC_some hg gen now)
    generalize setC g n gen now = code at *
    have HH := Lib.hid h
    clear h
    go_enter Try.func68, Try.ntmps68
    go_wp2_with fail
    refine HA.mono ?_
    rintro e w1 ⟨rfl, rfl⟩
    go_wp2
    all_goals
      replace hc := hc.out
      first
        | (have hcc : code = 1 := by omega
           subst hcc
           rw [putG_no (by decide)]
           exact bodyPost_ret (v := .int .i64 1) (by simp [results, Try.results68, go_sem]) rfl ⟨rfl, HH.out, Fr.refl _ _⟩)
        | (have hcc : code = 0 := by omega
           subst hcc
           rw [putG_ok]
           exact bodyPost_ret (v := .int .i64 0) (by simp [results, Try.results68, go_sem]) rfl ⟨rfl, HH.out.put n (by omega) (by omega) (by omega) (by omega), two_put _ _ _ _ _ _⟩)
end
end Go.Proofs.Ytandenkoejbloaa
