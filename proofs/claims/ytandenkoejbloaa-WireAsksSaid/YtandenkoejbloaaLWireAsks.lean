/- For every input the law quorumitelaw4.WireAsks returns true: which messages may be, their bytes, envelopes, what is in bytes, is what the document says. Conditions: none. -/
import Derived.Test.YtandenkoejbloaaTold4
import Derived.Test.YtandenkoejbloaaRspl
import Derived.Test.YtandenkoejbloaaFacts
namespace Go.Proofs.Ytandenkoejbloaa
open Go Go.RowKit

def pB (m : Ms) : List UInt8 := if mayM m = true then msgB m else []
def pC (m : Ms) : Int := if mayM m = true then 0 else 1
def sB (k : W × W) (m : Ms) : List UInt8 := if mayM m = true then sealB k m else []
theorem putm_all (m : Ms) (w : World) : Calls Try.prog 53 #[msgv m] w fun e w' => ∃ v, e = .returned (.tuple #[v, .int .i64 (pC m)]) ∧ Rd w' v ((pB m).map bv) ∧ Fr none_ w w' := by
  unfold pB pC
  cases h : mayM m
  · exact (wput_bad m w h).mono fun e w' ⟨he, hf⟩ => ⟨_, he, Rd.nil_ _, hf⟩
  · exact (wput_ok m w h).mono fun e w' ⟨v, he, ho, hf⟩ => ⟨v, he, ho.rd, hf⟩
theorem rputm_all (m : Ms) (w : World) : Calls Try.prog 54 #[msgv m] w fun e w' => e = .returned (.tuple #[.string (bs (pB m)), .int .i64 (pC m)]) ∧ Fr none_ w w' := by
  unfold pB pC
  cases h : mayM m
  · exact rputm_bad m w h
  · exact rputm_ok m w h
theorem seal_all (k : W × W) (m : Ms) (w : World) : Calls Try.prog 55 #[keyv k, msgv m] w fun e w' => ∃ v, e = .returned (.tuple #[v, .int .i64 (pC m)]) ∧ Rd w' v ((sB k m).map bv) ∧ Fr none_ w w' := by
  unfold sB pC
  cases h : mayM m
  · exact (seal_bad k m w h).mono fun e w' ⟨he, hf⟩ => ⟨_, he, Rd.nil_ _, hf⟩
  · exact (seal_ok k m w h).mono fun e w' ⟨v, he, ho, hf⟩ => ⟨v, he, ho.rd, hf⟩
theorem rseal_all (k : W × W) (m : Ms) (w : World) : Calls Try.prog 56 #[keyv k, msgv m] w fun e w' => e = .returned (.tuple #[.string (bs (sB k m)), .int .i64 (pC m)]) ∧ Fr none_ w w' := by
  unfold sB pC
  cases h : mayM m
  · exact rseal_bad k m w h
  · exact rseal_ok k m w h
/-- What is in the bytes of an envelope. -/
def spl (l : List UInt8) : Ms × List UInt8 × (W × W) × Int :=
  if l.length = 48 then match getM (l.take 32) with | some m => (m, l.take 32, (wordAt (l.drop 32) 0, wordAt (l.drop 32) 8), 0) | none => (zeroM, [], (0, 0), 2) else (zeroM, [], (0, 0), 2)
theorem split_all (v : Value) (l : List UInt8) (w : World) (h : Rd w v (l.map bv)) : Calls Try.prog 59 #[v] w fun e w' => ∃ r, e = .returned (.tuple #[msgv (spl l).1, r, keyv (spl l).2.2.1, .int .i64 (spl l).2.2.2]) ∧ Rd w' r ((spl l).2.1.map bv) ∧ Fr none_ w w' := by
  unfold spl
  by_cases hl : l.length = 48
  · rw [if_pos hl]
    cases hg : getM (l.take 32) with
    | none => exact (split_none v l w h hl hg).mono fun e w' ⟨he, hf⟩ => ⟨_, he, Rd.nil_ _, hf⟩
    | some m => exact (split_ok v l m w h hl hg).mono fun e w' ⟨r, he, ho, hf⟩ => ⟨r, he, ho.rd, hf⟩
  · rw [if_neg hl]
    exact (split_short v l w h hl).mono fun e w' ⟨he, hf⟩ => ⟨_, he, Rd.nil_ _, hf⟩
theorem rsplit_all (l : List UInt8) (w : World) : Calls Try.prog 60 #[.string (bs l)] w fun e w' => e = .returned (.tuple #[msgv (spl l).1, .string (bs (spl l).2.1), keyv (spl l).2.2.1, .int .i64 (spl l).2.2.2]) ∧ Fr none_ w w' := by
  unfold spl
  by_cases hl : l.length = 48
  · rw [if_pos hl]
    cases hg : getM (l.take 32) with
    | none => exact rsplit_none l w hl hg
    | some m => exact rsplit_ok l m w hl hg
  · rw [if_neg hl]
    exact rsplit_short l w hl

set_option maxRecDepth 100000 in
set_option maxHeartbeats 3200000 in
theorem walk_WireAsks (w : World) (m : Ms) (_ : okM m) (k : W × W) (v2 : Value) (l : List UInt8) (h2 : Rd w v2 (l.map bv)) :
    Calls Try.prog 15 #[msgv m, .agg #[.int .u64 (u k.1), .int .u64 (u k.2)], v2] w fun e w' => e = .returned (.bool true) ∧ Fr none_ w w' := by
  have HM := fun wa => may_any m wa
  have HMr := fun wa => rmay_any m wa
  have HP := fun wa => putm_all m wa
  have HPr := fun wa => rputm_all m wa
  have HS := fun wa => seal_all k m wa
  have HSr := fun wa => rseal_all k m wa
  have HG := fun wa v h => wget_any v l wa h
  have HGr := fun wa => rgetm_any l wa
  have HX := fun wa v h => split_all v l wa h
  have HXr := fun wa => rsplit_all l wa
  have hR := (h2.alloc (.cells #[.int .i64 m.kind, .int .i64 m.who, .int .i64 m.gen, .int .i64 m.seq, .int .i64 m.epoch, .int .i64 m.value, .int .i64 m.metric] 68)).alloc (.cells #[.int .u64 (u k.1), .int .u64 (u k.2)] 23)
  obtain ⟨ao, cap, rfl, hc1, hm1, _⟩ := h2
  simp only [List.length_map] at *
  unfold maxLen at hm1
  have hA := (Blk.new w #[.int .i64 m.kind, .int .i64 m.who, .int .i64 m.gen, .int .i64 m.seq, .int .i64 m.epoch, .int .i64 m.value, .int .i64 m.metric] 68).alloc (.cells #[.int .u64 (u k.1), .int .u64 (u k.2)] 23)
  have hB := Blk.new (w.alloc (.cells #[.int .i64 m.kind, .int .i64 m.who, .int .i64 m.gen, .int .i64 m.seq, .int .i64 m.epoch, .int .i64 m.value, .int .i64 m.metric] 68)) #[.int .u64 (u k.1), .int .u64 (u k.2)] 23
  rw [World.size_alloc] at hB
  have hF := ((Fr.refl none_ w).alloc (.cells #[.int .i64 m.kind, .int .i64 m.who, .int .i64 m.gen, .int .i64 m.seq, .int .i64 m.epoch, .int .i64 m.value, .int .i64 m.metric] 68)).alloc (.cells #[.int .u64 (u k.1), .int .u64 (u k.2)] 23)
  generalize mayM m = mb at *
  generalize pB m = pm at *
  generalize pC m = pc at *
  generalize sB k m = sm at *
  generalize gv l = g at *
  generalize gc l = gcode at *
  generalize (spl l).1 = x at *
  generalize (spl l).2.1 = y at *
  generalize (spl l).2.2.1 = t at *
  generalize (spl l).2.2.2 = xc at *
  unfold msgv keyv at *
  go_enter Try.func15, Try.ntmps15
  by_cases hbig : 60 < l.length
  · have hd : decide ((60 : Int) < (l.length : Int)) = true := by simp; omega
    have HF := Lib.hid hF
    clear hA hB hF hR HM HMr HP HPr HS HSr HG HGr HX HXr
    go_wp2_with fail
    refine (told4_any _).mono ?_
    rintro e w3 ⟨rfl, hf⟩
    go_wp2
    go_ret
    exact ⟨rfl, HF.out.trans hf⟩
  have hd : decide ((60 : Int) < (l.length : Int)) = false := by simp; omega
  go_wp2_with fail
  generalize (w.alloc (.cells #[.int .i64 m.kind, .int .i64 m.who, .int .i64 m.gen, .int .i64 m.seq, .int .i64 m.epoch, .int .i64 m.value, .int .i64 m.metric] 68)).alloc (.cells #[.int .u64 (u k.1), .int .u64 (u k.2)] 23) = w0 at *
  refine (HP w0).mono ?_
  rintro e w1 ⟨vp, rfl, hrp, hf1⟩
  obtain ⟨a0, a1, a2, a3, a4, a5, a6⟩ := hA.at7 hf1
  go_wp2_with fail
  clear a0 a1 a2 a3 a4 a5 a6
  refine (HPr w1).mono ?_
  rintro e w2 ⟨rfl, hf2⟩
  have hg2 := hf1.trans hf2
  obtain ⟨a0, a1, a2, a3, a4, a5, a6⟩ := hA.at7 hg2
  obtain ⟨k0, k1⟩ := hB.at2 hg2
  go_wp2_with fail
  clear a0 a1 a2 a3 a4 a5 a6 k0 k1
  refine (HS w2).mono ?_
  rintro e w3 ⟨vs, rfl, hrs, hf3⟩
  have hg3 := hg2.trans hf3
  obtain ⟨a0, a1, a2, a3, a4, a5, a6⟩ := hA.at7 hg3
  obtain ⟨k0, k1⟩ := hB.at2 hg3
  go_wp2_with fail
  clear a0 a1 a2 a3 a4 a5 a6 k0 k1
  refine (HSr w3).mono ?_
  rintro e w4 ⟨rfl, hf4⟩
  have hg4 := hg3.trans hf4
  have hr4 := hR.kept hg4 (fun _ _ _ _ f => f)
  go_wp2_with fail
  refine (HG w4 _ hr4).mono ?_
  rintro e w5 ⟨rfl, hf5⟩
  have hg5 := (hg4.trans hf5).alloc (.cells #[.int .i64 g.kind, .int .i64 g.who, .int .i64 g.gen, .int .i64 g.seq, .int .i64 g.epoch, .int .i64 g.value, .int .i64 g.metric] 68)
  have hx5 := Blk.new w5 #[.int .i64 g.kind, .int .i64 g.who, .int .i64 g.gen, .int .i64 g.seq, .int .i64 g.epoch, .int .i64 g.value, .int .i64 g.metric] 68
  have hr5 := (hr4.kept hf5 (fun _ _ _ _ f => f)).alloc (.cells #[.int .i64 g.kind, .int .i64 g.who, .int .i64 g.gen, .int .i64 g.seq, .int .i64 g.epoch, .int .i64 g.value, .int .i64 g.metric] 68)
  have hrp5 := (hrp.kept ((hf2.trans hf3).trans (hf4.trans hf5)) (fun _ _ _ _ f => f)).alloc (.cells #[.int .i64 g.kind, .int .i64 g.who, .int .i64 g.gen, .int .i64 g.seq, .int .i64 g.epoch, .int .i64 g.value, .int .i64 g.metric] 68)
  have hrs5 := (hrs.kept (hf4.trans hf5) (fun _ _ _ _ f => f)).alloc (.cells #[.int .i64 g.kind, .int .i64 g.who, .int .i64 g.gen, .int .i64 g.seq, .int .i64 g.epoch, .int .i64 g.value, .int .i64 g.metric] 68)
  have hcv := run_str_of_rd (P := Try.prog) Try.underlying25 Try.underlying5 Try.underlying9 hr5
  clear hf1 hf2 hf3 hf4 hf5 hg2 hg3 hg4 hr4 hrp hrs
  go_wp2_with fail
  clear hcv
  generalize w5.alloc (.cells #[.int .i64 g.kind, .int .i64 g.who, .int .i64 g.gen, .int .i64 g.seq, .int .i64 g.epoch, .int .i64 g.value, .int .i64 g.metric] 68) = w5' at *
  generalize w5.heap.size = b5 at *
  refine (HGr w5').mono ?_
  rintro e w6 ⟨rfl, hf6⟩
  have hh6 := hf6.alloc (.cells #[.int .i64 g.kind, .int .i64 g.who, .int .i64 g.gen, .int .i64 g.seq, .int .i64 g.epoch, .int .i64 g.value, .int .i64 g.metric] 68)
  have hx6 := Blk.new w6 #[.int .i64 g.kind, .int .i64 g.who, .int .i64 g.gen, .int .i64 g.seq, .int .i64 g.epoch, .int .i64 g.value, .int .i64 g.metric] 68
  have hr6 := hr5.kept hh6 (fun _ _ _ _ f => f)
  go_wp2_with fail
  generalize w6.alloc (.cells #[.int .i64 g.kind, .int .i64 g.who, .int .i64 g.gen, .int .i64 g.seq, .int .i64 g.epoch, .int .i64 g.value, .int .i64 g.metric] 68) = w6' at *
  generalize w6.heap.size = b6 at *
  refine (HX w6' _ hr6).mono ?_
  rintro e w7 ⟨vy, rfl, hry, hf7⟩
  have hh7 := (hf7.alloc (.cells #[.int .i64 x.kind, .int .i64 x.who, .int .i64 x.gen, .int .i64 x.seq, .int .i64 x.epoch, .int .i64 x.value, .int .i64 x.metric] 68)).alloc (.cells #[.int .u64 (u t.1), .int .u64 (u t.2)] 52)
  have hx7 := (Blk.new w7 #[.int .i64 x.kind, .int .i64 x.who, .int .i64 x.gen, .int .i64 x.seq, .int .i64 x.epoch, .int .i64 x.value, .int .i64 x.metric] 68).alloc (.cells #[.int .u64 (u t.1), .int .u64 (u t.2)] 52)
  have ht7 := Blk.new (w7.alloc (.cells #[.int .i64 x.kind, .int .i64 x.who, .int .i64 x.gen, .int .i64 x.seq, .int .i64 x.epoch, .int .i64 x.value, .int .i64 x.metric] 68)) #[.int .u64 (u t.1), .int .u64 (u t.2)] 52
  rw [World.size_alloc] at ht7
  have hr7 := hr6.kept hh7 (fun _ _ _ _ f => f)
  have hry7 := (hry.alloc (.cells #[.int .i64 x.kind, .int .i64 x.who, .int .i64 x.gen, .int .i64 x.seq, .int .i64 x.epoch, .int .i64 x.value, .int .i64 x.metric] 68)).alloc (.cells #[.int .u64 (u t.1), .int .u64 (u t.2)] 52)
  have hcv := run_str_of_rd (P := Try.prog) Try.underlying25 Try.underlying5 Try.underlying9 hr7
  go_wp2_with fail
  clear hcv hf6 hf7 hry
  generalize (w7.alloc (.cells #[.int .i64 x.kind, .int .i64 x.who, .int .i64 x.gen, .int .i64 x.seq, .int .i64 x.epoch, .int .i64 x.value, .int .i64 x.metric] 68)).alloc (.cells #[.int .u64 (u t.1), .int .u64 (u t.2)] 52) = w7' at *
  generalize w7.heap.size = b7 at *
  refine (HXr w7').mono ?_
  rintro e w8 ⟨rfl, hf8⟩
  have hh8 := (hf8.alloc (.cells #[.int .i64 x.kind, .int .i64 x.who, .int .i64 x.gen, .int .i64 x.seq, .int .i64 x.epoch, .int .i64 x.value, .int .i64 x.metric] 68)).alloc (.cells #[.int .u64 (u t.1), .int .u64 (u t.2)] 52)
  have hx8 := (Blk.new w8 #[.int .i64 x.kind, .int .i64 x.who, .int .i64 x.gen, .int .i64 x.seq, .int .i64 x.epoch, .int .i64 x.value, .int .i64 x.metric] 68).alloc (.cells #[.int .u64 (u t.1), .int .u64 (u t.2)] 52)
  have ht8 := Blk.new (w8.alloc (.cells #[.int .i64 x.kind, .int .i64 x.who, .int .i64 x.gen, .int .i64 x.seq, .int .i64 x.epoch, .int .i64 x.value, .int .i64 x.metric] 68)) #[.int .u64 (u t.1), .int .u64 (u t.2)] 52
  rw [World.size_alloc] at ht8
  go_wp2_with fail
  clear hf8
  generalize (w8.alloc (.cells #[.int .i64 x.kind, .int .i64 x.who, .int .i64 x.gen, .int .i64 x.seq, .int .i64 x.epoch, .int .i64 x.value, .int .i64 x.metric] 68)).alloc (.cells #[.int .u64 (u t.1), .int .u64 (u t.2)] 52) = w9 at *
  generalize w8.heap.size = b8 at *
  have hh78 := hh7.trans hh8
  have hh68 := hh6.trans hh78
  have HRp := Lib.hid (hrp5.kept hh68 (fun _ _ _ _ f => f))
  have HRs := Lib.hid (hrs5.kept hh68 (fun _ _ _ _ f => f))
  have HRy := Lib.hid (hry7.kept hh8 (fun _ _ _ _ f => f))
  have HF9 := Lib.hid (hF.trans (hg5.trans hh68))
  have HK : ∀ w' : World, Fr none_ w9 w' → (w'.cell? ⟨w.heap.size, 0, none⟩ = some (.int .i64 m.kind) ∧ w'.cell? ⟨w.heap.size, 1, none⟩ = some (.int .i64 m.who) ∧ w'.cell? ⟨w.heap.size, 2, none⟩ = some (.int .i64 m.gen) ∧ w'.cell? ⟨w.heap.size, 3, none⟩ = some (.int .i64 m.seq) ∧ w'.cell? ⟨w.heap.size, 4, none⟩ = some (.int .i64 m.epoch) ∧ w'.cell? ⟨w.heap.size, 5, none⟩ = some (.int .i64 m.value) ∧ w'.cell? ⟨w.heap.size, 6, none⟩ = some (.int .i64 m.metric)) ∧ (w'.cell? ⟨b5, 0, none⟩ = some (.int .i64 g.kind) ∧ w'.cell? ⟨b5, 1, none⟩ = some (.int .i64 g.who) ∧ w'.cell? ⟨b5, 2, none⟩ = some (.int .i64 g.gen) ∧ w'.cell? ⟨b5, 3, none⟩ = some (.int .i64 g.seq) ∧ w'.cell? ⟨b5, 4, none⟩ = some (.int .i64 g.epoch) ∧ w'.cell? ⟨b5, 5, none⟩ = some (.int .i64 g.value) ∧ w'.cell? ⟨b5, 6, none⟩ = some (.int .i64 g.metric)) ∧ (w'.cell? ⟨b6, 0, none⟩ = some (.int .i64 g.kind) ∧ w'.cell? ⟨b6, 1, none⟩ = some (.int .i64 g.who) ∧ w'.cell? ⟨b6, 2, none⟩ = some (.int .i64 g.gen) ∧ w'.cell? ⟨b6, 3, none⟩ = some (.int .i64 g.seq) ∧ w'.cell? ⟨b6, 4, none⟩ = some (.int .i64 g.epoch) ∧ w'.cell? ⟨b6, 5, none⟩ = some (.int .i64 g.value) ∧ w'.cell? ⟨b6, 6, none⟩ = some (.int .i64 g.metric)) ∧ (w'.cell? ⟨b7, 0, none⟩ = some (.int .i64 x.kind) ∧ w'.cell? ⟨b7, 1, none⟩ = some (.int .i64 x.who) ∧ w'.cell? ⟨b7, 2, none⟩ = some (.int .i64 x.gen) ∧ w'.cell? ⟨b7, 3, none⟩ = some (.int .i64 x.seq) ∧ w'.cell? ⟨b7, 4, none⟩ = some (.int .i64 x.epoch) ∧ w'.cell? ⟨b7, 5, none⟩ = some (.int .i64 x.value) ∧ w'.cell? ⟨b7, 6, none⟩ = some (.int .i64 x.metric)) ∧ (w'.cell? ⟨b7 + 1, 0, none⟩ = some (.int .u64 (u t.1)) ∧ w'.cell? ⟨b7 + 1, 1, none⟩ = some (.int .u64 (u t.2))) ∧ (w'.cell? ⟨b8, 0, none⟩ = some (.int .i64 x.kind) ∧ w'.cell? ⟨b8, 1, none⟩ = some (.int .i64 x.who) ∧ w'.cell? ⟨b8, 2, none⟩ = some (.int .i64 x.gen) ∧ w'.cell? ⟨b8, 3, none⟩ = some (.int .i64 x.seq) ∧ w'.cell? ⟨b8, 4, none⟩ = some (.int .i64 x.epoch) ∧ w'.cell? ⟨b8, 5, none⟩ = some (.int .i64 x.value) ∧ w'.cell? ⟨b8, 6, none⟩ = some (.int .i64 x.metric)) ∧ (w'.cell? ⟨b8 + 1, 0, none⟩ = some (.int .u64 (u t.1)) ∧ w'.cell? ⟨b8 + 1, 1, none⟩ = some (.int .u64 (u t.2))) := fun w' hf => ⟨hA.at7 ((hg5.trans hh68).trans hf), hx5.at7 (hh68.trans hf), hx6.at7 (hh78.trans hf), hx7.at7 (hh8.trans hf), ht7.at2 (hh8.trans hf), hx8.at7 hf, ht8.at2 hf⟩
  have hq1 : ∀ wa : World, (Op.equalIn 10000 68 (.agg #[.int .i64 g.kind, .int .i64 g.who, .int .i64 g.gen, .int .i64 g.seq, .int .i64 g.epoch, .int .i64 g.value, .int .i64 g.metric]) (.agg #[.int .i64 g.kind, .int .i64 g.who, .int .i64 g.gen, .int .i64 g.seq, .int .i64 g.epoch, .int .i64 g.value, .int .i64 g.metric])).run Try.prog wa = .ok true wa := fun wa => by have := eq_msgs g g wa; rw [decide_eq_true rfl] at this; exact this
  have hq2 : ∀ wa : World, (Op.equalIn 10000 68 (.agg #[.int .i64 x.kind, .int .i64 x.who, .int .i64 x.gen, .int .i64 x.seq, .int .i64 x.epoch, .int .i64 x.value, .int .i64 x.metric]) (.agg #[.int .i64 x.kind, .int .i64 x.who, .int .i64 x.gen, .int .i64 x.seq, .int .i64 x.epoch, .int .i64 x.value, .int .i64 x.metric])).run Try.prog wa = .ok true wa := fun wa => by have := eq_msgs x x wa; rw [decide_eq_true rfl] at this; exact this
  have hE1 : ((bs pm).toList == (bs pm).toList) = true := by simp
  have hE2 : ((bs sm).toList == (bs sm).toList) = true := by simp
  have hE3 : ((bs y).toList == (bs y).toList) = true := by simp
  have hg0 := (Fr.refl none_ w9).drew
  clear hA hB hF hR hg5 hh6 hh7 hh8 hh78 hh68 hx5 hx6 hx7 hx8 ht7 ht8 hr5 hr6 hr7 hrp5 hrs5 hry7 HP HPr HS HSr HG HGr HX HXr hd hbig
  try simp only [List.append_eq, List.cons_append, List.nil_append]
  refine region_tm [0, 3, 5, 15, 26, 47] [] [0, 1, 2, 6, 2, 26, 42, 66, 160, 256, 256, 1792, 2304, 4352, 8192, 24576, 8192, 106496, 139264, 270336, 524288, 524288, 3670016, 4718592, 8912896, 16777216, 50331648, 16777216, 218103808, 285212672, 553648128, 1073741824, 1073741824, 7516192768, 9663676416, 18253611008, 34359738368, 34359738368, 240518168576, 309237645312, 584115552256, 1099511627776, 1099511627776, 7696581394432, 9895604649984, 18691697672192, 35184372088832, 105553116266496, 35184372088832, 457396837154816, 598134325510144, 1161084278931456, 2251799813685248, 2251799813685248, 15762598695796736, 20266198323167232, 38280596832649216, 72057594037927936, 72057594037927936, 504403158265495552, 648518346341351424, 2305843009213693951] [0, 4611686018427387902, 4611686018427387901, 0, 4611686018427387901, 0, 4611686018427387861, 4611686018427387837, 4611686018427387775, 4611686018427387647, 4611686018427387647, 4611686018427386111, 4611686018427385599, 4611686018427383807, 4611686018427379711, 0, 4611686018427379711, 4611686018427281407, 4611686018427248639, 4611686018427125759, 4611686018426863615, 4611686018426863615, 4611686018423717887, 4611686018422669311, 4611686018418999295, 4611686018410610687, 0, 4611686018410610687, 4611686018209284095, 4611686018142175231, 4611686017890516991, 4611686017353646079, 4611686017353646079, 4611686010911195135, 4611686008763711487, 4611686001247518719, 4611685984067649535, 4611685984067649535, 4611685777909219327, 4611685709189742591, 4611685468671574015, 4611684918915760127, 4611684918915760127, 4611678321845993471, 4611676122822737919, 4611668426241343487, 4611650834055299071, 0, 4611650834055299071, 4611228621590233087, 4611087884101877759, 4610560118520545279, 4609434218613702655, 4609434218613702655, 4595923419731591167, 4591419820104220671, 4575657221408423935, 4539628424389459967, 4539628424389459967, 4107282860161892351, 3963167672086036479, 3458764513820540927] [0, 1, 3, 7, 3, 31, 63, 127, 255, 511, 511, 2047, 4095, 8191, 16383, 32767, 16383, 131071, 262143, 524287, 1048575, 1048575, 4194303, 8388607, 16777215, 33554431, 67108863, 33554431, 268435455, 536870911, 1073741823, 2147483647, 2147483647, 8589934591, 17179869183, 34359738367, 68719476735, 68719476735, 274877906943, 549755813887, 1099511627775, 2199023255551, 2199023255551, 8796093022207, 17592186044415, 35184372088831, 70368744177663, 140737488355327, 70368744177663, 562949953421311, 1125899906842623, 2251799813685247, 4503599627370495, 4503599627370495, 18014398509481983, 36028797018963967, 72057594037927935, 144115188075855871, 144115188075855871, 576460752303423487, 1152921504606846975, 2305843009213693951] 4611686018427387903 (.alt 0 (.quiet 1 (.quiet 2 (.quiet 4 (.alt 3 (.alt 5 (.quiet 6 (.quiet 7 (.quiet 8 (.quiet 9 (.quiet 10 (.quiet 11 (.quiet 12 (.quiet 13 (.quiet 14 (.quiet 16 (.alt 15 (.quiet 17 (.quiet 18 (.quiet 19 (.quiet 20 (.quiet 21 (.quiet 22 (.quiet 23 (.quiet 24 (.quiet 25 (.quiet 27 (.alt 26 (.quiet 28 (.quiet 29 (.quiet 30 (.quiet 31 (.quiet 32 (.quiet 33 (.quiet 34 (.quiet 35 (.quiet 36 (.quiet 37 (.quiet 38 (.quiet 39 (.quiet 40 (.quiet 41 (.quiet 42 (.quiet 43 (.quiet 44 (.quiet 45 (.quiet 46 (.quiet 48 (.alt 47 (.quiet 49 (.quiet 50 (.quiet 51 (.quiet 52 (.quiet 53 (.quiet 54 (.quiet 55 (.quiet 56 (.quiet 57 (.quiet 58 (.quiet 59 (.quiet 60 (.quiet 61 .done))))))))))))) (.fin)))))))))))))))))))))) (.fin)))))))))))) (.fin)))))))))))) (.fin)) (.fin))))) (.fin)) (fun w' => (w'.cell? ⟨w.heap.size, 0, none⟩ = some (.int .i64 m.kind) ∧ w'.cell? ⟨w.heap.size, 1, none⟩ = some (.int .i64 m.who) ∧ w'.cell? ⟨w.heap.size, 2, none⟩ = some (.int .i64 m.gen) ∧ w'.cell? ⟨w.heap.size, 3, none⟩ = some (.int .i64 m.seq) ∧ w'.cell? ⟨w.heap.size, 4, none⟩ = some (.int .i64 m.epoch) ∧ w'.cell? ⟨w.heap.size, 5, none⟩ = some (.int .i64 m.value) ∧ w'.cell? ⟨w.heap.size, 6, none⟩ = some (.int .i64 m.metric)) ∧ (w'.cell? ⟨b5, 0, none⟩ = some (.int .i64 g.kind) ∧ w'.cell? ⟨b5, 1, none⟩ = some (.int .i64 g.who) ∧ w'.cell? ⟨b5, 2, none⟩ = some (.int .i64 g.gen) ∧ w'.cell? ⟨b5, 3, none⟩ = some (.int .i64 g.seq) ∧ w'.cell? ⟨b5, 4, none⟩ = some (.int .i64 g.epoch) ∧ w'.cell? ⟨b5, 5, none⟩ = some (.int .i64 g.value) ∧ w'.cell? ⟨b5, 6, none⟩ = some (.int .i64 g.metric)) ∧ (w'.cell? ⟨b6, 0, none⟩ = some (.int .i64 g.kind) ∧ w'.cell? ⟨b6, 1, none⟩ = some (.int .i64 g.who) ∧ w'.cell? ⟨b6, 2, none⟩ = some (.int .i64 g.gen) ∧ w'.cell? ⟨b6, 3, none⟩ = some (.int .i64 g.seq) ∧ w'.cell? ⟨b6, 4, none⟩ = some (.int .i64 g.epoch) ∧ w'.cell? ⟨b6, 5, none⟩ = some (.int .i64 g.value) ∧ w'.cell? ⟨b6, 6, none⟩ = some (.int .i64 g.metric)) ∧ (w'.cell? ⟨b7, 0, none⟩ = some (.int .i64 x.kind) ∧ w'.cell? ⟨b7, 1, none⟩ = some (.int .i64 x.who) ∧ w'.cell? ⟨b7, 2, none⟩ = some (.int .i64 x.gen) ∧ w'.cell? ⟨b7, 3, none⟩ = some (.int .i64 x.seq) ∧ w'.cell? ⟨b7, 4, none⟩ = some (.int .i64 x.epoch) ∧ w'.cell? ⟨b7, 5, none⟩ = some (.int .i64 x.value) ∧ w'.cell? ⟨b7, 6, none⟩ = some (.int .i64 x.metric)) ∧ (w'.cell? ⟨b7 + 1, 0, none⟩ = some (.int .u64 (u t.1)) ∧ w'.cell? ⟨b7 + 1, 1, none⟩ = some (.int .u64 (u t.2))) ∧ (w'.cell? ⟨b8, 0, none⟩ = some (.int .i64 x.kind) ∧ w'.cell? ⟨b8, 1, none⟩ = some (.int .i64 x.who) ∧ w'.cell? ⟨b8, 2, none⟩ = some (.int .i64 x.gen) ∧ w'.cell? ⟨b8, 3, none⟩ = some (.int .i64 x.seq) ∧ w'.cell? ⟨b8, 4, none⟩ = some (.int .i64 x.epoch) ∧ w'.cell? ⟨b8, 5, none⟩ = some (.int .i64 x.value) ∧ w'.cell? ⟨b8, 6, none⟩ = some (.int .i64 x.metric)) ∧ (w'.cell? ⟨b8 + 1, 0, none⟩ = some (.int .u64 (u t.1)) ∧ w'.cell? ⟨b8 + 1, 1, none⟩ = some (.int .u64 (u t.2)))) (by as_aux_lemma => kernel_rfl) (by as_aux_lemma => kernel_rfl) (by as_aux_lemma => kernel_rfl) (by as_aux_lemma => kernel_rfl) (by as_aux_lemma => kernel_rfl) (by as_aux_lemma => kernel_rfl) (by as_aux_lemma => kernel_rfl) (by as_aux_lemma => kernel_rfl) (by first | exact HK _ hg3 | exact HK _ hg2 | exact HK _ hg1 | exact HK _ hg0) ?_
  repeat' (first
    | (refine t_float (v := ?_) (a' := ?_) rfl rfl rfl ?_ ?_ ?_
       rotate_left 2
       · (intro w' hU; (try dsimp only at hU); go_simp; with_reducible rfl)
       · (simp only [Act.put, List.setIfInBounds_toArray, List.set_cons_zero, List.set_cons_succ]; rfl))
    | (refine t_bound (v := ?_) (a' := ?_) rfl rfl rfl ?_ ?_ ?_
       rotate_left 2
       · (go_simp; with_reducible rfl)
       · (simp only [Act.put, List.setIfInBounds_toArray, List.set_cons_zero, List.set_cons_succ]; rfl))
    | (refine t_skip (a' := ?_) rfl rfl ?_ ?_
       rotate_left 1
       · (simp only [Act.put, List.setIfInBounds_toArray, List.set_cons_zero, List.set_cons_succ]; rfl))
    | exact t_fin
    | (refine t_acts rfl rfl (fun K hK => ?_) ?_
       first | ((first | (refine wp_str _ _ 25 9 5 rfl Try.underlying25 Try.underlying5 Try.underlying9 vp pm rfl (HRp.out.kept hg3 (fun _ _ _ _ f => f)) ?_) | (refine wp_str _ _ 25 9 5 rfl Try.underlying25 Try.underlying5 Try.underlying9 vs sm rfl (HRs.out.kept hg3 (fun _ _ _ _ f => f)) ?_) | (refine wp_str _ _ 25 9 5 rfl Try.underlying25 Try.underlying5 Try.underlying9 vy y rfl (HRy.out.kept hg3 (fun _ _ _ _ f => f)) ?_)); simp only [Act.put, List.setIfInBounds_toArray, List.set_cons_zero, List.set_cons_succ]) | (go_simp; try (go_wp2_with (first | (go_at_call 62; refine (HMr _).mono ?_; rintro e w12 ⟨rfl, hf3⟩; have hg3 := hg2.trans hf3) | (go_at_call 61; refine (HM _).mono ?_; rintro e w11 ⟨rfl, hf2⟩; have hg2 := hg1.trans hf2) | (go_at_call 52; refine (told4_any _).mono ?_; rintro e w10 ⟨rfl, hf1⟩; have hg1 := hg0.trans hf1))))
       refine hK.out _ _ (by first | exact HK _ hg3 | exact HK _ hg2 | exact HK _ hg1 | exact HK _ hg0) ?_
       clear hK K))
  all_goals (refine t_done ?_)
  all_goals
    go_wp2
    go_ret
    exact ⟨rfl, HF9.out.trans hg3⟩

namespace wireAsks
open Go Go.ChangeShapes Go.WideShapes Go.ChangeAt Go.RowKit
set_option linter.unusedVariables false
set_option maxRecDepth 100000 in
theorem lifted (os : Os) (started : os.Started) (H : Type) (enc : TypeId × Value → H) :
    ReturnsInHanded {} Try.checked os 15 .any (Rows.wireAsksSpec.pre6 enc Try.prog Try.f15 Rows.wireAsksRow.domain false) (Rows.wireAsksSpec.post enc Try.prog Try.f15 false true false false) := by
  refine returnsInHanded_of_change (C := Try.checked) owned started (by kernel_rfl) Try.func15
    (ChangeSpec.witness6 (enc := enc) (C := Try.checked) false ⟨#[], #[.agg #[.int .i64 0, .int .i64 0, .int .i64 0, .int .i64 0, .int .i64 0, .int .i64 0, .int .i64 0], .agg #[.int .u64 0, .int .u64 0], .slice none 0 0], []⟩ 8 (by kernel_rfl) (by kernel_rfl) (by kernel_rfl) (by kernel_rfl)) ?_
  intro W base args ds gs before hval0 hW hcnd _
  have hval : ∀ (j : Nat) t v, Try.f15.params[j]? = some t → args[j]? = some v → Value.okWide Try.prog W .any base t v := hval0
  have hW' := hW
  obtain ⟨p, q, hA0, hV, rfl, hfz, hnd⟩ := hW
  have hA : DataW.TrodAll enc Try.prog W 0 (fun _ => true) true Try.f15.params.toList args.toList ds p := hA0
  rw [Try.params15] at hA hval
  obtain ⟨v0, vs0, d0, ds0, p0, q0, hargs, rfl, rfl, h0, r0⟩ := trodAll_cons hA
  obtain ⟨v1, vs1, d1, ds1, p1, q1, rfl, rfl, rfl, h1, r1⟩ := trodAll_cons r0
  obtain ⟨v2, vs2, d2, ds2, p2, q2, rfl, rfl, rfl, h2, r2⟩ := trodAll_cons r1
  obtain ⟨rfl, rfl, rfl⟩ := trodAll_nil r2
  obtain rfl : args = #[v0, v1, v2] := by cases args; simp_all
  obtain ⟨rfl, rfl⟩ := trodVars_none hV
  have k0 := h0
  have lt0 : ∀ x ∈ p0, x.block < W.heap.size := by obtain ⟨m, hm⟩ := k0; exact DataW.trod_lt m _ _ _ hm
  have k1 := h1
  have lt1 : ∀ x ∈ p1, x.block < W.heap.size := by obtain ⟨m, hm⟩ := k1; exact DataW.trod_lt m _ _ _ hm
  have k2 := h2
  have lt2 : ∀ x ∈ p2, x.block < W.heap.size := by obtain ⟨m, hm⟩ := k2; exact DataW.trod_lt m _ _ _ hm
  obtain ⟨x0, hx0, rfl⟩ := open_msg Try.underlying68 (by kernel_rfl) (by kernel_rfl) (by kernel_rfl) (hval 0 68 v0 rfl rfl) h0
  obtain ⟨x1, rfl⟩ := open_arr2 Try.underlying23 Try.underlying22 (by kernel_rfl) (by kernel_rfl) (hval 1 23 v1 rfl rfl) h1
  obtain ⟨x2, hr2⟩ := open_bytes Try.underlying25 Try.underlying5 (by kernel_rfl) (hval 2 25 v2 rfl rfl) h2
  clear hA0 hval0
  refine (walk_WireAsks W x0 hx0 x1 v2 x2 hr2).mono fun e W' ⟨he, fr⟩ => ?_
  subst he
  have bel := fr.below
  exact ⟨_, rfl, _, _, _, [], _, [], hW', trodAll_mk1 (shut_bool Try.underlying4 _), (trodAll_cons_mk (Below.trod laid (by kernel_rfl) (of_decide_eq_true (by kernel_rfl)) k0 bel lt0) (trodAll_cons_mk (Below.trod laid (by kernel_rfl) (of_decide_eq_true (by kernel_rfl)) k1 bel lt1) (trodAll_cons_mk (Below.trod laid (by kernel_rfl) (of_decide_eq_true (by kernel_rfl)) k2 bel lt2) trodAll_mk0))), rfl, bel.frame _, fun h => by cases h⟩

theorem inPlace : Try.prog.inPlace 15 = [] := inPlace_none _ _ (by kernel_rfl)
theorem closed : joinedFacts Try.prog 15 Try.f15 Rows.wireAsksSpec Rows.wireAsksRow = true := by
  unfold joinedFacts
  repeat' (with_reducible refine and_mk ?_ ?_)
  all_goals first
    | with_reducible exact enters
    | with_reducible exact laid
    | with_reducible exact rowed
    | with_reducible exact noStops
    | with_reducible exact noKnobs
    | with_reducible exact heard
    | (rw [lifts]; as_aux_lemma => kernel_rfl)
    | (rw [makes]; as_aux_lemma => kernel_rfl)
    | (rw [plains]; as_aux_lemma => kernel_rfl)
    | (rw [inPlace]; as_aux_lemma => kernel_rfl)
    | as_aux_lemma => kernel_rfl
theorem named : Try.prog.funcNamed Rows.wireAsksRow.func = some 15 := by kernel_rfl
theorem isOne : (Try.f15).isInstance Try.prog Rows.wireAsksRow.origin Rows.wireAsksRow.targs := of_decide_eq_true (by kernel_rfl)
theorem wraps : (Try.f15).isWrapper Try.prog Rows.wireAsksRow.wrapper Rows.wireAsksRow.mainSum := by unfold Func.isWrapper; first | (rw [if_pos (by decide +kernel)]; kernel_rfl) | (rw [if_neg (by decide +kernel)]; exact ⟨rfl, rfl⟩)
theorem over : Rows.wireAsksRow.holds Try.pinned (OpenSpec.ofChange Rows.wireAsksSpec) :=
  OpenClaim.holds_of_wide 15 Try.f15 rfl rfl rfl rfl rfl rfl rfl ⟨rfl, rfl, rfl, rfl, rfl⟩ rfl rfl rfl rfl rfl named Try.func15 closed
    isOne wraps
    (fun os started H enc _ => lifted os started H enc)

/-- THE STATEMENT. -/
theorem proved : Rows.WireAsksSaid := over
#print axioms proved
end wireAsks
end Go.Proofs.Ytandenkoejbloaa
