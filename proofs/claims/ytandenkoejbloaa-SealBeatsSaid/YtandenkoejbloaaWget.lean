/- Walk of wire.Get. -/
import Derived.Test.YtandenkoejbloaaWseal
import Derived.Test.YtandenkoejbloaaGet
namespace Go.Proofs.Ytandenkoejbloaa
open Go Go.RowKit

theorem i64_u (x : W) : IntKind.i64.wrap (u x) = x.toInt := by
  unfold u
  rw [IntKind.wrap_i64, BitVec.toInt_eq_toNat_bmod, Int.bmod_def]
  have := x.isLt
  omega

set_option maxRecDepth 100000 in
set_option maxHeartbeats 1600000 in
theorem at1_any (b : Nat) (v : Value) (l : List UInt8) (k : Int) (w : World) (hb : w.cell? ⟨b, 0, none⟩ = some v) (hv : Rd w v (l.map bv)) (h0 : 0 ≤ k) (h1 : k + 8 ≤ l.length) :
    Calls Try.prog 92 #[.int .i64 k, .pointer (some ⟨b, 0, none⟩)] w fun e w' => e = .returned (.int .i64 (wordAt l k.toNat).toInt) ∧ w = w' := by
  have hG := get_ok v l k w hv h0 h1
  have hi := i64_u (wordAt l k.toNat)
  generalize wordAt l k.toNat = x at *
  obtain ⟨ao, cap, rfl, _⟩ := hv
  simp only [List.length_map] at *
  go_enter Try.func92, Try.ntmps92
  go_wp2_with fail
  refine hG.mono ?_
  rintro e w' ⟨rfl, rfl⟩
  go_wp2
  go_ret
  exact ⟨rfl, rfl⟩

def zeroM : Ms := ⟨0, 0, 0, 0, 0, 0, 0⟩
def gv (l : List UInt8) : Ms := (getM l).getD zeroM
def gc (l : List UInt8) : Int := if (getM l).isSome then 0 else 2
theorem blk7 {w : World} {b : Nat} {e : TypeId} {a0 a1 a2 a3 a4 a5 a6 : Value} (h : Blk w b e [a0, a1, a2, a3, a4, a5, a6]) (x0 x1 x2 x3 x4 x5 x6 : Value) :
    Blk (((((((w.setCell ⟨b, 0, none⟩ x0).setCell ⟨b, 1, none⟩ x1).setCell ⟨b, 2, none⟩ x2).setCell ⟨b, 3, none⟩ x3).setCell ⟨b, 4, none⟩ x4).setCell ⟨b, 5, none⟩ x5).setCell ⟨b, 6, none⟩ x6) b e [x0, x1, x2, x3, x4, x5, x6] :=
  ((((((h.setCell 0 x0).setCell 1 x1).setCell 2 x2).setCell 3 x3).setCell 4 x4).setCell 5 x5).setCell 6 x6
theorem fr7 {S : Nat → Prop} {a w : World} (h : Fr S a w) {b : Nat} (hb : b < a.heap.size → S b) (x0 x1 x2 x3 x4 x5 x6 : Value) :
    Fr S a (((((((w.setCell ⟨b, 0, none⟩ x0).setCell ⟨b, 1, none⟩ x1).setCell ⟨b, 2, none⟩ x2).setCell ⟨b, 3, none⟩ x3).setCell ⟨b, 4, none⟩ x4).setCell ⟨b, 5, none⟩ x5).setCell ⟨b, 6, none⟩ x6) :=
  ((((((h.setCell hb x0).setCell hb x1).setCell hb x2).setCell hb x3).setCell hb x4).setCell hb x5).setCell hb x6
theorem rd_byte {w : World} {ao : Option Addr} {n cap : Nat} {l : List UInt8} (h : Rd w (.slice ao n cap) (l.map bv)) {j : Nat} (hj : j < l.length) : ∃ b o, ao = some ⟨b, o, none⟩ ∧ b < w.heap.size ∧ w.cell? ⟨b, o + j, none⟩ = some (.int .u8 (v8 (l.getD j 0))) :=
  h.at_ (j := j) (by rw [List.getElem?_map, List.getElem?_eq_getElem hj, List.getD_eq_getElem?_getD, List.getElem?_eq_getElem hj]; rfl)
theorem u32_gen (x : W) : IntKind.u32.wrap x.toInt = ((x.toNat % 4294967296 : Nat) : Int) := by
  rw [IntKind.wrap_u32, BitVec.toInt_eq_toNat_bmod, Int.bmod_def]
  have := x.isLt
  omega
theorem getU_kept {w w' : World} {b c : Nat} {x x1 x2 x3 : Value} {o : Nat} (hf : Fr none_ w w') (hb : b < w.heap.size) (hc : c < w.heap.size) (h : w.cell? ⟨b, 0, none⟩ = some x ∧ w.cell? ⟨c, o + 1, none⟩ = some x1 ∧ w.cell? ⟨c, o + 2, none⟩ = some x2 ∧ w.cell? ⟨c, o + 3, none⟩ = some x3) :
    w'.cell? ⟨b, 0, none⟩ = some x ∧ w'.cell? ⟨c, o + 1, none⟩ = some x1 ∧ w'.cell? ⟨c, o + 2, none⟩ = some x2 ∧ w'.cell? ⟨c, o + 3, none⟩ = some x3 :=
  ⟨(hf.cell hb (fun f => f)).trans h.1, (hf.cell hc (fun f => f)).trans h.2.1, (hf.cell hc (fun f => f)).trans h.2.2.1, (hf.cell hc (fun f => f)).trans h.2.2.2⟩

set_option maxRecDepth 100000 in
set_option maxHeartbeats 12800000 in
theorem wget_short (v : Value) (l : List UInt8) (w : World) (h : Rd w v (l.map bv)) (hl : l.length ≠ 32) :
    Calls Try.prog 57 #[v] w fun e w' => e = .returned (.tuple #[msgv (gv l), .int .i64 (gc l)]) ∧ Fr none_ w w' := by
  have hg : getM l = none := by unfold getM; rw [if_neg (fun hc => hl hc.1)]
  have e1 : gv l = zeroM := by unfold gv; rw [hg]; rfl
  have e2 : gc l = 2 := by unfold gc; rw [hg]; rfl
  rw [e1, e2]
  obtain ⟨ao, cap, rfl, hc1, hm1, _⟩ := h
  simp only [List.length_map] at *
  have hF := ((Fr.refl none_ w).alloc (.cells #[.slice ao l.length cap] 25)).alloc (.cells #[.int .i64 0, .int .i64 0, .int .i64 0, .int .i64 0, .int .i64 0, .int .i64 0, .int .i64 0] 68)
  have hne : decide ((l.length : Int) = 32) = false := by simp; omega
  go_enter Try.func57, Try.ntmps57
  go_wp2_with fail
  exact bodyPost_ret (v := .tuple #[.agg #[.int .i64 0, .int .i64 0, .int .i64 0, .int .i64 0, .int .i64 0, .int .i64 0, .int .i64 0], .int .i64 2]) (by simp [results, Try.results57, go_sem]) rfl ⟨rfl, hF⟩

set_option maxRecDepth 100000 in
set_option maxHeartbeats 12800000 in
theorem wget_32 (v : Value) (l : List UInt8) (w : World) (h : Rd w v (l.map bv)) (hl : l.length = 32) :
    Calls Try.prog 57 #[v] w fun e w' => e = .returned (.tuple #[msgv (gv l), .int .i64 (gc l)]) ∧ Fr none_ w w' := by
  have HL := Lib.hid hl
  have HR := Lib.hid h
  obtain ⟨ao, cap, rfl, hc1, hm1, _⟩ := h
  rw [List.length_map, hl] at HR hc1
  rw [List.length_map, hl]
  unfold maxLen at hm1
  obtain ⟨sb, so, hao, hsb, hx1⟩ := rd_byte HR.out (j := 1) (by omega)
  obtain ⟨_, _, hao2, _, hx2⟩ := rd_byte HR.out (j := 2) (by omega)
  obtain ⟨_, _, hao3, _, hx3⟩ := rd_byte HR.out (j := 3) (by omega)
  subst hao
  cases hao2
  cases hao3
  have hB := (Blk.new w #[.slice (some ⟨sb, so, none⟩) 32 cap] 25).alloc (.cells #[.int .i64 0, .int .i64 0, .int .i64 0, .int .i64 0, .int .i64 0, .int .i64 0, .int .i64 0] 68)
  have hT := Blk.new (w.alloc (.cells #[.slice (some ⟨sb, so, none⟩) 32 cap] 25)) #[.int .i64 0, .int .i64 0, .int .i64 0, .int .i64 0, .int .i64 0, .int .i64 0, .int .i64 0] 68
  rw [World.size_alloc] at hT
  have hF := ((Fr.refl none_ w).alloc (.cells #[.slice (some ⟨sb, so, none⟩) 32 cap] 25)).alloc (.cells #[.int .i64 0, .int .i64 0, .int .i64 0, .int .i64 0, .int .i64 0, .int .i64 0, .int .i64 0] 68)
  clear hl
  go_enter Try.func57, Try.ntmps57
  go_wp2_with fail
  generalize (w.alloc (.cells #[.slice (some ⟨sb, so, none⟩) 32 cap] 25)).alloc (.cells #[.int .i64 0, .int .i64 0, .int .i64 0, .int .i64 0, .int .i64 0, .int .i64 0, .int .i64 0] 68) = w0 at *
  have hbl := hB.lt
  have hsl : sb < w0.heap.size := Nat.lt_of_lt_of_le hsb hF.size
  have HR0 := Lib.hid (HR.out.kept hF (fun _ _ _ _ f => f))
  have HU := Lib.hid (show w0.cell? ⟨w.heap.size, 0, none⟩ = some (.slice (some ⟨sb, so, none⟩) 32 cap) ∧ w0.cell? ⟨sb, so + 1, none⟩ = some (.int .u8 (v8 (l.getD 1 0))) ∧ w0.cell? ⟨sb, so + 2, none⟩ = some (.int .u8 (v8 (l.getD 2 0))) ∧ w0.cell? ⟨sb, so + 3, none⟩ = some (.int .u8 (v8 (l.getD 3 0))) from ⟨hB.cell_of rfl, (hF.cell hsb (fun f => f)).trans hx1, (hF.cell hsb (fun f => f)).trans hx2, (hF.cell hsb (fun f => f)).trans hx3⟩)
  have HA : ∀ (k : Nat) (wa : World), k + 8 ≤ 32 → Fr none_ w0 wa → Calls Try.prog 92 #[.int .i64 k, .pointer (some ⟨w.heap.size, 0, none⟩)] wa fun e w' => e = .returned (.int .i64 (wordAt l k).toInt) ∧ wa = w' := fun k wa hk hf => at1_any w.heap.size _ l k wa ((hf.cell hbl (fun f => f)).trans HU.out.1) (HR0.out.kept hf (fun _ _ _ _ f => f)) (by omega) (by rw [HL.out]; omega)
  have hgn := u32_gen (wordAt l 4)
  have hg0 := (Fr.refl none_ w0).drew
  have HB := Lib.hid hB
  have HT := Lib.hid hT
  have HF := Lib.hid hF
  clear hB hT hF hx1 hx2 hx3 HR
  have hgen2 : IntKind.i64.wrap (((wordAt l 4).toNat % 4294967296 : Nat) : Int) = (((wordAt l 4).toNat % 4294967296 : Nat) : Int) := IntWalk.i64_in _ (by omega)
  have hk1 : IntKind.i64.wrap (v8 (l.getD 1 0)) = v8 (l.getD 1 0) := IntWalk.i64_in _ (by have := v8_nonneg (l.getD 1 0); have := v8_lt (l.getD 1 0); omega)
  have hk2 : IntKind.i64.wrap (v8 (l.getD 2 0)) = v8 (l.getD 2 0) := IntWalk.i64_in _ (by have := v8_nonneg (l.getD 2 0); have := v8_lt (l.getD 2 0); omega)
  have hk3 : IntKind.i64.wrap (v8 (l.getD 3 0)) = v8 (l.getD 3 0) := IntWalk.i64_in _ (by have := v8_nonneg (l.getD 3 0); have := v8_lt (l.getD 3 0); omega)
  have H4 : ∀ wa : World, Fr none_ w0 wa → Calls Try.prog 92 #[.int .i64 4, .pointer (some ⟨w.heap.size, 0, none⟩)] wa fun e w' => e = .returned (.int .i64 (wordAt l 4).toInt) ∧ wa = w' := fun wa hf => HA 4 wa (by omega) hf
  have H8 : ∀ wa : World, Fr none_ w0 wa → Calls Try.prog 92 #[.int .i64 8, .pointer (some ⟨w.heap.size, 0, none⟩)] wa fun e w' => e = .returned (.int .i64 (rawM l).seq) ∧ wa = w' := fun wa hf => HA 8 wa (by omega) hf
  have H16 : ∀ wa : World, Fr none_ w0 wa → Calls Try.prog 92 #[.int .i64 16, .pointer (some ⟨w.heap.size, 0, none⟩)] wa fun e w' => e = .returned (.int .i64 (rawM l).epoch) ∧ wa = w' := fun wa hf => HA 16 wa (by omega) hf
  have H24 : ∀ wa : World, Fr none_ w0 wa → Calls Try.prog 92 #[.int .i64 24, .pointer (some ⟨w.heap.size, 0, none⟩)] wa fun e w' => e = .returned (.int .i64 (rawM l).value) ∧ wa = w' := fun wa hf => HA 24 wa (by omega) hf
  have hrg : (((wordAt l 4).toNat % 4294967296 : Nat) : Int) = (rawM l).gen := rfl
  have hrk : v8 (l.getD 1 0) = (rawM l).kind := rfl
  have hrw : v8 (l.getD 2 0) = (rawM l).who := rfl
  have hrm : v8 (l.getD 3 0) = (rawM l).metric := rfl
  have hbad : mayM (rawM l) = false → gv l = zeroM ∧ gc l = 2 := fun hx => by
    have hg : getM l = none := by unfold getM; rw [if_neg (fun hc => by rw [hx] at hc; exact absurd hc.2.1 (by decide))]
    exact ⟨by unfold gv; rw [hg]; rfl, by unfold gc; rw [hg]; rfl⟩
  have hdiff : (msgB (rawM l) == l) = false → gv l = zeroM ∧ gc l = 2 := fun hx => by
    have hx' : msgB (rawM l) ≠ l := fun e => by rw [e] at hx; simp at hx
    have hg : getM l = none := by unfold getM; rw [if_neg (fun hc => hx' hc.2.2)]
    exact ⟨by unfold gv; rw [hg]; rfl, by unfold gc; rw [hg]; rfl⟩
  have hgood : mayM (rawM l) = true → (msgB (rawM l) == l) = true → gv l = rawM l ∧ gc l = 0 := fun hx hy => by
    have hy' : msgB (rawM l) = l := by simpa using hy
    have hg : getM l = some (rawM l) := by unfold getM; rw [if_pos ⟨HL.out, hx, hy'⟩]
    exact ⟨by unfold gv; rw [hg]; rfl, by unfold gc; rw [hg]; rfl⟩
  generalize hr : rawM l = r at *
  generalize (wordAt l 4).toInt = q4 at *
  generalize (((wordAt l 4).toNat % 4294967296 : Nat) : Int) = n4 at *
  generalize v8 (l.getD 1 0) = n1 at *
  generalize v8 (l.getD 2 0) = n2 at *
  generalize v8 (l.getD 3 0) = n3 at *
  subst hrg hrk hrw hrm
  clear HA
  refine region_tm [13, 17, 19, 21, 23, 24] [] [0, 1, 2, 4, 0, 16, 32, 64, 0, 256, 512, 1024, 0, 4096, 8192, 16384, 0, 73728, 0, 393216, 0, 1572864, 2787464, 0, 16777215] [33554431, 33554430, 33554429, 33554427, 33554431, 33554415, 33554399, 33554367, 33554431, 33554175, 33553919, 33553407, 33554431, 0, 33546239, 33538047, 33554431, 0, 33554431, 0, 33554431, 0, 30766967, 0, 0] [0, 1, 3, 7, 0, 16, 48, 112, 0, 256, 768, 1792, 0, 4096, 12288, 28672, 0, 77824, 0, 471040, 0, 2043904, 4194303, 0, 16777215] 33554431 (.quiet 0 (.quiet 1 (.quiet 2 (.quiet 3 (.quiet 4 (.quiet 5 (.quiet 6 (.quiet 7 (.quiet 8 (.quiet 9 (.quiet 10 (.quiet 11 (.quiet 12 (.quiet 16 (.quiet 18 (.quiet 20 (.alt 13 (.quiet 14 (.quiet 15 (.alt 17 (.alt 19 (.alt 21 (.quiet 22 (.alt 23 (.alt 24 (.done) (.fin)) (.fin))) (.alt 23 (.alt 21 (.quiet 22 (.alt 24 (.done) (.fin))) (.fin)) (.fin))) (.alt 23 (.alt 19 (.alt 21 (.quiet 22 (.alt 24 (.done) (.fin))) (.fin)) (.fin)) (.fin))) (.alt 23 (.alt 17 (.alt 19 (.alt 21 (.quiet 22 (.alt 24 (.done) (.fin))) (.fin)) (.fin)) (.fin)) (.fin))))) (.alt 23 (.alt 13 (.quiet 14 (.quiet 15 (.alt 17 (.alt 19 (.alt 21 (.quiet 22 (.alt 24 (.done) (.fin))) (.fin)) (.fin)) (.fin)))) (.fin)) (.fin))))))))))))))))))) (fun w' => w'.cell? ⟨w.heap.size, 0, none⟩ = some (.slice (some ⟨sb, so, none⟩) 32 cap) ∧ w'.cell? ⟨sb, so + 1, none⟩ = some (.int .u8 r.kind) ∧ w'.cell? ⟨sb, so + 2, none⟩ = some (.int .u8 r.who) ∧ w'.cell? ⟨sb, so + 3, none⟩ = some (.int .u8 r.metric)) (by as_aux_lemma => kernel_rfl) (by as_aux_lemma => kernel_rfl) (by as_aux_lemma => kernel_rfl) (by as_aux_lemma => kernel_rfl) (by as_aux_lemma => kernel_rfl) (by as_aux_lemma => kernel_rfl) (by as_aux_lemma => kernel_rfl) (by as_aux_lemma => kernel_rfl) (by first | with_reducible exact getU_kept (hg0.alloc _) hbl hsl HU.out | exact HU.out) ?_
  repeat' (first
    | (refine t_float (v := ?_) (a' := ?_) rfl rfl rfl ?_ ?_ ?_
       rotate_left 2
       · (intro w' hU; (try dsimp only at hU); go_simp; with_reducible rfl)
       · (simp only [Act.put, List.setIfInBounds_toArray, List.set_cons_zero, List.set_cons_succ]; rfl))
    | (refine t_bound (v := ?_) (a' := ?_) rfl rfl rfl ?_ ?_ ?_
       rotate_left 2
       · (go_simp; with_reducible rfl)
       · (simp only [Act.put, List.setIfInBounds_toArray, List.set_cons_zero, List.set_cons_succ]; rfl))
    | exact t_fin
    | (refine t_acts rfl rfl (fun K hK => ?_) ?_
       go_simp; try (go_wp2_with (first | (go_at_call 92; have hq := mk3; refine (H24 _ (by first | exact hg0 | exact hg0.alloc _)).mono ?_; clear hq; rintro e w4 ⟨rfl, rfl⟩; have mk4 := True.intro) | (go_at_call 92; have hq := mk2; refine (H16 _ (by first | exact hg0 | exact hg0.alloc _)).mono ?_; clear hq; rintro e w4 ⟨rfl, rfl⟩; have mk3 := True.intro) | (go_at_call 92; have hq := mk1; refine (H8 _ (by first | exact hg0 | exact hg0.alloc _)).mono ?_; clear hq; rintro e w4 ⟨rfl, rfl⟩; have mk2 := True.intro) | (go_at_call 92; refine (H4 _ (by first | exact hg0 | exact hg0.alloc _)).mono ?_; rintro e w4 ⟨rfl, rfl⟩; have mk1 := True.intro)))
       refine hK.out _ _ (by first | with_reducible exact getU_kept (hg0.alloc _) hbl hsl HU.out | exact HU.out) ?_
       clear hK K))
  all_goals (refine t_done ?_)
  all_goals
    have hM := (Blk.new w0 #[.int .i64 r.kind, .int .i64 r.who, .int .i64 r.gen, .int .i64 r.seq, .int .i64 r.epoch, .int .i64 r.value, .int .i64 r.metric] 68).drew
    have hB1 := (HB.out.alloc (.cells #[.int .i64 r.kind, .int .i64 r.who, .int .i64 r.gen, .int .i64 r.seq, .int .i64 r.epoch, .int .i64 r.value, .int .i64 r.metric] 68)).drew
    have hT1 := (HT.out.alloc (.cells #[.int .i64 r.kind, .int .i64 r.who, .int .i64 r.gen, .int .i64 r.seq, .int .i64 r.epoch, .int .i64 r.value, .int .i64 r.metric] 68)).drew
    have hF1 := (HF.out.alloc (.cells #[.int .i64 r.kind, .int .i64 r.who, .int .i64 r.gen, .int .i64 r.seq, .int .i64 r.epoch, .int .i64 r.value, .int .i64 r.metric] 68)).drew
    have hR1 := (HR0.out.alloc (.cells #[.int .i64 r.kind, .int .i64 r.who, .int .i64 r.gen, .int .i64 r.seq, .int .i64 r.epoch, .int .i64 r.value, .int .i64 r.metric] 68)).drew
    generalize (w0.alloc (.cells #[.int .i64 r.kind, .int .i64 r.who, .int .i64 r.gen, .int .i64 r.seq, .int .i64 r.epoch, .int .i64 r.value, .int .i64 r.metric] 68)).drew = w1 at *
    obtain ⟨m0, m1, m2, m3, m4, m5, m6⟩ := msgAt_blk (m := r) hM
    clear H4 H8 H16 H24 HU hg0 HR0 HB HT HF hgn hgen2 hk1 hk2 hk3
    go_wp2_with fail
    cases hmay : mayM r
    · have HX := hbad hmay
      have HP := wput_bad r w1 hmay
      unfold msgv at HP
      refine HP.mono ?_
      rintro e w2 ⟨rfl, hf2⟩
      have hT2 := hT1.kept hf2 (fun f => f)
      have hF2 := hF1.trans hf2
      clear m0 m1 m2 m3 m4 m5 m6 hbad hdiff hgood
      obtain ⟨hv, hc⟩ := HX
      have b0 : w2.cell? ⟨w.heap.size + 1, 0, none⟩ = some (.int .i64 0) := hT2.cell_of rfl
      have b1 : w2.cell? ⟨w.heap.size + 1, 1, none⟩ = some (.int .i64 0) := hT2.cell_of rfl
      have b2 : w2.cell? ⟨w.heap.size + 1, 2, none⟩ = some (.int .i64 0) := hT2.cell_of rfl
      have b3 : w2.cell? ⟨w.heap.size + 1, 3, none⟩ = some (.int .i64 0) := hT2.cell_of rfl
      have b4 : w2.cell? ⟨w.heap.size + 1, 4, none⟩ = some (.int .i64 0) := hT2.cell_of rfl
      have b5 : w2.cell? ⟨w.heap.size + 1, 5, none⟩ = some (.int .i64 0) := hT2.cell_of rfl
      have b6 : w2.cell? ⟨w.heap.size + 1, 6, none⟩ = some (.int .i64 0) := hT2.cell_of rfl
      have f0 := hT2.free 0
      have f1 := hT2.free 1
      have f2 := hT2.free 2
      have f3 := hT2.free 3
      have f4 := hT2.free 4
      have f5 := hT2.free 5
      have f6 := hT2.free 6
      go_wp2_with fail
      have hb3 := blk7 hT2 (.int .i64 0) (.int .i64 0) (.int .i64 0) (.int .i64 0) (.int .i64 0) (.int .i64 0) (.int .i64 0)
      have hF3 := fr7 hF2 (b := w.heap.size + 1) (fun h => by omega) (.int .i64 0) (.int .i64 0) (.int .i64 0) (.int .i64 0) (.int .i64 0) (.int .i64 0) (.int .i64 0)
      generalize ((((((w2.setCell ⟨w.heap.size + 1, 0, none⟩ (.int .i64 0)).setCell ⟨w.heap.size + 1, 1, none⟩ (.int .i64 0)).setCell ⟨w.heap.size + 1, 2, none⟩ (.int .i64 0)).setCell ⟨w.heap.size + 1, 3, none⟩ (.int .i64 0)).setCell ⟨w.heap.size + 1, 4, none⟩ (.int .i64 0)).setCell ⟨w.heap.size + 1, 5, none⟩ (.int .i64 0)).setCell ⟨w.heap.size + 1, 6, none⟩ (.int .i64 0) = wZ at *
      have d0 : wZ.cell? ⟨w.heap.size + 1, 0, none⟩ = some (.int .i64 0) := hb3.cell_of rfl
      have d1 : wZ.cell? ⟨w.heap.size + 1, 1, none⟩ = some (.int .i64 0) := hb3.cell_of rfl
      have d2 : wZ.cell? ⟨w.heap.size + 1, 2, none⟩ = some (.int .i64 0) := hb3.cell_of rfl
      have d3 : wZ.cell? ⟨w.heap.size + 1, 3, none⟩ = some (.int .i64 0) := hb3.cell_of rfl
      have d4 : wZ.cell? ⟨w.heap.size + 1, 4, none⟩ = some (.int .i64 0) := hb3.cell_of rfl
      have d5 : wZ.cell? ⟨w.heap.size + 1, 5, none⟩ = some (.int .i64 0) := hb3.cell_of rfl
      have d6 : wZ.cell? ⟨w.heap.size + 1, 6, none⟩ = some (.int .i64 0) := hb3.cell_of rfl
      exact bodyPost_ret (v := .tuple #[.agg #[(.int .i64 0), (.int .i64 0), (.int .i64 0), (.int .i64 0), (.int .i64 0), (.int .i64 0), (.int .i64 0)], .int .i64 2]) (by simp [results, Try.results57, go_sem, d0, d1, d2, d3, d4, d5, d6]) rfl ⟨by rw [hv, hc]; rfl, hF3⟩
    · have HP := wput_ok r w1 hmay
      unfold msgv at HP
      refine HP.mono ?_
      rintro e w2 ⟨v2, rfl, ho2, hf2⟩
      have hT2 := hT1.kept hf2 (fun f => f)
      have hF2 := hF1.trans hf2
      have hM2 := hM.kept hf2 (fun f => f)
      have c0 : w2.cell? ⟨w.heap.size, 0, none⟩ = some (.slice (some ⟨sb, so, none⟩) 32 cap) := (hB1.kept hf2 (fun f => f)).cell_of rfl
      have hR2 := hR1.kept hf2 (fun _ _ _ _ f => f)
      have HE := equal_any v2 _ (msgB r) l w2 ho2.rd hR2
      clear m0 m1 m2 m3 m4 m5 m6 hM hB1 hT1 hF1 hR1 hf2
      go_wp2_with fail
      refine HE.mono ?_
      rintro e w3 ⟨rfl, rfl⟩
      cases hq : (msgB r == l)
      · have HX := hdiff hq
        clear hbad hdiff hgood HE
        obtain ⟨hv, hc⟩ := HX
        have b0 : w2.cell? ⟨w.heap.size + 1, 0, none⟩ = some (.int .i64 0) := hT2.cell_of rfl
        have b1 : w2.cell? ⟨w.heap.size + 1, 1, none⟩ = some (.int .i64 0) := hT2.cell_of rfl
        have b2 : w2.cell? ⟨w.heap.size + 1, 2, none⟩ = some (.int .i64 0) := hT2.cell_of rfl
        have b3 : w2.cell? ⟨w.heap.size + 1, 3, none⟩ = some (.int .i64 0) := hT2.cell_of rfl
        have b4 : w2.cell? ⟨w.heap.size + 1, 4, none⟩ = some (.int .i64 0) := hT2.cell_of rfl
        have b5 : w2.cell? ⟨w.heap.size + 1, 5, none⟩ = some (.int .i64 0) := hT2.cell_of rfl
        have b6 : w2.cell? ⟨w.heap.size + 1, 6, none⟩ = some (.int .i64 0) := hT2.cell_of rfl
        have f0 := hT2.free 0
        have f1 := hT2.free 1
        have f2 := hT2.free 2
        have f3 := hT2.free 3
        have f4 := hT2.free 4
        have f5 := hT2.free 5
        have f6 := hT2.free 6
        go_wp2_with fail
        have hb3 := blk7 hT2 (.int .i64 0) (.int .i64 0) (.int .i64 0) (.int .i64 0) (.int .i64 0) (.int .i64 0) (.int .i64 0)
        have hF3 := fr7 hF2 (b := w.heap.size + 1) (fun h => by omega) (.int .i64 0) (.int .i64 0) (.int .i64 0) (.int .i64 0) (.int .i64 0) (.int .i64 0) (.int .i64 0)
        generalize ((((((w2.setCell ⟨w.heap.size + 1, 0, none⟩ (.int .i64 0)).setCell ⟨w.heap.size + 1, 1, none⟩ (.int .i64 0)).setCell ⟨w.heap.size + 1, 2, none⟩ (.int .i64 0)).setCell ⟨w.heap.size + 1, 3, none⟩ (.int .i64 0)).setCell ⟨w.heap.size + 1, 4, none⟩ (.int .i64 0)).setCell ⟨w.heap.size + 1, 5, none⟩ (.int .i64 0)).setCell ⟨w.heap.size + 1, 6, none⟩ (.int .i64 0) = wZ at *
        have d0 : wZ.cell? ⟨w.heap.size + 1, 0, none⟩ = some (.int .i64 0) := hb3.cell_of rfl
        have d1 : wZ.cell? ⟨w.heap.size + 1, 1, none⟩ = some (.int .i64 0) := hb3.cell_of rfl
        have d2 : wZ.cell? ⟨w.heap.size + 1, 2, none⟩ = some (.int .i64 0) := hb3.cell_of rfl
        have d3 : wZ.cell? ⟨w.heap.size + 1, 3, none⟩ = some (.int .i64 0) := hb3.cell_of rfl
        have d4 : wZ.cell? ⟨w.heap.size + 1, 4, none⟩ = some (.int .i64 0) := hb3.cell_of rfl
        have d5 : wZ.cell? ⟨w.heap.size + 1, 5, none⟩ = some (.int .i64 0) := hb3.cell_of rfl
        have d6 : wZ.cell? ⟨w.heap.size + 1, 6, none⟩ = some (.int .i64 0) := hb3.cell_of rfl
        exact bodyPost_ret (v := .tuple #[.agg #[(.int .i64 0), (.int .i64 0), (.int .i64 0), (.int .i64 0), (.int .i64 0), (.int .i64 0), (.int .i64 0)], .int .i64 2]) (by simp [results, Try.results57, go_sem, d0, d1, d2, d3, d4, d5, d6]) rfl ⟨by rw [hv, hc]; rfl, hF3⟩
      · have HX := hgood hmay hq
        clear hbad hdiff hgood HE
        obtain ⟨m0, m1, m2, m3, m4, m5, m6⟩ := msgAt_blk (m := r) hM2
        obtain ⟨hv, hc⟩ := HX
        have b0 : w2.cell? ⟨w.heap.size + 1, 0, none⟩ = some (.int .i64 0) := hT2.cell_of rfl
        have b1 : w2.cell? ⟨w.heap.size + 1, 1, none⟩ = some (.int .i64 0) := hT2.cell_of rfl
        have b2 : w2.cell? ⟨w.heap.size + 1, 2, none⟩ = some (.int .i64 0) := hT2.cell_of rfl
        have b3 : w2.cell? ⟨w.heap.size + 1, 3, none⟩ = some (.int .i64 0) := hT2.cell_of rfl
        have b4 : w2.cell? ⟨w.heap.size + 1, 4, none⟩ = some (.int .i64 0) := hT2.cell_of rfl
        have b5 : w2.cell? ⟨w.heap.size + 1, 5, none⟩ = some (.int .i64 0) := hT2.cell_of rfl
        have b6 : w2.cell? ⟨w.heap.size + 1, 6, none⟩ = some (.int .i64 0) := hT2.cell_of rfl
        have f0 := hT2.free 0
        have f1 := hT2.free 1
        have f2 := hT2.free 2
        have f3 := hT2.free 3
        have f4 := hT2.free 4
        have f5 := hT2.free 5
        have f6 := hT2.free 6
        go_wp2_with fail
        have hb3 := blk7 hT2 (.int .i64 r.kind) (.int .i64 r.who) (.int .i64 r.gen) (.int .i64 r.seq) (.int .i64 r.epoch) (.int .i64 r.value) (.int .i64 r.metric)
        have hF3 := fr7 hF2 (b := w.heap.size + 1) (fun h => by omega) (.int .i64 r.kind) (.int .i64 r.who) (.int .i64 r.gen) (.int .i64 r.seq) (.int .i64 r.epoch) (.int .i64 r.value) (.int .i64 r.metric)
        generalize ((((((w2.setCell ⟨w.heap.size + 1, 0, none⟩ (.int .i64 r.kind)).setCell ⟨w.heap.size + 1, 1, none⟩ (.int .i64 r.who)).setCell ⟨w.heap.size + 1, 2, none⟩ (.int .i64 r.gen)).setCell ⟨w.heap.size + 1, 3, none⟩ (.int .i64 r.seq)).setCell ⟨w.heap.size + 1, 4, none⟩ (.int .i64 r.epoch)).setCell ⟨w.heap.size + 1, 5, none⟩ (.int .i64 r.value)).setCell ⟨w.heap.size + 1, 6, none⟩ (.int .i64 r.metric) = wZ at *
        have d0 : wZ.cell? ⟨w.heap.size + 1, 0, none⟩ = some (.int .i64 r.kind) := hb3.cell_of rfl
        have d1 : wZ.cell? ⟨w.heap.size + 1, 1, none⟩ = some (.int .i64 r.who) := hb3.cell_of rfl
        have d2 : wZ.cell? ⟨w.heap.size + 1, 2, none⟩ = some (.int .i64 r.gen) := hb3.cell_of rfl
        have d3 : wZ.cell? ⟨w.heap.size + 1, 3, none⟩ = some (.int .i64 r.seq) := hb3.cell_of rfl
        have d4 : wZ.cell? ⟨w.heap.size + 1, 4, none⟩ = some (.int .i64 r.epoch) := hb3.cell_of rfl
        have d5 : wZ.cell? ⟨w.heap.size + 1, 5, none⟩ = some (.int .i64 r.value) := hb3.cell_of rfl
        have d6 : wZ.cell? ⟨w.heap.size + 1, 6, none⟩ = some (.int .i64 r.metric) := hb3.cell_of rfl
        exact bodyPost_ret (v := .tuple #[.agg #[(.int .i64 r.kind), (.int .i64 r.who), (.int .i64 r.gen), (.int .i64 r.seq), (.int .i64 r.epoch), (.int .i64 r.value), (.int .i64 r.metric)], .int .i64 0]) (by simp [results, Try.results57, go_sem, d0, d1, d2, d3, d4, d5, d6]) rfl ⟨by rw [hv, hc]; rfl, hF3⟩
end Go.Proofs.Ytandenkoejbloaa
