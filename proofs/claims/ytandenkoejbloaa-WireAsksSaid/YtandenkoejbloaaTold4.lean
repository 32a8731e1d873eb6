/- Walk of layer 4's told. -/
import Derived.Test.YtandenkoejbloaaWsplit
import Derived.Test.YtandenkoejbloaaEqM
namespace Go.Proofs.Ytandenkoejbloaa
open Go Go.RowKit

def m1 : Ms := ⟨1, 2, 258, 1, 3, 7, 1⟩
theorem Blk.at7 {w w' : World} {b : Nat} {e : TypeId} {x0 x1 x2 x3 x4 x5 x6 : Value} (h : Blk w b e [x0, x1, x2, x3, x4, x5, x6]) (hf : Fr none_ w w') :
    w'.cell? ⟨b, 0, none⟩ = some x0 ∧ w'.cell? ⟨b, 1, none⟩ = some x1 ∧ w'.cell? ⟨b, 2, none⟩ = some x2 ∧ w'.cell? ⟨b, 3, none⟩ = some x3 ∧ w'.cell? ⟨b, 4, none⟩ = some x4 ∧ w'.cell? ⟨b, 5, none⟩ = some x5 ∧ w'.cell? ⟨b, 6, none⟩ = some x6 :=
  have h' := h.kept hf (fun f => f)
  ⟨h'.cell_of rfl, h'.cell_of rfl, h'.cell_of rfl, h'.cell_of rfl, h'.cell_of rfl, h'.cell_of rfl, h'.cell_of rfl⟩
theorem Blk.at2 {w w' : World} {b : Nat} {e : TypeId} {x0 x1 : Value} (h : Blk w b e [x0, x1]) (hf : Fr none_ w w') : w'.cell? ⟨b, 0, none⟩ = some x0 ∧ w'.cell? ⟨b, 1, none⟩ = some x1 :=
  have h' := h.kept hf (fun f => f)
  ⟨h'.cell_of rfl, h'.cell_of rfl⟩

set_option maxRecDepth 100000 in
set_option maxHeartbeats 12800000 in
theorem told4_any (w : World) : Calls Try.prog 52 #[] w fun e w' => e = .returned (.bool true) ∧ Fr none_ w w' := by
  have HP : ∀ wa : World, Calls Try.prog 53 #[.agg #[.int .i64 1, .int .i64 2, .int .i64 258, .int .i64 1, .int .i64 3, .int .i64 7, .int .i64 1]] wa fun e w' => ∃ v, e = .returned (.tuple #[v, .int .i64 0]) ∧ Own w' wa.heap.size 5 v ((msgB m1).map bv) ∧ Fr none_ wa w' := fun wa => wput_ok m1 wa (by decide)
  have HZ : ∀ wa : World, Calls Try.prog 53 #[.agg #[.int .i64 0, .int .i64 0, .int .i64 0, .int .i64 0, .int .i64 0, .int .i64 0, .int .i64 0]] wa fun e w' => e = .returned (.tuple #[.slice none 0 0, .int .i64 1]) ∧ Fr none_ wa w' := fun wa => wput_bad zeroM wa (by decide)
  have hgm : getM (msgB m1) = some m1 := get_msg (by decide)
  have HG : ∀ (wa : World) (v : Value), Rd wa v ((msgB m1).map bv) → Calls Try.prog 57 #[v] wa fun e w' => e = .returned (.tuple #[.agg #[.int .i64 1, .int .i64 2, .int .i64 258, .int .i64 1, .int .i64 3, .int .i64 7, .int .i64 1], .int .i64 0]) ∧ Fr none_ wa w' := fun wa v h => by
    have e1 : gv (msgB m1) = m1 := by unfold gv; rw [hgm]; rfl
    have e2 : gc (msgB m1) = 0 := by unfold gc; rw [hgm]; rfl
    have := wget_any v (msgB m1) wa h
    rw [e1, e2] at this
    exact this
  have HS : ∀ wa : World, Calls Try.prog 55 #[.agg #[.int .u64 5, .int .u64 6], .agg #[.int .i64 1, .int .i64 2, .int .i64 258, .int .i64 1, .int .i64 3, .int .i64 7, .int .i64 1]] wa fun e w' => ∃ v, e = .returned (.tuple #[v, .int .i64 0]) ∧ Own w' wa.heap.size 5 v ((sealB (5, 6) m1).map bv) ∧ Fr none_ wa w' := fun wa => seal_ok (5, 6) m1 wa (by decide)
  have htk : (sealB (5, 6) m1).take 32 = msgB m1 := by unfold sealB; rw [List.take_left' (msgB_length m1)]
  have hdr : (sealB (5, 6) m1).drop 32 = tagB (tagW (5, 6) (msgB m1)) := by unfold sealB; rw [List.drop_left' (msgB_length m1)]
  have HX : ∀ (wa : World) (v : Value), Rd wa v ((sealB (5, 6) m1).map bv) → Calls Try.prog 59 #[v] wa fun e w' => ∃ r, e = .returned (.tuple #[.agg #[.int .i64 1, .int .i64 2, .int .i64 258, .int .i64 1, .int .i64 3, .int .i64 7, .int .i64 1], r, keyv (tagW (5, 6) (msgB m1)), .int .i64 0]) ∧ Own w' wa.heap.size 5 r ((msgB m1).map bv) ∧ Fr none_ wa w' := fun wa v h => by
    have := split_ok v (sealB (5, 6) m1) m1 wa h (sealB_length _ _) (by rw [htk]; exact hgm)
    rw [htk, hdr, show (wordAt (tagB (tagW (5, 6) (msgB m1))) 0, wordAt (tagB (tagW (5, 6) (msgB m1))) 8) = tagW (5, 6) (msgB m1) from Prod.ext (word_tag _).1 (word_tag _).2] at this
    exact this
  have HN : ∀ wa : World, Calls Try.prog 59 #[.slice none 0 0] wa fun e w' => e = .returned (.tuple #[.agg #[.int .i64 0, .int .i64 0, .int .i64 0, .int .i64 0, .int .i64 0, .int .i64 0, .int .i64 0], .slice none 0 0, .agg #[.int .u64 0, .int .u64 0], .int .i64 2]) ∧ Fr none_ wa w' := fun wa => split_short (.slice none 0 0) [] wa (Rd.nil_ wa) (by decide)
  have HT : ∀ (wa : World) (v : Value), Rd wa v ((msgB m1).map bv) → Calls Try.prog 42 #[.agg #[.int .u64 5, .int .u64 6], v] wa fun e w' => e = .returned (keyv (tagW (5, 6) (msgB m1))) ∧ Fr none_ wa w' := fun wa v h => mtag_any (5, 6) v (msgB m1) wa h (by rw [msgB_length]; omega)
  have HM1 : ∀ wa : World, Calls Try.prog 61 #[.agg #[.int .i64 1, .int .i64 2, .int .i64 258, .int .i64 1, .int .i64 3, .int .i64 7, .int .i64 1]] wa fun e w' => e = .returned (.bool true) ∧ Fr none_ wa w' := fun wa => by have := may_any m1 wa; rw [show mayM m1 = true from by decide] at this; exact this
  have HM2 : ∀ wa : World, Calls Try.prog 61 #[.agg #[.int .i64 3, .int .i64 0, .int .i64 0, .int .i64 1, .int .i64 0, .int .i64 1, .int .i64 0]] wa fun e w' => e = .returned (.bool false) ∧ Fr none_ wa w' := fun wa => by have := may_any ⟨3, 0, 0, 1, 0, 1, 0⟩ wa; rw [show mayM ⟨3, 0, 0, 1, 0, 1, 0⟩ = false from by decide] at this; exact this
  have hem := eq_msg
  have hlm := msgB_length m1
  have hls := sealB_length (5, 6) m1
  have hp0 : (msgB m1)[0]? = some 1 := by decide
  have hp4 : (msgB m1)[4]? = some 2 := by decide
  have hp5 : (msgB m1)[5]? = some 1 := by decide
  clear htk hdr hgm
  generalize tagW (5, 6) (msgB m1) = t at *
  generalize msgB m1 = pm at *
  generalize sealB (5, 6) m1 = sm at *
  unfold keyv at *
  go_enter Try.func52, Try.ntmps52
  have hB1 := Blk.new w #[.int .i64 1, .int .i64 2, .int .i64 258, .int .i64 1, .int .i64 3, .int .i64 7, .int .i64 1] 68
  have hF1 := (Fr.refl none_ w).alloc (.cells #[.int .i64 1, .int .i64 2, .int .i64 258, .int .i64 1, .int .i64 3, .int .i64 7, .int .i64 1] 68)
  go_wp2_with fail
  generalize w.alloc (.cells #[.int .i64 1, .int .i64 2, .int .i64 258, .int .i64 1, .int .i64 3, .int .i64 7, .int .i64 1] 68) = wa at *
  generalize hb1 : w.heap.size = b1 at *
  refine (HP wa).mono ?_
  rintro e wb ⟨vp, rfl, hop, hfb⟩
  have hB1 := hB1.kept hfb (fun f => f)
  have hF2 := hF1.trans hfb
  obtain ⟨pg, po, pcap, hvp, _, _, hpc1, hpc2, hpcell⟩ := hop.at (by rw [List.length_map, hlm]; omega)
  have hRp := hop.rd
  rw [List.length_map, hlm] at hvp hpc1
  subst hvp
  have x0 := hpcell 0 (.int .u8 1) (by rw [List.getElem?_map, hp0]; rfl)
  have x4 := hpcell 4 (.int .u8 2) (by rw [List.getElem?_map, hp4]; rfl)
  have x5 := hpcell 5 (.int .u8 1) (by rw [List.getElem?_map, hp5]; rfl)
  have hpl : pg < wb.heap.size := (hop.blk pg rfl).2
  clear hop hpcell hfb hF1 HP hp0 hp4 hp5
  go_wp2_with fail
  refine (HG wb _ hRp).mono ?_
  rintro e wc ⟨rfl, hfc⟩
  have hB1 := ((hB1.kept hfc (fun f => f)).alloc (.cells #[.int .i64 1, .int .i64 2, .int .i64 258, .int .i64 1, .int .i64 3, .int .i64 7, .int .i64 1] 68)).alloc (.cells #[.int .u64 5, .int .u64 6] 56)
  have hB2 := (Blk.new wc #[.int .i64 1, .int .i64 2, .int .i64 258, .int .i64 1, .int .i64 3, .int .i64 7, .int .i64 1] 68).alloc (.cells #[.int .u64 5, .int .u64 6] 56)
  have hBk := Blk.new (wc.alloc (.cells #[.int .i64 1, .int .i64 2, .int .i64 258, .int .i64 1, .int .i64 3, .int .i64 7, .int .i64 1] 68)) #[.int .u64 5, .int .u64 6] 56
  rw [World.size_alloc] at hBk
  have hF3 := ((hF2.trans hfc).alloc (.cells #[.int .i64 1, .int .i64 2, .int .i64 258, .int .i64 1, .int .i64 3, .int .i64 7, .int .i64 1] 68)).alloc (.cells #[.int .u64 5, .int .u64 6] 56)
  have hRp := ((hRp.kept hfc (fun _ _ _ _ f => f)).alloc (.cells #[.int .i64 1, .int .i64 2, .int .i64 258, .int .i64 1, .int .i64 3, .int .i64 7, .int .i64 1] 68)).alloc (.cells #[.int .u64 5, .int .u64 6] 56)
  have x0 := (((Fr.refl none_ wb).trans hfc).alloc (.cells #[.int .i64 1, .int .i64 2, .int .i64 258, .int .i64 1, .int .i64 3, .int .i64 7, .int .i64 1] 68)).alloc (.cells #[.int .u64 5, .int .u64 6] 56) |>.cell (p := ⟨pg, po + 0, none⟩) hpl (fun f => f) |>.trans x0
  have x4 := (((Fr.refl none_ wb).trans hfc).alloc (.cells #[.int .i64 1, .int .i64 2, .int .i64 258, .int .i64 1, .int .i64 3, .int .i64 7, .int .i64 1] 68)).alloc (.cells #[.int .u64 5, .int .u64 6] 56) |>.cell (p := ⟨pg, po + 4, none⟩) hpl (fun f => f) |>.trans x4
  have x5 := (((Fr.refl none_ wb).trans hfc).alloc (.cells #[.int .i64 1, .int .i64 2, .int .i64 258, .int .i64 1, .int .i64 3, .int .i64 7, .int .i64 1] 68)).alloc (.cells #[.int .u64 5, .int .u64 6] 56) |>.cell (p := ⟨pg, po + 5, none⟩) hpl (fun f => f) |>.trans x5
  have hpl : pg < ((wc.alloc (.cells #[.int .i64 1, .int .i64 2, .int .i64 258, .int .i64 1, .int .i64 3, .int .i64 7, .int .i64 1] 68)).alloc (.cells #[.int .u64 5, .int .u64 6] 56)).heap.size := by have := hfc.size; simp only [World.size_alloc]; omega
  clear hfc hF2 HG
  obtain ⟨y0, y1, y2, y3, y4, y5, y6⟩ := hB1.at7 (Fr.refl none_ _)
  go_wp2_with fail
  clear y0 y1 y2 y3 y4 y5 y6
  generalize (wc.alloc (.cells #[.int .i64 1, .int .i64 2, .int .i64 258, .int .i64 1, .int .i64 3, .int .i64 7, .int .i64 1] 68)).alloc (.cells #[.int .u64 5, .int .u64 6] 56) = wd at *
  generalize hb2 : wc.heap.size = b2 at *
  refine (HS wd).mono ?_
  rintro e we ⟨vs, rfl, hos, hfe⟩
  obtain ⟨sg, so, scap, hvs, _, _, hsc1, hsc2, _⟩ := hos.at (by rw [List.length_map, hls]; omega)
  have hRs := hos.rd
  rw [List.length_map, hls] at hvs hsc1
  subst hvs
  go_wp2_with fail
  refine (HX we _ hRs).mono ?_
  rintro e wf ⟨vy, rfl, hoy, hff⟩
  have hfx := hfe.trans hff
  have hB1 := hB1.kept hfx (fun f => f)
  have hB2 := hB2.kept hfx (fun f => f)
  have hBk := hBk.kept hfx (fun f => f)
  have hF4 := hF3.trans hfx
  have hRp := hRp.kept hfx (fun _ _ _ _ f => f)
  have x0 := (hfx.cell (p := ⟨pg, po + 0, none⟩) hpl (fun f => f)).trans x0
  have x4 := (hfx.cell (p := ⟨pg, po + 4, none⟩) hpl (fun f => f)).trans x4
  have x5 := (hfx.cell (p := ⟨pg, po + 5, none⟩) hpl (fun f => f)).trans x5
  have hpl : pg < wf.heap.size := Nat.lt_of_lt_of_le hpl hfx.size
  clear hfe hff hfx hF3 hos hRs HS HX
  go_wp2_with fail
  have hfx := ((Fr.refl none_ wf).alloc (.cells #[.int .i64 1, .int .i64 2, .int .i64 258, .int .i64 1, .int .i64 3, .int .i64 7, .int .i64 1] 68)).alloc (.cells #[.int .u64 (u t.1), .int .u64 (u t.2)] 52)
  have hB1 := hB1.kept hfx (fun f => f)
  have hB2 := hB2.kept hfx (fun f => f)
  have hBk := hBk.kept hfx (fun f => f)
  have hB3 := (Blk.new wf #[.int .i64 1, .int .i64 2, .int .i64 258, .int .i64 1, .int .i64 3, .int .i64 7, .int .i64 1] 68).alloc (.cells #[.int .u64 (u t.1), .int .u64 (u t.2)] 52)
  have hBt := Blk.new (wf.alloc (.cells #[.int .i64 1, .int .i64 2, .int .i64 258, .int .i64 1, .int .i64 3, .int .i64 7, .int .i64 1] 68)) #[.int .u64 (u t.1), .int .u64 (u t.2)] 52
  rw [World.size_alloc] at hBt
  have hF5 := hF4.trans hfx
  have hRp := hRp.kept hfx (fun _ _ _ _ f => f)
  have hoy := hoy.kept hfx (fun _ _ f => f)
  have x0 := (hfx.cell (p := ⟨pg, po + 0, none⟩) hpl (fun f => f)).trans x0
  have x4 := (hfx.cell (p := ⟨pg, po + 4, none⟩) hpl (fun f => f)).trans x4
  have x5 := (hfx.cell (p := ⟨pg, po + 5, none⟩) hpl (fun f => f)).trans x5
  replace hpl : pg < ((wf.alloc (.cells #[.int .i64 1, .int .i64 2, .int .i64 258, .int .i64 1, .int .i64 3, .int .i64 7, .int .i64 1] 68)).alloc (.cells #[.int .u64 (u t.1), .int .u64 (u t.2)] 52)).heap.size := Nat.lt_of_lt_of_le hpl hfx.size
  clear hfx hF4
  generalize (wf.alloc (.cells #[.int .i64 1, .int .i64 2, .int .i64 258, .int .i64 1, .int .i64 3, .int .i64 7, .int .i64 1] 68)).alloc (.cells #[.int .u64 (u t.1), .int .u64 (u t.2)] 52) = wg at *
  generalize hb3 : wf.heap.size = b3 at *
  refine (HN wg).mono ?_
  rintro e wh ⟨rfl, hfh⟩
  go_wp2_with fail
  refine (HZ _).mono ?_
  rintro e w0 ⟨rfl, hf0⟩
  have hfx := ((hfh.alloc (.cells #[.int .i64 0, .int .i64 0, .int .i64 0, .int .i64 0, .int .i64 0, .int .i64 0, .int .i64 0] 68)).alloc (.cells #[.int .u64 0, .int .u64 0] 52)).trans hf0
  have hB1 := hB1.kept hfx (fun f => f)
  have hB2 := hB2.kept hfx (fun f => f)
  have hBk := hBk.kept hfx (fun f => f)
  have hB3 := hB3.kept hfx (fun f => f)
  have hBt := hBt.kept hfx (fun f => f)
  have HF6 := Lib.hid (hF5.trans hfx)
  have HRp := Lib.hid (hRp.kept hfx (fun _ _ _ _ f => f))
  have HRy := Lib.hid (hoy.kept hfx (fun _ _ f => f)).rd
  have x0 := (hfx.cell (p := ⟨pg, po + 0, none⟩) hpl (fun f => f)).trans x0
  have x4 := (hfx.cell (p := ⟨pg, po + 4, none⟩) hpl (fun f => f)).trans x4
  have x5 := (hfx.cell (p := ⟨pg, po + 5, none⟩) hpl (fun f => f)).trans x5
  replace hpl : pg < w0.heap.size := Nat.lt_of_lt_of_le hpl hfx.size
  clear hfx hF5 hfh hf0 hRp hoy HN HZ
  generalize b2 + 1 = bk at *
  generalize b3 + 1 = bt at *
  have HK : ∀ w' : World, Fr none_ w0 w' → (w'.cell? ⟨b1, 0, none⟩ = some (.int .i64 1) ∧ w'.cell? ⟨b1, 1, none⟩ = some (.int .i64 2) ∧ w'.cell? ⟨b1, 2, none⟩ = some (.int .i64 258) ∧ w'.cell? ⟨b1, 3, none⟩ = some (.int .i64 1) ∧ w'.cell? ⟨b1, 4, none⟩ = some (.int .i64 3) ∧ w'.cell? ⟨b1, 5, none⟩ = some (.int .i64 7) ∧ w'.cell? ⟨b1, 6, none⟩ = some (.int .i64 1)) ∧ (w'.cell? ⟨b2, 0, none⟩ = some (.int .i64 1) ∧ w'.cell? ⟨b2, 1, none⟩ = some (.int .i64 2) ∧ w'.cell? ⟨b2, 2, none⟩ = some (.int .i64 258) ∧ w'.cell? ⟨b2, 3, none⟩ = some (.int .i64 1) ∧ w'.cell? ⟨b2, 4, none⟩ = some (.int .i64 3) ∧ w'.cell? ⟨b2, 5, none⟩ = some (.int .i64 7) ∧ w'.cell? ⟨b2, 6, none⟩ = some (.int .i64 1)) ∧ (w'.cell? ⟨b3, 0, none⟩ = some (.int .i64 1) ∧ w'.cell? ⟨b3, 1, none⟩ = some (.int .i64 2) ∧ w'.cell? ⟨b3, 2, none⟩ = some (.int .i64 258) ∧ w'.cell? ⟨b3, 3, none⟩ = some (.int .i64 1) ∧ w'.cell? ⟨b3, 4, none⟩ = some (.int .i64 3) ∧ w'.cell? ⟨b3, 5, none⟩ = some (.int .i64 7) ∧ w'.cell? ⟨b3, 6, none⟩ = some (.int .i64 1)) ∧ (w'.cell? ⟨bk, 0, none⟩ = some (.int .u64 5) ∧ w'.cell? ⟨bk, 1, none⟩ = some (.int .u64 6)) ∧ (w'.cell? ⟨bt, 0, none⟩ = some (.int .u64 (u t.1)) ∧ w'.cell? ⟨bt, 1, none⟩ = some (.int .u64 (u t.2))) ∧ (w'.cell? ⟨pg, po, none⟩ = some (.int .u8 1) ∧ w'.cell? ⟨pg, po + 4, none⟩ = some (.int .u8 2) ∧ w'.cell? ⟨pg, po + 5, none⟩ = some (.int .u8 1)) := fun w' hf => ⟨hB1.at7 hf, hB2.at7 hf, hB3.at7 hf, hBk.at2 hf, hBt.at2 hf, (hf.cell hpl (fun f => f)).trans x0, (hf.cell hpl (fun f => f)).trans x4, (hf.cell hpl (fun f => f)).trans x5⟩
  have hg0 := (Fr.refl none_ w0).drew
  have hEy : ((bs pm).toList == (bs pm).toList) = true := by simp
  obtain ⟨ya, yc, rfl, _, _, _⟩ := HRy.out
  have hyl : (pm.map bv).length = 32 := by rw [List.length_map, hlm]
  rw [hyl] at HRy
  rw [hyl]
  clear hB1 hB2 hB3 hBk hBt x0 x4 x5
  go_wp2_with fail
  try simp only [List.append_eq, List.cons_append, List.nil_append]
  refine region_tm [54, 56, 63, 76, 80] [] [0, 1, 2, 4, 12, 20, 36, 68, 128, 384, 640, 1152, 2176, 4224, 8192, 24576, 40960, 73728, 139264, 270336, 524288, 1572864, 2621440, 4718592, 8912896, 17301504, 33554432, 100663296, 167772160, 301989888, 536870912, 536870912, 3758096384, 4831838208, 9126805504, 17179869184, 51539607552, 85899345920, 154618822656, 274877906944, 824633720832, 1374389534720, 2473901162496, 4672924418048, 8796093022208, 26388279066624, 43980465111040, 79164837199872, 140737488355328, 140737488355328, 985162418487296, 1266637395197952, 2392537302040576, 4503599627370496, 13510798882111488, 4503599627370496, 40532396646334464, 94575592174780416, 148618787703226368, 292733975779082240, 576460752303423488, 576460752303423488, 576460752303423488, 7493989779944505344, 10952754293765046272, 19023204826012975104, 46116860184273879040, 73786976294838206464, 221360928884514619392, 368934881474191032320, 664082786653543858176, 1180591620717411303424, 3541774862152233910272, 5902958103587056517120, 10625324586456701730816, 18889465931478580854784, 56668397794435742564352, 94447329657392904273920, 226673591177742970257408, 302231454903657293676544, 906694364710971881029632, 1511157274518286468382720, 2720083094132915643088896, 9671406556917033397649407] [19342813113834066795298815, 19342813113834066795298814, 19342813113834066795298813, 19342813113834066795298811, 19342813113834066795298803, 19342813113834066795298795, 19342813113834066795298779, 19342813113834066795298751, 19342813113834066795298687, 19342813113834066795298431, 19342813113834066795298175, 19342813113834066795297663, 19342813113834066795296639, 19342813113834066795294719, 19342813113834066795290623, 19342813113834066795274239, 19342813113834066795257855, 19342813113834066795225087, 19342813113834066795159551, 19342813113834066795036671, 19342813113834066794774527, 19342813113834066793725951, 19342813113834066792677375, 19342813113834066790580223, 19342813113834066786385919, 19342813113834066778521599, 19342813113834066761744383, 19342813113834066694635519, 19342813113834066627526655, 19342813113834066526863359, 19342813113834066258427903, 19342813113834066258427903, 19342813113834063037202431, 19342813113834061963460607, 19342813113834058205364223, 19342813113834049615429631, 19342813113834015255691263, 19342813113833980895952895, 19342813113833929356345343, 19342813113833791917391871, 19342813113833242161577983, 19342813113832692405764095, 19342813113831592894136319, 19342813113829668748787711, 19342813113825270702276607, 19342813113807678516232191, 19342813113790086330187775, 19342813113763698051121151, 19342813113693329306943487, 19342813113693329306943487, 19342813112848904376811519, 19342813112567429400100863, 19342813111582266981613567, 19342813109330467167928319, 0, 19342813109330467167928319, 0, 19342813019258474620518399, 19342812965215279092072447, 19342812825603690643587071, 19342812537373314491875327, 19342812537373314491875327, 19342812537373314491875327, 0, 19342802161079773030252543, 19342794090629240782323711, 19342776220345919376195583, 19342739326857771957092351, 19342591752905182280679423, 19342444178952592604266495, 19342222818023708089647103, 19341632522213349383995391, 19339271338971914561388543, 19336910155730479738781695, 19333368380868327504871423, 19323923647902588214444031, 0, 19248365784176673891024895, 19191697386382238148460543, 19040581658930409501622271, 0, 17831655839315780326916095, 16622730019701151152209919, 14507109835375550096474111] [0, 1, 3, 7, 15, 31, 63, 127, 255, 511, 1023, 2047, 4095, 8191, 16383, 32767, 65535, 131071, 262143, 524287, 1048575, 2097151, 4194303, 8388607, 16777215, 33554431, 67108863, 134217727, 268435455, 536870911, 1073741823, 1073741823, 4294967295, 8589934591, 17179869183, 34359738367, 68719476735, 137438953471, 274877906943, 549755813887, 1099511627775, 2199023255551, 4398046511103, 8796093022207, 17592186044415, 35184372088831, 70368744177663, 140737488355327, 281474976710655, 281474976710655, 1125899906842623, 2251799813685247, 4503599627370495, 9007199254740991, 18014398509481983, 9007199254740991, 45035996273704959, 144115188075855871, 288230376151711743, 576460752303423487, 1152921504606846975, 1152921504606846975, 1152921504606846975, 8070450532247928831, 18446744073709551615, 36893488147419103231, 73786976294838206463, 147573952589676412927, 295147905179352825855, 590295810358705651711, 1180591620717411303423, 2361183241434822606847, 4722366482869645213695, 9444732965739290427391, 18889465931478580854783, 37778931862957161709567, 75557863725914323419135, 151115727451828646838271, 302231454903657293676543, 604462909807314587353087, 1208925819614629174706175, 2417851639229258349412351, 4835703278458516698824703, 9671406556917033397649407] 19342813113834066795298815 (.quiet 0 (.quiet 1 (.quiet 2 (.quiet 3 (.quiet 4 (.quiet 5 (.quiet 6 (.quiet 7 (.quiet 8 (.quiet 9 (.quiet 10 (.quiet 11 (.quiet 12 (.quiet 13 (.quiet 14 (.quiet 15 (.quiet 16 (.quiet 17 (.quiet 18 (.quiet 19 (.quiet 20 (.quiet 21 (.quiet 22 (.quiet 23 (.quiet 24 (.quiet 25 (.quiet 26 (.quiet 27 (.quiet 28 (.quiet 29 (.quiet 30 (.quiet 31 (.quiet 32 (.quiet 33 (.quiet 34 (.quiet 35 (.quiet 36 (.quiet 37 (.quiet 38 (.quiet 39 (.quiet 40 (.quiet 41 (.quiet 42 (.quiet 43 (.quiet 44 (.quiet 45 (.quiet 46 (.quiet 47 (.quiet 48 (.quiet 49 (.quiet 50 (.quiet 51 (.quiet 52 (.quiet 53 (.quiet 55 (.alt 54 (.alt 56 (.quiet 57 (.quiet 58 (.quiet 59 (.quiet 60 (.quiet 61 (.quiet 62 (.alt 63 (.quiet 64 (.quiet 65 (.quiet 66 (.quiet 67 (.quiet 68 (.quiet 69 (.quiet 70 (.quiet 71 (.quiet 72 (.quiet 73 (.quiet 74 (.quiet 75 (.alt 76 (.quiet 77 (.quiet 78 (.quiet 79 (.alt 80 (.quiet 81 (.quiet 82 (.quiet 83 .done))) (.fin))))) (.fin)))))))))))))) (.fin)))))))) (.fin)) (.alt 56 (.alt 54 (.quiet 57 (.quiet 58 (.quiet 59 (.quiet 60 (.quiet 61 (.quiet 62 (.alt 63 (.quiet 64 (.quiet 65 (.quiet 66 (.quiet 67 (.quiet 68 (.quiet 69 (.quiet 70 (.quiet 71 (.quiet 72 (.quiet 73 (.quiet 74 (.quiet 75 (.alt 76 (.quiet 77 (.quiet 78 (.quiet 79 (.alt 80 (.quiet 81 (.quiet 82 (.quiet 83 .done))) (.fin))))) (.fin)))))))))))))) (.fin)))))))) (.fin)) (.fin)))))))))))))))))))))))))))))))))))))))))))))))))))))))))) (fun w' => (w'.cell? ⟨b1, 0, none⟩ = some (.int .i64 1) ∧ w'.cell? ⟨b1, 1, none⟩ = some (.int .i64 2) ∧ w'.cell? ⟨b1, 2, none⟩ = some (.int .i64 258) ∧ w'.cell? ⟨b1, 3, none⟩ = some (.int .i64 1) ∧ w'.cell? ⟨b1, 4, none⟩ = some (.int .i64 3) ∧ w'.cell? ⟨b1, 5, none⟩ = some (.int .i64 7) ∧ w'.cell? ⟨b1, 6, none⟩ = some (.int .i64 1)) ∧ (w'.cell? ⟨b2, 0, none⟩ = some (.int .i64 1) ∧ w'.cell? ⟨b2, 1, none⟩ = some (.int .i64 2) ∧ w'.cell? ⟨b2, 2, none⟩ = some (.int .i64 258) ∧ w'.cell? ⟨b2, 3, none⟩ = some (.int .i64 1) ∧ w'.cell? ⟨b2, 4, none⟩ = some (.int .i64 3) ∧ w'.cell? ⟨b2, 5, none⟩ = some (.int .i64 7) ∧ w'.cell? ⟨b2, 6, none⟩ = some (.int .i64 1)) ∧ (w'.cell? ⟨b3, 0, none⟩ = some (.int .i64 1) ∧ w'.cell? ⟨b3, 1, none⟩ = some (.int .i64 2) ∧ w'.cell? ⟨b3, 2, none⟩ = some (.int .i64 258) ∧ w'.cell? ⟨b3, 3, none⟩ = some (.int .i64 1) ∧ w'.cell? ⟨b3, 4, none⟩ = some (.int .i64 3) ∧ w'.cell? ⟨b3, 5, none⟩ = some (.int .i64 7) ∧ w'.cell? ⟨b3, 6, none⟩ = some (.int .i64 1)) ∧ (w'.cell? ⟨bk, 0, none⟩ = some (.int .u64 5) ∧ w'.cell? ⟨bk, 1, none⟩ = some (.int .u64 6)) ∧ (w'.cell? ⟨bt, 0, none⟩ = some (.int .u64 (u t.1)) ∧ w'.cell? ⟨bt, 1, none⟩ = some (.int .u64 (u t.2))) ∧ (w'.cell? ⟨pg, po, none⟩ = some (.int .u8 1) ∧ w'.cell? ⟨pg, po + 4, none⟩ = some (.int .u8 2) ∧ w'.cell? ⟨pg, po + 5, none⟩ = some (.int .u8 1))) (by as_aux_lemma => kernel_rfl) (by as_aux_lemma => kernel_rfl) (by as_aux_lemma => kernel_rfl) (by as_aux_lemma => kernel_rfl) (by as_aux_lemma => kernel_rfl) (by as_aux_lemma => kernel_rfl) (by as_aux_lemma => kernel_rfl) (by as_aux_lemma => kernel_rfl) (by first | exact HK _ hg3 | exact HK _ hg2 | exact HK _ hg1 | exact HK _ hg0) ?_
  repeat' (first
    | (refine t_float (v := ?_) (a' := ?_) rfl rfl rfl ?_ ?_ ?_
       rotate_left 2
       · (intro w' hU; (try dsimp only at hU); go_simp; with_reducible rfl)
       · (simp only [Act.put, List.setIfInBounds_toArray, List.set_cons_zero, List.set_cons_succ]; rfl))
    | (refine t_bound (v := ?_) (a' := ?_) rfl rfl rfl ?_ ?_ ?_
       rotate_left 2
       · (go_simp; with_reducible rfl)
       · (simp only [Act.put, List.setIfInBounds_toArray, List.set_cons_zero, List.set_cons_succ]; rfl))
    | (refine t_skip (a' := ?_) rfl rfl ?_ ?_
       rotate_left 1
       · (simp only [Act.put, List.setIfInBounds_toArray, List.set_cons_zero, List.set_cons_succ]; rfl))
    | exact t_fin
    | (refine t_acts rfl rfl (fun K hK => ?_) ?_
       first | ((first | (refine wp_str _ _ 25 9 5 rfl Try.underlying25 Try.underlying5 Try.underlying9 (.slice ya 32 yc) pm rfl HRy.out.drew ?_) | (refine wp_str _ _ 25 9 5 rfl Try.underlying25 Try.underlying5 Try.underlying9 (.slice (some ⟨pg, po, none⟩) 32 pcap) pm rfl HRp.out.drew ?_)); simp only [Act.put, List.setIfInBounds_toArray, List.set_cons_zero, List.set_cons_succ]) | (go_simp; try (go_wp2_with (first | (go_at_call 61; have hq := hf2; refine (HM2 _).mono ?_; clear hq; rintro e w3 ⟨rfl, hf3⟩; have hg3 := hg2.trans hf3) | (go_at_call 61; have hq := hf1; refine (HM1 _).mono ?_; clear hq; rintro e w2 ⟨rfl, hf2⟩; have hg2 := hg1.trans hf2) | (go_at_call 42; refine (HT _ _ HRp.out.drew).mono ?_; rintro e w1 ⟨rfl, hf1⟩; have hg1 := hg0.trans hf1))))
       refine hK.out _ _ (by first | exact HK _ hg3 | exact HK _ hg2 | exact HK _ hg1 | exact HK _ hg0) ?_
       clear hK K))
  all_goals (refine t_done ?_)
  all_goals
    go_wp2
    go_ret
    exact ⟨rfl, HF6.out.trans hg3⟩
end Go.Proofs.Ytandenkoejbloaa
