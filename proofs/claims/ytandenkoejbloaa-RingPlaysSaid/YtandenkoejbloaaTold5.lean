/- Walk of layer 5's told. -/
import Derived.Test.YtandenkoejbloaaRing3
import Derived.Test.YtandenkoejbloaaEq
namespace Go.Proofs.Ytandenkoejbloaa
open Go Go.RowKit
theorem rgen_nil (who : Int) (w : World) : Calls Try.prog 72 #[.pointer none, .int .i64 who] w fun e w' => e = .returned (.int .i64 (-1)) ∧ w = w' := by
  have HA := at_nil who w
  go_enter Try.func72, Try.ntmps72
  go_wp2_with fail
  refine HA.mono ?_
  rintro e w1 ⟨rfl, rfl⟩
  go_wp2
  go_ret
  exact ⟨rfl, rfl⟩
theorem none_of_two {b lb B : Nat} (h1 : B ≤ b) (h2 : B ≤ lb) : ∀ i, i < B → two b lb i → none_ i := by
  intro i hi ht
  rcases ht with rfl | rfl <;> omega

set_option maxRecDepth 100000 in
set_option maxHeartbeats 6400000 in
theorem told5_any (w : World) : Calls Try.prog 65 #[] w fun e w' => e = .returned (.bool true) ∧ Fr none_ w w' := by
  have HN : ∀ wa : World, Calls Try.prog 63 #[.int .u64 9, .int .i64 3, .int .i64 2] wa fun e w' => ∃ b lb, e = .returned (.pointer (some ⟨b, 0, none⟩)) ∧ wa.heap.size ≤ b ∧ wa.heap.size ≤ lb ∧ RgAt w' b lb 9 2 [(0, 0), (0, 0), (0, 0)] ∧ Fr none_ wa w' := fun wa => rnew_ok 9 3 2 wa (by unfold badR; omega)
  have HX : ∀ wa : World, Calls Try.prog 63 #[.int .u64 1, .int .i64 17, .int .i64 1] wa fun e w' => e = .returned (.pointer none) ∧ wa = w' := fun wa => rnew_bad 1 17 1 wa (by unfold badR; omega)
  have HO : ∀ wa : World, Calls Try.prog 49 #[.int .u64 9, .int .i64 1, .int .i64 0] wa fun e w' => e = .returned (keyv (ofW 9 1 0)) ∧ Fr none_ wa w' := fun wa => of_any 9 1 0 wa
  have HZ : ∀ wa : World, Calls Try.prog 70 #[.pointer none, .int .i64 0, .int .i64 0, .int .i64 0] wa fun e w' => e = .returned (.tuple #[keyv (0, 0), .int .i64 1]) ∧ Fr none_ wa w' := fun wa => rkey_nil 0 0 0 wa
  have HZg : ∀ wa : World, Calls Try.prog 72 #[.pointer none, .int .i64 0] wa fun e w' => e = .returned (.int .i64 (-1)) ∧ wa = w' := fun wa => rgen_nil 0 wa
  have HK1 : ∀ (wa : World) (b lb : Nat), RgAt wa b lb 9 2 [(0, 0), (0, 0), (0, 0)] → Calls Try.prog 70 #[.pointer (some ⟨b, 0, none⟩), .int .i64 1, .int .i64 0, .int .i64 5] wa fun e w' => e = .returned (.tuple #[keyv (ofW 9 1 0), .int .i64 0]) ∧ RgAt w' b lb 9 2 [(0, 0), (0, 0), (0, 0)] ∧ Fr (two b lb) wa w' := fun wa b lb h => rkey_any h 1 0 5
  have HK2 : ∀ (wa : World) (b lb : Nat), RgAt wa b lb 9 2 [(0, 0), (0, 0), (0, 0)] → Calls Try.prog 70 #[.pointer (some ⟨b, 0, none⟩), .int .i64 1, .int .i64 1, .int .i64 5] wa fun e w' => e = .returned (.tuple #[keyv ((0, 0)), .int .i64 4]) ∧ RgAt w' b lb 9 2 [(0, 0), (0, 0), (0, 0)] ∧ Fr (two b lb) wa w' := fun wa b lb h => rkey_any h 1 1 5
  have HK3 : ∀ (wa : World) (b lb : Nat), RgAt wa b lb 9 2 [(0, 0), (0, 0), (0, 0)] → Calls Try.prog 70 #[.pointer (some ⟨b, 0, none⟩), .int .i64 3, .int .i64 0, .int .i64 5] wa fun e w' => e = .returned (.tuple #[keyv ((0, 0)), .int .i64 3]) ∧ RgAt w' b lb 9 2 [(0, 0), (0, 0), (0, 0)] ∧ Fr (two b lb) wa w' := fun wa b lb h => rkey_any h 3 0 5
  have HK4 : ∀ (wa : World) (b lb : Nat), RgAt wa b lb 9 2 [(0, 0), (1, 5), (0, 0)] → Calls Try.prog 70 #[.pointer (some ⟨b, 0, none⟩), .int .i64 1, .int .i64 0, .int .i64 6] wa fun e w' => e = .returned (.tuple #[keyv (ofW 9 1 0), .int .i64 0]) ∧ RgAt w' b lb 9 2 [(0, 0), (1, 5), (0, 0)] ∧ Fr (two b lb) wa w' := fun wa b lb h => rkey_any h 1 0 6
  have HK5 : ∀ (wa : World) (b lb : Nat), RgAt wa b lb 9 2 [(0, 0), (1, 5), (0, 0)] → Calls Try.prog 70 #[.pointer (some ⟨b, 0, none⟩), .int .i64 1, .int .i64 0, .int .i64 7] wa fun e w' => e = .returned (.tuple #[keyv ((0, 0)), .int .i64 4]) ∧ RgAt w' b lb 9 2 [(0, 0), (1, 5), (0, 0)] ∧ Fr (two b lb) wa w' := fun wa b lb h => rkey_any h 1 0 7
  have HK6 : ∀ (wa : World) (b lb : Nat), RgAt wa b lb 9 2 [(0, 0), (1, 5), (0, 0)] → Calls Try.prog 70 #[.pointer (some ⟨b, 0, none⟩), .int .i64 1, .int .i64 1, .int .i64 7] wa fun e w' => e = .returned (.tuple #[keyv (ofW 9 1 1), .int .i64 0]) ∧ RgAt w' b lb 9 2 [(0, 0), (1, 5), (0, 0)] ∧ Fr (two b lb) wa w' := fun wa b lb h => rkey_any h 1 1 7
  have HR1 : ∀ (wa : World) (b lb : Nat), RgAt wa b lb 9 2 [(0, 0), (0, 0), (0, 0)] → Calls Try.prog 66 #[.pointer (some ⟨b, 0, none⟩), .int .i64 1, .int .i64 (2), .int .i64 5] wa fun e w' => e = .returned (.int .i64 4) ∧ RgAt w' b lb 9 2 [(0, 0), (0, 0), (0, 0)] ∧ Fr (two b lb) wa w' := fun wa b lb h => rrot_any h 1 (2) 5
  have HR2 : ∀ (wa : World) (b lb : Nat), RgAt wa b lb 9 2 [(0, 0), (0, 0), (0, 0)] → Calls Try.prog 66 #[.pointer (some ⟨b, 0, none⟩), .int .i64 1, .int .i64 (1), .int .i64 5] wa fun e w' => e = .returned (.int .i64 0) ∧ RgAt w' b lb 9 2 [(0, 0), (1, 5), (0, 0)] ∧ Fr (two b lb) wa w' := fun wa b lb h => rrot_any h 1 (1) 5
  have HS1 : ∀ (wa : World) (b lb : Nat), RgAt wa b lb 9 2 [(0, 0), (1, 5), (0, 0)] → Calls Try.prog 68 #[.pointer (some ⟨b, 0, none⟩), .int .i64 1, .int .i64 (9), .int .i64 8] wa fun e w' => e = .returned (.int .i64 0) ∧ RgAt w' b lb 9 2 [(0, 0), (9, 8), (0, 0)] ∧ Fr (two b lb) wa w' := fun wa b lb h => rset_any h 1 (9) 8
  have HS2 : ∀ (wa : World) (b lb : Nat), RgAt wa b lb 9 2 [(0, 0), (9, 8), (0, 0)] → Calls Try.prog 68 #[.pointer (some ⟨b, 0, none⟩), .int .i64 1, .int .i64 (-1), .int .i64 0] wa fun e w' => e = .returned (.int .i64 1) ∧ RgAt w' b lb 9 2 [(0, 0), (9, 8), (0, 0)] ∧ Fr (two b lb) wa w' := fun wa b lb h => rset_any h 1 (-1) 0
  have HG1 : ∀ (wa : World) (b lb : Nat), RgAt wa b lb 9 2 [(0, 0), (1, 5), (0, 0)] → Calls Try.prog 72 #[.pointer (some ⟨b, 0, none⟩), .int .i64 1] wa fun e w' => e = .returned (.int .i64 (1)) ∧ wa = w' := fun wa b lb h => rgen_any h 1
  have HG2 : ∀ (wa : World) (b lb : Nat), RgAt wa b lb 9 2 [(0, 0), (1, 5), (0, 0)] → Calls Try.prog 73 #[.pointer (some ⟨b, 0, none⟩), .int .i64 1] wa fun e w' => e = .returned (.int .i64 (5)) ∧ wa = w' := fun wa b lb h => rsince_any h 1
  have HG3 : ∀ (wa : World) (b lb : Nat), RgAt wa b lb 9 2 [(0, 0), (1, 5), (0, 0)] → Calls Try.prog 72 #[.pointer (some ⟨b, 0, none⟩), .int .i64 3] wa fun e w' => e = .returned (.int .i64 (-1)) ∧ wa = w' := fun wa b lb h => rgen_any h 3
  have HG4 : ∀ (wa : World) (b lb : Nat), RgAt wa b lb 9 2 [(0, 0), (9, 8), (0, 0)] → Calls Try.prog 72 #[.pointer (some ⟨b, 0, none⟩), .int .i64 1] wa fun e w' => e = .returned (.int .i64 (9)) ∧ wa = w' := fun wa b lb h => rgen_any h 1
  have HQ1 := Lib.hid HK1
  generalize ofW 9 1 0 = k1 at *
  generalize ofW 9 1 1 = k2 at *
  clear HQ1
  unfold keyv at *
  go_enter Try.func65, Try.ntmps65
  go_wp2_with fail
  refine (HN _).mono ?_
  rintro e w1 ⟨b, lb, rfl, hb, hlb, hA, hF⟩
  have h2 := none_of_two hb hlb
  have hne : b < w1.heap.size ∧ lb < w1.heap.size := by
    obtain ⟨_, _, _, _, _, a, _, c⟩ := hA
    exact ⟨c.lt, a.lt⟩
  clear HN hb hlb
  go_wp2_with fail
  refine (HK1 _ b lb hA).mono ?_
  rintro e w2 ⟨rfl, hB, hf⟩
  go_wp2_with fail
  have hx := (Fr.refl none_ w2).alloc (.cells #[.int .u64 (u k1.1), .int .u64 (u k1.2)] 56)
  have hF1 := (hF.step hf h2).trans hx
  have hA1 := hB.kept hx (fun f => f) (fun f => f)
  have hK := Blk.new w2 #[.int .u64 (u k1.1), .int .u64 (u k1.2)] 56
  have hbk : w2.heap.size ≠ b ∧ w2.heap.size ≠ lb := by have := hf.size; omega
  clear hA hB hf hx hF HK1
  generalize w2.heap.size = bk at *
  generalize w2.alloc (.cells #[.int .u64 (u k1.1), .int .u64 (u k1.2)] 56) = w3 at *
  have hF := hF1; have hA := hA1; clear hF1 hA1
  refine (HK2 _ b lb hA).mono ?_
  rintro e w4 ⟨rfl, hB, hf⟩
  go_wp2_with fail
  have hx := (Fr.refl none_ w4).alloc (.cells #[.int .u64 (u 0), .int .u64 (u 0)] 56)
  have hF1 := (hF.step hf h2).trans hx
  have hA1 := hB.kept hx (fun f => f) (fun f => f)
  have hK1 := (hK.kept hf (by rintro (h | h); exact hbk.1 h; exact hbk.2 h)).kept hx (fun f => f)
  clear hA hB hf hx hF HK2
  clear hK
  generalize w4.alloc (.cells #[.int .u64 (u 0), .int .u64 (u 0)] 56) = w5 at *
  have hF := hF1; have hA := hA1; clear hF1 hA1
  have hK := hK1; clear hK1
  refine (HK3 _ b lb hA).mono ?_
  rintro e w6 ⟨rfl, hB, hf⟩
  go_wp2_with fail
  have hx := (Fr.refl none_ w6).alloc (.cells #[.int .u64 (u 0), .int .u64 (u 0)] 56)
  have hF1 := (hF.step hf h2).trans hx
  have hA1 := hB.kept hx (fun f => f) (fun f => f)
  have hK1 := (hK.kept hf (by rintro (h | h); exact hbk.1 h; exact hbk.2 h)).kept hx (fun f => f)
  clear hA hB hf hx hF HK3
  clear hK
  generalize w6.alloc (.cells #[.int .u64 (u 0), .int .u64 (u 0)] 56) = w7 at *
  have hF := hF1; have hA := hA1; clear hF1 hA1
  have hK := hK1; clear hK1
  refine (HR1 _ b lb hA).mono ?_
  rintro e w8 ⟨rfl, hA1, hf⟩
  have hF1 := hF.step hf h2
  have hK1 := hK.kept hf (by rintro (h | h); exact hbk.1 h; exact hbk.2 h)
  clear hA hF hK hf HR1
  go_wp2_with fail
  have hF := hF1; have hA := hA1; have hK := hK1; clear hF1 hA1 hK1
  refine (HR2 _ b lb hA).mono ?_
  rintro e w9 ⟨rfl, hA1, hf⟩
  have hF1 := hF.step hf h2
  have hK1 := hK.kept hf (by rintro (h | h); exact hbk.1 h; exact hbk.2 h)
  clear hA hF hK hf HR2
  go_wp2_with fail
  have hF := hF1; have hA := hA1; have hK := hK1; clear hF1 hA1 hK1
  refine (HK4 _ b lb hA).mono ?_
  rintro e w10 ⟨rfl, hB, hf⟩
  go_wp2_with fail
  have hx := (Fr.refl none_ w10).alloc (.cells #[.int .u64 (u k1.1), .int .u64 (u k1.2)] 56)
  have hF1 := (hF.step hf h2).trans hx
  have hA1 := hB.kept hx (fun f => f) (fun f => f)
  have hK1 := (hK.kept hf (by rintro (h | h); exact hbk.1 h; exact hbk.2 h)).kept hx (fun f => f)
  clear hA hB hf hx hF HK4
  clear hK
  generalize w10.alloc (.cells #[.int .u64 (u k1.1), .int .u64 (u k1.2)] 56) = w11 at *
  have hF := hF1; have hA := hA1; clear hF1 hA1
  have hK := hK1; clear hK1
  refine (HK5 _ b lb hA).mono ?_
  rintro e w12 ⟨rfl, hB, hf⟩
  go_wp2_with fail
  have hx := (Fr.refl none_ w12).alloc (.cells #[.int .u64 (u 0), .int .u64 (u 0)] 56)
  have hF1 := (hF.step hf h2).trans hx
  have hA1 := hB.kept hx (fun f => f) (fun f => f)
  have hK1 := (hK.kept hf (by rintro (h | h); exact hbk.1 h; exact hbk.2 h)).kept hx (fun f => f)
  clear hA hB hf hx hF HK5
  clear hK
  generalize w12.alloc (.cells #[.int .u64 (u 0), .int .u64 (u 0)] 56) = w13 at *
  have hF := hF1; have hA := hA1; clear hF1 hA1
  have hK := hK1; clear hK1
  refine (HK6 _ b lb hA).mono ?_
  rintro e w14 ⟨rfl, hB, hf⟩
  go_wp2_with fail
  have hx := (Fr.refl none_ w14).alloc (.cells #[.int .u64 (u k2.1), .int .u64 (u k2.2)] 56)
  have hF1 := (hF.step hf h2).trans hx
  have hA1 := hB.kept hx (fun f => f) (fun f => f)
  have hK1 := (hK.kept hf (by rintro (h | h); exact hbk.1 h; exact hbk.2 h)).kept hx (fun f => f)
  clear hA hB hf hx hF HK6
  clear hK
  generalize w14.alloc (.cells #[.int .u64 (u k2.1), .int .u64 (u k2.2)] 56) = w15 at *
  have hF := hF1; have hA := hA1; clear hF1 hA1
  have hK := hK1; clear hK1
  refine (HZ _).mono ?_
  rintro e w16 ⟨rfl, hf⟩
  go_wp2_with fail
  have hx := (Fr.refl none_ w16).alloc (.cells #[.int .u64 (u 0), .int .u64 (u 0)] 56)
  have hF1 := (hF.trans hf).trans hx
  have hA1 := (hA.kept hf (fun f => f) (fun f => f)).kept hx (fun f => f) (fun f => f)
  have hK1 := (hK.kept hf (fun f => f)).kept hx (fun f => f)
  clear hA hF hK hf hx HZ
  generalize w16.alloc (.cells #[.int .u64 (u 0), .int .u64 (u 0)] 56) = w0 at *
  have HF := Lib.hid hF1
  have HA := Lib.hid hA1
  have hbkl := hK1.lt
  have HC := Lib.hid (show ∀ w', Fr (two b lb) w0 w' → w'.cell? ⟨bk, 0, none⟩ = some (.int .u64 (u k1.1)) ∧ w'.cell? ⟨bk, 1, none⟩ = some (.int .u64 (u k1.2)) from fun w' hf => by
    have := hK1.kept hf (by rintro (h | h); exact hbk.1 h; exact hbk.2 h)
    exact ⟨this.cell_of rfl, this.cell_of rfl⟩)
  clear hF1 hA1 hK1
  have hg0 : Fr (two b lb) w0 w0.drew := (Fr.refl (two b lb) w0).drew
  have hn0 : Fr none_ w0 w0.drew := (Fr.refl none_ w0).drew
  refine region_tm [4, 37, 42, 47, 52, 57, 62, 70, 75] [] [0, 1, 2, 4, 4, 28, 36, 80, 128, 384, 640, 1152, 2048, 6144, 10240, 18432, 32768, 98304, 163840, 294912, 524288, 1572864, 2621440, 4718592, 8388608, 25165824, 41943040, 75497472, 134217728, 402653184, 671088640, 1207959552, 2147483648, 6442450944, 10737418240, 19327352832, 34359738368, 103079215104, 171798691840, 309237645312, 687194767360, 1099511627776, 3298534883328, 5497558138880, 9895604649984, 21990232555520, 35184372088832, 105553116266496, 175921860444160, 316659348799488, 703687441776640, 1125899906842624, 3377699720527872, 5629499534213120, 10133099161583616, 22517998136852480, 36028797018963968, 108086391056891904, 180143985094819840, 324259173170675712, 720575940379279360, 1152921504606846976, 3458764513820540928, 5764607523034234880, 10376293541461622784, 23058430092136939520, 36893488147419103232, 110680464442257309696, 184467440737095516160, 332041393326771929088, 590295810358705651712, 1770887431076116955136, 2951479051793528258560, 5902958103587056517120, 9444732965739290427392, 28334198897217871282176, 47223664828696452136960, 85002596691653613846528, 302231454903657293676543] [604462909807314587353087, 604462909807314587353086, 604462909807314587353085, 604462909807314587353083, 0, 604462909807314587353059, 604462909807314587353051, 604462909807314587353023, 604462909807314587352959, 604462909807314587352703, 604462909807314587352447, 604462909807314587352063, 604462909807314587351039, 604462909807314587346943, 604462909807314587342847, 604462909807314587336703, 604462909807314587320319, 604462909807314587254783, 604462909807314587189247, 604462909807314587090943, 604462909807314586828799, 604462909807314585780223, 604462909807314584731647, 604462909807314583158783, 604462909807314578964479, 604462909807314562187263, 604462909807314545410047, 604462909807314520244223, 604462909807314453135359, 604462909807314184699903, 604462909807313916264447, 604462909807313513611263, 604462909807312439869439, 604462909807308144902143, 604462909807303849934847, 604462909807297407483903, 604462909807280227614719, 0, 604462909807142788661247, 604462909807005349707775, 604462909806764831539199, 604462909806215075725311, 0, 604462909801817029214207, 604462909797418982703103, 604462909789722401308671, 604462909772130215264255, 0, 604462909631392726908927, 604462909490655238553599, 604462909244364633931775, 604462908681414680510463, 0, 604462904177815053139967, 604462899674215425769471, 604462891792916077871103, 604462873778517568389119, 0, 604462729663329492533247, 604462585548141416677375, 604462333346562283929599, 604461756885809980506111, 0, 604457145199791553118207, 604452533513773125730303, 604444463063240877801471, 604426016319167168249855, 604352229342872330043391, 604278442366577491836927, 604167761902135234527231, 0, 602692022376238470397951, 601511430755521059094527, 599740543324444942139391, 595018176841575296925695, 0, 557239244978618135216127, 519460313115660973506559, 453347182355485940514815] [0, 1, 3, 7, 7, 31, 63, 127, 255, 511, 1023, 2047, 4095, 8191, 16383, 32767, 65535, 131071, 262143, 524287, 1048575, 2097151, 4194303, 8388607, 16777215, 33554431, 67108863, 134217727, 268435455, 536870911, 1073741823, 2147483647, 4294967295, 8589934591, 17179869183, 34359738367, 68719476735, 137438953471, 274877906943, 549755813887, 1099511627775, 2199023255551, 4398046511103, 8796093022207, 17592186044415, 35184372088831, 70368744177663, 140737488355327, 281474976710655, 562949953421311, 1125899906842623, 2251799813685247, 4503599627370495, 9007199254740991, 18014398509481983, 36028797018963967, 72057594037927935, 144115188075855871, 288230376151711743, 576460752303423487, 1152921504606846975, 2305843009213693951, 4611686018427387903, 9223372036854775807, 18446744073709551615, 36893488147419103231, 73786976294838206463, 147573952589676412927, 295147905179352825855, 590295810358705651711, 1180591620717411303423, 2361183241434822606847, 4722366482869645213695, 9444732965739290427391, 18889465931478580854783, 37778931862957161709567, 75557863725914323419135, 151115727451828646838271, 302231454903657293676543] 604462909807314587353087 (.quiet 0 (.quiet 1 (.quiet 2 (.quiet 3 (.alt 4 (.quiet 5 (.quiet 6 (.quiet 7 (.quiet 8 (.quiet 9 (.quiet 10 (.quiet 11 (.quiet 12 (.quiet 13 (.quiet 14 (.quiet 15 (.quiet 16 (.quiet 17 (.quiet 18 (.quiet 19 (.quiet 20 (.quiet 21 (.quiet 22 (.quiet 23 (.quiet 24 (.quiet 25 (.quiet 26 (.quiet 27 (.quiet 28 (.quiet 29 (.quiet 30 (.quiet 31 (.quiet 32 (.quiet 33 (.quiet 34 (.quiet 35 (.quiet 36 (.alt 37 (.quiet 38 (.quiet 39 (.quiet 40 (.quiet 41 (.alt 42 (.quiet 43 (.quiet 44 (.quiet 45 (.quiet 46 (.alt 47 (.quiet 48 (.quiet 49 (.quiet 50 (.quiet 51 (.alt 52 (.quiet 53 (.quiet 54 (.quiet 55 (.quiet 56 (.alt 57 (.quiet 58 (.quiet 59 (.quiet 60 (.quiet 61 (.alt 62 (.quiet 63 (.quiet 64 (.quiet 65 (.quiet 66 (.quiet 67 (.quiet 68 (.quiet 69 (.alt 70 (.quiet 71 (.quiet 72 (.quiet 73 (.quiet 74 (.alt 75 (.quiet 76 (.quiet 77 (.quiet 78 .done))) (.fin)))))) (.fin))))))))) (.fin)))))) (.fin)))))) (.fin)))))) (.fin)))))) (.fin)))))) (.fin)))))))))))))))))))))))))))))))))) (.fin)))))) (fun w' => w'.cell? ⟨bk, 0, none⟩ = some (.int .u64 (u k1.1)) ∧ w'.cell? ⟨bk, 1, none⟩ = some (.int .u64 (u k1.2))) (by as_aux_lemma => kernel_rfl) (by as_aux_lemma => kernel_rfl) (by as_aux_lemma => kernel_rfl) (by as_aux_lemma => kernel_rfl) (by as_aux_lemma => kernel_rfl) (by as_aux_lemma => kernel_rfl) (by as_aux_lemma => kernel_rfl) (by as_aux_lemma => kernel_rfl) (by first | exact HC.out _ hg6 | exact HC.out _ hg5 | exact HC.out _ hg1 | exact HC.out _ hg0) ?_
  repeat' (first
    | (refine t_float (v := ?_) (a' := ?_) rfl rfl rfl ?_ ?_ ?_
       rotate_left 2
       · (intro w' hU; (try dsimp only at hU); go_simp; with_reducible rfl)
       · (simp only [Act.put, List.setIfInBounds_toArray, List.set_cons_zero, List.set_cons_succ]; rfl))
    | (refine t_bound (v := ?_) (a' := ?_) rfl rfl rfl ?_ ?_ ?_
       rotate_left 2
       · (go_simp; with_reducible rfl)
       · (simp only [Act.put, List.setIfInBounds_toArray, List.set_cons_zero, List.set_cons_succ]; rfl))
    | (refine t_skip (a' := ?_) rfl rfl ?_ ?_
       rotate_left 1
       · (simp only [Act.put, List.setIfInBounds_toArray, List.set_cons_zero, List.set_cons_succ]; rfl))
    | exact t_fin
    | (refine t_acts rfl rfl (fun K hK => ?_) ?_
       go_simp; try (go_wp2_with (first | (go_at_call 72; have hq := q70; refine (HZg _).mono ?_; rintro e w' ⟨rfl, rfl⟩) | (go_at_call 63; refine (HX _).mono ?_; rintro e w' ⟨rfl, rfl⟩; have q70 := True.intro) | (go_at_call 68; have hq := q57; refine (HS2 _ b lb ha5.out).mono ?_; clear hq; rintro e w6 ⟨rfl, ha, hf6⟩; have ha6 := Lib.hid ha; have hg6 := hg5.trans hf6; clear ha hf6) | (go_at_call 72; have hq := hg5; refine (HG4 _ b lb ha5.out).mono ?_; clear hq; rintro e w' ⟨rfl, rfl⟩; have q57 := True.intro) | (go_at_call 68; have hq := q47; refine (HS1 _ b lb ha1.out).mono ?_; clear hq; rintro e w5 ⟨rfl, ha, hf5⟩; have ha5 := Lib.hid ha; have hg5 := hg1.trans hf5; clear ha hf5) | (go_at_call 72; have hq := q42; refine (HG3 _ b lb ha1.out).mono ?_; clear hq; rintro e w' ⟨rfl, rfl⟩; have q47 := True.intro) | (go_at_call 73; refine (HG2 _ b lb ha1.out).mono ?_; rintro e w' ⟨rfl, rfl⟩; have q42 := True.intro) | (go_at_call 72; refine (HG1 _ b lb ha1.out).mono ?_; rintro e w' ⟨rfl, rfl⟩; have q37 := True.intro) | (go_at_call 49; refine (HO _).mono ?_; rintro e w2 ⟨rfl, hf1⟩; have hn1 := hn0.trans hf1; have ha1 := Lib.hid (HA.out.kept hn1 (fun f => f) (fun f => f)); have hg1 : Fr (two b lb) w0 w2 := hn1.mono (fun _ _ f => f.elim); clear hn1 hf1)))
       refine hK.out _ _ (by first | exact HC.out _ hg6 | exact HC.out _ hg5 | exact HC.out _ hg1 | exact HC.out _ hg0) ?_
       clear hK K))
  all_goals (refine t_done ?_)
  all_goals
    go_wp2_with fail
    go_ret
    exact ⟨rfl, HF.out.step hg6 h2⟩
end Go.Proofs.Ytandenkoejbloaa
