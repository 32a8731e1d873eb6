/- Strings as lists of bytes, and conversions. Plain: over any program. -/
import Derived.Test.YtandenkoejbloaaWords
import Derived.Test.YtandenkoejbloaaApp
import Derived.Laws.IdiomStrings
import Derived.Laws.MakeOwn
namespace Go.Proofs.Ytandenkoejbloaa
open Go Go.RowKit

/-- The string of some bytes. -/
def bs (l : List UInt8) : ByteArray := ⟨l.toArray⟩
theorem bs_size (l : List UInt8) : (bs l).size = l.length := by simp [bs, ByteArray.size]
theorem bs_data (l : List UInt8) : (bs l).data.toList = l := by simp [bs]
theorem bs_of (s : ByteArray) : bs s.data.toList = s := by cases s; simp [bs]
theorem bs_append (a b : List UInt8) : bs a ++ bs b = bs (a ++ b) := by
  unfold bs; apply ByteArray.ext; simp [ByteArray.data_append]
theorem loop_eq (s : ByteArray) : ∀ (n i : Nat) (r : List UInt8), s.size - i = n → ByteArray.toList.loop s i r = r.reverse ++ s.data.toList.drop i
  | 0, i, r, h => by
    rw [ByteArray.toList.loop]
    have : ¬ i < s.size := by omega
    rw [if_neg this, List.drop_eq_nil_of_le (by simpa using Nat.le_of_not_lt this), List.append_nil]
  | n + 1, i, r, h => by
    have hi : i < s.size := by omega
    rw [ByteArray.toList.loop, if_pos hi, loop_eq s n (i + 1) _ (by omega)]
    have hi' : i < s.data.toList.length := by simpa using hi
    rw [List.drop_eq_getElem_cons hi', List.reverse_cons, List.append_assoc]
    congr 2
    simp [ByteArray.get!, hi]
theorem toList_eq (s : ByteArray) : s.toList = s.data.toList := by
  rw [ByteArray.toList, loop_eq s _ 0 [] rfl]; rfl
theorem bs_toList (l : List UInt8) : (bs l).toList = l := by rw [toList_eq, bs_data]
theorem bs_inj {a b : List UInt8} (h : bs a = bs b) : a = b := by rw [← bs_data a, h, bs_data]

section
variable {P : Program} {w : World}
/-- 'string(b)'. -/
theorem run_str_of_rd {src dst e : TypeId} (hs : P.underlying src = some (.slice e)) (he : P.underlying e = some (.int .u8)) (hd : P.underlying dst = some .string) {v : Value} {l : List UInt8} (h : Rd w v (l.map bv)) :
    (convert src dst v).run P w = .ok (.string (bs l)) w := by
  obtain ⟨ao, cap, rfl, _, _, hc⟩ := h
  rw [List.length_map]
  cases ao with
  | none =>
    cases l with
    | nil => exact (run_convert_bytes_string w src dst e none 0 cap hs he hd).trans rfl
    | cons x r => obtain ⟨_, _, h, _⟩ := hc 0 (bv x) rfl; cases h
  | some a =>
    refine run_convert_bytes_back w src dst e a cap l hs he hd (fun j hj => ?_)
    obtain ⟨b, o, e1, _, e2⟩ := hc j (bv l[j]) (by simp [List.getElem?_eq_getElem hj])
    cases e1
    rw [Addr.add_lit, e2]; rfl
end

/-- '+' on strings. -/
theorem str_add (a b : List UInt8) (h : a.length + b.length ≤ 4611686018427387904) : Op.stringOp .add (bs a) (bs b) = pure (.string (bs (a ++ b))) := by
  have h2 : ¬ (((bs a).size + (bs b).size : Nat) : Int) > IntKind.i64.max := by
    rw [bs_size, bs_size]
    have : IntKind.i64.max = 9223372036854775807 := by decide
    omega
  simp only [Op.stringOp]
  rw [if_neg h2, bs_append]

theorem madeCells_one (z : Value) (hc : z.cells = #[z]) (n : Nat) : madeCells z.cells n = (List.replicate n z).toArray := by
  unfold madeCells
  rw [hc]
  apply Array.ext
  · simp
  · intro i h1 h2; simp [Nat.mod_one]

/-- 'make([]T, n)', elements of one cell. -/
theorem wp_make_b {P : Program} (w : World) {o : Oper} {a : Act} {K : Act → World → Prop} {Q : Exit → Act → World → Prop} (l c : Operand) (t : TypeId) (hop : o.op = Op.makeSlice t l c)
    (base : Nat) (e : TypeId) (i : TypeInfo) (z : Value) (h1 : P.underlying t = some (.slice e)) (h2 : P.info? e = some i) (h3 : i.zero = some z) (h4 : i.size = 1) (hc : z.cells = #[z])
    (kl kc : IntKind) (ml mc : Int) (n : Nat) (hl : a.eval l = .int kl ml) (hcc : a.eval c = .int kc mc) (hml : ml = (n : Int)) (hmc : mc = (n : Int)) (hb : (i.bytes : Int) * n ≤ 281474976710656) (hm : n ≤ 9223372036854775807) (hbase : base ≤ w.heap.size)
    (hK : ∀ v' w', Own w' base e v' (List.replicate n z) → Fr none_ w w' → (∀ k, v'.ownBlock = some k → w.heap.size ≤ k) → K (a.put o.dst v') w') : o.wp P a w K Q := by
  subst hml; subst hmc
  have hr := run_make (P := P) w t e i z h1 h2 h3 kl kc n n (by omega) (Int.le_refl _) hb (by omega)
  rw [Int.toNat_natCast, h4, Nat.mul_one, madeCells_one z hc] at hr
  unfold Oper.wp
  simp only [execOp, hop, hl, hcc, Sem.run_bind, hr, Result.andThen]
  refine hK _ _ ?_ ((Fr.refl none_ w).alloc _) (fun k hk => ?_)
  · have := own_made w (List.replicate n z) e (by simp [maxLen]; omega) base hbase
    rw [List.length_replicate] at this
    exact this
  · simp [Value.ownBlock] at hk; omega

/-- 'string(b)' at the operation. -/
theorem wp_str {P : Program} (w : World) {o : Oper} {a : Act} {K : Act → World → Prop} {Q : Exit → Act → World → Prop} (x : Operand) (src dst e : TypeId) (hop : o.op = Op.convert src dst x)
    (hs : P.underlying src = some (.slice e)) (he : P.underlying e = some (.int .u8)) (hd : P.underlying dst = some .string) (v : Value) (l : List UInt8) (hx : a.eval x = v) (h : Rd w v (l.map bv))
    (hK : K (a.put o.dst (.string (bs l))) w) : o.wp P a w K Q := by
  unfold Oper.wp
  simp only [execOp, hop, hx, Sem.run_bind, run_str_of_rd hs he hd h, Result.andThen]
  exact hK
end Go.Proofs.Ytandenkoejbloaa
