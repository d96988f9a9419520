/- A text as a word: what quoting gives. Nothing of the program is named here. No condition. -/
import Derived.Test.YthmkpaoolhcibaaDoorOy
set_option linter.unusedVariables false
set_option linter.unusedSimpArgs false
namespace Go.Fw
open Go Go.RowKit

def plainB (c : UInt8) : Bool := decide (97 ≤ c.toNat) && decide (c.toNat ≤ 122) || decide (65 ≤ c.toNat) && decide (c.toNat ≤ 90) || decide (48 ≤ c.toNat) && decide (c.toNat ≤ 57) || decide (c.toNat = 95)
def hexB (n : Nat) : UInt8 := if n < 10 then UInt8.ofNat (48 + n) else UInt8.ofNat (87 + n)
def quoC (c : UInt8) : List UInt8 := if plainB c = true then [c] else [37, hexB (c.toNat / 16), hexB (c.toNat % 16)]
def quoL : List UInt8 → List UInt8
  | [] => []
  | c :: l => quoC c ++ quoL l
theorem quoL_append : ∀ (a b : List UInt8), quoL (a ++ b) = quoL a ++ quoL b
  | [], _ => rfl
  | c :: a, b => by simp [quoL, quoL_append a b]
theorem quoC_len (c : UInt8) : (quoC c).length ≤ 3 := by unfold quoC; split <;> simp
theorem quoC_pos (c : UInt8) : 0 < (quoC c).length := by unfold quoC; split <;> simp
theorem quoL_len : ∀ (l : List UInt8), (quoL l).length ≤ 3 * l.length
  | [] => by simp [quoL]
  | c :: l => by have := quoC_len c; have := quoL_len l; simp [quoL]; omega
theorem quoL_pos : ∀ (l : List UInt8), l ≠ [] → quoL l ≠ []
  | [], h => absurd rfl h
  | c :: l, _ => fun e => by
    have h1 := congrArg List.length e
    have := quoC_pos c
    simp [quoL] at h1
    simp [h1.1] at this
theorem quoL_take {l : List UInt8} {k : Nat} (h : k < l.length) : quoL (l.take (k + 1)) = quoL (l.take k) ++ quoC l[k] := by
  rw [List.take_succ_eq_append_getElem h, quoL_append]
  simp [quoL]
def mkStr (l : List UInt8) : Str := if h : l.length ≤ 140737488355328 then ⟨⟨l.toArray⟩, by simpa [ByteArray.size] using h⟩ else Str.nil
theorem mkStr_b {l : List UInt8} (h : l.length ≤ 140737488355328) : (mkStr l).b = ⟨l.toArray⟩ := by simp [mkStr, h]
theorem mkStr_size {l : List UInt8} (h : l.length ≤ 140737488355328) : (mkStr l).b.size = l.length := by rw [mkStr_b h]; rfl
/-- The bytes of a text. -/
def Str.l (s : Str) : List UInt8 := s.b.data.toList
theorem Str.l_len (s : Str) : s.l.length = s.b.size := Array.length_toList
theorem Str.l_le (s : Str) : s.l.length ≤ 140737488355328 := by rw [s.l_len]; exact s.le
theorem mkStr_l (s : Str) : mkStr s.l = s := Str.ext' (by rw [mkStr_b s.l_le]; simp [Str.l])
theorem Str.get (s : Str) {i : Nat} (h : i < s.b.size) (h2 : i < s.l.length) : s.b[i] = s.l[i] := by
  simp [Str.l]; rfl
theorem W.str2bL {E : Env} {f : Fr} {G : GH} {M : MH} {ops rest : List Oper} {K : Kt} {d : Nat} {ty : TypeId} {pos : String} {aft : Array Edge} {t t' : TypeId} {x : Operand} {te : TypeId} {s : Str} (hs : E.P.underlying t = some .string) (ht : sliceK E.P t' = some te) (he : E.P.underlying te = some (.int .u8)) (hx : ev f x = .string s.b)
    (k : ∀ a c G', Le G G' → SlR eU8 G' (.slice a s.l.length c) s.l → W E ops.toArray false rest (upd f d (.slice a s.l.length c)) G' M K) (hd : Nat.blt d E.n = true := by rfl) :
    W E ops.toArray false (⟨some d, .convert t t' x, ty, pos, aft, none⟩ :: rest) f G M K := W.str2b hs ht he hx k hd
def dashS : Str := ⟨⟨#[45]⟩, by decide⟩
def quoN (s : Str) : Str := if s.l = [] then dashS else mkStr (quoL s.l)
def hexS : Str := ⟨⟨#[48, 49, 50, 51, 52, 53, 54, 55, 56, 57, 97, 98, 99, 100, 101, 102]⟩, by decide⟩
theorem hexS_size : hexS.b.size = 16 := rfl
theorem hexS_at : ∀ (n : Nat) (h : n < hexS.b.size), hexS.b[n] = hexB n := by
  have h : ∀ n : Fin 16, hexS.b[n.val]'(by rw [hexS_size]; exact n.isLt) = hexB n.val := by decide +kernel
  exact fun n hn => h ⟨n, by rw [hexS_size] at hn; exact hn⟩
theorem hexS_cut : ∀ (n : Nat), n < 16 → (hexS.cut n (n + 1)).b = ⟨#[hexB n]⟩ := by
  have h : ∀ n : Fin 16, (hexS.cut n.val (n.val + 1)).b.data = #[hexB n.val] := by decide +kernel
  exact fun n hn => ByteArray.ext (h ⟨n, hn⟩)
theorem Str.cut1 (s : Str) {k : Nat} (h : k < s.l.length) : (s.cut k (k + 1)).b = ⟨#[s.l[k]]⟩ := by
  apply ByteArray.ext
  show (s.b.extract k (k + 1)).data = _
  rw [ByteArray.data_extract]
  apply Array.toList_inj.1
  simp only [Array.toList_extract, List.extract, Nat.add_sub_cancel_left]
  have h2 : k < s.b.data.toList.length := h
  rw [List.drop_eq_getElem_cons h2]
  rfl
theorem b_add {a b : List UInt8} : (⟨a.toArray⟩ : ByteArray) ++ ⟨b.toArray⟩ = ⟨(a ++ b).toArray⟩ := by
  apply ByteArray.ext
  rw [ByteArray.data_append]
  simp
theorem quoC_t {c : UInt8} (h : plainB c = true) : quoC c = [c] := by simp [quoC, h]
theorem quoC_f {c : UInt8} (h : plainB c = false) : quoC c = [37, hexB (c.toNat / 16), hexB (c.toNat % 16)] := by simp [quoC, h]
/-- One byte more, by definition. -/
theorem quo_st {a : List UInt8} {s : Str} {k : Nat} (h : k < s.l.length) (hl : a.length + 3 ≤ 140737488355328) (hp : plainB s.l[k] = true) : (mkStr a).b ++ (s.cut k (k + 1)).b = (mkStr (a ++ quoC s.l[k])).b := by
  rw [quoC_t hp, s.cut1 h, mkStr_b (by omega), mkStr_b (by simp; omega), ← b_add]
theorem quo_sf {a : List UInt8} {c : UInt8} (hl : a.length + 3 ≤ 140737488355328) (hp : plainB c = false) :
    (mkStr a).b ++ ((⟨#[37]⟩ ++ (hexS.cut (c.toNat / 16) (c.toNat / 16 + 1)).b) ++ (hexS.cut (c.toNat % 16) (c.toNat % 16 + 1)).b) = (mkStr (a ++ quoC c)).b := by
  have h0 : c.toNat < 256 := c.toNat_lt
  rw [quoC_f hp, hexS_cut _ (by omega), hexS_cut _ (by omega), mkStr_b (by omega), mkStr_b (by simp; omega), ← b_add]
  rfl

/-! ### A strings.Builder -/
/-- A strings.Builder of the call's own, that holds these bytes. -/
def BuR (TB T8 : TypeId) (b : Nat) (G : GH) (l : List UInt8) (M : MH) : Prop :=
  ∃ p v Ms, (p = Value.pointer none ∨ p = .pointer (some ⟨b, 0, none⟩)) ∧ OwnR eU8 T8 G v l Ms ∧ M = (b, .cells (List.toArray [p, v]) TB (0, 0)) :: Ms
theorem BuR.mono {TB T8 : TypeId} {b : Nat} {G G' : GH} {l : List UInt8} {M : MH} (hl : Le G G') (h : BuR TB T8 b G l M) : BuR TB T8 b G' l M := by
  obtain ⟨p, v, Ms, h1, h2, h3⟩ := h
  exact ⟨p, v, Ms, h1, h2.mono hl, h3⟩
theorem BuR.new {TB T8 : TypeId} {b : Nat} {G : GH} : BuR TB T8 b G [] [(b, .cells (List.toArray [.pointer none, .slice none 0 0]) TB (0, 0))] := ⟨_, _, [], .inl rfl, OwnR.nil, rfl⟩
theorem BuR.used {TB T8 : TypeId} {b : Nat} {G : GH} {v : Value} {l : List UInt8} {Ms : MH} (h : OwnR eU8 T8 G v l Ms) : BuR TB T8 b G l ((b, .cells (List.toArray [.pointer (some ⟨b, 0, none⟩), v]) TB (0, 0)) :: Ms) := ⟨_, _, Ms, .inr rfl, h, rfl⟩
end Go.Fw
