/- The evaluator's operations that look at no memory, and that they yield what the model's yield. Nothing of the program is named here. No condition. -/
import Derived.Test.YtipdjeemjiimbaaEa
set_option linter.unusedVariables false
set_option linter.unusedSimpArgs false
set_option linter.unnecessarySimpa false
namespace Go.Fw
open Go Go.RowKit

/-! ## Numbers, texts, by program -/
def iLt : Int → Int → Bool
  | .ofNat a, .ofNat b => Nat.blt a b
  | .negSucc a, .negSucc b => Nat.blt b a
  | .negSucc _, .ofNat _ => true
  | .ofNat _, .negSucc _ => false
theorem iLt_eq (a b : Int) : iLt a b = decide (a < b) := by
  have hb : ∀ m n : Nat, Nat.blt m n = decide (m < n) := fun m n => by
    by_cases h : m < n
    · rw [decide_eq_true h]; simp [Nat.blt]; omega
    · rw [decide_eq_false h]
      cases e : Nat.blt m n
      · rfl
      · exact absurd (by simp [Nat.blt] at e; omega) h
  cases a <;> cases b <;> simp only [iLt, hb] <;> (rw [Bool.eq_iff_iff]; simp only [decide_eq_true_iff]; first | omega | (simp; omega) | simp)
def iEq : Int → Int → Bool
  | .ofNat a, .ofNat b => Nat.beq a b
  | .negSucc a, .negSucc b => Nat.beq b a
  | _, _ => false
theorem nbeq (a b : Nat) : Nat.beq a b = decide (a = b) := by
  cases h : Nat.beq a b
  · exact (decide_eq_false fun e => by subst e; simp at h).symm
  · exact (decide_eq_true (Nat.eq_of_beq_eq_true h)).symm
theorem iEq_eq (a b : Int) : iEq a b = decide (a = b) := by
  cases a <;> cases b <;> simp only [iEq, nbeq] <;> (rw [eq_comm, Bool.eq_iff_iff]; simp only [decide_eq_true_iff, Bool.false_eq_true]; first | omega | (simp; done) | (simp [eq_comm]; done) | (simp; omega) | (rw [eq_comm]; simp))
def inK (k : IntKind) (n : Int) : Bool :=
  match k with
  | .i64 => !iLt n (-9223372036854775808) && !iLt 9223372036854775807 n
  | .u64 => !iLt n 0 && !iLt 18446744073709551615 n
  | .u8 => !iLt n 0 && !iLt 255 n
  | _ => false
theorem inK_wrap {k : IntKind} {n : Int} (h : inK k n = true) : k.wrap n = n := by
  cases k <;> simp only [inK, Bool.and_eq_true, Bool.not_eq_true', iLt_eq, decide_eq_false_iff_not, Bool.false_eq_true] at h
  · exact IntWalk.i64_in n (by omega)
  · exact IntWalk.u8_in n (by omega)
  · exact IntWalk.u64_in n (by omega)
def sEq : List UInt8 → List UInt8 → Bool
  | [], [] => true
  | a :: l, b :: m => Nat.beq a.toNat b.toNat && sEq l m
  | _, _ => false
theorem sEq_eq : ∀ a b : List UInt8, sEq a b = decide (a = b)
  | [], [] => by simp [sEq]
  | [], _ :: _ => by simp [sEq]
  | _ :: _, [] => by simp [sEq]
  | a :: l, b :: m => by
    simp only [sEq, nbeq, sEq_eq l m, List.cons.injEq, Bool.decide_and]
    congr 1
    rw [Bool.eq_iff_iff]; simp only [decide_eq_true_iff]
    exact ⟨fun h => UInt8.toNat_inj.1 h, fun h => by rw [h]⟩
def sLt : List UInt8 → List UInt8 → Bool
  | [], [] => false
  | [], _ :: _ => true
  | _ :: _, [] => false
  | a :: l, b :: m => bif Nat.blt a.toNat b.toNat then true else bif Nat.beq a.toNat b.toNat then sLt l m else false
theorem sLt_eq : ∀ a b : List UInt8, sLt a b = Op.bytesLess a b
  | [], [] => rfl
  | [], _ :: _ => rfl
  | _ :: _, [] => rfl
  | a :: l, b :: m => by
    have h1 : Nat.blt a.toNat b.toNat = decide (a < b) := by
      rw [Bool.eq_iff_iff, decide_eq_true_iff, UInt8.lt_iff_toNat_lt]; simp [Nat.blt, Nat.succ_le_iff]
    have h2 : Nat.beq a.toNat b.toNat = (a == b) := by
      rw [nbeq, Bool.eq_iff_iff, decide_eq_true_iff, beq_iff_eq]; exact ⟨fun h => UInt8.toNat_inj.1 h, fun h => by rw [h]⟩
    simp only [sLt, Op.bytesLess, h1, h2, sLt_eq l m]
    cases decide (a < b) <;> cases a == b <;> simp
theorem data_toList (l : List UInt8) : (ByteArray.mk l.toArray).toList = l := by rw [ByteArray.toList_eq]

/-! ## Operands -/
def ofV1 : Value → AV
  | .bool b => .b b
  | .int k n => .i k n
  | .string s => .s s.data.toList
  | .pointer none => .pn
  | .slice none 0 0 => .sn
  | .map none => .mn
  | .nilFunc => .fnn
  | .nilIface => .icn
  | _ => .u
def ofVs : List Value → List AV
  | [] => []
  | v :: l => ofV1 v :: ofVs l
def ofV : Value → AV
  | .agg cs => .agg (ofVs cs.toList)
  | .tuple cs => .tup (ofVs cs.toList)
  | v => ofV1 v
theorem ofV1_ok (V : Vl) (v : Value) : VR V (ofV1 v) v := by
  unfold ofV1
  split <;> simp only [VR]
theorem ofVs_ok (V : Vl) : ∀ l : List Value, VRs V (ofVs l) l
  | [] => VRs.nil
  | v :: l => VRs.cons (ofV1_ok V v) (ofVs_ok V l)
theorem ofV_ok (V : Vl) (v : Value) : VR V (ofV v) v := by
  unfold ofV
  split
  · simp only [VR]; exact ⟨_, ofVs_ok V _, by simp⟩
  · simp only [VR]; exact ⟨_, ofVs_ok V _, by simp⟩
  · exact ofV1_ok V _

def evA (f : Tr AV) : Operand → AV
  | .tmp t => (f.get t).getD .und
  | .const v => ofV v
  | .global _ => .u
  | .func g => .fn (.func g) [] []
def evAs (f : Tr AV) : List Operand → List AV
  | [] => []
  | x :: l => evA f x :: evAs f l

/-- The frame 'a' bears f. -/
structure FA (V : Vl) (n : Nat) (f : Tr AV) (a : Act) : Prop where
  size : a.tmps.size = n
  get : ∀ t, VR V ((f.get t).getD .und) (a.tmps.getD t undef)
section
variable {V V' : Vl} {n : Nat} {f : Tr AV} {a : Act}
theorem FA.mono (h : FA V n f a) (hl : V.le V') : FA V' n f a := ⟨h.size, fun t => (h.get t).mono hl⟩
theorem FA.eval (h : FA V n f a) (x : Operand) : VR V (evA f x) (a.eval x) := by
  cases x with
  | tmp t => exact h.get t
  | const v => exact ofV_ok V v
  | global g => simp only [evA, VR]
  | func g => simp only [evA, VR]; exact ⟨[], [], VRs.nil, VRs.nil, rfl⟩
theorem FA.evals (h : FA V n f a) : ∀ l : List Operand, VRs V (evAs f l) (l.map a.eval)
  | [] => VRs.nil
  | x :: l => VRs.cons (h.eval x) (h.evals l)
theorem FA.put (h : FA V n f a) {d : Nat} (hd : Nat.blt d n = true) {x : AV} {v : Value} (hv : VR V x v) : FA V n (f.set d (some x)) (a.put (some d) v) := by
  have hd' : d < n := by have h1 := hd; simp [Nat.blt] at h1; omega
  refine ⟨by simp [Act.put, h.size], fun t => ?_⟩
  rw [Tr.get_set]
  simp only [Act.put, Array.getD_eq_getD_getElem?, Array.getElem?_setIfInBounds]
  by_cases e : t = d
  · subst e
    simpa [h.size, hd'] using hv
  · have e2 : ¬ d = t := fun x => e x.symm
    simp only [e, e2, if_false]
    rw [← Array.getD_eq_getD_getElem?]
    exact h.get t
theorem FA.put_none (h : FA V n f a) (v : Value) : FA V n f (a.put none v) := ⟨by simp [Act.put, h.size], by simpa [Act.put] using h.get⟩
end

/-! ## Operations without memory -/
def kindA : TypeDesc → AV → Bool
  | .string, .s _ => true
  | .bool, .b _ => true
  | .int k, .i k' _ => decide (k = k')
  | _, _ => false
def kindsA : List TypeDesc → List AV → Bool
  | [], [] => true
  | k :: ks, x :: l => kindA k x && kindsA ks l
  | _, _ => false
def eqL : List AV → List AV → Bool
  | [], [] => true
  | .s a :: l, .s b :: m => sEq a b && eqL l m
  | .i _ a :: l, .i _ b :: m => iEq a b && eqL l m
  | .b a :: l, .b b :: m => (a == b) && eqL l m
  | _, _ => false
def eqCellsA (ks : List TypeDesc) (l m : List AV) : Option Bool := bif kindsA ks l && kindsA ks m then some (eqL l m) else none
theorem kindsA_ok {V : Vl} : ∀ {ks : List TypeDesc} {l : List AV} {vs : List Value}, kindsA ks l = true → VRs V l vs → kindsOk ks vs = true
  | [], [], vs, _, h => by simp only [VRs] at h; subst h; rfl
  | [], _ :: _, _, h, _ => by simp [kindsA] at h
  | _ :: _, [], _, h, _ => by simp [kindsA] at h
  | k :: ks, x :: l, _, h, hv => by
    simp only [VRs] at hv
    obtain ⟨v, t, h1, h2, rfl⟩ := hv
    simp only [kindsA, Bool.and_eq_true] at h
    simp only [kindsOk, Bool.and_eq_true]
    refine ⟨?_, kindsA_ok h.2 h2⟩
    have h3 := h.1
    cases k <;> cases x <;> simp only [kindA, Bool.false_eq_true] at h3 <;> simp only [VR] at h1 <;> subst h1 <;> simp only [kindOk]
    exact h3
theorem eqL_ok {V : Vl} : ∀ {ks : List TypeDesc} {l m : List AV} {vs ws : List Value}, kindsA ks l = true → kindsA ks m = true → VRs V l vs → VRs V m ws → eqCells vs ws = eqL l m
  | [], [], [], vs, ws, _, _, h1, h2 => by simp only [VRs] at h1 h2; subst h1; subst h2; rfl
  | [], _ :: _, _, _, _, h, _, _, _ => by simp [kindsA] at h
  | [], [], _ :: _, _, _, _, h, _, _ => by simp [kindsA] at h
  | _ :: _, [], _, _, _, h, _, _, _ => by simp [kindsA] at h
  | _ :: _, _ :: _, [], _, _, _, h, _, _ => by simp [kindsA] at h
  | k :: ks, x :: l, y :: m, _, _, hx, hy, h1, h2 => by
    simp only [VRs] at h1 h2
    obtain ⟨v, t, h3, h4, rfl⟩ := h1
    obtain ⟨u, t', h5, h6, rfl⟩ := h2
    simp only [kindsA, Bool.and_eq_true] at hx hy
    have ih := eqL_ok hx.2 hy.2 h4 h6
    have h7 := hx.1
    have h8 := hy.1
    cases k <;> cases x <;> simp only [kindA, Bool.false_eq_true] at h7 <;> cases y <;> simp only [kindA, Bool.false_eq_true] at h8 <;> simp only [VR] at h3 h5 <;> subst h3 <;> subst h5 <;> simp only [eqCells, eqL, ih, sEq_eq, iEq_eq]
    · congr 1
    · congr 1; rw [Bool.eq_iff_iff]; simp
theorem eqCellsA_ok {V : Vl} {ks : List TypeDesc} {l m : List AV} {vs ws : List Value} {r : Bool} (h : eqCellsA ks l m = some r) (h1 : VRs V l vs) (h2 : VRs V m ws) :
    kindsOk ks vs = true ∧ kindsOk ks ws = true ∧ eqCells vs ws = r := by
  unfold eqCellsA at h
  cases hk : kindsA ks l && kindsA ks m
  · rw [hk] at h; cases h
  · rw [hk] at h
    simp only [Bool.and_eq_true] at hk
    cases h
    exact ⟨kindsA_ok hk.1 h1, kindsA_ok hk.2 h2, eqL_ok hk.1 hk.2 h1 h2⟩

theorem bif_some {α : Type} {c : Bool} {a b : α} (h : (bif c then some a else none) = some b) : c = true ∧ a = b := by cases c <;> simp_all
/-! ### The model's own operations, where they look at no memory -/
/-- What a piece of the model yields without memory. -/
def quietly {α : Type} (P : Program) : Sem α → Option α
  | .pure a => some a
  | .program k => quietly P (k P)
  | .mark _ k => quietly P k
  | _ => none
theorem quietly_run {α : Type} {P : Program} : ∀ {s : Sem α} {a : α}, quietly P s = some a → ∀ w, s.run P w = .ok a w
  | .pure a, b, h, w => by simp only [quietly, Option.some.injEq] at h; subst h; rfl
  | .program k, b, h, w => by simp only [quietly] at h; simp only [Sem.run]; exact quietly_run h w
  | .mark _ k, b, h, w => by simp only [quietly] at h; simp only [Sem.run]; exact quietly_run h w
  | .load .., _, h, _ => by simp [quietly] at h
  | .store .., _, h, _ => by simp [quietly] at h
  | .new .., _, h, _ => by simp [quietly] at h
  | .shape .., _, h, _ => by simp [quietly] at h
  | .freeze .., _, h, _ => by simp [quietly] at h
  | .frozen .., _, h, _ => by simp [quietly] at h
  | .getObj .., _, h, _ => by simp [quietly] at h
  | .setObj .., _, h, _ => by simp [quietly] at h
  | .choose .., _, h, _ => by simp [quietly] at h
  | .sys .., _, h, _ => by simp [quietly] at h
  | .halt _, _, h, _ => by simp [quietly] at h
/-- A value without memory. -/
def toV : AV → Option Value
  | .b x => some (.bool x)
  | .i k n => some (.int k n)
  | .s l => some (.string ⟨l.toArray⟩)
  | .pn => some (.pointer none)
  | .sn => some (.slice none 0 0)
  | .mn => some (.map none)
  | .fnn => some .nilFunc
  | .icn => some .nilIface
  | _ => none
theorem toV_ok {V : Vl} {x : AV} {v u : Value} (h : toV x = some v) (k : VR V x u) : u = v := by
  cases x <;> simp only [toV, Option.some.injEq, reduceCtorEq] at h <;> subst h <;> simpa only [VR] using k

/-- '==', where no memory tells it. -/
def eqA (P : Program) (t : TypeId) : AV → AV → Option Bool
  | .b x, .b y => match P.underlying t with | some .bool => some (x == y) | _ => none
  | .agg l, .agg m => match fieldKs P t with | some ks => eqCellsA ks l m | none => none
  | .pn, .pn => match P.underlying t with | some (.pointer _) => some true | _ => none
  | .pn, .p _ _ => match P.underlying t with | some (.pointer _) => some false | _ => none
  | .p _ _, .pn => match P.underlying t with | some (.pointer _) => some false | _ => none
  | .sn, .sn => match P.underlying t with | some (.slice _) => some true | _ => none
  | .sn, .sl _ _ _ _ => match P.underlying t with | some (.slice _) => some false | _ => none
  | .sn, .so _ _ _ _ => match P.underlying t with | some (.slice _) => some false | _ => none
  | .sn, .sz => match P.underlying t with | some (.slice _) => some false | _ => none
  | .sl _ _ _ _, .sn => match P.underlying t with | some (.slice _) => some false | _ => none
  | .so _ _ _ _, .sn => match P.underlying t with | some (.slice _) => some false | _ => none
  | .sz, .sn => match P.underlying t with | some (.slice _) => some false | _ => none
  | .mn, .mn => match P.underlying t with | some (.map _ _) => some true | _ => none
  | .mn, .m _ => match P.underlying t with | some (.map _ _) => some false | _ => none
  | .m _, .mn => match P.underlying t with | some (.map _ _) => some false | _ => none
  | .fnn, .fnn => match P.underlying t with | some (.func _ _ _) => some true | _ => none
  | .fnn, .fn _ _ _ => match P.underlying t with | some (.func _ _ _) => some false | _ => none
  | .fn _ _ _, .fnn => match P.underlying t with | some (.func _ _ _) => some false | _ => none
  | .icn, .ic _ _ => match P.underlying t with | some (.interface _) => some false | _ => none
  | .ic _ _, .icn => match P.underlying t with | some (.interface _) => some false | _ => none
  | _, _ => none
structure EqOk (P : Program) (t : TypeId) (v u : Value) (r : Bool) : Prop where
  guard : ∀ (op : BinOp) X Y w, (eqGuard op t X Y v u).run P w = .ok () w
  eql : ∀ w, (binOp .eql t v u).run P w = .ok (.bool r) w
  neq : ∀ w, (binOp .neq t v u).run P w = .ok (.bool (!r)) w
theorem EqOk.mk' {P : Program} {t : TypeId} {v u : Value} {r : Bool} (hg : ∀ (op : BinOp) X Y w, (eqGuard op t X Y v u).run P w = .ok () w) (h : ∀ w, (Op.equal t v u).run P w = .ok r w)
    (h1 : binOp .eql t v u = (do pure (.bool (← Op.equal t v u)))) (h2 : binOp .neq t v u = (do pure (.bool (!(← Op.equal t v u))))) : EqOk P t v u r :=
  ⟨hg, fun w => by rw [h1]; simp [h w], fun w => by rw [h2]; simp [h w]⟩
theorem equal_unfold (t : TypeId) (v u : Value) : Op.equal t v u = Op.equalIn (9999 + 1) t v u := rfl
theorem eqA_ok {P : Program} {t : TypeId} {x y : AV} {r : Bool} {V : Vl} {v u : Value} (h : eqA P t x y = some r) (hv : VR V x v) (hu : VR V y u) : EqOk P t v u r := by
  unfold eqA at h
  split at h
  case h_1 =>
    split at h
    · rename_i hund
      simp only [VR] at hv hu
      subst hv; subst hu
      cases h
      exact .mk' (fun op X Y w => by cases op <;> simp [eqGuard]) (fun w => run_equalB hund _ _ w) rfl rfl
    · cases h
  case h_2 =>
    split at h
    · rename_i ks hks
      simp only [VR] at hv hu
      obtain ⟨vs, hv, rfl⟩ := hv
      obtain ⟨ws, hu, rfl⟩ := hu
      obtain ⟨h1, h2, h3⟩ := eqCellsA_ok h hv hu
      subst h3
      exact .mk' (fun op X Y w => by have := (run_equalA hks h1 h2 w).2; cases op <;> simp [eqGuard, this]) (fun w => (run_equalA hks h1 h2 w).1) rfl rfl
    · cases h
  case h_21 => cases h
  all_goals
    split at h
    · rename_i hund
      simp only [VR] at hv hu
      cases h
      first
        | (subst hv; subst hu)
        | (obtain ⟨_, _, _, rfl⟩ := hv; subst hu)
        | (obtain ⟨_, _, _, rfl⟩ := hu; subst hv)
        | (obtain ⟨_, _, rfl⟩ := hv; subst hu)
        | (obtain ⟨_, _, rfl⟩ := hu; subst hv)
        | (obtain ⟨_, _, _, _, rfl⟩ := hv; subst hu)
        | (obtain ⟨_, _, _, _, rfl⟩ := hu; subst hv)
      refine .mk' (fun op X Y w => by cases op <;> simp [eqGuard]) (fun w => ?_) rfl rfl
      rw [equal_unfold, Op.equalIn]
      simp [run_underlying hund]
    · cases h

def ordI (k : IntKind) (b : BinOp) (m n : Int) : Option AV :=
  match b with
  | .eql => some (.b (iEq m n))
  | .neq => some (.b (!iEq m n))
  | .lss => some (.b (iLt m n))
  | .leq => some (.b (!iLt n m))
  | .gtr => some (.b (iLt n m))
  | .geq => some (.b (!iLt m n))
  | .add => bif inK k (m + n) then some (.i k (m + n)) else none
  | .sub => bif inK k (m - n) then some (.i k (m - n)) else none
  | _ => none
def ordS (b : BinOp) (m n : List UInt8) : Option AV :=
  match b with
  | .eql => some (.b (sEq m n))
  | .neq => some (.b (!sEq m n))
  | .lss => some (.b (sLt m n))
  | .leq => some (.b (sLt m n || sEq m n))
  | .gtr => some (.b (!(sLt m n || sEq m n)))
  | .geq => some (.b (!sLt m n))
  | .add => bif Nat.ble (m.length + n.length) 1000000 then some (.s (m ++ n)) else none
  | _ => none
def orElseA (x : Option AV) (y : Unit → Option AV) : Option AV :=
  match x with
  | some a => some a
  | none => y ()
def binA (P : Program) (b : BinOp) (t : TypeId) (x y : AV) : Option AV :=
  match x, y with
  | .i k m, .i k' n => orElseA (if k = k' then ordI k b m n else none) fun _ => (quietly P (binOp b t (.int k m) (.int k' n))).map ofV1
  | .s m, .s n => ordS b m n
  | .i .i64 0, .oi _ pos => match b with
    | .lss => some (.b pos)
    | _ => none
  | x, y => match b with
    | .eql => (eqA P t x y).map .b
    | .neq => (eqA P t x y).map fun r => .b (!r)
    | _ => none
theorem binA_ok {P : Program} {b : BinOp} {t : TypeId} {x y r : AV} {V : Vl} {v u : Value} (h : binA P b t x y = some r) (hv : VR V x v) (hu : VR V y u) (X Y : Operand) :
    ∃ z, VR V r z ∧ ∀ w, (do eqGuard b t X Y v u; binOp b t v u : Sem Value).run P w = .ok z w := by
  unfold binA at h
  split at h
  · rename_i k m k' n
    simp only [VR] at hv hu
    subst hv; subst hu
    have hg : ∀ w, (eqGuard b t X Y (.int k m) (.int k' n)).run P w = .ok () w := fun w => by cases b <;> simp [eqGuard]
    simp only [orElseA] at h
    split at h
    · rename_i a ha
      cases h
      split at ha
      · rename_i hk
        subst hk
        simp only [Sem.run_bind, hg, Result.andThen_ok]
        cases b <;> simp only [ordI, Option.some.injEq, reduceCtorEq] at ha <;> (try subst ha) <;> (try simp only [iEq_eq, iLt_eq])
        · obtain ⟨hc', rfl⟩ := bif_some ha
          refine ⟨_, (by simp only [VR]; rfl), fun w => ?_⟩
          simp [binOp, Op.intArith, inK_wrap hc']
        · obtain ⟨hc', rfl⟩ := bif_some ha
          refine ⟨_, (by simp only [VR]; rfl), fun w => ?_⟩
          simp [binOp, Op.intArith, inK_wrap hc']
        all_goals
          refine ⟨_, (by simp only [VR]; rfl), fun w => ?_⟩
          simp [binOp, Op.intCmp]
          try (first | rfl | (rw [Bool.eq_iff_iff]; simp; done))
      · cases ha
    · rw [Option.map_eq_some_iff] at h
      obtain ⟨z, h1, rfl⟩ := h
      exact ⟨z, ofV1_ok V z, fun w => by simp [hg, quietly_run h1 w]⟩
  · rename_i m n
    simp only [VR] at hv hu
    subst hv; subst hu
    have hg : ∀ w, (eqGuard b t X Y (.string ⟨m.toArray⟩) (.string ⟨n.toArray⟩)).run P w = .ok () w := fun w => by cases b <;> simp [eqGuard]
    simp only [Sem.run_bind, hg, Result.andThen_ok]
    have he : (m == n) = decide (m = n) := by rw [Bool.eq_iff_iff]; simp
    cases b <;> simp only [ordS, Option.some.injEq, reduceCtorEq] at h <;> (try subst h) <;> (try simp only [sEq_eq, sLt_eq])
    · obtain ⟨hc', rfl⟩ := bif_some h
      refine ⟨_, (by simp only [VR]; rfl), fun w => ?_⟩
      have hc' : m.length + n.length ≤ 1000000 := by simpa using hc'
      have e1 : (ByteArray.mk m.toArray).size = m.length := by simp [ByteArray.size]
      have e2 : (ByteArray.mk n.toArray).size = n.length := by simp [ByteArray.size]
      have h2 : ¬ (((ByteArray.mk m.toArray).size + (ByteArray.mk n.toArray).size : Nat) : Int) > IntKind.i64.max := by
        rw [e1, e2]; simp [IntKind.max, IntKind.bits, IntKind.signed]; omega
      have h3 : ByteArray.mk m.toArray ++ ByteArray.mk n.toArray = ⟨(m ++ n).toArray⟩ := by
        apply ByteArray.ext; simp [ByteArray.data_append]
      simp only [binOp, Op.stringOp]
      rw [if_neg h2, h3]
      rfl
    all_goals
      refine ⟨_, (by simp only [VR]; rfl), fun w => ?_⟩
      simp [binOp, Op.stringOp, data_toList, he]
  · rename_i k pos
    simp only [VR] at hv hu
    obtain ⟨n, _, rfl, rfl⟩ := hu
    subst hv
    split at h
    · cases h
      exact ⟨.bool (decide (0 < n)), by simp only [VR], fun w => by simp [eqGuard, binOp, Op.intCmp]⟩
    · cases h
  · rename_i h1 h2
    split at h
    · rw [Option.map_eq_some_iff] at h
      obtain ⟨r', h, rfl⟩ := h
      have he := eqA_ok h hv hu
      exact ⟨.bool r', by simp only [VR], fun w => by simp [he.guard, he.eql]⟩
    · rw [Option.map_eq_some_iff] at h
      obtain ⟨r', h, rfl⟩ := h
      have he := eqA_ok h hv hu
      exact ⟨.bool (!r'), by simp only [VR], fun w => by simp [he.guard, he.neq]⟩
    · cases h
end Go.Fw
