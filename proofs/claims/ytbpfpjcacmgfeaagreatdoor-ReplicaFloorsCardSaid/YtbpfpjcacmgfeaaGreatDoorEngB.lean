/- An evaluator of the model's code over an abstract heap, and its soundness, part 2 of 3; no condition. -/
import Derived.Test.YtbpfpjcacmgfeaaGreatDoorEngA
import Derived.ChangeKeysEq
import GoSem.Instr.MapUpdate
import Derived.Laws.Cells
import Derived.MapKept
import Derived.Laws.BytesString
import Derived.Laws.Append
import Derived.Laws.CopyRow
set_option linter.unusedVariables false
set_option linter.unusedSimpArgs false
namespace Go.SE
/-! # Comparison cell by cell -/
def cellIs : CK → Value → Value → Option Bool
  | .b, .bool a, .bool b => some (a == b)
  | .i k, .int k1 a, .int k2 b => if k1 = k ∧ k2 = k then some (a == b) else none
  | .s, .string a, .string b => some (a == b)
  | _, _, _ => none
def seqEq : List CK → List Value → List Value → Option Bool
  | [], [], [] => some true
  | k :: ks, a :: x, b :: y => match cellIs k a b with
    | some true => seqEq ks x y
    | some false => some false
    | none => none
  | _, _, _ => none
theorem bbeq (a b : ByteArray) : (a == b) = (a.data.toList == b.data.toList) := by rw [beq_toListBytes, ByteArray.toList_eq, ByteArray.toList_eq]
theorem bbeq_eq {a b : ByteArray} : (a == b) = true ↔ a = b := by
  rw [bbeq]
  constructor
  · intro h
    have h := eq_of_beq h
    apply ByteArray.ext
    exact Array.ext' h
  · intro h; rw [h]; simp
def thenEq (ca cb : Option Bool) : Option Bool := match ca with | some true => cb | some false => some false | none => none
theorem seqEq_append : ∀ (k1 k2 : List CK) (u1 u2 v1 v2 : List Value), u1.length = k1.length → v1.length = k1.length →
    seqEq (k1 ++ k2) (u1 ++ u2) (v1 ++ v2) = thenEq (seqEq k1 u1 v1) (seqEq k2 u2 v2)
  | [], k2, [], u2, [], v2, _, _ => by simp [seqEq, thenEq]
  | k :: k1, k2, a :: u1, u2, b :: v1, v2, h1, h2 => by
    simp only [List.cons_append, seqEq]
    cases cellIs k a b with
    | none => rfl
    | some c =>
      cases c
      · rfl
      · exact seqEq_append k1 k2 u1 u2 v1 v2 (by simpa using h1) (by simpa using h2)
theorem seqEq_len : ∀ {ks : List CK} {us vs : List Value}, seqEq ks us vs = some true → us = vs ∧ us.length = ks.length
  | [], [], [], _ => ⟨rfl, rfl⟩
  | k :: ks, a :: us, b :: vs, h => by
    simp only [seqEq] at h
    split at h
    · rename_i hc
      obtain ⟨h1, h2⟩ := seqEq_len h
      have : a = b := by
        unfold cellIs at hc
        split at hc
        · simp at hc; rw [hc]
        · split at hc
          · rename_i hk; simp at hc; rw [hk.1, hk.2, hc]
          · cases hc
        · simp only [Option.some.injEq] at hc; rw [bbeq_eq.1 hc]
        · cases hc
      exact ⟨by rw [this, h1], by simp [h2]⟩
    · cases h
    · cases h
  | [], _ :: _, _, h => by simp [seqEq] at h
  | [], [], _ :: _, h => by simp [seqEq] at h
  | _ :: _, [], _, h => by simp [seqEq] at h
  | _ :: _, _ :: _, [], h => by simp [seqEq] at h
theorem seqEq_ne : ∀ {ks : List CK} {us vs : List Value}, seqEq ks us vs = some false → us ≠ vs
  | k :: ks, a :: us, b :: vs, h => by
    simp only [seqEq] at h
    split at h
    · have := seqEq_ne h
      simp only [ne_eq, List.cons.injEq, not_and]
      exact fun _ => this
    · rename_i hc
      have : a ≠ b := by
        unfold cellIs at hc
        split at hc
        · simp at hc; simpa using hc
        · split at hc
          · simp at hc; simp [hc]
          · cases hc
        · simp only [Option.some.injEq] at hc; intro hh; cases hh
          rw [bbeq_eq.2 rfl] at hc; cases hc
        · cases hc
      simp [this]
    · cases h
  | [], [], [], h => by simp [seqEq] at h
  | [], _ :: _, _, h => by simp [seqEq] at h
  | [], [], _ :: _, h => by simp [seqEq] at h
  | _ :: _, [], _, h => by simp [seqEq] at h
  | _ :: _, _ :: _, [], h => by simp [seqEq] at h
/-- what is sure of a comparison -/
def Sure (ro : Option Bool) (c : Option Bool) : Prop := ∃ r', c = some r' ∧ ∀ r, ro = some r → r' = r
section
variable {E : Env} {ρ : Ren} (hE : EnvOK E ρ)
include hE
theorem bytesEq_spec : ∀ {l l' : List IE} {bs bs' : List UInt8} {r : Bool}, SR ρ l bs → SR ρ l' bs' → bytesEq E l l' = some r → r = (bs == bs')
  | [], [], [], [], r, _, _, h => by simp [bytesEq] at h; subst h; rfl
  | [], _ :: _, [], _ :: _, r, _, _, h => by simp [bytesEq] at h; subst h; rfl
  | _ :: _, [], _ :: _, [], r, _, _, h => by simp [bytesEq] at h; subst h; rfl
  | a :: l, b :: l', c :: bs, d :: bs', r, ⟨h1, h2⟩, ⟨h3, h4⟩, h => by
    simp only [bytesEq, and3] at h
    have key : ∀ q, a.eq? E b = some q → q = (c == d) := fun q hq => by
      rw [IE.eq?_spec hE h1 h3 hq, Bool.eq_iff_iff]
      simp only [decide_eq_true_eq, beq_iff_eq]
      constructor
      · intro hh; exact UInt8.toNat_inj.1 (by exact_mod_cast hh)
      · intro hh; rw [hh]
    have ih := fun q => bytesEq_spec (r := q) h2 h4
    simp only [List.cons_beq_cons]
    split at h
    · rename_i hq
      rw [← key _ hq, ← ih _ h]; rfl
    · rename_i hq
      rw [← key _ hq]; cases h; rfl
    · split at h
      · rename_i hq
        rw [← ih _ hq]; cases h; simp
      · cases h
theorem ceq_spec {k : CK} {x y : V} {u u' : Value} {ro : Option Bool} (hx : VR ρ x u) (hy : VR ρ y u') (h : ceq E k x y = some ro) : Sure ro (cellIs k u u') := by
  unfold ceq at h
  split at h
  · rename_i k k1 x k2 y
    rw [bite_eq] at h
    split at h
    · rename_i hk
      simp only [Bool.and_eq_true, keq_iff] at hk
      obtain ⟨n, hn, rfl⟩ := hx
      obtain ⟨m, hm, rfl⟩ := hy
      simp only [Option.some.injEq] at h
      refine ⟨n == m, by simp [cellIs, hk.1, ← hk.2], fun r hr => ?_⟩
      rw [hr] at h
      rw [IE.eq?_spec hE hn hm h]
      rfl
    · cases h
  · cases h
    cases hx
    cases hy
    exact ⟨_, rfl, fun r hr => by cases hr; rfl⟩
  · cases h
    obtain ⟨bs, hb, rfl⟩ := hx
    obtain ⟨bs', hb', rfl⟩ := hy
    refine ⟨_, rfl, fun r hr => ?_⟩
    rw [bytesEq_spec hE hb hb' hr, bbeq]
  · cases h
omit hE in
theorem and4_spec {a b : Option (Option Bool)} {ca cb : Option Bool} {ro : Option Bool} (ha : ∀ q, a = some q → Sure q ca) (hb : ∀ q, b = some q → Sure q cb) (h : and4 a b = some ro) :
    Sure ro (thenEq ca cb) := by
  unfold and4 at h
  split at h
  · cases h
  · obtain ⟨r', h1, h2⟩ := ha _ rfl
    have := h2 true rfl
    subst this
    rw [h1]
    exact hb _ h
  · obtain ⟨r', h1, h2⟩ := ha _ rfl
    have := h2 false rfl
    subst this
    rw [h1]
    cases h
    exact ⟨false, rfl, fun r hr => by cases hr; rfl⟩
  · obtain ⟨r', h1, h2⟩ := ha _ rfl
    rw [h1]
    split at h
    · cases h
    · obtain ⟨s', h3, h4⟩ := hb _ rfl
      have := h4 false rfl
      subst this
      cases h
      cases r'
      · exact ⟨false, rfl, fun r hr => by cases hr; rfl⟩
      · exact ⟨false, h3, fun r hr => by cases hr; rfl⟩
    · obtain ⟨s', h3, h4⟩ := hb _ rfl
      cases h
      cases r'
      · exact ⟨false, rfl, fun r hr => by cases hr⟩
      · exact ⟨s', h3, fun r hr => by cases hr⟩
theorem cseq_spec : ∀ {ks : List CK} {xs ys : List V} {us vs : List Value} {ro : Option Bool}, LR ρ xs us → LR ρ ys vs → cseq E ks xs ys = some ro → Sure ro (seqEq ks us vs)
  | [], [], [], us, vs, ro, h1, h2, h => by
    rw [show us = [] from h1, show vs = [] from h2]
    simp [cseq] at h; subst h
    exact ⟨true, rfl, fun r hr => by cases hr; rfl⟩
  | k :: ks, x :: xs, y :: ys, us, vs, ro, h1, h2, h => by
    obtain ⟨u, us', h3, h4, rfl⟩ := h1
    obtain ⟨v, vs', h5, h6, rfl⟩ := h2
    simp only [cseq] at h
    exact and4_spec (fun q hq => ceq_spec hE h3 h5 hq) (fun q hq => cseq_spec h4 h6 hq) h
  | [], _ :: _, _, _, _, _, _, _, h => by simp [cseq] at h
  | [], [], _ :: _, _, _, _, _, _, h => by simp [cseq] at h
  | _ :: _, [], _, _, _, _, _, _, h => by simp [cseq] at h
  | _ :: _, _ :: _, [], _, _, _, _, _, h => by simp [cseq] at h
theorem req_spec : ∀ {K : CR CK} {x y : CR V} {us vs : List Value} {ro : Option Bool}, K.wf → CRR ρ x us → CRR ρ y vs → req E K x y = some ro → Sure ro (seqEq K.toL us vs) := by
  have gen : ∀ {K : CR CK} {x y : CR V} {us vs : List Value} {ro : Option Bool}, CRR ρ x us → CRR ρ y vs → cseq E K.toL x.toL y.toL = some ro → Sure ro (seqEq K.toL us vs) :=
    fun h1 h2 h => cseq_spec hE (CRR_iff.1 h1).2 (CRR_iff.1 h2).2 h
  intro K
  induction K with
  | nil => intro x y us vs ro _ h1 h2 h; exact gen h1 h2 (by cases x <;> cases y <;> exact h)
  | one k =>
    intro x y us vs ro _ h1 h2 h
    cases x with
    | one a =>
      cases y with
      | one b =>
        obtain ⟨u, h3, rfl⟩ := h1
        obtain ⟨v, h4, rfl⟩ := h2
        have := ceq_spec hE h3 h4 h
        obtain ⟨r', h5, h6⟩ := this
        refine ⟨r', ?_, h6⟩
        simp only [CR.toL, seqEq, h5]
        cases r' <;> rfl
      | nil => exact gen h1 h2 h
      | nd _ _ _ _ => exact gen h1 h2 h
    | nil => exact gen h1 h2 h
    | nd _ _ _ _ => exact gen h1 h2 h
  | nd t n l r ihl ihr =>
    intro x y us vs ro hw h1 h2 h
    cases x with
    | nil => exact gen h1 h2 h
    | one _ => exact gen h1 h2 h
    | nd t1 n1 l1 r1 =>
      cases y with
      | nil => exact gen h1 h2 h
      | one _ => exact gen h1 h2 h
      | nd t2 n2 l2 r2 =>
        simp only [req, bite_eq] at h
        split at h
        · rename_i hn
          simp only [Bool.and_eq_true] at hn
          have e1 := beqT hn.1
          have e2 := beqT hn.2
          obtain ⟨a, b, h3, h4, rfl, h5, _⟩ := h1
          obtain ⟨c, d, h6, h7, rfl, h8, _⟩ := h2
          obtain ⟨w1, w2, w3, _⟩ := hw
          simp only [CR.toL]
          rw [seqEq_append _ _ _ _ _ _ (by rw [← w3, e1, h5]) (by rw [← w3, e2, h8])]
          exact and4_spec (fun q hq => ihl w1 h3 h6 hq) (fun q hq => ihr w2 h4 h7 hq) h
        · exact gen h1 h2 h
omit hE in
theorem sure_eq {x : Option (Option Bool)} {r : Bool} (h : sure x = some r) : x = some (some r) := by
  unfold sure at h
  split at h
  · rw [h]
  · cases h
omit hE in
theorem notAg {x : V} {u : Value} (h : VR ρ x u) (hx : ∀ c, x ≠ .ag c) : ∀ c, u ≠ .agg c := by
  cases x <;> simp only [VR] at h <;> first
    | (rw [h]; simp; done)
    | exact absurd rfl (hx _)
    | (obtain ⟨_, _, h⟩ := h; rw [h]; simp; done)
    | (obtain ⟨_, _, _, _, h⟩ := h; rw [h]; simp; done)
    | (obtain ⟨_, _, _, _, _, h⟩ := h; rw [h]; simp; done)
theorem veq_spec {K : CR CK} (hw : K.wf) {x y : V} {u u' : Value} {r : Bool} (hx : VR ρ x u) (hy : VR ρ y u') (h : veq E K x y = some r) :
    ∃ us us', us.length = K.toL.length ∧ us'.length = K.toL.length ∧ seqEq K.toL us us' = some r ∧ Holds (!isOne K) us u ∧ Holds (!isOne K) us' u' ∧
      (∀ k, K = .one k → cellIs k u u' = some r) := by
  unfold veq at h
  split at h
  · rename_i k
    have h' : sure (ceq E k x y) = some r := by
      split at h
      · cases h
      · cases h
      · exact h
    obtain ⟨r', h3, h4⟩ := ceq_spec hE hx hy (sure_eq h')
    have := h4 r rfl
    subst this
    refine ⟨[u], [u'], rfl, rfl, ?_, rfl, rfl, fun k' hk => by cases hk; exact h3⟩
    simp only [CR.toL, seqEq, h3]
    cases r' <;> rfl
  · rename_i hK
    split at h
    · rename_i x y
      rw [bite_eq] at h
      split at h
      · rename_i hl
        simp only [Bool.and_eq_true] at hl
        obtain ⟨us, h1, rfl⟩ := hx
        obtain ⟨vs, h2, rfl⟩ := hy
        obtain ⟨r', h3, h4⟩ := req_spec hE hw h1 h2 (sure_eq h)
        have := h4 r rfl
        subst this
        have w1 := CRR_iff.1 h1
        have w2 := CRR_iff.1 h2
        have l1 := beqT hl.1
        have l2 := beqT hl.2
        rw [CR.len_eq w1.1, CR.len_eq hw, ← w1.2.length] at l1
        rw [CR.len_eq w2.1, CR.len_eq hw, ← w2.2.length] at l2
        have e : isOne K = false := by cases K <;> first | rfl | exact absurd rfl (hK _)
        exact ⟨us, vs, l1, l2, h3, by rw [e]; rfl, by rw [e]; rfl, fun k hk => absurd hk (hK k)⟩
      · cases h
    · cases h
end
/-! # Types of such cells -/
def kindsF (f : Nat → Option (List CK)) (P : Program) : List Field → Nat → Option (List CK)
  | [], _ => some []
  | fd :: r, off => match f fd.type with
    | some l => if fd.name ≠ "_" ∧ fd.offset = off then (match kindsF f P r (off + l.length) with | some r => some (l ++ r) | none => none) else none
    | none => none
def kindsL (P : Program) : Nat → Nat → Option (List CK)
  | 0, _ => none
  | d + 1, t => match P.underlying t with
    | some .bool => some [.b]
    | some (.int k) => some [.i k]
    | some .string => some [.s]
    | some (.struct fields) => if P.stoodInHeld t then none else match kindsF (kindsL P d) P fields.toList 0 with
      | some l => if P.cellsOf t = l.length then some l else none
      | none => none
    | some (.array n e) => match kindsL P d e with
      | some l => if P.cellsOf e = l.length ∧ P.cellsOf t = n * l.length then some (List.replicate n l).flatten else none
      | none => none
    | _ => none
def aggD : TypeDesc → Bool | .struct _ => true | .array _ _ => true | _ => false
def aggT (P : Program) (t : Nat) : Bool := match P.underlying t with | some d => aggD d | none => false
section
variable {P : Program}
theorem kindsL_info {d t : Nat} {ks : List CK} (h : kindsL P d t = some ks) : ∃ i, P.info? t = some i := by
  cases d with
  | zero => simp [kindsL] at h
  | succ d =>
    simp only [kindsL] at h
    cases hu : P.underlying t with
    | none => simp [hu] at h
    | some x => exact info_of_underlying hu
theorem kindsL_cells {d t : Nat} {ks : List CK} (h : kindsL P d t = some ks) : if aggT P t then P.cellsOf t = ks.length else ks.length = 1 := by
  cases d with
  | zero => simp [kindsL] at h
  | succ d =>
    simp only [kindsL] at h
    unfold aggT
    cases hu : P.underlying t with
    | none => simp [hu] at h
    | some x =>
      rw [hu] at h
      cases x <;> simp only [reduceCtorEq, Option.some.injEq] at h
      case bool => subst h; simp [aggD]
      case int => subst h; simp [aggD]
      case string => subst h; simp [aggD]
      case struct fields =>
        split at h
        · cases h
        · split at h
          · split at h
            · cases h; simpa [aggD]
            · cases h
          · cases h
      case array n e =>
        split at h
        · split at h
          · rename_i hh; cases h
            simp only [aggD, if_true]
            rw [hh.2]; simp
          · cases h
        · cases h
theorem run_part_kinds {d t : Nat} {l : List CK} (h : kindsL P d t = some l) (cs : Array Value) (off : Nat) (hl : off + l.length ≤ cs.size) (w : World) :
    ∃ x, (part t cs off).run P w = .ok x w ∧ Holds (aggT P t) ((cs.toList.drop off).take l.length) x := by
  have hc := kindsL_cells h
  obtain ⟨i, hi⟩ := kindsL_info h
  obtain ⟨des, hu⟩ : ∃ x, P.underlying t = some x := by
    cases d with
    | zero => simp [kindsL] at h
    | succ d =>
      simp only [kindsL] at h
      cases hu : P.underlying t with
      | none => simp [hu] at h
      | some x => exact ⟨x, rfl⟩
  have hA : (isAgg t).run P w = .ok (aggT P t) w := by
    unfold isAgg aggT
    simp only [Sem.run_bind, run_underlying hu, Result.andThen_ok, hu]
    cases des <;> rfl
  cases hagg : aggT P t with
  | true =>
    rw [hagg, if_pos rfl] at hc
    refine ⟨.agg (cs.extract off (off + P.cellsOf t)), ?_, ?_⟩
    · simp [part, hA, hagg, run_sizeOf w hi]
    · simp only [Holds, if_true]
      congr 1
      rw [hc]
      apply Array.ext'
      simp [List.extract_eq_take_drop]
  | false =>
    rw [hagg] at hc
    simp only [Bool.false_eq_true, if_false] at hc
    have hlt : off < cs.size := by omega
    refine ⟨cs[off], ?_, ?_⟩
    · simp [part, hA, hagg, hlt]
    · simp only [Holds, Bool.false_eq_true, if_false, hc]
      rw [List.drop_eq_getElem_cons (by simpa using hlt)]
      simp
def EqK (P : Program) (n t : Nat) (ks : List CK) : Prop :=
  ∀ (w : World) (us us' : List Value) (x x' : Value) (r : Bool), us.length = ks.length → us'.length = ks.length → Holds (aggT P t) us x → Holds (aggT P t) us' x' → seqEq ks us us' = some r →
    (Op.equalIn n t x x').run P w = .ok r w
def CheckK (P : Program) (em : Bool) (n t : Nat) (ks : List CK) : Prop :=
  ∀ (w : World) (us : List Value) (x : Value), us.length = ks.length → Holds (aggT P t) us x → (Instr.checkKey em n t x).run P w = .ok () w
theorem seqEq_split {k1 k2 : List CK} {us vs : List Value} {r : Bool} (h1 : us.length = (k1 ++ k2).length) (h2 : vs.length = (k1 ++ k2).length) (h : seqEq (k1 ++ k2) us vs = some r) :
    (seqEq k1 (us.take k1.length) (vs.take k1.length) = some false ∧ r = false) ∨ (seqEq k1 (us.take k1.length) (vs.take k1.length) = some true ∧ seqEq k2 (us.drop k1.length) (vs.drop k1.length) = some r) := by
  simp only [List.length_append] at h1 h2
  have e := seqEq_append k1 k2 (us.take k1.length) (us.drop k1.length) (vs.take k1.length) (vs.drop k1.length) (by simp; omega) (by simp; omega)
  rw [List.take_append_drop, List.take_append_drop, h] at e
  unfold thenEq at e
  split at e
  · rename_i hc; exact .inr ⟨hc, e.symm⟩
  · rename_i hc; cases e; exact .inl ⟨hc, rfl⟩
  · cases e
theorem run_eqFields_kinds (d dd : Nat) (xs ys : Array Value) (w : World) (IH : ∀ t ks, kindsL P d t = some ks → EqK P dd t ks) : ∀ (fs : List Field) (off : Nat) (ks : List CK) (r : Bool),
    kindsF (kindsL P d) P fs off = some ks → xs.size = off + ks.length → ys.size = off + ks.length → seqEq ks (xs.toList.drop off) (ys.toList.drop off) = some r → (Op.eqFields dd xs ys fs).run P w = .ok r w
  | [], off, ks, r, h, h1, h2, hs => by
    simp only [kindsF, Option.some.injEq] at h
    subst h
    rw [List.drop_of_length_le (by simp at h1 ⊢; omega), List.drop_of_length_le (by simp at h2 ⊢; omega)] at hs
    simp only [seqEq, Option.some.injEq] at hs
    subst hs
    rfl
  | f :: fs, off, ks, r, h, h1, h2, hs => by
    simp only [kindsF] at h
    split at h
    · rename_i l hl
      split at h
      · rename_i hn
        split at h
        · rename_i r2 hr
          cases h
          simp only [List.length_append] at h1 h2
          obtain ⟨hn, rfl⟩ := hn
          obtain ⟨a, p1, p2⟩ := run_part_kinds hl xs f.offset (by omega) w
          obtain ⟨b, p3, p4⟩ := run_part_kinds hl ys f.offset (by omega) w
          have hsp := seqEq_split (k1 := l) (k2 := r2) (by simp; omega) (by simp; omega) hs
          have key : ∀ q, seqEq l ((xs.toList.drop f.offset).take l.length) ((ys.toList.drop f.offset).take l.length) = some q → (Op.equalIn dd f.type a b).run P w = .ok q w := fun q hq =>
            IH f.type l hl w _ _ a b q (by simp; omega) (by simp; omega) p2 p4 hq
          simp only [Op.eqFields, hn, ne_eq, not_false_eq_true, if_true, Sem.run_bind, p1, p3, Result.andThen_ok]
          rcases hsp with ⟨q, rfl⟩ | ⟨q, q'⟩
          · rw [key _ q]; simp
          · rw [key _ q]
            simp only [Result.andThen_ok, Bool.not_true, Bool.false_eq_true, if_false]
            rw [List.drop_drop, List.drop_drop] at q'
            exact run_eqFields_kinds d dd xs ys w IH fs (f.offset + l.length) r2 r hr (by omega) (by omega) q'
        · cases h
      · cases h
    · cases h
theorem run_eqItems_kinds (d dd : Nat) {e : Nat} {l : List CK} (hl : kindsL P d e = some l) (IH : EqK P dd e l) (hc : P.cellsOf e = l.length) (xs ys : Array Value) (w : World) : ∀ (n j : Nat) (r : Bool),
    xs.size = (j + n) * l.length → ys.size = (j + n) * l.length → seqEq (List.replicate n l).flatten (xs.toList.drop (j * l.length)) (ys.toList.drop (j * l.length)) = some r →
      (Op.eqItems dd e (P.cellsOf e) xs ys (List.range' j n)).run P w = .ok r w
  | 0, j, r, h1, h2, hs => by
    rw [List.drop_of_length_le (by simp at h1 ⊢; omega), List.drop_of_length_le (by simp at h2 ⊢; omega)] at hs
    simp only [List.replicate_zero, List.flatten_nil, seqEq, Option.some.injEq] at hs
    subst hs
    rfl
  | n + 1, j, r, h1, h2, hs => by
    have e1 : (j + (n + 1)) * l.length = j * l.length + l.length + n * l.length := by rw [Nat.add_mul, Nat.succ_mul]; omega
    rw [e1] at h1 h2
    obtain ⟨a, p1, p2⟩ := run_part_kinds hl xs (j * l.length) (by omega) w
    obtain ⟨b, p3, p4⟩ := run_part_kinds hl ys (j * l.length) (by omega) w
    rw [List.replicate_succ, List.flatten_cons] at hs
    have hsp := seqEq_split (k1 := l) (k2 := (List.replicate n l).flatten) (by simp; omega) (by simp; omega) hs
    have key : ∀ q, seqEq l ((xs.toList.drop (j * l.length)).take l.length) ((ys.toList.drop (j * l.length)).take l.length) = some q → (Op.equalIn dd e a b).run P w = .ok q w := fun q hq =>
      IH w _ _ a b q (by simp; omega) (by simp; omega) p2 p4 hq
    rw [List.range'_succ]
    simp only [Op.eqItems, hc, Sem.run_bind, p1, p3, Result.andThen_ok]
    rcases hsp with ⟨q, rfl⟩ | ⟨q, q'⟩
    · rw [key _ q]; simp
    · rw [key _ q]
      simp only [Result.andThen_ok, Bool.not_true, Bool.false_eq_true, if_false]
      rw [List.drop_drop, List.drop_drop, show j * l.length + l.length = (j + 1) * l.length by rw [Nat.succ_mul]] at q'
      have := run_eqItems_kinds d dd hl IH hc xs ys w n (j + 1) r (by rw [Nat.add_mul, Nat.succ_mul]; omega) (by rw [Nat.add_mul, Nat.succ_mul]; omega) q'
      rw [hc] at this
      exact this
theorem holds_scalar {us : List Value} {x : Value} (h : Holds false us x) : us = [x] := h
theorem eqK_all : ∀ (d n : Nat) (t : Nat) (ks : List CK), kindsL P d t = some ks → EqK P (n + d) t ks
  | 0, n, t, ks, h => by simp [kindsL] at h
  | d + 1, n, t, ks, h => by
    intro w us us' x x' r h1 h2 h3 h4 h5
    have h' := h
    simp only [kindsL] at h
    have cell : ∀ k, ks = [k] → aggT P t = false → cellIs k x x' = some r := by
      intro k hk ha
      rw [ha] at h3 h4
      rw [holds_scalar h3, holds_scalar h4, hk] at h5
      simp only [seqEq] at h5
      split at h5
      · rename_i hc; cases h5; exact hc
      · rename_i hc; cases h5; exact hc
      · cases h5
    cases hu : P.underlying t with
    | none => simp [hu] at h
    | some x0 =>
      rw [hu] at h
      have ha : aggT P t = aggD x0 := by unfold aggT; rw [hu]
      cases x0 <;> simp only [reduceCtorEq, Option.some.injEq] at h
      case bool =>
        subst h
        have := cell .b rfl ha
        unfold cellIs at this
        split at this <;> simp_all
        rw [show n + (d + 1) = (n + d) + 1 from rfl, run_equalIn_bool w (n + d) t _ _ hu, this]
      case int k =>
        subst h
        have := cell (.i k) rfl ha
        unfold cellIs at this
        split at this <;> try (simp_all; done)
        rename_i hk
        simp only [CK.i.injEq] at hk
        subst hk
        split at this
        · rename_i hk
          obtain ⟨rfl, rfl⟩ := hk
          simp only [Option.some.injEq] at this
          rw [show n + (d + 1) = (n + d) + 1 from rfl, run_equalIn_int w (n + d) t _ _ _ _ hu, this]
        · cases this
      case string =>
        subst h
        have := cell .s rfl ha
        unfold cellIs at this
        split at this <;> try (simp_all; done)
        simp only [Option.some.injEq] at this
        rw [show n + (d + 1) = (n + d) + 1 from rfl, run_equalIn_string w (n + d) t _ _ hu, ← beq_toListBytes, this]
      case struct fields =>
        split at h
        · cases h
        · rename_i hst
          split at h
          · rename_i l hl
            split at h
            · rename_i hc
              cases h
              rw [ha] at h3 h4
              cases h3
              cases h4
              have hf : P.fieldsOf t = fields := by simp [Program.fieldsOf, hu]
              rw [show n + (d + 1) = (n + d) + 1 from rfl, run_equalIn_struct w (n + d) t _ _ (by rw [hf]; exact hu) (by simpa using hst), hf]
              exact run_eqFields_kinds d (n + d) _ _ w (fun t ks => eqK_all d n t ks) fields.toList 0 ks r hl (by simpa using h1) (by simpa using h2) (by simpa using h5)
            · cases h
          · cases h
      case array m e =>
        split at h
        · rename_i l hl
          split at h
          · rename_i hc
            cases h
            rw [ha] at h3 h4
            cases h3
            cases h4
            obtain ⟨i, hi⟩ := kindsL_info hl
            rw [show n + (d + 1) = (n + d) + 1 from rfl, run_equalIn_array w (n + d) _ _ hu hi, List.range_eq_range']
            exact run_eqItems_kinds d (n + d) hl (eqK_all d n e l hl) hc.1 _ _ w m 0 r (by simpa using h1) (by simpa using h2) (by simpa using h5)
          · cases h
        · cases h
theorem kindsF_mem {f : Nat → Option (List CK)} : ∀ {fs : List Field} {off : Nat} {ks : List CK}, kindsF f P fs off = some ks → ∀ g ∈ fs, g.name ≠ "_" ∧ ∃ l, f g.type = some l ∧ g.offset + l.length ≤ off + ks.length
  | [], _, _, _, g, hg => by simp at hg
  | fd :: fs, off, ks, h, g, hg => by
    simp only [kindsF] at h
    split at h
    · rename_i l hl
      split at h
      · rename_i hn
        split at h
        · rename_i r2 hr
          cases h
          rcases List.mem_cons.1 hg with rfl | hg
          · exact ⟨hn.1, l, hl, by rw [hn.2]; simp⟩
          · obtain ⟨h1, l', h2, h3⟩ := kindsF_mem hr g hg
            exact ⟨h1, l', h2, by simp; omega⟩
        · cases h
      · cases h
    · cases h
theorem checkK_all (em : Bool) : ∀ (d n : Nat) (t : Nat) (ks : List CK), kindsL P d t = some ks → CheckK P em (n + d) t ks
  | 0, n, t, ks, h => by simp [kindsL] at h
  | d + 1, n, t, ks, h => by
    intro w us x h1 h3
    simp only [kindsL] at h
    cases hu : P.underlying t with
    | none => simp [hu] at h
    | some x0 =>
      rw [hu] at h
      have ha : aggT P t = aggD x0 := by unfold aggT; rw [hu]
      cases x0 <;> simp only [reduceCtorEq, Option.some.injEq] at h
      case bool => rw [show n + (d + 1) = (n + d) + 1 from rfl, Instr.checkKey]; simp only [Sem.run_bind, run_underlying hu, Result.andThen_ok]; rfl
      case int k => rw [show n + (d + 1) = (n + d) + 1 from rfl, Instr.checkKey]; simp only [Sem.run_bind, run_underlying hu, Result.andThen_ok]; rfl
      case string => rw [show n + (d + 1) = (n + d) + 1 from rfl, Instr.checkKey]; simp only [Sem.run_bind, run_underlying hu, Result.andThen_ok]; rfl
      case struct fields =>
        split at h
        · cases h
        · split at h
          · rename_i l hl
            split at h
            · rename_i hc
              cases h
              rw [ha] at h3
              cases h3
              rw [show n + (d + 1) = (n + d) + 1 from rfl, Instr.checkKey]
              simp only [Sem.run_bind, run_underlying hu, Result.andThen_ok]
              rw [← Array.forIn_toList]
              have hm := kindsF_mem hl
              generalize fields.toList = fs at hm
              clear hu ha hl
              induction fs with
              | nil => simp
              | cons f fs ih =>
                obtain ⟨hn, l', hl', hle⟩ := hm f (by simp)
                obtain ⟨a, p1, p2⟩ := run_part_kinds hl' us.toArray f.offset (by simp; omega) w
                have p3 := checkK_all em d n f.type l' hl' w _ a (by simp; omega) p2
                simp only [List.forIn_cons, hn, ne_eq, not_false_eq_true, if_true, Sem.run_bind, p1, Result.andThen_ok, p3, Sem.run_pure]
                exact ih (fun g hg => hm g (by simp [hg]))
            · cases h
          · cases h
      case array m e =>
        split at h
        · rename_i l hl
          split at h
          · rename_i hc
            cases h
            rw [ha] at h3
            cases h3
            obtain ⟨i, hi⟩ := kindsL_info hl
            rw [show n + (d + 1) = (n + d) + 1 from rfl, Instr.checkKey]
            simp only [Sem.run_bind, run_underlying hu, Result.andThen_ok]
            simp only [Std.Legacy.Range.forIn_eq_forIn_range', Std.Legacy.Range.size, Nat.sub_zero, Nat.add_one_sub_one, Nat.div_one]
            have hb : ∀ j ∈ List.range' 0 m, j < m := by intro j hj; simp at hj; omega
            have hlen : us.length = m * l.length := by simpa using h1
            generalize List.range' 0 m = is at hb
            induction is with
            | nil => simp
            | cons j is ih =>
              have hj := hb j (by simp)
              have hle : j * l.length + l.length ≤ us.length := by
                rw [hlen, ← Nat.succ_mul]
                exact Nat.mul_le_mul_right _ hj
              obtain ⟨a, p1, p2⟩ := run_part_kinds hl us.toArray (j * l.length) (by simpa using hle) w
              have p3 := checkK_all em d n e l hl w _ a (by simp; omega) p2
              simp only [List.forIn_cons, Sem.run_bind, run_sizeOf w hi, hc.1, Result.andThen_ok, p1, p3, Sem.run_pure]
              exact ih (fun g hg => hb g (by simp [hg]))
          · cases h
        · cases h
theorem guardType_all : ∀ (d n : Nat) (t : Nat) (ks : List CK), kindsL P d t = some ks → P.eqGuardType (n + d) t = false
  | 0, n, t, ks, h => by simp [kindsL] at h
  | d + 1, n, t, ks, h => by
    simp only [kindsL] at h
    rw [show n + (d + 1) = (n + d) + 1 from rfl, Program.eqGuardType]
    cases hu : P.underlying t with
    | none => rfl
    | some x0 =>
      rw [hu] at h
      cases x0 <;> simp only [reduceCtorEq, Option.some.injEq] at h <;> try rfl
      case struct fields =>
        split at h
        · cases h
        · split at h
          · rename_i l hl
            have hm := kindsF_mem hl
            simp only [Array.any_eq_false]
            intro i hi
            obtain ⟨hn, l', hl', _⟩ := hm fields[i] (by simp)
            simp [guardType_all d n _ l' hl']
          · cases h
      case array m e =>
        split at h
        · rename_i l hl
          exact guardType_all d n e l hl
        · cases h
theorem sameBits_cell {k : CK} {u u' : Value} (h : cellIs k u u' = some true) (n : Nat) : Instr.sameBits n u' u = true := by
  unfold cellIs at h
  split at h
  · simp at h; subst h; simp [Instr.sameBits]
  · split at h
    · rename_i hk; simp at h; subst h; simp [Instr.sameBits, hk.1, hk.2]
    · cases h
  · simp only [Option.some.injEq] at h; rw [bbeq_eq.1 h]; simp only [Instr.sameBits]; exact bbeq_eq.2 rfl
  · cases h
theorem sameBits_row (n : Nat) : ∀ {ks : List CK} {us us' : List Value}, seqEq ks us us' = some true → ((us'.zip us).all fun (x, y) => Instr.sameBits n x y) = true
  | [], [], [], _ => rfl
  | k :: ks, a :: us, b :: vs, h => by
    simp only [seqEq] at h
    split at h
    · rename_i hc
      simp [sameBits_cell hc n, sameBits_row n h]
    · cases h
    · cases h
  | [], _ :: _, _, h => by simp [seqEq] at h
  | [], [], _ :: _, h => by simp [seqEq] at h
  | _ :: _, [], _, h => by simp [seqEq] at h
  | _ :: _, _ :: _, [], h => by simp [seqEq] at h
theorem kinded_of_seqEq : ∀ {ks : List CK} {us us' : List Value}, seqEq ks us us' = some true → kindedL ks us
  | [], [], [], _ => rfl
  | k :: ks, a :: us, b :: vs, h => by
    simp only [seqEq] at h
    split at h
    · rename_i hc
      refine ⟨a, us, rfl, ?_, kinded_of_seqEq h⟩
      unfold cellIs at hc
      split at hc
      · exact ⟨_, rfl⟩
      · split at hc
        · rename_i hk; exact ⟨_, by rw [hk.1]⟩
        · cases hc
      · exact ⟨_, rfl⟩
      · cases hc
    · cases h
    · cases h
  | [], _ :: _, _, h => by simp [seqEq] at h
  | [], [], _ :: _, h => by simp [seqEq] at h
  | _ :: _, [], _, h => by simp [seqEq] at h
  | _ :: _, _ :: _, [], h => by simp [seqEq] at h
theorem kindedL_len : ∀ {ks : List CK} {us : List Value}, kindedL ks us → us.length = ks.length
  | [], _, h => by rw [show _ = [] from h]; rfl
  | _ :: _, _, ⟨_, _, h, _, h2⟩ => by rw [h]; simp [kindedL_len h2]
theorem cellIs_kinded {k : CK} {a b : Value} (h1 : kinded1 k a) (h2 : kinded1 k b) : ∃ r, cellIs k a b = some r := by
  cases k with
  | b => obtain ⟨x, rfl⟩ := h1; obtain ⟨y, rfl⟩ := h2; exact ⟨_, rfl⟩
  | i k => obtain ⟨x, rfl⟩ := h1; obtain ⟨y, rfl⟩ := h2; exact ⟨x == y, by simp [cellIs]⟩
  | s => obtain ⟨x, rfl⟩ := h1; obtain ⟨y, rfl⟩ := h2; exact ⟨_, rfl⟩
theorem seqEq_kinded : ∀ {ks : List CK} {us us' : List Value}, kindedL ks us → kindedL ks us' → ∃ r, seqEq ks us us' = some r
  | [], _, _, h1, h2 => by rw [show _ = [] from h1, show _ = [] from h2]; exact ⟨true, rfl⟩
  | k :: ks, _, _, ⟨a, us, e1, h1, h2⟩, ⟨b, us', e2, h3, h4⟩ => by
    subst e1
    subst e2
    obtain ⟨r, hr⟩ := cellIs_kinded h1 h3
    simp only [seqEq, hr]
    cases r
    · exact ⟨false, rfl⟩
    · exact seqEq_kinded h2 h4
theorem holds_inj {agg : Bool} {us us' : List Value} {u u' : Value} (h : Holds agg us u) (h' : Holds agg us' u') : us = us' ↔ u = u' := by
  cases agg
  · have e1 := holds_scalar h
    have e2 := holds_scalar h'
    rw [e1, e2]; simp
  · cases h
    cases h'
    simp
theorem seqEq_iff {agg : Bool} {ks : List CK} {us us' : List Value} {u u' : Value} {r : Bool} (h : Holds agg us u) (h' : Holds agg us' u') (hs : seqEq ks us us' = some r) : r = true ↔ u = u' := by
  rw [← holds_inj h h']
  cases r with
  | true => simp [(seqEq_len hs).1]
  | false => simp [seqEq_ne hs]
theorem sameNow_agg {d : TypeDesc} {us us' : List Value} {c : Bool} (h : Instr.sameNow d (.agg us.toArray) (.agg us'.toArray) = some c) : False := by
  unfold Instr.sameNow at h
  split at h <;> simp_all
theorem sameNow_one {d : TypeDesc} {k : CK} {u u' : Value} {r c : Bool} (hcc : cellIs k u u' = some r) (hc : Instr.sameNow d u u' = some c) : c = r := by
  unfold cellIs at hcc
  unfold Instr.sameNow at hc
  split at hcc
  · split at hc <;> simp_all
  · split at hcc
    · rename_i hk
      split at hc <;> simp_all
    · cases hcc
  · split at hc <;> simp_all
  · cases hcc
/-- the comparison of a type, by its kinds -/
theorem eqOK {d t : Nat} {K : CR CK} (hd : d ≤ 10000) (hdep : d ≤ P.depth) (hw : K.wf) (hk : kindsL P d t = some K.toL) (ha : aggT P t = !isOne K) : EqOp P t K ∧ EqKey P t K := by
  have hEq : EqK P 10000 t K.toL := by have := eqK_all d (10000 - d) t _ hk; rwa [Nat.sub_add_cancel hd] at this
  have hG : P.eqGuardType P.depth t = false := by have := guardType_all d (P.depth - d) t _ hk; rwa [Nat.sub_add_cancel hdep] at this
  refine ⟨fun E ρ x y u u' r hE hx hy h w => ?_, fun E ρ x y u u' r hE hx hy h => ?_, fun u u' hu hu' => ?_, fun ρ x u hx hko w b => ?_⟩
  · obtain ⟨us, us', h1, h2, h3, h4, h5, h6⟩ := veq_spec hE hw hx hy h
    have hq : (Op.equalIn 10000 t u u').run P w = .ok r w := hEq w us us' u u' r h1 h2 (by rw [ha]; exact h4) (by rw [ha]; exact h5) h3
    cases hK : isOne K with
    | false =>
      rw [hK] at h4 h5
      cases h4
      cases h5
      exact ⟨fun a b => ⟨run_eqGuard_agg w _ t a b _ _ hG, run_eqGuard_agg w _ t a b _ _ hG⟩, by rw [run_eql_struct, hq]; rfl, by rw [run_neq_struct, hq]; rfl⟩
    | true =>
      obtain ⟨k, rfl⟩ : ∃ k, K = .one k := by cases K <;> simp [isOne] at hK; exact ⟨_, rfl⟩
      have hc := h6 k rfl
      unfold cellIs at hc
      split at hc
      · refine ⟨fun a b => ⟨rfl, rfl⟩, ?_, ?_⟩ <;> simp [binOp, Op.equal, Op.maxDepth, hq]
      · split at hc
        · rename_i hk; obtain ⟨rfl, rfl⟩ := hk
          cases hc
          refine ⟨fun a b => ⟨rfl, rfl⟩, ?_, ?_⟩ <;> simp [binOp, Op.intCmp] <;> rfl
        · cases hc
      · cases hc
        refine ⟨fun a b => ⟨rfl, rfl⟩, ?_, ?_⟩ <;> simp [binOp, Op.stringOp, beq_toListBytes]
      · cases hc
  · obtain ⟨us, us', h1, h2, h3, h4, h5, h6⟩ := veq_spec hE hw hx hy h
    have hq : ∀ w, (Op.equalIn 10000 t u u').run P w = .ok r w := fun w => hEq w us us' u u' r h1 h2 (by rw [ha]; exact h4) (by rw [ha]; exact h5) h3
    refine ⟨hq, seqEq_iff h4 h5 h3, ?_, ?_⟩
    · intro des hdes c hc
      cases hK : isOne K with
      | false =>
        rw [hK] at h4 h5
        cases h4
        cases h5
        exact (sameNow_agg hc).elim
      | true =>
        obtain ⟨k, rfl⟩ : ∃ k, K = .one k := by cases K <;> simp [isOne] at hK; exact ⟨_, rfl⟩
        exact sameNow_one (h6 k rfl) hc
    · intro hr
      subst hr
      refine ⟨?_, us, h4, kinded_of_seqEq h3⟩
      cases hK : isOne K with
      | false =>
        rw [hK] at h4 h5
        cases h4
        cases h5
        have := sameBits_row 9999 h3
        simp [Instr.sameBits, h1, h2, this]
      | true =>
        obtain ⟨k, rfl⟩ : ∃ k, K = .one k := by cases K <;> simp [isOne] at hK; exact ⟨_, rfl⟩
        exact sameBits_cell (h6 k rfl) 10000
  · obtain ⟨us, h4, k1⟩ := hu
    obtain ⟨us', h5, k2⟩ := hu'
    obtain ⟨r, h3⟩ := seqEq_kinded k1 k2
    refine ⟨r, fun w => hEq w us us' u u' r (kindedL_len k1) (kindedL_len k2) (by rw [ha]; exact h4) (by rw [ha]; exact h5) h3, seqEq_iff h4 h5 h3, ?_⟩
    intro des hdes c hc
    cases hK : isOne K with
    | false =>
      rw [hK] at h4 h5
      cases h4
      cases h5
      exact (sameNow_agg hc).elim
    | true =>
      obtain ⟨k, rfl⟩ : ∃ k, K = .one k := by cases K <;> simp [isOne] at hK; exact ⟨_, rfl⟩
      rw [hK] at h4 h5
      have e1 := holds_scalar h4
      have e2 := holds_scalar h5
      subst e1
      subst e2
      have hcell : cellIs k u u' = some r := by
        simp only [CR.toL, seqEq] at h3
        split at h3
        · rename_i hq; cases h3; exact hq
        · rename_i hq; cases h3; exact hq
        · cases h3
      exact sameNow_one hcell hc
  · have hC : CheckK P b 10000 t K.toL := by have := checkK_all b d (10000 - d) t _ hk; rwa [Nat.sub_add_cancel hd] at this
    unfold keyOK at hko
    split at hko
    · exact hC w [u] u rfl (by rw [ha]; rfl)
    · rename_i hK
      split at hko
      · obtain ⟨us, h1, rfl⟩ := hx
        have w1 := CRR_iff.1 h1
        have l1 := beqT hko
        rw [CR.len_eq w1.1, CR.len_eq hw, ← w1.2.length] at l1
        have e : isOne K = false := by cases K <;> first | rfl | exact absurd rfl (hK _)
        exact hC w us _ l1 (by rw [ha, e]; rfl)
      · cases hko
end
end Go.SE
namespace Go.SE
variable (sha : List UInt8 → Nat → UInt8)
/-- what reads memory, and turns nothing that has a name -/
def RSound (P : Program) (nb : Nat) (o : Oper) (f : RF) : Prop :=
  ∀ (E : Env) (ρ : Ren) (t : Tm) (h : H) (a : Act) (v : V) (w : World), FrR nb ρ t a.tmps → St sha E ρ h w → f E t h = .ok v →
    ∃ u w', (execOp a.eval o).run P w = .ok (.value u) w' ∧ VR ρ v u ∧ Step sha E ρ h w ρ h w'
variable {sha}
section
variable {P : Program} {nb : Nat} {o : Oper}
theorem St.cells {E : Env} {ρ : Ren} {h : H} {w : World} (s : St sha E ρ h w) {b : Pa} {B : Blk} (hB : ρ.β b = some B) {c : CR V} {e op : Nat} (hg : h.get b = some (.cells c e op)) : CellsR ρ c e op B w := by
  obtain ⟨B', hB', ho⟩ := s.objs b _ hg
  rw [hB] at hB'
  cases hB'
  exact ho
theorem H.cells_get {h : H} {b : Pa} {c : CR V} (hc : h.cells b = some c) : ∃ e op, h.get b = some (.cells c e op) := by
  unfold H.cells at hc
  split at hc
  · rename_i c' e op hg; cases hc; exact ⟨e, op, hg⟩
  · cases hc
theorem addr_add (k o j : Nat) : (Addr.mk k o none).add j = ⟨k, o + j, none⟩ := by unfold Addr.add; split <;> simp_all
theorem cell_at {E : Env} {ρ : Ren} {h : H} {w : World} (s : St sha E ρ h w) {b : Pa} {B : Blk} (hB : ρ.β b = some B) {c : CR V} (hc : h.cells b = some c) {i : Nat} {v : V} (hv : CR.get c i = some v) :
    ∃ u, w.cell? ⟨B.k, i, none⟩ = some u ∧ VR ρ v u := by
  obtain ⟨e, op, hg⟩ := H.cells_get hc
  obtain ⟨cs, fz, us, rest, h1, h2, h3, _⟩ := s.cells hB hg
  obtain ⟨hw, hl⟩ := CRR_iff.1 h2
  rw [CR.get_eq hw] at hv
  obtain ⟨u, h4, h5⟩ := hl.get hv
  refine ⟨u, ?_, h5⟩
  simp only [World.cell?, h1, Option.isSome_none, Bool.false_eq_true, if_false]
  rw [← Array.getElem?_toList, h3, List.getElem?_append_left (List.getElem?_eq_some_iff.1 h4).1, h4]
theorem loadN_some {E : Env} {ρ : Ren} {h : H} {w : World} (s : St sha E ρ h w) {b : Pa} {B : Blk} (hB : ρ.β b = some B) {off n : Nat} {c : CR V} (hc : loadN h b off n = .ok c) :
    ∃ us, CRR ρ c us ∧ us.length = n ∧ ∀ j v, us[j]? = some v → w.cell? ((Addr.mk B.k off none).add j) = some v := by
  unfold loadN at hc
  split at hc
  · rename_i c0 hc0
    obtain ⟨hb, hc⟩ := R.when_eq.1 hc
    cases hc
    obtain ⟨e, op, hg⟩ := H.cells_get hc0
    obtain ⟨cs, fz, us, rest, h1, h2, h3, _⟩ := s.cells hB hg
    obtain ⟨hw, hl⟩ := CRR_iff.1 h2
    have hle := bleT hb
    rw [CR.len_eq hw] at hle
    simp only [Nat.add_eq] at hle
    have hs := CR.sub_eq hw off n hle
    have hlen : ((us.drop off).take n).length = n := by simp [hl.length]; omega
    refine ⟨(us.drop off).take n, CRR_iff.2 ⟨hs.1, by rw [hs.2]; exact (hl.drop off).take n⟩, hlen, fun j v hj => ?_⟩
    rw [addr_add]
    simp only [World.cell?, h1, Option.isSome_none, Bool.false_eq_true, if_false]
    rw [List.getElem?_take] at hj
    split at hj
    · rw [List.getElem?_drop] at hj
      rw [← Array.getElem?_toList, h3, List.getElem?_append_left (List.getElem?_eq_some_iff.1 hj).1, hj]
    · cases hj
  · cases hc
theorem loadN_spec {E : Env} {ρ : Ren} {h : H} {w : World} (s : St sha E ρ h w) {b : Pa} {B : Blk} (hB : ρ.β b = some B) {off n : Nat} {c : CR V} (hc : loadN h b off n = .ok c) :
    ∃ us, CRR ρ c us ∧ us.length = n ∧ (loadCells ⟨B.k, off, none⟩ n).run P w = .ok us.toArray w := by
  unfold loadN at hc
  split at hc
  · rename_i c0 hc0
    obtain ⟨hb, hc⟩ := R.when_eq.1 hc
    cases hc
    obtain ⟨e, op, hg⟩ := H.cells_get hc0
    obtain ⟨cs, fz, us, rest, h1, h2, h3, _⟩ := s.cells hB hg
    obtain ⟨hw, hl⟩ := CRR_iff.1 h2
    have hle := bleT hb
    rw [CR.len_eq hw] at hle
    simp only [Nat.add_eq] at hle
    have hs := CR.sub_eq hw off n hle
    have hlen : ((us.drop off).take n).length = n := by simp [hl.length]; omega
    refine ⟨(us.drop off).take n, CRR_iff.2 ⟨hs.1, by rw [hs.2]; exact (hl.drop off).take n⟩, hlen, ?_⟩
    have := run_loadCells_list (P := P) (w := w) ⟨B.k, off, none⟩ ((us.drop off).take n) (fun j v hj => by
      rw [addr_add]
      simp only [World.cell?, h1, Option.isSome_none, Bool.false_eq_true, if_false]
      rw [List.getElem?_take] at hj
      split at hj
      · rw [List.getElem?_drop] at hj
        rw [← Array.getElem?_toList, h3, List.getElem?_append_left (List.getElem?_eq_some_iff.1 hj).1, hj]
      · cases hj)
    rw [hlen] at this
    exact this
  · cases hc
theorem gget {w : World} {r : Nat} {ob : Obj} (hr : w.heap[r]? = some ob) (hn : ∀ a b c, ob ≠ .cells a b c) : (getObj r).run P w = .ok ob w := by
  cases ob <;> first
    | exact absurd rfl (hn _ _ _)
    | simp [getObj, Sem.run, hr]
theorem gget_map {w : World} {r : Nat} {es : Array MapEntry} {c : Nat} (hr : w.heap[r]? = some (.map es c)) : (getObj r).run P w = .ok (.map es c) w := gget hr (by simp)
theorem gset_map {w : World} {r : Nat} {es : Array MapEntry} {c : Nat} (hr : w.heap[r]? = some (.map es c)) (o' : Obj) : (setObj r o').run P w = .ok () { w with heap := w.heap.setIfInBounds r o' } := by
  simp [setObj, Sem.run, hr]
variable {C : Cx} (hC : CxOK C P)
include hC
theorem rs_ld {t : TypeId} {ti : TI} (hti : C.ty t = some ti) {x : Operand} {sx : Opd} (hx : cOpd nb x = some sx) (ho : o.op = .load t x) : RSound sha P nb o (if isAggD ti.d then rLdn ti.size sx else rLd1 sx) := by
  intro E ρ tm h a v w hF s hv
  have h1 := cOpd_VR hF hx
  by_cases hA : isAggD ti.d = true
  · rw [if_pos hA] at hv
    simp only [rLdn, ldnV] at hv
    split at hv
    · rename_i b off hb
      rw [hb] at h1
      obtain ⟨B, hB, h1⟩ := h1
      simp only [R.map_eq] at hv
      obtain ⟨c, hc, rfl⟩ := hv
      obtain ⟨us, h2, _, h3⟩ := loadN_spec (P := P) s hB hc
      refine ⟨.agg us.toArray, w, ?_, ⟨us, h2, rfl⟩, Step.refl s⟩
      simp only [execOp, ho, h1, Instr.loadAt, Instr.sureAddr, loadVar, Sem.run_bind, Sem.run_pure, Result.andThen_ok, (hC _ _ hti).isAgg, hA, if_true, (hC _ _ hti).sizeOf, h3]
    · cases hv
  · rw [if_neg hA] at hv
    simp only [rLd1, ld1V] at hv
    split at hv
    · rename_i b off hb
      rw [hb] at h1
      obtain ⟨B, hB, h1⟩ := h1
      split at hv
      · rename_i c hc
        obtain ⟨u, h2, h3⟩ := cell_at s hB hc (R.of_eq.1 hv)
        refine ⟨u, w, ?_, h3, Step.refl s⟩
        simp only [execOp, ho, h1, Instr.loadAt, Instr.sureAddr, loadVar, Sem.run_bind, Sem.run_pure, Result.andThen_ok, (hC _ _ hti).isAgg]
        rw [if_neg hA]
        simp only [run_load, h2, Result.andThen_ok]
      · cases hv
    · cases hv
theorem rs_lenM {t : TypeId} {ts : List TypeId} {ats : Array TypeId} (hts : ats.toList = t :: ts) {ti : TI} (hti : C.ty t = some ti) {x : Operand} {args : Array Operand} (hargs : args.toList = [x]) {sx : Opd} (hx : cOpd nb x = some sx)
    {kt et : Nat} (hd : ti.d = .map kt et) (ho : o.op = .call ⟨.builtin .len, args, ats⟩) : RSound sha P nb o (rLenM sx) := by
  intro E ρ tm h a v w hF s hv
  have h1 := cOpd_VR hF hx
  have h2 := (hC _ _ hti).d
  rw [hd] at h2
  have h2' : P.underlying t = some (.map kt et) := h2
  obtain ⟨cs, hcs⟩ := run_builtin (P := P) ho a w
  rw [hcs]
  simp only [rLenM, lenMV] at hv
  split at hv
  · rename_i hm
    rw [hm] at h1
    cases hv
    refine ⟨.int .i64 0, w, ?_, ⟨_, rfl, rfl⟩, Step.refl s⟩
    simp only [VR] at h1
    simp only [builtin, Builtin.len_, tys1 hts, args1 hargs, Sem.run_bind, run_underlying h2', Result.andThen_ok, h1, goInt, Sem.run_pure]
  · rename_i r hm
    rw [hm] at h1
    obtain ⟨B, hB, h1⟩ := h1
    split at hv
    · rename_i es ver hg
      cases hv
      obtain ⟨B', hB', ho'⟩ := s.objs _ _ hg
      rw [hB] at hB'; cases hB'
      obtain ⟨ce, clock, h3, h4, h5⟩ := ho'
      have hlen : ce.size = es.length := by
        obtain ⟨ps, hp, hperm⟩ := h5.ps
        have := hperm.length_eq
        have hpl : ps.length = es.length := by
          clear hperm this h5 hg h4
          induction es generalizing ps with
          | nil => rw [show ps = [] from hp]; rfl
          | cons x l ih => obtain ⟨k, v⟩ := x; obtain ⟨a, b, ps', _, _, h, rfl⟩ := hp; simp [ih _ h]
        rw [← hpl, this]; simp [pairs]
      refine ⟨.int .i64 es.length, w, ?_, ⟨_, rfl, rfl⟩, Step.refl s⟩
      simp only [builtin, Builtin.len_, tys1 hts, args1 hargs, Sem.run_bind, run_underlying h2', Result.andThen_ok, h1, gget_map h3, goInt, Sem.run_pure, hlen]
    · cases hv
  · cases hv
omit hC in
theorem mapM_bytes {E : Env} {ρ : Ren} (hE : EnvOK E ρ) : ∀ {l : List V} {es : List IE} {us : List Value}, l.mapM (byteOf E) = some es → LR ρ l us → ∃ bs : List UInt8, SR ρ es bs ∧ us = bs.map fun b => .int .u8 (b.toNat : Int)
  | [], es, us, h, hl => by
    simp at h; subst h
    exact ⟨[], trivial, hl⟩
  | v :: l, es, us, h, hl => by
    obtain ⟨u, us', h1, h2, rfl⟩ := hl
    simp only [List.mapM_cons, Option.bind_eq_bind, Option.bind_eq_some_iff] at h
    obtain ⟨e, he, es', hes, hh⟩ := h
    cases hh
    obtain ⟨bs, h3, rfl⟩ := mapM_bytes hE hes h2
    unfold byteOf at he
    split at he
    · rename_i e0
      rw [bite_eq] at he
      split at he
      · rename_i hk
        cases he
        obtain ⟨n, hn, rfl⟩ := h1
        have hb := inK_spec hE hn hk
        simp [IntKind.min, IntKind.max, IntKind.signed, IntKind.bits] at hb
        have hn2 : ((UInt8.ofNat n.toNat).toNat : Int) = n := by
          rw [UInt8.toNat_ofNat']
          omega
        exact ⟨UInt8.ofNat n.toNat :: bs, ⟨by rw [hn2]; exact hn, h3⟩, by rw [List.map_cons, hn2]⟩
      · cases he
    · cases he
omit hC in
theorem foldl_push : ∀ (bs : List UInt8) (acc : ByteArray), (bs.map fun b => (b.toNat : Int)).foldl (fun r n => r.push (UInt8.ofNat n.toNat)) acc = ⟨acc.data ++ bs.toArray⟩
  | [], acc => by simp
  | b :: bs, acc => by
    simp only [List.map_cons, List.foldl_cons]
    rw [foldl_push bs]
    apply ByteArray.ext
    simp [ByteArray.data_push]
theorem rs_b2s {s0 d : TypeId} {si di ei : TI} {e : Nat} (hsi : C.ty s0 = some si) (hdi : C.ty d = some di) (hs : si.d = .slice e) (hei : C.ty e = some ei) (he : ei.d = .int .u8) (hd : di.d = .string) {x : Operand} {sx : Opd} (hx : cOpd nb x = some sx) (ho : o.op = .convert s0 d x) :
    RSound sha P nb o (rB2s sx) := by
  intro E ρ tm h a v w hF s hv
  have h1 := cOpd_VR hF hx
  have h2 := (hC _ _ hsi).d
  have h3 := (hC _ _ hdi).d
  have h4 := (hC _ _ hei).d
  rw [hs] at h2
  rw [hd] at h3
  rw [he] at h4
  simp only [rB2s, b2sV] at hv
  split at hv
  · rename_i hl
    rw [hl] at h1
    cases hv
    refine ⟨.string .empty, w, ?_, ⟨[], trivial, rfl⟩, Step.refl s⟩
    simp only [VR] at h1
    simp [execOp, ho, h1, convert, run_underlying h2, run_underlying h3, run_underlying h4, Conv.bytesToString]
  · rename_i b off n cp hl
    rw [hl] at h1
    obtain ⟨B, hB, h1⟩ := h1
    simp only [R.bind_eq, R.map_eq, R.of_eq] at hv
    obtain ⟨c, hc, es, hes, rfl⟩ := hv
    obtain ⟨us, h5, h6, h7⟩ := loadN_spec (P := P) s hB hc
    obtain ⟨bs, h8, rfl⟩ := mapM_bytes s.env hes (CRR_iff.1 h5).2
    refine ⟨.string ⟨bs.toArray⟩, w, ?_, ⟨bs, h8, rfl⟩, Step.refl s⟩
    have h9 := run_bytesToString (P := P) w ⟨B.k, off, none⟩ n (if cp = UNK then (B.sz - off) / B.es else cp) (bs.map fun b => (b.toNat : Int)) (by rw [h7]; simp [Function.comp_def])
    rw [foldl_push] at h9
    have h10 := run_convert_bytes_string w s0 d e (some ⟨B.k, off, none⟩) n (if cp = UNK then (B.sz - off) / B.es else cp) h2 h4 h3
    simp only [execOp, ho, h1, Sem.run_bind, h10, h9, Result.andThen_ok, Sem.run_pure]
    congr 4
    apply Array.ext'; simp
  · cases hv
omit hC in
theorem boundN_le {a b n : Nat} {v : V} (h : boundN a v = .ok n) (hab : a ≤ b) : boundN b v = .ok n := by
  unfold boundN at *
  split at h
  · simp only [R.when_eq] at h ⊢
    have := bleT h.1
    exact ⟨Nat.ble_eq_true_of_le (by omega), h.2⟩
  · cases h
theorem rs_slL {t : TypeId} {ti ei : TI} {e : Nat} (hti : C.ty t = some ti) (hd : ti.d = .slice e) (hei : C.ty e = some ei) {x : Operand} {sx : Opd} (hx : cOpd nb x = some sx) {lo hi mx : Option Operand} {slo shi smx : Option Opd}
    (hlo : cOpt nb lo = some slo) (hhi : cOpt nb hi = some shi) (hmx : cOpt nb mx = some smx) (hmh : ¬ (smx.isSome = true ∧ shi.isNone = true)) (ho : o.op = .slice t x lo hi mx) : RSound sha P nb o (rSlL ei.size sx slo shi smx) := by
  intro E ρ tm h a v w hF s hv
  have h1 := cOpd_VR hF hx
  have h2 := (hC _ _ hti).d
  rw [hd] at h2
  have h2' : P.underlying t = some (.slice e) := h2
  simp only [rSlL, slLV] at hv
  split at hv
  · rename_i hl
    rw [hl] at h1
    simp only [R.bind_eq, R.map_eq] at hv
    obtain ⟨m, h3, hh, h4, ll, h5, rfl⟩ := hv
    have zero : ∀ (q : Option Opd) (r : Nat), boundO tm 0 0 q = .ok r → r = 0 := by
      intro q r hq
      unfold boundO boundN at hq
      split at hq
      · cases hq; rfl
      · split at hq
        · obtain ⟨hb, hq⟩ := R.when_eq.1 hq
          cases hq
          have := bleT hb
          omega
        · cases hq
    have hm0 := zero _ _ h3
    subst hm0
    have hh0 := zero _ _ h4
    subst hh0
    have hl0 := zero _ _ h5
    subst hl0
    have h7 := sliceBounds_spec (P := P) hF hlo hhi hmx hmh h3 h4 h5 true w
    simp only [VR] at h1
    refine ⟨.slice none 0 0, w, ?_, rfl, Step.refl s⟩
    simp only [execOp, ho, h1, Instr.sliceAt, Instr.slice, Sem.run_bind, run_underlying h2', Result.andThen_ok, h7.1, (hC _ _ hei).sizeOf, Sem.run_pure]
    rfl
  · rename_i b off n cap hl
    rw [hl] at h1
    obtain ⟨B, hB, h1⟩ := h1
    rw [bite_eq] at hv
    -- the model's answer, for bounds that hold
    have fin : ∀ (cp m hh ll : Nat), a.eval x = .slice (some ⟨B.k, off, none⟩) n cp → (Instr.sliceBounds true n cp (lo.map a.eval) (hi.map a.eval) (mx.map a.eval)).run P w = .ok (ll, hh, m) w →
        (execOp a.eval o).run P w = .ok (.value (.slice (some (if m = ll then ⟨B.k, off, none⟩ else (Addr.mk B.k off none).add (ll * ei.size))) (hh - ll) (m - ll))) w := by
      intro cp m hh ll h1 h7
      simp only [execOp, ho, h1, Instr.sliceAt, Instr.slice, Sem.run_bind, run_underlying h2', Result.andThen_ok, h7, (hC _ _ hei).sizeOf, Sem.run_pure]
      split <;> rfl
    split at hv
    · rename_i hc
      have hc := beqT hc
      rw [if_pos hc] at h1
      simp only [R.bind_eq] at hv
      obtain ⟨kn, hk, hv⟩ := hv
      have hkn : kn ≤ (B.sz - off) / B.es ∧ B.es = ei.size ∧ 0 < ei.size := by
        unfold known at hk
        split at hk
        · rename_i c e' op hg
          simp only [R.when_eq, Bool.and_eq_true] at hk
          obtain ⟨⟨k1, k2⟩, hk⟩ := hk
          cases hk
          have k1 := beqT k1
          have k2 := bltT k2
          obtain ⟨cs, fz, us, rest, g1, g2, g3, g4, g5, g6, _⟩ := s.cells hB hg
          obtain ⟨hw, hlr⟩ := CRR_iff.1 g2
          have hes : B.es = ei.size := by rw [g5 (by omega), k1]
          refine ⟨?_, hes, k2⟩
          rw [hes]
          apply Nat.div_le_div_right
          have : c.len ≤ B.sz := by
            rw [CR.len_eq hw, ← hlr.length, ← g6, ← Array.length_toList, g3]
            simp
          show c.len - off ≤ B.sz - off
          omega
        · cases hk
      split at hv
      · rename_i mo
        simp only [R.bind_eq, R.when_eq, cutV] at hv
        obtain ⟨m, h3, hh, h4, _, ll, h5, h6, hv⟩ := hv
        cases hv
        have hlt := bltT h6
        have h3' : boundO tm ((B.sz - off) / B.es) ((B.sz - off) / B.es) (some mo) = .ok m := boundN_le h3 hkn.1
        have h7 := sliceBounds_spec (P := P) hF hlo hhi hmx hmh h3' h4 h5 true w
        exact ⟨_, w, fin _ m hh ll h1 h7.1, ⟨B, hB, cut_eq hlt⟩, Step.refl s⟩
      · simp only [R.bind_eq, R.when_eq] at hv
        obtain ⟨hh, h4, hb, ll, h5, hv⟩ := hv
        have hb := bleT hb
        have hmx' : mx = none := by cases mx with
          | none => rfl
          | some y => simp only [cOpt, Option.map_eq_some_iff] at hmx; obtain ⟨_, _, hmx⟩ := hmx; cases hmx
        subst hmx'
        have h4' : boundO tm ((B.sz - off) / B.es) n shi = .ok hh := by
          cases shi with
          | none => exact h4
          | some y => exact boundN_le h4 hkn.1
        have h7 := sliceBounds_spec (P := P) hF (mx := none) (smx := none) hlo hhi rfl (by simp) (cap := (B.sz - off) / B.es) rfl h4' h5 true w
        have h8 := fin _ _ hh ll h1 h7.1
        rw [bite_eq] at hv
        split at hv
        · rename_i hcond
          cases hv
          refine ⟨_, w, h8, ⟨B, hB, ?_⟩, Step.refl s⟩
          simp only [Nat.add_eq, Nat.mul_eq, Nat.sub_eq, if_true]
          simp only [Bool.or_eq_true] at hcond
          have hdiv : (B.sz - (off + ll * ei.size)) / B.es = (B.sz - off) / B.es - ll := by
            rw [hkn.2.1, Nat.sub_add_eq, Nat.mul_comm, Nat.sub_mul_div]
          rw [hdiv]
          by_cases hc2 : (B.sz - off) / B.es = ll
          · rw [if_pos hc2]
            have : ll = 0 := by
              rcases hcond with (hq | hq) | hq
              · have := bltT hq; omega
              · have := bltT hq; omega
              · exact beqT hq
            subst this
            simp
          · rw [if_neg hc2, addr_add]
        · cases hv
          rename_i hcond
          have : hh = ll := by
            have hq : ¬ ll < hh := fun hq => hcond (by simp [Nat.blt, Nat.ble_eq_true_of_le (show ll + 1 ≤ hh from hq)])
            omega
          subst this
          rw [Nat.sub_self] at h8
          by_cases hc2 : (B.sz - off) / B.es = hh
          · rw [if_pos hc2] at h8
            exact ⟨_, w, h8, ⟨B, _, _, hB, rfl⟩, Step.refl s⟩
          · rw [if_neg hc2, addr_add] at h8
            exact ⟨_, w, h8, ⟨B, _, _, hB, rfl⟩, Step.refl s⟩
    · rename_i hc
      have hc : ¬ cap = UNK := fun hh => hc (by rw [hh]; rfl)
      rw [if_neg hc] at h1
      simp only [R.bind_eq, R.when_eq, cutV] at hv
      obtain ⟨m, h3, hh, h4, _, ll, h5, h6, hv⟩ := hv
      cases hv
      have hlt := bltT h6
      have h7 := sliceBounds_spec (P := P) hF hlo hhi hmx hmh h3 h4 h5 true w
      exact ⟨_, w, fin _ m hh ll h1 h7.1, ⟨B, hB, cut_eq hlt⟩, Step.refl s⟩
  · cases hv
omit hC in
theorem eqp_nil {t e : Nat} (hd : P.underlying t = some (.pointer e)) (p q : Option Addr) (r : Bool) (h : (p = none ∧ q = none ∧ r = true) ∨ (p = none ∧ q.isSome = true ∧ r = false) ∨ (p.isSome = true ∧ q = none ∧ r = false)) (d : Nat) (w : World) :
    (Op.equalIn (d + 1) t (.pointer p) (.pointer q)).run P w = .ok r w := by
  rcases h with ⟨rfl, rfl, rfl⟩ | ⟨rfl, h, rfl⟩ | ⟨h, rfl, rfl⟩
  · simp [Op.equalIn, run_underlying hd]
  · cases q with
    | none => cases h
    | some q => simp [Op.equalIn, run_underlying hd]
  · cases p with
    | none => cases h
    | some q => simp [Op.equalIn, run_underlying hd]
omit hC in
theorem eqp_some {t e : Nat} {ei : TI} (hd : P.underlying t = some (.pointer e)) (hei : TIok P e ei) (hz : ei.size ≠ 0) (p q : Addr) (r : Bool) (d : Nat) (w : World) (h : (sameAddr p q).run P w = .ok r w) :
    (Op.equalIn (d + 1) t (.pointer (some p)) (.pointer (some q))).run P w = .ok r w := by
  simp [Op.equalIn, run_underlying hd, hei.sizeOf, hz, h]
omit hC in
theorem rs_peq {t : TypeId} {neg : Bool} {e : Nat} {ei : TI} (hC : CxOK C P) (hd : P.underlying t = some (.pointer e)) (hei : C.ty e = some ei) (hz : ei.size ≠ 0) {x y : Operand} {sx sy : Opd} (hx : cOpd nb x = some sx) (hy : cOpd nb y = some sy) {t2 : TypeId}
    (ho : o.op = .binOp (if neg then .neq else .eql) t x y t2) : RSound sha P nb o (rPeq neg sx sy) := by
  intro E ρ tm h a v w hF s hv
  have h1 := cOpd_VR hF hx
  have h2 := cOpd_VR hF hy
  have fin : ∀ (p q : Option Addr) (r : Bool), a.eval x = .pointer p → a.eval y = .pointer q → (Op.equalIn 10000 t (.pointer p) (.pointer q)).run P w = .ok r w → (execOp a.eval o).run P w = .ok (.value (.bool (r != neg))) w := by
    intro p q r h3 h4 h5
    have h6 : (Op.equal t (.pointer p) (.pointer q)).run P w = .ok r w := h5
    cases neg
    · simp only [Bool.false_eq_true, if_false] at ho
      simp [execOp, ho, h3, h4, eqGuard, binOp, h6]
    · simp only [if_true] at ho
      simp [execOp, ho, h3, h4, eqGuard, binOp, h6]
  simp only [rPeq, peqV] at hv
  split at hv
  · rename_i ha hb
    rw [ha] at h1
    rw [hb] at h2
    cases hv
    exact ⟨_, w, fin none none true h1 h2 (eqp_nil hd _ _ _ (by simp) 9999 w), rfl, Step.refl s⟩
  · rename_i ha hb
    rw [ha] at h1
    rw [hb] at h2
    obtain ⟨B, _, h2⟩ := h2
    cases hv
    exact ⟨_, w, fin none _ false h1 h2 (eqp_nil hd _ _ _ (by simp) 9999 w), rfl, Step.refl s⟩
  · rename_i ha hb
    rw [ha] at h1
    rw [hb] at h2
    obtain ⟨B, _, h1⟩ := h1
    cases hv
    exact ⟨_, w, fin _ none false h1 h2 (eqp_nil hd _ _ _ (by simp) 9999 w), rfl, Step.refl s⟩
  · rename_i b1 o1 b2 o2 ha hb
    rw [ha] at h1
    rw [hb] at h2
    obtain ⟨B1, hB1, h1⟩ := h1
    obtain ⟨B2, hB2, h2⟩ := h2
    split at hv
    · rename_i c1 e1 op1 c2 e2 op2 hg1 hg2
      simp only [R.when_eq, Bool.and_eq_true] at hv
      obtain ⟨⟨⟨k1, k2⟩, k3⟩, hv⟩ := hv
      cases hv
      obtain ⟨cs, fz, us, rest, g1, g2, g3, g4, g5, g6, g7⟩ := s.cells hB1 hg1
      obtain ⟨cs', fz', us', rest', f1, f2, f3, f4, f5, f6, f7⟩ := s.cells hB2 hg2
      have l1 : o1 < cs.size := by
        have := bltT k1
        rw [CR.len_eq (CRR_iff.1 g2).1, ← (CRR_iff.1 g2).2.length] at this
        rw [← Array.length_toList, g3]; simp; omega
      have l2 : o2 < cs'.size := by
        have := bltT k2
        rw [CR.len_eq (CRR_iff.1 f2).1, ← (CRR_iff.1 f2).2.length] at this
        rw [← Array.length_toList, f3]; simp; omega
      have hbk : B1.k = B2.k ↔ b1 = b2 := ⟨fun hk => s.inj _ _ _ _ _ _ hg1 hg2 hB1 hB2 hk, fun hk => by subst hk; rw [hB1] at hB2; cases hB2; rfl⟩
      have key : (sameAddr ⟨B1.k, o1, none⟩ ⟨B2.k, o2, none⟩).run P w = .ok (Pa.beq b1 b2 && Nat.beq o1 o2) w := by
        by_cases hk : B1.k = B2.k
        · have hb := hbk.1 hk
          subst hb
          have : Pa.beq b1 b1 = true := Pa.beq_iff.2 rfl
          simp only [sameAddr, hk, beq_self_eq_true, if_true, this, Bool.true_and]
          simp only [Sem.run_pure]
          congr 1
          rw [Bool.eq_iff_iff]
          simp [Addr.mk.injEq]
        · have hb : Pa.beq b1 b2 = false := by
            cases hq : Pa.beq b1 b2 with
            | false => rfl
            | true => exact absurd (hbk.2 (Pa.beq_iff.1 hq)) hk
          have fr1 : w.frozen? ⟨B1.k, o1, none⟩ = false := by
            simp only [World.frozen?, g1]
            rcases g7 with rfl | ⟨g7, _⟩
            · simp
            · simp; intro hh; omega
          have fr2 : w.frozen? ⟨B2.k, o2, none⟩ = false := by
            simp only [World.frozen?, f1]
            rcases f7 with rfl | ⟨f7, _⟩
            · simp
            · simp; intro hh; omega
          have sh1 : w.shape? B1.k = some (e1, cs.size) := by simp [World.shape?, g1]
          have sh2 : w.shape? B2.k = some (e2, cs'.size) := by simp [World.shape?, f1]
          rw [hb] at k3
          have st0 : ∀ (B : Blk) (off : Nat) (cs : Array Value) (e : Nat), w.heap[B.k]? = some (.cells cs e (0, 0)) → (stringish ⟨B.k, off, none⟩).run P w = .ok false w := by
            intro B off cs e hg
            simp [stringish, World.frozen?, World.shape?, hg]
          have stx : ∀ (B : Blk) (off : Nat) (cs : Array Value) (e : Nat) (fz : Nat × Nat), w.heap[B.k]? = some (.cells cs e fz) → ∃ r, (stringish ⟨B.k, off, none⟩).run P w = .ok r w := by
            intro B off cs e fz hg
            simp only [stringish, Sem.run_bind, run_frozen, Result.andThen_ok]
            split
            · exact ⟨_, rfl⟩
            · simp [World.shape?, hg]
          have may : (mayBeOne ⟨B1.k, o1, none⟩ ⟨B2.k, o2, none⟩).run P w = .ok false w := by
            obtain ⟨r1, hr1⟩ := stx B1 o1 cs e1 fz g1
            obtain ⟨r2, hr2⟩ := stx B2 o2 cs' e2 fz' f1
            have hr : (r1 && r2) = false := by
              have hby := s.env.byt
              rcases g7 with rfl | ⟨_, g7⟩
              · rw [st0 B1 o1 cs e1 g1] at hr1; cases hr1; rfl
              · rcases f7 with rfl | ⟨_, f7⟩
                · rw [st0 B2 o2 cs' e2 f1] at hr2; cases hr2; simp
                · rw [hby] at g7 f7
                  simp [g7, f7] at k3
            have sh1 : w.shape? B1.k = some (e1, cs.size) := by simp [World.shape?, g1]
            have sh2 : w.shape? B2.k = some (e2, cs'.size) := by simp [World.shape?, f1]
            obtain ⟨m1, hm1⟩ : ∃ m, cs.size = m + 1 := ⟨cs.size - 1, by omega⟩
            obtain ⟨m2, hm2⟩ : ∃ m, cs'.size = m + 1 := ⟨cs'.size - 1, by omega⟩
            rw [hm1] at sh1
            rw [hm2] at sh2
            simp only [mayBeOne, Sem.run_bind, hr1, hr2, Result.andThen_ok, Sem.run_pure, run_shape, sh1, sh2]
            simp [hr]
          have nv : ∀ (B : Blk) (off : Nat) (cs : Array Value) (e : Nat) (fz : Nat × Nat), w.heap[B.k]? = some (.cells cs e fz) → (noView ⟨B.k, off, none⟩).run P w = .ok () w := by
            intro B off cs e fz hg
            simp [noView, viewAt, World.shape?, hg]
          simp only [sameAddr]
          rw [if_neg (by simpa using hk)]
          simp only [Sem.run_bind, run_frozen, Result.andThen_ok, fr1, fr2, Bool.and_self, Bool.false_eq_true, if_false, nv B1 o1 cs e1 fz g1, nv B2 o2 cs' e2 fz' f1, may, Sem.run_pure, hb, Bool.false_and]
      have h3 : (Op.equalIn 10000 t (.pointer (some ⟨B1.k, o1, none⟩)) (.pointer (some ⟨B2.k, o2, none⟩))).run P w = .ok (Pa.beq b1 b2 && Nat.beq o1 o2) w := by
        exact eqp_some hd (hC _ _ hei) hz _ _ _ 9999 w key
      exact ⟨_, w, fin _ _ _ h1 h2 h3, rfl, Step.refl s⟩
    · cases hv
  · cases hv
end
end Go.SE
namespace Go.SE
/-! # Maps -/
theorem PairsR.append {ρ : Ren} : ∀ {l l' : List (V × V)} {p p' : List (Value × Value)}, PairsR ρ l p → PairsR ρ l' p' → PairsR ρ (l ++ l') (p ++ p')
  | [], _, p, _, h, h' => by rw [show p = [] from h]; exact h'
  | (_, _) :: _, _, _, _, ⟨a, b, ps, h1, h2, h3, h4⟩, h' => by subst h4; exact ⟨a, b, _, h1, h2, h3.append h', rfl⟩
theorem PairsR.split {ρ : Ren} : ∀ {l l' : List (V × V)} {p : List (Value × Value)}, PairsR ρ (l ++ l') p → ∃ p1 p2, PairsR ρ l p1 ∧ PairsR ρ l' p2 ∧ p = p1 ++ p2
  | [], _, p, h => ⟨[], p, rfl, h, rfl⟩
  | (k, v) :: l, l', p, h => by
    obtain ⟨a, b, ps, h1, h2, h3, rfl⟩ := h
    obtain ⟨p1, p2, h4, h5, rfl⟩ := h3.split
    exact ⟨(a, b) :: p1, p2, ⟨a, b, p1, h1, h2, h4, rfl⟩, h5, rfl⟩
theorem PairsR.mem {ρ : Ren} : ∀ {l : List (V × V)} {p : List (Value × Value)}, PairsR ρ l p → ∀ {x : Value × Value}, x ∈ p → ∃ pre a v post, l = pre ++ (a, v) :: post ∧ VR ρ a x.1 ∧ VR ρ v x.2 ∧ ∃ q1 q2, p = q1 ++ x :: q2 ∧ PairsR ρ pre q1 ∧ PairsR ρ post q2
  | [], p, h, x, hx => by rw [show p = [] from h] at hx; cases hx
  | (k, v) :: l, p, h, x, hx => by
    obtain ⟨a, b, ps, h1, h2, h3, rfl⟩ := h
    rcases List.mem_cons.1 hx with rfl | hx
    · exact ⟨[], k, v, l, rfl, h1, h2, [], ps, rfl, rfl, h3⟩
    · obtain ⟨pre, a', v', post, rfl, h5, h6, q1, q2, rfl, h7, h8⟩ := h3.mem hx
      exact ⟨(k, v) :: pre, a', v', post, rfl, h5, h6, (a, b) :: q1, q2, rfl, ⟨a, b, q1, h1, h2, h7, rfl⟩, h8⟩
theorem MapR.pick {ρ : Ren} {es : List (V × V)} {ce : Array MapEntry} {clock : Nat} (h : MapR ρ es ce clock) {pre post : List (V × V)} {a v : V} (he : es = pre ++ (a, v) :: post) :
    ∃ A e B p1 p2, ce.toList = A ++ e :: B ∧ VR ρ a e.key ∧ VR ρ v e.val ∧ PairsR ρ pre p1 ∧ PairsR ρ post p2 ∧ (p1 ++ p2).Perm (pairs (A ++ B)) := by
  obtain ⟨ps, h1, h2⟩ := h.ps
  rw [he] at h1
  obtain ⟨p1, p3, h3, h4, rfl⟩ := h1.split
  obtain ⟨x, y, p2, h5, h6, h7, rfl⟩ := h4
  have hm : (x, y) ∈ pairs ce.toList := h2.subset (by simp)
  simp only [pairs, List.mem_map] at hm
  obtain ⟨e, hem, hxy⟩ := hm
  cases hxy
  obtain ⟨A, B, hAB⟩ := List.append_of_mem hem
  refine ⟨A, e, B, p1, p2, hAB, h5, h6, h3, h7, ?_⟩
  rw [hAB] at h2
  have h8 : (p1 ++ (e.key, e.val) :: p2).Perm ((e.key, e.val) :: (p1 ++ p2)) := List.perm_middle
  have h9 : (pairs (A ++ e :: B)).Perm ((e.key, e.val) :: pairs (A ++ B)) := by
    simp only [pairs, List.map_append, List.map_cons]
    exact List.perm_middle
  exact (List.perm_cons _).1 ((h8.symm.trans h2).trans h9)
theorem MapR.find {ρ : Ren} {es : List (V × V)} {ce : Array MapEntry} {clock : Nat} (h : MapR ρ es ce clock) {e : MapEntry} (he : e ∈ ce.toList) : ∃ a v, (a, v) ∈ es ∧ VR ρ a e.key ∧ VR ρ v e.val := by
  obtain ⟨ps, h1, h2⟩ := h.ps
  have : (e.key, e.val) ∈ ps := h2.symm.subset (List.mem_map.2 ⟨e, he, rfl⟩)
  obtain ⟨pre, a, v, post, rfl, h3, h4, _⟩ := h1.mem this
  exact ⟨a, v, by simp, h3, h4⟩
theorem findK_cases {E : Env} {K : CR CK} {k : V} : ∀ {es : List (V × V)} {r : Option V}, findK E K k es = some r →
    (∃ pre a v post, es = pre ++ (a, v) :: post ∧ r = some v ∧ veq E K k a = some true) ∨ (r = none ∧ ∀ a v, (a, v) ∈ es → veq E K k a = some false)
  | [], r, h => by simp [findK] at h; subst h; exact .inr ⟨rfl, by simp⟩
  | (a, v) :: es, r, h => by
    simp only [findK] at h
    split at h
    · rename_i hq; cases h; exact .inl ⟨[], a, v, es, rfl, rfl, hq⟩
    · rename_i hq
      rcases findK_cases h with ⟨pre, a', v', post, rfl, h2, h3⟩ | ⟨h2, h3⟩
      · exact .inl ⟨(a, v) :: pre, a', v', post, rfl, h2, h3⟩
      · refine .inr ⟨h2, fun a' v' hm => ?_⟩
        rcases List.mem_cons.1 hm with he | hm
        · cases he; exact hq
        · exact h3 a' v' hm
    · cases h
theorem updK_cases {E : Env} {K : CR CK} {k x : V} : ∀ {es es' : List (V × V)}, updK E K k x es = some es' →
    (∃ pre a v post, es = pre ++ (a, v) :: post ∧ es' = pre ++ (a, x) :: post ∧ veq E K k a = some true) ∨ (es' = es ++ [(k, x)] ∧ ∀ a v, (a, v) ∈ es → veq E K k a = some false)
  | [], es', h => by simp [updK] at h; subst h; exact .inr ⟨rfl, by simp⟩
  | (a, v) :: es, es', h => by
    simp only [updK] at h
    split at h
    · rename_i hq; cases h; exact .inl ⟨[], a, v, es, rfl, rfl, hq⟩
    · rename_i hq
      simp only [Option.map_eq_some_iff] at h
      obtain ⟨es2, h, rfl⟩ := h
      rcases updK_cases h with ⟨pre, a', v', post, rfl, rfl, h3⟩ | ⟨rfl, h3⟩
      · exact .inl ⟨(a, v) :: pre, a', v', post, rfl, rfl, h3⟩
      · refine .inr ⟨rfl, fun a' v' hm => ?_⟩
        rcases List.mem_cons.1 hm with he | hm
        · cases he; exact hq
        · exact h3 a' v' hm
    · cases h
theorem delK_cases {E : Env} {K : CR CK} {k : V} : ∀ {es es' : List (V × V)}, delK E K k es = some es' →
    (∃ pre a v post, es = pre ++ (a, v) :: post ∧ es' = pre ++ post ∧ veq E K k a = some true) ∨ (es' = es ∧ ∀ a v, (a, v) ∈ es → veq E K k a = some false)
  | [], es', h => by simp [delK] at h; subst h; exact .inr ⟨rfl, by simp⟩
  | (a, v) :: es, es', h => by
    simp only [delK] at h
    split at h
    · rename_i hq; cases h; exact .inl ⟨[], a, v, es, rfl, rfl, hq⟩
    · rename_i hq
      simp only [Option.map_eq_some_iff] at h
      obtain ⟨es2, h, rfl⟩ := h
      rcases delK_cases h with ⟨pre, a', v', post, rfl, rfl, h3⟩ | ⟨rfl, h3⟩
      · exact .inl ⟨(a, v) :: pre, a', v', post, rfl, rfl, h3⟩
      · refine .inr ⟨rfl, fun a' v' hm => ?_⟩
        rcases List.mem_cons.1 hm with he | hm
        · cases he; exact hq
        · exact h3 a' v' hm
    · cases h
section
variable {P : Program}
def Cmp (P : Program) (kt : Nat) (d : TypeDesc) (u : Value) (e : MapEntry) : Prop :=
  ∃ r, (∀ w, (Op.equal kt u e.key).run P w = .ok r w) ∧ (r = true ↔ u = e.key) ∧ (∀ c, Instr.sameNow d u e.key = some c → c = r)
theorem findAsking_none {kt : Nat} {d : TypeDesc} {u : Value} (w : World) : ∀ (l : List MapEntry) (i : Nat), (∀ e ∈ l, Cmp P kt d u e) → (∀ e ∈ l, e.key ≠ u) → (Instr.findAsking kt u l i).run P w = .ok none w
  | [], _, _, _ => rfl
  | e :: l, i, h1, h2 => by
    obtain ⟨r, h3, h4, _⟩ := h1 e (by simp)
    have : r = false := by cases r; rfl; exact absurd (h4.1 rfl).symm (h2 e (by simp))
    subst this
    simp [Instr.findAsking, h3, findAsking_none w l (i + 1) (fun x hx => h1 x (by simp [hx])) (fun x hx => h2 x (by simp [hx]))]
theorem findAsking_some {kt : Nat} {d : TypeDesc} {u : Value} (w : World) {e : MapEntry} {B : List MapEntry} (he : u = e.key) : ∀ (A : List MapEntry) (i : Nat), (∀ x ∈ A ++ e :: B, Cmp P kt d u x) → (∀ x ∈ A, x.key ≠ u) →
    (Instr.findAsking kt u (A ++ e :: B) i).run P w = .ok (some (i + A.length, e.val)) w
  | [], i, h1, _ => by
    obtain ⟨r, h3, h4, _⟩ := h1 e (by simp)
    have := h4.2 he
    subst this
    simp [Instr.findAsking, h3]
  | x :: A, i, h1, h2 => by
    obtain ⟨r, h3, h4, _⟩ := h1 x (by simp)
    have : r = false := by cases r; rfl; exact absurd (h4.1 rfl).symm (h2 x (by simp))
    subst this
    have ih := findAsking_some w he A (i + 1) (fun y hy => h1 y (by simp at hy ⊢; right; exact hy)) (fun y hy => h2 y (by simp [hy]))
    simp only [List.cons_append, Instr.findAsking, Sem.run_bind, h3, Result.andThen_ok, Bool.false_eq_true, if_false, ih, List.length_cons]
    congr 3; omega
theorem findNow_none {kt : Nat} {d : TypeDesc} {u : Value} : ∀ (l : List MapEntry) (i : Nat) (r : Option (Nat × Value)), (∀ e ∈ l, Cmp P kt d u e) → (∀ e ∈ l, e.key ≠ u) → Instr.findNow d u l i = some r → r = none
  | [], _, r, _, _, h => by simp [Instr.findNow] at h; exact h.symm
  | e :: l, i, r, h1, h2, h => by
    simp only [Instr.findNow] at h
    split at h
    · rename_i hq
      obtain ⟨r', h3, h4, h5⟩ := h1 e (by simp)
      exact absurd (h4.1 (h5 _ hq).symm).symm (h2 e (by simp))
    · exact findNow_none l (i + 1) r (fun x hx => h1 x (by simp [hx])) (fun x hx => h2 x (by simp [hx])) h
    · cases h
theorem findNow_some {kt : Nat} {d : TypeDesc} {u : Value} {e : MapEntry} {B : List MapEntry} (he : u = e.key) : ∀ (A : List MapEntry) (i : Nat) (r : Option (Nat × Value)), (∀ x ∈ A ++ e :: B, Cmp P kt d u x) → (∀ x ∈ A, x.key ≠ u) →
    Instr.findNow d u (A ++ e :: B) i = some r → r = some (i + A.length, e.val)
  | [], i, r, h1, _, h => by
    obtain ⟨r', h3, h4, h5⟩ := h1 e (by simp)
    simp only [List.nil_append, Instr.findNow] at h
    split at h
    · cases h; rfl
    · rename_i hq
      have := h5 _ hq
      rw [h4.2 he] at this
      cases this
    · cases h
  | x :: A, i, r, h1, h2, h => by
    simp only [List.cons_append, Instr.findNow] at h
    split at h
    · rename_i hq
      obtain ⟨r', h3, h4, h5⟩ := h1 x (by simp)
      exact absurd (h4.1 (h5 _ hq).symm).symm (h2 x (by simp))
    · have := findNow_some he A (i + 1) r (fun y hy => h1 y (by simp at hy ⊢; right; exact hy)) (fun y hy => h2 y (by simp [hy])) h
      rw [this]; congr 2; simp; omega
    · cases h
theorem findKey_none {kt : Nat} {d : TypeDesc} {u : Value} (hd : P.underlying kt = some d) (w : World) (l : List MapEntry) (h1 : ∀ e ∈ l, Cmp P kt d u e) (h2 : ∀ e ∈ l, e.key ≠ u) : (Instr.findKey kt u l).run P w = .ok none w := by
  simp only [Instr.findKey, Sem.run_bind, run_underlying hd, Result.andThen_ok]
  split
  · rename_i r hr
    rw [findNow_none l 0 r h1 h2 hr]; rfl
  · exact findAsking_none w l 0 h1 h2
theorem findKey_some {kt : Nat} {d : TypeDesc} {u : Value} (hd : P.underlying kt = some d) (w : World) {e : MapEntry} {A B : List MapEntry} (he : u = e.key) (h1 : ∀ x ∈ A ++ e :: B, Cmp P kt d u x) (h2 : ∀ x ∈ A, x.key ≠ u) : (Instr.findKey kt u (A ++ e :: B)).run P w = .ok (some (A.length, e.val)) w := by
  simp only [Instr.findKey, Sem.run_bind, run_underlying hd, Result.andThen_ok]
  split
  · rename_i r hr
    rw [findNow_some he A 0 r h1 h2 hr, Nat.zero_add]; rfl
  · rw [findAsking_some w he A 0 h1 h2, Nat.zero_add]
theorem kindedL_inj : ∀ {ks ks' : List CK} {us : List Value}, kindedL ks us → kindedL ks' us → ks = ks'
  | [], [], _, _, _ => rfl
  | [], _ :: _, _, h1, ⟨_, _, h2, _⟩ => by rw [show _ = [] from h1] at h2; cases h2
  | _ :: _, [], _, ⟨_, _, h2, _⟩, h1 => by rw [show _ = [] from h1] at h2; cases h2
  | k :: ks, k' :: ks', _, ⟨a, us, e1, h1, h2⟩, ⟨b, us', e2, h3, h4⟩ => by
    subst e1
    cases e2
    rw [kindedL_inj h2 h4]
    congr 1
    cases k <;> cases k' <;> simp only [kinded1] at h1 h3 <;> obtain ⟨_, rfl⟩ := h1 <;> obtain ⟨_, h3⟩ := h3 <;> cases h3 <;> rfl
theorem Sh.inj {agg agg' : Bool} {ks ks' : List CK} {u : Value} (h : Sh agg ks u) (h' : Sh agg' ks' u) : agg = agg' ∧ ks = ks' := by
  obtain ⟨us, h1, h2⟩ := h
  obtain ⟨us', h3, h4⟩ := h'
  have cell : ∀ {ks : List CK} {x : Value} {a : Array Value}, kindedL ks [x] → x ≠ .agg a := by
    intro ks x a hk he
    subst he
    cases ks with
    | nil => cases hk
    | cons k ks =>
      obtain ⟨_, _, e1, h1, _⟩ := hk
      cases e1
      cases k <;> simp only [kinded1] at h1 <;> obtain ⟨_, h1⟩ := h1 <;> cases h1
  cases agg <;> cases agg'
  · have e1 : us = [u] := h1
    have e2 : us' = [u] := h3
    subst e1
    subst e2
    exact ⟨rfl, kindedL_inj h2 h4⟩
  · have e1 : us = [u] := h1
    subst e1
    exact absurd h3 (cell h2)
  · have e1 : us' = [u] := h3
    subst e1
    exact absurd h1 (cell h4)
  · have e : us = us' := by have := (show u = .agg us.toArray from h1).symm.trans (show u = .agg us'.toArray from h3); simpa using this
    subst e
    exact ⟨rfl, kindedL_inj h2 h4⟩
variable {E : Env} {ρ : Ren} (hE : EnvOK E ρ) {kt : Nat} {d : TypeDesc} {K : CR CK} (hd : P.underlying kt = some d) (hq : EqKey P kt K) {es : List (V × V)} {ce : Array MapEntry} {clock : Nat} (hm : MapR ρ es ce clock) {k : V} {u : Value} (hk : VR ρ k u)
include hE hd hq hm hk
/-- found: the very entry -/
theorem map_found {pre post : List (V × V)} {a v : V} (he : es = pre ++ (a, v) :: post) (hv : veq E K k a = some true) :
    ∃ A e B p1 p2, ce.toList = A ++ e :: B ∧ u = e.key ∧ VR ρ a e.key ∧ VR ρ v e.val ∧ PairsR ρ pre p1 ∧ PairsR ρ post p2 ∧ (p1 ++ p2).Perm (pairs (A ++ B)) ∧ (∀ w, (Instr.findKey kt u ce.toList).run P w = .ok (some (A.length, e.val)) w) ∧ Instr.sameBits 10000 e.key u = true := by
  obtain ⟨A, e, B, p1, p2, h1, h2, h3, h4, h5, h6⟩ := hm.pick he
  obtain ⟨h7, h8, h9, h10⟩ := hq.1 E ρ k a u e.key true hE hk h2 hv
  have hu := h8.1 rfl
  obtain ⟨hsb, hsh⟩ := h10 rfl
  obtain ⟨agg, ks, hall⟩ := hm.shape
  have hall2 : ∀ x ∈ ce.toList, Sh (!isOne K) K.toL x.key := by
    intro x hx
    have e1 := hall e (by rw [h1]; simp)
    rw [← hu] at e1
    obtain ⟨us, q1, q2⟩ := hsh
    obtain ⟨us', q3, q4⟩ := e1
    have key : agg = !isOne K ∧ ks = K.toL := by
      have cell : ∀ {ks : List CK} {x : Value} {a : Array Value}, kindedL ks [x] → x ≠ .agg a := by
        intro ks x a hk he
        subst he
        cases ks with
        | nil => cases hk
        | cons k ks =>
          obtain ⟨_, _, e1, h1, _⟩ := hk
          cases e1
          cases k <;> simp only [kinded1] at h1 <;> obtain ⟨_, h1⟩ := h1 <;> cases h1
      generalize (!isOne K) = ag at q1
      cases agg <;> cases ag
      · have e1 : us = [u] := q1
        have e2 : us' = [u] := q3
        subst e1
        subst e2
        exact ⟨rfl, kindedL_inj q4 q2⟩
      · have e2 : us' = [u] := q3
        subst e2
        exact absurd q1 (cell q4)
      · have e1 : us = [u] := q1
        subst e1
        exact absurd q3 (cell q2)
      · have e : us = us' := by have := (show u = .agg us.toArray from q1).symm.trans (show u = .agg us'.toArray from q3); simpa using this
        subst e
        exact ⟨rfl, kindedL_inj q4 q2⟩
    rw [← key.1, ← key.2]
    exact hall x hx
  have hcmp : ∀ x ∈ ce.toList, Cmp P kt d u x := fun x hx => by
    obtain ⟨r, c1, c2, c3⟩ := hq.2.1 u x.key hsh (hall2 x hx)
    exact ⟨r, c1, c2, c3 d hd⟩
  have hne : ∀ x ∈ A, x.key ≠ u := by
    intro x hx hh
    have hn := hm.keys
    rw [h1] at hn
    simp only [List.map_append, List.map_cons, List.nodup_append] at hn
    exact hn.2.2 x.key (List.mem_map.2 ⟨x, hx, rfl⟩) e.key (by simp) (by rw [hh, hu])
  refine ⟨A, e, B, p1, p2, h1, hu, h2, h3, h4, h5, h6, fun w => ?_, hsb⟩
  rw [h1] at hcmp ⊢
  exact findKey_some hd w hu hcmp hne
/-- not found: none has the key -/
theorem map_missing (hv : ∀ a v, (a, v) ∈ es → veq E K k a = some false) : (∀ e ∈ ce.toList, e.key ≠ u) ∧ (∀ w, (Instr.findKey kt u ce.toList).run P w = .ok none w) := by
  have h1 : ∀ e ∈ ce.toList, Cmp P kt d u e ∧ e.key ≠ u := by
    intro e he
    obtain ⟨a, v, hm1, hm2, _⟩ := hm.find he
    obtain ⟨h7, h8, h9, h10⟩ := hq.1 E ρ k a u e.key false hE hk hm2 (hv a v hm1)
    exact ⟨⟨false, h7, h8, h9 d hd⟩, fun hh => by have := h8.2 hh.symm; cases this⟩
  exact ⟨fun e he => (h1 e he).2, fun w => findKey_none hd w ce.toList (fun e he => (h1 e he).1) (fun e he => (h1 e he).2)⟩
end
variable {sha : List UInt8 → Nat → UInt8}
theorem St.map {E : Env} {ρ : Ren} {h : H} {w : World} (s : St sha E ρ h w) {r : Pa} {B : Blk} (hB : ρ.β r = some B) {es : List (V × V)} {ver : Pa} (hg : h.get r = some (.map es ver)) :
    ∃ ce clock, w.heap[B.k]? = some (.map ce clock) ∧ ρ.mv ver = some (ce, clock) ∧ MapR ρ es ce clock := by
  obtain ⟨B', hB', ho⟩ := s.objs r _ hg
  rw [hB] at hB'
  cases hB'
  exact ho
section
variable {P : Program} {nb : Nat} {o : Oper} {C : Cx} (hC : CxOK C P)
include hC
theorem rs_lk {t : TypeId} {ti ki ei : TI} {kt et : Nat} (hti : C.ty t = some ti) (hd : ti.d = .map kt et) (hki : C.ty kt = some ki) (hei : C.ty et = some ei) {K : CR CK} (hK : ki.eq = some K) {z : V} (hz : ei.zero = some z)
    {m k : Operand} {sm sk : Opd} (hm : cOpd nb m = some sm) (hk : cOpd nb k = some sk) {ok : Bool} (ho : o.op = .lookup t m k ok) : RSound sha P nb o (rLk K z sm sk ok) := by
  intro E ρ tm h a v w hF s hv
  have h1 := cOpd_VR hF hm
  have h2 := cOpd_VR hF hk
  have hq := ((hC _ _ hki).eq K hK).2
  obtain ⟨dk, hdk⟩ : ∃ d, P.underlying kt = some d := by
    have := (hC _ _ hki).d
    cases hD : ki.d <;> rw [hD] at this <;> simp only [DR] at this
    all_goals first
      | exact ⟨_, this⟩
      | (obtain ⟨_, h, _⟩ := this; exact ⟨_, h⟩)
      | (obtain ⟨_, _, _, h⟩ := this; exact ⟨_, h⟩)
      | (obtain ⟨_, h⟩ := this; exact ⟨_, h⟩)
  have h3 := (hC _ _ hti).d
  rw [hd] at h3
  have h3' : P.underlying t = some (.map kt et) := h3
  simp only [rLk, lkV, R.when_eq] at hv
  obtain ⟨hko, hv⟩ := hv
  have hck := hq.2.2 ρ _ _ h2 hko
  obtain ⟨zu, hzu, hzr⟩ := (hC _ _ hei).zeroV w hz
  have okR : ∀ (f : Bool) (x : V) (y : Value), VR ρ x y → VR ρ (okV ok f x) (if ok then .tuple #[y, .bool f] else y) := by
    intro f x y hxy
    cases ok
    · exact hxy
    · exact ⟨[y, .bool f], ⟨y, [.bool f], hxy, ⟨.bool f, [], rfl, rfl, rfl⟩, rfl⟩, rfl⟩
  split at hv
  · rename_i hmm
    rw [hmm] at h1
    cases hv
    refine ⟨_, w, ?_, okR false z zu (hzr ρ), Step.refl s⟩
    simp only [VR] at h1
    have hf := findKey_none (u := a.eval k) hdk w [] (by simp) (by simp)
    simp [execOp, ho, h1, Instr.lookup, run_underlying h3', hck, hf, hzu]
  · rename_i r hmm
    rw [hmm] at h1
    obtain ⟨B, hB, h1⟩ := h1
    split at hv
    · rename_i es ver hg
      obtain ⟨ce, clock, g1, g2, g3⟩ := s.map hB hg
      split at hv
      · rename_i v' hf
        cases hv
        rcases findK_cases hf with ⟨pre, a', v'', post, he, hr, hveq⟩ | ⟨hr, _⟩
        · cases hr
          obtain ⟨A, e, B', p1, p2, f1, f2, f3, f4, f5, f6, f7, f8, f9⟩ := map_found s.env hdk hq g3 h2 he hveq
          refine ⟨_, w, ?_, okR true _ e.val f4, Step.refl s⟩
          simp [execOp, ho, h1, Instr.lookup, run_underlying h3', gget_map g1, hck, f8]
        · cases hr
      · rename_i hf
        cases hv
        rcases findK_cases hf with ⟨pre, a', v'', post, he, hr, hveq⟩ | ⟨_, hall⟩
        · cases hr
        · obtain ⟨_, f8⟩ := map_missing s.env hdk hq g3 h2 hall
          refine ⟨_, w, ?_, okR false z zu (hzr ρ), Step.refl s⟩
          simp [execOp, ho, h1, Instr.lookup, run_underlying h3', gget_map g1, hck, f8, hzu]
      · cases hv
    · cases hv
  · cases hv
omit hC in
theorem rs_ent {x : Operand} {sx : Opd} (hx : cOpd nb x = some sx) (ho : o.op = .entry x) : RSound sha P nb o (rEnt sx) := by
  intro E ρ tm h a v w hF s hv
  have h1 := cOpd_VR hF hx
  simp only [rEnt, entV] at hv
  split at hv
  · rename_i r off hr
    rw [hr] at h1
    obtain ⟨B, hB, h1⟩ := h1
    split at hv
    · rename_i m ver lft k v' hg
      split at hv
      · rename_i es ver' hgm
        simp only [R.when_eq, Bool.and_eq_true] at hv
        obtain ⟨⟨hver, hoff⟩, hv⟩ := hv
        cases hv
        have hver := Pa.beq_iff.1 hver
        subst hver
        have hoff := beqT hoff
        subst hoff
        obtain ⟨B', hB', ho'⟩ := s.objs _ _ hg
        rw [hB] at hB'; cases hB'
        obtain ⟨Bm, ce, clock, seen, last, g1, g2, g3, g4, g5, g6⟩ := ho'
        obtain ⟨ce', clock', f1, f2, f3⟩ := s.map g1 hgm
        rw [g2] at f2
        cases f2
        obtain ⟨e, he, q1, q2, q3⟩ := g6 k v' rfl
        have hfind : ce.find? (·.born == e.born) = some e := by
          have hb := f3.borns
          rw [← Array.find?_toList]
          revert he hb
          generalize ce.toList = l
          intro he hb
          induction l with
          | nil => cases he
          | cons x l ih =>
            simp only [List.map_cons, List.nodup_cons] at hb
            rcases List.mem_cons.1 he with rfl | he
            · simp
            · have hne : x.born ≠ e.born := fun hh => hb.1 (by rw [hh]; exact List.mem_map.2 ⟨e, he, rfl⟩)
              rw [List.find?_cons_of_neg (by simpa using hne)]
              exact ih he hb.2
        refine ⟨.tuple #[e.key, e.val], w, ?_, ⟨[e.key, e.val], ⟨e.key, [e.val], q1, ⟨e.val, [], q2, rfl, rfl⟩, rfl⟩, rfl⟩, Step.refl s⟩
        have gi : (getObj B.k).run P w = .ok (.mapIter (some Bm.k) clock seen last) w := gget g3 (by simp)
        simp [execOp, ho, h1, Instr.entry, gi, q3, gget_map f1, g4, hfind]
      · cases hv
    · cases hv
  · cases hv
theorem rs_cvm {s0 : TypeId} {si ei : TI} {e : Nat} (hsi : C.ty s0 = some si) (hs : si.d = .slice e) (hei : C.ty e = some ei) (he : ei.d = .int .u8) {x : Operand} {sx : Opd} (hx : cOpd nb x = some sx) (ho : o.op = .convert s0 s0 x) :
    RSound sha P nb o (rCvm sx) := by
  intro E ρ tm h a v w hF s hv
  have h1 := cOpd_VR hF hx
  have h2 := (hC _ _ hsi).d
  have h4 := (hC _ _ hei).d
  rw [hs] at h2
  rw [he] at h4
  have h2' : P.underlying s0 = some (.slice e) := h2
  have h4' : P.underlying e = some (.int .u8) := h4
  simp only [rCvm, cvmV] at hv
  split at hv
  · rename_i b off n cp hl
    rw [hl] at h1
    obtain ⟨B, hB, h1⟩ := h1
    split at hv
    · rename_i c e' op hg
      simp only [R.when_eq] at hv
      obtain ⟨hmem, hv⟩ := hv
      cases hv
      obtain ⟨cs, fz, us, rest, g1, g2, g3, g4, g5, g6, g7⟩ := s.cells hB hg
      refine ⟨a.eval x, w.freeze ⟨B.k, cs.size, none⟩ 1, ?_, ⟨B, hB, h1⟩, ?_⟩
      · have hsh : w.shape? B.k = some (e', cs.size) := by simp [World.shape?, g1]
        simp only [execOp, ho, h1, convert, run_underlying h2', run_underlying h4', Sem.run_bind, Result.andThen_ok, beq_self_eq_true, markStringish, run_shape, hsh, run_freeze, Sem.run_pure]
      · have hw : (w.freeze ⟨B.k, cs.size, none⟩ 1).heap[B.k]? = some (.cells cs e' (if fz.1 == fz.2 then (cs.size, cs.size + 1) else (min fz.1 cs.size, max fz.2 (cs.size + 1)))) := by
          simp [World.freeze, Array.getElem?_modify, g1]
        have hother : ∀ b', b' ≠ B.k → (w.freeze ⟨B.k, cs.size, none⟩ 1).heap[b']? = w.heap[b']? := by
          intro b' hb'
          simp [World.freeze, Array.getElem?_modify, Ne.symm hb']
        refine Step.world s (fun n ob B1 hn hB1 hob => ?_) (fun b' hb' hk => hother b' (fun hh => hk b _ B hg hB hh.symm)) (by simp [World.freeze]) rfl rfl rfl
        by_cases hbk : B1.k = B.k
        · have := s.inj n b ob _ B1 B hn hg hB1 hB hbk
          subst this
          rw [hg] at hn
          cases hn
          rw [hB] at hB1
          cases hB1
          refine ⟨cs, _, us, rest, hw, g2, g3, g4, g5, g6, .inr ⟨?_, by rw [s.env.byt]; exact hmem⟩⟩
          rcases g7 with rfl | ⟨g7, _⟩
          · simp
          · split
            · simp
            · simp; omega
        · exact hob.congr (hother _ hbk)
    · cases hv
  · cases hv
end
end Go.SE
namespace Go.SE
/-! # What makes a block -/
/-- the block comes to the end of the heap; whatever name it gets -/
def ASound (P : Program) (nb : Nat) (o : Oper) (f : AF) : Prop :=
  ∀ (E : Env) (ρ : Ren) (t : Tm) (a : Act) (w : World) (ov : (Pa → AObj) × (Pa → V)), EnvOK E ρ → FrR nb ρ t a.tmps → f E t = .ok ov →
    ∃ u w' B c, (execOp a.eval o).run P w = .ok (.value u) w' ∧ B.k = w.heap.size ∧ (∀ b, b < w.heap.size → w'.heap[b]? = w.heap[b]?) ∧ w'.heap.size = w.heap.size + 1 ∧ w'.os = w.os ∧ w'.tape = w.tape ∧ w'.output = w.output ∧
      ∀ (n : Pa) (ρ' : Ren), ρ.le ρ' → ρ'.β n = some B → (∀ x, c = some x → ρ'.mv n = some x) → ObjR ρ' (ov.1 n) B w' ∧ VR ρ' (ov.2 n) u
theorem zeros_eq {z : CR V} (hz : z.wf) : ∀ n, (zeros z n).wf ∧ (zeros z n).toL = (List.replicate n z.toL).flatten
  | 0 => ⟨trivial, rfl⟩
  | n + 1 => by
    obtain ⟨h1, h2⟩ := zeros_eq hz n
    have h3 := CR.wf_cat hz h1
    exact ⟨h3.1, by rw [zeros, h3.2, h2]; simp [List.replicate_succ]⟩
theorem zeros_CRR {ρ : Ren} {z : CR V} {us : List Value} (h : CRR ρ z us) : ∀ n, CRR ρ (zeros z n) (List.replicate n us).flatten
  | 0 => rfl
  | n + 1 => by
    have ih := CRR_iff.1 (zeros_CRR h n)
    have h0 := CRR_iff.1 h
    have hc := CR.wf_cat h0.1 ih.1
    refine CRR_iff.2 ⟨hc.1, ?_⟩
    rw [zeros, hc.2, List.replicate_succ, List.flatten_cons]
    exact h0.2.append ih.2
theorem range_mod (z : List Value) : ∀ n, (List.range (n * z.length)).map (fun i => z.toArray[i % z.length]!) = (List.replicate n z).flatten
  | 0 => by simp
  | n + 1 => by
    rw [Nat.succ_mul, List.range_add, List.map_append, range_mod z n, List.replicate_succ', List.flatten_append]
    congr 1
    simp only [List.map_map, List.flatten_cons, List.flatten_nil, List.append_nil]
    apply List.ext_getElem
    · simp
    · intro i h1 h2
      simp only [List.length_map, List.length_range] at h1
      simp only [List.getElem_map, List.getElem_range, Function.comp]
      rw [show (n * z.length + i) % z.length = i by rw [Nat.add_comm, Nat.add_mul_mod_self_right]; exact Nat.mod_eq_of_lt h1]
      simp [h1]
section
variable {P : Program} {nb : Nat} {o : Oper} {C : Cx} (hC : CxOK C P)
/-- a row of cells comes to the end -/
theorem cells_new {ρ' : Ren} {w' : World} {k es : Nat} {cs : Array Value} {e : Nat} {c : CR V} (hg : w'.heap[k]? = some (.cells cs e (0, 0))) (hc : CRR ρ' c cs.toList) : ObjR ρ' (.cells c e 0) ⟨k, cs.size, es⟩ w' :=
  ⟨cs, (0, 0), cs.toList, [], hg, hc, by simp, fun _ => rfl, fun h => absurd rfl h, rfl, .inl rfl⟩
theorem alloc_at (w : World) (ob : Obj) : (w.alloc ob).heap[w.heap.size]? = some ob := by simp only [World.alloc]; simp
theorem alloc_old {w : World} {ob : Obj} {b : Nat} (hb : b < w.heap.size) : (w.alloc ob).heap[b]? = w.heap[b]? := by
  simp only [World.alloc]
  rw [Array.getElem?_push, if_neg (by omega)]
theorem alloc_size (w : World) (ob : Obj) : (w.alloc ob).heap.size = w.heap.size + 1 := by simp only [World.alloc]; simp
theorem SR.bytes {ρ : Ren} : ∀ {l : List IE} {bs : List UInt8}, SR ρ l bs → LR ρ (l.map (.i .u8 ·)) (bs.map fun b => Value.int .u8 (b.toNat : Int))
  | [], [], _ => rfl
  | _ :: _, _ :: _, ⟨h1, h2⟩ => ⟨_, _, ⟨_, h1, rfl⟩, SR.bytes h2, rfl⟩
theorem nobj (w : World) (ob : Obj) : (newObj ob).run P w = .ok w.heap.size (w.alloc ob) := rfl
theorem rows_init {zu : Value} {sz : Nat} (hzl : zu.cells.toList.length = sz) (m : Nat) : ((Array.range (m * sz)).map fun i => (if m * sz = 0 then #[] else zu.cells)[i % (if m * sz = 0 then (#[] : Array Value) else zu.cells).size]!) = (List.replicate m zu.cells.toList).flatten.toArray := by
  apply Array.ext'
  simp only [Array.toList_map, Array.toList_range]
  by_cases h0 : m * sz = 0
  · rw [h0]
    simp only [List.range_zero, List.map_nil]
    symm
    apply List.eq_nil_of_length_eq_zero
    simp only [List.length_flatten, List.map_replicate, List.sum_replicate_nat, hzl, h0]
  · rw [if_neg h0]
    have := range_mod zu.cells.toList m
    rw [hzl] at this
    rw [← this]
    apply List.map_congr_left
    intro i _
    simp [← hzl]
include hC
theorem as_alloc {e : TypeId} {ei : TI} (hei : C.ty e = some ei) {z : V} (hz : ei.zero = some z) (ho : o.op = .alloc e) : ASound P nb o (aAlloc z.cells e) := by
  intro E ρ t a w ov hE hF hf
  cases hf
  obtain ⟨zu, hzu, hzr⟩ := (hC _ _ hei).zeroV w hz
  refine ⟨.pointer (some ⟨w.heap.size, 0, none⟩), w.alloc (.cells zu.cells e (0, 0)), ⟨w.heap.size, zu.cells.size, 1⟩, none, ?_, rfl, fun b hb => alloc_old hb, alloc_size w _, rfl, rfl, rfl, fun n ρ' hle hB _ => ⟨cells_new (alloc_at w _) (V.cells_VR (hzr ρ')), _, hB, rfl⟩⟩
  simp [execOp, ho, Instr.alloc, hzu, newVar, newRow]
omit hC in
theorem as_box {e : TypeId} {x : Operand} {sx : Opd} (hx : cOpd nb x = some sx) (ho : o.op = .box e x) : ASound P nb o (aBox e sx) := by
  intro E ρ t a w ov hE hF hf
  cases hf
  have h1 := cOpd_VR hF hx
  refine ⟨.pointer (some ⟨w.heap.size, 0, none⟩), w.alloc (.cells (a.eval x).cells e (0, 0)), ⟨w.heap.size, (a.eval x).cells.size, 1⟩, none, ?_, rfl, fun b hb => alloc_old hb, alloc_size w _, rfl, rfl, rfl, fun n ρ' hle hB _ => ⟨cells_new (alloc_at w _) (V.cells_VR (h1.mono hle)), _, hB, rfl⟩⟩
  simp [execOp, ho, Instr.box, newVar, newRow]
theorem as_bsl {t : TypeId} {ti ei : TI} {e : Nat} (hti : C.ty t = some ti) (hd : ti.d = .slice e) (hei : C.ty e = some ei) {z : V} (hz : ei.zero = some z) {m : Nat} (hm : m * ei.size < 65536) (hsz : z.cells.len = ei.size) {ps : Array (Nat × Operand)} {sp : List (Nat × Nat × Opd)} (hsp : cElems nb ei.size ps.toList = some sp)
    (hmu : m ≠ UNK) (ho : o.op = .buildSlice t m ps) : ASound P nb o (aBsl (zeros z.cells m) e m sp) := by
  intro E ρ tm a w ov hE hF hf
  simp only [aBsl, R.map_eq] at hf
  obtain ⟨c', hc', rfl⟩ := hf
  obtain ⟨zu, hzu, hzr⟩ := (hC _ _ hei).zeroV w hz
  have h2 := (hC _ _ hti).d
  rw [hd] at h2
  have h2' : P.underlying t = some (.slice e) := h2
  have hz0 := V.cells_VR (hzr ρ)
  have hzl : zu.cells.toList.length = ei.size := by
    have := CRR_iff.1 hz0
    rw [this.2.length, ← CR.len_eq this.1, hsz]
  obtain ⟨us', h3, h4, h5⟩ := fillP_spec (place := fun i => some (i * ei.size, ei.size)) hc' (zeros_CRR hz0 m) (evs_Forall₂ (place := fun i => some (i * ei.size, ei.size)) hF (cElems_Forall₂ hsp))
  have hrow : (if m * ei.size = 0 then (pure #[] : Sem (Array Value)) else do pure (← zeroValue e).cells).run P w = .ok (if m * ei.size = 0 then #[] else zu.cells) w := by
    split <;> simp [hzu]
  have hinit := rows_init hzl m
  have h3' : Instr.fill (fun i => some (i * ei.size, ei.size)) (List.replicate m zu.cells.toList).flatten.toArray (ps.map fun (i, x) => (i, a.eval x)).toList = some us'.toArray := by
    simpa using h3
  refine ⟨.slice (some ⟨w.heap.size, 0, none⟩) m m, w.alloc (.cells us'.toArray e (0, 0)), ⟨w.heap.size, us'.toArray.size, 1⟩, none, ?_, rfl, fun b hb => alloc_old hb, alloc_size w _, rfl, rfl, rfl, fun n ρ' hle hB _ => ⟨cells_new (alloc_at w _) (by simpa using CRR.mono hle h4), _, hB, ?_⟩⟩
  · simp only [execOp, ho, Instr.buildSlice, Sem.run_bind, run_underlying h2', Result.andThen_ok, (hC _ _ hei).sizeOf]
    rw [if_neg (by omega)]
    have h3'' : Instr.fill (fun i => some (i * ei.size, ei.size)) (List.replicate m zu.cells.toList).flatten.toArray (ps.map fun x => (x.fst, a.eval x.snd)).toList = some us'.toArray := h3'
    by_cases h0 : m * ei.size = 0
    · simp only [if_pos h0] at hinit
      rw [if_pos h0]
      simp only [Sem.run_bind, Sem.run_pure, Result.andThen_ok, hinit, h3'', newRow, nobj]
    · simp only [if_neg h0] at hinit
      rw [if_neg h0]
      simp only [Sem.run_bind, Sem.run_pure, Result.andThen_ok, hzu, hinit, h3'', newRow, nobj]
  · rw [if_neg hmu]
omit hC in
theorem as_mkm {t : TypeId} (ho : o.op = .makeMap t none) : ASound P nb o aMkm := by
  intro E ρ tm a w ov hE hF hf
  cases hf
  refine ⟨.map (some w.heap.size), w.alloc (.map #[] 0), ⟨w.heap.size, 0, 0⟩, some (#[], 0), ?_, rfl, fun b hb => alloc_old hb, alloc_size w _, rfl, rfl, rfl, fun n ρ' hle hB hc => ⟨⟨#[], 0, alloc_at w _, hc _ rfl, ⟨[], rfl, by simp [pairs]⟩, by simp, by simp, by simp, false, [], by simp⟩, _, hB, rfl⟩⟩
  simp [execOp, ho, Instr.makeMap]
theorem as_mks {t : TypeId} {ti ei : TI} {e : Nat} (hti : C.ty t = some ti) (hd : ti.d = .slice e) (hei : C.ty e = some ei) {z : V} (hz : ei.zero = some z) (hsz : z.cells.len = ei.size) {l c : Operand} {sl sc : Opd} (hl : cOpd nb l = some sl) (hc : cOpd nb c = some sc)
    (ho : o.op = .makeSlice t l c) : ASound P nb o (aMks z.cells e ei.bytes sl sc) := by
  intro E ρ tm a w ov hE hF hf
  have h1 := cOpd_VR hF hl
  have h2 := cOpd_VR hF hc
  have h3 := (hC _ _ hti).d
  rw [hd] at h3
  have h3' : P.underlying t = some (.slice e) := h3
  obtain ⟨zu, hzu, hzr⟩ := (hC _ _ hei).zeroV w hz
  have hz0 := V.cells_VR (hzr ρ)
  have hzl : zu.cells.toList.length = ei.size := by
    have := CRR_iff.1 hz0
    rw [this.2.length, ← CR.len_eq this.1, hsz]
  simp only [aMks, mksV] at hf
  split at hf
  · rename_i ll cc hll hcc
    rw [hll] at h1
    rw [hcc] at h2
    obtain ⟨n1, e1, h1⟩ := h1
    obtain ⟨n2, e2, h2⟩ := h2
    simp [IE.dn] at e1 e2
    subst e1 e2
    simp only [R.when_eq, Bool.and_eq_true] at hf
    obtain ⟨⟨⟨b1, b2⟩, b3⟩, hf⟩ := hf
    cases hf
    have b1 := bleT b1
    have b2 := bltT b2
    have b3 := bltT b3
    have hb : ei.bytes * cc ≤ 1048576 * 1048576 := Nat.mul_le_mul (by omega) (by omega)
    have hw1 : IntKind.i64.wrap (ll : Int) = ll := wrap_of (by simp [IntKind.min, IntKind.signed, IntKind.bits]) (by simp [IntKind.max, IntKind.signed, IntKind.bits]; omega)
    have hw2 : IntKind.i64.wrap (cc : Int) = cc := wrap_of (by simp [IntKind.min, IntKind.signed, IntKind.bits]) (by simp [IntKind.max, IntKind.signed, IntKind.bits]; omega)
    obtain ⟨i, hi1, hi2, hi3, _⟩ := (hC _ _ hei).i
    have hinfo : (typeInfo e).run P w = .ok i w := by simp [typeInfo, hi1]
    simp only [execOp, ho, h1, h2, Instr.makeSlice, Sem.run_bind, run_underlying h3', Result.andThen_ok, asInt, asIntOf, Sem.run_pure, hinfo, hw1, hw2]
    have hinit : ((Array.range (cc * ei.size)).map fun i => (if cc * ei.size = 0 then #[] else zu.cells)[i % (if cc * ei.size = 0 then (#[] : Array Value) else zu.cells).size]!) = (List.replicate cc zu.cells.toList).flatten.toArray := rows_init hzl cc
    have hcells : CRR ρ (zeros z.cells cc) (List.replicate cc zu.cells.toList).flatten := zeros_CRR hz0 cc
    refine ⟨.slice (some ⟨w.heap.size, 0, none⟩) ll cc, w.alloc (.cells (List.replicate cc zu.cells.toList).flatten.toArray e), ⟨w.heap.size, (List.replicate cc zu.cells.toList).flatten.toArray.size, 1⟩, none, ?_, rfl, fun b hb => alloc_old hb, alloc_size w _, rfl, rfl, rfl, fun n ρ' hle hB _ => ⟨cells_new (alloc_at w _) (by simpa using CRR.mono hle hcells), _, hB, ?_⟩⟩
    · have hle1 : (i.bytes : Int) * cc ≤ 2 ^ 48 := by
        rw [hi3]
        have : (ei.bytes : Int) * cc = ((ei.bytes * cc : Nat) : Int) := by simp
        rw [this]; omega
      have c1 : (decide ((cc : Int) < 0) || decide ((i.bytes : Int) * cc > 2 ^ 48) || decide ((ll : Int) < 0) || decide ((ll : Int) > cc)) = false := by
        simp only [Bool.or_eq_false_iff, decide_eq_false_iff_not]
        omega
      rw [c1]
      simp only [Bool.false_eq_true, if_false, Sem.run_bind, run_askRoom, Result.andThen_ok, (hC _ _ hei).sizeOf, Int.toNat_natCast]
      by_cases h0 : cc * ei.size = 0
      · simp only [if_pos h0] at hinit
        rw [if_pos h0]
        simp only [Sem.run_bind, Sem.run_pure, Result.andThen_ok, hinit, newRow, nobj]
      · simp only [if_neg h0] at hinit
        rw [if_neg h0]
        simp only [Sem.run_bind, Sem.run_pure, Result.andThen_ok, hzu, hinit, newRow, nobj]
    · rw [if_neg (show ¬ cc = UNK from by unfold UNK; omega)]
  · cases hf
omit hC in
theorem as_s2b {s0 d : TypeId} {e : Nat} (hC : CxOK C P) {si di ei : TI} (hsi : C.ty s0 = some si) (hdi : C.ty d = some di) (hei : C.ty e = some ei) (hs : si.d = .string) (hd : di.d = .slice e) (he : ei.d = .int .u8) {x : Operand} {sx : Opd} (hx : cOpd nb x = some sx) (ho : o.op = .convert s0 d x) :
    ASound P nb o (aS2b e sx) := by
  intro E ρ tm a w ov hE hF hf
  have h1 := cOpd_VR hF hx
  have h2 := (hC _ _ hsi).d
  have h3 := (hC _ _ hdi).d
  have h4 := (hC _ _ hei).d
  rw [hs] at h2
  rw [hd] at h3
  rw [he] at h4
  have h2' : P.underlying s0 = some .string := h2
  have h3' : P.underlying d = some (.slice e) := h3
  have h4' : P.underlying e = some (.int .u8) := h4
  simp only [aS2b, s2bV, R.when_eq] at hf
  obtain ⟨hby, hf⟩ := hf
  split at hf
  · rename_i l hl
    rw [hl] at h1
    obtain ⟨bs, hb, h1⟩ := h1
    obtain ⟨hlt, hf⟩ := R.when_eq.1 hf
    cases hf
    have hlt := bltT hlt
    rw [← hb.length] at hlt
    generalize hcap : (Question.appendCap bs.length 0 e).cut (w.tape w.drawn (Question.appendCap bs.length 0 e)) = cap
    have hcap1 : bs.length ≤ cap := by rw [← hcap]; simp only [Question.cut]; omega
    let cs : Array Value := (bs.map fun b => Value.int .u8 (b.toNat : Int)).toArray ++ Array.replicate (cap - bs.length) (.int .u8 0)
    have hcs : cs.size = cap := by simp [cs]; omega
    refine ⟨.slice (some ⟨w.heap.size, 0, none⟩) bs.length cap, { w with drawn := w.drawn + 1, heap := w.heap.push (.cells cs e (cap, cap + 1)) }, ⟨w.heap.size, cap, 1⟩, none, ?_, rfl, fun b hb => ?_, by simp, rfl, rfl, rfl, fun n ρ' hle hB _ => ⟨⟨cs, (cap, cap + 1), bs.map (fun b => Value.int .u8 (b.toNat : Int)), List.replicate (cap - bs.length) (.int .u8 0), by simp, ?_, by simp [cs], fun h => absurd h (by decide), fun _ => rfl, hcs, .inr ⟨by rw [hcs]; exact Nat.le_refl _, by rw [hle.byt, hE.byt]; exact hby⟩⟩, _, hB, ?_⟩⟩
    · have hch : (choose (.appendCap bs.length 0 e)).run P w = .ok cap { w with drawn := w.drawn + 1 } := by
        rw [run_choose, ← hcap]; rfl
      have helems : (bs.toArray.map fun b => Value.int .u8 (b.toNat : Int)) ++ Array.replicate (cap - bs.length) (.int .u8 0) = cs := by
        simp [cs]
      have hsh : ∀ w1 : World, (w1.alloc (.cells cs e)).shape? w1.heap.size = some (e, cap) := by
        intro w1
        simp only [World.shape?, alloc_at, hcs]
      have hfz : ∀ w1 : World, (w1.alloc (.cells cs e)).freeze ⟨w1.heap.size, cap, none⟩ 1 = { w1 with heap := w1.heap.push (.cells cs e (cap, cap + 1)) } := by
        intro w1
        simp only [World.freeze, World.alloc]
        rw [if_neg (by decide)]
        congr 1
        apply Array.ext_getElem?
        intro i
        rw [Array.getElem?_modify, Array.getElem?_push, Array.getElem?_push]
        by_cases hi : i = w1.heap.size
        · subst hi; simp
        · rw [if_neg hi, if_neg (fun h => hi h.symm), if_neg hi]
      simp only [execOp, ho, h1, convert, run_underlying h2', run_underlying h3', run_underlying h4', Sem.run_bind, Result.andThen_ok, Conv.stringToBytes, size_mk, hch, newRow, helems, nobj, Sem.run_pure, markStringish, run_shape, hsh, run_freeze]
      have := hfz { w with drawn := w.drawn + 1 }
      rw [this]
    · show (w.heap.push _)[b]? = _
      rw [Array.getElem?_push, if_neg (by omega)]
    · have this := SR.bytes (hb.mono hle)
      exact CRR_iff.2 ⟨(CR.ofL_eq _).1, by rw [(CR.ofL_eq _).2]; exact this⟩
    · rw [if_pos rfl, hb.length]; simp
  · cases hf
end
end Go.SE
namespace Go.SE
/-! # What writes -/
def Go.Next.val : Next → Option Value
  | .value u => some u
  | .skip => some undef
  | _ => none
variable (sha : List UInt8 → Nat → UInt8)
def ESound (P : Program) (nb : Nat) (o : Oper) (f : EF) : Prop :=
  ∀ (E : Env) (ρ : Ren) (t : Tm) (h : H) (a : Act) (w : World) (v : V) (h' : H), FrR nb ρ t a.tmps → St sha E ρ h w → f E t h = .ok (v, h') →
    ∃ nx u w' ρ', (execOp a.eval o).run P w = .ok nx w' ∧ Go.Next.val nx = some u ∧ VR ρ' v u ∧ Step sha E ρ h w ρ' h' w'
variable {sha}
theorem oneCell_VR {ρ : Ren} {v : V} {u : Value} (h : VR ρ v u) (ho : oneCell v = true) : u.oneCell' = true := by
  cases v <;> simp only [VR] at h <;> first
    | (simp [oneCell] at ho; done)
    | (rw [h]; rfl)
    | (obtain ⟨_, _, h⟩ := h; rw [h]; rfl)
    | (obtain ⟨_, _, _, _, h⟩ := h; rw [h]; rfl)
    | (obtain ⟨_, _, _, _, _, h⟩ := h; rw [h]; rfl)
theorem allOne_CRR {ρ : Ren} : ∀ {c : CR V} {us : List Value}, CRR ρ c us → allOne c = true → ∀ u ∈ us, u.oneCell' = true
  | .nil, us, h, _, u, hu => by rw [show us = [] from h] at hu; cases hu
  | .one v, us, h, ho, u, hu => by
    obtain ⟨x, h1, rfl⟩ := h
    rw [List.mem_singleton.1 hu]
    exact oneCell_VR h1 ho
  | .nd t n l r, us, h, ho, u, hu => by
    obtain ⟨a, b, h1, h2, rfl, _, _⟩ := h
    have ho' : allOne l = true ∧ allOne r = true := by
      have : (Bool.casesOn (motive := fun _ => Bool) (allOne l) false (allOne r)) = true := ho
      cases hl : allOne l <;> rw [hl] at this
      · cases this
      · exact ⟨rfl, this⟩
    rcases List.mem_append.1 hu with hu | hu
    · exact allOne_CRR h1 ho'.1 u hu
    · exact allOne_CRR h2 ho'.2 u hu
theorem run_stores (P : Program) (g o : Nat) (t : TypeId) (fz : Nat × Nat) : ∀ (vs : List Value) (i : Nat) (cur : Array Value) (w : World), w.heap[g]? = some (.cells cur t fz) → (fz = (0, 0) ∨ cur.size ≤ fz.1) → o + i + vs.length ≤ cur.size → (∀ v ∈ vs, v.oneCell' = true) →
    (storeCells ⟨g, o, none⟩ vs i).run P w = .ok () (w.setRow g (cur.toList.take (o + i) ++ vs ++ cur.toList.drop (o + i + vs.length)).toArray)
  | [], i, cur, w, hg, _, _, _ => by
    simp only [storeCells, List.append_nil, List.length_nil, Nat.add_zero, List.take_append_drop, Array.toArray_toList]
    rw [setRow_self w g cur t fz hg]
    rfl
  | v :: rest, i, cur, w, hg, hfz, hl, h1 => by
    have hi : o + i < cur.size := by simp at hl; omega
    have hadd : (⟨g, o, none⟩ : Addr).add i = ⟨g, o + i, none⟩ := addr_add g o i
    have hcell : w.cell? ⟨g, o + i, none⟩ = some cur[o + i] := by simp [World.cell?, hg, hi]
    have hfro : w.frozen? ⟨g, o + i, none⟩ = false := by
      obtain ⟨lo, hi'⟩ := fz
      simp only [World.frozen?, hg, Bool.and_eq_false_iff, decide_eq_false_iff_not]
      rcases hfz with hfz | hfz
      · simp only [Prod.mk.injEq] at hfz; right; omega
      · left; simp only at hfz; omega
    have hst : (store ((⟨g, o, none⟩ : Addr).add i) v).run P w = .ok () (w.setRow g (cur.setIfInBounds (o + i) v)) := by
      rw [hadd, run_store P w _ v _ (h1 v (by simp)), hcell]
      simp [hfro, setCell_eq_setRow w g (o + i) cur t fz v hg]
    have ih := run_stores P g o t fz rest (i + 1) (cur.setIfInBounds (o + i) v) (w.setRow g (cur.setIfInBounds (o + i) v)) (setRow_heap w g cur _ t _ hg) (by simpa using hfz) (by simp at hl ⊢; omega) (fun x hx => h1 x (by simp [hx]))
    simp only [storeCells, Sem.run_bind, hst, Result.andThen_ok, ih, setRow_setRow]
    congr 3
    have e := list_seg_step cur.toList (o + i) v rest (by simp at hl ⊢; omega)
    simpa [Array.toList_setIfInBounds, Nat.add_assoc] using e
section
variable {P : Program} {nb : Nat} {o : Oper}
/-- a row is written over a part of another one -/
theorem store_step {E : Env} {ρ : Ren} {h : H} {w : World} (s : St sha E ρ h w) {b : Pa} {B : Blk} (hB : ρ.β b = some B) {c : CR V} {e op : Nat} (hg : h.get b = some (.cells c e op)) {u : CR V} {us : List Value} (hu : CRR ρ u us) (ho : ∀ x ∈ us, x.oneCell' = true)
    {off : Nat} (hle : off + us.length ≤ c.len) : ∃ w', (storeCells ⟨B.k, off, none⟩ us).run P w = .ok () w' ∧ Step sha E ρ h w ρ (h.set b (.cells (CR.put u us.length c off) e op)) w' := by
  obtain ⟨cs, fz, us0, rest, h1, h2, h3, h4, h5, h6, h7⟩ := s.cells hB hg
  obtain ⟨hw, hl⟩ := CRR_iff.1 h2
  obtain ⟨huw, hul⟩ := CRR_iff.1 hu
  rw [CR.len_eq hw, ← hl.length] at hle
  have hsz : cs.size = us0.length + rest.length := by rw [← Array.length_toList, h3]; simp
  have hrun := run_stores P B.k off e fz us 0 cs w h1 (h7.imp id And.left) (by omega) ho
  simp only [Nat.add_zero] at hrun
  refine ⟨_, hrun, Step.set s hg hB ?_ (fun b' hb' => setRow_other w B.k b' _ hb') (setRow_size w _ _) rfl rfl rfl⟩
  have hput := CR.put_eq huw (n := us.length) hul.length.symm hw off (by rw [← hl.length]; exact hle)
  refine ⟨_, fz, us0.take off ++ us ++ us0.drop (off + us.length), rest, setRow_heap w B.k cs _ e fz h1, CRR_iff.2 ⟨hput.1, by rw [hput.2]; exact ((hl.take off).append hul).append (hl.drop _)⟩, ?_, h4, h5, ?_, ?_⟩
  · rw [h3, List.take_append_of_le_length (by omega), List.drop_append_of_le_length (by omega)]
    simp
  · rw [← h6]; simp; omega
  · rcases h7 with h7 | ⟨h7, h8⟩
    · exact .inl h7
    · refine .inr ⟨?_, h8⟩
      simp; omega
variable {C : Cx} (hC : CxOK C P)
include hC
theorem es_st {t : TypeId} {ti : TI} (hti : C.ty t = some ti) {x y : Operand} {sx sy : Opd} (hx : cOpd nb x = some sx) (hy : cOpd nb y = some sy) (ho : o.op = .store t x y) : ESound sha P nb o (eSt ti.size sx sy) := by
  intro E ρ tm h a w v h' hF s hv
  have h1 := cOpd_VR hF hx
  have h2 := V.cells_VR (cOpd_VR hF hy)
  simp only [eSt, stV] at hv
  split at hv
  · rename_i b off hb
    rw [hb] at h1
    obtain ⟨B, hB, h1⟩ := h1
    split at hv
    · rename_i c e op hg
      simp only [R.when_eq, Bool.and_eq_true] at hv
      obtain ⟨⟨⟨b1, b2⟩, b3⟩, hv⟩ := hv
      cases hv
      have hlen : (a.eval y).cells.toList.length = ti.size := by
        have := beqT b1
        rw [CR.len_eq (CRR_iff.1 h2).1, ← (CRR_iff.1 h2).2.length] at this
        exact this
      obtain ⟨w', hw', hst⟩ := store_step (P := P) s hB hg h2 (allOne_CRR h2 b3) (off := off) (by rw [hlen]; exact bleT b2)
      rw [hlen] at hst
      refine ⟨.skip, undef, w', ρ, ?_, rfl, VR_undef ρ, hst⟩
      have hlen' : (a.eval y).cells.size = ti.size := by simpa using hlen
      simp only [execOp, ho, h1, Instr.storeAt, Instr.sureAddr, storeVar, Sem.run_bind, Sem.run_pure, Result.andThen_ok, (hC _ _ hti).sizeOf]
      rw [if_neg (by simpa using hlen')]
      simp only [hw', Result.andThen_ok]
    · cases hv
  · cases hv
theorem es_rng {t : TypeId} {ti : TI} {kt et : Nat} (hti : C.ty t = some ti) (hd : ti.d = .map kt et) {x : Operand} {sx : Opd} (hx : cOpd nb x = some sx) (ho : o.op = .range t x) : ESound sha P nb o (eRng sx) := by
  intro E ρ tm h a w v h' hF s hv
  have h1 := cOpd_VR hF hx
  have h3 := (hC _ _ hti).d
  rw [hd] at h3
  have h3' : P.underlying t = some (.map kt et) := h3
  simp only [eRng, rngV] at hv
  split at hv
  · rename_i hm
    rw [hm] at h1
    simp only [R.map_eq, H.new] at hv
    obtain ⟨⟨n, h2⟩, hv, hh⟩ := hv
    cases hh
    cases hq : h.next.succ with
    | none => rw [hq] at hv; cases hv
    | some q =>
      rw [hq] at hv
      cases hv
      obtain ⟨ρ', hst, hβ⟩ := Step.new s hq (.iter none .z [] none) ⟨w.heap.size, 0, 0⟩ rfl none (w' := w.alloc (.mapIter none 0 #[] 0)) (fun ρ' _ _ _ => alloc_at w _) (fun b hb => alloc_old hb) (by rw [alloc_size]; omega) rfl rfl rfl
      simp only [VR] at h1
      exact ⟨_, .pointer (some ⟨w.heap.size, 0, none⟩), _, ρ', by simp [execOp, ho, h1, Instr.range, run_underlying h3', nobj]; rfl, rfl, ⟨_, hβ, rfl⟩, hst⟩
  · rename_i r hm
    rw [hm] at h1
    obtain ⟨B, hB, h1⟩ := h1
    split at hv
    · rename_i es ver hg
      obtain ⟨ce, clock, g1, g2, g3⟩ := s.map hB hg
      simp only [R.map_eq, H.new] at hv
      obtain ⟨⟨n, h2⟩, hv, hh⟩ := hv
      cases hh
      cases hq : h.next.succ with
      | none => rw [hq] at hv; cases hv
      | some q =>
        rw [hq] at hv
        cases hv
        obtain ⟨ρ', hst, hβ⟩ := Step.new s hq (.iter (some r) ver es none) ⟨w.heap.size, 0, 0⟩ rfl none (w' := w.alloc (.mapIter (some B.k) clock #[] clock)) (fun ρ' hle _ _ => by
          refine ⟨B, ce, clock, #[], clock, hle.β _ _ hB, hle.mv _ _ g2, alloc_at w _, rfl, ?_, fun k v hc => by cases hc⟩
          obtain ⟨ps, p1, p2⟩ := g3.ps
          refine ⟨ps, p1.mono hle, ?_⟩
          rw [show left ce.toList #[] = ce.toList by simp [left]]
          exact p2) (fun b hb => alloc_old hb) (by rw [alloc_size]; omega) rfl rfl rfl
        exact ⟨_, .pointer (some ⟨w.heap.size, 0, none⟩), _, ρ', by simp [execOp, ho, h1, Instr.range, run_underlying h3', gget_map g1, nobj]; rfl, rfl, ⟨_, hβ, rfl⟩, hst⟩
    · cases hv
  · cases hv
end
end Go.SE
namespace Go.SE
/-! # What writes into maps -/
theorem kindedL_append : ∀ {k1 k2 : List CK} {u1 u2 : List Value}, kindedL k1 u1 → kindedL k2 u2 → kindedL (k1 ++ k2) (u1 ++ u2)
  | [], _, _, _, h1, h2 => by rw [show _ = [] from h1]; exact h2
  | _ :: _, _, _, _, ⟨a, us, e, h1, h3⟩, h2 => by subst e; exact ⟨a, _, rfl, h1, kindedL_append h3 h2⟩
theorem sameCell_spec {ρ : Ren} {x y : V} {u u' : Value} (hx : VR ρ x u) (hy : VR ρ y u') (h : sameCell x y = true) : ∃ k, kinded1 k u ∧ kinded1 k u' := by
  unfold sameCell at h
  split at h
  · exact ⟨.b, ⟨_, hx⟩, ⟨_, hy⟩⟩
  · rename_i k _ k' _
    have hk := keq_iff.1 h
    subst hk
    obtain ⟨n, _, rfl⟩ := hx
    obtain ⟨m, _, rfl⟩ := hy
    exact ⟨.i k, ⟨n, rfl⟩, ⟨m, rfl⟩⟩
  · obtain ⟨n, _, rfl⟩ := hx
    obtain ⟨m, _, rfl⟩ := hy
    exact ⟨.s, ⟨_, rfl⟩, ⟨_, rfl⟩⟩
  · cases h
theorem shL_spec {ρ : Ren} : ∀ {x y : List V} {us us' : List Value}, LR ρ x us → LR ρ y us' → shL x y = true → ∃ ks, kindedL ks us ∧ kindedL ks us'
  | [], [], us, us', h1, h2, _ => ⟨[], h1, h2⟩
  | a :: x, b :: y, us, us', ⟨u, us1, h1, h2, e1⟩, ⟨u', us2, h3, h4, e2⟩, h => by
    subst e1
    subst e2
    simp only [shL, bite_eq] at h
    split at h
    · rename_i hc
      obtain ⟨k, k1, k2⟩ := sameCell_spec h1 h3 hc
      obtain ⟨ks, k3, k4⟩ := shL_spec h2 h4 h
      exact ⟨k :: ks, ⟨u, us1, rfl, k1, k3⟩, ⟨u', us2, rfl, k2, k4⟩⟩
    · cases h
  | [], _ :: _, _, _, _, _, h => by simp [shL] at h
  | _ :: _, [], _, _, _, _, h => by simp [shL] at h
theorem shR_spec {ρ : Ren} : ∀ {x y : CR V} {us us' : List Value}, CRR ρ x us → CRR ρ y us' → shR x y = true → ∃ ks, kindedL ks us ∧ kindedL ks us' := by
  have gen : ∀ {x y : CR V} {us us' : List Value}, CRR ρ x us → CRR ρ y us' → shL x.toL y.toL = true → ∃ ks, kindedL ks us ∧ kindedL ks us' := fun h1 h2 h => shL_spec (CRR_iff.1 h1).2 (CRR_iff.1 h2).2 h
  intro x
  induction x with
  | nil => intro y us us' h1 h2 h; exact gen h1 h2 (by cases y <;> exact h)
  | one a =>
    intro y us us' h1 h2 h
    cases y with
    | one b =>
      obtain ⟨u, h3, rfl⟩ := h1
      obtain ⟨v, h4, rfl⟩ := h2
      obtain ⟨k, k1, k2⟩ := sameCell_spec h3 h4 h
      exact ⟨[k], ⟨u, [], rfl, k1, rfl⟩, ⟨v, [], rfl, k2, rfl⟩⟩
    | nil => exact gen h1 h2 h
    | nd _ _ _ _ => exact gen h1 h2 h
  | nd t n l r ihl ihr =>
    intro y us us' h1 h2 h
    cases y with
    | nil => exact gen h1 h2 h
    | one _ => exact gen h1 h2 h
    | nd t' n' l' r' =>
      simp only [shR, bite_eq] at h
      split at h
      · split at h
        · rename_i hl
          obtain ⟨a, b, h3, h4, rfl, _, _⟩ := h1
          obtain ⟨c, d, h5, h6, rfl, _, _⟩ := h2
          obtain ⟨k1, k2, k3⟩ := ihl h3 h5 hl
          obtain ⟨k4, k5, k6⟩ := ihr h4 h6 h
          exact ⟨k1 ++ k4, kindedL_append k2 k5, kindedL_append k3 k6⟩
        · cases h
      · exact gen h1 h2 h
theorem sameSh_spec {ρ : Ren} {x y : V} {u u' : Value} (hx : VR ρ x u) (hy : VR ρ y u') (h : sameSh x y = true) : ∃ agg ks, Sh agg ks u ∧ Sh agg ks u' := by
  unfold sameSh at h
  split at h
  · obtain ⟨us, h1, rfl⟩ := hx
    obtain ⟨us', h2, rfl⟩ := hy
    obtain ⟨ks, k1, k2⟩ := shR_spec h1 h2 h
    exact ⟨true, ks, ⟨us, rfl, k1⟩, ⟨us', rfl, k2⟩⟩
  · cases h
  · cases h
  · obtain ⟨k, k1, k2⟩ := sameCell_spec hx hy h
    exact ⟨false, [k], ⟨[u], rfl, u, [], rfl, k1, rfl⟩, ⟨[u'], rfl, u', [], rfl, k2, rfl⟩⟩
theorem shOK_spec {ρ : Ren} {es : List (V × V)} {ce : Array MapEntry} {clock : Nat} (hm : MapR ρ es ce clock) {k : V} {u : Value} (hk : VR ρ k u) (h : shOK k es = true) : ∃ agg ks, Sh agg ks u ∧ ∀ e ∈ ce.toList, Sh agg ks e.key := by
  unfold shOK at h
  split at h
  · obtain ⟨agg, ks, h1, _⟩ := sameSh_spec hk hk h
    refine ⟨agg, ks, h1, fun e he => ?_⟩
    obtain ⟨a, v, hmem, _⟩ := hm.find he
    cases hmem
  · rename_i a v es
    obtain ⟨A, e, B, p1, p2, f1, f2, _⟩ := hm.pick (pre := []) rfl
    obtain ⟨agg, ks, h1, h2⟩ := sameSh_spec hk f2 h
    obtain ⟨agg', ks', hall⟩ := hm.shape
    obtain ⟨rfl, rfl⟩ := h2.inj (hall e (by rw [f1]; simp))
    exact ⟨agg, ks, h1, hall⟩
section
variable {ρ : Ren} {es : List (V × V)} {ce : Array MapEntry} {clock : Nat} (hm : MapR ρ es ce clock)
include hm
/-- an entry's value turns -/
theorem MapR.upd {pre post : List (V × V)} {a x : V} {A B : List MapEntry} {e : MapEntry} {p1 p2 : List (Value × Value)} {ux : Value} (hce : ce.toList = A ++ e :: B) (ha : VR ρ a e.key) (hp1 : PairsR ρ pre p1) (hp2 : PairsR ρ post p2) (hperm : (p1 ++ p2).Perm (pairs (A ++ B))) (hx : VR ρ x ux)
    {ce' : Array MapEntry} (hce' : ce'.toList = A ++ { e with val := ux } :: B) : MapR ρ (pre ++ (a, x) :: post) ce' clock where
  ps := by
    refine ⟨p1 ++ (e.key, ux) :: p2, hp1.append ⟨_, _, _, ha, hx, hp2, rfl⟩, ?_⟩
    have h1 : (p1 ++ (e.key, ux) :: p2).Perm ((e.key, ux) :: (p1 ++ p2)) := List.perm_middle
    have h2 : (pairs ce'.toList).Perm ((e.key, ux) :: pairs (A ++ B)) := by
      rw [hce']
      simp only [pairs, List.map_append, List.map_cons]
      exact List.perm_middle
    exact (h1.trans ((List.perm_cons _).2 hperm)).trans h2.symm
  keys := by
    have := hm.keys
    rw [hce] at this
    rw [hce']
    simpa using this
  borns := by
    have := hm.borns
    rw [hce] at this
    rw [hce']
    simpa using this
  lt := by
    intro y hy
    rw [hce'] at hy
    simp only [List.mem_append, List.mem_cons] at hy
    rcases hy with hy | rfl | hy
    · exact hm.lt y (by rw [hce]; simp [hy])
    · exact hm.lt e (by rw [hce]; simp)
    · exact hm.lt y (by rw [hce]; simp [hy])
  shape := by
    obtain ⟨agg, ks, h⟩ := hm.shape
    refine ⟨agg, ks, fun y hy => ?_⟩
    rw [hce'] at hy
    simp only [List.mem_append, List.mem_cons] at hy
    rcases hy with hy | rfl | hy
    · exact h y (by rw [hce]; simp [hy])
    · exact h e (by rw [hce]; simp)
    · exact h y (by rw [hce]; simp [hy])
/-- an entry more -/
theorem MapR.add {k x : V} {u ux : Value} (hk : VR ρ k u) (hx : VR ρ x ux) (hne : ∀ e ∈ ce.toList, e.key ≠ u) (hs : shOK k es = true) : MapR ρ (es ++ [(k, x)]) (ce.push { key := u, val := ux, born := clock }) (clock + 1) where
  ps := by
    obtain ⟨ps, h1, h2⟩ := hm.ps
    refine ⟨ps ++ [(u, ux)], h1.append ⟨_, _, _, hk, hx, rfl, rfl⟩, ?_⟩
    simp only [Array.toList_push, pairs, List.map_append, List.map_cons, List.map_nil]
    exact h2.append_right _
  keys := by
    simp only [Array.toList_push, List.map_append, List.map_cons, List.map_nil, List.nodup_append]
    refine ⟨hm.keys, by simp, ?_⟩
    intro a ha b hb
    simp only [List.mem_singleton] at hb
    subst hb
    simp only [List.mem_map] at ha
    obtain ⟨e, he, rfl⟩ := ha
    exact hne e he
  borns := by
    simp only [Array.toList_push, List.map_append, List.map_cons, List.map_nil, List.nodup_append]
    refine ⟨hm.borns, by simp, ?_⟩
    intro a ha b hb
    simp only [List.mem_singleton] at hb
    subst hb
    simp only [List.mem_map] at ha
    obtain ⟨e, he, rfl⟩ := ha
    have := hm.lt e he
    omega
  lt := by
    intro e he
    simp only [Array.toList_push, List.mem_append, List.mem_singleton] at he
    rcases he with he | rfl
    · have := hm.lt e he; omega
    · simp
  shape := by
    obtain ⟨agg, ks, h1, h2⟩ := shOK_spec hm hk hs
    refine ⟨agg, ks, fun e he => ?_⟩
    simp only [Array.toList_push, List.mem_append, List.mem_singleton] at he
    rcases he with he | rfl
    · exact h2 e he
    · exact h1
/-- an entry less -/
theorem MapR.del {pre post : List (V × V)} {A B : List MapEntry} {e : MapEntry} {p1 p2 : List (Value × Value)} (hce : ce.toList = A ++ e :: B) (hp1 : PairsR ρ pre p1) (hp2 : PairsR ρ post p2) (hperm : (p1 ++ p2).Perm (pairs (A ++ B)))
    {ce' : Array MapEntry} (hce' : ce'.toList = A ++ B) : MapR ρ (pre ++ post) ce' clock where
  ps := ⟨p1 ++ p2, hp1.append hp2, by rw [hce']; exact hperm⟩
  keys := by
    have := hm.keys
    rw [hce] at this
    rw [hce']
    simp only [List.map_append, List.map_cons, List.nodup_append, List.nodup_cons] at this ⊢
    exact ⟨this.1, this.2.1.2, fun a ha b hb => this.2.2 a ha b (by simp only [List.mem_cons]; exact .inr hb)⟩
  borns := by
    have := hm.borns
    rw [hce] at this
    rw [hce']
    simp only [List.map_append, List.map_cons, List.nodup_append, List.nodup_cons] at this ⊢
    exact ⟨this.1, this.2.1.2, fun a ha b hb => this.2.2 a ha b (by simp only [List.mem_cons]; exact .inr hb)⟩
  lt := fun y hy => hm.lt y (by
    rw [hce'] at hy
    rw [hce]
    simp only [List.mem_append, List.mem_cons] at hy ⊢
    rcases hy with hy | hy
    · exact .inl hy
    · exact .inr (.inr hy))
  shape := by
    obtain ⟨agg, ks, h⟩ := hm.shape
    exact ⟨agg, ks, fun y hy => h y (by
      rw [hce'] at hy
      rw [hce]
      simp only [List.mem_append, List.mem_cons] at hy ⊢
      rcases hy with hy | hy
      · exact .inl hy
      · exact .inr (.inr hy))⟩
end
theorem modify_mid {A B : List MapEntry} {e : MapEntry} {ce : Array MapEntry} (hce : ce.toList = A ++ e :: B) (f : MapEntry → MapEntry) : (ce.modify A.length f).toList = A ++ f e :: B := by
  rw [Array.toList_modify, hce]
  clear hce
  induction A with
  | nil => simp
  | cons x A ih => simp [ih]
theorem get_mid {A B : List MapEntry} {e : MapEntry} {ce : Array MapEntry} (hce : ce.toList = A ++ e :: B) : ce[A.length]? = some e := by
  rw [← Array.getElem?_toList, hce]; simp
variable {sha : List UInt8 → Nat → UInt8}
theorem H.fresh_spec {h h' : H} {n : Pa} (hf : h.fresh = .ok (n, h')) : n = h.next ∧ ∃ q, h.next.succ = some q ∧ h' = { objs := h.objs, next := q, hs := h.hs } := by
  unfold H.fresh at hf
  cases hq : h.next.succ with
  | none => rw [hq] at hf; cases hf
  | some q => rw [hq] at hf; cases hf; exact ⟨rfl, q, rfl, rfl⟩
/-- a map turns, and gets another number -/
theorem map_step {E : Env} {ρ : Ren} {h : H} {w : World} (s : St sha E ρ h w) {r : Pa} {B : Blk} (hB : ρ.β r = some B) {es es' : List (V × V)} {ver : Pa} (hg : h.get r = some (.map es ver)) {q : Pa} (hq : h.next.succ = some q) {ce' : Array MapEntry} {clock' : Nat} (hm : MapR ρ es' ce' clock') :
    ∃ ρ', Step sha E ρ h w ρ' (H.set { objs := h.objs, next := q, hs := h.hs } r (.map es' h.next)) { w with heap := w.heap.setIfInBounds B.k (.map ce' clock') } ∧ ρ'.mv h.next = some (ce', clock') := by
  obtain ⟨ρ', s1, hmv, hβ, _⟩ := Step.bump s hq (some (ce', clock'))
  have hlt : B.k < w.heap.size := by
    obtain ⟨ce, clock, g1, _⟩ := s.map hB hg
    exact (Array.getElem?_eq_some_iff.1 g1).1
  have s2 := Step.set s1.st (n := r) (o := .map es ver) (o' := .map es' h.next) (B := B) (w' := { w with heap := w.heap.setIfInBounds B.k (.map ce' clock') }) hg (by rw [hβ]; exact hB)
    ⟨ce', clock', by simp [hlt], hmv _ rfl, hm.mono s1.le⟩ (fun b hb => by simp [Array.getElem?_setIfInBounds, Ne.symm hb]) (by simp) rfl rfl rfl
  exact ⟨ρ', s1.trans s2, hmv _ rfl⟩
theorem hd_of {P : Program} {C : Cx} (hC : CxOK C P) {kt : Nat} {ki : TI} (hki : C.ty kt = some ki) : ∃ d, P.underlying kt = some d := by
  have := (hC _ _ hki).d
  cases hD : ki.d <;> rw [hD] at this <;> simp only [DR] at this
  all_goals first
    | exact ⟨_, this⟩
    | (obtain ⟨_, h, _⟩ := this; exact ⟨_, h⟩)
    | (obtain ⟨_, _, _, h⟩ := this; exact ⟨_, h⟩)
    | (obtain ⟨_, h⟩ := this; exact ⟨_, h⟩)
section
variable {P : Program} {nb : Nat} {o : Oper} {C : Cx} (hC : CxOK C P)
include hC
theorem es_mu {t : TypeId} {ti ki : TI} {kt et : Nat} (hti : C.ty t = some ti) (hd : ti.d = .map kt et) (hki : C.ty kt = some ki) {K : CR CK} (hK : ki.eq = some K)
    {m k x : Operand} {sm sk sx : Opd} (hm : cOpd nb m = some sm) (hk : cOpd nb k = some sk) (hx : cOpd nb x = some sx) (ho : o.op = .mapUpdate t m k x ∨ o.op = .insert t m k x) : ESound sha P nb o (eMu K sm sk sx) := by
  intro E ρ tm h a w v h' hF s hv
  have h1 := cOpd_VR hF hm
  have h2 := cOpd_VR hF hk
  have hxv := cOpd_VR hF hx
  have hq := ((hC _ _ hki).eq K hK).2
  obtain ⟨dk, hdk⟩ := hd_of hC hki
  have h3 := (hC _ _ hti).d
  rw [hd] at h3
  have h3' : P.underlying t = some (.map kt et) := h3
  simp only [eMu, R.when_eq] at hv
  obtain ⟨hko, hv⟩ := hv
  have hck := hq.2.2 ρ _ _ h2 hko
  have hexec : (execOp a.eval o) = (do Instr.mapUpdate t (a.eval m) (a.eval k) (a.eval x); pure .skip) := by rcases ho with ho | ho <;> simp only [execOp, ho]
  unfold mapW at hv
  split at hv
  · rename_i r hr
    rw [hr] at h1
    obtain ⟨B, hB, h1⟩ := h1
    split at hv
    · rename_i es ver hg
      simp only [R.bind_eq, R.of_eq, R.map_eq] at hv
      obtain ⟨es', hes, ⟨n, hf⟩, hfr, hh⟩ := hv
      cases hh
      obtain ⟨rfl, q, hq', rfl⟩ := H.fresh_spec hfr
      rw [bite_eq] at hes
      split at hes
      · rename_i hsh
        obtain ⟨ce, clock, g1, g2, g3⟩ := s.map hB hg
        rcases updK_cases hes with ⟨pre, a', v', post, he, rfl, hveq⟩ | ⟨rfl, hall⟩
        · obtain ⟨A, e, B', p1, p2, f1, f2, f3, f4, f5, f6, f7, f8, f9⟩ := map_found s.env hdk hq g3 h2 he hveq
          have hce' := modify_mid f1 (fun e => { e with key := a.eval k, val := a.eval x })
          have hMap := g3.upd f1 f3 f5 f6 f7 hxv (ce' := ce.modify A.length (fun e => { e with key := a.eval k, val := a.eval x })) (by rw [hce', f2])
          obtain ⟨ρ', hst, _⟩ := map_step s hB hg hq' hMap
          refine ⟨.skip, undef, _, ρ', ?_, rfl, VR_undef ρ', hst⟩
          rw [hexec]
          simp [h1, Instr.mapUpdate, run_underlying h3', gget_map g1, hck, f8, get_mid f1, Instr.keyThatStays, f9, gset_map g1]
        · obtain ⟨hne, f8⟩ := map_missing s.env hdk hq g3 h2 hall
          have hMap := g3.add h2 hxv hne hsh
          obtain ⟨ρ', hst, _⟩ := map_step s hB hg hq' hMap
          refine ⟨.skip, undef, _, ρ', ?_, rfl, VR_undef ρ', hst⟩
          rw [hexec]
          simp [h1, Instr.mapUpdate, run_underlying h3', gget_map g1, hck, f8, gset_map g1]
      · cases hes
    · cases hv
  · cases hv
theorem es_me {t : TypeId} {ti ki ei : TI} {kt et : Nat} (hti : C.ty t = some ti) (hd : ti.d = .map kt et) (hki : C.ty kt = some ki) (hei : C.ty et = some ei) {K : CR CK} (hK : ki.eq = some K) {z : V} (hz : ei.zero = some z)
    {m k : Operand} {sm sk : Opd} (hm : cOpd nb m = some sm) (hk : cOpd nb k = some sk) (ho : o.op = .mapEntry t m k) : ESound sha P nb o (eMe K z sm sk) := by
  intro E ρ tm h a w v h' hF s hv
  have h1 := cOpd_VR hF hm
  have h2 := cOpd_VR hF hk
  have hq := ((hC _ _ hki).eq K hK).2
  obtain ⟨dk, hdk⟩ := hd_of hC hki
  obtain ⟨zu, hzu, hzr⟩ := (hC _ _ hei).zeroV w hz
  have h3 := (hC _ _ hti).d
  rw [hd] at h3
  have h3' : P.underlying t = some (.map kt et) := h3
  simp only [eMe] at hv
  unfold meV at hv
  split at hv
  · rename_i r hr
    rw [hr] at h1
    obtain ⟨B, hB, h1⟩ := h1
    obtain ⟨hko, hv⟩ := R.when_eq.1 hv
    have hck := hq.2.2 ρ _ _ h2 hko
    split at hv
    · rename_i es ver hg
      obtain ⟨ce, clock, g1, g2, g3⟩ := s.map hB hg
      split at hv
      · rename_i v' hf
        cases hv
        rcases findK_cases hf with ⟨pre, a', v'', post, he, hr', hveq⟩ | ⟨hr', _⟩
        · cases hr'
          obtain ⟨A, e, B', p1, p2, f1, f2, f3, f4, f5, f6, f7, f8, f9⟩ := map_found s.env hdk hq g3 h2 he hveq
          have hce' : ce.modify A.length (fun e => { e with key := a.eval k }) = ce := by
            apply Array.ext'
            rw [modify_mid f1, f1, f2]
          refine ⟨.value (.tuple #[e.val, .int .i64 e.born]), _, { w with heap := w.heap.setIfInBounds B.k (.map ce clock) }, ρ, ?_, rfl, ⟨[e.val, .int .i64 e.born], ⟨_, _, f4, ⟨.int .i64 e.born, [], ⟨_, e, g2, by rw [f1]; simp, by rw [← f2]; exact h2, rfl⟩, rfl, rfl⟩, rfl⟩, rfl⟩, ?_⟩
          · simp [execOp, ho, h1, Instr.mapEntry, run_underlying h3', gget_map g1, hck, f8, get_mid f1, Instr.keyThatStays, f9, gset_map g1, hce', goInt]
          · have hsame : w.heap.setIfInBounds B.k (.map ce clock) = w.heap := by
              apply Array.ext_getElem?
              intro i
              rw [Array.getElem?_setIfInBounds]
              split
              · rename_i hi; subst hi; split
                · exact g1.symm
                · rename_i hlt; exact (hlt (Array.getElem?_eq_some_iff.1 g1).1).elim
              · rfl
            rw [hsame]
            exact Step.refl s
        · cases hr'
      · rename_i hf
        simp only [R.when_eq, R.map_eq] at hv
        obtain ⟨hsh, ⟨n, hf'⟩, hfr, hh⟩ := hv
        cases hh
        obtain ⟨rfl, q, hq', rfl⟩ := H.fresh_spec hfr
        rcases findK_cases hf with ⟨pre, a', v'', post, he, hr', hveq⟩ | ⟨_, hall⟩
        · cases hr'
        · obtain ⟨hne, f8⟩ := map_missing s.env hdk hq g3 h2 hall
          have hMap := g3.add h2 (hzr ρ) hne hsh
          obtain ⟨ρ', hst, hmv⟩ := map_step s hB hg hq' hMap
          refine ⟨.value (.tuple #[zu, .int .i64 clock]), _, _, ρ', ?_, rfl, ⟨[zu, .int .i64 clock], ⟨_, _, hzr ρ', ⟨.int .i64 clock, [], ⟨_, { key := a.eval k, val := zu, born := clock }, hmv, by simp, h2.mono hst.le, rfl⟩, rfl, rfl⟩, rfl⟩, rfl⟩, hst⟩
          simp [execOp, ho, h1, Instr.mapEntry, run_underlying h3', gget_map g1, hck, f8, hzu, gset_map g1, goInt]
      · cases hv
    · cases hv
  · cases hv
theorem es_es {t : TypeId} {ti ki : TI} {kt et : Nat} (hti : C.ty t = some ti) (hd : ti.d = .map kt et) (hki : C.ty kt = some ki) {K : CR CK} (hK : ki.eq = some K)
    {m k x : Operand} {sm sk sx : Opd} (hm : cOpd nb m = some sm) (hk : cOpd nb k = some sk) (hx : cOpd nb x = some sx) (ho : o.op = .entryStore t m k x) : ESound sha P nb o (eEs K sm sk sx) := by
  intro E ρ tm h a w v h' hF s hv
  have h1 := cOpd_VR hF hm
  have h2 := cOpd_VR hF hk
  have hxv := cOpd_VR hF hx
  have hq := ((hC _ _ hki).eq K hK).2
  obtain ⟨dk, hdk⟩ := hd_of hC hki
  simp only [eEs, esV] at hv
  split at hv
  · rename_i r ver' kk hr hst0
    rw [hr] at h1
    rw [hst0] at h2
    obtain ⟨B, hB, h1⟩ := h1
    obtain ⟨cc, e0, m1, m2, m3, m4⟩ := h2
    split at hv
    · rename_i es ver hg
      simp only [R.when_eq, R.bind_eq, R.of_eq, R.map_eq] at hv
      obtain ⟨hver, es', hes, ⟨n, hf⟩, hfr, hh⟩ := hv
      cases hh
      have hver := Pa.beq_iff.1 hver
      subst hver
      obtain ⟨rfl, q, hq', rfl⟩ := H.fresh_spec hfr
      obtain ⟨ce, clock, g1, g2, g3⟩ := s.map hB hg
      rw [m1] at g2
      cases g2
      rcases updK_cases hes with ⟨pre, a', v', post, he, rfl, hveq⟩ | ⟨rfl, hall⟩
      · obtain ⟨A, e, B', p1, p2, f1, f2, f3, f4, f5, f6, f7, f8, f9⟩ := map_found s.env hdk hq g3 m3 he hveq
        have hee : e0 = e := by
          have hn := g3.keys
          rw [f1] at hn m2
          simp only [List.map_append, List.map_cons, List.nodup_append, List.nodup_cons] at hn
          simp only [List.mem_append, List.mem_cons] at m2
          rcases m2 with m2 | m2 | m2
          · exact absurd f2 (hn.2.2 e0.key (List.mem_map.2 ⟨e0, m2, rfl⟩) e.key (by simp))
          · exact m2
          · exact absurd (List.mem_map.2 ⟨e0, m2, f2⟩) hn.2.1.1
        subst hee
        have hidx : ce.findIdx? (fun y => (y.born : Int) == (e0.born : Int)) = some A.length := by
          rw [show ce = ce.toList.toArray from rfl, List.findIdx?_toArray, f1]
          have hb := g3.borns
          rw [f1] at hb
          simp only [List.map_append, List.map_cons, List.nodup_append] at hb
          have hA : ∀ y ∈ A, ((y.born : Int) == (e0.born : Int)) = false := by
            intro y hy
            have := hb.2.2 y.born (List.mem_map.2 ⟨y, hy, rfl⟩) e0.born (by simp)
            simp; omega
          rw [List.findIdx?_append, List.findIdx?_eq_none_iff.2 hA]
          simp [List.findIdx?_cons]
        have hce' := modify_mid f1 (fun e => { e with val := a.eval x })
        have hMap := g3.upd f1 f3 f5 f6 f7 hxv (ce' := ce.modify A.length (fun e => { e with val := a.eval x })) hce'
        obtain ⟨ρ', hst, _⟩ := map_step s hB hg hq' hMap
        refine ⟨.skip, undef, _, ρ', ?_, rfl, VR_undef ρ', hst⟩
        simp [execOp, ho, h1, m4, Instr.entryStore, gget_map g1, asInt, asIntOf, hidx, gset_map g1]
      · obtain ⟨hne, f8⟩ := map_missing s.env hdk hq g3 m3 hall
        exact absurd rfl (hne e0 m2)
    · cases hv
  · cases hv
theorem es_del {t : TypeId} {ts : List TypeId} {ats : Array TypeId} (hts : ats.toList = t :: ts) {ti ki : TI} {kt et : Nat} (hti : C.ty t = some ti) (hd : ti.d = .map kt et) (hki : C.ty kt = some ki) {K : CR CK} (hK : ki.eq = some K)
    {m k : Operand} {args : Array Operand} (hargs : args.toList = [m, k]) {sm sk : Opd} (hm : cOpd nb m = some sm) (hk : cOpd nb k = some sk) (ho : o.op = .call ⟨.builtin .delete, args, ats⟩) : ESound sha P nb o (eDel K sm sk) := by
  intro E ρ tm h a w v h' hF s hv
  have h1 := cOpd_VR hF hm
  have h2 := cOpd_VR hF hk
  have hq := ((hC _ _ hki).eq K hK).2
  obtain ⟨dk, hdk⟩ := hd_of hC hki
  have h3 := (hC _ _ hti).d
  rw [hd] at h3
  have h3' : P.underlying t = some (.map kt et) := h3
  obtain ⟨cs, hcs⟩ := run_builtin (P := P) ho a w
  have e0 : (args.map a.eval)[0]? = some (a.eval m) := by rw [← Array.getElem?_toList]; simp [hargs]
  have e1 : (args.map a.eval)[1]? = some (a.eval k) := by rw [← Array.getElem?_toList]; simp [hargs]
  simp only [eDel, R.when_eq] at hv
  obtain ⟨hko, hv⟩ := hv
  have hck := hq.2.2 ρ _ _ h2 hko
  rw [bite_eq] at hv
  split at hv
  · rename_i hnm
    cases hv
    have : sm.ev tm = .nm := by
      unfold isNm at hnm
      split at hnm
      · assumption
      · cases hnm
    rw [this] at h1
    simp only [VR] at h1
    refine ⟨.value (.tuple #[]), _, w, ρ, ?_, rfl, VR_undef ρ, Step.refl s⟩
    rw [hcs]
    simp [builtin, Builtin.delete_, tys1 hts, e0, e1, h1, run_underlying h3', hck]
  · unfold mapW at hv
    split at hv
    · rename_i r hr
      rw [hr] at h1
      obtain ⟨B, hB, h1⟩ := h1
      split at hv
      · rename_i es ver hg
        simp only [R.bind_eq, R.of_eq, R.map_eq] at hv
        obtain ⟨es', hes, ⟨n, hf⟩, hfr, hh⟩ := hv
        cases hh
        obtain ⟨rfl, q, hq', rfl⟩ := H.fresh_spec hfr
        obtain ⟨ce, clock, g1, g2, g3⟩ := s.map hB hg
        rcases delK_cases hes with ⟨pre, a', v', post, he, rfl, hveq⟩ | ⟨rfl, hall⟩
        · obtain ⟨A, e, B', p1, p2, f1, f2, f3, f4, f5, f6, f7, f8, f9⟩ := map_found s.env hdk hq g3 h2 he hveq
          have hce' : (ce.eraseIdxIfInBounds A.length).toList = A ++ B' := by
            rw [Array.toList_eraseIdxIfInBounds, f1]
            rw [List.eraseIdx_append_of_length_le (Nat.le_refl _)]
            simp
          have hMap := g3.del f1 f5 f6 f7 hce'
          obtain ⟨ρ', hst, _⟩ := map_step s hB hg hq' hMap
          refine ⟨.value (.tuple #[]), _, _, ρ', ?_, rfl, VR_undef ρ', hst⟩
          rw [hcs]
          simp [builtin, Builtin.delete_, tys1 hts, e0, e1, h1, run_underlying h3', gget_map g1, hck, f8, gset_map g1]
        · obtain ⟨hne, f8⟩ := map_missing s.env hdk hq g3 h2 hall
          obtain ⟨ρ', hst, _⟩ := map_step s hB hg hq' g3
          refine ⟨.value (.tuple #[]), _, _, ρ', ?_, rfl, VR_undef ρ', hst⟩
          rw [hcs]
          simp [builtin, Builtin.delete_, tys1 hts, e0, e1, h1, run_underlying h3', gget_map g1, hck, f8, gset_map g1]
      · cases hv
    · cases hv
end
end Go.SE
namespace Go.SE
variable {sha : List UInt8 → Nat → UInt8}
section
variable {P : Program} {nb : Nat} {o : Oper}
theorem St.drawn {E : Env} {ρ : Ren} {h : H} {w : World} (s : St sha E ρ h w) (d : Nat) : St sha E ρ h { w with drawn := d } := (Step.drawn s d).st
theorem appArg_spec {E : Env} {ρ : Ren} {h : H} {w : World} (s : St sha E ρ h w) {es : Nat} {v : V} {u : Value} (hv : VR ρ v u) {new : CR V} {m : Nat} (h1 : appArg h es v = .ok (new, m)) :
    ∃ news, CRR ρ new news ∧ news.length = m * es ∧ (∀ w, (Builtin.lenOf u).run P w = .ok m w) ∧ (∀ d, (Builtin.firstCells es m u).run P { w with drawn := d } = .ok news.toArray { w with drawn := d }) := by
  unfold appArg at h1
  split at h1
  · cases h1
    simp only [VR] at hv
    subst hv
    exact ⟨[], rfl, by simp, fun w => rfl, fun d => rfl⟩
  · cases h1
    obtain ⟨B, _, _, _, rfl⟩ := hv
    exact ⟨[], rfl, by simp, fun w => rfl, fun d => by simp only [Builtin.firstCells, Nat.zero_mul]; rfl⟩
  · rename_i b o n cp
    simp only [R.map_eq] at h1
    obtain ⟨c, hc, hh⟩ := h1
    cases hh
    obtain ⟨B, hB, rfl⟩ := hv
    obtain ⟨us, h2, h3, h4⟩ := loadN_some s hB hc
    refine ⟨us, h2, h3, fun w => rfl, fun d => ?_⟩
    have h5 := run_loadCells_list (P := P) (w := { w with drawn := d }) ⟨B.k, o, none⟩ us h4
    rw [h3] at h5
    exact h5
  · rename_i l
    simp only [R.when_eq] at h1
    obtain ⟨h2, hh⟩ := h1
    cases hh
    have h2 := beqT h2
    subst h2
    obtain ⟨bs, hb, rfl⟩ := hv
    refine ⟨bs.map fun b => Value.int .u8 (b.toNat : Int), CRR_iff.2 ⟨(CR.ofL_eq _).1, by rw [(CR.ofL_eq _).2]; exact hb.bytes⟩, by simp [hb.length], fun w => by simp [Builtin.lenOf, size_mk, hb.length], fun d => ?_⟩
    simp only [Builtin.firstCells, extract_mk]
    rw [List.take_of_length_le (by rw [hb.length]; exact Nat.le_refl _)]
    simp
  · cases h1
/-- 'append' into what has room -/
theorem run_app_room {t t2 e : Nat} {ts : List Nat} {ats : Array TypeId} (hts : ats.toList = t :: t2 :: ts) (ht : P.underlying t = some (.slice e)) {d2 : TypeDesc} (ht2 : P.underlying t2 = some d2) (hd2 : ∀ k, d2 ≠ .int k) {i : TypeInfo} (hi : P.info? e = some i)
    {args : Array Value} {base : Option Addr} {l c : Nat} {x : Value} (hargs : args.toList = [.slice base l c, x]) {m : Nat} (hlen : ∀ w, (Builtin.lenOf x).run P w = .ok m w) {w : World} {news : Array Value} (hnew : (Builtin.firstCells i.size m x).run P w = .ok news w) (hroom : l + m ≤ c) (ty : TypeId) {w' : World}
    (hst : (match base with | some a => storeCells (a.add (l * i.size)) news.toList | none => pure () : Sem Unit).run P w = .ok () w') :
    (Builtin.append_ ats ty args).run P w = .ok (.slice base (l + m) c) w' := by
  have a0 : ats[0]? = some t := by rw [← Array.getElem?_toList, hts]; rfl
  have a1 : ats[1]? = some t2 := by rw [← Array.getElem?_toList, hts]; rfl
  have b0 : args[0]? = some (.slice base l c) := by rw [← Array.getElem?_toList, hargs]; rfl
  have b1 : args[1]? = some x := by rw [← Array.getElem?_toList, hargs]; rfl
  have hz : (sizeOf e).run P w = .ok i.size w := by simp [sizeOf, typeInfo, hi]
  have hnoint : (match d2 with | .int _ => true | _ => false) = false := by cases d2 <;> first | rfl | exact absurd rfl (hd2 _)
  simp only [Builtin.append_, a0, a1, b0, b1, Sem.run_bind, run_underlying ht, Result.andThen_ok, hz, run_underlying ht2, Sem.run_pure]
  simp only [Bool.false_eq_true, if_false, Sem.run_bind, hlen, Result.andThen_ok, Bool.not_false, if_true]
  rw [if_pos hroom]
  simp only [Sem.run_bind, hnew, Result.andThen_ok]
  cases base with
  | none =>
    simp only [Sem.run_pure, Result.ok.injEq, true_and] at hst
    subst hst
    rfl
  | some a =>
    simp only at hst
    simp only [Sem.run_bind, hst, Result.andThen_ok, Sem.run_pure]
/-- 'append' into what has none -/
theorem run_app_grow {t t2 e : Nat} {ts : List Nat} {ats : Array TypeId} (hts : ats.toList = t :: t2 :: ts) (ht : P.underlying t = some (.slice e)) {d2 : TypeDesc} (ht2 : P.underlying t2 = some d2) (hd2 : ∀ k, d2 ≠ .int k) {i : TypeInfo} (hi : P.info? e = some i) {zu : Value} (hz : i.zero = some zu)
    {args : Array Value} {base : Option Addr} {l c : Nat} {x : Value} (hargs : args.toList = [.slice base l c, x]) {m : Nat} (hlen : ∀ w, (Builtin.lenOf x).run P w = .ok m w) {w : World} {news olds : Array Value}
    (hnew : ∀ d, (Builtin.firstCells i.size m x).run P { w with drawn := d } = .ok news { w with drawn := d }) (hold : ∀ d, (Builtin.firstCells i.size l (.slice base l c)).run P { w with drawn := d } = .ok olds { w with drawn := d })
    (hgrow : c < l + m) (hn : l + m ≤ 1099511627776) (hb : (l + m) * i.bytes ≤ 1099511627776) (ty : TypeId) :
    ∃ cap, l + m ≤ cap ∧ (Builtin.append_ ats ty args).run P w = .ok (.slice (some ⟨w.heap.size, 0, none⟩) (l + m) cap) (World.alloc { w with drawn := w.drawn + 1 } (.cells (olds ++ news ++ Builtin.zeroCells zu.cells (cap - (l + m))) e)) := by
  have a0 : ats[0]? = some t := by rw [← Array.getElem?_toList, hts]; rfl
  have a1 : ats[1]? = some t2 := by rw [← Array.getElem?_toList, hts]; rfl
  have b0 : args[0]? = some (.slice base l c) := by rw [← Array.getElem?_toList, hargs]; rfl
  have b1 : args[1]? = some x := by rw [← Array.getElem?_toList, hargs]; rfl
  have hs : ∀ w, (sizeOf e).run P w = .ok i.size w := fun w => by simp [sizeOf, typeInfo, hi]
  have hti : ∀ w, (typeInfo e).run P w = .ok i w := fun w => by simp [typeInfo, hi]
  have hzv : ∀ w, (zeroValue e).run P w = .ok zu w := fun w => by simp [zeroValue, typeInfo, hi, hz]
  generalize hcap : (Question.appendCap (l + m) c e).cut (w.tape w.drawn (Question.appendCap (l + m) c e)) = cap
  refine ⟨cap, by rw [← hcap]; simp only [Question.cut]; omega, ?_⟩
  have hch : (choose (.appendCap (l + m) c e)).run P w = .ok cap { w with drawn := w.drawn + 1 } := by
    rw [run_choose, ← hcap]; rfl
  have hfit := growslice_fits (need := l + m) hgrow (bytes := i.bytes) (by omega)
  simp only [Builtin.append_, a0, a1, b0, b1, Sem.run_bind, run_underlying ht, Result.andThen_ok, hs, run_underlying ht2, Sem.run_pure]
  simp only [Bool.false_eq_true, if_false, Sem.run_bind, hlen, Result.andThen_ok, Bool.not_false, if_true]
  rw [if_neg (by omega)]
  simp only [Sem.run_bind, hti, Result.andThen_ok]
  rw [if_neg (by simp only [IntKind.max, IntKind.signed, IntKind.bits]; intro hh; have := hh.1; simp at this; omega)]
  simp only [Sem.run_bind, hti, Result.andThen_ok]
  rw [if_neg (by omega)]
  simp only [Sem.run_bind, hch, hti, Result.andThen_ok, run_askRoom, hold, hnew, hzv, newRow, nobj, Sem.run_pure]
theorem zeroCells_list (zu : Value) (n : Nat) : (Builtin.zeroCells zu.cells n).toList = (List.replicate n zu.cells.toList).flatten := by
  have := range_mod zu.cells.toList n
  simp only [Builtin.zeroCells, Array.toList_map, Array.toList_range]
  rw [← this]
  simp
theorem args2 {x y : Operand} {args : Array Operand} (h : args.toList = [x, y]) (f : Operand → Value) : (args.map f).toList = [f x, f y] := by simp [h]
/-- the row that has grown, in a new block -/
theorem grow_step {E : Env} {ρ : Ren} {h : H} {w : World} (s : St sha E ρ h w) {c : CR V} {us : List Value} (hc : CRR ρ c us) {e es n bytes cap : Nat} {v : V} {h' : H} (hg : growV h c e es n bytes = .ok (v, h')) {zu : Value} (hzl : zu.cells.toList.length = es) (hes : 0 < es) (hlen : us.length = n * es) (hcap : n ≤ cap) {cs : Array Value}
    (hcs : cs.toList = us ++ (List.replicate (cap - n) zu.cells.toList).flatten) :
    n ≤ 1099511627776 ∧ n * bytes ≤ 1099511627776 ∧ ∃ ρ', Step sha E ρ h w ρ' h' (World.alloc { w with drawn := w.drawn + 1 } (.cells cs e)) ∧ VR ρ' v (.slice (some ⟨w.heap.size, 0, none⟩) n cap) := by
  simp only [growV, R.when_eq, R.map_eq, Bool.and_eq_true, H.new] at hg
  obtain ⟨⟨b1, b2⟩, ⟨p, h2⟩, hn, hh⟩ := hg
  cases hh
  cases hq : h.next.succ with
  | none => rw [hq] at hn; cases hn
  | some q =>
    rw [hq] at hn
    cases hn
    have hsz : cs.size = cap * es := by
      rw [← Array.length_toList, hcs]
      simp only [List.length_append, List.length_flatten, List.map_replicate, List.sum_replicate_nat, hzl, hlen]
      rw [← Nat.add_mul]; congr 1; omega
    refine ⟨bleT b1, bleT b2, ?_⟩
    obtain ⟨ρ', hst, hβ⟩ := Step.new s hq (.cells c e es) ⟨w.heap.size, cs.size, es⟩ rfl none (w' := World.alloc { w with drawn := w.drawn + 1 } (.cells cs e)) (fun ρ' hle _ _ =>
      ⟨cs, (0, 0), us, _, alloc_at _ _, hc.mono hle, hcs, fun hh => absurd hh (by omega), fun _ => rfl, rfl, .inl rfl⟩) (fun b hb => alloc_old hb) (by rw [alloc_size]; exact Nat.le_succ _) rfl rfl rfl
    refine ⟨ρ', hst, _, hβ, ?_⟩
    rw [if_pos rfl]
    simp only [Nat.sub_zero, hsz]
    rw [Nat.mul_div_cancel _ hes]
variable {C : Cx} (hC : CxOK C P)
include hC
theorem es_app {t t2 : Nat} {ts : List Nat} {ats : Array TypeId} (hts : ats.toList = t :: t2 :: ts) {ti ui ei : TI} {e : Nat} (hti : C.ty t = some ti) (hui : C.ty t2 = some ui) (hd : ti.d = .slice e) (hud : noInt ui.d = true) (hei : C.ty e = some ei) {z : V} (hz : ei.zero = some z) (hsz : z.cells.len = ei.size)
    {x y : Operand} {args : Array Operand} (hargs : args.toList = [x, y]) {sx sy : Opd} (hx : cOpd nb x = some sx) (hy : cOpd nb y = some sy) (ho : o.op = .call ⟨.builtin .append, args, ats⟩) : ESound sha P nb o (eApp e ei.size ei.bytes sx sy) := by
  intro E ρ tm h a w v h' hF s hv
  have h1 := cOpd_VR hF hx
  have h2 := cOpd_VR hF hy
  obtain ⟨cs, hcs⟩ := run_builtin (P := P) ho a w
  have hA := args2 hargs a.eval
  have h3 := (hC _ _ hti).d
  rw [hd] at h3
  have h3' : P.underlying t = some (.slice e) := h3
  obtain ⟨i, hi1, hi2, hi3, hi4⟩ := (hC _ _ hei).i
  obtain ⟨zu, hzu, hzr⟩ := hi4 z hz
  have hzl : zu.cells.toList.length = ei.size := by
    have := CRR_iff.1 (V.cells_VR (hzr ρ))
    rw [this.2.length, ← CR.len_eq this.1, hsz]
  obtain ⟨d2, hd2, hd2'⟩ : ∃ d2, P.underlying t2 = some d2 ∧ ∀ k, d2 ≠ .int k := by
    have := (hC _ _ hui).d
    cases hD : ui.d <;> rw [hD] at this hud <;> simp only [DR, noInt, Bool.false_eq_true] at this hud
    · exact ⟨_, this, by simp⟩
    · exact ⟨_, this, by simp⟩
  simp only [eApp, R.bind_eq, R.when_eq, Bool.and_eq_true] at hv
  obtain ⟨⟨new, m⟩, harg, ⟨hone, hes⟩, hv⟩ := hv
  simp only at hone hv
  have hes := bltT hes
  obtain ⟨news, n1, n2, n3, n4⟩ := appArg_spec (P := P) s h2 harg
  rw [← hi2] at n4
  have nw : (Builtin.firstCells i.size m (a.eval y)).run P w = .ok news.toArray w := n4 w.drawn
  have honen := allOne_CRR n1 hone
  have fin : ∀ u w' ρ', (Builtin.append_ ats o.type (args.map a.eval)).run P w = .ok u w' → VR ρ' v u → Step sha E ρ h w ρ' h' w' → ∃ nx u w' ρ', (execOp a.eval o).run P w = .ok nx w' ∧ Go.Next.val nx = some u ∧ VR ρ' v u ∧ Step sha E ρ h w ρ' h' w' := by
    intro u w' ρ' q1 q2 q3
    exact ⟨.value u, u, w', ρ', by rw [hcs]; simp [builtin, q1], rfl, q2, q3⟩
  unfold appV at hv
  split at hv
  · rename_i hns
    rw [hns] at h1
    simp only [VR] at h1
    rw [h1] at hA
    rw [bite_eq] at hv
    split at hv
    · rename_i hm0
      have hm0 := beqT hm0
      subst hm0
      cases hv
      exact fin _ w ρ (run_app_room hts h3' hd2 hd2' hi1 hA n3 nw (Nat.le_refl _) o.type (w' := w) rfl) rfl (Step.refl s)
    · rename_i hm0
      have hm0 : m ≠ 0 := fun hh => hm0 (by rw [hh]; rfl)
      have hgr := fun cap hcap cs hcs => grow_step s n1 hv (zu := zu) (cap := cap) hzl hes n2 hcap (cs := cs) hcs
      obtain ⟨hb1, hb2, _⟩ := hgr m (Nat.le_refl _) news.toArray (by simp)
      obtain ⟨cap, hcap, hrun⟩ := run_app_grow hts h3' hd2 hd2' hi1 hzu hA n3 n4 (olds := #[]) (fun d => rfl) (by omega) (by omega) (by rw [hi3]; simpa using hb2) o.type
      rw [Nat.zero_add] at hrun hcap
      obtain ⟨_, _, ρ', hst, hvr⟩ := hgr cap hcap (#[] ++ news.toArray ++ Builtin.zeroCells zu.cells (cap - m)) (by simp [zeroCells_list])
      exact fin _ _ ρ' hrun hvr hst
  · rename_i b off l c hsl
    rw [hsl] at h1
    obtain ⟨B, hB, h1⟩ := h1
    rw [h1] at hA
    split at hv
    · rename_i cs0 e' op hg
      obtain ⟨csA, fz, us, rest, g1, g2, g3, g4, g5, g6, g7⟩ := s.cells hB hg
      obtain ⟨gw, gl⟩ := CRR_iff.1 g2
      have hlen0 : cs0.len = us.length := by rw [CR.len_eq gw, gl.length]
      have hszA : B.sz = us.length + rest.length := by rw [← g6, ← Array.length_toList, g3]; simp
      simp only [appS, R.when_eq, Bool.and_eq_true] at hv
      obtain ⟨⟨he, hop⟩, hv⟩ := hv
      have he := beqT he
      subst he
      have hopU : c = UNK → B.es = ei.size := by
        intro hc
        rw [bite_eq, if_pos (by rw [hc]; rfl)] at hop
        have := beqT hop
        rw [g5 (by omega), this]
      rw [bite_eq] at hv
      -- what is known to be room is room
      have hroomOf : (bite (Nat.beq c UNK) (Nat.div (Nat.sub cs0.len off) ei.size) c) ≤ (if c = UNK then (B.sz - off) / B.es else c) := by
        rw [bite_eq]
        by_cases hc : c = UNK
        · rw [if_pos (by rw [hc]; rfl), if_pos hc, hopU hc]
          apply Nat.div_le_div_right
          simp only [Nat.sub_eq]
          omega
        · rw [if_neg (fun hh => hc (beqT hh)), if_neg hc]
          exact Nat.le_refl _
      split at hv
      · rename_i hroom
        have hroom := bleT hroom
        obtain ⟨hfit, hv⟩ := R.when_eq.1 hv
        cases hv
        have hfit := bleT hfit
        simp only [Nat.add_eq, Nat.mul_eq] at hroom hfit
        have hm2 : m * ei.size = news.length := n2.symm
        have hfit' : off + l * ei.size + news.length ≤ cs0.len := by rw [n2, Nat.add_assoc, ← Nat.add_mul]; exact hfit
        obtain ⟨w', hw', hst⟩ := store_step (P := P) s hB hg n1 honen hfit'
        have hrun := run_app_room hts h3' hd2 hd2' hi1 hA n3 nw (show l + m ≤ _ from Nat.le_trans hroom hroomOf) o.type (w' := w') (by simp only [addr_add, hi2]; exact hw')
        refine fin _ w' ρ hrun ⟨B, hB, rfl⟩ ?_
        simp only [Nat.mul_eq, Nat.add_eq, hm2]
        exact hst
      · rename_i hroom
        have hroom : ¬ l + m ≤ bite (Nat.beq c UNK) (Nat.div (Nat.sub cs0.len off) ei.size) c := fun hh => hroom (Nat.ble_eq_true_of_le hh)
        rw [bite_eq] at hv
        split at hv
        · rename_i hc
          have hc := beqT hc
          subst hc
          simp only [R.when_eq, Bool.and_eq_true] at hv
          obtain ⟨⟨h0, hl⟩, hv⟩ := hv
          have h0 := beqT h0
          subst h0
          have hl := beqT hl
          simp only [Nat.mul_eq] at hl
          have hus : us.length = l * ei.size := by rw [← hlen0, hl]
          have hesB := hopU rfl
          rw [if_pos rfl, Nat.sub_zero] at hA
          rw [if_pos rfl, Nat.sub_zero] at h1
          have hcat := CR.wf_cat gw (CRR_iff.1 n1).1
          have hcatR : CRR ρ (CR.cat cs0 new) (us ++ news) := CRR_iff.2 ⟨hcat.1, by rw [hcat.2]; exact gl.append (CRR_iff.1 n1).2⟩
          have hlenc : (us ++ news).length = (l + m) * ei.size := by rw [List.length_append, hus, n2, Nat.add_mul]
          by_cases hin : l + m ≤ B.sz / B.es
          · -- it grows in its place
            have hle : (l + m) * ei.size ≤ B.sz := by
              rw [hesB] at hin
              exact Nat.le_trans (Nat.mul_le_mul_right _ hin) (Nat.div_mul_le_self _ _)
            have hrun0 := run_stores P B.k (l * ei.size) e' fz news 0 csA w g1 (g7.imp id And.left) (by rw [g6, n2, Nat.add_zero, ← Nat.add_mul]; exact hle) honen
            have hrun := run_app_room hts h3' hd2 hd2' hi1 hA n3 nw hin o.type (by simp only [addr_add, hi2, Nat.zero_add]; exact hrun0)
            simp only [growV, R.when_eq, R.map_eq, Bool.and_eq_true, H.new] at hv
            obtain ⟨_, ⟨p, h2'⟩, hn, hh⟩ := hv
            cases hh
            cases hq : h.next.succ with
            | none =>
              have hq' : (h.del b).next.succ = none := hq
              rw [hq'] at hn; cases hn
            | some q =>
              have hq' : (h.del b).next.succ = some q := hq
              rw [hq'] at hn
              cases hn
              simp only [Nat.add_zero] at hrun
              have hrest : rest.length = B.sz - l * ei.size := by omega
              have hlist : csA.toList.take (l * ei.size) ++ news ++ csA.toList.drop (l * ei.size + news.length) = us ++ news ++ rest.drop news.length := by
                rw [g3, ← hus]
                simp
              obtain ⟨ρ', hst, hβ⟩ := Step.rename s hg hB hq (.cells (CR.cat cs0 new) e' ei.size) (w' := w.setRow B.k (csA.toList.take (l * ei.size) ++ news ++ csA.toList.drop (l * ei.size + news.length)).toArray) (fun ρ' hle' => by
                refine ⟨_, fz, us ++ news, rest.drop news.length, setRow_heap w B.k csA _ e' fz g1, hcatR.mono hle', by simp only [hlist], fun hh => absurd hh (by omega), fun _ => hesB, ?_, ?_⟩
                · rw [hlist]
                  simp only [List.size_toArray, List.length_append, List.length_drop]
                  have : news.length ≤ rest.length := by rw [n2, hrest]; rw [Nat.add_mul] at hle; omega
                  omega
                · rcases g7 with g7 | ⟨g7, g8⟩
                  · exact .inl g7
                  · refine .inr ⟨?_, by rw [hle'.byt]; exact g8⟩
                    rw [hlist]
                    simp only [List.size_toArray, List.length_append, List.length_drop]
                    have : news.length ≤ rest.length := by rw [n2, hrest]; rw [Nat.add_mul] at hle; omega
                    have : csA.size = us.length + rest.length := by rw [← Array.length_toList, g3]; simp
                    omega) (fun b' hb' => setRow_other w B.k b' _ hb') (setRow_size w _ _) rfl rfl rfl
              refine fin _ _ ρ' hrun ⟨B, hβ, ?_⟩ hst
              rw [if_pos rfl, Nat.sub_zero]
              rfl
          · -- it moves
            have hst0 := Step.forget s hg
            have hgr := fun cap hcap cs hcs => grow_step hst0.st hcatR hv (zu := zu) (cap := cap) hzl hes hlenc hcap (cs := cs) hcs
            obtain ⟨hb1, hb2, _⟩ := hgr (l + m) (Nat.le_refl _) (us ++ news).toArray (by simp)
            have hold : ∀ d, (Builtin.firstCells i.size l (.slice (some ⟨B.k, 0, none⟩) l (B.sz / B.es))).run P { w with drawn := d } = .ok us.toArray { w with drawn := d } := by
              intro d
              have h5 := run_loadCells_list (P := P) (w := { w with drawn := d }) ⟨B.k, 0, none⟩ us (fun j v hj => by
                rw [addr_add, Nat.zero_add]
                simp only [World.cell?, g1, Option.isSome_none, Bool.false_eq_true, if_false]
                rw [← Array.getElem?_toList, g3, List.getElem?_append_left (List.getElem?_eq_some_iff.1 hj).1, hj])
              rw [hus] at h5
              simp only [Builtin.firstCells, hi2]
              exact h5
            obtain ⟨cap, hcap, hrun⟩ := run_app_grow hts h3' hd2 hd2' hi1 hzu hA n3 n4 hold (by omega) hb1 (by rw [hi3]; exact hb2) o.type
            obtain ⟨_, _, ρ', hst, hvr⟩ := hgr cap hcap (us.toArray ++ news.toArray ++ Builtin.zeroCells zu.cells (cap - (l + m))) (by simp [zeroCells_list])
            exact fin _ _ ρ' hrun hvr (hst0.trans hst)
        · rename_i hc
          have hc : c ≠ UNK := fun hh => hc (by rw [hh]; rfl)
          obtain ⟨hfit, hv⟩ := R.when_eq.1 hv
          have hfit := bleT hfit
          simp only [Nat.add_eq, Nat.mul_eq] at hfit
          rw [if_neg hc] at hA
          rw [bite_eq, if_neg (fun hh => hc (beqT hh))] at hroom
          have hfit2 : off + l * ei.size ≤ us.length := by omega
          have hsub := CR.sub_eq gw off (l * ei.size) (by rw [← gl.length]; exact hfit2)
          have hcat := CR.wf_cat hsub.1 (CRR_iff.1 n1).1
          have hcatR : CRR ρ (CR.cat (CR.sub cs0 off (l * ei.size)) new) ((us.drop off).take (l * ei.size) ++ news) := CRR_iff.2 ⟨hcat.1, by rw [hcat.2, hsub.2]; exact ((gl.drop off).take _).append (CRR_iff.1 n1).2⟩
          have holdl : ((us.drop off).take (l * ei.size)).length = l * ei.size := by simp; omega
          have hlenc : ((us.drop off).take (l * ei.size) ++ news).length = (l + m) * ei.size := by rw [List.length_append, holdl, n2, Nat.add_mul]
          have hgr := fun cap hcap cs hcs => grow_step s hcatR hv (zu := zu) (cap := cap) hzl hes hlenc hcap (cs := cs) hcs
          obtain ⟨hb1, hb2, _⟩ := hgr (l + m) (Nat.le_refl _) ((us.drop off).take (l * ei.size) ++ news).toArray (by simp)
          have hold : ∀ d, (Builtin.firstCells i.size l (.slice (some ⟨B.k, off, none⟩) l c)).run P { w with drawn := d } = .ok ((us.drop off).take (l * ei.size)).toArray { w with drawn := d } := by
            intro d
            have h5 := run_loadCells_list (P := P) (w := { w with drawn := d }) ⟨B.k, off, none⟩ ((us.drop off).take (l * ei.size)) (fun j v hj => by
              rw [addr_add]
              simp only [World.cell?, g1, Option.isSome_none, Bool.false_eq_true, if_false]
              rw [List.getElem?_take] at hj
              split at hj
              · rw [List.getElem?_drop] at hj
                rw [← Array.getElem?_toList, g3, List.getElem?_append_left (List.getElem?_eq_some_iff.1 hj).1, hj]
              · cases hj)
            rw [holdl] at h5
            simp only [Builtin.firstCells, hi2]
            exact h5
          obtain ⟨cap, hcap, hrun⟩ := run_app_grow hts h3' hd2 hd2' hi1 hzu hA n3 n4 hold (by omega) hb1 (by rw [hi3]; exact hb2) o.type
          obtain ⟨_, _, ρ', hst, hvr⟩ := hgr cap hcap (((us.drop off).take (l * ei.size)).toArray ++ news.toArray ++ Builtin.zeroCells zu.cells (cap - (l + m))) (by simp [zeroCells_list])
          exact fin _ _ ρ' hrun hvr hst
    · cases hv
  · cases hv
theorem es_clr {t : Nat} {ts : List Nat} {ats : Array TypeId} (hts : ats.toList = t :: ts) {ti ei : TI} {e : Nat} (hti : C.ty t = some ti) (hd : ti.d = .slice e) (hei : C.ty e = some ei) {z : V} (hz : ei.zero = some z)
    {x : Operand} {args : Array Operand} (hargs : args.toList = [x]) {sx : Opd} (hx : cOpd nb x = some sx) (ho : o.op = .call ⟨.builtin .clear, args, ats⟩) : ESound sha P nb o (eClr z.cells ei.size sx) := by
  intro E ρ tm h a w v h' hF s hv
  have h1 := cOpd_VR hF hx
  obtain ⟨cs, hcs⟩ := run_builtin (P := P) ho a w
  have h3 := (hC _ _ hti).d
  rw [hd] at h3
  have h3' : P.underlying t = some (.slice e) := h3
  obtain ⟨zu, hzu, hzr⟩ := (hC _ _ hei).zeroV w hz
  have hz0 := V.cells_VR (hzr ρ)
  simp only [eClr, clrV] at hv
  split at hv
  · rename_i hns
    rw [hns] at h1
    cases hv
    simp only [VR] at h1
    refine ⟨.value (.tuple #[]), _, w, ρ, ?_, rfl, VR_undef ρ, Step.refl s⟩
    rw [hcs]
    simp [builtin, Builtin.clear_, tys1 hts, args1 hargs, h1, run_underlying h3']
  · rename_i hns
    rw [hns] at h1
    cases hv
    obtain ⟨B, _, _, _, h1⟩ := h1
    refine ⟨.value (.tuple #[]), _, w, ρ, ?_, rfl, VR_undef ρ, Step.refl s⟩
    rw [hcs]
    simp [builtin, Builtin.clear_, tys1 hts, args1 hargs, h1, run_underlying h3']
  · rename_i b off n cp hsl
    rw [hsl] at h1
    obtain ⟨B, hB, h1⟩ := h1
    split at hv
    · rename_i c e' op hg
      simp only [R.when_eq, Bool.and_eq_true] at hv
      obtain ⟨⟨⟨b1, b2⟩, b3⟩, hv⟩ := hv
      cases hv
      have b1 := bleT b1
      have b2 := beqT b2
      have hzl : zu.cells.toList.length = ei.size := by
        rw [(CRR_iff.1 hz0).2.length, ← CR.len_eq (CRR_iff.1 hz0).1, b2]
      have hrow := zeros_CRR hz0 n
      have hlen : (List.replicate n zu.cells.toList).flatten.length = n * ei.size := by
        simp only [List.length_flatten, List.map_replicate, List.sum_replicate_nat, hzl]
      have hone : ∀ u ∈ (List.replicate n zu.cells.toList).flatten, u.oneCell' = true := by
        intro u hu
        simp only [List.mem_flatten, List.mem_replicate] at hu
        obtain ⟨l, ⟨_, rfl⟩, hu⟩ := hu
        exact allOne_CRR hz0 b3 u hu
      obtain ⟨w', hw', hst⟩ := store_step (P := P) s hB hg hrow hone (off := off) (by rw [hlen]; exact b1)
      rw [hlen] at hst
      refine ⟨.value (.tuple #[]), _, w', ρ, ?_, rfl, VR_undef ρ, hst⟩
      rw [hcs]
      cases n with
      | zero =>
        have : w' = w := by
          simp only [List.replicate_zero, List.flatten_nil, storeCells, Sem.run_pure, Result.ok.injEq, true_and] at hw'
          exact hw'.symm
        subst this
        simp [builtin, Builtin.clear_, tys1 hts, args1 hargs, h1, run_underlying h3']
      | succ n =>
        simp only [builtin, Builtin.clear_, tys1 hts, args1 hargs, h1, Sem.run_bind, run_underlying h3', Result.andThen_ok, hzu, zeroCells_list, hw', Sem.run_pure]
    · cases hv
  · cases hv
end
end Go.SE
namespace Go.SE
variable (sha : List UInt8 → Nat → UInt8)
/-- a step of a walk over a map: one of the outcomes -/
def NSound (P : Program) (nb : Nat) (o : Oper) (x : Opd) : Prop :=
  ∀ (E : Env) (ρ : Ren) (t : Tm) (h : H) (a : Act) (w : World) (outs : List (V × H)), FrR nb ρ t a.tmps → St sha E ρ h w → nextOp h (x.ev t) = .ok outs →
    ∃ vh ∈ outs, ∃ u w', (execOp a.eval o).run P w = .ok (.value u) w' ∧ VR ρ vh.1 u ∧ Step sha E ρ h w ρ vh.2 w'
def CSound (nb : Nat) (o : Oper) (f : Opd) (args : List Opd) : Prop :=
  ∃ fo ao ats, o.op = .call ⟨.value fo, ao, ats⟩ ∧ cOpd nb fo = some f ∧ ao.toList.mapM (cOpd nb) = some args
def OpSound (P : Program) (nb : Nat) (o : Oper) : SOp → Prop
  | .p f => PSound P nb o f
  | .r f => RSound sha P nb o f
  | .a f => ASound P nb o f
  | .e f => ESound sha P nb o f
  | .nx x => NSound sha P nb o x
  | .call f args => CSound nb o f args
variable {sha}
theorem picks_mem {pre post : List (V × V)} {x : V × V} : ∀ (l pre0 : List (V × V)), l = pre ++ x :: post → (x, pre0 ++ pre ++ post) ∈ picks pre0 l := by
  induction pre with
  | nil => intro l pre0 hl; subst hl; simp [picks]
  | cons y pre ih =>
    intro l pre0 hl
    subst hl
    simp only [List.cons_append, picks, List.mem_cons]
    right
    have := ih _ (pre0 ++ [y]) rfl
    simpa using this
theorem ns_next {P : Program} {nb : Nat} {o : Oper} {x : Operand} {sx : Opd} (hx : cOpd nb x = some sx) (ho : o.op = .next x false) : NSound sha P nb o sx := by
  intro E ρ tm h a w outs hF s hv
  have h1 := cOpd_VR hF hx
  unfold nextOp at hv
  split at hv
  · rename_i r off hr
    rw [hr] at h1
    obtain ⟨B, hB, h1⟩ := h1
    obtain ⟨hoff, hv1⟩ := R.when_eq.1 hv
    clear hv
    have hoff := beqT hoff
    subst hoff
    have hv := hv1
    clear hv1
    split at hv
    · rename_i ver lft cur hg
      cases hv
      obtain ⟨B', hB', hob⟩ := s.objs _ _ hg
      rw [hB] at hB'; cases hB'
      have hob : w.heap[B.k]? = some (.mapIter none 0 #[] 0) := hob
      refine ⟨_, List.mem_singleton.2 rfl, .tuple #[.bool false], w, ?_, ⟨[.bool false], ⟨_, _, rfl, rfl, rfl⟩, rfl⟩, Step.refl s⟩
      have gi : (getObj B.k).run P w = .ok (.mapIter none 0 #[] 0) w := gget hob (by simp)
      simp [execOp, ho, h1, Instr.next, gi]
    · rename_i m ver lft cur hg
      obtain ⟨B', hB', hob⟩ := s.objs _ _ hg
      rw [hB] at hB'; cases hB'
      obtain ⟨Bm, ce, clock, seen, last, g1, g2, g3, g4, ⟨ps, g5, g5'⟩, g6⟩ := hob
      subst g4
      split at hv
      · rename_i es ver' hgm
        obtain ⟨hver, hv1⟩ := R.when_eq.1 hv
        clear hv
        have hver := Pa.beq_iff.1 hver
        subst hver
        have hv := hv1
        clear hv1
        obtain ⟨ce', clock', f1, f2, f3⟩ := s.map g1 hgm
        rw [g2] at f2
        cases f2
        have gi : (getObj B.k).run P w = .ok (.mapIter (some Bm.k) last seen last) w := gget g3 (by simp)
        have gm : (getObj Bm.k).run P w = .ok (.map ce last) w := gget_map f1
        have hnone : (!seen.isEmpty && !ce.isEmpty && ce.all (·.born ≥ last)) = false := by
          cases hce : ce.isEmpty with
          | true => simp
          | false =>
            have : ce.all (·.born ≥ last) = false := by
              have hne : ce.size ≠ 0 := by simpa [Array.isEmpty] using hce
              rw [Array.all_eq_false]
              have h0 : 0 < ce.size := by omega
              exact ⟨0, h0, by have := f3.lt ce[0] (by simp); simp; omega⟩
            rw [this]; simp
        let lf : Array MapEntry := ce.filter fun e => !seen.contains e.born
        have hlf : lf.toList = left ce.toList seen := by simp [lf, left]
        have hold : lf.filter (fun e => decide (e.born < last)) = lf := by
          apply Array.filter_eq_self.2
          intro e he
          have : e ∈ ce.toList := by
            have : e ∈ lf.toList := by simpa using he
            rw [hlf] at this
            exact (List.mem_filter.1 this).1
          simpa using f3.lt e this
        have hnew : lf.filter (fun e => decide (e.born ≥ last)) = #[] := by
          apply Array.filter_eq_empty_iff.2
          intro e he
          have : e ∈ ce.toList := by
            have : e ∈ lf.toList := by simpa using he
            rw [hlf] at this
            exact (List.mem_filter.1 this).1
          have := f3.lt e this
          simp; omega
        have hcand : ∀ (hl : lf.isEmpty = false), (if lf.isEmpty then #[none] else #[]) ++ (lf ++ #[]).map some = lf.map some := by
          intro hl; rw [hl]; simp
        unfold nextAt at hv
        split at hv
        · cases hv
          rw [show ps = [] from g5] at g5'
          have hem : lf = #[] := by
            have h2 := g5'.symm
            have h3 := List.Perm.eq_nil h2
            simp only [pairs, List.map_eq_nil_iff] at h3
            rw [← hlf] at h3
            exact Array.ext' h3
          refine ⟨_, List.mem_singleton.2 rfl, .tuple #[.bool false], w, ?_, ⟨[.bool false], ⟨_, _, rfl, rfl, rfl⟩, rfl⟩, Step.refl s⟩
          have hem' : (ce.filter fun e => !seen.contains e.born) = #[] := hem
          simp only [execOp, ho, h1, Instr.next, Sem.run_bind, gi, Result.andThen_ok, gm, hnone, Bool.false_eq_true, if_false, hem']
          have hq : (Question.mapNext 1).forced = true := rfl
          simp [hq]
        · rename_i hne
          cases hv
          have hlne : lf.isEmpty = false := by
            cases hl : lf.isEmpty with
            | false => rfl
            | true =>
              have : lf = #[] := by simpa using hl
              rw [this] at hlf
              rw [← hlf] at g5'
              have hps : ps = [] := by simpa [pairs] using g5'
              subst hps
              cases lft with
              | nil => exact absurd rfl (hne)
              | cons p l => obtain ⟨_, _, _, _, _, _, hh⟩ := g5; cases hh
          have hpos : 0 < lf.size := by
            have : lf.size ≠ 0 := by simpa [Array.isEmpty] using hlne
            omega
          obtain ⟨kk, wd, hch, hk, hwd⟩ : ∃ kk wd, (choose (.mapNext (lf.map some).size)).run P w = .ok kk { w with drawn := wd } ∧ kk < lf.size ∧ True := by
            rw [run_choose]
            by_cases hf : (Question.mapNext (lf.map some).size).forced = true
            · exact ⟨0, w.drawn, by rw [if_pos hf], hpos, trivial⟩
            · refine ⟨_, _, by rw [if_neg hf], ?_, trivial⟩
              simp only [Question.cut, Array.size_map]
              exact Nat.mod_lt _ hpos
          have hmem : lf[kk] ∈ left ce.toList seen := by rw [← hlf]; simp
          generalize he : lf[kk] = e at hmem
          have hps : (e.key, e.val) ∈ ps := g5'.symm.subset (List.mem_map.2 ⟨e, hmem, rfl⟩)
          obtain ⟨pre, a', v', post, hlft, q1, q2, r1, r2, hps2, q3, q4⟩ := g5.mem hps
          have hpick := picks_mem (pre := pre) (post := post) (x := (a', v')) lft [] hlft
          simp only [List.nil_append] at hpick
          refine ⟨_, List.mem_map.2 ⟨_, hpick, rfl⟩, .tuple #[.bool true, e.key, e.val], { w with drawn := wd, heap := w.heap.setIfInBounds B.k (.mapIter (some Bm.k) last (seen.push e.born) last) }, ?_, ?_, ?_⟩
          · have gs : ∀ w1 : World, w1.heap[B.k]? = some (.mapIter (some Bm.k) last seen last) → ∀ o', (setObj B.k o').run P w1 = .ok () { w1 with heap := w1.heap.setIfInBounds B.k o' } := by
              intro w1 hw1 o'
              simp [setObj, Sem.run, hw1]
            have hcand' : (if (ce.filter fun (e : MapEntry) => !seen.contains e.born).isEmpty = true then #[none] else #[]) ++ ((ce.filter fun (e : MapEntry) => !seen.contains e.born) ++ #[]).map some = lf.map some := by
              exact hcand hlne
            have hget : (lf.map some)[kk]? = some (some e) := by simp [hk, he]
            have hold' : (ce.filter fun e => !seen.contains e.born).filter (fun e => decide (e.born < last)) = ce.filter fun e => !seen.contains e.born := hold
            have hnew' : (ce.filter fun e => !seen.contains e.born).filter (fun e => decide (e.born ≥ last)) = #[] := hnew
            simp only [execOp, ho, h1, Instr.next, Sem.run_bind, gi, Result.andThen_ok, gm, hnone, Bool.false_eq_true, if_false, hold', hnew', hcand', hch, hget, gs { w with drawn := wd } g3, Sem.run_pure]
          · exact ⟨[.bool true, e.key, e.val], ⟨_, _, rfl, ⟨_, _, q1, ⟨_, _, q2, rfl, rfl⟩, rfl⟩, rfl⟩, rfl⟩
          · have hlt : B.k < w.heap.size := (Array.getElem?_eq_some_iff.1 g3).1
            have hcem : e ∈ ce.toList := (List.mem_filter.1 hmem).1
            refine (Step.drawn s wd).trans (Step.set (s.drawn wd) hg hB ⟨Bm, ce, last, seen.push e.born, last, g1, g2, by simp [hlt], rfl, ⟨r1 ++ r2, q3.append q4, ?_⟩, ?_⟩ (fun b hb => by simp [Ne.symm hb]) (by simp) rfl rfl rfl)
            · obtain ⟨A, B2, hAB⟩ := List.append_of_mem hmem
              have hb : ((left ce.toList seen).map (·.born)).Nodup := (List.Sublist.map _ List.filter_sublist).nodup f3.borns
              have hl2 : left ce.toList (seen.push e.born) = A ++ B2 := by
                have : left ce.toList (seen.push e.born) = (left ce.toList seen).filter (fun y => decide (y.born ≠ e.born)) := by
                  simp only [left, List.filter_filter]
                  apply List.filter_congr
                  intro y _
                  simp only [Array.contains_push, Bool.not_or]
                  rw [Bool.and_comm]
                  congr 1
                  rw [Bool.eq_iff_iff]; simp
                rw [this, hAB]
                rw [hAB] at hb
                simp only [List.map_append, List.map_cons, List.nodup_append, List.nodup_cons] at hb
                rw [List.filter_append, List.filter_cons_of_neg (by simp)]
                congr 1
                · apply List.filter_eq_self.2
                  intro y hy
                  have := hb.2.2 y.born (List.mem_map.2 ⟨y, hy, rfl⟩) e.born (by simp)
                  simpa using this
                · apply List.filter_eq_self.2
                  intro y hy
                  have : y.born ≠ e.born := fun hh => hb.2.1.1 (by rw [← hh]; exact List.mem_map.2 ⟨y, hy, rfl⟩)
                  simpa using this
              rw [hl2]
              rw [hps2, hAB] at g5'
              have h8 : (r1 ++ (e.key, e.val) :: r2).Perm ((e.key, e.val) :: (r1 ++ r2)) := List.perm_middle
              have h9 : (pairs (A ++ e :: B2)).Perm ((e.key, e.val) :: pairs (A ++ B2)) := by
                simp only [pairs, List.map_append, List.map_cons]
                exact List.perm_middle
              exact (List.perm_cons _).1 ((h8.symm.trans g5').trans h9)
            · intro k2 v2 hkv
              cases hkv
              exact ⟨e, hcem, q1, q2, by simp⟩
      · cases hv
    · cases hv
  · cases hv
theorem bind_some {α β : Type} {x : Option α} {f : α → Option β} {b : β} : (x >>= f) = some b ↔ ∃ a, x = some a ∧ f a = some b := by
  cases x <;> simp
theorem kM {C : Cx} {P : Program} {nb : Nat} {o : Oper} {b : Builtin} {as : List Operand} {ts : List Nat} {args : Array Operand} {ats : Array TypeId} (hC : CxOK C P) (ha : args.toList = as) (hts : ats.toList = ts) (ho : o.op = .call ⟨.builtin b, args, ats⟩) {sop : SOp}
    (h : cBuiltin C nb b as ts = some sop) : OpSound sha P nb o sop := by
  unfold cBuiltin at h
  split at h
  · simp only [bind_some] at h
    obtain ⟨ti, hti, ui, hui, h⟩ := h
    split at h
    · rename_i e hd
      simp only [bind_some] at h
      obtain ⟨ei, hei, z, hz, s, hs, x, hx, h⟩ := h
      split at h
      · rename_i hc
        simp only [Bool.and_eq_true] at hc
        cases h
        exact es_app hC hts hti hui hd hc.2 hei hz (beqT hc.1) ha hs hx ho
      · cases h
    · cases h
  · simp only [bind_some] at h
    obtain ⟨ti, hti, x, hx, h⟩ := h
    split at h
    · rename_i hd; cases h; exact ps_lenS hC hts hti ha hx hd ho
    · rename_i hd; cases h; exact ps_len hC hts hti ha hx hd ho
    · rename_i hd; cases h; exact rs_lenM hC hts hti ha hx hd ho
    · rename_i hd; cases h; exact ps_lenc hC hts hti ha hd ho
    · cases h
  · simp only [bind_some] at h
    obtain ⟨xs, hxs, h⟩ := h
    cases h
    rw [← ha] at hxs
    exact ps_max hxs ho
  · simp only [bind_some] at h
    obtain ⟨xs, hxs, h⟩ := h
    cases h
    rw [← ha] at hxs
    exact ps_min hxs ho
  · simp only [bind_some] at h
    obtain ⟨ti, hti, h⟩ := h
    split at h
    · rename_i hd
      simp only [bind_some] at h
      obtain ⟨ki, hki, m, hm, k, hk, K, hK, h⟩ := h
      cases h
      exact es_del hC hts hti hd hki hK ha hm hk ho
    · cases h
  · simp only [bind_some] at h
    obtain ⟨ti, hti, h⟩ := h
    split at h
    · rename_i hd
      simp only [bind_some] at h
      obtain ⟨ei, hei, z, hz, x, hx, h⟩ := h
      cases h
      exact es_clr hC hts hti hd hei hz ha hx ho
    · cases h
  · cases h
theorem cOpt_isNone {nb : Nat} {x : Option Operand} {s : Option Opd} (h : cOpt nb x = some s) (hn : s.isNone = true) : x = none := by
  cases x with
  | none => rfl
  | some x =>
    simp only [cOpt, Option.map_eq_some_iff] at h
    obtain ⟨_, _, rfl⟩ := h
    cases hn
theorem cOp_sound {C : Cx} {P : Program} (hC : CxOK C P) {nb : Nat} {o : Oper} {sop : SOp} (h : cOp C nb o.op = some sop) : OpSound sha P nb o sop := by
  generalize ho : o.op = op at h
  unfold cOp at h
  split at h
  · simp only [bind_some] at h; obtain ⟨x, hx, h⟩ := h; cases h; exact ps_mv (.inl ho) hx
  · simp only [bind_some] at h; obtain ⟨x, hx, h⟩ := h; cases h; exact ps_mv (.inr ho) hx
  · simp only [bind_some] at h; obtain ⟨c, hc, x, hx, y, hy, h⟩ := h; cases h; exact ps_pick ho hc hx hy
  · simp only [bind_some] at h; obtain ⟨ti, hti, z, hz, h⟩ := h; cases h; exact as_alloc hC hti hz ho
  · simp only [bind_some] at h; obtain ⟨x, hx, h⟩ := h; cases h; exact as_box hx ho
  · simp only [bind_some] at h
    obtain ⟨ti, hti, z, hz, h⟩ := h
    split at h
    · rename_i fs hd
      split at h
      · rename_i hall
        simp only [bind_some] at h
        obtain ⟨sp, hsp, h⟩ := h
        cases h
        exact ps_bld hC hti hz ho (.inl ⟨fs, hd, hall, hsp⟩)
      · cases h
    · rename_i n e hd
      simp only [bind_some] at h
      obtain ⟨ei, hei, sp, hsp, h⟩ := h
      cases h
      exact ps_bld hC hti hz ho (.inr ⟨n, e, ei, hd, hei, hsp⟩)
    · cases h
  · simp only [bind_some] at h
    obtain ⟨ti, hti, h⟩ := h
    split at h
    · rename_i e hd
      simp only [bind_some] at h
      obtain ⟨ei, hei, z, hz, h⟩ := h
      split at h
      · rename_i hc
        simp only [Bool.and_eq_true] at hc
        simp only [bind_some] at h
        obtain ⟨sp, hsp, h⟩ := h
        cases h
        have hn := bltT hc.1.1
        exact as_bsl hC hti hd hei hz (bltT hc.1.2) (beqT hc.2) hsp (by unfold UNK; omega) ho
      · cases h
    · cases h
  · simp only [bind_some] at h
    obtain ⟨ti, hti, x, hx, h⟩ := h
    cases h
    have := rs_ld (sha := sha) hC hti hx ho
    by_cases hA : isAggD ti.d = true
    · rw [if_pos hA] at this ⊢; exact this
    · rw [if_neg hA] at this ⊢; exact this
  · simp only [bind_some] at h
    obtain ⟨ti, hti, x, hx, y, hy, h⟩ := h
    cases h
    exact es_st hC hti hx hy ho
  · simp only [bind_some] at h; obtain ⟨x, hx, h⟩ := h; cases h; exact ps_nilc ho hx
  · simp only [bind_some] at h
    obtain ⟨ti, hti, x, hx, y, hy, h⟩ := h
    have hd := (hC _ _ hti).d
    split at h
    · rename_i e hD
      rw [hD] at hd
      simp only [bind_some] at h
      obtain ⟨ei, hei, h⟩ := h
      split at h
      · cases h
      · rename_i hz; cases h; exact rs_peq (neg := false) hC hd hei hz hx hy (by simpa using ho)
    · rename_i e hD
      rw [hD] at hd
      simp only [bind_some] at h
      obtain ⟨ei, hei, h⟩ := h
      split at h
      · cases h
      · rename_i hz; cases h; exact rs_peq (neg := true) hC hd hei hz hx hy (by simpa using ho)
    · rename_i e hD; rw [hD] at hd; cases h; exact ps_nil (c := .s) (neg := false) ⟨e, hd⟩ hx hy (by simpa using ho)
    · rename_i e hD; rw [hD] at hd; cases h; exact ps_nil (c := .s) (neg := true) ⟨e, hd⟩ hx hy (by simpa using ho)
    · rename_i k e hD; rw [hD] at hd; cases h; exact ps_nil (c := .m) (neg := false) ⟨k, e, hd⟩ hx hy (by simpa using ho)
    · rename_i k e hD; rw [hD] at hd; cases h; exact ps_nil (c := .m) (neg := true) ⟨k, e, hd⟩ hx hy (by simpa using ho)
    · rename_i hD; rw [hD] at hd; cases h; exact ps_nil (c := .f) (neg := false) hd hx hy (by simpa using ho)
    · rename_i hD; rw [hD] at hd; cases h; exact ps_nil (c := .f) (neg := true) hd hx hy (by simpa using ho)
    · simp only [bind_some] at h; obtain ⟨K, hK, h⟩ := h; cases h; exact ps_eq ((hC _ _ hti).eq K hK).1 hx hy ho
    · simp only [bind_some] at h; obtain ⟨K, hK, h⟩ := h; cases h; exact ps_ne ((hC _ _ hti).eq K hK).1 hx hy ho
    · cases h; exact ps_lt hx hy ho
    · cases h; exact ps_gt hx hy ho
    · cases h; exact ps_ge hx hy ho
    · cases h; exact ps_le hx hy ho
    · cases h; exact ps_add hx hy ho
    · cases h; exact ps_sub hx hy ho
    · cases h; exact ps_mul hx hy ho
    · cases h; exact ps_quo hx hy ho
    · cases h; exact ps_rem hx hy ho
    · cases h; exact ps_shift (.inl rfl) hx hy ho
    · cases h; exact ps_shift (.inr rfl) hx hy ho
    · cases h; exact ps_bits hx hy (.inl rfl) ho
    · cases h; exact ps_bits hx hy (.inr (.inl rfl)) ho
    · cases h; exact ps_bits hx hy (.inr (.inr (.inl rfl))) ho
    · cases h; exact ps_bits hx hy (.inr (.inr (.inr rfl))) ho
  · simp only [bind_some] at h
    obtain ⟨x, hx, h⟩ := h
    split at h
    · cases h; exact ps_not ho hx
    · cases h; exact ps_neg ho hx
    · cases h; exact ps_com ho hx
    · cases h
  · simp only [bind_some] at h
    obtain ⟨si, hsi, di, hdi, x, hx, h⟩ := h
    split at h
    · rename_i hs hd; cases h; exact ps_cvi hC hsi hdi hs hd hx ho
    · rename_i hs hd; cases h; exact ps_cvs hC hsi hdi hs hd hx ho
    · rename_i e hs hd
      simp only [bind_some] at h
      obtain ⟨ei, hei, h⟩ := h
      split at h
      · rename_i he; cases h; exact rs_b2s hC hsi hdi hs hei he hd hx ho
      · cases h
    · rename_i e hs hd
      simp only [bind_some] at h
      obtain ⟨ei, hei, h⟩ := h
      split at h
      · rename_i he; cases h; exact as_s2b hC hsi hdi hei hs hd he hx ho
      · cases h
    · rename_i e e' hs hd
      simp only [bind_some] at h
      obtain ⟨ei, hei, h⟩ := h
      split at h
      · rename_i he
        split at h
        · rename_i hc; cases h; obtain ⟨rfl, rfl⟩ := hc; exact rs_cvm hC hsi hs hei he hx ho
        · cases h
      · cases h
    · cases h
  · simp only [bind_some] at h
    obtain ⟨ti, hti, h⟩ := h
    split at h
    · cases h
    · rename_i hne
      simp only [bind_some] at h
      obtain ⟨x, hx, h⟩ := h
      cases h
      exact ps_ifc hC hti hne hx ho
  · split at h
    · rename_i hf
      simp only [bind_some] at h
      obtain ⟨cs, hcs, h⟩ := h
      cases h
      exact ps_mkf hf hcs ho
    · cases h
  · cases h; exact as_mkm ho
  · simp only [bind_some] at h
    obtain ⟨ti, hti, h⟩ := h
    split at h
    · rename_i e hd
      simp only [bind_some] at h
      obtain ⟨ei, hei, z, hz, l, hl, c, hc, h⟩ := h
      split at h
      · rename_i hb; cases h; exact as_mks hC hti hd hei hz (beqT hb) hl hc ho
      · cases h
    · cases h
  · simp only [bind_some] at h
    obtain ⟨ti, hti, x, hx, lo, hlo, hi, hhi, mx, hmx, h⟩ := h
    split at h
    · rename_i hd
      split at h
      · rename_i hn
        cases h
        have := cOpt_isNone hmx hn
        subst this
        exact ps_slS hC hti hd hx hlo hhi ho
      · cases h
    · rename_i e hd
      simp only [bind_some] at h
      obtain ⟨ei, hei, h⟩ := h
      split at h
      · cases h
      · rename_i hn
        cases h
        simp only [Bool.or_eq_true, Bool.and_eq_true, not_or] at hn
        exact rs_slL hC hti hd hei hx hlo hhi hmx hn.1 ho
    · rename_i n e hd
      simp only [bind_some] at h
      obtain ⟨ei, hei, h⟩ := h
      split at h
      · cases h
      · rename_i hn
        cases h
        simp only [Bool.and_eq_true] at hn
        exact ps_slA hC hti hd hei hx hlo hhi hmx hn ho
    · cases h
  · simp only [bind_some] at h
    obtain ⟨ti, hti, h⟩ := h
    split at h
    · rename_i fs hd
      simp only [bind_some] at h
      obtain ⟨⟨ft, off⟩, hf, fi, hfi, h⟩ := h
      split at h
      · cases h
      · rename_i hz
        simp only [bind_some] at h
        obtain ⟨x, hx, h⟩ := h
        cases h
        exact ps_fa hC hti hd hf hfi hz hx ho
    · cases h
  · simp only [bind_some] at h
    obtain ⟨ti, hti, h⟩ := h
    split at h
    · rename_i fs hd
      simp only [bind_some] at h
      obtain ⟨⟨ft, off⟩, hf, fi, hfi, x, hx, h⟩ := h
      cases h
      have := ps_f hC hti hd hf hfi hx ho
      by_cases hA : isAggD fi.d = true
      · rw [if_pos hA] at this ⊢; exact this
      · rw [if_neg hA] at this ⊢; exact this
    · cases h
  · simp only [bind_some] at h
    obtain ⟨ti, hti, x, hx, i, hi, h⟩ := h
    split at h
    · rename_i n e hd
      simp only [bind_some] at h
      obtain ⟨ei, hei, h⟩ := h
      cases h
      exact ps_ixA hC hti hd hei hx hi ho
    · rename_i e hd
      simp only [bind_some] at h
      obtain ⟨ei, hei, h⟩ := h
      cases h
      exact ps_ixL hC hti hd hei hx hi ho
    · cases h
  · simp only [bind_some] at h
    obtain ⟨ti, hti, x, hx, i, hi, h⟩ := h
    split at h
    · rename_i n e hd
      simp only [bind_some] at h
      obtain ⟨ei, hei, h⟩ := h
      cases h
      have := ps_ix hC hti hd hei hx hi ho
      by_cases hA : isAggD ei.d = true
      · rw [if_pos hA] at this ⊢; exact this
      · rw [if_neg hA] at this ⊢; exact this
    · rename_i hd; cases h; exact ps_ixS hC hti hd hx hi ho
    · cases h
  · simp only [bind_some] at h
    obtain ⟨ti, hti, h⟩ := h
    split at h
    · rename_i kt e hd
      simp only [bind_some] at h
      obtain ⟨ki, hki, ei, hei, z, hz, K, hK, m, hm, k, hk, h⟩ := h
      cases h
      exact rs_lk hC hti hd hki hei hK hz hm hk ho
    · cases h
  · simp only [bind_some] at h
    obtain ⟨ti, hti, h⟩ := h
    split at h
    · rename_i kt e hd
      simp only [bind_some] at h
      obtain ⟨ki, hki, K, hK, m, hm, k, hk, x, hx, h⟩ := h
      cases h
      exact es_mu hC hti hd hki hK hm hk hx (.inl ho)
    · cases h
  · simp only [bind_some] at h
    obtain ⟨ti, hti, h⟩ := h
    split at h
    · rename_i kt e hd
      simp only [bind_some] at h
      obtain ⟨ki, hki, K, hK, m, hm, k, hk, x, hx, h⟩ := h
      cases h
      exact es_mu hC hti hd hki hK hm hk hx (.inr ho)
    · cases h
  · simp only [bind_some] at h
    obtain ⟨ti, hti, h⟩ := h
    split at h
    · rename_i kt e hd
      simp only [bind_some] at h
      obtain ⟨ki, hki, ei, hei, z, hz, K, hK, m, hm, k, hk, h⟩ := h
      cases h
      exact es_me hC hti hd hki hei hK hz hm hk ho
    · cases h
  · simp only [bind_some] at h
    obtain ⟨ti, hti, h⟩ := h
    split at h
    · rename_i kt e hd
      simp only [bind_some] at h
      obtain ⟨ki, hki, K, hK, m, hm, k, hk, x, hx, h⟩ := h
      cases h
      exact es_es hC hti hd hki hK hm hk hx ho
    · cases h
  · simp only [bind_some] at h
    obtain ⟨ti, hti, h⟩ := h
    split at h
    · rename_i kt e hd
      simp only [bind_some] at h
      obtain ⟨x, hx, h⟩ := h
      cases h
      exact es_rng hC hti hd hx ho
    · cases h
  · split at h
    · cases h
    · rename_i hs
      simp only [bind_some] at h
      obtain ⟨x, hx, h⟩ := h
      cases h
      rename_i str
      cases str
      · exact ns_next hx ho
      · exact absurd rfl hs
  · simp only [bind_some] at h; obtain ⟨x, hx, h⟩ := h; cases h; exact rs_ent hx ho
  · simp only [bind_some] at h; obtain ⟨x, hx, h⟩ := h; cases h; exact ps_ext hx ho
  · exact kM hC rfl rfl ho h
  · simp only [bind_some] at h
    obtain ⟨f, hf, as, has, h⟩ := h
    cases h
    exact ⟨_, _, _, ho, hf, has⟩
  · cases h
end Go.SE
namespace Go.SE
theorem bindGo_eq {α β : Type} {f : α → R (List β)} : ∀ {l : List α} {bs : List β}, bindGo f l = .ok bs → ∀ a ∈ l, ∃ bs', f a = .ok bs' ∧ ∀ b ∈ bs', b ∈ bs
  | [], _, _, a, ha => by cases ha
  | x :: l, bs, h, a, ha => by
    simp only [bindGo, R.bind_eq, R.map_eq] at h
    obtain ⟨b1, h1, b2, h2, rfl⟩ := h
    rcases List.mem_cons.1 ha with rfl | ha
    · exact ⟨b1, h1, fun b hb => List.mem_append.2 (.inl hb)⟩
    · obtain ⟨bs', h3, h4⟩ := bindGo_eq h2 a ha
      exact ⟨bs', h3, fun b hb => List.mem_append.2 (.inr (h4 b hb))⟩
theorem bindL_eq {α β : Type} {x : R (List α)} {f : α → R (List β)} {bs : List β} (h : bindL x f = .ok bs) : ∃ l, x = .ok l ∧ ∀ a ∈ l, ∃ bs', f a = .ok bs' ∧ ∀ b ∈ bs', b ∈ bs := by
  cases x with
  | err s => cases h
  | ok l =>
    refine ⟨l, rfl, ?_⟩
    cases l with
    | nil => intro a ha; cases ha
    | cons a r =>
      cases r with
      | nil =>
        intro b hb
        rw [List.mem_singleton.1 hb]
        exact ⟨bs, h, fun b hb => hb⟩
      | cons b r => exact bindGo_eq (f := f) h
variable (sha : List UInt8 → Nat → UInt8)
def Enters (P : Program) (f : Nat) : Prop := ∃ fn, P.funcs[f]? = some fn ∧ fn.body.isNone = false ∧ (fn.name == "runtime.NumGoroutine") = false
/-- what the calls promise -/
def CallsOK (E : Env) (P : Program) (F : Fns) : Prop :=
  ∀ (f : Nat) (args : List V) (h : H) (outs : List (V × H)), F.call f args h = .ok outs → ∀ (ρ : Ren) (us : List Value) (w : World), LR ρ args us → St sha E ρ h w →
    Enters P f ∧ Calls P f us.toArray w fun e w' => ∃ vh ∈ outs, ∃ ρ' u, e = .returned u ∧ VR ρ' vh.1 u ∧ Step sha E ρ h w ρ' vh.2 w'
def exOf : Ex → Exit | .normal => .normal | .exit id => .exit id | .ret => .ret
def Post (E : Env) (nb : Nat) (ρ : Ren) (h : H) (w : World) (a : Act) (outs : List (Ex × Tm × H)) (Q : Exit → Act → World → Prop) : Prop :=
  ∀ out ∈ outs, ∀ (ρ' : Ren) (a' : Act) (w' : World), FrR nb ρ' out.2.1 a'.tmps → a'.tmps.size = a.tmps.size → a'.defers = a.defers → Step sha E ρ h w ρ' out.2.2 w' → Q (exOf out.1) a' w'
variable {sha}
theorem Post.step {E : Env} {nb : Nat} {ρ ρ1 : Ren} {h h1 : H} {w w1 : World} {a a1 : Act} {outs outs1 : List (Ex × Tm × H)} {Q : Exit → Act → World → Prop} (p : Post sha E nb ρ h w a outs Q) (s : Step sha E ρ h w ρ1 h1 w1)
    (hsz : a1.tmps.size = a.tmps.size) (hd : a1.defers = a.defers) (hsub : ∀ x ∈ outs1, x ∈ outs) : Post sha E nb ρ1 h1 w1 a1 outs1 Q :=
  fun out ho ρ' a' w' hF hs hd' st => p out (hsub out ho) ρ' a' w' hF (hs.trans hsz) (hd'.trans hd) (s.trans st)
theorem put_size (a : Act) (dst : Option Nat) (u : Value) : (a.put dst u).tmps.size = a.tmps.size := by cases dst <;> simp [Act.put]
theorem put_defers (a : Act) (dst : Option Nat) (u : Value) : (a.put dst u).defers = a.defers := by cases dst <;> rfl
theorem put_FrR {nb n : Nat} {ρ : Ren} {t : Tm} {a : Act} (h : FrR nb ρ t a.tmps) (hn : a.tmps.size = n) {dst : Option Nat} {sd : Option Pa} (hd : cDst nb n dst = some sd) {v : V} {u : Value} (hv : VR ρ v u) : FrR nb ρ (oput sd t v) (a.put dst u).tmps := by
  cases dst with
  | none => simp only [cDst, Option.some.injEq] at hd; subst hd; exact h
  | some d =>
    simp only [cDst] at hd
    split at hd
    · rename_i hlt
      cases hd
      exact h.set (by rw [hn]; exact hlt) hv
    · cases hd
theorem wanted_eq {nb n : Nat} {ρ : Ren} {t : Tm} {a : Act} (h : FrR nb ρ t a.tmps) (hn : a.tmps.size = n) {ops : Array Oper} {o : Oper} {g : Option (Pa × Bool)} (hg : cGuard nb n ops o.guard = some g) : Region.wanted o (yielded ops a.tmps) = owanted g t := by
  unfold Region.wanted
  cases hgo : o.guard with
  | none => rw [hgo] at hg; simp only [cGuard, Option.some.injEq] at hg; subst hg; rfl
  | some jw =>
    obtain ⟨j, want⟩ := jw
    rw [hgo] at hg
    simp only [cGuard, bind_some] at hg
    obtain ⟨d, hd, hg⟩ := hg
    split at hg
    · rename_i hlt
      cases hg
      have hlt2 : d < 4 ^ nb := Nat.lt_of_lt_of_le (by rw [hn]; exact hlt) h.2.1
      have hv := h.2.2 d hlt2
      have hgd : a.tmps.getD d undef = a.tmps[d]'(by rw [hn]; exact hlt) := by simp [Array.getD_eq_getD_getElem?, hn, hlt]
      have hge : a.tmps[d]? = some (a.tmps[d]'(by rw [hn]; exact hlt)) := by simp [hn, hlt]
      rw [hgd] at hv
      have hy : yielded ops a.tmps j = (match a.tmps[d]'(by rw [hn]; exact hlt) with | .bool b => some b | _ => none) := by
        unfold yielded
        rw [hd]
        simp only [Option.bind_some, hge]
        generalize a.tmps[d]'(by rw [hn]; exact hlt) = z
        cases z <;> rfl
      simp only [hy, owanted]
      generalize a.tmps[d]'(by rw [hn]; exact hlt) = u at hv
      generalize tget t (Pa.ofNat nb d) = v at hv
      cases v <;> simp only [VR] at hv <;> first
        | (rw [hv]; rfl)
        | (obtain ⟨_, _, hv⟩ := hv; rw [hv]; rfl)
        | (obtain ⟨_, _, _, _, hv⟩ := hv; rw [hv]; rfl)
        | (obtain ⟨_, _, _, _, _, hv⟩ := hv; rw [hv]; rfl)
        | (subst hv; rename_i b; cases b <;> cases want <;> rfl)
    · cases hg
theorem cOper_spec {C : Cx} {nb n m : Nat} {ops : Array Oper} {o : Oper} {so : SOper} (h : cOper C nb ops n o m = some so) : cOp C nb o.op = some so.op ∧ cGuard nb n ops o.guard = some so.guard ∧ cDst nb n o.dst = some so.dst ∧ so.mask = m := by
  simp only [cOper, bind_some] at h
  obtain ⟨op, h1, g, h2, d, h3, h4⟩ := h
  cases h4
  exact ⟨h1, h2, h3, rfl⟩
/-- one operation that is wanted, and what comes behind it -/
theorem op_sound {P : Program} {C : Cx} (hC : CxOK C P) {E : Env} {F : Fns} (hF : CallsOK sha E P F) {nb : Nat} {o : Oper} {so : SOper} (hop : cOp C nb o.op = some so.op) {t : Tm} {h : H} {ρ : Ren} {a : Act} {w : World} {outs : List (Ex × Tm × H)} {rest : List SOper}
    (hFr : FrR nb ρ t a.tmps) (s : St sha E ρ h w) {K : Act → World → Prop} {Q : Exit → Act → World → Prop}
    (hrun : SOp.casesOn (motive := fun _ => R (List (Ex × Tm × H))) so.op
        (fun f => (f E t).bind fun v => stepOps E F rest (oput so.dst t v) h)
        (fun f => (f E t h).bind fun v => stepOps E F rest (oput so.dst t v) h)
        (fun f => (allocSt h (f E t)).bind fun vh => stepOps E F rest (oput so.dst t vh.1) vh.2)
        (fun f => (f E t h).bind fun vh => stepOps E F rest (oput so.dst t vh.1) vh.2)
        (fun x => bindL (nextOp h (x.ev t)) fun vh => stepOps E F rest (oput so.dst t vh.1) vh.2)
        (fun f args => bindL (callV F h (f.ev t) (args.map (Opd.ev t))) fun vh => stepOps E F rest (oput so.dst t vh.1) vh.2) = .ok outs)
    (hk : ∀ (v : V) (h1 : H) (outs1 : List (Ex × Tm × H)) (ρ1 : Ren) (u : Value) (w1 : World), stepOps E F rest (oput so.dst t v) h1 = .ok outs1 → (∀ x ∈ outs1, x ∈ outs) → VR ρ1 v u → Step sha E ρ h w ρ1 h1 w1 → K (a.put o.dst u) w1) :
    o.wp P a w K Q := by
  have hs := cOp_sound (sha := sha) hC hop
  cases hso : so.op with
  | p f =>
    rw [hso] at hrun hs
    simp only [R.bind_eq] at hrun
    obtain ⟨v, hv, hrun⟩ := hrun
    obtain ⟨u, h1, h2⟩ := hs E ρ t a v s.env hFr hv w
    unfold Oper.wp
    rw [h1]
    exact hk v h outs ρ u w hrun (fun x hx => hx) h2 (Step.refl s)
  | r f =>
    rw [hso] at hrun hs
    simp only [R.bind_eq] at hrun
    obtain ⟨v, hv, hrun⟩ := hrun
    obtain ⟨u, w', h1, h2, h3⟩ := hs E ρ t h a v w hFr s hv
    unfold Oper.wp
    rw [h1]
    exact hk v h outs ρ u w' hrun (fun x hx => hx) h2 h3
  | a f =>
    rw [hso] at hrun hs
    simp only [R.bind_eq, allocSt, R.map_eq, H.new] at hrun
    obtain ⟨vh, ⟨ov, hov, ⟨nm, h'⟩, hnew, hh⟩, hrun⟩ := hrun
    subst hh
    obtain ⟨u, w', B, c, h1, h2, h3, h4, h5, h6, h7, h8⟩ := hs E ρ t a w ov s.env hFr hov
    cases hq : h.next.succ with
    | none => rw [hq] at hnew; cases hnew
    | some q =>
      rw [hq] at hnew
      cases hnew
      obtain ⟨ρ', hst, hβ, hmv⟩ : ∃ ρ', Step sha E ρ h w ρ' { objs := Bt.set (.l (ov.1 h.next)) h.next h.objs, next := q, hs := h.hs } w' ∧ ρ'.β h.next = some B ∧ (∀ x, c = some x → ρ'.mv h.next = some x) := by
        obtain ⟨ρ', hst, hβ, hmv⟩ := Step.new' s hq (ov.1 h.next) B h2 c (fun ρ' hle hb hm => (h8 h.next ρ' hle hb hm).1) h3 (by omega) h5 h6 h7
        exact ⟨ρ', hst, hβ, hmv⟩
      unfold Oper.wp
      rw [h1]
      exact hk _ _ outs ρ' u w' hrun (fun x hx => hx) (h8 h.next ρ' hst.le hβ hmv).2 hst
  | e f =>
    rw [hso] at hrun hs
    simp only [R.bind_eq] at hrun
    obtain ⟨⟨v, h'⟩, hv, hrun⟩ := hrun
    obtain ⟨nx, u, w', ρ', h1, h2, h3, h4⟩ := hs E ρ t h a w v h' hFr s hv
    unfold Oper.wp
    rw [h1]
    have hkk := hk v h' outs ρ' u w' hrun (fun x hx => hx) h3 h4
    cases nx <;> simp only [Go.Next.val, reduceCtorEq, Option.some.injEq] at h2
    · subst h2; exact hkk
    · subst h2; exact hkk
  | nx x =>
    rw [hso] at hrun hs
    obtain ⟨l, hl, hall⟩ := bindL_eq hrun
    obtain ⟨vh, hmem, u, w', h1, h2, h3⟩ := hs E ρ t h a w l hFr s hl
    obtain ⟨outs1, h4, h5⟩ := hall vh hmem
    unfold Oper.wp
    rw [h1]
    exact hk vh.1 vh.2 outs1 ρ u w' h4 h5 h2 h3
  | call f args =>
    rw [hso] at hrun hs
    obtain ⟨l, hl, hall⟩ := bindL_eq hrun
    obtain ⟨fo, ao, ats, ho, hf, has⟩ := hs
    have hfv := cOpd_VR hFr hf
    have hav := cOpds_LR hFr has
    unfold callV at hl
    split at hl
    · rename_i g caps hg
      rw [hg] at hfv
      obtain ⟨us2, hu2, hfv⟩ := hfv
      obtain ⟨⟨fn, e1, e2, e3⟩, hcalls⟩ := hF g _ h l hl ρ (ao.toList.map a.eval ++ us2) w (hav.append hu2) s
      have hargs : (#[] ++ ao.map a.eval) ++ us2.toArray = (ao.toList.map a.eval ++ us2).toArray := by
        apply Array.ext'; simp
      have hex : (execOp a.eval o).run P w = .ok (.enter g (ao.toList.map a.eval ++ us2).toArray) w := by
        simp only [execOp, ho, resolve, hfv, Deferred.ofValue, Sem.run_bind, Sem.run_pure, Result.andThen_ok, invoke, callFunc, run_program, e1, e3, Bool.false_eq_true, if_false, e2, hargs]
      unfold Oper.wp
      rw [hex]
      refine Calls.mono hcalls fun e w' he => ?_
      obtain ⟨vh, hmem, ρ', u, rfl, h2, h3⟩ := he
      obtain ⟨outs1, h4, h5⟩ := hall vh hmem
      exact hk vh.1 vh.2 outs1 ρ' u w' h4 h5 h2 h3
    · cases hl
end Go.SE
namespace Go.SE
variable {sha : List UInt8 → Nat → UInt8}
theorem stepOps_sound {P : Program} {C : Cx} (hC : CxOK C P) {E : Env} {F : Fns} (hF : CallsOK sha E P F) {nb n : Nat} {ops : Array Oper} {Q : Exit → Act → World → Prop} : ∀ (l : List Oper) (i : Nat) (ms : List Nat) (sops : List SOper) (t : Tm) (h : H) (ρ : Ren) (a : Act) (w : World) (outs : List (Ex × Tm × H)),
    (∀ j, ops[i + j]? = l[j]?) → cOpers C nb ops n l ms = some sops → stepOps E F sops t h = .ok outs → FrR nb ρ t a.tmps → a.tmps.size = n → St sha E ρ h w → Post sha E nb ρ h w a outs Q → wpOps P ops Q (List.range' i l.length) a w
  | [], i, ms, sops, t, h, ρ, a, w, outs, hops, hc, hrun, hFr, hn, s, hp => by
    simp only [cOpers, Option.some.injEq] at hc
    subst hc
    simp only [stepOps_nil, R.ok.injEq] at hrun
    subst hrun
    exact hp _ (List.mem_singleton.2 rfl) ρ a w hFr rfl rfl (Step.refl s)
  | o :: l, i, ms, sops, t, h, ρ, a, w, outs, hops, hc, hrun, hFr, hn, s, hp => by
    have hoi : ops[i]? = some o := by have := hops 0; simpa using this
    obtain ⟨so, rest, ms', m, hso, hrest, rfl⟩ : ∃ so rest ms' m, cOper C nb ops n o m = some so ∧ cOpers C nb ops n l ms' = some rest ∧ sops = so :: rest := by
      cases ms with
      | nil =>
        simp only [cOpers, bind_some] at hc
        obtain ⟨so, h1, rest, h2, h3⟩ := hc
        cases h3
        exact ⟨so, rest, [], 0, h1, h2, rfl⟩
      | cons m ms =>
        simp only [cOpers, bind_some] at hc
        obtain ⟨so, h1, rest, h2, h3⟩ := hc
        cases h3
        exact ⟨so, rest, ms, m, h1, h2, rfl⟩
    obtain ⟨hop, hg, hd, _⟩ := cOper_spec hso
    have hops' : ∀ j, ops[i + 1 + j]? = l[j]? := fun j => by
      have := hops (j + 1)
      rw [show i + (j + 1) = i + 1 + j by omega] at this
      simpa using this
    have hw := wanted_eq hFr hn hg
    have cont : ∀ (v : V) (h1 : H) (outs1 : List (Ex × Tm × H)) (ρ1 : Ren) (u : Value) (w1 : World), stepOps E F rest (oput so.dst t v) h1 = .ok outs1 → (∀ x ∈ outs1, x ∈ outs) → VR ρ1 v u → Step sha E ρ h w ρ1 h1 w1 →
        wpOps P ops Q (List.range' (i + 1) l.length) (a.put o.dst u) w1 := by
      intro v h1 outs1 ρ1 u w1 hr hsub hv hst
      exact stepOps_sound hC hF l (i + 1) ms' rest _ h1 ρ1 _ w1 outs1 hops' hrest hr (put_FrR (hFr.mono hst.le) hn hd hv) (by rw [put_size, hn]) hst.st (hp.step hst (put_size a _ u) (put_defers a _ u) hsub)
    rw [List.length_cons, List.range'_succ, wpOps_cons]
    unfold wpOp
    simp only [hoi]
    simp only [stepOps_cons, bite_eq] at hrun
    rw [hw]
    by_cases hwt : owanted so.guard t = true
    · rw [if_pos hwt] at hrun ⊢
      exact .inl (op_sound hC hF hop hFr s hrun cont)
    · rw [if_neg hwt] at hrun ⊢
      exact cont (.tu []) h outs ρ undef w hrun (fun x hx => hx) (VR_undef ρ) (Step.refl s)
theorem wp_scope {P : Program} {c : Code} {Q : Exit → Act → World → Prop} {a : Act} {w : World} (h : c.wp P Q a w) (hg : ∀ l a w, ¬ Q (.goto l) a w) : (Code.scope c).wp P Q a w := by
  intro b k cs
  obtain ⟨e, a', w', hq, harr⟩ := h b (.inScope c :: k) cs
  have s1 : step P (lone (b.at a (.code (.scope c) :: k)) cs w) = .next (lone (b.at a (.code c :: .inScope c :: k)) cs w) := step_lone_go (by simp [stepG, stepG.exec, Frame.at])
  have s2 : ∀ a w, step P (lone (b.at a (.inScope c :: k)) cs w) = .next (lone (b.at a k) cs w) := fun a w => step_lone_go (by simp [stepG, stepG.exec, Frame.at])
  cases e with
  | normal => exact ⟨.normal, a', w', hq, .head s1 (Steps.trans harr (.one (s2 a' w')))⟩
  | exit id => exact ⟨.exit id, a', w', hq, fun k' hk => .head s1 (harr k' (by simp [exitTo, hk]))⟩
  | goto l => exact absurd hq (hg l a' w')
  | ret => exact ⟨.ret, a', w', hq, .of_steps (.one s1) harr⟩
  | panic ch => exact ⟨.panic ch, a', w', hq, .of_steps (.one s1) harr⟩
  | outgrown => exact ⟨.outgrown, a', w', hq, .of_steps (b := b) (k := k) (cs := cs) (e := .outgrown) (.one s1) harr⟩
/-- a loop that is about to go round again -/
def LoopWp (P : Program) (c : Code) (Q : Exit → Act → World → Prop) (a : Act) (w : World) : Prop :=
  ∀ (b : Frame) (k : List Item) (cs : List Frame), ∃ e a' w', Q e a' w' ∧ Arrives P (lone (b.at a (.inLoop c :: k)) cs w) b k cs e a' w'
theorem loop_unroll {P : Program} {c : Code} {Q : Exit → Act → World → Prop} {a : Act} {w : World} (h : c.wp P (Exit.then (LoopWp P c Q) Q) a w) : LoopWp P c Q a w ∧ (Code.loop c).wp P Q a w := by
  have key : ∀ (b : Frame) (k : List Item) (cs : List Frame), ∃ e a' w', Q e a' w' ∧ Arrives P (lone (b.at a (.code c :: .inLoop c :: k)) cs w) b k cs e a' w' := by
    intro b k cs
    obtain ⟨e, a₁, w₁, hq, harr⟩ := h b (.inLoop c :: k) cs
    cases e with
    | normal =>
      obtain ⟨e₂, a₂, w₂, hq₂, harr₂⟩ := hq b k cs
      exact ⟨e₂, a₂, w₂, hq₂, .of_steps harr harr₂⟩
    | exit id => exact ⟨_, a₁, w₁, hq, .pass (x := .inLoop c) rfl (fun _ _ => .inl (by simp)) harr⟩
    | goto l => exact ⟨_, a₁, w₁, hq, .pass (x := .inLoop c) rfl (fun _ _ => .inl (by simp)) harr⟩
    | ret => exact ⟨_, a₁, w₁, hq, .pass (x := .inLoop c) rfl (fun _ _ => .inl (by simp)) harr⟩
    | panic ch => exact ⟨_, a₁, w₁, hq, .pass (x := .inLoop c) rfl (fun _ _ => .inl (by simp)) harr⟩
    | outgrown => exact ⟨_, a₁, w₁, hq, .pass (x := .inLoop c) rfl (fun _ _ => .inl (by simp)) harr⟩
  constructor
  · intro b k cs
    obtain ⟨e, a', w', hq, harr⟩ := key b k cs
    exact ⟨e, a', w', hq, .of_steps (.one step_inLoop) harr⟩
  · intro b k cs
    obtain ⟨e, a', w', hq, harr⟩ := key b k cs
    exact ⟨e, a', w', hq, .of_steps (.one step_loop) harr⟩
/-- what a region that draws its order comes to -/
def DregOK (sha : List UInt8 → Nat → UInt8) (P : Program) (C : Cx) : Prop :=
  ∀ (E : Env) (F : Fns), CallsOK sha E P F → ∀ (nb n id : Nat) (ops : Array Oper) (sops : List SOper) (t : Tm) (h : H) (ρ : Ren) (a : Act) (w : World) (outs : List (Ex × Tm × H)) (Q : Exit → Act → World → Prop),
    cCode C nb n (.region id ops true) = some (.dreg sops) → dreg E F sops t h = .ok outs → FrR nb ρ t a.tmps → a.tmps.size = n → St sha E ρ h w → Post sha E nb ρ h w a outs Q → (Code.region id ops true).wp P Q a w
/-- what the code of the loops promises -/
def LoopsOK (sha : List UInt8 → Nat → UInt8) (E : Env) (P : Program) (C : Cx) (F : Fns) : Prop :=
  ∀ (nb n : Nat) (c : Code) (sc : SCode) (t : Tm) (h : H) (ρ : Ren) (a : Act) (w : World) (outs : List (Ex × Tm × H)) (Q : Exit → Act → World → Prop),
    cCode C nb n c = some sc → F.code (.loop sc) t h = .ok outs → FrR nb ρ t a.tmps → a.tmps.size = n → St sha E ρ h w → (∀ l a w, ¬ Q (.goto l) a w) → Post sha E nb ρ h w a outs Q → LoopWp P c Q a w ∧ (Code.loop c).wp P Q a w
theorem code_sound {P : Program} {C : Cx} (hC : CxOK C P) (hD : DregOK sha P C) {E : Env} {F : Fns} (hF : CallsOK sha E P F) (hL : LoopsOK sha E P C F) {nb n : Nat} : ∀ (c : Code) (sc : SCode) (t : Tm) (h : H) (ρ : Ren) (a : Act) (w : World) (outs : List (Ex × Tm × H)) (Q : Exit → Act → World → Prop),
    cCode C nb n c = some sc → codeS E F sc t h = .ok outs → FrR nb ρ t a.tmps → a.tmps.size = n → St sha E ρ h w → (∀ l a w, ¬ Q (.goto l) a w) → Post sha E nb ρ h w a outs Q → c.wp P Q a w ∧ (∀ b, c = .loop b → LoopWp P b Q a w) := by
  intro c
  induction c with
  | skip =>
    intro sc t h ρ a w outs Q hc hrun hFr hn s hg hp
    simp only [cCode, Option.some.injEq] at hc
    subst hc
    simp only [codeS_skip, codeS_reg, codeS_dreg, codeS_seq, codeS_cond, codeS_block, codeS_loop, codeS_exit, codeS_ret, R.ok.injEq] at hrun
    subst hrun
    exact ⟨wp_skip (hp _ (List.mem_singleton.2 rfl) ρ a w hFr rfl rfl (Step.refl s)), fun b hb => by cases hb⟩
  | region id ops draw =>
    intro sc t h ρ a w outs Q hc hrun hFr hn s hg hp
    refine ⟨?_, fun b hb => by cases hb⟩
    cases draw with
    | true =>
      have hc0 := hc
      simp only [cCode, bind_some, if_true] at hc
      obtain ⟨l, hl, hc⟩ := hc
      split at hc
      · cases hc
        exact hD E F hF nb n id ops l t h ρ a w outs Q hc0 hrun hFr hn s hp
      · cases hc
    | false =>
      simp only [cCode, bind_some, Bool.false_eq_true, if_false] at hc
      obtain ⟨l, hl, hc⟩ := hc
      cases hc
      apply wp_region
      have := stepOps_sound hC hF ops.toList 0 _ l t h ρ a w outs (Q := Q) (fun j => by simp) hl hrun hFr hn s hp
      rw [List.range_eq_range']
      simpa using this
  | seq x y ihx ihy =>
    intro sc t h ρ a w outs Q hc hrun hFr hn s hg hp
    refine ⟨?_, fun b hb => by cases hb⟩
    simp only [cCode, bind_some] at hc
    obtain ⟨sx, hx, sy, hy, hc⟩ := hc
    cases hc
    simp only [codeS_skip, codeS_reg, codeS_dreg, codeS_seq, codeS_cond, codeS_block, codeS_loop, codeS_exit, codeS_ret] at hrun
    obtain ⟨l, hl, hall⟩ := bindL_eq hrun
    apply wp_seq
    refine (ihx sx t h ρ a w l (Exit.then (y.wp P Q) Q) hx hl hFr hn s (fun l a w hh => hg l a w hh) ?_).1
    intro out ho ρ' a' w' hF' hs' hd' st
    obtain ⟨outs1, h1, h2⟩ := hall out ho
    obtain ⟨ex, t', h'⟩ := out
    cases ex with
    | normal =>
      show y.wp P Q a' w'
      exact (ihy sy t' h' ρ' a' w' outs1 Q hy h1 hF' (hs'.trans hn) st.st hg (hp.step st hs' hd' h2)).1
    | exit id =>
      cases h1
      exact hp _ (h2 _ (List.mem_singleton.2 rfl)) ρ' a' w' hF' hs' hd' st
    | ret =>
      cases h1
      exact hp _ (h2 _ (List.mem_singleton.2 rfl)) ρ' a' w' hF' hs' hd' st
  | cond c x y ihx ihy =>
    intro sc t h ρ a w outs Q hc hrun hFr hn s hg hp
    refine ⟨?_, fun b hb => by cases hb⟩
    simp only [cCode, bind_some] at hc
    obtain ⟨sc', hsc, sx, hx, sy, hy, hc⟩ := hc
    cases hc
    have hv := cOpd_VR hFr hsc
    simp only [codeS_skip, codeS_reg, codeS_dreg, codeS_seq, codeS_cond, codeS_block, codeS_loop, codeS_exit, codeS_ret, condK] at hrun
    split at hrun
    · rename_i b hb
      rw [hb] at hv
      have hv : a.eval c = .bool b := hv
      rw [bite_eq] at hrun
      cases b with
      | true => exact wp_cond hv (ihx sx t h ρ a w outs Q hx (by simpa using hrun) hFr hn s hg hp).1
      | false => exact wp_cond hv (ihy sy t h ρ a w outs Q hy (by simpa using hrun) hFr hn s hg hp).1
    · cases hrun
  | block id c ih =>
    intro sc t h ρ a w outs Q hc hrun hFr hn s hg hp
    refine ⟨?_, fun b hb => by cases hb⟩
    simp only [cCode, bind_some] at hc
    obtain ⟨sx, hx, hc⟩ := hc
    cases hc
    simp only [codeS_skip, codeS_reg, codeS_dreg, codeS_seq, codeS_cond, codeS_block, codeS_loop, codeS_exit, codeS_ret] at hrun
    obtain ⟨l, hl, hall⟩ := bindL_eq hrun
    apply wp_block
    refine (ih sx t h ρ a w l (Exit.inBlock id Q) hx hl hFr hn s (fun l a w hh => hg l a w hh) ?_).1
    intro out ho ρ' a' w' hF' hs' hd' st
    obtain ⟨outs1, h1, h2⟩ := hall out ho
    obtain ⟨ex, t', h'⟩ := out
    cases ex with
    | normal =>
      cases h1
      exact hp _ (h2 _ (List.mem_singleton.2 rfl)) ρ' a' w' hF' hs' hd' st
    | exit j =>
      simp only [blockK, R.ok.injEq] at h1
      subst h1
      have := hp _ (h2 _ (List.mem_singleton.2 rfl)) ρ' a' w' hF' hs' hd' st
      simp only [bite_eq] at this
      show (if j = id then Q .normal a' w' else Q (.exit j) a' w')
      by_cases hj : j = id
      · rw [if_pos hj]
        rw [if_pos (by rw [hj]; exact Nat.beq_refl _)] at this
        exact this
      · rw [if_neg hj]
        rw [if_neg (fun hh => hj (beqT hh))] at this
        exact this
    | ret =>
      cases h1
      exact hp _ (h2 _ (List.mem_singleton.2 rfl)) ρ' a' w' hF' hs' hd' st
  | loop c ih =>
    intro sc t h ρ a w outs Q hc hrun hFr hn s hg hp
    simp only [cCode, bind_some] at hc
    obtain ⟨sx, hx, hc⟩ := hc
    cases hc
    simp only [codeS_skip, codeS_reg, codeS_dreg, codeS_seq, codeS_cond, codeS_block, codeS_loop, codeS_exit, codeS_ret] at hrun
    obtain ⟨l, hl, hall⟩ := bindL_eq hrun
    have key : c.wp P (Exit.then (LoopWp P c Q) Q) a w := by
      refine (ih sx t h ρ a w l (Exit.then (LoopWp P c Q) Q) hx hl hFr hn s (fun l a w hh => hg l a w hh) ?_).1
      intro out ho ρ' a' w' hF' hs' hd' st
      obtain ⟨outs1, h1, h2⟩ := hall out ho
      obtain ⟨ex, t', h'⟩ := out
      cases ex with
      | normal =>
        show LoopWp P c Q a' w'
        exact (hL nb n c sx t' h' ρ' a' w' outs1 Q hx h1 hF' (hs'.trans hn) st.st hg (hp.step st hs' hd' h2)).1
      | exit id =>
        cases h1
        exact hp _ (h2 _ (List.mem_singleton.2 rfl)) ρ' a' w' hF' hs' hd' st
      | ret =>
        cases h1
        exact hp _ (h2 _ (List.mem_singleton.2 rfl)) ρ' a' w' hF' hs' hd' st
    have := loop_unroll key
    exact ⟨this.2, fun b hb => by cases hb; exact this.1⟩
  | scope c ih =>
    intro sc t h ρ a w outs Q hc hrun hFr hn s hg hp
    simp only [cCode] at hc
    exact ⟨wp_scope (ih sc t h ρ a w outs Q hc hrun hFr hn s hg hp).1 hg, fun b hb => by cases hb⟩
  | exit id =>
    intro sc t h ρ a w outs Q hc hrun hFr hn s hg hp
    simp only [cCode, Option.some.injEq] at hc
    subst hc
    simp only [codeS_skip, codeS_reg, codeS_dreg, codeS_seq, codeS_cond, codeS_block, codeS_loop, codeS_exit, codeS_ret, R.ok.injEq] at hrun
    subst hrun
    exact ⟨wp_exit (hp _ (List.mem_singleton.2 rfl) ρ a w hFr rfl rfl (Step.refl s)), fun b hb => by cases hb⟩
  | ret =>
    intro sc t h ρ a w outs Q hc hrun hFr hn s hg hp
    simp only [cCode, Option.some.injEq] at hc
    subst hc
    simp only [codeS_skip, codeS_reg, codeS_dreg, codeS_seq, codeS_cond, codeS_block, codeS_loop, codeS_exit, codeS_ret, R.ok.injEq] at hrun
    subst hrun
    exact ⟨wp_ret (hp _ (List.mem_singleton.2 rfl) ρ a w hFr rfl rfl (Step.refl s)), fun b hb => by cases hb⟩
  | label l => intro sc t h ρ a w outs Q hc; simp [cCode] at hc
  | goto l => intro sc t h ρ a w outs Q hc; simp [cCode] at hc
  | refuse l => intro sc t h ρ a w outs Q hc; simp [cCode] at hc
  | rangeFunc f ps x y => intro sc t h ρ a w outs Q hc; simp [cCode] at hc
end Go.SE
namespace Go.SE
variable {sha : List UInt8 → Nat → UInt8}
theorem FrR.empty {nb n : Nat} (hn : n ≤ 4 ^ nb) (ρ : Ren) : FrR nb ρ .e (Array.replicate n undef) := by
  refine ⟨by cases nb <;> trivial, by simpa using hn, fun i hi => ?_⟩
  unfold tget
  rw [Bt.get_e]
  have : (Array.replicate n undef).getD i undef = undef := by
    simp only [Array.getD_eq_getD_getElem?, Array.getElem?_replicate]
    split <;> rfl
  rw [this]
  exact VR_undef ρ
theorem putArgs_spec {nb : Nat} {ρ : Ren} : ∀ (args : List V) (us : List Value) (i : Nat) (t0 t : Tm) (tmps : Array Value), LR ρ args us → i + args.length ≤ tmps.size → FrR nb ρ t0 tmps → putArgs ((List.range' i args.length).map (Pa.ofNat nb)) args t0 = .ok t →
    FrR nb ρ t (tmps.toList.take i ++ us ++ tmps.toList.drop (i + us.length)).toArray
  | [], us, i, t0, t, tmps, h, hle, hF, hp => by
    rw [show us = [] from h]
    simp only [List.length_nil, List.range'_zero, List.map_nil, putArgs, R.ok.injEq] at hp
    subst hp
    simpa using hF
  | v :: args, us, i, t0, t, tmps, h, hle, hF, hp => by
    obtain ⟨u, us', h1, h2, rfl⟩ := h
    simp only [List.length_cons] at hle
    simp only [List.length_cons, List.range'_succ, List.map_cons, putArgs] at hp
    have hF1 := hF.set (d := i) (by omega) h1
    have := putArgs_spec args us' (i + 1) _ t (tmps.setIfInBounds i u) h2 (by simp; omega) hF1 hp
    have e : (tmps.setIfInBounds i u).toList.take (i + 1) ++ us' ++ (tmps.setIfInBounds i u).toList.drop (i + 1 + us'.length) = tmps.toList.take i ++ (u :: us') ++ tmps.toList.drop (i + (u :: us').length) := by
      have := list_seg_step tmps.toList i u us' (by simp; have := h2.length; omega)
      simpa [Array.toList_setIfInBounds, Nat.add_assoc, Nat.add_comm 1] using this
    rw [e] at this
    exact this
theorem putArgs_len {ps : List Pa} : ∀ {args : List V} {t0 t : Tm}, putArgs ps args t0 = .ok t → ps.length = args.length := by
  induction ps with
  | nil => intro args t0 t h; cases args with
    | nil => rfl
    | cons _ _ => simp [putArgs] at h
  | cons p ps ih => intro args t0 t h; cases args with
    | nil => simp [putArgs] at h
    | cons v args => simp only [putArgs] at h; simp [ih h]
theorem mapL_eq {α β : Type} {f : α → R β} : ∀ {l : List α} {bs : List β}, R.mapL f l = .ok bs → PR (fun a b => f a = .ok b) l bs
  | [], bs, h => by cases h; trivial
  | a :: l, bs, h => by
    simp only [R.mapL, R.bind_eq, R.map_eq] at h
    obtain ⟨b, h1, bs', h2, rfl⟩ := h
    exact ⟨h1, mapL_eq h2⟩
section
variable {P : Program} {C : Cx} (hC : CxOK C P)
include hC
theorem results_spec {E : Env} {nb : Nat} {ρ : Ren} {t : Tm} {tmps : Array Value} {h : H} {w : World} (hF : FrR nb ρ t tmps) (s : St sha E ρ h w) : ∀ (rs : List ResultVar) (srs : List (Pa × Option Nat)) (vs : List V), rs.mapM (cRes C nb) = some srs → PR (fun a b => resOf t h a = .ok b) srs vs →
    ∃ us, (rs.mapM fun | .tmp t => pure (tmps.getD t undef) | .cell a t => do loadVar t (← asAddr (tmps.getD a undef)) : Sem (List Value)).run P w = .ok us w ∧ LR ρ vs us
  | [], srs, vs, hc, hp => by
    simp at hc
    subst hc
    cases vs with
    | nil => exact ⟨[], rfl, rfl⟩
    | cons _ _ => exact hp.elim
  | r :: rs, srs, vs, hc, hp => by
    simp only [List.mapM_cons, bind_some] at hc
    obtain ⟨sr, hsr, srs', hsrs, hc⟩ := hc
    cases hc
    cases vs with
    | nil => exact hp.elim
    | cons v vs =>
      obtain ⟨h1, h2⟩ := hp
      obtain ⟨us, h3, h4⟩ := results_spec hF s rs srs' vs hsrs h2
      have key : ∃ u, ((fun | .tmp t => pure (tmps.getD t undef) | .cell a t => do loadVar t (← asAddr (tmps.getD a undef)) : ResultVar → Sem Value) r).run P w = .ok u w ∧ VR ρ v u := by
        cases r with
        | tmp x =>
          simp only [cRes] at hsr
          split at hsr
          · rename_i hx
            cases hsr
            simp only [resOf, R.ok.injEq] at h1
            subst h1
            exact ⟨_, rfl, hF.2.2 x hx⟩
          · cases hsr
        | cell x ty =>
          simp only [cRes, bind_some] at hsr
          obtain ⟨ti, hti, hsr⟩ := hsr
          split at hsr
          · rename_i hx
            have hv := hF.2.2 x hx
            by_cases hA : isAggD ti.d = true
            · rw [if_pos hA] at hsr
              split at hsr
              · cases hsr
              · rename_i hz
                cases hsr
                obtain ⟨m, hm⟩ : ∃ m, ti.size = m + 1 := ⟨ti.size - 1, by omega⟩
                simp only [hm, resOf, ldnV] at h1
                split at h1
                · rename_i b off hb
                  rw [hb] at hv
                  obtain ⟨B, hB, hv⟩ := hv
                  simp only [R.map_eq] at h1
                  obtain ⟨c, hc, rfl⟩ := h1
                  obtain ⟨us1, q2, _, q3⟩ := loadN_spec (P := P) s hB hc
                  refine ⟨.agg us1.toArray, ?_, us1, q2, rfl⟩
                  rw [← hm] at q3
                  simp only [hv, asAddr, loadVar, Sem.run_bind, Sem.run_pure, Result.andThen_ok, (hC _ _ hti).isAgg, hA, if_true, (hC _ _ hti).sizeOf, q3]
                · cases h1
            · rw [if_neg hA] at hsr
              cases hsr
              simp only [resOf, ld1V] at h1
              split at h1
              · rename_i b off hb
                rw [hb] at hv
                obtain ⟨B, hB, hv⟩ := hv
                split at h1
                · rename_i c hc
                  obtain ⟨u, q2, q3⟩ := cell_at s hB hc (R.of_eq.1 h1)
                  refine ⟨u, ?_, q3⟩
                  simp only [hv, asAddr, loadVar, Sem.run_bind, Sem.run_pure, Result.andThen_ok, (hC _ _ hti).isAgg]
                  rw [if_neg hA]
                  simp only [run_load, q2]
                · cases h1
              · cases h1
          · cases hsr
      obtain ⟨u, h5, h6⟩ := key
      refine ⟨u :: us, ?_, ⟨u, us, h6, h4, rfl⟩⟩
      rw [List.mapM_cons]
      simp only [Sem.run_bind, h5, h3, Result.andThen_ok, Sem.run_pure]
omit hC in
theorem one_VR {ρ : Ren} {vs : List V} {us : List Value} (h : LR ρ vs us) : VR ρ (one vs) (if h : us.toArray.size = 1 then us.toArray[0] else .tuple us.toArray) := by
  cases vs with
  | nil => rw [show us = [] from h]; exact ⟨[], rfl, rfl⟩
  | cons v vs =>
    obtain ⟨u, us', h1, h2, rfl⟩ := h
    cases vs with
    | nil => rw [show us' = [] from h2]; exact h1
    | cons v' vs =>
      obtain ⟨u', us'', h3, h4, rfl⟩ := h2
      have : ¬ (u :: u' :: us'').toArray.size = 1 := by simp
      rw [dif_neg this]
      exact ⟨_, ⟨u, _, h1, ⟨u', us'', h3, h4, rfl⟩, rfl⟩, rfl⟩
end
/-- the program that the evaluator has is the program -/
structure PrgOK (sha : List UInt8 → Nat → UInt8) (E : Env) (P : Program) (C : Cx) (G : Prg) : Prop where
  fn : ∀ f sf, G.sum f = none → G.fn f = .ok sf → ∃ fn, P.funcs[f]? = some fn ∧ cFunc C fn = some sf ∧ (fn.name == "runtime.NumGoroutine") = false
  sum : ∀ f s, G.sum f = some s → ∀ (args : List V) (h : H) (outs : List (V × H)), s args h = .ok outs → ∀ (ρ : Ren) (us : List Value) (w : World), LR ρ args us → St sha E ρ h w →
    Enters P f ∧ Calls P f us.toArray w fun e w' => ∃ vh ∈ outs, ∃ ρ' u, e = .returned u ∧ VR ρ' vh.1 u ∧ Step sha E ρ h w ρ' vh.2 w'
def CodesOK (sha : List UInt8 → Nat → UInt8) (E : Env) (P : Program) (C : Cx) (F : Fns) : Prop :=
  ∀ (nb n : Nat) (c : Code) (sc : SCode) (t : Tm) (h : H) (ρ : Ren) (a : Act) (w : World) (outs : List (Ex × Tm × H)) (Q : Exit → Act → World → Prop),
    cCode C nb n c = some sc → F.code sc t h = .ok outs → FrR nb ρ t a.tmps → a.tmps.size = n → St sha E ρ h w → (∀ l a w, ¬ Q (.goto l) a w) → Post sha E nb ρ h w a outs Q → c.wp P Q a w ∧ (∀ b, c = .loop b → LoopWp P b Q a w)
theorem CodesOK.loops {E : Env} {P : Program} {C : Cx} {F : Fns} (h : CodesOK sha E P C F) : LoopsOK sha E P C F :=
  fun nb n c sc t h' ρ a w outs Q hc hrun hFr hn s hg hp => by
    have := h nb n (.loop c) (.loop sc) t h' ρ a w outs Q (by simp [cCode, hc]) hrun hFr hn s hg hp
    exact ⟨this.2 c rfl, this.1⟩
theorem bitsFor_le {n : Nat} (h : n ≤ 512) : n ≤ 4 ^ bitsFor n := by
  unfold bitsFor
  repeat' split
  all_goals omega
theorem call_sound {P : Program} {C : Cx} (hC : CxOK C P) {E : Env} {G : Prg} (hG : PrgOK sha E P C G) {F : Fns} (hF : CodesOK sha E P C F) : CallsOK sha E P ⟨stepCall G F, F.code⟩ := by
  intro f args h outs hrun ρ us w hargs s
  simp only [stepCall] at hrun
  cases hs : G.sum f with
  | some sm =>
    rw [hs] at hrun
    exact hG.sum f sm hs args h outs hrun ρ us w hargs s
  | none =>
    rw [hs] at hrun
    simp only [R.bind_eq, callFn] at hrun
    obtain ⟨sf, hsf, t, hput, hrun⟩ := hrun
    obtain ⟨fn, hfn, hcf, hname⟩ := hG.fn f sf hs hsf
    simp only [cFunc, bind_some] at hcf
    obtain ⟨c, hbody, b, hb, rs, hrs, hcf⟩ := hcf
    split at hcf
    · rename_i hle
      simp only [Bool.and_eq_true, decide_eq_true_eq] at hle
      cases hcf
      obtain ⟨l, hl, hall⟩ := bindL_eq hrun
      rw [R.note_eq] at hl
      refine ⟨⟨fn, hfn, by rw [hbody]; rfl, hname⟩, calls_of_wp hfn hbody ?_⟩
      have hlen := putArgs_len hput
      simp only [List.length_map, List.length_range] at hlen
      have husl : us.length = args.length := hargs.length
      have hle1 : args.length ≤ fn.ntmps := by rw [← hlen]; exact hle.1
      have hb2 := bitsFor_le hle.2
      simp only at hput
      rw [List.range_eq_range', hlen] at hput
      have hFr := putArgs_spec (nb := bitsFor fn.ntmps) args us 0 .e t (Array.replicate fn.ntmps undef) hargs (by simpa using hle1) (FrR.empty hb2 ρ) hput
      have htm : (Array.replicate fn.ntmps undef).toList.take 0 ++ us ++ (Array.replicate fn.ntmps undef).toList.drop (0 + us.length) = us ++ List.replicate (fn.ntmps - us.length) undef := by simp
      have harr : us.toArray ++ Array.replicate (fn.ntmps - us.toArray.size) undef = (us ++ List.replicate (fn.ntmps - us.length) undef).toArray := by
        apply Array.ext'; simp
      rw [htm] at hFr
      rw [harr]
      refine (hF (bitsFor fn.ntmps) fn.ntmps c b t h ρ { tmps := _, defers := [] } w l _ hb hl hFr (by simp; omega) s (fun l a w hh => hh) ?_).1
      intro out ho ρ' a' w' hF' hs' hd' st
      obtain ⟨bs, h1, h2⟩ := hall out ho
      obtain ⟨ex, t', h'⟩ := out
      have fin : R.map (fun vs => [(one vs, h')]) (R.mapL (resOf t' h') rs) = .ok bs → a'.defers = [] ∧ ∃ v, (results fn a'.tmps).run P w' = .ok v w' ∧ ∃ vh ∈ outs, ∃ ρ'' u, Ending.returned v = .returned u ∧ VR ρ'' vh.1 u ∧ Step sha E ρ h w ρ'' vh.2 w' := by
        intro hm
        simp only [R.map_eq] at hm
        obtain ⟨vs, hvs, rfl⟩ := hm
        obtain ⟨us', h3, h4⟩ := results_spec hC hF' st.st fn.results.toList rs vs hrs (mapL_eq hvs)
        refine ⟨hd', _, ?_, (one vs, h'), h2 _ (List.mem_singleton.2 rfl), ρ', _, rfl, one_VR h4, st⟩
        simp only [results, Sem.run_bind]
        rw [Array.mapM_eq_mapM_toList]
        simp only [Sem.run_map]
        erw [h3]
        rfl
      cases ex with
      | exit id => cases h1
      | normal => exact fin h1
      | ret => exact fin h1
    · cases hcf
theorem run_sound {P : Program} {C : Cx} (hC : CxOK C P) (hD : DregOK sha P C) {E : Env} {G : Prg} (hG : PrgOK sha E P C G) : ∀ n, CallsOK sha E P (run E G n) ∧ CodesOK sha E P C (run E G n)
  | 0 => ⟨fun f args h outs hrun => (by cases hrun), fun nb n c sc t h ρ a w outs Q hc hrun => (by cases hrun)⟩
  | n + 1 => by
    obtain ⟨h1, h2⟩ := run_sound hC hD hG n
    exact ⟨call_sound hC hG h2, fun nb k c sc t h ρ a w outs Q hc hrun hFr hn s hg hp => code_sound hC hD h1 h2.loops c sc t h ρ a w outs Q hc hrun hFr hn s hg hp⟩
end Go.SE
namespace Go.SE
variable {sha : List UInt8 → Nat → UInt8}
/-- fewer names -/
theorem St.sub {E : Env} {ρ : Ren} {h h' : H} {w : World} (s : St sha E ρ h w) (hok : h'.objs.ok h'.next.len) (hn : h'.next = h.next) (hh : h'.hs = h.hs) (hsub : ∀ n o, h'.get n = some o → h.get n = some o) : St sha E ρ h' w :=
  ⟨hok, fun n o hg => s.objs n o (hsub n o hg), fun n m o o' B B' h1 h2 => s.inj n m o o' B B' (hsub n o h1) (hsub m o' h2), by rw [hn]; exact s.fresh, by rw [hh]; exact s.hash, by rw [hh]; exact s.hfresh, s.env⟩
/-- what a step does on some of the objects, it does beside the others -/
theorem Step.frame {E : Env} {ρ ρ' : Ren} {hf hk hk' hf' : H} {w w' : World} (s : St sha E ρ hf w) (hn : hk.next = hf.next) (hh : hk.hs = hf.hs) (hsub : ∀ n o, hk.get n = some o → hf.get n = some o)
    (t : Step sha E ρ hk w ρ' hk' w') (hok' : hf'.objs.ok hf'.next.len) (hn' : hf'.next = hk'.next) (hh' : hf'.hs = hk'.hs)
    (hget : ∀ n o, hf'.get n = some o ↔ (hk'.get n = some o ∨ (hf.get n = some o ∧ hk.get n = none))) : Step sha E ρ hf w ρ' hf' w' := by
  have rest : ∀ n o, hf.get n = some o → hk.get n = none → ∃ B, ρ.β n = some B ∧ ρ'.β n = some B ∧ ObjR ρ o B w ∧ ObjR ρ' o B w' := by
    intro n o hg hnone
    obtain ⟨B, hB, ho⟩ := s.objs n o hg
    refine ⟨B, hB, t.le.β n B hB, ho, (ho.congr (t.keep B.k ho.lt fun m o' B' hm hB' hk => ?_)).mono t.le⟩
    have := s.inj m n o' o B' B (hsub m o' hm) hg hB' hB hk
    subst this
    rw [hnone] at hm; cases hm
  have mixed : ∀ n m o o' B B', hk'.get n = some o → hf.get m = some o' → hk.get m = none → ρ'.β n = some B → ρ.β m = some B' → B.k = B'.k → False := by
    intro n m o o' B B' h1 h2 h3 hB hB' hkk
    rcases Nat.lt_or_ge n.toNat hk.next.toNat with hl | hl
    · obtain ⟨o1, h4⟩ := t.dom n o h1 hl
      have hlen := s.len (hsub n o1 h4)
      have hB1 : ρ.β n = some B := by rw [← (t.old n (by rw [hlen, hn]) hl).1]; exact hB
      have := s.inj n m o1 o' B B' (hsub n o1 h4) h2 hB1 hB' hkk
      subst this
      rw [h3] at h4; cases h4
    · obtain ⟨B2, hB2, ho2⟩ := s.objs m o' h2
      rw [hB'] at hB2
      cases hB2
      rcases t.newb n o B h1 hl hB with h5 | ⟨m', o1, B1, h5, h6, h7⟩
      · have := ho2.lt; omega
      · have := s.inj m' m o1 o' B1 B' (hsub m' o1 h5) h2 h6 hB' (h7.trans hkk)
        subst this
        rw [h3] at h5; cases h5
  refine ⟨⟨hok', fun n o hg => ?_, fun n m o o' B B' h1 h2 hB hB' hk => ?_, by rw [hn']; exact t.st.fresh, by rw [hh']; exact t.st.hash, by rw [hh']; exact t.st.hfresh, t.st.env⟩, t.le, by rw [← hn]; exact t.old, by rw [hn', ← hn]; exact t.len, by rw [hn', ← hn]; exact t.nx,
    fun n o hg hl => ?_, fun n o B hg hl hB => ?_, fun b hb hk => t.keep b hb fun n o B hg hB => hk n o B (hsub n o hg) hB, t.hsz, t.os, t.tape, t.out, by rw [hh', ← hh]; exact t.hs⟩
  · rcases (hget n o).1 hg with h1 | ⟨h1, h2⟩
    · exact t.st.objs n o h1
    · obtain ⟨B, _, hB, _, ho⟩ := rest n o h1 h2
      exact ⟨B, hB, ho⟩
  · rcases (hget n o).1 h1 with h1 | ⟨h1, h1'⟩ <;> rcases (hget m o').1 h2 with h2 | ⟨h2, h2'⟩
    · exact t.st.inj n m o o' B B' h1 h2 hB hB' hk
    · obtain ⟨B2, q1, q2, _⟩ := rest m o' h2 h2'
      rw [hB'] at q2
      cases q2
      exact (mixed n m o o' B B' h1 h2 h2' hB q1 hk).elim
    · obtain ⟨B2, q1, q2, _⟩ := rest n o h1 h1'
      rw [hB] at q2
      cases q2
      exact (mixed m n o' o B' B h2 h1 h1' hB' q1 hk.symm).elim
    · obtain ⟨B1, q1, q2, _⟩ := rest n o h1 h1'
      obtain ⟨B2, q3, q4, _⟩ := rest m o' h2 h2'
      rw [hB] at q2
      rw [hB'] at q4
      cases q2
      cases q4
      exact s.inj n m o o' B B' h1 h2 q1 q3 hk
  · rcases (hget n o).1 hg with h1 | ⟨h1, h2⟩
    · obtain ⟨o1, h3⟩ := t.dom n o h1 (by rw [hn]; exact hl)
      exact ⟨o1, hsub n o1 h3⟩
    · exact ⟨o, h1⟩
  · rcases (hget n o).1 hg with h1 | ⟨h1, h2⟩
    · rcases t.newb n o B h1 (by rw [hn]; exact hl) hB with h3 | ⟨m, o1, B1, h3, h4, h5⟩
      · exact .inl h3
      · exact .inr ⟨m, o1, B1, hsub m o1 h3, h4, h5⟩
    · exact absurd (s.lt h1) (by omega)
/-- a block more, under a name that was kept for it -/
theorem Step.alloc {E : Env} {ρ0 ρ : Ren} {h0 h h' : H} {w0 w w' : World} (S : Step sha E ρ0 h0 w0 ρ h w) {n : Pa} (hnl : n.len = h0.next.len) (hn0 : h0.next.toNat ≤ n.toNat) (hn1 : n.toNat < h.next.toNat) (hβ : ρ.β n = none) (hm : ρ.mv n = none)
    {o : AObj} {B : Blk} (hBk : B.k = w.heap.size) {c : Option (Array MapEntry × Nat)} (hobj : ∀ ρ' : Ren, ρ.le ρ' → ρ'.β n = some B → (∀ x, c = some x → ρ'.mv n = some x) → ObjR ρ' o B w')
    (hw : ∀ b, b < w.heap.size → w'.heap[b]? = w.heap[b]?) (hsz : w'.heap.size = w.heap.size + 1) (hos : w'.os = w.os) (htape : w'.tape = w.tape) (hout : w'.output = w.output)
    (hok' : h'.objs.ok h'.next.len) (hn' : h'.next = h.next) (hh' : h'.hs = h.hs) (hget : ∀ m x, h'.get m = some x ↔ ((m = n ∧ x = o) ∨ (m ≠ n ∧ h.get m = some x))) :
    ∃ ρ', Step sha E ρ0 h0 w0 ρ' h' w' ∧ ρ.le ρ' ∧ ρ'.β n = some B ∧ (∀ x, c = some x → ρ'.mv n = some x) ∧ (∀ m, m ≠ n → ρ'.β m = ρ.β m ∧ ρ'.mv m = ρ.mv m) := by
  let ρ1 : Ren := match c with | some x => ρ.setM n x | none => ρ
  have hle1 : ρ.le ρ1 := by
    cases c with
    | none => exact .refl ρ
    | some x => exact Ren.le_setM hm x
  have hβ1 : ρ1.β = ρ.β := by cases c <;> rfl
  have hmv1 : ∀ m, m ≠ n → ρ1.mv m = ρ.mv m := by
    intro m hmn
    cases c with
    | none => rfl
    | some x => exact Ren.setM_ne ρ x hmn
  have hmvn : ∀ x, c = some x → ρ1.mv n = some x := by
    intro x hx
    subst hx
    exact Ren.setM_same ρ n x
  let ρ' := ρ1.setB n B
  have hle' : ρ1.le ρ' := Ren.le_setB (by rw [hβ1]; exact hβ) B
  have hle : ρ.le ρ' := hle1.trans hle'
  have hβ' : ∀ m, m ≠ n → ρ'.β m = ρ.β m := fun m hmn => by rw [← hβ1]; exact Ren.setB_ne ρ1 B hmn
  have hβn : ρ'.β n = some B := Ren.setB_same ρ1 n B
  have hob := hobj ρ' hle hβn (fun x hx => hmvn x hx)
  have old : ∀ m x C, m ≠ n → h.get m = some x → ρ'.β m = some C → C.k < w.heap.size := fun m x C hmn hg hC => by
    obtain ⟨B', hB', ho⟩ := S.st.objs m x hg
    rw [hβ' m hmn, hB'] at hC
    cases hC
    exact ho.lt
  refine ⟨ρ', ⟨⟨hok', fun m x hg => ?_, fun a b x y Ba Bb ha hb hBa hBb hk => ?_, fun m hml hmn => ?_, fun j l hj => ?_, fun j hj => ?_, S.st.env.mono hle⟩, S.le.trans hle, fun m hml hmn => ?_, by rw [hn']; exact S.len, by rw [hn']; exact S.nx, fun m x hg hl => ?_, fun m x C hg hl hC => ?_, fun b hb hk => ?_, by have := S.hsz; omega, hos.trans S.os, htape.trans S.tape, hout.trans S.out, by rw [hh']; exact S.hs⟩, hle, hβn, fun x hx => hmvn x hx, fun m hmn => ⟨hβ' m hmn, hmv1 m hmn⟩⟩
  · rcases (hget m x).1 hg with ⟨rfl, rfl⟩ | ⟨hmn, hg⟩
    · exact ⟨B, hβn, hob⟩
    · obtain ⟨B', hB', ho⟩ := S.st.objs m x hg
      exact ⟨B', by rw [hβ' m hmn]; exact hB', (ho.congr (hw _ ho.lt)).mono hle⟩
  · rcases (hget a x).1 ha with ⟨rfl, rfl⟩ | ⟨han, ha⟩ <;> rcases (hget b y).1 hb with ⟨rfl, rfl⟩ | ⟨hbn, hb⟩
    · rfl
    · rw [hβn] at hBa
      cases hBa
      have := old b y Bb hbn hb hBb
      omega
    · rw [hβn] at hBb
      cases hBb
      have := old a x Ba han ha hBa
      omega
    · rw [hβ' a han] at hBa
      rw [hβ' b hbn] at hBb
      exact S.st.inj a b x y Ba Bb ha hb hBa hBb hk
  · rw [hn'] at hml hmn
    have hne : m ≠ n := by rintro rfl; omega
    have := S.st.fresh m hml hmn
    exact ⟨by rw [hβ' m hne]; exact this.1, by show ρ1.mv m = none; rw [hmv1 m hne]; exact this.2⟩
  · rw [hh'] at hj
    obtain ⟨bs, h1, h2⟩ := S.st.hash j l hj
    exact ⟨bs, hle.hv _ _ h1, h2.mono hle⟩
  · rw [hh'] at hj
    have : ρ'.hv j = ρ.hv j := by show ρ1.hv j = ρ.hv j; cases c <;> rfl
    rw [this]; exact S.st.hfresh j hj
  · have hne : m ≠ n := by rintro rfl; omega
    have := S.old m hml hmn
    exact ⟨by rw [hβ' m hne]; exact this.1, by show ρ1.mv m = _; rw [hmv1 m hne]; exact this.2⟩
  · rcases (hget m x).1 hg with ⟨rfl, rfl⟩ | ⟨hmn, hg⟩
    · omega
    · exact S.dom m x hg hl
  · rcases (hget m x).1 hg with ⟨rfl, rfl⟩ | ⟨hmn, hg⟩
    · rw [hβn] at hC
      cases hC
      have := S.hsz
      exact .inl (by omega)
    · rw [hβ' m hmn] at hC
      exact S.newb m x C hg hl hC
  · rw [hw b (by have := S.hsz; omega)]
    exact S.keep b hb hk
end Go.SE
