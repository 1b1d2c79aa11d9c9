/- An evaluator of the model's code over an abstract heap, and its soundness, part 3 of 3; no condition. -/
import Derived.Test.YtbpfpjcacmgfeaaGreatDoorEngB
import Derived.CallsIn
import Derived.Laws.IdiomRangeMap
import Derived.RangeFuncRecord
set_option linter.unusedVariables false
set_option linter.unusedSimpArgs false
namespace Go.SE
/-! # An operation reads its operands' slots only -/
def SOp.Same (t t' : Tm) : SOp → Prop
  | .p f => ∀ E, f E t = f E t'
  | .r f => ∀ E h, f E t h = f E t' h
  | .a f => ∀ E, f E t = f E t'
  | .e f => ∀ E h, f E t h = f E t' h
  | .nx x => x.ev t = x.ev t'
  | .call f args => f.ev t = f.ev t' ∧ args.map (Opd.ev t) = args.map (Opd.ev t')
theorem opd_same {nb : Nat} {t t' : Tm} {x : Operand} {sx : Opd} (h : ∀ d, x = .tmp d → tget t (Pa.ofNat nb d) = tget t' (Pa.ofNat nb d)) (hx : cOpd nb x = some sx) : sx.ev t = sx.ev t' := by
  cases x with
  | tmp d =>
    simp only [cOpd] at hx
    split at hx
    · cases hx; exact h d rfl
    · cases hx
  | const v =>
    simp only [cOpd, Option.map_eq_some_iff] at hx
    obtain ⟨s, _, rfl⟩ := hx
    rfl
  | func f => simp only [cOpd, Option.some.injEq] at hx; subst hx; rfl
  | global g => simp [cOpd] at hx
section
variable {nb : Nat} {t t' : Tm}
theorem opds_same : ∀ {xs : List Operand} {l : List Opd}, (∀ x ∈ xs, ∀ sx, cOpd nb x = some sx → sx.ev t = sx.ev t') → xs.mapM (cOpd nb) = some l → l.map (Opd.ev t) = l.map (Opd.ev t')
  | [], l, _, h => by simp at h; subst h; rfl
  | x :: xs, l, ha, h => by
    simp only [List.mapM_cons, bind_some] at h
    obtain ⟨s, hs, l', hl, hh⟩ := h
    cases hh
    simp only [List.map_cons]
    rw [ha x (by simp) s hs, opds_same (fun y hy => ha y (by simp [hy])) hl]
theorem elems_same {sz : Nat} : ∀ {ps : List (Nat × Operand)} {sp : List (Nat × Nat × Opd)}, (∀ x ∈ ps.map (·.2), ∀ sx, cOpd nb x = some sx → sx.ev t = sx.ev t') → cElems nb sz ps = some sp → evs t sp = evs t' sp
  | [], sp, _, h => by simp [cElems] at h; subst h; rfl
  | (i, x) :: ps, sp, ha, h => by
    simp only [cElems, List.mapM_cons, bind_some, Option.map_eq_some_iff] at h
    obtain ⟨s, ⟨sx, hs, rfl⟩, l, hl, hh⟩ := h
    cases hh
    have := elems_same (ps := ps) (fun y hy => ha y (by simp at hy ⊢; exact .inr hy)) hl
    simp only [evs, List.map_cons] at this ⊢
    rw [ha x (by simp) sx hs, this]
theorem parts_same {C : Cx} {fs : List (Nat × Nat)} : ∀ {ps : List (Nat × Operand)} {sp : List (Nat × Nat × Opd)}, (∀ x ∈ ps.map (·.2), ∀ sx, cOpd nb x = some sx → sx.ev t = sx.ev t') → cParts C nb fs ps = some sp → evs t sp = evs t' sp
  | [], sp, _, h => by simp [cParts] at h; subst h; rfl
  | (i, x) :: ps, sp, ha, h => by
    simp only [cParts, List.mapM_cons, bind_some] at h
    obtain ⟨s, ⟨ft, _, fi, _, sx, hs, hh⟩, l, hl, hh'⟩ := h
    cases hh
    cases hh'
    have := parts_same (ps := ps) (fun y hy => ha y (by simp at hy ⊢; exact .inr hy)) hl
    simp only [evs, List.map_cons] at this ⊢
    rw [ha x (by simp) sx hs, this]
theorem bound_same {x : Option Operand} {s : Option Opd} (ha : ∀ y, x = some y → ∀ sx, cOpd nb y = some sx → sx.ev t = sx.ev t') (h : cOpt nb x = some s) (hi d : Nat) : boundO t hi d s = boundO t' hi d s := by
  cases x with
  | none => simp only [cOpt, Option.some.injEq] at h; subst h; rfl
  | some x =>
    simp only [cOpt, Option.map_eq_some_iff] at h
    obtain ⟨sx, hs, rfl⟩ := h
    simp only [boundO, ha x rfl sx hs]
theorem boundN_same {x : Option Operand} {sx : Opd} (ha : ∀ y, x = some y → ∀ sx, cOpd nb y = some sx → sx.ev t = sx.ev t') (h : cOpt nb x = some (some sx)) : sx.ev t = sx.ev t' := by
  cases x with
  | none => simp only [cOpt, Option.some.injEq] at h; cases h
  | some x =>
    simp only [cOpt, Option.map_eq_some_iff] at h
    obtain ⟨s, hs, hh⟩ := h
    cases hh
    exact ha x rfl sx hs
theorem cBuiltin_same {C : Cx} {b : Builtin} {as : List Operand} {ts : List Nat} {sop : SOp} (A : ∀ x ∈ as, ∀ sx, cOpd nb x = some sx → sx.ev t = sx.ev t') (h : cBuiltin C nb b as ts = some sop) : sop.Same t t' := by
  unfold cBuiltin at h
  split at h
  · simp only [bind_some] at h
    obtain ⟨ti, hti, ui, hui, h⟩ := h
    split at h
    · simp only [bind_some] at h
      obtain ⟨ei, hei, z, hz, s, hs, x, hx, h⟩ := h
      split at h
      · cases h
        have e1 := A _ (by simp) _ hs
        have e2 := A _ (by simp) _ hx
        intro E h
        simp only [eApp, e1, e2]
      · cases h
    · cases h
  · simp only [bind_some] at h
    obtain ⟨ti, hti, x, hx, h⟩ := h
    have e1 := A _ (by simp) _ hx
    split at h
    · cases h; intro E; simp only [pLenS, e1]
    · cases h; intro E; simp only [pLen, e1]
    · cases h; intro E h; simp only [rLenM, e1]
    · cases h; intro E; rfl
    · cases h
  · simp only [bind_some] at h
    obtain ⟨xs, hxs, h⟩ := h
    cases h
    intro E
    simp only [pMax, opds_same A hxs]
  · simp only [bind_some] at h
    obtain ⟨xs, hxs, h⟩ := h
    cases h
    intro E
    simp only [pMin, opds_same A hxs]
  · simp only [bind_some] at h
    obtain ⟨ti, hti, h⟩ := h
    split at h
    · simp only [bind_some] at h
      obtain ⟨ki, hki, m, hm, k, hk, K, hK, h⟩ := h
      cases h
      have e1 := A _ (by simp) _ hm
      have e2 := A _ (by simp) _ hk
      intro E h
      simp only [eDel, e1, e2]
    · cases h
  · simp only [bind_some] at h
    obtain ⟨ti, hti, h⟩ := h
    split at h
    · simp only [bind_some] at h
      obtain ⟨ei, hei, z, hz, x, hx, h⟩ := h
      cases h
      have e1 := A _ (by simp) _ hx
      intro E h
      simp only [eClr, e1]
    · cases h
  · cases h
theorem cOp_same {C : Cx} {op : Op} {sop : SOp} (A : ∀ x ∈ op.operands.toList, ∀ sx, cOpd nb x = some sx → sx.ev t = sx.ev t') (h : cOp C nb op = some sop) : sop.Same t t' := by
  unfold cOp at h
  split at h
  · simp only [bind_some] at h; obtain ⟨x, hx, h⟩ := h; cases h; have e1 := A _ (by simp [Op.operands]) _ hx; intro E; simp only [pMv, e1]
  · simp only [bind_some] at h; obtain ⟨x, hx, h⟩ := h; cases h; have e1 := A _ (by simp [Op.operands]) _ hx; intro E; simp only [pMv, e1]
  · simp only [bind_some] at h; obtain ⟨c, hc, x, hx, y, hy, h⟩ := h; cases h
    have e1 := A _ (by simp [Op.operands]) _ hc; have e2 := A _ (by simp [Op.operands]) _ hx; have e3 := A _ (by simp [Op.operands]) _ hy
    intro E; simp only [pPick, e1, e2, e3]
  · simp only [bind_some] at h; obtain ⟨ti, hti, z, hz, h⟩ := h; cases h; intro E; rfl
  · simp only [bind_some] at h; obtain ⟨x, hx, h⟩ := h; cases h; have e1 := A _ (by simp [Op.operands]) _ hx; intro E; simp only [aBox, e1]
  · simp only [bind_some] at h
    obtain ⟨ti, hti, z, hz, h⟩ := h
    split at h
    · split at h
      · simp only [bind_some] at h
        obtain ⟨sp, hsp, h⟩ := h
        cases h
        have e1 := parts_same (by simpa [Op.operands] using A) hsp
        intro E; simp only [pBld, e1]
      · cases h
    · simp only [bind_some] at h
      obtain ⟨ei, hei, sp, hsp, h⟩ := h
      cases h
      have e1 := elems_same (by simpa [Op.operands] using A) hsp
      intro E; simp only [pBld, e1]
    · cases h
  · simp only [bind_some] at h
    obtain ⟨ti, hti, h⟩ := h
    split at h
    · simp only [bind_some] at h
      obtain ⟨ei, hei, z, hz, h⟩ := h
      split at h
      · simp only [bind_some] at h
        obtain ⟨sp, hsp, h⟩ := h
        cases h
        have e1 := elems_same (by simpa [Op.operands] using A) hsp
        intro E; simp only [aBsl, e1]
      · cases h
    · cases h
  · simp only [bind_some] at h
    obtain ⟨ti, hti, x, hx, h⟩ := h
    cases h
    have e1 := A _ (by simp [Op.operands]) _ hx
    intro E h
    split <;> simp only [rLdn, rLd1, e1]
  · simp only [bind_some] at h
    obtain ⟨ti, hti, x, hx, y, hy, h⟩ := h
    cases h
    have e1 := A _ (by simp [Op.operands]) _ hx
    have e2 := A _ (by simp [Op.operands]) _ hy
    intro E h
    simp only [eSt, e1, e2]
  · simp only [bind_some] at h; obtain ⟨x, hx, h⟩ := h; cases h; have e1 := A _ (by simp [Op.operands]) _ hx; intro E; simp only [pNilc, e1]
  · simp only [bind_some] at h
    obtain ⟨ti, hti, x, hx, y, hy, h⟩ := h
    have e1 := A _ (by simp [Op.operands]) _ hx
    have e2 := A _ (by simp [Op.operands]) _ hy
    split at h
    · simp only [bind_some] at h
      obtain ⟨ei, hei, h⟩ := h
      split at h
      · cases h
      · cases h; intro E h; simp only [rPeq, e1, e2]
    · simp only [bind_some] at h
      obtain ⟨ei, hei, h⟩ := h
      split at h
      · cases h
      · cases h; intro E h; simp only [rPeq, e1, e2]
    · cases h; intro E; simp only [pNil, e1, e2]
    · cases h; intro E; simp only [pNil, e1, e2]
    · cases h; intro E; simp only [pNil, e1, e2]
    · cases h; intro E; simp only [pNil, e1, e2]
    · cases h; intro E; simp only [pNil, e1, e2]
    · cases h; intro E; simp only [pNil, e1, e2]
    · simp only [bind_some] at h; obtain ⟨K, hK, h⟩ := h; cases h; intro E; simp only [pEq, e1, e2]
    · simp only [bind_some] at h; obtain ⟨K, hK, h⟩ := h; cases h; intro E; simp only [pNe, e1, e2]
    · cases h; intro E; simp only [pLt, e1, e2]
    · cases h; intro E; simp only [pGt, e1, e2]
    · cases h; intro E; simp only [pGe, e1, e2]
    · cases h; intro E; simp only [pLe, e1, e2]
    · cases h; intro E; simp only [pAdd, e1, e2]
    · cases h; intro E; simp only [pSub, e1, e2]
    · cases h; intro E; simp only [pMul, e1, e2]
    · cases h; intro E; simp only [pQuo, e1, e2]
    · cases h; intro E; simp only [pRem, e1, e2]
    · cases h; intro E; simp only [pShl, e1, e2]
    · cases h; intro E; simp only [pShr, e1, e2]
    · cases h; intro E; simp only [pBits, e1, e2]
    · cases h; intro E; simp only [pBits, e1, e2]
    · cases h; intro E; simp only [pBits, e1, e2]
    · cases h; intro E; simp only [pBits, e1, e2]
  · simp only [bind_some] at h
    obtain ⟨x, hx, h⟩ := h
    have e1 := A _ (by simp [Op.operands]) _ hx
    split at h
    · cases h; intro E; simp only [pNot, e1]
    · cases h; intro E; simp only [pNeg, e1]
    · cases h; intro E; simp only [pCom, e1]
    · cases h
  · simp only [bind_some] at h
    obtain ⟨si, hsi, di, hdi, x, hx, h⟩ := h
    have e1 := A _ (by simp [Op.operands]) _ hx
    split at h
    · cases h; intro E; simp only [pCvi, e1]
    · cases h; intro E; simp only [pCvs, e1]
    · simp only [bind_some] at h
      obtain ⟨ei, hei, h⟩ := h
      split at h
      · cases h; intro E h; simp only [rB2s, e1]
      · cases h
    · simp only [bind_some] at h
      obtain ⟨ei, hei, h⟩ := h
      split at h
      · cases h; intro E; simp only [aS2b, e1]
      · cases h
    · simp only [bind_some] at h
      obtain ⟨ei, hei, h⟩ := h
      split at h
      · split at h
        · cases h; intro E h; simp only [rCvm, e1]
        · cases h
      · cases h
    · cases h
  · simp only [bind_some] at h
    obtain ⟨ti, hti, h⟩ := h
    split at h
    · cases h
    · simp only [bind_some] at h
      obtain ⟨x, hx, h⟩ := h
      cases h
      have e1 := A _ (by simp [Op.operands]) _ hx
      intro E; simp only [pIfc, e1]
  · split at h
    · simp only [bind_some] at h
      obtain ⟨cs, hcs, h⟩ := h
      cases h
      have e1 := opds_same (fun x hx => A x (by simp [Op.operands] at hx ⊢; exact .inr hx)) hcs
      intro E; simp only [pMkf, e1]
    · cases h
  · cases h; intro E; rfl
  · simp only [bind_some] at h
    obtain ⟨ti, hti, h⟩ := h
    split at h
    · simp only [bind_some] at h
      obtain ⟨ei, hei, z, hz, l, hl, c, hc, h⟩ := h
      have e1 := A _ (by simp [Op.operands]) _ hl
      have e2 := A _ (by simp [Op.operands]) _ hc
      split at h
      · cases h; intro E; simp only [aMks, e1, e2]
      · cases h
    · cases h
  · simp only [bind_some] at h
    obtain ⟨ti, hti, x, hx, lo, hlo, hi, hhi, mx, hmx, h⟩ := h
    have e1 := A _ (by simp [Op.operands]) _ hx
    have e2 := fun a d => bound_same (t := t) (t' := t') (fun y hy => A y (by subst hy; simp [Op.operands])) hlo a d
    have e3 := fun a d => bound_same (t := t) (t' := t') (fun y hy => A y (by subst hy; simp [Op.operands])) hhi a d
    have e4 := fun a d => bound_same (t := t) (t' := t') (fun y hy => A y (by subst hy; simp [Op.operands])) hmx a d
    split at h
    · split at h
      · cases h; intro E; simp only [pSlS, slSV, e1, e2, e3]
      · cases h
    · simp only [bind_some] at h
      obtain ⟨ei, hei, h⟩ := h
      split at h
      · cases h
      · cases h
        intro E h
        cases mx with
        | none => simp only [rSlL, slLV, e1, e2, e3, e4]
        | some mo =>
          have e5 := boundN_same (t := t) (t' := t') (fun y hy => A y (by subst hy; simp [Op.operands])) hmx
          simp only [rSlL, slLV, e1, e2, e3, e4, e5]
    · simp only [bind_some] at h
      obtain ⟨ei, hei, h⟩ := h
      split at h
      · cases h
      · cases h; intro E; simp only [pSlA, slAV, e1, e2, e3, e4]
    · cases h
  · simp only [bind_some] at h
    obtain ⟨ti, hti, h⟩ := h
    split at h
    · simp only [bind_some] at h
      obtain ⟨⟨ft, off⟩, hf, fi, hfi, h⟩ := h
      split at h
      · cases h
      · simp only [bind_some] at h
        obtain ⟨x, hx, h⟩ := h
        cases h
        have e1 := A _ (by simp [Op.operands]) _ hx
        intro E; simp only [pFa, e1]
    · cases h
  · simp only [bind_some] at h
    obtain ⟨ti, hti, h⟩ := h
    split at h
    · simp only [bind_some] at h
      obtain ⟨⟨ft, off⟩, hf, fi, hfi, x, hx, h⟩ := h
      cases h
      have e1 := A _ (by simp [Op.operands]) _ hx
      intro E
      split <;> simp only [pFn, pF1, e1]
    · cases h
  · simp only [bind_some] at h
    obtain ⟨ti, hti, x, hx, i, hi, h⟩ := h
    have e1 := A _ (by simp [Op.operands]) _ hx
    have e2 := A _ (by simp [Op.operands]) _ hi
    split at h
    · simp only [bind_some] at h; obtain ⟨ei, hei, h⟩ := h; cases h; intro E; simp only [pIxA, e1, e2]
    · simp only [bind_some] at h; obtain ⟨ei, hei, h⟩ := h; cases h; intro E; simp only [pIxL, e1, e2]
    · cases h
  · simp only [bind_some] at h
    obtain ⟨ti, hti, x, hx, i, hi, h⟩ := h
    have e1 := A _ (by simp [Op.operands]) _ hx
    have e2 := A _ (by simp [Op.operands]) _ hi
    split at h
    · simp only [bind_some] at h
      obtain ⟨ei, hei, h⟩ := h
      cases h
      intro E
      split <;> simp only [pIan, pIa1, e1, e2]
    · cases h; intro E; simp only [pIxS, e1, e2]
    · cases h
  · simp only [bind_some] at h
    obtain ⟨ti, hti, h⟩ := h
    split at h
    · simp only [bind_some] at h
      obtain ⟨ki, hki, ei, hei, z, hz, K, hK, m, hm, k, hk, h⟩ := h
      cases h
      have e1 := A _ (by simp [Op.operands]) _ hm
      have e2 := A _ (by simp [Op.operands]) _ hk
      intro E h; simp only [rLk, e1, e2]
    · cases h
  · simp only [bind_some] at h
    obtain ⟨ti, hti, h⟩ := h
    split at h
    · simp only [bind_some] at h
      obtain ⟨ki, hki, K, hK, m, hm, k, hk, x, hx, h⟩ := h
      cases h
      have e1 := A _ (by simp [Op.operands]) _ hm
      have e2 := A _ (by simp [Op.operands]) _ hk
      have e3 := A _ (by simp [Op.operands]) _ hx
      intro E h; simp only [eMu, e1, e2, e3]
    · cases h
  · simp only [bind_some] at h
    obtain ⟨ti, hti, h⟩ := h
    split at h
    · simp only [bind_some] at h
      obtain ⟨ki, hki, K, hK, m, hm, k, hk, x, hx, h⟩ := h
      cases h
      have e1 := A _ (by simp [Op.operands]) _ hm
      have e2 := A _ (by simp [Op.operands]) _ hk
      have e3 := A _ (by simp [Op.operands]) _ hx
      intro E h; simp only [eMu, e1, e2, e3]
    · cases h
  · simp only [bind_some] at h
    obtain ⟨ti, hti, h⟩ := h
    split at h
    · simp only [bind_some] at h
      obtain ⟨ki, hki, ei, hei, z, hz, K, hK, m, hm, k, hk, h⟩ := h
      cases h
      have e1 := A _ (by simp [Op.operands]) _ hm
      have e2 := A _ (by simp [Op.operands]) _ hk
      intro E h; simp only [eMe, e1, e2]
    · cases h
  · simp only [bind_some] at h
    obtain ⟨ti, hti, h⟩ := h
    split at h
    · simp only [bind_some] at h
      obtain ⟨ki, hki, K, hK, m, hm, k, hk, x, hx, h⟩ := h
      cases h
      have e1 := A _ (by simp [Op.operands]) _ hm
      have e2 := A _ (by simp [Op.operands]) _ hk
      have e3 := A _ (by simp [Op.operands]) _ hx
      intro E h; simp only [eEs, e1, e2, e3]
    · cases h
  · simp only [bind_some] at h
    obtain ⟨ti, hti, h⟩ := h
    split at h
    · simp only [bind_some] at h
      obtain ⟨x, hx, h⟩ := h
      cases h
      have e1 := A _ (by simp [Op.operands]) _ hx
      intro E h; simp only [eRng, e1]
    · cases h
  · split at h
    · cases h
    · simp only [bind_some] at h
      obtain ⟨x, hx, h⟩ := h
      cases h
      exact A _ (by simp [Op.operands]) _ hx
  · simp only [bind_some] at h; obtain ⟨x, hx, h⟩ := h; cases h; have e1 := A _ (by simp [Op.operands]) _ hx; intro E h; simp only [rEnt, e1]
  · simp only [bind_some] at h; obtain ⟨x, hx, h⟩ := h; cases h; have e1 := A _ (by simp [Op.operands]) _ hx; intro E; simp only [pExt, e1]
  · exact cBuiltin_same (fun x hx => A x (by simp [Op.operands, Call.operands] at hx ⊢; exact hx)) h
  · simp only [bind_some] at h
    obtain ⟨f, hf, as, has, h⟩ := h
    cases h
    exact ⟨A _ (by simp [Op.operands, Call.operands]) _ hf, opds_same (fun x hx => A x (by simp [Op.operands, Call.operands] at hx ⊢; exact .inr hx)) has⟩
  · cases h
end
end Go.SE
namespace Go.SE
/-! # Masks, and what is the same -/
mutual
theorem V.same_eq : ∀ {x y : V}, x.same y = true → x = y
  | .b x, .b y, h => by simp only [V.same, beq_iff_eq] at h; rw [h]
  | .i k a, .i k' c, h => by
    simp only [V.same, Bool.and_eq_true] at h
    rw [keq_iff.1 h.1, IE.same_eq h.2]
  | .s x, .s y, h => by simp only [V.same] at h; rw [sameB_eq h]
  | .np, .np, _ => rfl
  | .p a o, .p c q, h => by simp only [V.same, Bool.and_eq_true] at h; rw [Pa.beq_iff.1 h.1, beqT h.2]
  | .ns, .ns, _ => rfl
  | .sl a o n c, .sl a' o' n' c', h => by simp only [V.same, Bool.and_eq_true] at h; rw [Pa.beq_iff.1 h.1.1.1, beqT h.1.1.2, beqT h.1.2, beqT h.2]
  | .nm, .nm, _ => rfl
  | .m a, .m c, h => by simp only [V.same] at h; rw [Pa.beq_iff.1 h]
  | .f a l, .f c l', h => by simp only [V.same, Bool.and_eq_true] at h; rw [beqT h.1, sameL_eq h.2]
  | .nf, .nf, _ => rfl
  | .ag l, .ag l', h => by simp only [V.same] at h; rw [sameC_eq h]
  | .tu l, .tu l', h => by simp only [V.same] at h; rw [sameL_eq h]
  | .ni, .ni, _ => rfl
  | .se a, .se c, h => by simp only [V.same] at h; rw [Pa.beq_iff.1 h]
  | .ifc t a, .ifc t' c, h => by simp only [V.same, Bool.and_eq_true] at h; rw [beqT h.1, V.same_eq h.2]
  | .st n a, .st n' c, h => by simp only [V.same, Bool.and_eq_true] at h; rw [Pa.beq_iff.1 h.1, V.same_eq h.2]
theorem sameL_eq : ∀ {x y : List V}, sameL x y = true → x = y
  | [], [], _ => rfl
  | a :: l, c :: l', h => by simp only [sameL, Bool.and_eq_true] at h; rw [V.same_eq h.1, sameL_eq h.2]
  | [], _ :: _, h => by simp [sameL] at h
  | _ :: _, [], h => by simp [sameL] at h
theorem sameC_eq : ∀ {x y : CR V}, sameC x y = true → x = y
  | .nil, .nil, _ => rfl
  | .one a, .one c, h => by simp only [sameC] at h; rw [V.same_eq h]
  | .nd t n l r, .nd t' n' l' r', h => by simp only [sameC, Bool.and_eq_true] at h; rw [beqT h.1.1.1, beqT h.1.1.2, sameC_eq h.1.2, sameC_eq h.2]
theorem sameB_eq : ∀ {x y : List IE}, sameB x y = true → x = y
  | [], [], _ => rfl
  | a :: l, c :: l', h => by simp only [sameB, Bool.and_eq_true] at h; rw [IE.same_eq h.1, sameB_eq h.2]
  | [], _ :: _, h => by simp [sameB] at h
  | _ :: _, [], h => by simp [sameB] at h
end
theorem cMask_bit (ms : List Nat) (i : Nat) : ∀ (l : List Edge) (s : Nat), (l.foldl (fun s e => if Region.binds .any e then s ||| 2 ^ e.on ||| (ms[e.on]?).getD 0 else s) s).testBit i = true ↔
    (s.testBit i = true ∨ ∃ e ∈ l, Region.binds .any e = true ∧ (i = e.on ∨ ((ms[e.on]?).getD 0).testBit i = true))
  | [], s => by simp
  | e :: l, s => by
    rw [List.foldl_cons, cMask_bit ms i l]
    by_cases hb : Region.binds .any e = true
    · rw [if_pos hb]
      simp only [Nat.testBit_or, Nat.testBit_two_pow, Bool.or_eq_true, decide_eq_true_eq, List.mem_cons, exists_eq_or_imp, hb, true_and]
      constructor
      · rintro (((h | h) | h) | h)
        · exact .inl h
        · exact .inr (.inl (.inl h.symm))
        · exact .inr (.inl (.inr h))
        · exact .inr (.inr h)
      · rintro (h | ((h | h) | h))
        · exact .inl (.inl (.inl h))
        · exact .inl (.inl (.inr h.symm))
        · exact .inl (.inr h)
        · exact .inr h
    · rw [if_neg hb]
      simp only [List.mem_cons, exists_eq_or_imp, hb, Bool.false_eq_true, false_and, false_or]
theorem cMasks_spec : ∀ (l : List Oper) (ms : List Nat) , (cMasks l ms).length = ms.length + l.length ∧ (cMasks l ms).take ms.length = ms ∧ ∀ k o, l[k]? = some o → (cMasks l ms)[ms.length + k]? = some (cMask o.after.toList ((cMasks l ms).take (ms.length + k)))
  | [], ms => ⟨by simp [cMasks], by simp [cMasks], by simp⟩
  | o :: l, ms => by
    obtain ⟨h1, h2, h3⟩ := cMasks_spec l (ms ++ [cMask o.after.toList ms])
    simp only [List.length_append, List.length_singleton] at h1 h2 h3
    simp only [cMasks]
    have h2' : (cMasks l (ms ++ [cMask o.after.toList ms])).take ms.length = ms := by
      have := congrArg (List.take ms.length) h2
      rw [List.take_take, Nat.min_eq_left (Nat.le_succ _)] at this
      rw [this]; simp
    refine ⟨by rw [h1]; simp; omega, h2', fun k o' hk => ?_⟩
    cases k with
    | zero =>
      simp only [List.getElem?_cons_zero, Option.some.injEq] at hk
      subst hk
      rw [Nat.add_zero, h2']
      have h4 : (cMasks l (ms ++ [cMask o.after.toList ms]))[ms.length]? = ((cMasks l (ms ++ [cMask o.after.toList ms])).take (ms.length + 1))[ms.length]? := by
        rw [List.getElem?_take, if_pos (Nat.lt_succ_self _)]
      rw [h4, h2]; simp
    | succ k =>
      have := h3 k o' (by simpa using hk)
      rw [show ms.length + 1 + k = ms.length + (k + 1) by omega] at this
      exact this
end Go.SE
namespace Go.SE
/-! # The A-blocks beside a heap -/
noncomputable def addP (p : Nat → Bool) (h : H) : List (Nat × Pa × AObj) → H
  | [] => h
  | (i, n, o) :: r => bite (p i) ((addP p h r).set n o) (addP p h r)
theorem addA_eq (seen mask : Nat) (h : H) : ∀ as, addA seen mask h as = addP (fun i => mask.testBit i && !seen.testBit i) h as
  | [] => rfl
  | (i, n, o) :: r => by simp only [addA, addP, addA_eq seen mask h r]
theorem addP_next (p : Nat → Bool) (h : H) : ∀ as, (addP p h as).next = h.next ∧ (addP p h as).hs = h.hs
  | [] => ⟨rfl, rfl⟩
  | (i, n, o) :: r => by
    simp only [addP, bite_eq]
    split
    · exact addP_next p h r
    · exact addP_next p h r
theorem addP_ok {p : Nat → Bool} {h : H} {L : Nat} (hok : h.objs.ok L) : ∀ as : List (Nat × Pa × AObj), (∀ x ∈ as, x.2.1.len = L) → (addP p h as).objs.ok L
  | [], _ => hok
  | (i, n, o) :: r, hl => by
    have ih := addP_ok (p := p) hok r (fun x hx => hl x (by simp [hx]))
    simp only [addP, bite_eq]
    split
    · exact Bt.set_ok (v := .l o) trivial (hl (i, n, o) (by simp)) ih
    · exact ih
/-- the A-blocks that are in, and what was there -/
theorem addP_get {p : Nat → Bool} {h : H} {L : Nat} (hok : h.objs.ok L) : ∀ as : List (Nat × Pa × AObj), (∀ x ∈ as, x.2.1.len = L) → (as.map (·.2.1)).Nodup → ∀ m x,
    (addP p h as).get m = some x ↔ ((∃ i, (i, m, x) ∈ as ∧ p i = true) ∨ (h.get m = some x ∧ ∀ i o, (i, m, o) ∈ as → p i = false))
  | [], _, _, m, x => by simp [addP]
  | (i, n, o) :: r, hl, hnd, m, x => by
    have hl' : ∀ x ∈ r, x.2.1.len = L := fun x hx => hl x (by simp [hx])
    simp only [List.map_cons, List.nodup_cons] at hnd
    have ih := addP_get (p := p) hok r hl' hnd.2 m x
    have hok' := addP_ok (p := p) hok r hl'
    have hnr : ∀ j o', (j, n, o') ∉ r := fun j o' hh => hnd.1 (List.mem_map.2 ⟨_, hh, rfl⟩)
    simp only [addP, bite_eq]
    by_cases hp : p i = true
    · rw [if_pos hp, H.get_set hok' (hl (i, n, o) (by simp))]
      by_cases hm : m = n
      · subst hm
        rw [if_pos rfl]
        constructor
        · intro hh; cases hh; exact .inl ⟨i, by simp, hp⟩
        · rintro (⟨j, hj, hpj⟩ | ⟨h1, h2⟩)
          · rcases List.mem_cons.1 hj with hj | hj
            · cases hj; rfl
            · exact absurd hj (hnr j x)
          · have := h2 i o (by simp)
            rw [hp] at this; cases this
      · rw [if_neg hm, ih]
        constructor
        · rintro (⟨j, hj, hpj⟩ | ⟨h1, h2⟩)
          · exact .inl ⟨j, by simp [hj], hpj⟩
          · refine .inr ⟨h1, fun j o' hj => ?_⟩
            rcases List.mem_cons.1 hj with hj | hj
            · cases hj; exact absurd rfl hm
            · exact h2 j o' hj
        · rintro (⟨j, hj, hpj⟩ | ⟨h1, h2⟩)
          · rcases List.mem_cons.1 hj with hj | hj
            · cases hj; exact absurd rfl hm
            · exact .inl ⟨j, hj, hpj⟩
          · exact .inr ⟨h1, fun j o' hj => h2 j o' (by simp [hj])⟩
    · rw [if_neg hp, ih]
      have hpf : p i = false := by simpa using hp
      constructor
      · rintro (⟨j, hj, hpj⟩ | ⟨h1, h2⟩)
        · exact .inl ⟨j, by simp [hj], hpj⟩
        · refine .inr ⟨h1, fun j o' hj => ?_⟩
          rcases List.mem_cons.1 hj with hj | hj
          · cases hj; exact hpf
          · exact h2 j o' hj
      · rintro (⟨j, hj, hpj⟩ | ⟨h1, h2⟩)
        · rcases List.mem_cons.1 hj with hj | hj
          · cases hj; rw [hpj] at hpf; cases hpf
          · exact .inl ⟨j, hj, hpj⟩
        · exact .inr ⟨h1, fun j o' hj => h2 j o' (by simp [hj])⟩
/-- entries that are out do not count -/
theorem addP_extra {p : Nat → Bool} {h : H} : ∀ (ex as : List (Nat × Pa × AObj)), (∀ x ∈ ex, p x.1 = false) → addP p h (ex ++ as) = addP p h as
  | [], _, _ => rfl
  | (i, n, o) :: ex, as, hx => by
    simp only [List.cons_append, addP, bite_eq]
    rw [if_neg (by rw [hx (i, n, o) (by simp)]; simp), addP_extra ex as (fun x hm => hx x (by simp [hm]))]
theorem addP_congr {p q : Nat → Bool} {h : H} : ∀ (as : List (Nat × Pa × AObj)), (∀ x ∈ as, p x.1 = q x.1) → addP p h as = addP q h as
  | [], _ => rfl
  | (i, n, o) :: r, hx => by
    simp only [addP]
    rw [hx (i, n, o) (by simp), addP_congr r (fun x hm => hx x (by simp [hm]))]
/-! # The one path through a region -/
theorem dpath {E : Env} {F : Fns} : ∀ (sops : List SOper) (i : Nat) (s sN : DSt), dstepOps E F sops i s = .ok sN →
    ∃ σ : Nat → DSt, σ 0 = s ∧ σ sops.length = sN ∧ ∀ k so, sops[k]? = some so → dstepOp E F (i + k) so (σ k) = .ok (σ (k + 1))
  | [], i, s, sN, h => by
    simp only [dstepOps, R.ok.injEq] at h
    exact ⟨fun _ => s, rfl, h, by simp⟩
  | o :: r, i, s, sN, h => by
    simp only [dstepOps, R.bind_eq] at h
    obtain ⟨s1, h1, h2⟩ := h
    obtain ⟨σ, e1, e2, e3⟩ := dpath r (i + 1) s1 sN h2
    refine ⟨fun k => if k = 0 then s else σ (k - 1), rfl, by simpa using e2, fun k so hk => ?_⟩
    cases k with
    | zero =>
      simp only [List.getElem?_cons_zero, Option.some.injEq] at hk
      subst hk
      simpa [e1] using h1
    | succ k =>
      have := e3 k so (by simpa using hk)
      rw [show i + 1 + k = i + (k + 1) by omega] at this
      simpa using this
end Go.SE
namespace Go.SE
/-! # What one operation does to the path -/
inductive DStep (E : Env) (F : Fns) (k : Nat) (o : SOper) (s s' : DSt) : Prop where
  | skip (hw : owanted o.guard s.t = false) (e : s' = dput s o.dst (.tu []))
  | p (f : PF) (v : V) (hw : owanted o.guard s.t = true) (ho : o.op = .p f) (hv : f E s.t = .ok v) (e : s' = dput s o.dst v)
  | r (f : RF) (v : V) (g : Gen) (gr : List Gen) (hw : owanted o.guard s.t = true) (ho : o.op = .r f) (hg : s.gs = g :: gr) (hv : f E s.t (addA g.mask o.mask g.h s.as) = .ok v) (hb : readBack E s.t f o.mask s.as v (g :: gr) = true)
      (e : s' = { t := oput o.dst s.t v, gs := s.gs, as := s.as, pend := ⟨k, o.mask, s.t, f, v⟩ :: s.pend, nx := s.nx })
  | a (f : AF) (ov : (Pa → AObj) × (Pa → V)) (q : Pa) (hw : owanted o.guard s.t = true) (ho : o.op = .a f) (hv : f E s.t = .ok ov) (hq : s.nx.succ = some q)
      (e : s' = { t := oput o.dst s.t (ov.2 s.nx), gs := s.gs, as := (k, s.nx, ov.1 s.nx) :: s.as, pend := s.pend, nx := q })
  | w (vh : V × H) (g : Gen) (gr : List Gen) (hw : owanted o.guard s.t = true) (ho : ∀ f, o.op ≠ .p f ∧ ∀ f, o.op ≠ .r f ∧ ∀ f, o.op ≠ .a f) (hg : s.gs = g :: gr) (hc : gr = [] ∨ o.mask.testBit g.i = true)
      (hv : stepW E F s.t (addA g.mask o.mask g.h s.as) o.op = .ok [vh]) (hp : pendOK E s.as ⟨vh.2, k, o.mask⟩ s.pend = true)
      (e : s' = { t := oput o.dst s.t vh.1, gs := ⟨vh.2, k, o.mask⟩ :: s.gs, as := s.as, pend := s.pend, nx := s.nx })
theorem only_eq {α : Type} {x : R (List α)} {a : α} (h : only x = .ok a) : x = .ok [a] := by
  unfold only at h
  split at h
  · cases h; rfl
  · cases h
  · cases h
theorem dstep_cases {E : Env} {F : Fns} {k : Nat} {o : SOper} {s s' : DSt} (hne : s.gs ≠ []) (h : dstepOp E F k o s = .ok s') : DStep E F k o s s' := by
  unfold dstepOp at h
  rw [bite_eq] at h
  by_cases hw : owanted o.guard s.t = true
  · rw [if_pos hw] at h
    split at h
    · cases h
    · rename_i g gr hg
      split at h
      · rename_i f ho
        simp only [R.map_eq] at h
        obtain ⟨v, hv, rfl⟩ := h
        exact .p f v hw ho hv rfl
      · rename_i f ho
        simp only [R.bind_eq, R.when_eq] at h
        obtain ⟨v, hv, hb, h⟩ := h
        cases h
        exact .r f v g gr hw ho hg hv hb (by rw [hg])
      · rename_i f ho
        simp only [R.bind_eq, R.of_eq] at h
        obtain ⟨ov, hv, q, hq, h⟩ := h
        cases h
        exact .a f ov q hw ho hv hq (by rw [hg])
      · rename_i x h1 h2 h3
        simp only [R.bind_eq, R.when_eq, Bool.or_eq_true] at h
        obtain ⟨hc, vh, hv, hp, h⟩ := h
        cases h
        refine .w vh g gr hw (fun f => ⟨h1 f, fun f => ⟨h2 f, fun f => h3 f⟩⟩) hg ?_ (only_eq hv) hp (by rw [hg])
        rcases hc with hc | hc
        · exact .inl (by simpa using hc)
        · exact .inr hc
  · rw [if_neg hw] at h
    cases h
    exact .skip (by simpa using hw) rfl
end Go.SE
namespace Go.SE
/-! # Facts of the masks of a region -/
theorem topo_spec : ∀ (l : List Oper) (i : Nat), topoOK l i = true → ∀ k o, l[k]? = some o → ∀ e ∈ o.after.toList, Region.binds .any e = true → e.on < i + k
  | [], _, _, k, o, hk => by simp at hk
  | o :: l, i, h, k, o', hk => by
    simp only [topoOK, Bool.and_eq_true] at h
    cases k with
    | zero =>
      simp only [List.getElem?_cons_zero, Option.some.injEq] at hk
      subst hk
      intro e he hb
      have := Array.all_eq_true_iff_forall_mem.1 h.1 e (Array.mem_toList_iff.1 he)
      simp only [hb, Bool.not_true, Bool.false_or, decide_eq_true_eq] at this
      exact this
    | succ k =>
      intro e he hb
      have := topo_spec l (i + 1) h.2 k o' (by simpa using hk) e he hb
      omega
theorem apartRow_spec {ops : Array Oper} {o : Oper} {m : Nat} : ∀ (l : List Oper) (i : Nat), apartRow ops o m l i = true → ∀ k x, l[k]? = some x → m.testBit (i + k) = true ∨ x.apart ops o = true
  | [], _, _, k, x, hk => by simp at hk
  | y :: l, i, h, k, x, hk => by
    simp only [apartRow, Bool.and_eq_true, Bool.or_eq_true] at h
    cases k with
    | zero =>
      simp only [List.getElem?_cons_zero, Option.some.injEq] at hk
      subst hk
      exact h.1
    | succ k =>
      have := apartRow_spec l (i + 1) h.2 k x (by simpa using hk)
      rw [show i + (k + 1) = i + 1 + k by omega]
      exact this
theorem apart_spec {ops : Array Oper} : ∀ (l pre : List Oper) (ms : List Nat), apartOK ops pre ms l = true → ∀ k o m, l[k]? = some o → ms[k]? = some m → ∀ j x, (pre ++ l)[j]? = some x → j < pre.length + k → m.testBit j = true ∨ x.apart ops o = true
  | [], pre, ms, _, k, o, m, hk, _ => by simp at hk
  | o :: l, pre, [], h, k, o', m, hk, hm => by simp at hm
  | o :: l, pre, m0 :: ms, h, k, o', m, hk, hm => by
    simp only [apartOK, Bool.and_eq_true] at h
    cases k with
    | zero =>
      simp only [List.getElem?_cons_zero, Option.some.injEq] at hk hm
      subst hk
      subst hm
      intro j x hj hlt
      rw [List.getElem?_append_left (by omega)] at hj
      have := apartRow_spec pre 0 h.1 j x hj
      simpa using this
    | succ k =>
      intro j x hj hlt
      exact apart_spec l (pre ++ [o]) ms h.2 k o' m (by simpa using hk) (by simpa using hm) j x (by simpa using hj) (by simp; omega)
section
variable {ops : Array Oper} (ht : topoOK ops.toList 0 = true)
def maskAt (ops : Array Oper) (k : Nat) : Nat := ((cMasks ops.toList [])[k]?).getD 0
theorem maskAt_get {k : Nat} {o : Oper} (ho : ops[k]? = some o) : (cMasks ops.toList [])[k]? = some (maskAt ops k) := by
  obtain ⟨h1, _, h3⟩ := cMasks_spec ops.toList []
  have := h3 k o (by simpa using ho)
  simp only [List.length_nil, Nat.zero_add] at this
  unfold maskAt
  rw [this]; rfl
include ht
theorem maskAt_bit {k : Nat} {o : Oper} (ho : ops[k]? = some o) (i : Nat) : (maskAt ops k).testBit i = true ↔ ∃ e ∈ o.after.toList, Region.binds .any e = true ∧ e.on < k ∧ (i = e.on ∨ (maskAt ops e.on).testBit i = true) := by
  obtain ⟨h1, _, h3⟩ := cMasks_spec ops.toList []
  have h4 := h3 k o (by simpa using ho)
  simp only [List.length_nil, Nat.zero_add] at h4
  have h5 : maskAt ops k = cMask o.after.toList ((cMasks ops.toList []).take k) := by unfold maskAt; rw [h4]; rfl
  rw [h5, cMask, cMask_bit]
  simp only [Nat.zero_testBit, Bool.false_eq_true, false_or]
  constructor
  · rintro ⟨e, he, hb, h⟩
    have hlt := topo_spec ops.toList 0 ht k o (by simpa using ho) e he hb
    rw [Nat.zero_add] at hlt
    refine ⟨e, he, hb, hlt, h.imp id fun h => ?_⟩
    rw [List.getElem?_take, if_pos hlt] at h
    exact h
  · rintro ⟨e, he, hb, hlt, h⟩
    refine ⟨e, he, hb, h.imp id fun h => ?_⟩
    rw [List.getElem?_take, if_pos hlt]
    exact h
theorem maskAt_lt : ∀ (k : Nat) {o : Oper}, ops[k]? = some o → ∀ i, (maskAt ops k).testBit i = true → i < k := by
  intro k
  induction k using Nat.strongRecOn with
  | _ k ih =>
    intro o ho i hi
    obtain ⟨e, _, _, hlt, h⟩ := (maskAt_bit ht ho i).1 hi
    rcases h with rfl | h
    · exact hlt
    · have hsz : e.on < ops.size := Nat.lt_trans hlt (Array.getElem?_eq_some_iff.1 ho).1
      have := ih e.on hlt (Array.getElem?_eq_getElem hsz) i h
      omega
theorem maskAt_trans : ∀ (k : Nat) {o : Oper}, ops[k]? = some o → ∀ j, (maskAt ops k).testBit j = true → ∀ i, (maskAt ops j).testBit i = true → (maskAt ops k).testBit i = true := by
  intro k
  induction k using Nat.strongRecOn with
  | _ k ih =>
    intro o ho j hj i hi
    obtain ⟨e, he, hb, hlt, h⟩ := (maskAt_bit ht ho j).1 hj
    refine (maskAt_bit ht ho i).2 ⟨e, he, hb, hlt, .inr ?_⟩
    rcases h with rfl | h
    · exact hi
    · have hsz : e.on < ops.size := Nat.lt_trans hlt (Array.getElem?_eq_some_iff.1 ho).1
      exact ih e.on hlt (Array.getElem?_eq_getElem hsz) j h i hi
/-- what is ready has its mask behind it -/
theorem maskAt_sub {k : Nat} {o : Oper} (ho : ops[k]? = some o) {X : Nat → Prop} (hX : ∀ j, X j → ∀ i, (maskAt ops j).testBit i = true → X i) (hr : ∀ e ∈ o.after.toList, Region.binds .any e = true → X e.on) : ∀ i, (maskAt ops k).testBit i = true → X i := by
  intro i hi
  obtain ⟨e, he, hb, hlt, h⟩ := (maskAt_bit ht ho i).1 hi
  rcases h with rfl | h
  · exact hr e he hb
  · exact hX e.on (hr e he hb) i h
end
end Go.SE
namespace Go.SE
/-! # Facts of the path -/
def cntA : List SOper → Nat
  | [] => 0
  | o :: r => (if isA o.op then 1 else 0) + cntA r
theorem skipA_eq : ∀ (l : List SOper) (n q : Pa), skipA l n = .ok q → q.len = n.len ∧ q.toNat = n.toNat + cntA l
  | [], n, q, h => by cases h; exact ⟨rfl, rfl⟩
  | o :: r, n, q, h => by
    simp only [skipA, bite_eq] at h
    by_cases ha : isA o.op = true
    · rw [if_pos ha] at h
      simp only [R.bind_eq, R.of_eq] at h
      obtain ⟨n', hn, h⟩ := h
      obtain ⟨h1, h2⟩ := skipA_eq r n' q h
      obtain ⟨h3, h4⟩ := Pa.succ_spec hn
      refine ⟨h1.trans h3, ?_⟩
      simp only [cntA, ha, if_true]; omega
    · rw [if_neg ha] at h
      obtain ⟨h1, h2⟩ := skipA_eq r n q h
      refine ⟨h1, ?_⟩
      simp only [cntA, ha, Bool.false_eq_true, if_false]; omega
theorem cntA_drop (l : List SOper) (k : Nat) {o : SOper} (ho : l[k]? = some o) : cntA (l.drop k) = (if isA o.op then 1 else 0) + cntA (l.drop (k + 1)) := by
  have hlt := (List.getElem?_eq_some_iff.1 ho).1
  rw [List.drop_eq_getElem_cons hlt]
  simp only [cntA]
  rw [(List.getElem?_eq_some_iff.1 ho).2]
structure DCtx (sha : List UInt8 → Nat → UInt8) (E : Env) (P : Program) (C : Cx) (F : Fns) (nb n : Nat) (ops : Array Oper) (sops : List SOper) (σ : Nat → DSt) (t0 : Tm) (h0 : H) (q : Pa) : Prop where
  hC : CxOK C P
  hF : CallsOK sha E P F
  topo : topoOK ops.toList 0 = true
  apart : apartOK ops [] (cMasks ops.toList []) ops.toList = true
  nosel : ∀ (k : Nat) (o : Oper), ops[k]? = some o → ∀ cs b, o.op ≠ .select cs b
  small : ops.size < 4096
  so : ∀ (k : Nat) (o : Oper), ops[k]? = some o → ∃ so, sops[k]? = some so ∧ so.mask = maskAt ops k ∧ cOp C nb o.op = some so.op ∧ cGuard nb n ops o.guard = some so.guard ∧ cDst nb n o.dst = some so.dst
  len : sops.length = ops.size
  step : ∀ (k : Nat) (so : SOper), sops[k]? = some so → DStep E F k so (σ k) (σ (k + 1))
  init : σ 0 = { t := t0, gs := [⟨{ objs := h0.objs, next := q, hs := h0.hs }, 4096, 0⟩], as := [], pend := [], nx := h0.next }
  names : skipA sops h0.next = .ok q
section
variable {sha : List UInt8 → Nat → UInt8} {E : Env} {P : Program} {C : Cx} {F : Fns} {nb n : Nat} {ops : Array Oper} {sops : List SOper} {σ : Nat → DSt} {t0 : Tm} {h0 : H} {q : Pa} (X : DCtx sha E P C F nb n ops sops σ t0 h0 q)
include X
theorem DCtx.sget {k : Nat} (hk : k < ops.size) : ∃ so, sops[k]? = some so := ⟨_, List.getElem?_eq_getElem (by rw [X.len]; exact hk)⟩
/-- names and A-blocks -/
theorem DCtx.asOK : ∀ k, k ≤ ops.size → (σ k).nx.len = h0.next.len ∧ h0.next.toNat ≤ (σ k).nx.toNat ∧ (σ k).nx.toNat + cntA (sops.drop k) ≤ q.toNat ∧
    (∀ x ∈ (σ k).as, x.1 < k ∧ x.2.1.len = h0.next.len ∧ h0.next.toNat ≤ x.2.1.toNat ∧ x.2.1.toNat < (σ k).nx.toNat) ∧ ((σ k).as.map (·.2.1)).Nodup := by
  intro k
  induction k with
  | zero =>
    intro _
    rw [X.init]
    have := (skipA_eq sops h0.next q X.names).2
    exact ⟨rfl, Nat.le_refl _, by simp; omega, by simp, by simp⟩
  | succ k ih =>
    intro hk
    obtain ⟨h1, h2, h3, h4, h5⟩ := ih (by omega)
    obtain ⟨so, hso⟩ := X.sget (show k < ops.size by omega)
    rw [cntA_drop sops k hso] at h3
    have keep : (σ (k + 1)).nx = (σ k).nx → (σ (k + 1)).as = (σ k).as → (σ (k + 1)).nx.len = h0.next.len ∧ h0.next.toNat ≤ (σ (k + 1)).nx.toNat ∧ (σ (k + 1)).nx.toNat + cntA (sops.drop (k + 1)) ≤ q.toNat ∧
        (∀ x ∈ (σ (k + 1)).as, x.1 < k + 1 ∧ x.2.1.len = h0.next.len ∧ h0.next.toNat ≤ x.2.1.toNat ∧ x.2.1.toNat < (σ (k + 1)).nx.toNat) ∧ ((σ (k + 1)).as.map (·.2.1)).Nodup := by
      intro e1 e2
      rw [e1, e2]
      refine ⟨h1, h2, by omega, fun x hx => ?_, h5⟩
      obtain ⟨a, b, c, d⟩ := h4 x hx
      exact ⟨by omega, b, c, d⟩
    cases X.step k so hso with
    | skip hw e => exact keep (by rw [e]; rfl) (by rw [e]; rfl)
    | p f v hw ho hv e => exact keep (by rw [e]; rfl) (by rw [e]; rfl)
    | r f v g gr hw ho hg hv hb e => exact keep (by rw [e]) (by rw [e])
    | w vh g gr hw ho hg hc hv hp e => exact keep (by rw [e]) (by rw [e])
    | a f ov q' hw ho hv hq e =>
      obtain ⟨l1, l2⟩ := Pa.succ_spec hq
      rw [e]
      have hA : isA so.op = true := by rw [ho]; rfl
      rw [hA, if_pos rfl] at h3
      refine ⟨l1.trans h1, by simp only; omega, by simp only; omega, fun x hx => ?_, ?_⟩
      · rcases List.mem_cons.1 hx with rfl | hx
        · exact ⟨by simp, h1, h2, by simp only; omega⟩
        · obtain ⟨a, b, c, d⟩ := h4 x hx
          exact ⟨by omega, b, c, by simp only; omega⟩
      · simp only [List.map_cons, List.nodup_cons]
        refine ⟨fun hm => ?_, h5⟩
        obtain ⟨x, hx, hxe⟩ := List.mem_map.1 hm
        have := (h4 x hx).2.2.2
        rw [hxe] at this
        omega
/-- what comes later into the list of A-blocks -/
theorem DCtx.asMono {k j : Nat} (hkj : k ≤ j) (hj : j ≤ ops.size) : ∃ ex, (σ j).as = ex ++ (σ k).as ∧ ∀ x ∈ ex, k ≤ x.1 := by
  induction j with
  | zero =>
    have : k = 0 := by omega
    subst this
    exact ⟨[], rfl, by simp⟩
  | succ j ih =>
    rcases Nat.lt_or_ge j k with hlt | hge
    · have : k = j + 1 := by omega
      subst this
      exact ⟨[], rfl, by simp⟩
    · obtain ⟨ex, h1, h2⟩ := ih hge (by omega)
      obtain ⟨so, hso⟩ := X.sget (show j < ops.size by omega)
      have keep : (σ (j + 1)).as = (σ j).as → ∃ ex, (σ (j + 1)).as = ex ++ (σ k).as ∧ ∀ x ∈ ex, k ≤ x.1 := fun e => ⟨ex, by rw [e, h1], h2⟩
      cases X.step j so hso with
      | skip hw e => exact keep (by rw [e]; rfl)
      | p f v hw ho hv e => exact keep (by rw [e]; rfl)
      | r f v g gr hw ho hg hv hb e => exact keep (by rw [e])
      | w vh g gr hw ho hg hc hv hp e => exact keep (by rw [e])
      | a f ov q' hw ho hv hq e =>
        refine ⟨(j, (σ j).nx, ov.1 (σ j).nx) :: ex, by rw [e]; simp only [h1, List.cons_append], fun x hx => ?_⟩
        rcases List.mem_cons.1 hx with rfl | hx
        · exact hge
        · exact h2 x hx
/-- an A-block's entry comes from its operation -/
theorem DCtx.asOf {k i : Nat} {nm : Pa} {ob : AObj} (hk : k ≤ ops.size) (hm : (i, nm, ob) ∈ (σ k).as) : ∃ so f ov, sops[i]? = some so ∧ owanted so.guard (σ i).t = true ∧ so.op = .a f ∧ f E (σ i).t = .ok ov ∧ nm = (σ i).nx ∧ ob = ov.1 (σ i).nx := by
  induction k with
  | zero => rw [X.init] at hm; cases hm
  | succ k ih =>
    obtain ⟨so, hso⟩ := X.sget (show k < ops.size by omega)
    cases X.step k so hso with
    | skip hw e => rw [e] at hm; exact ih (by omega) hm
    | p f v hw ho hv e => rw [e] at hm; exact ih (by omega) hm
    | r f v g gr hw ho hg hv hb e => rw [e] at hm; exact ih (by omega) hm
    | w vh g gr hw ho hg hc hv hp e => rw [e] at hm; exact ih (by omega) hm
    | a f ov q' hw ho hv hq e =>
      rw [e] at hm
      rcases List.mem_cons.1 hm with hm | hm
      · cases hm
        exact ⟨so, f, ov, hso, hw, ho, hv, rfl, rfl⟩
      · exact ih (by omega) hm
end
end Go.SE
namespace Go.SE
/-! # The slots of a region that is on its way -/
def dstAt (ops : Array Oper) (k : Nat) : Option Nat := (ops[k]?).bind (·.dst)
noncomputable def lastval (ops : Array Oper) (σ : Nat → DSt) (t0 : Tm) (nb : Nat) (X : Nat → Bool) (d : Nat) : Nat → V
  | 0 => tget t0 (Pa.ofNat nb d)
  | k + 1 => if X k = true ∧ dstAt ops k = some d then tget (σ (k + 1)).t (Pa.ofNat nb d) else lastval ops σ t0 nb X d k
theorem lastval_congr {ops : Array Oper} {σ : Nat → DSt} {t0 : Tm} {nb : Nat} {X Y : Nat → Bool} {d : Nat} : ∀ k, (∀ j, j < k → dstAt ops j = some d → X j = Y j) → lastval ops σ t0 nb X d k = lastval ops σ t0 nb Y d k
  | 0, _ => rfl
  | k + 1, h => by
    have ih : lastval ops σ t0 nb X d k = lastval ops σ t0 nb Y d k := lastval_congr k (fun j hj => h j (by omega))
    simp only [lastval, ih]
    by_cases hd : dstAt ops k = some d
    · rw [h k (by omega) hd]
    · simp only [hd, and_false, if_false]
theorem lastval_stop {ops : Array Oper} {σ : Nat → DSt} {t0 : Tm} {nb : Nat} {X : Nat → Bool} {d k : Nat} : ∀ N, k ≤ N → (∀ j, k ≤ j → j < N → dstAt ops j = some d → X j = false) → lastval ops σ t0 nb X d N = lastval ops σ t0 nb X d k
  | 0, hk, _ => by have : k = 0 := by omega
                   subst this; rfl
  | N + 1, hk, h => by
    rcases Nat.lt_or_ge N k with hlt | hge
    · have : k = N + 1 := by omega
      subst this; rfl
    · rw [lastval, if_neg, lastval_stop N hge (fun j h1 h2 => h j h1 (by omega))]
      rintro ⟨h1, h2⟩
      rw [h N hge (by omega) h2] at h1
      cases h1
theorem oput_ok {nb n : Nat} {t : Tm} (h : t.ok nb) (hn : n ≤ 4 ^ nb) {dst : Option Nat} {sd : Option Pa} (hd : cDst nb n dst = some sd) (v : V) : (oput sd t v).ok nb := by
  cases dst with
  | none => simp only [cDst, Option.some.injEq] at hd; subst hd; exact h
  | some d =>
    simp only [cDst] at hd
    split at hd
    · rename_i hlt
      cases hd
      exact Bt.set_ok (v := .l v) trivial (Pa.ofNat_spec nb d (by omega)).1 h
    · cases hd
theorem oput_get {nb n : Nat} {t : Tm} (h : t.ok nb) (hn : n ≤ 4 ^ nb) {dst : Option Nat} {sd : Option Pa} (hd : cDst nb n dst = some sd) (v : V) {d : Nat} (hlt : d < 4 ^ nb) : tget (oput sd t v) (Pa.ofNat nb d) = if dst = some d then v else tget t (Pa.ofNat nb d) := by
  cases dst with
  | none => simp only [cDst, Option.some.injEq] at hd; subst hd; rfl
  | some d' =>
    simp only [cDst] at hd
    split at hd
    · rename_i hlt'
      cases hd
      obtain ⟨l1, l2⟩ := Pa.ofNat_spec nb d' (by omega)
      obtain ⟨l3, l4⟩ := Pa.ofNat_spec nb d hlt
      show tget (tset t (Pa.ofNat nb d') v) (Pa.ofNat nb d) = _
      unfold tget tset
      rw [Bt.get_set (v := .l v) trivial l1 h]
      by_cases he : d' = d
      · subst he; simp [Bt.leaf]
      · rw [if_neg (fun hh => he (by rw [← l2, ← hh, l4])), if_neg (by simpa using he)]
    · cases hd
section
variable {sha : List UInt8 → Nat → UInt8} {E : Env} {P : Program} {C : Cx} {F : Fns} {nb n : Nat} {ops : Array Oper} {sops : List SOper} {σ : Nat → DSt} {t0 : Tm} {h0 : H} {q : Pa} (X : DCtx sha E P C F nb n ops sops σ t0 h0 q)
include X
theorem DCtx.tOf {k : Nat} {so : SOper} (hso : sops[k]? = some so) : ∃ v, (σ (k + 1)).t = oput so.dst (σ k).t v := by
  cases X.step k so hso with
  | skip hw e => exact ⟨_, by rw [e]; rfl⟩
  | p f v hw ho hv e => exact ⟨_, by rw [e]; rfl⟩
  | r f v g gr hw ho hg hv hb e => exact ⟨_, by rw [e]⟩
  | a f ov q' hw ho hv hq e => exact ⟨_, by rw [e]⟩
  | w vh g gr hw ho hg hc hv hp e => exact ⟨_, by rw [e]⟩
theorem DCtx.tOK (ht : t0.ok nb) (hn : n ≤ 4 ^ nb) : ∀ k, k ≤ ops.size → (σ k).t.ok nb ∧ ∀ d, d < 4 ^ nb → tget (σ k).t (Pa.ofNat nb d) = lastval ops σ t0 nb (fun _ => true) d k := by
  intro k
  induction k with
  | zero => intro _; rw [X.init]; exact ⟨ht, fun d _ => rfl⟩
  | succ k ih =>
    intro hk
    obtain ⟨h1, h2⟩ := ih (by omega)
    obtain ⟨o, ho⟩ : ∃ o, ops[k]? = some o := ⟨_, Array.getElem?_eq_getElem (by omega)⟩
    obtain ⟨so, hso, _, _, _, hd⟩ := X.so k o ho
    obtain ⟨v, hv⟩ := X.tOf hso
    refine ⟨by rw [hv]; exact oput_ok h1 hn hd v, fun d hlt => ?_⟩
    have hda : dstAt ops k = o.dst := by simp [dstAt, ho]
    rw [lastval, hda]
    by_cases he : o.dst = some d
    · rw [if_pos ⟨rfl, he⟩]
    · rw [if_neg (fun hh => he hh.2), hv, oput_get h1 hn hd v hlt, if_neg he, h2 d hlt]
end
end Go.SE
namespace Go.SE
section
variable {sha : List UInt8 → Nat → UInt8} {E : Env} {P : Program} {C : Cx} {F : Fns} {nb n : Nat} {ops : Array Oper} {sops : List SOper} {σ : Nat → DSt} {t0 : Tm} {h0 : H} {q : Pa} (X : DCtx sha E P C F nb n ops sops σ t0 h0 q)
include X
theorem DCtx.apartOf {j k : Nat} {oj ok : Oper} (hj : ops[j]? = some oj) (hk : ops[k]? = some ok) (hlt : j < k) (hm : (maskAt ops k).testBit j = false) : oj.apart ops ok = true := by
  have := apart_spec ops.toList [] _ X.apart k ok (maskAt ops k) (by simpa using hk) (maskAt_get hk) j oj (by simpa using hj) (by simpa using hlt)
  rcases this with h | h
  · rw [hm] at h; cases h
  · exact h
/-- the slots that a ready operation looks at hold what the path says -/
theorem DCtx.agree {L : Nat → Bool} (hcl : ∀ j, L j = true → ∀ i, (maskAt ops j).testBit i = true → L i = true) {k : Nat} {o : Oper} (ho : ops[k]? = some o) (hk : L k = false) (hsub : ∀ i, (maskAt ops k).testBit i = true → L i = true) {d : Nat} (hd : d ∈ o.looksAt ops) :
    lastval ops σ t0 nb L d ops.size = lastval ops σ t0 nb (fun _ => true) d k := by
  have hlt : k < ops.size := (Array.getElem?_eq_some_iff.1 ho).1
  rw [lastval_stop (k := k) ops.size (Nat.le_of_lt hlt) (fun j h1 h2 h3 => ?_)]
  · refine lastval_congr k fun j hj h3 => ?_
    obtain ⟨oj, hoj⟩ : ∃ oj, ops[j]? = some oj := ⟨_, Array.getElem?_eq_getElem (by omega)⟩
    have hdj : oj.dst = some d := by simpa [dstAt, hoj] using h3
    cases hb : (maskAt ops k).testBit j with
    | true => exact hsub j hb
    | false => exact absurd hd ((Oper.apart_spec (X.apartOf hoj ho hj hb)).1 d hdj)
  · rcases Nat.lt_or_ge k j with hkj | hkj
    · obtain ⟨oj, hoj⟩ : ∃ oj, ops[j]? = some oj := ⟨_, Array.getElem?_eq_getElem h2⟩
      have hdj : oj.dst = some d := by simpa [dstAt, hoj] using h3
      cases hL : L j with
      | false => rfl
      | true =>
        have hb : (maskAt ops j).testBit k = false := by
          cases hb : (maskAt ops j).testBit k with
          | false => rfl
          | true => rw [hcl j hL k hb] at hk; cases hk
        exact absurd hd ((Oper.apart_spec (X.apartOf ho hoj hkj hb)).2.2 d hdj)
    · have : j = k := by omega
      subst this; exact hk
/-- and none of those that are through has put its answer where a ready one puts its own, behind it -/
theorem DCtx.dstFree {L : Nat → Bool} (hcl : ∀ j, L j = true → ∀ i, (maskAt ops j).testBit i = true → L i = true) {k : Nat} {o : Oper} (ho : ops[k]? = some o) (hk : L k = false) {d : Nat} (hd : o.dst = some d) :
    ∀ j, k ≤ j → j < ops.size → dstAt ops j = some d → L j = false := by
  intro j h1 h2 h3
  rcases Nat.lt_or_ge k j with hkj | hkj
  · obtain ⟨oj, hoj⟩ : ∃ oj, ops[j]? = some oj := ⟨_, Array.getElem?_eq_getElem h2⟩
    have hdj : oj.dst = some d := by simpa [dstAt, hoj] using h3
    cases hL : L j with
    | false => rfl
    | true =>
      have hb : (maskAt ops j).testBit k = false := by
        cases hb : (maskAt ops j).testBit k with
        | false => rfl
        | true => rw [hcl j hL k hb] at hk; cases hk
      exact absurd hdj ((Oper.apart_spec (X.apartOf ho hoj hkj hb)).2.1 d hd)
  · have : j = k := by omega
    subst this; exact hk
/-- the slots when one more is through -/
theorem DCtx.lastval_put (ht : t0.ok nb) (hn : n ≤ 4 ^ nb) {L : Nat → Bool} (hcl : ∀ j, L j = true → ∀ i, (maskAt ops j).testBit i = true → L i = true) {k : Nat} {o : Oper} (ho : ops[k]? = some o) (hk : L k = false) {so : SOper} (hso : sops[k]? = some so) {v : V} (hv : (σ (k + 1)).t = oput so.dst (σ k).t v)
    {d : Nat} (hd : d < 4 ^ nb) : lastval ops σ t0 nb (fun i => L i || i == k) d ops.size = if o.dst = some d then v else lastval ops σ t0 nb L d ops.size := by
  have hlt : k < ops.size := (Array.getElem?_eq_some_iff.1 ho).1
  have hda : dstAt ops k = o.dst := by simp [dstAt, ho]
  by_cases hdd : o.dst = some d
  · rw [if_pos hdd, lastval_stop (k := k + 1) ops.size hlt]
    · rw [lastval, if_pos ⟨by simp, by rw [hda]; exact hdd⟩]
      obtain ⟨so', hso', _, _, _, hcd⟩ := X.so k o ho
      rw [hso] at hso'
      cases hso'
      rw [hv, oput_get (X.tOK ht hn k (Nat.le_of_lt hlt)).1 hn hcd v hd, if_pos hdd]
    · intro j h1 h2 h3
      have := X.dstFree hcl ho hk hdd j (by omega) h2 h3
      simp [this]; omega
  · rw [if_neg hdd]
    refine lastval_congr ops.size fun j hj h3 => ?_
    have : j ≠ k := by rintro rfl; rw [hda] at h3; exact hdd h3
    simp [this]
end
end Go.SE
namespace Go.SE
/-- what a write leaves -/
def Wr (σ : Nat → DSt) (k : Nat) (g : Gen) : Prop := (σ (k + 1)).gs = g :: (σ k).gs ∧ g.i = k
section
variable {sha : List UInt8 → Nat → UInt8} {E : Env} {P : Program} {C : Cx} {F : Fns} {nb n : Nat} {ops : Array Oper} {sops : List SOper} {σ : Nat → DSt} {t0 : Tm} {h0 : H} {q : Pa} (X : DCtx sha E P C F nb n ops sops σ t0 h0 q)
include X
theorem DCtx.maskOf {k : Nat} {so : SOper} (hso : sops[k]? = some so) : so.mask = maskAt ops k := by
  have hlt : k < ops.size := by rw [← X.len]; exact (List.getElem?_eq_some_iff.1 hso).1
  obtain ⟨so', h1, h2, _⟩ := X.so k _ (Array.getElem?_eq_getElem hlt)
  rw [hso] at h1
  cases h1
  exact h2
/-- the gens: those of the writes, the last one first; at the end the one from the start -/
theorem DCtx.gsForm : ∀ k, k ≤ ops.size → ∃ ws : List Gen, (σ k).gs = ws ++ [⟨{ objs := h0.objs, next := q, hs := h0.hs }, 4096, 0⟩] ∧
    (∀ g ∈ ws, g.i < k ∧ g.mask = maskAt ops g.i ∧ Wr σ g.i g) ∧ (∀ j g, j < k → Wr σ j g → g ∈ ws) ∧ ws.Pairwise (fun a b => b.i < a.i) := by
  intro k
  induction k with
  | zero => intro _; exact ⟨[], by rw [X.init]; rfl, by simp, by intro j g hj; omega, List.Pairwise.nil⟩
  | succ k ih =>
    intro hk
    obtain ⟨ws, h1, h2, h3, h4⟩ := ih (by omega)
    obtain ⟨so, hso⟩ := X.sget (show k < ops.size by omega)
    have keep : (σ (k + 1)).gs = (σ k).gs → ∃ ws : List Gen, (σ (k + 1)).gs = ws ++ [⟨{ objs := h0.objs, next := q, hs := h0.hs }, 4096, 0⟩] ∧
        (∀ g ∈ ws, g.i < k + 1 ∧ g.mask = maskAt ops g.i ∧ Wr σ g.i g) ∧ (∀ j g, j < k + 1 → Wr σ j g → g ∈ ws) ∧ ws.Pairwise (fun a b => b.i < a.i) := by
      intro e
      refine ⟨ws, by rw [e, h1], fun g hg => ?_, fun j g hj hw => ?_, h4⟩
      · obtain ⟨a, b, c⟩ := h2 g hg
        exact ⟨by omega, b, c⟩
      · rcases Nat.lt_or_ge j k with hlt | hge
        · exact h3 j g hlt hw
        · have : j = k := by omega
          subst this
          have := congrArg List.length hw.1
          rw [e] at this
          simp at this
    cases X.step k so hso with
    | skip hw e => exact keep (by rw [e]; rfl)
    | p f v hw ho hv e => exact keep (by rw [e]; rfl)
    | r f v g gr hw ho hg hv hb e => exact keep (by rw [e])
    | a f ov q' hw ho hv hq e => exact keep (by rw [e])
    | w vh g gr hw ho hg hc hv hp e =>
      have hW : Wr σ k ⟨vh.2, k, so.mask⟩ := ⟨by rw [e], rfl⟩
      refine ⟨⟨vh.2, k, so.mask⟩ :: ws, by rw [e]; simp only [h1, List.cons_append], fun g' hg' => ?_, fun j g' hj hw' => ?_, List.Pairwise.cons (fun g' hg' => (h2 g' hg').1) h4⟩
      · rcases List.mem_cons.1 hg' with rfl | hg'
        · exact ⟨Nat.lt_succ_self k, X.maskOf hso, hW⟩
        · obtain ⟨a, b, c⟩ := h2 g' hg'
          exact ⟨by omega, b, c⟩
      · rcases Nat.lt_or_ge j k with hlt | hge
        · exact List.mem_cons_of_mem _ (h3 j g' hlt hw')
        · have : j = k := by omega
          subst this
          have e2 := hW.1.symm.trans hw'.1
          simp only [List.cons.injEq, and_true] at e2
          rw [← e2]; simp
/-- a later write has the earlier ones in its mask -/
theorem DCtx.wrOrder : ∀ k, k < ops.size → ∀ g, Wr σ k g → ∀ j g', j < k → Wr σ j g' → (maskAt ops k).testBit j = true := by
  intro k
  induction k using Nat.strongRecOn with
  | _ k ih =>
    intro hk g hW j g' hj hW'
    obtain ⟨so, hso⟩ := X.sget hk
    obtain ⟨ws, h1, h2, h3, h4⟩ := X.gsForm k (Nat.le_of_lt hk)
    have hmem := h3 j g' hj hW'
    have bad : (σ (k + 1)).gs = (σ k).gs → (maskAt ops k).testBit j = true := by
      intro e
      have := congrArg List.length hW.1
      rw [e] at this
      simp at this
    cases X.step k so hso with
    | skip hw e => exact bad (by rw [e]; rfl)
    | p f v hw ho hv e => exact bad (by rw [e]; rfl)
    | r f v g gr hw ho hg hv hb e => exact bad (by rw [e])
    | a f ov q' hw ho hv hq e => exact bad (by rw [e])
    | w vh g0 gr hw ho hg hc hv hp e =>
      cases ws with
      | nil => cases hmem
      | cons g1 ws =>
        rw [h1] at hg
        simp only [List.cons_append, List.cons.injEq] at hg
        obtain ⟨rfl, hgr⟩ := hg
        obtain ⟨a, b, c⟩ := h2 g1 (by simp)
        have hb1 : (maskAt ops k).testBit g1.i = true := by
          rw [← X.maskOf hso]
          rcases hc with hc | hc
          · rw [hc] at hgr; simp at hgr
          · exact hc
        rcases List.mem_cons.1 hmem with rfl | hmem
        · rw [hW'.2] at hb1; exact hb1
        · have hlt : j < g1.i := by
            have := (List.pairwise_cons.1 h4).1 g' hmem
            rw [hW'.2] at this; exact this
          have := ih g1.i a (by omega) g1 c j g' hlt hW'
          exact maskAt_trans X.topo k (Array.getElem?_eq_getElem hk) g1.i hb1 j this
end
end Go.SE
namespace Go.SE
theorem readBack_spec {E : Env} {t : Tm} {o : RF} {mask : Nat} {as : List (Nat × Pa × AObj)} {v : V} : ∀ {pre : List Gen} {g : Gen} {post : List Gen}, readBack E t o mask as v (pre ++ g :: post) = true → (∀ g' ∈ pre, mask.testBit g'.i = false) → readsOn E t o mask as v g = true
  | [], g, post, h, _ => by
    simp only [List.nil_append, readBack, Bool.and_eq_true] at h
    exact h.1
  | g1 :: pre, g, post, h, hp => by
    simp only [List.cons_append, readBack, Bool.and_eq_true, Bool.or_eq_true] at h
    rcases h.2 with h2 | h2
    · rw [hp g1 (by simp)] at h2; cases h2
    · exact readBack_spec h2 (fun g' hg' => hp g' (by simp [hg']))
theorem pendOK_spec {E : Env} {as : List (Nat × Pa × AObj)} {g : Gen} : ∀ {l : List Pend}, pendOK E as g l = true → ∀ p ∈ l, g.mask.testBit p.i = true ∨ readsOn E p.t p.o p.mask as p.v g = true
  | [], _, p, hp => by cases hp
  | x :: l, h, p, hp => by
    simp only [pendOK, Bool.and_eq_true, Bool.or_eq_true] at h
    rcases List.mem_cons.1 hp with rfl | hp
    · exact h.1
    · exact pendOK_spec h.2 p hp
theorem readsOn_spec {E : Env} {t : Tm} {o : RF} {mask : Nat} {as : List (Nat × Pa × AObj)} {v : V} {g : Gen} (h : readsOn E t o mask as v g = true) : o E t (addA g.mask mask g.h as) = .ok v := by
  unfold readsOn at h
  split at h
  · rename_i u hu
    rw [hu, V.same_eq h]
  · cases h
section
variable {sha : List UInt8 → Nat → UInt8} {E : Env} {P : Program} {C : Cx} {F : Fns} {nb n : Nat} {ops : Array Oper} {sops : List SOper} {σ : Nat → DSt} {t0 : Tm} {h0 : H} {q : Pa} (X : DCtx sha E P C F nb n ops sops σ t0 h0 q)
include X
theorem DCtx.pendMono {k j : Nat} (hkj : k ≤ j) (hj : j ≤ ops.size) : ∀ p ∈ (σ k).pend, p ∈ (σ j).pend := by
  induction j with
  | zero =>
    have : k = 0 := by omega
    subst this
    exact fun p hp => hp
  | succ j ih =>
    rcases Nat.lt_or_ge j k with hlt | hge
    · have : k = j + 1 := by omega
      subst this
      exact fun p hp => hp
    · intro p hp
      have := ih hge (by omega) p hp
      obtain ⟨so, hso⟩ := X.sget (show j < ops.size by omega)
      cases X.step j so hso with
      | skip hw e => rw [e]; exact this
      | p f v hw ho hv e => rw [e]; exact this
      | r f v g gr hw ho hg hv hb e => rw [e]; exact List.mem_cons_of_mem _ this
      | a f ov q' hw ho hv hq e => rw [e]; exact this
      | w vh g gr hw ho hg hc hv hp e => rw [e]; exact this
/-- with the A-blocks of the whole region instead of those so far -/
theorem DCtx.addA_all {k j : Nat} (hk : k ≤ ops.size) (hj : j < ops.size) (hjk : j ≤ k) (seen : Nat) (h : H) : addA seen (maskAt ops j) h (σ k).as = addA seen (maskAt ops j) h (σ ops.size).as := by
  obtain ⟨ex, h1, h2⟩ := X.asMono hk (Nat.le_refl _)
  rw [addA_eq, addA_eq, h1, addP_extra]
  intro x hx
  have h3 := h2 x hx
  cases hb : (maskAt ops j).testBit x.1 with
  | false => rfl
  | true =>
    have := maskAt_lt X.topo j (Array.getElem?_eq_getElem hj) x.1 hb
    omega
/-- a read answers the same on every heap that it can meet -/
theorem DCtx.readAny {k : Nat} {so : SOper} (hso : sops[k]? = some so) {f : RF} {v : V} {g gh : Gen} {gr : List Gen} (hg : (σ k).gs = gh :: gr)
    (hb : readBack E (σ k).t f so.mask (σ k).as v (gh :: gr) = true)
    (hpend : (⟨k, so.mask, (σ k).t, f, v⟩ : Pend) ∈ (σ (k + 1)).pend)
    (hposs : (∃ pre post, (σ k).gs = pre ++ g :: post ∧ ∀ g' ∈ pre, so.mask.testBit g'.i = false) ∨ (∃ m, k < m ∧ m < ops.size ∧ Wr σ m g ∧ (maskAt ops m).testBit k = false)) :
    f E (σ k).t (addA g.mask (maskAt ops k) g.h (σ ops.size).as) = .ok v := by
  have hlt : k < ops.size := by rw [← X.len]; exact (List.getElem?_eq_some_iff.1 hso).1
  rcases hposs with ⟨pre, post, h1, h2⟩ | ⟨m, hm1, hm2, hW, hnb⟩
  · rw [← hg, h1] at hb
    have := readsOn_spec (readBack_spec hb h2)
    rw [X.maskOf hso, X.addA_all (Nat.le_of_lt hlt) hlt (Nat.le_refl _)] at this
    exact this
  · obtain ⟨som, hsom⟩ := X.sget hm2
    have bad : (σ (m + 1)).gs = (σ m).gs → f E (σ k).t (addA g.mask (maskAt ops k) g.h (σ ops.size).as) = .ok v := by
      intro e
      have := congrArg List.length hW.1
      rw [e] at this
      simp at this
    cases X.step m som hsom with
    | skip hw e => exact bad (by rw [e]; rfl)
    | p f v hw ho hv e => exact bad (by rw [e]; rfl)
    | r f v g gr hw ho hg hv hb e => exact bad (by rw [e])
    | a f ov q' hw ho hv hq e => exact bad (by rw [e])
    | w vh g0 gr0 hw0 ho0 hg0 hc hv0 hp e =>
      have hge : g = ⟨vh.2, m, som.mask⟩ := by
        have := hW.1
        rw [e] at this
        simp only [List.cons.injEq, and_true] at this
        exact this.symm
      have hp2 := pendOK_spec hp _ (X.pendMono (show k + 1 ≤ m by omega) (Nat.le_of_lt hm2) _ hpend)
      rw [← hge] at hp2
      rcases hp2 with hp2 | hp2
      · rw [hge] at hp2
        simp only at hp2
        rw [X.maskOf hsom, hnb] at hp2
        cases hp2
      · have := readsOn_spec hp2
        simp only at this
        rw [X.maskOf hso, X.addA_all (Nat.le_of_lt hm2) hlt (Nat.le_of_lt hm1)] at this
        exact this
end
end Go.SE
namespace Go.SE
section
variable {sha : List UInt8 → Nat → UInt8} {E : Env} {P : Program} {C : Cx} {F : Fns} {nb n : Nat} {ops : Array Oper} {sops : List SOper} {σ : Nat → DSt} {t0 : Tm} {h0 : H} {q : Pa}
def gen0 (h0 : H) (q : Pa) : Gen := ⟨{ objs := h0.objs, next := q, hs := h0.hs }, 4096, 0⟩
/-- the gen of the last write that is through -/
def Cur (ops : Array Oper) (σ : Nat → DSt) (h0 : H) (q : Pa) (L : Nat → Bool) (gx : Gen) : Prop :=
  (gx = gen0 h0 q ∧ ∀ m g, m < ops.size → Wr σ m g → L m = false) ∨ (∃ m, m < ops.size ∧ L m = true ∧ Wr σ m gx ∧ ∀ m' g', m' < ops.size → Wr σ m' g' → L m' = true → m' ≤ m)
noncomputable def hx (ops : Array Oper) (σ : Nat → DSt) (L : Nat → Bool) (gx : Gen) : H := addP (fun i => L i && !gx.mask.testBit i) gx.h (σ ops.size).as
structure DInv (sha : List UInt8 → Nat → UInt8) (E : Env) (nb n : Nat) (ops : Array Oper) (σ : Nat → DSt) (t0 : Tm) (h0 : H) (q : Pa) (ρ0 : Ren) (w0 : World) (a0 : Act) (L : Nat → Bool) (gx : Gen) (ρ : Ren) (a : Act) (w : World) : Prop where
  lt : ∀ j, L j = true → j < ops.size
  cl : ∀ j, L j = true → ∀ i, (maskAt ops j).testBit i = true → L i = true
  tm : ∃ tX, FrR nb ρ tX a.tmps ∧ ∀ d, d < 4 ^ nb → tget tX (Pa.ofNat nb d) = lastval ops σ t0 nb L d ops.size
  sz : a.tmps.size = n
  df : a.defers = a0.defers
  cur : Cur ops σ h0 q L gx
  st : Step sha E ρ0 h0 w0 ρ (hx ops σ L gx) w
  nm : ∀ i nm ob, (i, nm, ob) ∈ (σ ops.size).as → L i = false → ρ.β nm = none ∧ ρ.mv nm = none
  own : ∀ i nm ob x, (i, nm, ob) ∈ (σ ops.size).as → gx.h.get nm = some x → gx.mask.testBit i = true
  nx : q.toNat ≤ gx.h.next.toNat
  ok : gx.h.objs.ok gx.h.next.len
variable (X : DCtx sha E P C F nb n ops sops σ t0 h0 q)
include X
theorem DCtx.curMask {L : Nat → Bool} {gx : Gen} (hc : Cur ops σ h0 q L gx) (hcl : ∀ j, L j = true → ∀ i, (maskAt ops j).testBit i = true → L i = true) : ∀ i, gx.mask.testBit i = true → L i = true := by
  intro i hi
  rcases hc with ⟨rfl, _⟩ | ⟨m, hm, hL, hW, _⟩
  · simp [gen0] at hi
  · obtain ⟨ws, _, h2, h3, _⟩ := X.gsForm ops.size (Nat.le_refl _)
    obtain ⟨_, h4, _⟩ := h2 gx (h3 m gx hm hW)
    rw [h4, hW.2] at hi
    exact hcl m hL i hi
variable {ρ0 : Ren} {w0 : World} {a0 : Act} {L : Nat → Bool} {gx : Gen} {ρ : Ren} {a : Act} {w : World} (I : DInv sha E nb n ops σ t0 h0 q ρ0 w0 a0 L gx ρ a w)
include I
theorem DCtx.asLen : ∀ x ∈ (σ ops.size).as, x.2.1.len = gx.h.next.len := by
  intro x hx'
  have h1 := (X.asOK ops.size (Nat.le_refl _)).2.2.2.1 x hx'
  rw [h1.2.1, ← (addP_next (fun i => L i && !gx.mask.testBit i) gx.h (σ ops.size).as).1]
  exact I.st.len.symm
theorem DCtx.hxOk : (hx ops σ L gx).objs.ok (hx ops σ L gx).next.len := by
  have := (addP_next (fun i => L i && !gx.mask.testBit i) gx.h (σ ops.size).as).1
  unfold hx
  rw [this]
  exact addP_ok I.ok _ (X.asLen I)
theorem DCtx.hxGet (m : Pa) (x : AObj) : (hx ops σ L gx).get m = some x ↔ ((∃ i, (i, m, x) ∈ (σ ops.size).as ∧ (L i && !gx.mask.testBit i) = true) ∨ (gx.h.get m = some x)) := by
  unfold hx
  rw [addP_get I.ok _ (X.asLen I) (X.asOK ops.size (Nat.le_refl _)).2.2.2.2]
  constructor
  · rintro (h | ⟨h, _⟩)
    · exact .inl h
    · exact .inr h
  · rintro (h | h)
    · exact .inl h
    · refine .inr ⟨h, fun i o hi => ?_⟩
      rw [I.own i m o x hi h]; simp
/-- what an operation sees is a part of what there is -/
theorem DCtx.partGet {k : Nat} (m : Pa) (x : AObj) : (addA gx.mask (maskAt ops k) gx.h (σ ops.size).as).get m = some x ↔ ((∃ i, (i, m, x) ∈ (σ ops.size).as ∧ ((maskAt ops k).testBit i && !gx.mask.testBit i) = true) ∨ gx.h.get m = some x) := by
  rw [addA_eq, addP_get I.ok _ (X.asLen I) (X.asOK ops.size (Nat.le_refl _)).2.2.2.2]
  constructor
  · rintro (h | ⟨h, _⟩)
    · exact .inl h
    · exact .inr h
  · rintro (h | h)
    · exact .inl h
    · refine .inr ⟨h, fun i o hi => ?_⟩
      rw [I.own i m o x hi h]; simp
theorem DCtx.part {k : Nat} (hsub : ∀ i, (maskAt ops k).testBit i = true → L i = true) : St sha E ρ (addA gx.mask (maskAt ops k) gx.h (σ ops.size).as) w := by
  have h1 := addP_next (fun i => L i && !gx.mask.testBit i) gx.h (σ ops.size).as
  have h2 := addP_next (fun i => (maskAt ops k).testBit i && !gx.mask.testBit i) gx.h (σ ops.size).as
  refine I.st.st.sub ?_ ?_ ?_ ?_
  · rw [addA_eq, h2.1]; exact addP_ok I.ok _ (X.asLen I)
  · rw [addA_eq, h2.1]; exact h1.1.symm
  · rw [addA_eq, h2.2]; exact h1.2.symm
  · intro m x hm
    rw [X.hxGet I]
    rcases (X.partGet I m x).1 hm with ⟨i, hi, hb⟩ | hm
    · simp only [Bool.and_eq_true] at hb
      exact .inl ⟨i, hi, by rw [hsub i hb.1]; simpa using hb.2⟩
    · exact .inr hm
end
end Go.SE
namespace Go.SE
section
variable {sha : List UInt8 → Nat → UInt8} {E : Env} {P : Program} {C : Cx} {F : Fns} {nb n : Nat} {ops : Array Oper} {sops : List SOper} {σ : Nat → DSt} {t0 : Tm} {h0 : H} {q : Pa}
variable (X : DCtx sha E P C F nb n ops sops σ t0 h0 q) {ρ0 : Ren} {w0 : World} {a0 : Act} {L : Nat → Bool} {gx : Gen} {ρ : Ren} {a : Act} {w : World} (I : DInv sha E nb n ops σ t0 h0 q ρ0 w0 a0 L gx ρ a w)
def more (L : Nat → Bool) (k : Nat) : Nat → Bool := fun i => L i || i == k
theorem more_of {L : Nat → Bool} {k i : Nat} (h : L i = true) : more L k i = true := by simp [more, h]
theorem more_self (L : Nat → Bool) (k : Nat) : more L k k = true := by simp [more]
theorem more_ne {L : Nat → Bool} {k i : Nat} (h : i ≠ k) : more L k i = L i := by simp [more, h]
include X I
omit X in
theorem DInv.moreCl {k : Nat} (hsub : ∀ i, (maskAt ops k).testBit i = true → L i = true) : ∀ j, more L k j = true → ∀ i, (maskAt ops j).testBit i = true → more L k i = true := by
  intro j hj i hi
  by_cases hjk : j = k
  · subst hjk; exact more_of (hsub i hi)
  · rw [more_ne hjk] at hj
    exact more_of (I.cl j hj i hi)
theorem DCtx.tmNext (ht : t0.ok nb) (hn : n ≤ 4 ^ nb) {k : Nat} {o : Oper} (ho : ops[k]? = some o) (hk : L k = false) {so : SOper} (hso : sops[k]? = some so) {v : V} {u : Value} (hv : (σ (k + 1)).t = oput so.dst (σ k).t v) {ρ' : Ren} (hle : ρ.le ρ') (hvr : VR ρ' v u) :
    ∃ tX, FrR nb ρ' tX (a.put o.dst u).tmps ∧ ∀ d, d < 4 ^ nb → tget tX (Pa.ofNat nb d) = lastval ops σ t0 nb (more L k) d ops.size := by
  obtain ⟨tX, h1, h2⟩ := I.tm
  obtain ⟨so', hso', _, _, _, hd⟩ := X.so k o ho
  rw [hso] at hso'
  cases hso'
  refine ⟨oput so.dst tX v, put_FrR (h1.mono hle) I.sz hd hvr, fun d hlt => ?_⟩
  rw [oput_get h1.1 hn hd v hlt, h2 d hlt]
  exact (X.lastval_put ht hn I.cl ho hk hso hv hlt).symm
/-- the slots of a ready operation, for it and for its guard -/
theorem DCtx.sameSlots (ht : t0.ok nb) (hn : n ≤ 4 ^ nb) {k : Nat} {o : Oper} (ho : ops[k]? = some o) (hk : L k = false) (hsub : ∀ i, (maskAt ops k).testBit i = true → L i = true) {so : SOper} (hso : sops[k]? = some so) :
    ∃ tX, FrR nb ρ tX a.tmps ∧ so.op.Same (σ k).t tX ∧ owanted so.guard (σ k).t = owanted so.guard tX := by
  obtain ⟨tX, h1, h2⟩ := I.tm
  obtain ⟨so', hso', _, hop, hg, hd⟩ := X.so k o ho
  rw [hso] at hso'
  cases hso'
  have hlt : k < ops.size := (Array.getElem?_eq_some_iff.1 ho).1
  have key : ∀ d, d < 4 ^ nb → d ∈ o.looksAt ops → tget (σ k).t (Pa.ofNat nb d) = tget tX (Pa.ofNat nb d) := by
    intro d hd hl
    rw [(X.tOK ht hn k (Nat.le_of_lt hlt)).2 d hd, h2 d hd, X.agree I.cl ho hk hsub hl]
  refine ⟨tX, h1, cOp_same (fun x hx sx hsx => ?_) hop, ?_⟩
  · cases x with
    | tmp d =>
      have hl : d ∈ o.looksAt ops := List.mem_append_left _ (List.mem_filterMap.2 ⟨.tmp d, hx, rfl⟩)
      simp only [cOpd] at hsx
      split at hsx
      · rename_i hlt
        cases hsx
        exact key d hlt hl
      · cases hsx
    | const c => exact opd_same (fun d hd => by cases hd) hsx
    | global g => exact opd_same (fun d hd => by cases hd) hsx
    | func f => exact opd_same (fun d hd => by cases hd) hsx
  · cases hgo : o.guard with
    | none => rw [hgo] at hg; simp only [cGuard, Option.some.injEq] at hg; rw [← hg]; rfl
    | some jw =>
      obtain ⟨j, want⟩ := jw
      rw [hgo] at hg
      simp only [cGuard, bind_some] at hg
      obtain ⟨d, hd', hg⟩ := hg
      split at hg
      · rename_i hdn
        simp only [Option.some.injEq] at hg
        rw [← hg]
        have hl : d ∈ o.looksAt ops := by
          refine List.mem_append_right _ ?_
          rw [hgo]
          simp [hd']
        simp only [owanted]
        rw [key d (Nat.lt_of_lt_of_le hdn hn) hl]
      · cases hg
end
end Go.SE
namespace Go.SE
theorem inj_of_nodup {α β : Type} {f : α → β} : ∀ {l : List α}, (l.map f).Nodup → ∀ {a b : α}, a ∈ l → b ∈ l → f a = f b → a = b
  | [], _, _, _, ha, _, _ => by cases ha
  | x :: l, h, a, b, ha, hb, he => by
    simp only [List.map_cons, List.nodup_cons] at h
    rcases List.mem_cons.1 ha with h1 | h1 <;> rcases List.mem_cons.1 hb with h2 | h2
    · rw [h1, h2]
    · subst h1; exact absurd (List.mem_map.2 ⟨b, h2, he.symm⟩) h.1
    · subst h2; exact absurd (List.mem_map.2 ⟨a, h1, he⟩) h.1
    · exact inj_of_nodup h.2 h1 h2 he
section
variable {sha : List UInt8 → Nat → UInt8} {E : Env} {P : Program} {C : Cx} {F : Fns} {nb n : Nat} {ops : Array Oper} {sops : List SOper} {σ : Nat → DSt} {t0 : Tm} {h0 : H} {q : Pa}
theorem Cur.more {L : Nat → Bool} {gx : Gen} {k : Nat} (hc : Cur ops σ h0 q L gx) (hk : ∀ g, ¬ Wr σ k g) : Cur ops σ h0 q (more L k) gx := by
  rcases hc with ⟨h1, h2⟩ | ⟨m, h1, h2, h3, h4⟩
  · refine .inl ⟨h1, fun m g hm hW => ?_⟩
    have : m ≠ k := by rintro rfl; exact hk g hW
    rw [more_ne this]; exact h2 m g hm hW
  · refine .inr ⟨m, h1, more_of h2, h3, fun m' g' hm' hW hL => ?_⟩
    have : m' ≠ k := by rintro rfl; exact hk g' hW
    rw [more_ne this] at hL
    exact h4 m' g' hm' hW hL
theorem hx_more {L : Nat → Bool} {gx : Gen} {k : Nat} (hne : ∀ x ∈ (σ ops.size).as, x.1 ≠ k) : hx ops σ (more L k) gx = hx ops σ L gx :=
  addP_congr _ (fun x hx' => by simp only [more_ne (hne x hx')])
variable (X : DCtx sha E P C F nb n ops sops σ t0 h0 q) {ρ0 : Ren} {w0 : World} {a0 : Act} {L : Nat → Bool} {gx : Gen} {ρ : Ren} {a : Act} {w : World} (I : DInv sha E nb n ops σ t0 h0 q ρ0 w0 a0 L gx ρ a w)
include X I
/-- one more that makes no block and is no write -/
theorem DCtx.invSame (ht : t0.ok nb) (hn : n ≤ 4 ^ nb) {k : Nat} {o : Oper} (ho : ops[k]? = some o) (hk : L k = false) (hsub : ∀ i, (maskAt ops k).testBit i = true → L i = true) {so : SOper} (hso : sops[k]? = some so) {v : V} {u : Value} (hv : (σ (k + 1)).t = oput so.dst (σ k).t v)
    (hvr : VR ρ v u) (hnoA : ∀ x ∈ (σ ops.size).as, x.1 ≠ k) (hnoW : ∀ g, ¬ Wr σ k g) {w' : World} (hst : Step sha E ρ (hx ops σ L gx) w ρ (hx ops σ L gx) w') : DInv sha E nb n ops σ t0 h0 q ρ0 w0 a0 (more L k) gx ρ (a.put o.dst u) w' where
  lt j hj := by
    by_cases hjk : j = k
    · subst hjk; exact (Array.getElem?_eq_some_iff.1 ho).1
    · rw [more_ne hjk] at hj; exact I.lt j hj
  cl := I.moreCl hsub
  tm := X.tmNext I ht hn ho hk hso hv (Ren.le.refl ρ) hvr
  sz := by rw [put_size]; exact I.sz
  df := by rw [put_defers]; exact I.df
  cur := I.cur.more hnoW
  st := by rw [hx_more hnoA]; exact I.st.trans hst
  nm i nm ob hm hL := by
    refine I.nm i nm ob hm ?_
    by_cases hik : i = k
    · subst hik; exact hk
    · rw [more_ne hik] at hL; exact hL
  own := I.own
  nx := I.nx
  ok := I.ok
/-- the heap with one A-block more -/
theorem DCtx.hxMoreGet {k : Nat} (m : Pa) (x : AObj) : (hx ops σ (more L k) gx).get m = some x ↔ ((∃ i, (i, m, x) ∈ (σ ops.size).as ∧ (more L k i && !gx.mask.testBit i) = true) ∨ (gx.h.get m = some x)) := by
  unfold hx
  rw [addP_get I.ok _ (X.asLen I) (X.asOK ops.size (Nat.le_refl _)).2.2.2.2]
  constructor
  · rintro (h | ⟨h, _⟩)
    · exact .inl h
    · exact .inr h
  · rintro (h | h)
    · exact .inl h
    · refine .inr ⟨h, fun i o hi => ?_⟩
      rw [I.own i m o x hi h]; simp
omit I in
theorem DCtx.asUniq {i j : Nat} {nm : Pa} {x y : AObj} (h1 : (i, nm, x) ∈ (σ ops.size).as) (h2 : (j, nm, y) ∈ (σ ops.size).as) : i = j ∧ x = y := by
  have hnd := (X.asOK ops.size (Nat.le_refl _)).2.2.2.2
  have := inj_of_nodup hnd h1 h2 rfl
  cases this; exact ⟨rfl, rfl⟩
/-- one more that makes a block -/
theorem DCtx.invAlloc (ht : t0.ok nb) (hn : n ≤ 4 ^ nb) {k : Nat} {o : Oper} (ho : ops[k]? = some o) (hk : L k = false) (hsub : ∀ i, (maskAt ops k).testBit i = true → L i = true) {so : SOper} (hso : sops[k]? = some so) {nm : Pa} {ob : AObj} {v : V} {u : Value} (hv : (σ (k + 1)).t = oput so.dst (σ k).t v)
    (hmem : (k, nm, ob) ∈ (σ ops.size).as) (hnoW : ∀ g, ¬ Wr σ k g) {w' : World} {B : Blk} {c : Option (Array MapEntry × Nat)} (hBk : B.k = w.heap.size) (hw : ∀ b, b < w.heap.size → w'.heap[b]? = w.heap[b]?) (hsz : w'.heap.size = w.heap.size + 1) (hos : w'.os = w.os) (htape : w'.tape = w.tape) (hout : w'.output = w.output)
    (hob : ∀ ρ' : Ren, ρ.le ρ' → ρ'.β nm = some B → (∀ x, c = some x → ρ'.mv nm = some x) → ObjR ρ' ob B w' ∧ VR ρ' v u) : ∃ ρ', DInv sha E nb n ops σ t0 h0 q ρ0 w0 a0 (more L k) gx ρ' (a.put o.dst u) w' := by
  have hA := (X.asOK ops.size (Nat.le_refl _))
  obtain ⟨_, a2, a3, a4⟩ := hA.2.2.2.1 _ hmem
  simp only at a2 a3 a4
  have hxn : (hx ops σ L gx).next = gx.h.next := (addP_next _ _ _).1
  have hqn : nm.toNat < gx.h.next.toNat := by
    have := hA.2.2.1
    have := I.nx
    omega
  obtain ⟨hβ, hm⟩ := I.nm k nm ob hmem hk
  have hgk : gx.mask.testBit k = false := by
    cases hb : gx.mask.testBit k with
    | false => rfl
    | true => rw [X.curMask I.cur I.cl k hb] at hk; cases hk
  obtain ⟨ρ', S', hle, hβ', hmv', hother⟩ := Step.alloc I.st (n := nm) (o := ob) (B := B) (c := c) (h' := hx ops σ (more L k) gx) a2 a3 (by rw [hxn]; exact hqn) hβ hm hBk (fun ρ' h1 h2 h3 => (hob ρ' h1 h2 h3).1) hw hsz hos htape hout
    (by
      have := (addP_next (fun i => more L k i && !gx.mask.testBit i) gx.h (σ ops.size).as).1
      unfold hx
      rw [this]
      exact addP_ok I.ok _ (X.asLen I))
    (by unfold hx; rw [(addP_next _ _ _).1, (addP_next _ _ _).1]) (by unfold hx; rw [(addP_next _ _ _).2, (addP_next _ _ _).2])
    (fun m x => by
      rw [X.hxMoreGet I, X.hxGet I]
      constructor
      · rintro (⟨i, hi, hb⟩ | h)
        · by_cases hik : i = k
          · subst hik
            by_cases hmn : m = nm
            · subst hmn
              exact .inl ⟨rfl, (X.asUniq hi hmem).2⟩
            · obtain ⟨_, _, _, _, _, _, _, e1, _⟩ := X.asOf (Nat.le_refl _) hi
              obtain ⟨_, _, _, _, _, _, _, e2, _⟩ := X.asOf (Nat.le_refl _) hmem
              exact absurd (e1.trans e2.symm) hmn
          · rw [more_ne hik] at hb
            refine .inr ⟨fun hmn => ?_, .inl ⟨i, hi, hb⟩⟩
            subst hmn
            exact hik (X.asUniq hi hmem).1
        · refine .inr ⟨fun hmn => ?_, .inr h⟩
          subst hmn
          rw [I.own k m ob x hmem h] at hgk; cases hgk
      · rintro (⟨rfl, rfl⟩ | ⟨hmn, ⟨i, hi, hb⟩ | h⟩)
        · exact .inl ⟨k, hmem, by rw [more_self, hgk]; rfl⟩
        · simp only [Bool.and_eq_true] at hb
          exact .inl ⟨i, hi, by rw [more_of hb.1]; simpa using hb.2⟩
        · exact .inr h)
  refine ⟨ρ', ⟨fun j hj => ?_, I.moreCl hsub, X.tmNext I ht hn ho hk hso hv hle (hob ρ' hle hβ' hmv').2, by rw [put_size]; exact I.sz, by rw [put_defers]; exact I.df, I.cur.more hnoW, S', fun i nm' ob' hm' hL => ?_, I.own, I.nx, I.ok⟩⟩
  · by_cases hjk : j = k
    · subst hjk; exact (Array.getElem?_eq_some_iff.1 ho).1
    · rw [more_ne hjk] at hj; exact I.lt j hj
  · have hik : i ≠ k := by rintro rfl; rw [more_self] at hL; cases hL
    rw [more_ne hik] at hL
    have hne : nm' ≠ nm := by
      rintro rfl
      exact hik (X.asUniq hm' hmem).1
    obtain ⟨h1, h2⟩ := I.nm i nm' ob' hm' hL
    obtain ⟨h3, h4⟩ := hother nm' hne
    exact ⟨h3.trans h1, h4.trans h2⟩
end
end Go.SE
namespace Go.SE
section
variable {sha : List UInt8 → Nat → UInt8} {E : Env} {P : Program} {C : Cx} {F : Fns} {nb n : Nat} {ops : Array Oper} {sops : List SOper} {σ : Nat → DSt} {t0 : Tm} {h0 : H} {q : Pa}
variable (X : DCtx sha E P C F nb n ops sops σ t0 h0 q) {ρ0 : Ren} {w0 : World} {a0 : Act} {L : Nat → Bool} {gx : Gen} {ρ : Ren} {a : Act} {w : World} (I : DInv sha E nb n ops σ t0 h0 q ρ0 w0 a0 L gx ρ a w)
include X I
/-- one more that writes -/
theorem DCtx.invWrite (ht : t0.ok nb) (hn : n ≤ 4 ^ nb) {k : Nat} {o : Oper} (ho : ops[k]? = some o) (hk : L k = false) (hsub : ∀ i, (maskAt ops k).testBit i = true → L i = true) {so : SOper} (hso : sops[k]? = some so) {v : V} {u : Value} (hv : (σ (k + 1)).t = oput so.dst (σ k).t v)
    (hnoA : ∀ x ∈ (σ ops.size).as, x.1 ≠ k) {g' : Gen} (hW : Wr σ k g') (hgm : ∀ i, gx.mask.testBit i = true → (maskAt ops k).testBit i = true) (hlast : ∀ m g, m < ops.size → Wr σ m g → L m = true → m < k) {ρ' : Ren} {w' : World} (hvr : VR ρ' v u)
    (hst : Step sha E ρ (addA gx.mask (maskAt ops k) gx.h (σ ops.size).as) w ρ' g'.h w') : DInv sha E nb n ops σ t0 h0 q ρ0 w0 a0 (more L k) g' ρ' (a.put o.dst u) w' := by
  have hlt : k < ops.size := (Array.getElem?_eq_some_iff.1 ho).1
  have hA := X.asOK ops.size (Nat.le_refl _)
  have hg'm : g'.mask = maskAt ops k := by
    obtain ⟨ws, _, h2, h3, _⟩ := X.gsForm ops.size (Nat.le_refl _)
    obtain ⟨_, h4, _⟩ := h2 g' (h3 k g' hlt hW)
    rw [h4, hW.2]
  have e1 := addP_next (fun i => L i && !gx.mask.testBit i) gx.h (σ ops.size).as
  have e2 := addP_next (fun i => (maskAt ops k).testBit i && !gx.mask.testBit i) gx.h (σ ops.size).as
  have hpn : (addA gx.mask (maskAt ops k) gx.h (σ ops.size).as).next = gx.h.next := by rw [addA_eq]; exact e2.1
  have hph : (addA gx.mask (maskAt ops k) gx.h (σ ops.size).as).hs = gx.h.hs := by rw [addA_eq]; exact e2.2
  have hqg : q.toNat ≤ g'.h.next.toNat := by have := hst.nx; rw [hpn] at this; exact Nat.le_trans I.nx this
  have hok' : g'.h.objs.ok g'.h.next.len := hst.st.ok
  have hlen' : ∀ x ∈ (σ ops.size).as, x.2.1.len = g'.h.next.len := by
    intro x hx'
    rw [hst.len, hpn]
    exact X.asLen I x hx'
  have nmlt : ∀ x ∈ (σ ops.size).as, x.2.1.toNat < gx.h.next.toNat := by
    intro x hx'
    have h1 := (hA.2.2.2.1 x hx').2.2.2
    have := hA.2.2.1
    have := I.nx
    omega
  have own' : ∀ i nm ob x, (i, nm, ob) ∈ (σ ops.size).as → g'.h.get nm = some x → g'.mask.testBit i = true := by
    intro i nm ob x hm hg
    obtain ⟨y, hy⟩ := hst.dom nm x hg (by rw [hpn]; exact nmlt _ hm)
    rw [hg'm]
    rcases (X.partGet I nm y).1 hy with ⟨j, hj, hb⟩ | hy
    · have := (X.asUniq hm hj).1
      subst this
      simp only [Bool.and_eq_true] at hb
      exact hb.1
    · exact hgm i (I.own i nm ob y hm hy)
  have S' : Step sha E ρ (hx ops σ L gx) w ρ' (hx ops σ (more L k) g') w' := by
    refine Step.frame I.st.st (hk := addA gx.mask (maskAt ops k) gx.h (σ ops.size).as) (hk' := g'.h) ?_ ?_ ?_ hst ?_ ?_ ?_ ?_
    · rw [hpn]; exact e1.1.symm
    · rw [hph]; exact e1.2.symm
    · intro m x hm
      rw [X.hxGet I]
      rcases (X.partGet I m x).1 hm with ⟨i, hi, hb⟩ | hm
      · simp only [Bool.and_eq_true] at hb
        exact .inl ⟨i, hi, by rw [hsub i hb.1]; simpa using hb.2⟩
      · exact .inr hm
    · unfold hx
      rw [(addP_next _ _ _).1]
      exact addP_ok hok' _ hlen'
    · unfold hx; exact (addP_next _ _ _).1
    · unfold hx; exact (addP_next _ _ _).2
    · intro m x
      unfold hx
      rw [addP_get hok' _ hlen' hA.2.2.2.2, show addP (fun i => L i && !gx.mask.testBit i) gx.h (σ ops.size).as = hx ops σ L gx from rfl, X.hxGet I]
      constructor
      · rintro (⟨i, hi, hb⟩ | ⟨h, _⟩)
        · simp only [Bool.and_eq_true, Bool.not_eq_true'] at hb
          have hik : i ≠ k := hnoA _ hi
          rw [more_ne hik, hg'm] at hb
          have hgi : gx.mask.testBit i = false := by
            cases hc : gx.mask.testBit i with
            | false => rfl
            | true => rw [hgm i hc] at hb; cases hb.2
          refine .inr ⟨.inl ⟨i, hi, by rw [hb.1, hgi]; rfl⟩, ?_⟩
          cases hp : (addA gx.mask (maskAt ops k) gx.h (σ ops.size).as).get m with
          | none => rfl
          | some y =>
            rcases (X.partGet I m y).1 hp with ⟨j, hj, hb2⟩ | hy
            · have := (X.asUniq hi hj).1
              subst this
              simp only [Bool.and_eq_true] at hb2
              rw [hb.2] at hb2; cases hb2.1
            · rw [I.own i m x y hi hy] at hgi; cases hgi
        · exact .inl h
      · rintro (h | ⟨h, hnone⟩)
        · refine .inr ⟨h, fun i o' hi => ?_⟩
          rw [own' i m o' x hi h]; simp
        · rcases h with ⟨i, hi, hb⟩ | h
          · simp only [Bool.and_eq_true] at hb
            refine .inl ⟨i, hi, ?_⟩
            rw [more_of hb.1, hg'm]
            cases hc : (maskAt ops k).testBit i with
            | false => rfl
            | true =>
              have := (X.partGet I (k := k) m x).2 (.inl ⟨i, hi, by rw [hc]; simpa using hb.2⟩)
              rw [hnone] at this; cases this
          · have := (X.partGet I (k := k) m x).2 (.inr h)
            rw [hnone] at this; cases this
  refine ⟨fun j hj => ?_, I.moreCl hsub, X.tmNext I ht hn ho hk hso hv hst.le hvr, by rw [put_size]; exact I.sz, by rw [put_defers]; exact I.df, ?_, I.st.trans S', fun i nm ob hm hL => ?_, own', hqg, hok'⟩
  · by_cases hjk : j = k
    · subst hjk; exact hlt
    · rw [more_ne hjk] at hj; exact I.lt j hj
  · refine .inr ⟨k, hlt, more_self L k, hW, fun m g hm hWm hL => ?_⟩
    by_cases hmk : m = k
    · omega
    · rw [more_ne hmk] at hL
      exact Nat.le_of_lt (hlast m g hm hWm hL)
  · have hik : i ≠ k := by rintro rfl; rw [more_self] at hL; cases hL
    rw [more_ne hik] at hL
    obtain ⟨h1, h2⟩ := I.nm i nm ob hm hL
    obtain ⟨h3, h4⟩ := hst.old nm (by rw [hpn]; exact X.asLen I _ hm) (by rw [hpn]; exact nmlt _ hm)
    exact ⟨h3.trans h1, h4.trans h2⟩
end
end Go.SE
namespace Go.SE
section
variable {sha : List UInt8 → Nat → UInt8} {E : Env} {P : Program} {C : Cx} {F : Fns} {nb n : Nat} {ops : Array Oper} {sops : List SOper} {σ : Nat → DSt} {t0 : Tm} {h0 : H} {q : Pa}
theorem oput_inj {nb n : Nat} {t s : Tm} (h : t.ok nb) (hn : n ≤ 4 ^ nb) {dst : Option Nat} {sd : Option Pa} (hd : cDst nb n dst = some sd) {v v1 : V} (he : oput sd t v1 = oput sd t v) : oput sd s v1 = oput sd s v := by
  cases dst with
  | none => simp only [cDst, Option.some.injEq] at hd; subst hd; rfl
  | some d =>
    have hd' := hd
    simp only [cDst] at hd
    split at hd
    · rename_i hlt
      have h1 := oput_get h hn hd' v (d := d) (by omega)
      have h2 := oput_get h hn hd' v1 (d := d) (by omega)
      rw [he, h1] at h2
      simp only [if_true] at h2
      rw [h2]
    · cases hd
variable (X : DCtx sha E P C F nb n ops sops σ t0 h0 q) {ρ0 : Ren} {w0 : World} {a0 : Act} {L : Nat → Bool} {gx : Gen} {ρ : Ren} {a : Act} {w : World} (I : DInv sha E nb n ops σ t0 h0 q ρ0 w0 a0 L gx ρ a w)
include X
/-- the gen that a ready write goes on from -/
theorem DCtx.headGen (hcl : ∀ j, L j = true → ∀ i, (maskAt ops j).testBit i = true → L i = true) (hc : Cur ops σ h0 q L gx) {k : Nat} (hlt : k < ops.size) (hk : L k = false) (hsub : ∀ i, (maskAt ops k).testBit i = true → L i = true) {g' : Gen} (hW : Wr σ k g') {g : Gen} {gr : List Gen} (hg : (σ k).gs = g :: gr) :
    g = gx ∧ (∀ i, gx.mask.testBit i = true → (maskAt ops k).testBit i = true) ∧ (∀ m g, m < ops.size → Wr σ m g → L m = true → m < k) := by
  have later : ∀ m g, m < ops.size → Wr σ m g → L m = true → m < k := by
    intro m g2 hm hWm hL
    rcases Nat.lt_or_ge m k with h | h
    · exact h
    · rcases Nat.lt_or_ge k m with h2 | h2
      · have := X.wrOrder m hm g2 hWm k g' h2 hW
        rw [hcl m hL k this] at hk; cases hk
      · have : m = k := by omega
        subst this
        rw [hL] at hk; cases hk
  obtain ⟨ws, h1, h2, h3, h4⟩ := X.gsForm k (Nat.le_of_lt hlt)
  have head : g = gx := by
    cases ws with
    | nil =>
      rw [h1] at hg
      simp only [List.nil_append, List.cons.injEq] at hg
      rcases hc with ⟨hc, _⟩ | ⟨m, hm, hL, hWm, _⟩
      · rw [hc, ← hg.1]; rfl
      · have := h3 m gx (later m gx hm hWm hL) hWm
        cases this
    | cons g1 ws =>
      rw [h1] at hg
      simp only [List.cons_append, List.cons.injEq] at hg
      obtain ⟨rfl, _⟩ := hg
      obtain ⟨a1, b1, c1⟩ := h2 g1 (by simp)
      have hin : L g1.i = true := hsub g1.i (X.wrOrder k hlt g' hW g1.i g1 a1 c1)
      rcases hc with ⟨_, hc⟩ | ⟨m, hm, hL, hWm, hmax⟩
      · rw [hc g1.i g1 (by omega) c1] at hin; cases hin
      · have hle := hmax g1.i g1 (by omega) c1 hin
        have hmem := h3 m gx (later m gx hm hWm hL) hWm
        have hge : m ≤ g1.i := by
          rcases List.mem_cons.1 hmem with h | h
          · rw [← h, hWm.2]; exact Nat.le_refl _
          · have := (List.pairwise_cons.1 h4).1 gx h
            rw [hWm.2] at this; omega
        have hmi : g1.i = m := by omega
        rw [hmi] at c1
        have e2 := c1.1.symm.trans hWm.1
        simp only [List.cons.injEq, and_true] at e2
        exact e2
  refine ⟨head, fun i hi => ?_, later⟩
  rcases hc with ⟨hc, _⟩ | ⟨m, hm, hL, hWm, _⟩
  · rw [hc] at hi; simp [gen0] at hi
  · obtain ⟨wsN, _, h2N, h3N, _⟩ := X.gsForm ops.size (Nat.le_refl _)
    obtain ⟨_, h5, _⟩ := h2N gx (h3N m gx hm hWm)
    rw [h5, hWm.2] at hi
    have := X.wrOrder k hlt g' hW m gx (later m gx hm hWm hL) hWm
    exact maskAt_trans X.topo k (Array.getElem?_eq_getElem hlt) m this i hi
end
end Go.SE
namespace Go.SE
section
variable {sha : List UInt8 → Nat → UInt8} {E : Env} {P : Program} {C : Cx} {F : Fns} {nb n : Nat} {ops : Array Oper} {sops : List SOper} {σ : Nat → DSt} {t0 : Tm} {h0 : H} {q : Pa}
theorem Wr.ne {σ : Nat → DSt} {k : Nat} (e : (σ (k + 1)).gs = (σ k).gs) : ∀ g, ¬ Wr σ k g := by
  intro g hW
  have := congrArg List.length hW.1
  rw [e] at this
  simp at this
variable (X : DCtx sha E P C F nb n ops sops σ t0 h0 q) {ρ0 : Ren} {w0 : World} {a0 : Act} {L : Nat → Bool} {gx : Gen} {ρ : Ren} {a : Act} {w : World} (I : DInv sha E nb n ops σ t0 h0 q ρ0 w0 a0 L gx ρ a w)
include X
/-- the heaps that a ready read can meet -/
theorem DCtx.poss (hcl : ∀ j, L j = true → ∀ i, (maskAt ops j).testBit i = true → L i = true) (hc : Cur ops σ h0 q L gx) {k : Nat} (hlt : k < ops.size) (hk : L k = false) (hsub : ∀ i, (maskAt ops k).testBit i = true → L i = true) :
    (∃ pre post, (σ k).gs = pre ++ gx :: post ∧ ∀ g' ∈ pre, (maskAt ops k).testBit g'.i = false) ∨ (∃ m, k < m ∧ m < ops.size ∧ Wr σ m gx ∧ (maskAt ops m).testBit k = false) := by
  obtain ⟨ws, h1, h2, h3, h4⟩ := X.gsForm k (Nat.le_of_lt hlt)
  rcases hc with ⟨hc, hno⟩ | ⟨m, hm, hL, hW, hmax⟩
  · refine .inl ⟨ws, [], by rw [h1, hc]; rfl, fun g' hg' => ?_⟩
    obtain ⟨a1, b1, c1⟩ := h2 g' hg'
    cases hb : (maskAt ops k).testBit g'.i with
    | false => rfl
    | true =>
      have := hsub _ hb
      rw [hno g'.i g' (by omega) c1] at this; cases this
  · rcases Nat.lt_trichotomy m k with hmk | hmk | hmk
    · have hmem := h3 m gx hmk hW
      obtain ⟨pre, post, he⟩ := List.append_of_mem hmem
      refine .inl ⟨pre, post ++ [gen0 h0 q], by rw [h1, he]; simp [gen0], fun g' hg' => ?_⟩
      obtain ⟨a1, b1, c1⟩ := h2 g' (by rw [he]; simp [hg'])
      cases hb : (maskAt ops k).testBit g'.i with
      | false => rfl
      | true =>
        have hle := hmax g'.i g' (by omega) c1 (hsub _ hb)
        rw [he] at h4
        have := (List.pairwise_append.1 h4).2.2 g' hg' gx (by simp)
        rw [hW.2] at this
        omega
    · subst hmk; rw [hL] at hk; cases hk
    · refine .inr ⟨m, hmk, hm, hW, ?_⟩
      cases hb : (maskAt ops m).testBit k with
      | false => rfl
      | true => rw [hcl m hL k hb] at hk; cases hk
include I
theorem DCtx.partStep {k : Nat} (hsub : ∀ i, (maskAt ops k).testBit i = true → L i = true) {w' : World} (hst : Step sha E ρ (addA gx.mask (maskAt ops k) gx.h (σ ops.size).as) w ρ (addA gx.mask (maskAt ops k) gx.h (σ ops.size).as) w') : Step sha E ρ (hx ops σ L gx) w ρ (hx ops σ L gx) w' := by
  have e1 := addP_next (fun i => L i && !gx.mask.testBit i) gx.h (σ ops.size).as
  have e2 := addP_next (fun i => (maskAt ops k).testBit i && !gx.mask.testBit i) gx.h (σ ops.size).as
  have hsub' : ∀ m x, (addA gx.mask (maskAt ops k) gx.h (σ ops.size).as).get m = some x → (hx ops σ L gx).get m = some x := by
    intro m x hm
    rw [X.hxGet I]
    rcases (X.partGet I m x).1 hm with ⟨i, hi, hb⟩ | hm
    · simp only [Bool.and_eq_true] at hb
      exact .inl ⟨i, hi, by rw [hsub i hb.1]; simpa using hb.2⟩
    · exact .inr hm
  refine Step.frame I.st.st (hk := addA gx.mask (maskAt ops k) gx.h (σ ops.size).as) (hk' := addA gx.mask (maskAt ops k) gx.h (σ ops.size).as) ?_ ?_ hsub' hst ?_ ?_ ?_ ?_
  · rw [addA_eq, e2.1]; exact e1.1.symm
  · rw [addA_eq, e2.2]; exact e1.2.symm
  · exact X.hxOk I
  · rw [addA_eq, e2.1]; exact e1.1
  · rw [addA_eq, e2.2]; exact e1.2
  · intro m x
    constructor
    · intro h
      cases hp : (addA gx.mask (maskAt ops k) gx.h (σ ops.size).as).get m with
      | none => exact .inr ⟨h, rfl⟩
      | some y =>
        have := hsub' m y hp
        rw [h] at this
        cases this
        exact .inl rfl
    · rintro (h | ⟨h, _⟩)
      · exact hsub' m x h
      · exact h
/-- one ready operation -/
theorem DCtx.ready (ht : t0.ok nb) (hn : n ≤ 4 ^ nb) {k : Nat} {o : Oper} (ho : ops[k]? = some o) (hk : L k = false) (hsub : ∀ i, (maskAt ops k).testBit i = true → L i = true) {Q : Exit → Act → World → Prop} {K : Act → World → Prop}
    (hK : ∀ gx' ρ' a' w', DInv sha E nb n ops σ t0 h0 q ρ0 w0 a0 (more L k) gx' ρ' a' w' → K a' w') : wpOp P ops Q k K a w := by
  have hlt : k < ops.size := (Array.getElem?_eq_some_iff.1 ho).1
  obtain ⟨so, hso, hmask, hop, hg, hd⟩ := X.so k o ho
  obtain ⟨tX, hFr, hsame, hwant⟩ := X.sameSlots I ht hn ho hk hsub hso
  have hw := wanted_eq hFr I.sz hg
  have hpart := X.part I hsub
  have hs := cOp_sound (sha := sha) X.hC hop
  have noA : (∀ f, so.op ≠ .a f) → ∀ x ∈ (σ ops.size).as, x.1 ≠ k := by
    rintro hne ⟨i, nm, ob⟩ hx' rfl
    obtain ⟨so', f, ov, h1, _, h2, _⟩ := X.asOf (Nat.le_refl _) hx'
    rw [hso] at h1
    cases h1
    exact hne f h2
  unfold wpOp
  simp only [ho, hw]
  cases X.step k so hso with
  | skip hwf e =>
    rw [hwant] at hwf
    rw [if_neg (by rw [hwf]; simp)]
    refine hK gx ρ _ w (X.invSame I ht hn ho hk hsub hso (v := .tu []) (by rw [e]; rfl) (VR_undef ρ) ?_ (Wr.ne (by rw [e]; rfl)) (Step.refl I.st.st))
    rintro ⟨i, nm, ob⟩ hx' rfl
    obtain ⟨so', f, ov, h1, h2, _⟩ := X.asOf (Nat.le_refl _) hx'
    rw [hso] at h1
    cases h1
    rw [hwant, hwf] at h2; cases h2
  | p f v hwt hop' hv e =>
    rw [hwant] at hwt
    rw [if_pos hwt]
    rw [hop'] at hs hsame
    have hv' : f E tX = .ok v := by rw [← hsame E]; exact hv
    obtain ⟨u, h1, h2⟩ := hs E ρ tX a v I.st.st.env hFr hv' w
    refine .inl ?_
    unfold Oper.wp
    rw [h1]
    exact hK gx ρ _ w (X.invSame I ht hn ho hk hsub hso (v := v) (by rw [e]; rfl) h2 (noA (by rw [hop']; simp)) (Wr.ne (by rw [e]; rfl)) (Step.refl I.st.st))
  | r f v g gr hwt hop' hgs hv hb e =>
    rw [hwant] at hwt
    rw [if_pos hwt]
    rw [hop'] at hs hsame
    have hposs := X.poss I.cl I.cur hlt hk hsub
    have hval := X.readAny hso hgs hb (g := gx) (by rw [e]; simp) (by rw [hmask]; exact hposs)
    have hv' : f E tX (addA gx.mask (maskAt ops k) gx.h (σ ops.size).as) = .ok v := by rw [← hsame E]; exact hval
    obtain ⟨u, w', h1, h2, h3⟩ := hs E ρ tX _ a v w hFr hpart hv'
    refine .inl ?_
    unfold Oper.wp
    rw [h1]
    exact hK gx ρ _ w' (X.invSame I ht hn ho hk hsub hso (v := v) (by rw [e]) h2 (noA (by rw [hop']; simp)) (Wr.ne (by rw [e])) (X.partStep I hsub h3))
  | a f ov q' hwt hop' hv hq e =>
    rw [hwant] at hwt
    rw [if_pos hwt]
    rw [hop'] at hs hsame
    have hv' : f E tX = .ok ov := by rw [← hsame E]; exact hv
    obtain ⟨u, w', B, c, h1, h2, h3, h4, h5, h6, h7, h8⟩ := hs E ρ tX a w ov I.st.st.env hFr hv'
    have hmem : (k, (σ k).nx, ov.1 (σ k).nx) ∈ (σ ops.size).as := by
      obtain ⟨ex, he, _⟩ := X.asMono (show k + 1 ≤ ops.size from hlt) (Nat.le_refl _)
      rw [he, e]
      simp
    obtain ⟨ρ', hI⟩ := X.invAlloc I ht hn ho hk hsub hso (v := ov.2 (σ k).nx) (u := u) (by rw [e]) hmem (Wr.ne (by rw [e])) h2 h3 h4 h5 h6 h7 (fun ρ' a b c => h8 _ ρ' a b c)
    refine .inl ?_
    unfold Oper.wp
    rw [h1]
    exact hK gx ρ' _ w' hI
  | w vh g gr hwt hop' hgs hc hv hp e =>
    rw [hwant] at hwt
    rw [if_pos hwt]
    have hW : Wr σ k ⟨vh.2, k, so.mask⟩ := ⟨by rw [e], rfl⟩
    obtain ⟨hg1, hgm, hlast⟩ := X.headGen I.cl I.cur hlt hk hsub hW hgs
    subst hg1
    rw [hmask, X.addA_all (Nat.le_of_lt hlt) hlt (Nat.le_refl _)] at hv
    refine .inl (op_sound X.hC X.hF hop hFr hpart (rest := []) (outs := [(.normal, oput so.dst tX vh.1, vh.2)]) ?_ ?_)
    · cases hopp : so.op with
      | p f => exact absurd hopp (hop' f).1
      | r f => exact absurd hopp ((hop' default).2 f).1
      | a f => exact absurd hopp (((hop' default).2 default).2 f)
      | e f =>
        rw [hopp] at hv hsame
        simp only [stepW, R.map_eq] at hv
        obtain ⟨b, hb, hbe⟩ := hv
        cases hbe
        simp only [stepOps_nil]
        rw [← hsame E, hb]
        rfl
      | nx x =>
        rw [hopp] at hv hsame
        have hsame : x.ev (σ k).t = x.ev tX := hsame
        simp only [stepW] at hv
        simp only [stepOps_nil]
        rw [← hsame, hv]
        rfl
      | call f args =>
        rw [hopp] at hv hsame
        obtain ⟨e1, e2⟩ := hsame
        simp only [stepW] at hv
        simp only [stepOps_nil]
        rw [← e1, ← e2, hv]
        rfl
    · intro v h1 outs1 ρ1 u w1 hr hsubs hvr hst
      rw [stepOps_nil] at hr
      cases hr
      have := hsubs _ (List.mem_singleton.2 rfl)
      simp only [List.mem_singleton, Prod.mk.injEq, true_and] at this
      obtain ⟨hput, rfl⟩ := this
      refine hK ⟨vh.2, k, so.mask⟩ ρ1 _ w1 (X.invWrite I ht hn ho hk hsub hso (v := v) ?_ (noA (fun f => ((hop' default).2 default).2 f)) hW hgm hlast hvr hst)
      rw [e]
      exact (oput_inj (s := (σ k).t) hFr.1 hn hd hput).symm
end
end Go.SE
namespace Go.SE
/-- names are passed over -/
theorem Step.pass {sha : List UInt8 → Nat → UInt8} {E : Env} {ρ : Ren} {h : H} {w : World} (s : St sha E ρ h w) {q : Pa} (hl : q.len = h.next.len) (hn : h.next.toNat ≤ q.toNat) : Step sha E ρ h w ρ { objs := h.objs, next := q, hs := h.hs } w := by
  refine ⟨⟨by simpa [hl] using s.ok, s.objs, s.inj, fun m hml hmn => ?_, s.hash, s.hfresh, s.env⟩, .refl ρ, fun _ _ _ => ⟨rfl, rfl⟩, hl, hn, fun m o' hg _ => ⟨o', hg⟩, fun m o' B hg hl' hB => absurd (s.lt (n := m) (o := o') hg) (by omega), fun _ _ _ => rfl, Nat.le_refl _, rfl, rfl, rfl, [], by simp⟩
  simp only at hml hmn
  exact s.fresh m (hml.trans hl) (by omega)
theorem cOpers_spec {C : Cx} {nb n : Nat} {ops : Array Oper} : ∀ (l : List Oper) (ms : List Nat) (sops : List SOper), cOpers C nb ops n l ms = some sops → sops.length = l.length ∧ ∀ (k : Nat) (o : Oper), l[k]? = some o → ∃ so : SOper, sops[k]? = some so ∧ cOper C nb ops n o ((ms[k]?).getD 0) = some so
  | [], ms, sops, h => by
    simp only [cOpers, Option.some.injEq] at h
    subst h
    exact ⟨rfl, by simp⟩
  | o :: l, ms, sops, h => by
    obtain ⟨so, rest, ms', hso, hrest, rfl, hms⟩ : ∃ so rest ms', cOper C nb ops n o ((ms[0]?).getD 0) = some so ∧ cOpers C nb ops n l ms' = some rest ∧ sops = so :: rest ∧ ∀ k, (ms'[k]?).getD 0 = (ms[k + 1]?).getD 0 := by
      cases ms with
      | nil =>
        simp only [cOpers, bind_some] at h
        obtain ⟨so, h1, rest, h2, h3⟩ := h
        cases h3
        exact ⟨so, rest, [], by simpa using h1, h2, rfl, by simp⟩
      | cons m ms =>
        simp only [cOpers, bind_some] at h
        obtain ⟨so, h1, rest, h2, h3⟩ := h
        cases h3
        exact ⟨so, rest, ms, by simpa using h1, h2, rfl, by simp⟩
    obtain ⟨h1, h2⟩ := cOpers_spec l ms' rest hrest
    refine ⟨by simp [h1], fun k o' hk => ?_⟩
    cases k with
    | zero =>
      simp only [List.getElem?_cons_zero, Option.some.injEq] at hk
      subst hk
      exact ⟨so, rfl, hso⟩
    | succ k =>
      obtain ⟨so', h3, h4⟩ := h2 k o' (by simpa using hk)
      rw [hms k] at h4
      exact ⟨so', by simpa using h3, h4⟩
def unl (listed : Array Bool) : Nat := listed.toList.countP (· == false)
theorem unl_set {listed : Array Bool} {i : Nat} (hi : i < listed.size) (hf : listed[i]? = some false) : unl (listed.setIfInBounds i true) + 1 = unl listed := by
  unfold unl
  rw [Array.toList_setIfInBounds]
  have hlen : i < listed.toList.length := by simpa using hi
  have hget : listed.toList[i] = false := by
    have : listed.toList[i]? = some false := by simpa using hf
    rw [List.getElem?_eq_getElem hlen] at this
    simpa using this
  rw [List.countP_set hlen]
  have h0 : (listed.toList[i] == false) = true := by rw [hget]; rfl
  have hpos : 0 < listed.toList.countP (· == false) := List.countP_pos_iff.2 ⟨_, List.getElem_mem hlen, h0⟩
  simp only [hget, beq_self_eq_true, if_true]
  have : (true == false) = false := rfl
  simp only [this, Bool.false_eq_true, if_false]
  omega
theorem ready_mem {ops : Array Oper} {listed : Array Bool} {i : Nat} : i ∈ Region.ready .any ops listed ↔ ∃ o, ops[i]? = some o ∧ listed.getD i true = false ∧ ∀ e ∈ o.after.toList, Region.binds .any e = true → listed.getD e.on false = true := by
  unfold Region.ready
  rw [List.mem_filter, List.mem_range]
  constructor
  · rintro ⟨hlt, h⟩
    simp only [Array.getElem?_eq_getElem hlt, Option.map_some, Option.getD_some, Bool.and_eq_true, Bool.not_eq_true'] at h
    refine ⟨_, Array.getElem?_eq_getElem hlt, h.1, fun e he hb => ?_⟩
    have := Array.all_eq_true_iff_forall_mem.1 h.2 e (Array.mem_toList_iff.1 he)
    simpa [hb] using this
  · rintro ⟨o, ho, h1, h2⟩
    refine ⟨(Array.getElem?_eq_some_iff.1 ho).1, ?_⟩
    simp only [ho, Option.map_some, Option.getD_some, h1, Bool.not_false, Bool.true_and]
    refine Array.all_eq_true_iff_forall_mem.2 fun e he => ?_
    cases hb : Region.binds .any e with
    | false => rfl
    | true => simpa using h2 e (Array.mem_toList_iff.2 he) hb
section
variable {sha : List UInt8 → Nat → UInt8} {E : Env} {P : Program} {C : Cx} {F : Fns} {nb n : Nat} {ops : Array Oper} {sops : List SOper} {σ : Nat → DSt} {t0 : Tm} {h0 : H} {q : Pa}
variable (X : DCtx sha E P C F nb n ops sops σ t0 h0 q) {ρ0 : Ren} {w0 : World} {a0 : Act}
include X
/-- where nothing is ready, all is through -/
theorem DCtx.allDone {listed : Array Bool} (hsz : listed.size = ops.size) (hr : Region.ready .any ops listed = []) : ∀ i, i < ops.size → listed.getD i false = true := by
  intro i
  induction i using Nat.strongRecOn with
  | _ i ih =>
    intro hi
    cases hb : listed.getD i false with
    | true => rfl
    | false =>
      exfalso
      have : i ∈ Region.ready .any ops listed := by
        refine ready_mem.2 ⟨_, Array.getElem?_eq_getElem hi, ?_, fun e he hbn => ?_⟩
        · have hlt : i < listed.size := by omega
          simp only [Array.getD_eq_getD_getElem?, Array.getElem?_eq_getElem hlt, Option.getD_some] at hb ⊢
          exact hb
        · have hlt := topo_spec ops.toList 0 X.topo i _ (by simp [Array.getElem?_eq_getElem hi]) e he hbn
          rw [Nat.zero_add] at hlt
          exact ih e.on hlt (by omega)
      rw [hr] at this
      cases this
theorem DCtx.finish (ht : t0.ok nb) (hn : n ≤ 4 ^ nb) {L : Nat → Bool} {gx : Gen} {ρ : Ren} {a : Act} {w : World} (I : DInv sha E nb n ops σ t0 h0 q ρ0 w0 a0 L gx ρ a w) (hL : ∀ i, i < ops.size → L i = true) {g : Gen} {gr : List Gen} (hg : (σ ops.size).gs = g :: gr) :
    FrR nb ρ (σ ops.size).t a.tmps ∧ hx ops σ L gx = addA g.mask allBits g.h (σ ops.size).as := by
  constructor
  · obtain ⟨tX, h1, h2⟩ := I.tm
    obtain ⟨h3, h4⟩ := X.tOK ht hn ops.size (Nat.le_refl _)
    refine ⟨h3, h1.2.1, fun d hd => ?_⟩
    rw [h4 d hd, ← lastval_congr (X := L) ops.size (fun j hj _ => hL j hj), ← h2 d hd]
    exact h1.2.2 d hd
  · have hgg : g = gx := by
      obtain ⟨ws, h1, h2, h3, h4⟩ := X.gsForm ops.size (Nat.le_refl _)
      rw [h1] at hg
      rcases I.cur with ⟨hc, hno⟩ | ⟨m, hm, hLm, hW, hmax⟩
      · cases ws with
        | nil => simp only [List.nil_append, List.cons.injEq] at hg; rw [hc]; exact hg.1.symm
        | cons g1 ws =>
          obtain ⟨b1, _, c1⟩ := h2 g1 (by simp)
          have := hno g1.i g1 b1 c1
          rw [hL _ b1] at this; cases this
      · cases ws with
        | nil => cases h3 m gx hm hW
        | cons g1 ws =>
          simp only [List.cons_append, List.cons.injEq] at hg
          obtain ⟨rfl, _⟩ := hg
          obtain ⟨b1, _, c1⟩ := h2 g1 (by simp)
          rcases List.mem_cons.1 (h3 m gx hm hW) with h | h
          · exact h.symm
          · have h5 := (List.pairwise_cons.1 h4).1 gx h
            have h6 := hmax g1.i g1 b1 c1 (hL _ b1)
            rw [hW.2] at h5
            omega
    subst hgg
    unfold hx
    rw [addA_eq]
    refine addP_congr _ fun x hx' => ?_
    have hlt := ((X.asOK ops.size (Nat.le_refl _)).2.2.2.1 x hx').1
    have hs := X.small
    rw [hL _ hlt]
    have : allBits.testBit x.1 = true := by
      show (bitsTo 4096).testBit x.1 = true
      rw [bitsTo_bit]
      exact decide_eq_true (by omega)
    rw [this]
theorem DCtx.anyOrder (ht : t0.ok nb) (hn : n ≤ 4 ^ nb) {Q : Exit → Act → World → Prop} (hQ : ∀ L gx ρ a w, DInv sha E nb n ops σ t0 h0 q ρ0 w0 a0 L gx ρ a w → (∀ i, i < ops.size → L i = true) → Q .normal a w) :
    ∀ (fuel : Nat) (listed : Array Bool) (gx : Gen) (ρ : Ren) (a : Act) (w : World), listed.size = ops.size → unl listed ≤ fuel → DInv sha E nb n ops σ t0 h0 q ρ0 w0 a0 (fun i => listed.getD i false) gx ρ a w → wpAny P .any ops Q fuel listed a w := by
  have full : ∀ (listed : Array Bool) (gx : Gen) (ρ : Ren) (a : Act) (w : World), listed.size = ops.size → DInv sha E nb n ops σ t0 h0 q ρ0 w0 a0 (fun i => listed.getD i false) gx ρ a w → Region.ready .any ops listed = [] → Q .normal a w :=
    fun listed gx ρ a w hsz I hr => hQ _ gx ρ a w I (X.allDone hsz hr)
  intro fuel
  induction fuel with
  | zero =>
    intro listed gx ρ a w hsz hu I
    have hr : Region.ready .any ops listed = [] := by
      cases hh : Region.ready .any ops listed with
      | nil => rfl
      | cons i r =>
        exfalso
        obtain ⟨o, ho, h1, _⟩ := ready_mem.1 (show i ∈ Region.ready .any ops listed by rw [hh]; simp)
        have hlt : i < listed.size := by rw [hsz]; exact (Array.getElem?_eq_some_iff.1 ho).1
        have : listed[i]? = some false := by
          simp only [Array.getD_eq_getD_getElem?, Array.getElem?_eq_getElem hlt, Option.getD_some] at h1
          rw [Array.getElem?_eq_getElem hlt, h1]
        have := unl_set hlt this
        omega
    exact ⟨hr, full listed gx ρ a w hsz I hr⟩
  | succ fuel ih =>
    intro listed gx ρ a w hsz hu I
    refine ⟨full listed gx ρ a w hsz I, fun k hkr => ?_⟩
    obtain ⟨o, ho, h1, h2⟩ := ready_mem.1 hkr
    have hlt : k < listed.size := by rw [hsz]; exact (Array.getElem?_eq_some_iff.1 ho).1
    have hke : listed[k]? = some false := by
      simp only [Array.getD_eq_getD_getElem?, Array.getElem?_eq_getElem hlt, Option.getD_some] at h1
      rw [Array.getElem?_eq_getElem hlt, h1]
    have hk : (fun i => listed.getD i false) k = false := by simp [Array.getD_eq_getD_getElem?, hke]
    have hsub : ∀ i, (maskAt ops k).testBit i = true → (fun i => listed.getD i false) i = true := maskAt_sub X.topo ho (X := fun i => (fun i => listed.getD i false) i = true) I.cl h2
    refine X.ready I ht hn ho hk hsub fun gx' ρ' a' w' I' => ?_
    refine ih _ gx' ρ' a' w' (by simpa using hsz) (by have := unl_set hlt hke; omega) ?_
    have he : more (fun i => listed.getD i false) k = fun i => (listed.setIfInBounds k true).getD i false := by
      funext i
      simp only [more, Array.getD_eq_getD_getElem?, Array.getElem?_setIfInBounds]
      by_cases hik : k = i
      · subst hik; simp [hlt]
      · rw [if_neg hik]
        have : (i == k) = false := by simp; omega
        simp [this]
    rw [he] at I'
    exact I'
end
theorem dreg_ok {sha : List UInt8 → Nat → UInt8} {P : Program} {C : Cx} (hC : CxOK C P) (hm : P.follows .mixedOrders = true) : DregOK sha P C := by
  intro E F hF nb n id ops sops t h ρ a w outs Q hc hrun hFr hsz s hp
  simp only [cCode, bind_some, if_true] at hc
  obtain ⟨l, hl, hc⟩ := hc
  split at hc
  · rename_i hcond
    cases hc
    simp only [Bool.and_eq_true, decide_eq_true_eq] at hcond
    obtain ⟨⟨⟨htopo, hapart⟩, hnosel⟩, hsmall⟩ := hcond
    simp only [dreg, R.bind_eq] at hrun
    obtain ⟨q, hq, sN, hN, hend⟩ := hrun
    obtain ⟨σ, hσ0, hσN, hσ⟩ := dpath sops 0 _ sN hN
    obtain ⟨hlen, hso⟩ := cOpers_spec ops.toList _ sops hl
    have hlen' : sops.length = ops.size := by simpa using hlen
    have hgsne : ∀ k, k ≤ sops.length → (σ k).gs ≠ [] := by
      intro k
      induction k with
      | zero => intro _; rw [hσ0]; simp
      | succ k ih =>
        intro hk
        have h1 := ih (by omega)
        have h2 := dstep_cases h1 (hσ k _ (List.getElem?_eq_getElem (by omega)))
        cases h2 with
        | skip hw e => rw [e]; exact h1
        | p f v hw ho hv e => rw [e]; exact h1
        | r f v g gr hw ho hg hv hb e => rw [e]; exact h1
        | a f ov q' hw ho hv hq e => rw [e]; exact h1
        | w vh g gr hw ho hg hc hv hp e => rw [e]; simp
    have X : DCtx sha E P C F nb n ops sops σ t h q := {
      hC := hC, hF := hF, topo := htopo, apart := hapart, small := hsmall, len := hlen', names := hq, init := hσ0
      nosel := fun k o ho cs b he => by
        have := List.all_eq_true.1 hnosel o (by rw [List.mem_iff_getElem?]; exact ⟨k, by simpa using ho⟩)
        simp [noSel, he] at this
      so := fun k o ho => by
        obtain ⟨so, h1, h2⟩ := hso k o (by simpa using ho)
        obtain ⟨h3, h4, h5, h6⟩ := cOper_spec h2
        exact ⟨so, h1, h6, h3, h4, h5⟩
      step := fun k so hk => by
        have hlt := (List.getElem?_eq_some_iff.1 hk).1
        have := hσ k so hk
        rw [Nat.zero_add] at this
        exact dstep_cases (hgsne k (by omega)) this }
    have hn : n ≤ 4 ^ nb := by have := hFr.2.1; rw [hsz] at this; exact this
    obtain ⟨hql, hqn⟩ := skipA_eq sops h.next q hq
    have S1 := Step.drawn s (w.drawn + 1)
    have S2 := S1.trans (Step.pass S1.st hql (by omega))
    have hx0 : hx ops σ (fun i => (Array.replicate ops.size false).getD i false) (gen0 h q) = { objs := h.objs, next := q, hs := h.hs } := by
      unfold hx
      have := addP_extra (p := fun i => (Array.replicate ops.size false).getD i false && !(gen0 h q).mask.testBit i) (h := (gen0 h q).h) (σ ops.size).as [] (fun x _ => by simp [Array.getD_eq_getD_getElem?, Array.getElem?_replicate]; intro hh; split at hh <;> simp at hh)
      rw [List.append_nil] at this
      rw [this]; rfl
    have hrep : ∀ i, (Array.replicate ops.size false).getD i false = false := fun i => by
      simp only [Array.getD_eq_getD_getElem?, Array.getElem?_replicate]; split <;> rfl
    have I0 : DInv sha E nb n ops σ t h q ρ w a (fun i => (Array.replicate ops.size false).getD i false) (gen0 h q) ρ a { w with drawn := w.drawn + 1 } := {
      lt := fun j hj => by rw [hrep] at hj; cases hj
      cl := fun j hj => by rw [hrep] at hj; cases hj
      tm := ⟨t, hFr, fun d hd => by
        rw [lastval_stop (k := 0) ops.size (Nat.zero_le _) (fun j _ _ _ => hrep j)]; rfl⟩
      sz := hsz
      df := rfl
      cur := .inl ⟨rfl, fun m g _ _ => hrep m⟩
      st := by rw [hx0]; exact S2
      nm := fun i nm ob hm _ => by
        obtain ⟨_, h1, h2, _⟩ := (X.asOK ops.size (Nat.le_refl _)).2.2.2.1 _ hm
        exact s.fresh nm h1 h2
      own := fun i nm ob x hm hg => by
        obtain ⟨_, h1, h2, _⟩ := (X.asOK ops.size (Nat.le_refl _)).2.2.2.1 _ hm
        have := s.lt (n := nm) (o := x) hg
        simp only at h2
        omega
      nx := Nat.le_refl _
      ok := S2.st.ok }
    apply wp_region_any hm
    refine X.anyOrder hFr.1 hn (ρ0 := ρ) (w0 := w) (a0 := a) ?_ ops.size _ (gen0 h q) ρ a _ (by simp) ?_ I0
    · intro L gx ρ' a' w' I hL
      obtain ⟨g, gr, hg⟩ : ∃ g gr, (σ ops.size).gs = g :: gr := by
        cases hh : (σ ops.size).gs with
        | nil => exact absurd hh (hgsne _ (by omega))
        | cons g gr => exact ⟨g, gr, rfl⟩
      obtain ⟨h1, h2⟩ := X.finish hFr.1 hn I hL hg
      have hst := I.st
      rw [h2] at hst
      rw [hlen'] at hσN
      unfold dend at hend
      rw [← hσN, hg] at hend
      cases hend
      exact hp _ (List.mem_singleton.2 rfl) ρ' a' w' h1 (I.sz.trans hsz.symm) I.df hst
    · unfold unl
      refine Nat.le_trans List.countP_le_length ?_
      simp
  · cases hc
end Go.SE
namespace Go.SE
/-! # The types' table, checked -/
def CR.wfB {α : Type} : CR α → Bool
  | .nil => true
  | .one _ => true
  | .nd t n l r => l.wfB && r.wfB && Nat.beq n l.toL.length && Nat.beq t (l.toL.length + r.toL.length)
theorem CR.wfB_ok {α : Type} : ∀ {c : CR α}, c.wfB = true → c.wf
  | .nil, _ => trivial
  | .one _, _ => trivial
  | .nd t n l r, h => by
    simp only [CR.wfB, Bool.and_eq_true] at h
    exact ⟨CR.wfB_ok h.1.1.1, CR.wfB_ok h.1.1.2, beqT h.1.2, beqT h.2⟩
def vr1 : V → Value → Bool
  | .b x, .bool y => x == y
  | .i k (.lit n), .int k' m => keq k k' && decide (n = m)
  | .s [], .string ⟨⟨[]⟩⟩ => true
  | .np, .pointer none => true
  | .ns, .slice none 0 0 => true
  | .nm, .map none => true
  | .nf, .nilFunc => true
  | .ni, .nilIface => true
  | _, _ => false
def vrL : List V → List Value → Bool
  | [], [] => true
  | v :: l, u :: us => vr1 v u && vrL l us
  | _, _ => false
def vrC : V → Value → Bool
  | .ag c, .agg us => c.wfB && vrL c.toL us.toList
  | v, u => vr1 v u
theorem vr1_ok {v : V} {u : Value} (h : vr1 v u = true) (ρ : Ren) : VR ρ v u := by
  unfold vr1 at h
  split at h
  · simp only [beq_iff_eq] at h; rw [h]; rfl
  · simp only [Bool.and_eq_true, decide_eq_true_eq] at h
    exact ⟨_, rfl, by rw [h.2, keq_iff.1 h.1]⟩
  · exact ⟨[], trivial, rfl⟩
  all_goals first
    | rfl
    | cases h
theorem vrL_ok : ∀ {l : List V} {us : List Value}, vrL l us = true → ∀ ρ, LR ρ l us
  | [], [], _, _ => rfl
  | v :: l, u :: us, h, ρ => by
    simp only [vrL, Bool.and_eq_true] at h
    exact ⟨u, us, vr1_ok h.1 ρ, vrL_ok h.2 ρ, rfl⟩
  | [], _ :: _, h, _ => by cases h
  | _ :: _, [], h, _ => by cases h
theorem vrC_ok {v : V} {u : Value} (h : vrC v u = true) (ρ : Ren) : VR ρ v u := by
  unfold vrC at h
  split at h
  · rename_i c us
    simp only [Bool.and_eq_true] at h
    exact ⟨us.toList, CRR_iff.2 ⟨CR.wfB_ok h.1, vrL_ok h.2 ρ⟩, rfl⟩
  · exact vr1_ok h ρ
def drC : D → TypeDesc → Bool
  | .bool, .bool => true
  | .int k, .int k' => keq k k'
  | .string, .string => true
  | .ptr e, .pointer e' => Nat.beq e e'
  | .slice e, .slice e' => Nat.beq e e'
  | .arr n e, .array n' e' => Nat.beq n n' && Nat.beq e e'
  | .map k v, .map k' v' => Nat.beq k k' && Nat.beq v v'
  | .struct fs, .struct fields => fs == fields.toList.map fun f => (f.type, f.offset)
  | .func, .func .. => true
  | .tup, .tuple _ => true
  | .other, .struct _ => false
  | .other, .array .. => false
  | .other, _ => true
  | _, _ => false
theorem drC_ok {P : Program} {t : Nat} {d : D} {u : TypeDesc} (hu : P.underlying t = some u) (h : drC d u = true) : DR P t d := by
  cases d with
  | bool => cases u <;> first | exact hu | cases h
  | string => cases u <;> first | exact hu | cases h
  | int k => cases u <;> first | (rw [keq_iff.1 h]; exact hu) | cases h
  | ptr e => cases u <;> first | (rw [beqT h]; exact hu) | cases h
  | slice e => cases u <;> first | (rw [beqT h]; exact hu) | cases h
  | arr n e => cases u <;> first | (simp only [drC, Bool.and_eq_true] at h; rw [beqT h.1, beqT h.2]; exact hu) | cases h
  | map n e => cases u <;> first | (simp only [drC, Bool.and_eq_true] at h; rw [beqT h.1, beqT h.2]; exact hu) | cases h
  | struct fs => cases u <;> first | exact ⟨_, hu, beq_iff_eq.1 h⟩ | cases h
  | func => cases u <;> first | exact ⟨_, _, _, hu⟩ | cases h
  | tup => cases u <;> first | exact ⟨_, hu⟩ | cases h
  | other => cases u <;> first | exact ⟨_, hu, fun _ hh => TypeDesc.noConfusion hh, fun _ _ hh => TypeDesc.noConfusion hh⟩ | cases h
def ckB : CK → CK → Bool
  | .b, .b => true
  | .i k, .i k' => keq k k'
  | .s, .s => true
  | _, _ => false
def ckL : List CK → List CK → Bool
  | [], [] => true
  | a :: l, c :: m => ckB a c && ckL l m
  | _, _ => false
theorem ckL_ok : ∀ {l m : List CK}, ckL l m = true → l = m
  | [], [], _ => rfl
  | a :: l, c :: m, h => by
    simp only [ckL, Bool.and_eq_true] at h
    rw [ckL_ok h.2]
    congr 1
    have h1 := h.1
    unfold ckB at h1
    split at h1
    · rfl
    · rw [keq_iff.1 h1]
    · rfl
    · cases h1
  | [], _ :: _, h => by cases h
  | _ :: _, [], h => by cases h
def eqC (P : Program) (t : Nat) : Option (CR CK) → Bool
  | none => true
  | some K => K.wfB && (match kindsL P 8 t with | some l => ckL l K.toL | none => false) && (aggT P t == !isOne K)
def zeroC : Option V → Option Value → Bool
  | none, _ => true
  | some z, some zu => vrC z zu
  | some _, none => false
def tiCheck (P : Program) (t : Nat) (ti : TI) : Bool :=
  match P.info? t, P.underlying t with
  | some i, some u => Nat.beq i.size ti.size && Nat.beq i.bytes ti.bytes && zeroC ti.zero i.zero && drC ti.d u && eqC P t ti.eq
  | _, _ => false
theorem tiCheck_ok {P : Program} (hdep : 8 ≤ P.depth) {t : Nat} {ti : TI} (h : tiCheck P t ti = true) : TIok P t ti := by
  unfold tiCheck at h
  split at h
  · rename_i i u hi hu
    simp only [Bool.and_eq_true] at h
    obtain ⟨⟨⟨⟨h1, h2⟩, h3⟩, h4⟩, h5⟩ := h
    refine ⟨⟨i, hi, beqT h1, beqT h2, fun z hz => ?_⟩, drC_ok hu h4, fun K hK => ?_⟩
    · rw [hz] at h3
      unfold zeroC at h3
      cases hzu : i.zero with
      | none => rw [hzu] at h3; cases h3
      | some zu => rw [hzu] at h3; exact ⟨zu, rfl, fun ρ => vrC_ok h3 ρ⟩
    · rw [hK] at h5
      simp only [eqC, Bool.and_eq_true, beq_iff_eq] at h5
      obtain ⟨⟨e1, e2⟩, e3⟩ := h5
      cases hk : kindsL P 8 t with
      | none => rw [hk] at e2; cases e2
      | some l =>
        rw [hk] at e2
        exact eqOK (d := 8) (by omega) hdep (CR.wfB_ok e1) (by rw [hk, ckL_ok e2]) e3
  · cases h
def tisCheck (P : Program) : List (Nat × TI) → Bool
  | [] => true
  | (t, ti) :: r => tiCheck P t ti && tisCheck P r
theorem tisCheck_ok {P : Program} (hdep : 8 ≤ P.depth) : ∀ {l : List (Nat × TI)}, tisCheck P l = true → ∀ t ti, (t, ti) ∈ l → TIok P t ti
  | [], _, _, _, h => by cases h
  | (t', ti') :: r, hc, t, ti, h => by
    simp only [tisCheck, Bool.and_eq_true] at hc
    rcases List.mem_cons.1 h with h | h
    · cases h; exact tiCheck_ok hdep hc.1
    · exact tisCheck_ok hdep hc.2 t ti h
end Go.SE
namespace Go.SE
/-! # Tables that hold -/
def Bt.allB {α : Type} : (Nat → α → Bool) → Bt α → Bool
  | _, .e => true
  | p, .l a => p 0 a
  | p, .n x0 x1 x2 x3 => Bt.allB (fun k => p (4 * k)) x0 && Bt.allB (fun k => p (4 * k + 1)) x1 && Bt.allB (fun k => p (4 * k + 2)) x2 && Bt.allB (fun k => p (4 * k + 3)) x3
theorem Bt.allB_ok {α : Type} : ∀ {t : Bt α} {p : Nat → α → Bool}, Bt.allB p t = true → ∀ (q : Pa) a, Bt.get q t = some a → p q.toNat a = true
  | .e, p, h, q, a, hg => by rw [Bt.get_e] at hg; cases hg
  | .l b, p, h, q, a, hg => by
    cases q with
    | z => cases hg; exact h
    | _ => cases hg
  | .n x0 x1 x2 x3, p, h, q, a, hg => by
    simp only [Bt.allB, Bool.and_eq_true, and_assoc] at h
    obtain ⟨h0, h1, h2, h3⟩ := h
    cases q with
    | z => cases hg
    | q0 q => exact Bt.allB_ok h0 q a hg
    | q1 q => exact Bt.allB_ok h1 q a hg
    | q2 q => exact Bt.allB_ok h2 q a hg
    | q3 q => exact Bt.allB_ok h3 q a hg
def Bt.allP {α : Type} : (Nat → α → Prop) → Bt α → Prop
  | _, .e => True
  | p, .l a => p 0 a
  | p, .n x0 x1 x2 x3 => Bt.allP (fun k => p (4 * k)) x0 ∧ Bt.allP (fun k => p (4 * k + 1)) x1 ∧ Bt.allP (fun k => p (4 * k + 2)) x2 ∧ Bt.allP (fun k => p (4 * k + 3)) x3
theorem Bt.allP_ok {α : Type} : ∀ {t : Bt α} {p : Nat → α → Prop}, Bt.allP p t → ∀ (q : Pa) a, Bt.get q t = some a → p q.toNat a
  | .e, p, h, q, a, hg => by rw [Bt.get_e] at hg; cases hg
  | .l b, p, h, q, a, hg => by
    cases q with
    | z => cases hg; exact h
    | _ => cases hg
  | .n x0 x1 x2 x3, p, h, q, a, hg => by
    obtain ⟨h0, h1, h2, h3⟩ := h
    cases q with
    | z => cases hg
    | q0 q => exact Bt.allP_ok h0 q a hg
    | q1 q => exact Bt.allP_ok h1 q a hg
    | q2 q => exact Bt.allP_ok h2 q a hg
    | q3 q => exact Bt.allP_ok h3 q a hg
noncomputable def tabAt {α : Type} (t : Bt α) (nb lim : Nat) (n : Nat) : Option α := bite (Nat.blt n lim) (Bt.get (Pa.ofNat nb n) t) none
theorem tabAt_ok {α : Type} {t : Bt α} {nb lim n : Nat} (hl : lim ≤ 4 ^ nb) {a : α} (h : tabAt t nb lim n = some a) : Bt.get (Pa.ofNat nb n) t = some a ∧ (Pa.ofNat nb n).toNat = n := by
  unfold tabAt at h
  rw [bite_eq] at h
  split at h
  · rename_i hlt
    exact ⟨h, (Pa.ofNat_spec nb n (Nat.lt_of_lt_of_le (bltT hlt) hl)).2⟩
  · cases h
noncomputable def cxOf (t : Bt TI) : Cx := ⟨fun n => tabAt t 5 1024 n⟩
theorem cxOf_ok {P : Program} (hdep : Nat.ble 8 P.depth = true) {t : Bt TI} (h : Bt.allB (fun n ti => tiCheck P n ti) t = true) : CxOK (cxOf t) P := by
  intro n ti hn
  obtain ⟨h1, h2⟩ := tabAt_ok (by decide) hn
  have := Bt.allB_ok h _ _ h1
  rw [h2] at this
  exact tiCheck_ok (Nat.le_of_ble_eq_true hdep) this
def FnOK (P : Program) (C : Cx) (n : Nat) (r : SFn) : Prop := ∃ fn, P.funcs[n]? = some fn ∧ cFunc C fn = some r ∧ (fn.name == "runtime.NumGoroutine") = false
theorem FnOK.mk {P : Program} {C : Cx} {n : Nat} {r : SFn} {fn : Func} (h1 : P.funcs[n]? = some fn) (h2 : cFunc C fn = some r) (h3 : (fn.name == "runtime.NumGoroutine") = false) : FnOK P C n r := ⟨fn, h1, h2, h3⟩
noncomputable def prgOf (t : Bt SFn) (sums : Nat → Option Sum) : Prg := ⟨fun f => R.of "fn" (tabAt t 5 1024 f), sums⟩
def SumOK (sha : List UInt8 → Nat → UInt8) (E : Env) (P : Program) (f : Nat) (s : Sum) : Prop :=
  ∀ (args : List V) (h : H) (outs : List (V × H)), s args h = .ok outs → ∀ (ρ : Ren) (us : List Value) (w : World), LR ρ args us → St sha E ρ h w →
    Enters P f ∧ Calls P f us.toArray w fun e w' => ∃ vh ∈ outs, ∃ ρ' u, e = .returned u ∧ VR ρ' vh.1 u ∧ Step sha E ρ h w ρ' vh.2 w'
theorem prgOf_ok {sha : List UInt8 → Nat → UInt8} {E : Env} {P : Program} {C : Cx} {t : Bt SFn} {sums : Nat → Option Sum} (h : Bt.allP (fun n r => FnOK P C n r) t) (hs : ∀ f s, sums f = some s → SumOK sha E P f s) : PrgOK sha E P C (prgOf t sums) where
  fn f sf _ hf := by
    simp only [prgOf, R.of_eq] at hf
    obtain ⟨h1, h2⟩ := tabAt_ok (by decide) hf
    have := Bt.allP_ok h _ _ h1
    rw [h2] at this
    exact this
  sum f s hf := hs f s hf
end Go.SE
namespace Go.SE
variable {sha : List UInt8 → Nat → UInt8}
/-! # Calls whose answer hangs on no memory -/
def plain1 : V → Bool
  | .b _ => true
  | .i _ (.lit _) => true
  | _ => false
theorem plain1_VR {v : V} (h : plain1 v = true) {ρ ρ' : Ren} {u : Value} (hv : VR ρ v u) : VR ρ' v u := by
  cases v with
  | b x => exact hv
  | i k e => cases e with
    | lit n => exact hv
    | lin x c => cases h
    | hb x c => cases h
  | _ => cases h
theorem plainL_LR {ρ ρ' : Ren} : ∀ {l : List V} {us : List Value}, l.all plain1 = true → LR ρ l us → LR ρ' l us
  | [], _, _, h => h
  | v :: l, _, hp, h => by
    simp only [List.all_cons, Bool.and_eq_true] at hp
    obtain ⟨u, us, h1, h2, rfl⟩ := h
    exact ⟨u, us, plain1_VR hp.1 h1, plainL_LR hp.2 h2, rfl⟩
def plainV : V → Bool
  | .b _ => true
  | .i _ (.lit _) => true
  | .np => true
  | .ns => true
  | .nm => true
  | .nf => true
  | .ni => true
  | .ag c => c.toL.all plain1
  | _ => false
theorem plainV_VR {v : V} (h : plainV v = true) {ρ ρ' : Ren} {u : Value} (hv : VR ρ v u) : VR ρ' v u := by
  cases v with
  | i k e => cases e with
    | lit n => exact hv
    | lin x c => cases h
    | hb x c => cases h
  | ag c =>
    obtain ⟨us, h1, h2⟩ := hv
    have := CRR_iff.1 h1
    exact ⟨us, CRR_iff.2 ⟨this.1, plainL_LR h this.2⟩, h2⟩
  | b x => exact hv
  | np => exact hv
  | ns => exact hv
  | nm => exact hv
  | nf => exact hv
  | ni => exact hv
  | _ => cases h
theorem plainVL_LR {ρ ρ' : Ren} : ∀ {l : List V} {us : List Value}, l.all plainV = true → LR ρ l us → LR ρ' l us
  | [], _, _, h => h
  | v :: l, _, hp, h => by
    simp only [List.all_cons, Bool.and_eq_true] at hp
    obtain ⟨u, us, h1, h2, rfl⟩ := h
    exact ⟨u, us, plainV_VR hp.1 h1, plainVL_LR hp.2 h2, rfl⟩
/-- as values, however they are cut into pieces -/
noncomputable def sameW : V → V → Bool
  | .ag x, .ag y => bite (Nat.beq x.len y.len) (sameL x.toL y.toL) false
  | x, y => x.same y
noncomputable def sameWL : List V → List V → Bool
  | [], [] => true
  | a :: l, c :: m => bite (sameW a c) (sameWL l m) false
  | _, _ => false
theorem sameW_VR {a c : V} (h : sameW a c = true) (hw : ∀ x, c = .ag x → x.wfB = true) {ρ : Ren} {u : Value} (hv : VR ρ a u) : VR ρ c u := by
  unfold sameW at h
  split at h
  · rename_i x y
    rw [bite_eq] at h
    split at h
    · obtain ⟨us, h1, h2⟩ := hv
      have := CRR_iff.1 h1
      exact ⟨us, CRR_iff.2 ⟨CR.wfB_ok (hw _ rfl), by rw [← sameL_eq h]; exact this.2⟩, h2⟩
    · cases h
  · rw [← V.same_eq h]; exact hv
def wfV : V → Bool | .ag x => x.wfB | _ => true
theorem sameWL_LR {ρ : Ren} : ∀ {l m : List V} {us : List Value}, sameWL l m = true → m.all wfV = true → LR ρ l us → LR ρ m us
  | [], [], _, _, _, h => h
  | a :: l, c :: m, _, hs, hw, h => by
    simp only [sameWL, bite_eq] at hs
    split at hs
    · rename_i h1
      simp only [List.all_cons, Bool.and_eq_true] at hw
      obtain ⟨u, us, h2, h3, rfl⟩ := h
      exact ⟨u, us, sameW_VR h1 (fun x hx => by subst hx; exact hw.1) h2, sameWL_LR hs hw.2 h3, rfl⟩
    · cases hs
  | [], _ :: _, _, h, _, _ => by cases h
  | _ :: _, [], _, h, _, _ => by cases h
noncomputable def memo (args vs : List V) : Sum := fun args' h => bite (sameWL args' args) (.ok (vs.map fun v => (v, h))) (.err "memo")
def envZero (byt : List Nat) : Env := ⟨fun _ => 0, fun _ => 0, fun _ _ _ => none, fun _ _ => none, fun _ _ _ _ => none, byt⟩
def heapZero (nb : Nat) : H := ⟨.e, Pa.ofNat nb 0, []⟩
theorem heapZero_get (nb : Nat) (n : Pa) : (heapZero nb).get n = none := by
  unfold heapZero H.get
  rw [Bt.get_e]
def renZero (byt : List Nat) : Ren := ⟨fun _ => none, fun _ => none, fun _ => none, fun _ => 0, byt⟩
theorem envZero_ok (byt : List Nat) : EnvOK (envZero byt) (renZero byt) where
  lo _ := Int.le_refl _
  hi _ := Int.le_refl _
  rem _ _ _ _ h := by cases h
  wi _ _ _ h := by cases h
  nm _ _ _ _ _ _ _ h := by cases h
  byt := rfl
theorem st_zero {E : Env} {ρ : Ren} (hE : EnvOK E ρ) (hβ : ∀ n, ρ.β n = none) (hm : ∀ n, ρ.mv n = none) (hh : ∀ n, ρ.hv n = none) (nb : Nat) (w : World) : St sha E ρ (heapZero nb) w where
  ok := by cases h : (heapZero nb).next.len <;> trivial
  objs n o h := by rw [heapZero_get] at h; cases h
  inj n m o o' B B' h := by rw [heapZero_get] at h; cases h
  fresh n _ _ := ⟨hβ n, hm n⟩
  hash j l h := by simp [heapZero] at h
  hfresh j _ := hh j
  env := hE
theorem memo_ok {E : Env} {P : Program} {byt : List Nat} (hb : E.byt = byt) {F : Fns} (hF : CallsOK sha (envZero byt) P F) {f nb : Nat} {args vs : List V} (hpa : args.all plainV = true) (hwf : args.all wfV = true)
    (hrun : ∃ outs, F.call f args (heapZero nb) = .ok outs ∧ ∀ o ∈ outs, ∃ v ∈ vs, plainV v = true ∧ wfV v = true ∧ sameW o.1 v = true) : SumOK sha E P f (memo args vs) := by
  intro args' h outs' hs ρ us w hl st
  unfold memo at hs
  rw [bite_eq] at hs
  split at hs
  · rename_i hsame
    cases hs
    have hl := sameWL_LR hsame hwf hl
    obtain ⟨outs, hr, hp⟩ := hrun
    have hst : St sha (envZero byt) (renZero byt) (heapZero nb) w := st_zero (envZero_ok byt) (fun _ => rfl) (fun _ => rfl) (fun _ => rfl) nb w
    obtain ⟨h1, h2⟩ := hF f args (heapZero nb) outs hr (renZero byt) us w (plainVL_LR hpa hl) hst
    refine ⟨h1, h2.mono fun e w' he => ?_⟩
    obtain ⟨vh, hm, ρ', u, he, hv, hstep⟩ := he
    obtain ⟨v, hmem, hpl, hwv, hsv⟩ := hp vh hm
    have hv := sameW_VR hsv (fun x hx => by subst hx; exact hwv) hv
    have hk : ∀ b, b < w.heap.size → w'.heap[b]? = w.heap[b]? := fun b hb => hstep.keep b hb fun n o B hg => by rw [heapZero_get] at hg; cases hg
    refine ⟨(v, h), List.mem_map.2 ⟨v, hmem, rfl⟩, ρ, u, he, plainV_VR hpl hv, ?_⟩
    exact Step.world st (fun n o B hg hB ho => ho.congr (hk _ ho.lt)) (fun b hb _ => hk b hb) hstep.hsz hstep.os hstep.tape hstep.out
  · cases hs
end Go.SE
namespace Go.SE
open Go
variable {sha : List UInt8 → Nat → UInt8}
/-! # Summaries out of contracts -/
/-- what lay there lies there still -/
structure Kept (w w' : World) : Prop where
  same : ∀ b, b < w.heap.size → w'.heap[b]? = w.heap[b]?
  size : w.heap.size ≤ w'.heap.size
  os : w'.os = w.os
  tape : w'.tape = w.tape
  out : w'.output = w.output
theorem Kept.refl (w : World) : Kept w w := ⟨fun _ _ => rfl, Nat.le_refl _, rfl, rfl, rfl⟩
theorem Kept.trans {a b c : World} (h : Kept a b) (k : Kept b c) : Kept a c :=
  ⟨fun i hi => (k.same i (Nat.lt_of_lt_of_le hi h.size)).trans (h.same i hi), Nat.le_trans h.size k.size, k.os.trans h.os, k.tape.trans h.tape, k.out.trans h.out⟩
theorem Kept.alloc (w : World) (o : Obj) : Kept w (w.alloc o) :=
  ⟨fun i hi => heap_alloc_old w o hi, by simp, rfl, rfl, rfl⟩
theorem Kept.put {w w' : World} (h : Kept w w') {r : Nat} (o : Obj) (hr : w.heap.size ≤ r) : Kept w (w'.putObj r o) :=
  ⟨fun i hi => by rw [World.putObj_heap_other (by omega)]; exact h.same i hi, by have := h.size; simpa [World.putObj] using this, h.os, h.tape, h.out⟩
theorem Kept.cell {w w' : World} (h : Kept w w') {a : Addr} {v : Value} (hc : w.cell? a = some v) : w'.cell? a = some v := by
  have : a.block < w.heap.size := by
    rcases Nat.lt_or_ge a.block w.heap.size with hl | hl
    · exact hl
    · have : w.heap[a.block]? = none := Array.getElem?_eq_none hl
      simp [World.cell?, this] at hc
  rw [← hc]
  exact World.cell?_of_block (h.same _ this)
theorem Kept.step {E : Env} {ρ : Ren} {h : H} {w w' : World} (k : Kept w w') (s : St sha E ρ h w) : Step sha E ρ h w ρ h w' :=
  Step.world s (fun n o B hg hB ho => ho.congr (k.same _ ho.lt)) (fun b hb _ => k.same b hb) k.size k.os k.tape k.out
/-- a contract that leaves memory alone -/
theorem sum_of {E : Env} {P : Program} {f : Nat} {s : Sum} (he : Enters P f)
    (h : ∀ (args : List V) (h : H) (outs : List (V × H)), s args h = .ok outs → ∀ (ρ : Ren) (us : List Value) (w : World), LR ρ args us → St sha E ρ h w →
      Calls P f us.toArray w fun e w' => Kept w w' ∧ ∃ v u, (v, h) ∈ outs ∧ e = .returned u ∧ VR ρ v u) : SumOK sha E P f s := by
  intro args hh outs hs ρ us w hl st
  refine ⟨he, (h args hh outs hs ρ us w hl st).mono fun e w' hk => ?_⟩
  obtain ⟨k, v, u, hm, he, hv⟩ := hk
  exact ⟨(v, hh), hm, ρ, u, he, hv, k.step st⟩
/-! ## Numbers within so many -/
noncomputable def withinS (E : Env) : Sum := fun args h => match args with
  | [.i .i64 (.lin v (.ofNat 0)), .i .i64 (.lit n)] => bite (ile 1 n && ile n 1000) (match E.wi v n with | some r => .ok [(.i .i64 (.lit r), h)] | none => .err "within") (.err "within")
  | [.i .i64 (.lit a), .i .i64 (.lit n)] => bite (ile 1 n && ile n 1000) (.ok [(.i .i64 (.lit (within a n)), h)]) (.err "within")
  | _ => .err "within"
theorem within_ok {E : Env} {P : Program} {f : Nat} (he : Enters P f)
    (hc : ∀ (a n : Int) (w : World), 1 ≤ n → n ≤ 1000 → Calls P f #[.int .i64 a, .int .i64 n] w fun e w' => e = .returned (.int .i64 (within a n)) ∧ w' = w) : SumOK sha E P f (withinS E) := by
  refine sum_of he fun args h outs hs ρ us w hl st => ?_
  unfold withinS at hs
  split at hs
  · rename_i v n
    obtain ⟨u, us, ⟨a, ha, rfl⟩, ⟨u2, us2, ⟨b, hb, rfl⟩, h3, rfl⟩, rfl⟩ := hl
    rw [show us2 = [] from h3]
    rw [bite_eq] at hs
    split at hs
    · rename_i hn
      simp only [Bool.and_eq_true, ile_iff, decide_eq_true_eq] at hn
      simp only [IE.dn, Option.some.injEq] at ha hb
      subst hb
      split at hs
      · rename_i r hr
        cases hs
        have hx := st.env.wi _ _ _ hr
        refine (hc a n w hn.1 hn.2).mono fun e w' hk => ?_
        obtain ⟨rfl, rfl⟩ := hk
        refine ⟨Kept.refl _, _, _, List.mem_singleton.2 rfl, rfl, r, rfl, ?_⟩
        have : a = ρ.x v := by have := ha; simp at this; omega
        rw [this, hx]
      · cases hs
    · cases hs
  · rename_i a n
    obtain ⟨u, us, ⟨a', ha, rfl⟩, ⟨u2, us2, ⟨b, hb, rfl⟩, h3, rfl⟩, rfl⟩ := hl
    rw [show us2 = [] from h3]
    rw [bite_eq] at hs
    split at hs
    · rename_i hn
      simp only [Bool.and_eq_true, ile_iff, decide_eq_true_eq] at hn
      simp only [IE.dn, Option.some.injEq] at ha hb
      subst ha hb
      cases hs
      refine (hc a n w hn.1 hn.2).mono fun e w' hk => ?_
      obtain ⟨rfl, rfl⟩ := hk
      exact ⟨Kept.refl _, _, _, List.mem_singleton.2 rfl, rfl, _, rfl, rfl⟩
    · cases hs
  · cases hs
/-! ## Iterators that have nothing -/
noncomputable def apNone (g : Nat) : Sum := fun args h => match args with
  | [.ns, .f g' [.p b (.zero)]] => bite (Nat.beq g' g) (match h.cells b with
    | some c => (match CR.get c 0 with
      | some (.m r) => (match h.get r with
        | some (.map [] _) => .ok [(.ns, h)]
        | _ => .err "collect")
      | _ => .err "collect")
    | none => .err "collect") (.err "collect")
  | _ => .err "collect"
theorem apNone_ok {E : Env} {P : Program} {f g : Nat} (he : Enters P f)
    (hc : ∀ (B M clock : Nat) (w : World), w.cell? ⟨B, 0, none⟩ = some (.map (some M)) → w.heap[M]? = some (.map #[] clock) →
      Calls P f #[.slice none 0 0, .func (.func g) #[] #[.pointer (some ⟨B, 0, none⟩)]] w fun e w' => e = .returned (.slice none 0 0) ∧ Kept w w') : SumOK sha E P f (apNone g) := by
  refine sum_of he fun args h outs hs ρ us w hl st => ?_
  unfold apNone at hs
  split at hs
  · rename_i g' b
    obtain ⟨u, us, h1, ⟨u2, us2, ⟨cs, h2, rfl⟩, h3, rfl⟩, rfl⟩ := hl
    rw [show us2 = [] from h3, show u = .slice none 0 0 from h1]
    obtain ⟨p, cs', ⟨B, hB, rfl⟩, h4, rfl⟩ := h2
    rw [show cs' = [] from h4]
    rw [bite_eq] at hs
    split at hs
    · rename_i hg
      rw [beqT hg]
      split at hs
      · rename_i c hcs
        split at hs
        · rename_i r hr
          split at hs
          · rename_i ver hm
            cases hs
            obtain ⟨u, q2, q3⟩ := cell_at st hB hcs hr
            obtain ⟨Bm, hBm, rfl⟩ := q3
            obtain ⟨Bm', hBm', ce, clock, hce, hmv, hmr⟩ := st.objs _ _ hm
            rw [hBm] at hBm'
            cases hBm'
            have hempty : ce = #[] := by
              obtain ⟨ps, hps, hperm⟩ := hmr.ps
              rw [show ps = [] from hps] at hperm
              have := hperm.length_eq
              have h0 : ce.size = 0 := by simpa [pairs] using this.symm
              exact Array.eq_empty_of_size_eq_zero h0
            subst hempty
            refine (hc B.k Bm.k clock w q2 hce).mono fun e w' hk => ?_
            obtain ⟨rfl, hk⟩ := hk
            exact ⟨hk, _, _, List.mem_singleton.2 rfl, rfl, rfl⟩
          · cases hs
        · cases hs
      · cases hs
    · cases hs
  · cases hs
end Go.SE
namespace Go.SE
open Go
variable {sha : List UInt8 → Nat → UInt8}
/-! # What a run tells -/
def okTrue (r : R (List (V × H))) : Bool := match r with
  | .ok l => l.all fun o => isB true o.1
  | .err _ => false
theorem isB_true {v : V} (h : isB true v = true) : v = .b true := by
  cases v <;> simp_all [isB]
theorem okTrue_spec {r : R (List (V × H))} (h : okTrue r = true) : ∃ outs, r = .ok outs ∧ ∀ o ∈ outs, o.1 = .b true := by
  cases r with
  | ok l =>
    refine ⟨l, rfl, fun o ho => isB_true ?_⟩
    exact List.all_eq_true.1 h o ho
  | err s => cases h
/-- a call whose run says 'true' at a start that has no memory of its own -/
theorem calls_true {E : Env} {P : Program} {F : Fns} (hF : CallsOK sha E P F) {f nb : Nat} {args : List V} (hrun : okTrue (F.call f args (heapZero nb)) = true) {ρ : Ren} (hE : EnvOK E ρ)
    (hβ : ∀ n, ρ.β n = none) (hm : ∀ n, ρ.mv n = none) (hh : ∀ n, ρ.hv n = none) {us : List Value} (hl : LR ρ args us) (w : World) :
    Calls P f us.toArray w fun e w' => e = .returned (.bool true) ∧ Kept w w' := by
  obtain ⟨outs, h1, h2⟩ := okTrue_spec hrun
  obtain ⟨_, h3⟩ := hF f args (heapZero nb) outs h1 ρ us w hl (st_zero hE hβ hm hh nb w)
  refine h3.mono fun e w' he => ?_
  obtain ⟨vh, hm, ρ', u, rfl, hv, st⟩ := he
  rw [h2 vh hm] at hv
  rw [show u = .bool true from hv]
  exact ⟨rfl, ⟨fun b hb => st.keep b hb fun n o B hg => (by rw [heapZero_get] at hg; cases hg), st.hsz, st.os, st.tape, st.out⟩⟩
theorem memo_true {E : Env} {P : Program} {byt : List Nat} (hb : E.byt = byt) {F : Fns} (hF : CallsOK sha (envZero byt) P F) {f nb : Nat} {args : List V} (hpa : args.all plainV = true) (hwf : args.all wfV = true)
    (hrun : okTrue (F.call f args (heapZero nb)) = true) : SumOK sha E P f (memo args [.b true]) := by
  refine memo_ok hb hF hpa hwf ?_ (nb := nb)
  obtain ⟨outs, h1, h2⟩ := okTrue_spec hrun
  exact ⟨outs, h1, fun o ho => ⟨.b true, List.mem_singleton.2 rfl, rfl, rfl, by rw [h2 o ho]; rfl⟩⟩
/-- one outcome, as told -/
noncomputable def okIs (v : V) (r : R (List (V × H))) : Bool := match r with
  | .ok l => l.all fun o => sameW o.1 v
  | .err _ => false
theorem memo_is {E : Env} {P : Program} {byt : List Nat} (hb : E.byt = byt) {F : Fns} (hF : CallsOK sha (envZero byt) P F) {f nb : Nat} {args : List V} {v : V} (hpa : args.all plainV = true) (hwf : args.all wfV = true) (hpv : plainV v = true) (hwv : wfV v = true)
    (hrun : okIs v (F.call f args (heapZero nb)) = true) : SumOK sha E P f (memo args [v]) := by
  refine memo_ok hb hF hpa hwf ?_ (nb := nb)
  cases hr : F.call f args (heapZero nb) with
  | ok l =>
    rw [hr] at hrun
    exact ⟨l, rfl, fun o ho => ⟨v, List.mem_singleton.2 rfl, hpv, hwv, List.all_eq_true.1 hrun o ho⟩⟩
  | err s => rw [hr] at hrun; cases hrun
def renVars (byt : List Nat) (x : Nat → Int) : Ren := ⟨fun _ => none, fun _ => none, fun _ => none, x, byt⟩
end Go.SE
namespace Go.SE
open Go
variable {sha : List UInt8 → Nat → UInt8}
/-! # A copy of a map -/
theorem mapsClone_ok {E : Env} {P : Program} {f : Nat} (he : Enters P f)
    (hc : ∀ (b clock : Nat) (es : Array MapEntry) (w : World), w.heap[b]? = some (.map es clock) → Calls P f #[.map (some b)] w fun e w' => e = .returned (.map (some w.heap.size)) ∧ w' = w.alloc (.map es clock))
    (hn : ∀ w : World, Calls P f #[.map none] w fun e w' => e = .returned (.map none) ∧ w' = w) : SumOK sha E P f mapsClone := by
  intro args h outs hs ρ us w hl st
  unfold mapsClone at hs
  split at hs
  · cases hs
    obtain ⟨u, us, h1, h2, rfl⟩ := hl
    rw [show us = [] from h2, show u = .map none from h1]
    refine ⟨he, (hn w).mono fun e w' hk => ?_⟩
    obtain ⟨rfl, rfl⟩ := hk
    exact ⟨_, List.mem_singleton.2 rfl, ρ, _, rfl, rfl, Step.refl st⟩
  · rename_i r
    obtain ⟨u, us, ⟨B, hB, rfl⟩, h2, rfl⟩ := hl
    rw [show us = [] from h2]
    split at hs
    · rename_i es ver hm
      simp only [R.map_eq, H.new] at hs
      obtain ⟨nh, hnew, rfl⟩ := hs
      cases hq : h.next.succ with
      | none => rw [hq] at hnew; cases hnew
      | some q =>
        rw [hq] at hnew
        cases hnew
        obtain ⟨B', hB', ce, clock, hce, hmv, hmr⟩ := st.objs _ _ hm
        rw [hB] at hB'
        cases hB'
        refine ⟨he, (hc B.k clock ce w hce).mono fun e w' hk => ?_⟩
        obtain ⟨rfl, rfl⟩ := hk
        obtain ⟨ρ', hst, hβ, hmv'⟩ := Step.new' st hq (.map es h.next) ⟨w.heap.size, 0, 0⟩ rfl (some (ce, clock)) (w' := w.alloc (.map ce clock))
          (fun ρ' hle hb hx => ⟨ce, clock, alloc_at w _, hx _ rfl, hmr.mono hle⟩) (fun b hb => alloc_old hb) (by rw [alloc_size]; omega) rfl rfl rfl
        exact ⟨_, List.mem_singleton.2 rfl, ρ', _, rfl, ⟨_, hβ, rfl⟩, hst⟩
    · cases hs
  · cases hs
end Go.SE
