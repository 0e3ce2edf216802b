/- Lemmas (several texts in one). -/
import Derived.Test.YtjdmiodinhlchaaDoorM5
import Derived.Lib.ItoaMem
/- Which entries may be: what the reference says, and what the code under test says. -/
namespace Go.Proofs.YtjdmiodinhlchaaDoor.Code
open Go Go.Ev Go.Proofs
set_option maxRecDepth 100000
set_option linter.unusedSimpArgs false
set_option linter.unusedVariables false
def keyV (s : Txt) : Bool := decide ((s.length : Int) ≥ 1) && decide ((s.length : Int) ≤ 12)
def tillV (n : Int) : Bool := decide (n ≥ 0) && decide (n ≤ 2000000)
def kindV (e : En) : Bool :=
  if e.kind = 1 then decide (e.text.length ≤ 40) && e.list.isEmpty && e.scores.isEmpty && e.fields.isEmpty
  else if e.kind = 2 then e.text.isEmpty && !e.list.isEmpty && okTexts e.list && e.scores.isEmpty && e.fields.isEmpty
  else if e.kind = 3 then e.text.isEmpty && !e.list.isEmpty && setV e.list && e.scores.isEmpty && e.fields.isEmpty
  else if e.kind = 4 then e.text.isEmpty && e.list.isEmpty && !e.scores.isEmpty && scoresV e.scores && e.fields.isEmpty
  else if e.kind = 5 then e.text.isEmpty && e.list.isEmpty && e.scores.isEmpty && !e.fields.isEmpty && fieldsV e.fields
  else false
/-- Whether an entry may be. -/
def enOk (e : En) : Bool := keyV e.key && tillV e.till && kindV e
theorem e_19_no (H : Hp) (e : En) (hf : EnFit e) (hk : keyV e.key = false ∨ tillV e.till = false) : ev R 19 [.d (enD e)] H = some (.d (.bool (enOk e)), H) := by
  refine ev_fn (fn := f19) rfl rfl ?_
  have pk : pureCall (ev R) 34 [.d (.str e.key)] = some (.d (.bool (keyV e.key))) := pureCall_eq (cl := ev R) fun H => e_34 H e.key
  have pt : pureCall (ev R) 20 [.d (.int .i64 e.till), .d (.int .i64 0), .d (.int .i64 2000000)] = some (.d (.bool (tillV e.till))) := p_20 e.till 0 2000000
  have p80 := pureCall_eq (cl := ev R) fun H => e_35 H e.list hf.list
  have p81 := pureCall_eq (cl := ev R) fun H => e_36 H e.list hf.list
  have p82 := pureCall_eq (cl := ev R) fun H => e_37 H e.scores hf.scores
  have p83 := pureCall_eq (cl := ev R) fun H => e_38 H e.fields hf.fields
  have x0 : (e.text = []) = (e.text.isEmpty = true) := by simp
  have y1 : ((e.list.length : Int) = 0) = (e.list.isEmpty = true) := by cases e.list <;> simp <;> try omega
  have z1 : (0 < (e.list.length : Int)) = (e.list.isEmpty = false) := by cases e.list <;> simp <;> try omega
  have y2 : ((e.scores.length : Int) = 0) = (e.scores.isEmpty = true) := by cases e.scores <;> simp <;> try omega
  have z2 : (0 < (e.scores.length : Int)) = (e.scores.isEmpty = false) := by cases e.scores <;> simp <;> try omega
  have y3 : ((e.fields.length : Int) = 0) = (e.fields.isEmpty = true) := by cases e.fields <;> simp <;> try omega
  have z3 : (0 < (e.fields.length : Int)) = (e.fields.isEmpty = false) := by cases e.fields <;> simp <;> try omega
  have l1 : ((e.list.map D.str).length : Int) = (e.list.length : Int) := by simp
  have l2 : ((e.scores.map scD).length : Int) = (e.scores.length : Int) := by simp
  have l3 : ((e.fields.map prD).length : Int) = (e.fields.length : Int) := by simp
  have xl : ((e.text.length : Int) ≤ 40) = (decide (e.text.length ≤ 40) = true) := by simp; omega
  have ld : ∀ j n, hload (hpush H (.row 0 7 [.d (.agg [.str e.key, .int .i64 e.till, .int .i64 e.kind, .str e.text, txts e.list, scs e.scores, prs e.fields])])) (hlen H) 0 0 j n = if j + n ≤ 7 then some ((([.d (.str e.key), .d (.int .i64 e.till), .d (.int .i64 e.kind), .d (.str e.text), .d (txts e.list), .d (scs e.scores), .d (prs e.fields)] : List V).drop j).take n) else none := fun j n => by
    simp [hload, rowOf_self, V.cells, D.cells]
  have tk := htake_push H (.row 0 7 [.d (.agg [.str e.key, .int .i64 e.till, .int .i64 e.kind, .str e.text, txts e.list, scs e.scores, prs e.fields])])
  unfold enOk kindV
  unfold enD
  simp only [txts, scs, prs] at *
  obtain ⟨key, till, kind, text, list, scores, fields⟩ := e
  simp only at *
  generalize keyV key = KV at *
  generalize tillV till = TV at *
  obtain ⟨Y, eY⟩ : ∃ Y, hpush H (.row 0 7 [.d (.agg [.str key, .int .i64 till, .int .i64 kind, .str text, .vals 1 (list.map D.str), .vals 2 (scores.map scD), .vals 2 (fields.map prD)])]) = Y := ⟨_, rfl⟩
  rw [eY] at ld tk
  generalize list.map D.str = d1 at *
  generalize scores.map scD = d2 at *
  generalize fields.map prD = d3 at *
  generalize (list.length : Int) = n1 at *
  generalize (scores.length : Int) = n2 at *
  generalize (fields.length : Int) = n3 at *
  generalize okTexts list = P80 at *
  generalize setV list = P81 at *
  generalize scoresV scores = P82 at *
  generalize fieldsV fields = P83 at *
  generalize text.isEmpty = B0 at *
  generalize list.isEmpty = B1 at *
  generalize scores.isEmpty = B2 at *
  generalize fields.isEmpty = B3 at *
  generalize decide (text.length ≤ 40) = C at *
  cases KV with
  | false => simp [-List.getD_eq_getElem?_getD, -List.map_map, evBody, evCode, evOps, evOper, evOp, opd, Env.get, Env.put, Env.keep, zipEnv, V.ok, V.sto, V.cells, D.cells, V.isAgg, binD, binInt, binStr, shInt, unD, eqOf, asI, leave, resOf, mapO, fzV, tupOf, view, view1, isData, hand, flatV, flatD, allD, mkAgg, mkVal, beq_lit, IntKind.bits, htake_self, htake_push, hget_hpush_self, hset_push, rowOf_self, okIn, lowIn, lowIn1, fzC_d, fzC_row, f19, eY, pk, pt, ld, tk, l1, l2, l3, xl]
  | true =>
    cases TV with
    | false => simp [-List.getD_eq_getElem?_getD, -List.map_map, evBody, evCode, evOps, evOper, evOp, opd, Env.get, Env.put, Env.keep, zipEnv, V.ok, V.sto, V.cells, D.cells, V.isAgg, binD, binInt, binStr, shInt, unD, eqOf, asI, leave, resOf, mapO, fzV, tupOf, view, view1, isData, hand, flatV, flatD, allD, mkAgg, mkVal, beq_lit, IntKind.bits, htake_self, htake_push, hget_hpush_self, hset_push, rowOf_self, okIn, lowIn, lowIn1, fzC_d, fzC_row, f19, eY, pk, pt, ld, tk, l1, l2, l3, xl]
    | true => simp at hk
theorem e_19_k1 (H : Hp) (e : En) (hf : EnFit e) (hk : keyV e.key = true) (ht : tillV e.till = true) (hd : e.kind = 1) : ev R 19 [.d (enD e)] H = some (.d (.bool (enOk e)), H) := by
  refine ev_fn (fn := f19) rfl rfl ?_
  have pk : pureCall (ev R) 34 [.d (.str e.key)] = some (.d (.bool (keyV e.key))) := pureCall_eq (cl := ev R) fun H => e_34 H e.key
  have pt : pureCall (ev R) 20 [.d (.int .i64 e.till), .d (.int .i64 0), .d (.int .i64 2000000)] = some (.d (.bool (tillV e.till))) := p_20 e.till 0 2000000
  have p80 := pureCall_eq (cl := ev R) fun H => e_35 H e.list hf.list
  have p81 := pureCall_eq (cl := ev R) fun H => e_36 H e.list hf.list
  have p82 := pureCall_eq (cl := ev R) fun H => e_37 H e.scores hf.scores
  have p83 := pureCall_eq (cl := ev R) fun H => e_38 H e.fields hf.fields
  have x0 : (e.text = []) = (e.text.isEmpty = true) := by simp
  have y1 : ((e.list.length : Int) = 0) = (e.list.isEmpty = true) := by cases e.list <;> simp <;> try omega
  have z1 : (0 < (e.list.length : Int)) = (e.list.isEmpty = false) := by cases e.list <;> simp <;> try omega
  have y2 : ((e.scores.length : Int) = 0) = (e.scores.isEmpty = true) := by cases e.scores <;> simp <;> try omega
  have z2 : (0 < (e.scores.length : Int)) = (e.scores.isEmpty = false) := by cases e.scores <;> simp <;> try omega
  have y3 : ((e.fields.length : Int) = 0) = (e.fields.isEmpty = true) := by cases e.fields <;> simp <;> try omega
  have z3 : (0 < (e.fields.length : Int)) = (e.fields.isEmpty = false) := by cases e.fields <;> simp <;> try omega
  have l1 : ((e.list.map D.str).length : Int) = (e.list.length : Int) := by simp
  have l2 : ((e.scores.map scD).length : Int) = (e.scores.length : Int) := by simp
  have l3 : ((e.fields.map prD).length : Int) = (e.fields.length : Int) := by simp
  have xl : ((e.text.length : Int) ≤ 40) = (decide (e.text.length ≤ 40) = true) := by simp; omega
  have ld : ∀ j n, hload (hpush H (.row 0 7 [.d (.agg [.str e.key, .int .i64 e.till, .int .i64 e.kind, .str e.text, txts e.list, scs e.scores, prs e.fields])])) (hlen H) 0 0 j n = if j + n ≤ 7 then some ((([.d (.str e.key), .d (.int .i64 e.till), .d (.int .i64 e.kind), .d (.str e.text), .d (txts e.list), .d (scs e.scores), .d (prs e.fields)] : List V).drop j).take n) else none := fun j n => by
    simp [hload, rowOf_self, V.cells, D.cells]
  have tk := htake_push H (.row 0 7 [.d (.agg [.str e.key, .int .i64 e.till, .int .i64 e.kind, .str e.text, txts e.list, scs e.scores, prs e.fields])])
  unfold enOk kindV
  unfold enD
  simp only [txts, scs, prs] at *
  obtain ⟨key, till, kind, text, list, scores, fields⟩ := e
  simp only at *
  generalize keyV key = KV at *
  generalize tillV till = TV at *
  obtain ⟨Y, eY⟩ : ∃ Y, hpush H (.row 0 7 [.d (.agg [.str key, .int .i64 till, .int .i64 kind, .str text, .vals 1 (list.map D.str), .vals 2 (scores.map scD), .vals 2 (fields.map prD)])]) = Y := ⟨_, rfl⟩
  rw [eY] at ld tk
  generalize list.map D.str = d1 at *
  generalize scores.map scD = d2 at *
  generalize fields.map prD = d3 at *
  generalize (list.length : Int) = n1 at *
  generalize (scores.length : Int) = n2 at *
  generalize (fields.length : Int) = n3 at *
  generalize okTexts list = P80 at *
  generalize setV list = P81 at *
  generalize scoresV scores = P82 at *
  generalize fieldsV fields = P83 at *
  generalize text.isEmpty = B0 at *
  generalize list.isEmpty = B1 at *
  generalize scores.isEmpty = B2 at *
  generalize fields.isEmpty = B3 at *
  generalize decide (text.length ≤ 40) = C at *
  subst hk ht hd
  cases C with
  | false => simp [-List.getD_eq_getElem?_getD, -List.map_map, evBody, evCode, evOps, evOper, evOp, opd, Env.get, Env.put, Env.keep, zipEnv, V.ok, V.sto, V.cells, D.cells, V.isAgg, binD, binInt, binStr, shInt, unD, eqOf, asI, leave, resOf, mapO, fzV, tupOf, view, view1, isData, hand, flatV, flatD, allD, mkAgg, mkVal, beq_lit, IntKind.bits, htake_self, htake_push, hget_hpush_self, hset_push, rowOf_self, okIn, lowIn, lowIn1, fzC_d, fzC_row, f19, eY, pk, pt, ld, tk, l1, l2, l3, xl, x0, y1, z1, y2, z2, y3, z3, p80, p81, p82, p83]
  | true =>
    cases B1 with
    | false => simp [-List.getD_eq_getElem?_getD, -List.map_map, evBody, evCode, evOps, evOper, evOp, opd, Env.get, Env.put, Env.keep, zipEnv, V.ok, V.sto, V.cells, D.cells, V.isAgg, binD, binInt, binStr, shInt, unD, eqOf, asI, leave, resOf, mapO, fzV, tupOf, view, view1, isData, hand, flatV, flatD, allD, mkAgg, mkVal, beq_lit, IntKind.bits, htake_self, htake_push, hget_hpush_self, hset_push, rowOf_self, okIn, lowIn, lowIn1, fzC_d, fzC_row, f19, eY, pk, pt, ld, tk, l1, l2, l3, xl, x0, y1, z1, y2, z2, y3, z3, p80, p81, p82, p83]
    | true =>
      cases B2 with
      | false => simp [-List.getD_eq_getElem?_getD, -List.map_map, evBody, evCode, evOps, evOper, evOp, opd, Env.get, Env.put, Env.keep, zipEnv, V.ok, V.sto, V.cells, D.cells, V.isAgg, binD, binInt, binStr, shInt, unD, eqOf, asI, leave, resOf, mapO, fzV, tupOf, view, view1, isData, hand, flatV, flatD, allD, mkAgg, mkVal, beq_lit, IntKind.bits, htake_self, htake_push, hget_hpush_self, hset_push, rowOf_self, okIn, lowIn, lowIn1, fzC_d, fzC_row, f19, eY, pk, pt, ld, tk, l1, l2, l3, xl, x0, y1, z1, y2, z2, y3, z3, p80, p81, p82, p83]
      | true =>
        cases B3 with
        | false => simp [-List.getD_eq_getElem?_getD, -List.map_map, evBody, evCode, evOps, evOper, evOp, opd, Env.get, Env.put, Env.keep, zipEnv, V.ok, V.sto, V.cells, D.cells, V.isAgg, binD, binInt, binStr, shInt, unD, eqOf, asI, leave, resOf, mapO, fzV, tupOf, view, view1, isData, hand, flatV, flatD, allD, mkAgg, mkVal, beq_lit, IntKind.bits, htake_self, htake_push, hget_hpush_self, hset_push, rowOf_self, okIn, lowIn, lowIn1, fzC_d, fzC_row, f19, eY, pk, pt, ld, tk, l1, l2, l3, xl, x0, y1, z1, y2, z2, y3, z3, p80, p81, p82, p83]
        | true =>
          simp [-List.getD_eq_getElem?_getD, -List.map_map, evBody, evCode, evOps, evOper, evOp, opd, Env.get, Env.put, Env.keep, zipEnv, V.ok, V.sto, V.cells, D.cells, V.isAgg, binD, binInt, binStr, shInt, unD, eqOf, asI, leave, resOf, mapO, fzV, tupOf, view, view1, isData, hand, flatV, flatD, allD, mkAgg, mkVal, beq_lit, IntKind.bits, htake_self, htake_push, hget_hpush_self, hset_push, rowOf_self, okIn, lowIn, lowIn1, fzC_d, fzC_row, f19, eY, pk, pt, ld, tk, l1, l2, l3, xl, x0, y1, z1, y2, z2, y3, z3, p80, p81, p82, p83]
theorem e_19_k2 (H : Hp) (e : En) (hf : EnFit e) (hk : keyV e.key = true) (ht : tillV e.till = true) (hd : e.kind = 2) : ev R 19 [.d (enD e)] H = some (.d (.bool (enOk e)), H) := by
  refine ev_fn (fn := f19) rfl rfl ?_
  have pk : pureCall (ev R) 34 [.d (.str e.key)] = some (.d (.bool (keyV e.key))) := pureCall_eq (cl := ev R) fun H => e_34 H e.key
  have pt : pureCall (ev R) 20 [.d (.int .i64 e.till), .d (.int .i64 0), .d (.int .i64 2000000)] = some (.d (.bool (tillV e.till))) := p_20 e.till 0 2000000
  have p80 := pureCall_eq (cl := ev R) fun H => e_35 H e.list hf.list
  have p81 := pureCall_eq (cl := ev R) fun H => e_36 H e.list hf.list
  have p82 := pureCall_eq (cl := ev R) fun H => e_37 H e.scores hf.scores
  have p83 := pureCall_eq (cl := ev R) fun H => e_38 H e.fields hf.fields
  have x0 : (e.text = []) = (e.text.isEmpty = true) := by simp
  have y1 : ((e.list.length : Int) = 0) = (e.list.isEmpty = true) := by cases e.list <;> simp <;> try omega
  have z1 : (0 < (e.list.length : Int)) = (e.list.isEmpty = false) := by cases e.list <;> simp <;> try omega
  have y2 : ((e.scores.length : Int) = 0) = (e.scores.isEmpty = true) := by cases e.scores <;> simp <;> try omega
  have z2 : (0 < (e.scores.length : Int)) = (e.scores.isEmpty = false) := by cases e.scores <;> simp <;> try omega
  have y3 : ((e.fields.length : Int) = 0) = (e.fields.isEmpty = true) := by cases e.fields <;> simp <;> try omega
  have z3 : (0 < (e.fields.length : Int)) = (e.fields.isEmpty = false) := by cases e.fields <;> simp <;> try omega
  have l1 : ((e.list.map D.str).length : Int) = (e.list.length : Int) := by simp
  have l2 : ((e.scores.map scD).length : Int) = (e.scores.length : Int) := by simp
  have l3 : ((e.fields.map prD).length : Int) = (e.fields.length : Int) := by simp
  have xl : ((e.text.length : Int) ≤ 40) = (decide (e.text.length ≤ 40) = true) := by simp; omega
  have ld : ∀ j n, hload (hpush H (.row 0 7 [.d (.agg [.str e.key, .int .i64 e.till, .int .i64 e.kind, .str e.text, txts e.list, scs e.scores, prs e.fields])])) (hlen H) 0 0 j n = if j + n ≤ 7 then some ((([.d (.str e.key), .d (.int .i64 e.till), .d (.int .i64 e.kind), .d (.str e.text), .d (txts e.list), .d (scs e.scores), .d (prs e.fields)] : List V).drop j).take n) else none := fun j n => by
    simp [hload, rowOf_self, V.cells, D.cells]
  have tk := htake_push H (.row 0 7 [.d (.agg [.str e.key, .int .i64 e.till, .int .i64 e.kind, .str e.text, txts e.list, scs e.scores, prs e.fields])])
  unfold enOk kindV
  unfold enD
  simp only [txts, scs, prs] at *
  obtain ⟨key, till, kind, text, list, scores, fields⟩ := e
  simp only at *
  generalize keyV key = KV at *
  generalize tillV till = TV at *
  obtain ⟨Y, eY⟩ : ∃ Y, hpush H (.row 0 7 [.d (.agg [.str key, .int .i64 till, .int .i64 kind, .str text, .vals 1 (list.map D.str), .vals 2 (scores.map scD), .vals 2 (fields.map prD)])]) = Y := ⟨_, rfl⟩
  rw [eY] at ld tk
  generalize list.map D.str = d1 at *
  generalize scores.map scD = d2 at *
  generalize fields.map prD = d3 at *
  generalize (list.length : Int) = n1 at *
  generalize (scores.length : Int) = n2 at *
  generalize (fields.length : Int) = n3 at *
  generalize okTexts list = P80 at *
  generalize setV list = P81 at *
  generalize scoresV scores = P82 at *
  generalize fieldsV fields = P83 at *
  generalize text.isEmpty = B0 at *
  generalize list.isEmpty = B1 at *
  generalize scores.isEmpty = B2 at *
  generalize fields.isEmpty = B3 at *
  generalize decide (text.length ≤ 40) = C at *
  subst hk ht hd
  cases B0 with
  | false => simp [-List.getD_eq_getElem?_getD, -List.map_map, evBody, evCode, evOps, evOper, evOp, opd, Env.get, Env.put, Env.keep, zipEnv, V.ok, V.sto, V.cells, D.cells, V.isAgg, binD, binInt, binStr, shInt, unD, eqOf, asI, leave, resOf, mapO, fzV, tupOf, view, view1, isData, hand, flatV, flatD, allD, mkAgg, mkVal, beq_lit, IntKind.bits, htake_self, htake_push, hget_hpush_self, hset_push, rowOf_self, okIn, lowIn, lowIn1, fzC_d, fzC_row, f19, eY, pk, pt, ld, tk, l1, l2, l3, xl, x0, y1, z1, y2, z2, y3, z3, p80, p81, p82, p83]
  | true =>
    cases B1 with
    | true => simp [-List.getD_eq_getElem?_getD, -List.map_map, evBody, evCode, evOps, evOper, evOp, opd, Env.get, Env.put, Env.keep, zipEnv, V.ok, V.sto, V.cells, D.cells, V.isAgg, binD, binInt, binStr, shInt, unD, eqOf, asI, leave, resOf, mapO, fzV, tupOf, view, view1, isData, hand, flatV, flatD, allD, mkAgg, mkVal, beq_lit, IntKind.bits, htake_self, htake_push, hget_hpush_self, hset_push, rowOf_self, okIn, lowIn, lowIn1, fzC_d, fzC_row, f19, eY, pk, pt, ld, tk, l1, l2, l3, xl, x0, y1, z1, y2, z2, y3, z3, p80, p81, p82, p83]
    | false =>
      cases P80 with
      | false => simp [-List.getD_eq_getElem?_getD, -List.map_map, evBody, evCode, evOps, evOper, evOp, opd, Env.get, Env.put, Env.keep, zipEnv, V.ok, V.sto, V.cells, D.cells, V.isAgg, binD, binInt, binStr, shInt, unD, eqOf, asI, leave, resOf, mapO, fzV, tupOf, view, view1, isData, hand, flatV, flatD, allD, mkAgg, mkVal, beq_lit, IntKind.bits, htake_self, htake_push, hget_hpush_self, hset_push, rowOf_self, okIn, lowIn, lowIn1, fzC_d, fzC_row, f19, eY, pk, pt, ld, tk, l1, l2, l3, xl, x0, y1, z1, y2, z2, y3, z3, p80, p81, p82, p83]
      | true =>
        cases B2 with
        | false => simp [-List.getD_eq_getElem?_getD, -List.map_map, evBody, evCode, evOps, evOper, evOp, opd, Env.get, Env.put, Env.keep, zipEnv, V.ok, V.sto, V.cells, D.cells, V.isAgg, binD, binInt, binStr, shInt, unD, eqOf, asI, leave, resOf, mapO, fzV, tupOf, view, view1, isData, hand, flatV, flatD, allD, mkAgg, mkVal, beq_lit, IntKind.bits, htake_self, htake_push, hget_hpush_self, hset_push, rowOf_self, okIn, lowIn, lowIn1, fzC_d, fzC_row, f19, eY, pk, pt, ld, tk, l1, l2, l3, xl, x0, y1, z1, y2, z2, y3, z3, p80, p81, p82, p83]
        | true =>
          cases B3 with
          | false => simp [-List.getD_eq_getElem?_getD, -List.map_map, evBody, evCode, evOps, evOper, evOp, opd, Env.get, Env.put, Env.keep, zipEnv, V.ok, V.sto, V.cells, D.cells, V.isAgg, binD, binInt, binStr, shInt, unD, eqOf, asI, leave, resOf, mapO, fzV, tupOf, view, view1, isData, hand, flatV, flatD, allD, mkAgg, mkVal, beq_lit, IntKind.bits, htake_self, htake_push, hget_hpush_self, hset_push, rowOf_self, okIn, lowIn, lowIn1, fzC_d, fzC_row, f19, eY, pk, pt, ld, tk, l1, l2, l3, xl, x0, y1, z1, y2, z2, y3, z3, p80, p81, p82, p83]
          | true =>
            simp [-List.getD_eq_getElem?_getD, -List.map_map, evBody, evCode, evOps, evOper, evOp, opd, Env.get, Env.put, Env.keep, zipEnv, V.ok, V.sto, V.cells, D.cells, V.isAgg, binD, binInt, binStr, shInt, unD, eqOf, asI, leave, resOf, mapO, fzV, tupOf, view, view1, isData, hand, flatV, flatD, allD, mkAgg, mkVal, beq_lit, IntKind.bits, htake_self, htake_push, hget_hpush_self, hset_push, rowOf_self, okIn, lowIn, lowIn1, fzC_d, fzC_row, f19, eY, pk, pt, ld, tk, l1, l2, l3, xl, x0, y1, z1, y2, z2, y3, z3, p80, p81, p82, p83]
theorem e_19_k3 (H : Hp) (e : En) (hf : EnFit e) (hk : keyV e.key = true) (ht : tillV e.till = true) (hd : e.kind = 3) : ev R 19 [.d (enD e)] H = some (.d (.bool (enOk e)), H) := by
  refine ev_fn (fn := f19) rfl rfl ?_
  have pk : pureCall (ev R) 34 [.d (.str e.key)] = some (.d (.bool (keyV e.key))) := pureCall_eq (cl := ev R) fun H => e_34 H e.key
  have pt : pureCall (ev R) 20 [.d (.int .i64 e.till), .d (.int .i64 0), .d (.int .i64 2000000)] = some (.d (.bool (tillV e.till))) := p_20 e.till 0 2000000
  have p80 := pureCall_eq (cl := ev R) fun H => e_35 H e.list hf.list
  have p81 := pureCall_eq (cl := ev R) fun H => e_36 H e.list hf.list
  have p82 := pureCall_eq (cl := ev R) fun H => e_37 H e.scores hf.scores
  have p83 := pureCall_eq (cl := ev R) fun H => e_38 H e.fields hf.fields
  have x0 : (e.text = []) = (e.text.isEmpty = true) := by simp
  have y1 : ((e.list.length : Int) = 0) = (e.list.isEmpty = true) := by cases e.list <;> simp <;> try omega
  have z1 : (0 < (e.list.length : Int)) = (e.list.isEmpty = false) := by cases e.list <;> simp <;> try omega
  have y2 : ((e.scores.length : Int) = 0) = (e.scores.isEmpty = true) := by cases e.scores <;> simp <;> try omega
  have z2 : (0 < (e.scores.length : Int)) = (e.scores.isEmpty = false) := by cases e.scores <;> simp <;> try omega
  have y3 : ((e.fields.length : Int) = 0) = (e.fields.isEmpty = true) := by cases e.fields <;> simp <;> try omega
  have z3 : (0 < (e.fields.length : Int)) = (e.fields.isEmpty = false) := by cases e.fields <;> simp <;> try omega
  have l1 : ((e.list.map D.str).length : Int) = (e.list.length : Int) := by simp
  have l2 : ((e.scores.map scD).length : Int) = (e.scores.length : Int) := by simp
  have l3 : ((e.fields.map prD).length : Int) = (e.fields.length : Int) := by simp
  have xl : ((e.text.length : Int) ≤ 40) = (decide (e.text.length ≤ 40) = true) := by simp; omega
  have ld : ∀ j n, hload (hpush H (.row 0 7 [.d (.agg [.str e.key, .int .i64 e.till, .int .i64 e.kind, .str e.text, txts e.list, scs e.scores, prs e.fields])])) (hlen H) 0 0 j n = if j + n ≤ 7 then some ((([.d (.str e.key), .d (.int .i64 e.till), .d (.int .i64 e.kind), .d (.str e.text), .d (txts e.list), .d (scs e.scores), .d (prs e.fields)] : List V).drop j).take n) else none := fun j n => by
    simp [hload, rowOf_self, V.cells, D.cells]
  have tk := htake_push H (.row 0 7 [.d (.agg [.str e.key, .int .i64 e.till, .int .i64 e.kind, .str e.text, txts e.list, scs e.scores, prs e.fields])])
  unfold enOk kindV
  unfold enD
  simp only [txts, scs, prs] at *
  obtain ⟨key, till, kind, text, list, scores, fields⟩ := e
  simp only at *
  generalize keyV key = KV at *
  generalize tillV till = TV at *
  obtain ⟨Y, eY⟩ : ∃ Y, hpush H (.row 0 7 [.d (.agg [.str key, .int .i64 till, .int .i64 kind, .str text, .vals 1 (list.map D.str), .vals 2 (scores.map scD), .vals 2 (fields.map prD)])]) = Y := ⟨_, rfl⟩
  rw [eY] at ld tk
  generalize list.map D.str = d1 at *
  generalize scores.map scD = d2 at *
  generalize fields.map prD = d3 at *
  generalize (list.length : Int) = n1 at *
  generalize (scores.length : Int) = n2 at *
  generalize (fields.length : Int) = n3 at *
  generalize okTexts list = P80 at *
  generalize setV list = P81 at *
  generalize scoresV scores = P82 at *
  generalize fieldsV fields = P83 at *
  generalize text.isEmpty = B0 at *
  generalize list.isEmpty = B1 at *
  generalize scores.isEmpty = B2 at *
  generalize fields.isEmpty = B3 at *
  generalize decide (text.length ≤ 40) = C at *
  subst hk ht hd
  cases B0 with
  | false => simp [-List.getD_eq_getElem?_getD, -List.map_map, evBody, evCode, evOps, evOper, evOp, opd, Env.get, Env.put, Env.keep, zipEnv, V.ok, V.sto, V.cells, D.cells, V.isAgg, binD, binInt, binStr, shInt, unD, eqOf, asI, leave, resOf, mapO, fzV, tupOf, view, view1, isData, hand, flatV, flatD, allD, mkAgg, mkVal, beq_lit, IntKind.bits, htake_self, htake_push, hget_hpush_self, hset_push, rowOf_self, okIn, lowIn, lowIn1, fzC_d, fzC_row, f19, eY, pk, pt, ld, tk, l1, l2, l3, xl, x0, y1, z1, y2, z2, y3, z3, p80, p81, p82, p83]
  | true =>
    cases B1 with
    | true => simp [-List.getD_eq_getElem?_getD, -List.map_map, evBody, evCode, evOps, evOper, evOp, opd, Env.get, Env.put, Env.keep, zipEnv, V.ok, V.sto, V.cells, D.cells, V.isAgg, binD, binInt, binStr, shInt, unD, eqOf, asI, leave, resOf, mapO, fzV, tupOf, view, view1, isData, hand, flatV, flatD, allD, mkAgg, mkVal, beq_lit, IntKind.bits, htake_self, htake_push, hget_hpush_self, hset_push, rowOf_self, okIn, lowIn, lowIn1, fzC_d, fzC_row, f19, eY, pk, pt, ld, tk, l1, l2, l3, xl, x0, y1, z1, y2, z2, y3, z3, p80, p81, p82, p83]
    | false =>
      cases P81 with
      | false => simp [-List.getD_eq_getElem?_getD, -List.map_map, evBody, evCode, evOps, evOper, evOp, opd, Env.get, Env.put, Env.keep, zipEnv, V.ok, V.sto, V.cells, D.cells, V.isAgg, binD, binInt, binStr, shInt, unD, eqOf, asI, leave, resOf, mapO, fzV, tupOf, view, view1, isData, hand, flatV, flatD, allD, mkAgg, mkVal, beq_lit, IntKind.bits, htake_self, htake_push, hget_hpush_self, hset_push, rowOf_self, okIn, lowIn, lowIn1, fzC_d, fzC_row, f19, eY, pk, pt, ld, tk, l1, l2, l3, xl, x0, y1, z1, y2, z2, y3, z3, p80, p81, p82, p83]
      | true =>
        cases B2 with
        | false => simp [-List.getD_eq_getElem?_getD, -List.map_map, evBody, evCode, evOps, evOper, evOp, opd, Env.get, Env.put, Env.keep, zipEnv, V.ok, V.sto, V.cells, D.cells, V.isAgg, binD, binInt, binStr, shInt, unD, eqOf, asI, leave, resOf, mapO, fzV, tupOf, view, view1, isData, hand, flatV, flatD, allD, mkAgg, mkVal, beq_lit, IntKind.bits, htake_self, htake_push, hget_hpush_self, hset_push, rowOf_self, okIn, lowIn, lowIn1, fzC_d, fzC_row, f19, eY, pk, pt, ld, tk, l1, l2, l3, xl, x0, y1, z1, y2, z2, y3, z3, p80, p81, p82, p83]
        | true =>
          cases B3 with
          | false => simp [-List.getD_eq_getElem?_getD, -List.map_map, evBody, evCode, evOps, evOper, evOp, opd, Env.get, Env.put, Env.keep, zipEnv, V.ok, V.sto, V.cells, D.cells, V.isAgg, binD, binInt, binStr, shInt, unD, eqOf, asI, leave, resOf, mapO, fzV, tupOf, view, view1, isData, hand, flatV, flatD, allD, mkAgg, mkVal, beq_lit, IntKind.bits, htake_self, htake_push, hget_hpush_self, hset_push, rowOf_self, okIn, lowIn, lowIn1, fzC_d, fzC_row, f19, eY, pk, pt, ld, tk, l1, l2, l3, xl, x0, y1, z1, y2, z2, y3, z3, p80, p81, p82, p83]
          | true =>
            simp [-List.getD_eq_getElem?_getD, -List.map_map, evBody, evCode, evOps, evOper, evOp, opd, Env.get, Env.put, Env.keep, zipEnv, V.ok, V.sto, V.cells, D.cells, V.isAgg, binD, binInt, binStr, shInt, unD, eqOf, asI, leave, resOf, mapO, fzV, tupOf, view, view1, isData, hand, flatV, flatD, allD, mkAgg, mkVal, beq_lit, IntKind.bits, htake_self, htake_push, hget_hpush_self, hset_push, rowOf_self, okIn, lowIn, lowIn1, fzC_d, fzC_row, f19, eY, pk, pt, ld, tk, l1, l2, l3, xl, x0, y1, z1, y2, z2, y3, z3, p80, p81, p82, p83]
theorem e_19_k4 (H : Hp) (e : En) (hf : EnFit e) (hk : keyV e.key = true) (ht : tillV e.till = true) (hd : e.kind = 4) : ev R 19 [.d (enD e)] H = some (.d (.bool (enOk e)), H) := by
  refine ev_fn (fn := f19) rfl rfl ?_
  have pk : pureCall (ev R) 34 [.d (.str e.key)] = some (.d (.bool (keyV e.key))) := pureCall_eq (cl := ev R) fun H => e_34 H e.key
  have pt : pureCall (ev R) 20 [.d (.int .i64 e.till), .d (.int .i64 0), .d (.int .i64 2000000)] = some (.d (.bool (tillV e.till))) := p_20 e.till 0 2000000
  have p80 := pureCall_eq (cl := ev R) fun H => e_35 H e.list hf.list
  have p81 := pureCall_eq (cl := ev R) fun H => e_36 H e.list hf.list
  have p82 := pureCall_eq (cl := ev R) fun H => e_37 H e.scores hf.scores
  have p83 := pureCall_eq (cl := ev R) fun H => e_38 H e.fields hf.fields
  have x0 : (e.text = []) = (e.text.isEmpty = true) := by simp
  have y1 : ((e.list.length : Int) = 0) = (e.list.isEmpty = true) := by cases e.list <;> simp <;> try omega
  have z1 : (0 < (e.list.length : Int)) = (e.list.isEmpty = false) := by cases e.list <;> simp <;> try omega
  have y2 : ((e.scores.length : Int) = 0) = (e.scores.isEmpty = true) := by cases e.scores <;> simp <;> try omega
  have z2 : (0 < (e.scores.length : Int)) = (e.scores.isEmpty = false) := by cases e.scores <;> simp <;> try omega
  have y3 : ((e.fields.length : Int) = 0) = (e.fields.isEmpty = true) := by cases e.fields <;> simp <;> try omega
  have z3 : (0 < (e.fields.length : Int)) = (e.fields.isEmpty = false) := by cases e.fields <;> simp <;> try omega
  have l1 : ((e.list.map D.str).length : Int) = (e.list.length : Int) := by simp
  have l2 : ((e.scores.map scD).length : Int) = (e.scores.length : Int) := by simp
  have l3 : ((e.fields.map prD).length : Int) = (e.fields.length : Int) := by simp
  have xl : ((e.text.length : Int) ≤ 40) = (decide (e.text.length ≤ 40) = true) := by simp; omega
  have ld : ∀ j n, hload (hpush H (.row 0 7 [.d (.agg [.str e.key, .int .i64 e.till, .int .i64 e.kind, .str e.text, txts e.list, scs e.scores, prs e.fields])])) (hlen H) 0 0 j n = if j + n ≤ 7 then some ((([.d (.str e.key), .d (.int .i64 e.till), .d (.int .i64 e.kind), .d (.str e.text), .d (txts e.list), .d (scs e.scores), .d (prs e.fields)] : List V).drop j).take n) else none := fun j n => by
    simp [hload, rowOf_self, V.cells, D.cells]
  have tk := htake_push H (.row 0 7 [.d (.agg [.str e.key, .int .i64 e.till, .int .i64 e.kind, .str e.text, txts e.list, scs e.scores, prs e.fields])])
  unfold enOk kindV
  unfold enD
  simp only [txts, scs, prs] at *
  obtain ⟨key, till, kind, text, list, scores, fields⟩ := e
  simp only at *
  generalize keyV key = KV at *
  generalize tillV till = TV at *
  obtain ⟨Y, eY⟩ : ∃ Y, hpush H (.row 0 7 [.d (.agg [.str key, .int .i64 till, .int .i64 kind, .str text, .vals 1 (list.map D.str), .vals 2 (scores.map scD), .vals 2 (fields.map prD)])]) = Y := ⟨_, rfl⟩
  rw [eY] at ld tk
  generalize list.map D.str = d1 at *
  generalize scores.map scD = d2 at *
  generalize fields.map prD = d3 at *
  generalize (list.length : Int) = n1 at *
  generalize (scores.length : Int) = n2 at *
  generalize (fields.length : Int) = n3 at *
  generalize okTexts list = P80 at *
  generalize setV list = P81 at *
  generalize scoresV scores = P82 at *
  generalize fieldsV fields = P83 at *
  generalize text.isEmpty = B0 at *
  generalize list.isEmpty = B1 at *
  generalize scores.isEmpty = B2 at *
  generalize fields.isEmpty = B3 at *
  generalize decide (text.length ≤ 40) = C at *
  subst hk ht hd
  cases B0 with
  | false => simp [-List.getD_eq_getElem?_getD, -List.map_map, evBody, evCode, evOps, evOper, evOp, opd, Env.get, Env.put, Env.keep, zipEnv, V.ok, V.sto, V.cells, D.cells, V.isAgg, binD, binInt, binStr, shInt, unD, eqOf, asI, leave, resOf, mapO, fzV, tupOf, view, view1, isData, hand, flatV, flatD, allD, mkAgg, mkVal, beq_lit, IntKind.bits, htake_self, htake_push, hget_hpush_self, hset_push, rowOf_self, okIn, lowIn, lowIn1, fzC_d, fzC_row, f19, eY, pk, pt, ld, tk, l1, l2, l3, xl, x0, y1, z1, y2, z2, y3, z3, p80, p81, p82, p83]
  | true =>
    cases B1 with
    | false => simp [-List.getD_eq_getElem?_getD, -List.map_map, evBody, evCode, evOps, evOper, evOp, opd, Env.get, Env.put, Env.keep, zipEnv, V.ok, V.sto, V.cells, D.cells, V.isAgg, binD, binInt, binStr, shInt, unD, eqOf, asI, leave, resOf, mapO, fzV, tupOf, view, view1, isData, hand, flatV, flatD, allD, mkAgg, mkVal, beq_lit, IntKind.bits, htake_self, htake_push, hget_hpush_self, hset_push, rowOf_self, okIn, lowIn, lowIn1, fzC_d, fzC_row, f19, eY, pk, pt, ld, tk, l1, l2, l3, xl, x0, y1, z1, y2, z2, y3, z3, p80, p81, p82, p83]
    | true =>
      cases B2 with
      | true => simp [-List.getD_eq_getElem?_getD, -List.map_map, evBody, evCode, evOps, evOper, evOp, opd, Env.get, Env.put, Env.keep, zipEnv, V.ok, V.sto, V.cells, D.cells, V.isAgg, binD, binInt, binStr, shInt, unD, eqOf, asI, leave, resOf, mapO, fzV, tupOf, view, view1, isData, hand, flatV, flatD, allD, mkAgg, mkVal, beq_lit, IntKind.bits, htake_self, htake_push, hget_hpush_self, hset_push, rowOf_self, okIn, lowIn, lowIn1, fzC_d, fzC_row, f19, eY, pk, pt, ld, tk, l1, l2, l3, xl, x0, y1, z1, y2, z2, y3, z3, p80, p81, p82, p83]
      | false =>
        cases P82 with
        | false => simp [-List.getD_eq_getElem?_getD, -List.map_map, evBody, evCode, evOps, evOper, evOp, opd, Env.get, Env.put, Env.keep, zipEnv, V.ok, V.sto, V.cells, D.cells, V.isAgg, binD, binInt, binStr, shInt, unD, eqOf, asI, leave, resOf, mapO, fzV, tupOf, view, view1, isData, hand, flatV, flatD, allD, mkAgg, mkVal, beq_lit, IntKind.bits, htake_self, htake_push, hget_hpush_self, hset_push, rowOf_self, okIn, lowIn, lowIn1, fzC_d, fzC_row, f19, eY, pk, pt, ld, tk, l1, l2, l3, xl, x0, y1, z1, y2, z2, y3, z3, p80, p81, p82, p83]
        | true =>
          cases B3 with
          | false => simp [-List.getD_eq_getElem?_getD, -List.map_map, evBody, evCode, evOps, evOper, evOp, opd, Env.get, Env.put, Env.keep, zipEnv, V.ok, V.sto, V.cells, D.cells, V.isAgg, binD, binInt, binStr, shInt, unD, eqOf, asI, leave, resOf, mapO, fzV, tupOf, view, view1, isData, hand, flatV, flatD, allD, mkAgg, mkVal, beq_lit, IntKind.bits, htake_self, htake_push, hget_hpush_self, hset_push, rowOf_self, okIn, lowIn, lowIn1, fzC_d, fzC_row, f19, eY, pk, pt, ld, tk, l1, l2, l3, xl, x0, y1, z1, y2, z2, y3, z3, p80, p81, p82, p83]
          | true =>
            simp [-List.getD_eq_getElem?_getD, -List.map_map, evBody, evCode, evOps, evOper, evOp, opd, Env.get, Env.put, Env.keep, zipEnv, V.ok, V.sto, V.cells, D.cells, V.isAgg, binD, binInt, binStr, shInt, unD, eqOf, asI, leave, resOf, mapO, fzV, tupOf, view, view1, isData, hand, flatV, flatD, allD, mkAgg, mkVal, beq_lit, IntKind.bits, htake_self, htake_push, hget_hpush_self, hset_push, rowOf_self, okIn, lowIn, lowIn1, fzC_d, fzC_row, f19, eY, pk, pt, ld, tk, l1, l2, l3, xl, x0, y1, z1, y2, z2, y3, z3, p80, p81, p82, p83]
theorem e_19_k5 (H : Hp) (e : En) (hf : EnFit e) (hk : keyV e.key = true) (ht : tillV e.till = true) (hd : e.kind = 5) : ev R 19 [.d (enD e)] H = some (.d (.bool (enOk e)), H) := by
  refine ev_fn (fn := f19) rfl rfl ?_
  have pk : pureCall (ev R) 34 [.d (.str e.key)] = some (.d (.bool (keyV e.key))) := pureCall_eq (cl := ev R) fun H => e_34 H e.key
  have pt : pureCall (ev R) 20 [.d (.int .i64 e.till), .d (.int .i64 0), .d (.int .i64 2000000)] = some (.d (.bool (tillV e.till))) := p_20 e.till 0 2000000
  have p80 := pureCall_eq (cl := ev R) fun H => e_35 H e.list hf.list
  have p81 := pureCall_eq (cl := ev R) fun H => e_36 H e.list hf.list
  have p82 := pureCall_eq (cl := ev R) fun H => e_37 H e.scores hf.scores
  have p83 := pureCall_eq (cl := ev R) fun H => e_38 H e.fields hf.fields
  have x0 : (e.text = []) = (e.text.isEmpty = true) := by simp
  have y1 : ((e.list.length : Int) = 0) = (e.list.isEmpty = true) := by cases e.list <;> simp <;> try omega
  have z1 : (0 < (e.list.length : Int)) = (e.list.isEmpty = false) := by cases e.list <;> simp <;> try omega
  have y2 : ((e.scores.length : Int) = 0) = (e.scores.isEmpty = true) := by cases e.scores <;> simp <;> try omega
  have z2 : (0 < (e.scores.length : Int)) = (e.scores.isEmpty = false) := by cases e.scores <;> simp <;> try omega
  have y3 : ((e.fields.length : Int) = 0) = (e.fields.isEmpty = true) := by cases e.fields <;> simp <;> try omega
  have z3 : (0 < (e.fields.length : Int)) = (e.fields.isEmpty = false) := by cases e.fields <;> simp <;> try omega
  have l1 : ((e.list.map D.str).length : Int) = (e.list.length : Int) := by simp
  have l2 : ((e.scores.map scD).length : Int) = (e.scores.length : Int) := by simp
  have l3 : ((e.fields.map prD).length : Int) = (e.fields.length : Int) := by simp
  have xl : ((e.text.length : Int) ≤ 40) = (decide (e.text.length ≤ 40) = true) := by simp; omega
  have ld : ∀ j n, hload (hpush H (.row 0 7 [.d (.agg [.str e.key, .int .i64 e.till, .int .i64 e.kind, .str e.text, txts e.list, scs e.scores, prs e.fields])])) (hlen H) 0 0 j n = if j + n ≤ 7 then some ((([.d (.str e.key), .d (.int .i64 e.till), .d (.int .i64 e.kind), .d (.str e.text), .d (txts e.list), .d (scs e.scores), .d (prs e.fields)] : List V).drop j).take n) else none := fun j n => by
    simp [hload, rowOf_self, V.cells, D.cells]
  have tk := htake_push H (.row 0 7 [.d (.agg [.str e.key, .int .i64 e.till, .int .i64 e.kind, .str e.text, txts e.list, scs e.scores, prs e.fields])])
  unfold enOk kindV
  unfold enD
  simp only [txts, scs, prs] at *
  obtain ⟨key, till, kind, text, list, scores, fields⟩ := e
  simp only at *
  generalize keyV key = KV at *
  generalize tillV till = TV at *
  obtain ⟨Y, eY⟩ : ∃ Y, hpush H (.row 0 7 [.d (.agg [.str key, .int .i64 till, .int .i64 kind, .str text, .vals 1 (list.map D.str), .vals 2 (scores.map scD), .vals 2 (fields.map prD)])]) = Y := ⟨_, rfl⟩
  rw [eY] at ld tk
  generalize list.map D.str = d1 at *
  generalize scores.map scD = d2 at *
  generalize fields.map prD = d3 at *
  generalize (list.length : Int) = n1 at *
  generalize (scores.length : Int) = n2 at *
  generalize (fields.length : Int) = n3 at *
  generalize okTexts list = P80 at *
  generalize setV list = P81 at *
  generalize scoresV scores = P82 at *
  generalize fieldsV fields = P83 at *
  generalize text.isEmpty = B0 at *
  generalize list.isEmpty = B1 at *
  generalize scores.isEmpty = B2 at *
  generalize fields.isEmpty = B3 at *
  generalize decide (text.length ≤ 40) = C at *
  subst hk ht hd
  cases B0 with
  | false => simp [-List.getD_eq_getElem?_getD, -List.map_map, evBody, evCode, evOps, evOper, evOp, opd, Env.get, Env.put, Env.keep, zipEnv, V.ok, V.sto, V.cells, D.cells, V.isAgg, binD, binInt, binStr, shInt, unD, eqOf, asI, leave, resOf, mapO, fzV, tupOf, view, view1, isData, hand, flatV, flatD, allD, mkAgg, mkVal, beq_lit, IntKind.bits, htake_self, htake_push, hget_hpush_self, hset_push, rowOf_self, okIn, lowIn, lowIn1, fzC_d, fzC_row, f19, eY, pk, pt, ld, tk, l1, l2, l3, xl, x0, y1, z1, y2, z2, y3, z3, p80, p81, p82, p83]
  | true =>
    cases B1 with
    | false => simp [-List.getD_eq_getElem?_getD, -List.map_map, evBody, evCode, evOps, evOper, evOp, opd, Env.get, Env.put, Env.keep, zipEnv, V.ok, V.sto, V.cells, D.cells, V.isAgg, binD, binInt, binStr, shInt, unD, eqOf, asI, leave, resOf, mapO, fzV, tupOf, view, view1, isData, hand, flatV, flatD, allD, mkAgg, mkVal, beq_lit, IntKind.bits, htake_self, htake_push, hget_hpush_self, hset_push, rowOf_self, okIn, lowIn, lowIn1, fzC_d, fzC_row, f19, eY, pk, pt, ld, tk, l1, l2, l3, xl, x0, y1, z1, y2, z2, y3, z3, p80, p81, p82, p83]
    | true =>
      cases B2 with
      | false => simp [-List.getD_eq_getElem?_getD, -List.map_map, evBody, evCode, evOps, evOper, evOp, opd, Env.get, Env.put, Env.keep, zipEnv, V.ok, V.sto, V.cells, D.cells, V.isAgg, binD, binInt, binStr, shInt, unD, eqOf, asI, leave, resOf, mapO, fzV, tupOf, view, view1, isData, hand, flatV, flatD, allD, mkAgg, mkVal, beq_lit, IntKind.bits, htake_self, htake_push, hget_hpush_self, hset_push, rowOf_self, okIn, lowIn, lowIn1, fzC_d, fzC_row, f19, eY, pk, pt, ld, tk, l1, l2, l3, xl, x0, y1, z1, y2, z2, y3, z3, p80, p81, p82, p83]
      | true =>
        cases B3 with
        | true => simp [-List.getD_eq_getElem?_getD, -List.map_map, evBody, evCode, evOps, evOper, evOp, opd, Env.get, Env.put, Env.keep, zipEnv, V.ok, V.sto, V.cells, D.cells, V.isAgg, binD, binInt, binStr, shInt, unD, eqOf, asI, leave, resOf, mapO, fzV, tupOf, view, view1, isData, hand, flatV, flatD, allD, mkAgg, mkVal, beq_lit, IntKind.bits, htake_self, htake_push, hget_hpush_self, hset_push, rowOf_self, okIn, lowIn, lowIn1, fzC_d, fzC_row, f19, eY, pk, pt, ld, tk, l1, l2, l3, xl, x0, y1, z1, y2, z2, y3, z3, p80, p81, p82, p83]
        | false =>
          cases P83 with
          | false => simp [-List.getD_eq_getElem?_getD, -List.map_map, evBody, evCode, evOps, evOper, evOp, opd, Env.get, Env.put, Env.keep, zipEnv, V.ok, V.sto, V.cells, D.cells, V.isAgg, binD, binInt, binStr, shInt, unD, eqOf, asI, leave, resOf, mapO, fzV, tupOf, view, view1, isData, hand, flatV, flatD, allD, mkAgg, mkVal, beq_lit, IntKind.bits, htake_self, htake_push, hget_hpush_self, hset_push, rowOf_self, okIn, lowIn, lowIn1, fzC_d, fzC_row, f19, eY, pk, pt, ld, tk, l1, l2, l3, xl, x0, y1, z1, y2, z2, y3, z3, p80, p81, p82, p83]
          | true =>
            simp [-List.getD_eq_getElem?_getD, -List.map_map, evBody, evCode, evOps, evOper, evOp, opd, Env.get, Env.put, Env.keep, zipEnv, V.ok, V.sto, V.cells, D.cells, V.isAgg, binD, binInt, binStr, shInt, unD, eqOf, asI, leave, resOf, mapO, fzV, tupOf, view, view1, isData, hand, flatV, flatD, allD, mkAgg, mkVal, beq_lit, IntKind.bits, htake_self, htake_push, hget_hpush_self, hset_push, rowOf_self, okIn, lowIn, lowIn1, fzC_d, fzC_row, f19, eY, pk, pt, ld, tk, l1, l2, l3, xl, x0, y1, z1, y2, z2, y3, z3, p80, p81, p82, p83]
theorem e_19_k0 (H : Hp) (e : En) (hf : EnFit e) (hk : keyV e.key = true) (ht : tillV e.till = true) (a1 : ¬ e.kind = 1) (a2 : ¬ e.kind = 2) (a3 : ¬ e.kind = 3) (a4 : ¬ e.kind = 4) (a5 : ¬ e.kind = 5) : ev R 19 [.d (enD e)] H = some (.d (.bool (enOk e)), H) := by
  refine ev_fn (fn := f19) rfl rfl ?_
  have pk : pureCall (ev R) 34 [.d (.str e.key)] = some (.d (.bool (keyV e.key))) := pureCall_eq (cl := ev R) fun H => e_34 H e.key
  have pt : pureCall (ev R) 20 [.d (.int .i64 e.till), .d (.int .i64 0), .d (.int .i64 2000000)] = some (.d (.bool (tillV e.till))) := p_20 e.till 0 2000000
  have p80 := pureCall_eq (cl := ev R) fun H => e_35 H e.list hf.list
  have p81 := pureCall_eq (cl := ev R) fun H => e_36 H e.list hf.list
  have p82 := pureCall_eq (cl := ev R) fun H => e_37 H e.scores hf.scores
  have p83 := pureCall_eq (cl := ev R) fun H => e_38 H e.fields hf.fields
  have x0 : (e.text = []) = (e.text.isEmpty = true) := by simp
  have y1 : ((e.list.length : Int) = 0) = (e.list.isEmpty = true) := by cases e.list <;> simp <;> try omega
  have z1 : (0 < (e.list.length : Int)) = (e.list.isEmpty = false) := by cases e.list <;> simp <;> try omega
  have y2 : ((e.scores.length : Int) = 0) = (e.scores.isEmpty = true) := by cases e.scores <;> simp <;> try omega
  have z2 : (0 < (e.scores.length : Int)) = (e.scores.isEmpty = false) := by cases e.scores <;> simp <;> try omega
  have y3 : ((e.fields.length : Int) = 0) = (e.fields.isEmpty = true) := by cases e.fields <;> simp <;> try omega
  have z3 : (0 < (e.fields.length : Int)) = (e.fields.isEmpty = false) := by cases e.fields <;> simp <;> try omega
  have l1 : ((e.list.map D.str).length : Int) = (e.list.length : Int) := by simp
  have l2 : ((e.scores.map scD).length : Int) = (e.scores.length : Int) := by simp
  have l3 : ((e.fields.map prD).length : Int) = (e.fields.length : Int) := by simp
  have xl : ((e.text.length : Int) ≤ 40) = (decide (e.text.length ≤ 40) = true) := by simp; omega
  have ld : ∀ j n, hload (hpush H (.row 0 7 [.d (.agg [.str e.key, .int .i64 e.till, .int .i64 e.kind, .str e.text, txts e.list, scs e.scores, prs e.fields])])) (hlen H) 0 0 j n = if j + n ≤ 7 then some ((([.d (.str e.key), .d (.int .i64 e.till), .d (.int .i64 e.kind), .d (.str e.text), .d (txts e.list), .d (scs e.scores), .d (prs e.fields)] : List V).drop j).take n) else none := fun j n => by
    simp [hload, rowOf_self, V.cells, D.cells]
  have tk := htake_push H (.row 0 7 [.d (.agg [.str e.key, .int .i64 e.till, .int .i64 e.kind, .str e.text, txts e.list, scs e.scores, prs e.fields])])
  unfold enOk kindV
  unfold enD
  simp only [txts, scs, prs] at *
  obtain ⟨key, till, kind, text, list, scores, fields⟩ := e
  simp only at *
  generalize keyV key = KV at *
  generalize tillV till = TV at *
  obtain ⟨Y, eY⟩ : ∃ Y, hpush H (.row 0 7 [.d (.agg [.str key, .int .i64 till, .int .i64 kind, .str text, .vals 1 (list.map D.str), .vals 2 (scores.map scD), .vals 2 (fields.map prD)])]) = Y := ⟨_, rfl⟩
  rw [eY] at ld tk
  generalize list.map D.str = d1 at *
  generalize scores.map scD = d2 at *
  generalize fields.map prD = d3 at *
  generalize (list.length : Int) = n1 at *
  generalize (scores.length : Int) = n2 at *
  generalize (fields.length : Int) = n3 at *
  generalize okTexts list = P80 at *
  generalize setV list = P81 at *
  generalize scoresV scores = P82 at *
  generalize fieldsV fields = P83 at *
  generalize text.isEmpty = B0 at *
  generalize list.isEmpty = B1 at *
  generalize scores.isEmpty = B2 at *
  generalize fields.isEmpty = B3 at *
  generalize decide (text.length ≤ 40) = C at *
  subst hk ht
  simp [-List.getD_eq_getElem?_getD, -List.map_map, evBody, evCode, evOps, evOper, evOp, opd, Env.get, Env.put, Env.keep, zipEnv, V.ok, V.sto, V.cells, D.cells, V.isAgg, binD, binInt, binStr, shInt, unD, eqOf, asI, leave, resOf, mapO, fzV, tupOf, view, view1, isData, hand, flatV, flatD, allD, mkAgg, mkVal, beq_lit, IntKind.bits, htake_self, htake_push, hget_hpush_self, hset_push, rowOf_self, okIn, lowIn, lowIn1, fzC_d, fzC_row, f19, eY, pk, pt, ld, tk, l1, l2, l3, xl, x0, y1, z1, y2, z2, y3, z3, a1, a2, a3, a4, a5]
theorem e_19 (H : Hp) (e : En) (hf : EnFit e) : ev R 19 [.d (enD e)] H = some (.d (.bool (enOk e)), H) := by
  cases hk : keyV e.key with
  | false => exact e_19_no H e hf (.inl hk)
  | true =>
    cases ht : tillV e.till with
    | false => exact e_19_no H e hf (.inr ht)
    | true =>
      by_cases a1 : e.kind = 1
      · exact e_19_k1 H e hf hk ht a1
      by_cases a2 : e.kind = 2
      · exact e_19_k2 H e hf hk ht a2
      by_cases a3 : e.kind = 3
      · exact e_19_k3 H e hf hk ht a3
      by_cases a4 : e.kind = 4
      · exact e_19_k4 H e hf hk ht a4
      by_cases a5 : e.kind = 5
      · exact e_19_k5 H e hf hk ht a5
      exact e_19_k0 H e hf hk ht a1 a2 a3 a4 a5
end Go.Proofs.YtjdmiodinhlchaaDoor.Code
/- Which entries may be: what the code under test says. -/
namespace Go.Proofs.YtjdmiodinhlchaaDoor.Code
open Go Go.Ev Go.Proofs
set_option maxRecDepth 100000
set_option linter.unusedSimpArgs false
set_option linter.unusedVariables false
theorem e_26_no (H : Hp) (e : En) (hf : EnFit e) (hk : keyV e.key = false ∨ tillV e.till = false) : ev R 26 [.d (enD e)] H = some (.d (.bool (enOk e)), H) := by
  refine ev_fn (fn := f26) rfl rfl ?_
  have pk : pureCall (ev R) 43 [.d (.str e.key)] = some (.d (.bool (keyV e.key))) := pureCall_eq (cl := ev R) fun H => e_43 H e.key
  have pt : pureCall (ev R) 25 [.d (.int .i64 e.till), .d (.int .i64 0), .d (.int .i64 2000000)] = some (.d (.bool (tillV e.till))) := p_25 e.till 0 2000000
  have p80 := pureCall_eq (cl := ev R) fun H => e_44 H e.list hf.list
  have p81 := pureCall_eq (cl := ev R) fun H => e_45 H e.list hf.list
  have p82 := pureCall_eq (cl := ev R) fun H => e_46 H e.scores hf.scores
  have p83 := pureCall_eq (cl := ev R) fun H => e_47 H e.fields hf.fields
  have x0 : (e.text = []) = (e.text.isEmpty = true) := by simp
  have y1 : ((e.list.length : Int) = 0) = (e.list.isEmpty = true) := by cases e.list <;> simp <;> try omega
  have z1 : (0 < (e.list.length : Int)) = (e.list.isEmpty = false) := by cases e.list <;> simp <;> try omega
  have y2 : ((e.scores.length : Int) = 0) = (e.scores.isEmpty = true) := by cases e.scores <;> simp <;> try omega
  have z2 : (0 < (e.scores.length : Int)) = (e.scores.isEmpty = false) := by cases e.scores <;> simp <;> try omega
  have y3 : ((e.fields.length : Int) = 0) = (e.fields.isEmpty = true) := by cases e.fields <;> simp <;> try omega
  have z3 : (0 < (e.fields.length : Int)) = (e.fields.isEmpty = false) := by cases e.fields <;> simp <;> try omega
  have l1 : ((e.list.map D.str).length : Int) = (e.list.length : Int) := by simp
  have l2 : ((e.scores.map scD).length : Int) = (e.scores.length : Int) := by simp
  have l3 : ((e.fields.map prD).length : Int) = (e.fields.length : Int) := by simp
  have xl : ((e.text.length : Int) ≤ 40) = (decide (e.text.length ≤ 40) = true) := by simp; omega
  have ld : ∀ j n, hload (hpush H (.row 0 7 [.d (.agg [.str e.key, .int .i64 e.till, .int .i64 e.kind, .str e.text, txts e.list, scs e.scores, prs e.fields])])) (hlen H) 0 0 j n = if j + n ≤ 7 then some ((([.d (.str e.key), .d (.int .i64 e.till), .d (.int .i64 e.kind), .d (.str e.text), .d (txts e.list), .d (scs e.scores), .d (prs e.fields)] : List V).drop j).take n) else none := fun j n => by
    simp [hload, rowOf_self, V.cells, D.cells]
  have tk := htake_push H (.row 0 7 [.d (.agg [.str e.key, .int .i64 e.till, .int .i64 e.kind, .str e.text, txts e.list, scs e.scores, prs e.fields])])
  unfold enOk kindV
  unfold enD
  simp only [txts, scs, prs] at *
  obtain ⟨key, till, kind, text, list, scores, fields⟩ := e
  simp only at *
  generalize keyV key = KV at *
  generalize tillV till = TV at *
  obtain ⟨Y, eY⟩ : ∃ Y, hpush H (.row 0 7 [.d (.agg [.str key, .int .i64 till, .int .i64 kind, .str text, .vals 1 (list.map D.str), .vals 2 (scores.map scD), .vals 2 (fields.map prD)])]) = Y := ⟨_, rfl⟩
  rw [eY] at ld tk
  generalize list.map D.str = d1 at *
  generalize scores.map scD = d2 at *
  generalize fields.map prD = d3 at *
  generalize (list.length : Int) = n1 at *
  generalize (scores.length : Int) = n2 at *
  generalize (fields.length : Int) = n3 at *
  generalize okTexts list = P80 at *
  generalize setV list = P81 at *
  generalize scoresV scores = P82 at *
  generalize fieldsV fields = P83 at *
  generalize text.isEmpty = B0 at *
  generalize list.isEmpty = B1 at *
  generalize scores.isEmpty = B2 at *
  generalize fields.isEmpty = B3 at *
  generalize decide (text.length ≤ 40) = C at *
  cases KV with
  | false => simp [-List.getD_eq_getElem?_getD, -List.map_map, evBody, evCode, evOps, evOper, evOp, opd, Env.get, Env.put, Env.keep, zipEnv, V.ok, V.sto, V.cells, D.cells, V.isAgg, binD, binInt, binStr, shInt, unD, eqOf, asI, leave, resOf, mapO, fzV, tupOf, view, view1, isData, hand, flatV, flatD, allD, mkAgg, mkVal, beq_lit, IntKind.bits, htake_self, htake_push, hget_hpush_self, hset_push, rowOf_self, okIn, lowIn, lowIn1, fzC_d, fzC_row, f26, eY, pk, pt, ld, tk, l1, l2, l3, xl]
  | true =>
    cases TV with
    | false => simp [-List.getD_eq_getElem?_getD, -List.map_map, evBody, evCode, evOps, evOper, evOp, opd, Env.get, Env.put, Env.keep, zipEnv, V.ok, V.sto, V.cells, D.cells, V.isAgg, binD, binInt, binStr, shInt, unD, eqOf, asI, leave, resOf, mapO, fzV, tupOf, view, view1, isData, hand, flatV, flatD, allD, mkAgg, mkVal, beq_lit, IntKind.bits, htake_self, htake_push, hget_hpush_self, hset_push, rowOf_self, okIn, lowIn, lowIn1, fzC_d, fzC_row, f26, eY, pk, pt, ld, tk, l1, l2, l3, xl]
    | true => simp at hk
set_option maxHeartbeats 800000 in
theorem e_26_k1 (H : Hp) (e : En) (hf : EnFit e) (hk : keyV e.key = true) (ht : tillV e.till = true) (hd : e.kind = 1) : ev R 26 [.d (enD e)] H = some (.d (.bool (enOk e)), H) := by
  refine ev_fn (fn := f26) rfl rfl ?_
  have pk : pureCall (ev R) 43 [.d (.str e.key)] = some (.d (.bool (keyV e.key))) := pureCall_eq (cl := ev R) fun H => e_43 H e.key
  have pt : pureCall (ev R) 25 [.d (.int .i64 e.till), .d (.int .i64 0), .d (.int .i64 2000000)] = some (.d (.bool (tillV e.till))) := p_25 e.till 0 2000000
  have p80 := pureCall_eq (cl := ev R) fun H => e_44 H e.list hf.list
  have p81 := pureCall_eq (cl := ev R) fun H => e_45 H e.list hf.list
  have p82 := pureCall_eq (cl := ev R) fun H => e_46 H e.scores hf.scores
  have p83 := pureCall_eq (cl := ev R) fun H => e_47 H e.fields hf.fields
  have x0 : (e.text = []) = (e.text.isEmpty = true) := by simp
  have y1 : ((e.list.length : Int) = 0) = (e.list.isEmpty = true) := by cases e.list <;> simp <;> try omega
  have z1 : (0 < (e.list.length : Int)) = (e.list.isEmpty = false) := by cases e.list <;> simp <;> try omega
  have y2 : ((e.scores.length : Int) = 0) = (e.scores.isEmpty = true) := by cases e.scores <;> simp <;> try omega
  have z2 : (0 < (e.scores.length : Int)) = (e.scores.isEmpty = false) := by cases e.scores <;> simp <;> try omega
  have y3 : ((e.fields.length : Int) = 0) = (e.fields.isEmpty = true) := by cases e.fields <;> simp <;> try omega
  have z3 : (0 < (e.fields.length : Int)) = (e.fields.isEmpty = false) := by cases e.fields <;> simp <;> try omega
  have l1 : ((e.list.map D.str).length : Int) = (e.list.length : Int) := by simp
  have l2 : ((e.scores.map scD).length : Int) = (e.scores.length : Int) := by simp
  have l3 : ((e.fields.map prD).length : Int) = (e.fields.length : Int) := by simp
  have xl : ((e.text.length : Int) ≤ 40) = (decide (e.text.length ≤ 40) = true) := by simp; omega
  have ld : ∀ j n, hload (hpush H (.row 0 7 [.d (.agg [.str e.key, .int .i64 e.till, .int .i64 e.kind, .str e.text, txts e.list, scs e.scores, prs e.fields])])) (hlen H) 0 0 j n = if j + n ≤ 7 then some ((([.d (.str e.key), .d (.int .i64 e.till), .d (.int .i64 e.kind), .d (.str e.text), .d (txts e.list), .d (scs e.scores), .d (prs e.fields)] : List V).drop j).take n) else none := fun j n => by
    simp [hload, rowOf_self, V.cells, D.cells]
  have tk := htake_push H (.row 0 7 [.d (.agg [.str e.key, .int .i64 e.till, .int .i64 e.kind, .str e.text, txts e.list, scs e.scores, prs e.fields])])
  unfold enOk kindV
  unfold enD
  simp only [txts, scs, prs] at *
  obtain ⟨key, till, kind, text, list, scores, fields⟩ := e
  simp only at *
  generalize keyV key = KV at *
  generalize tillV till = TV at *
  obtain ⟨Y, eY⟩ : ∃ Y, hpush H (.row 0 7 [.d (.agg [.str key, .int .i64 till, .int .i64 kind, .str text, .vals 1 (list.map D.str), .vals 2 (scores.map scD), .vals 2 (fields.map prD)])]) = Y := ⟨_, rfl⟩
  rw [eY] at ld tk
  generalize list.map D.str = d1 at *
  generalize scores.map scD = d2 at *
  generalize fields.map prD = d3 at *
  generalize (list.length : Int) = n1 at *
  generalize (scores.length : Int) = n2 at *
  generalize (fields.length : Int) = n3 at *
  generalize okTexts list = P80 at *
  generalize setV list = P81 at *
  generalize scoresV scores = P82 at *
  generalize fieldsV fields = P83 at *
  generalize text.isEmpty = B0 at *
  generalize list.isEmpty = B1 at *
  generalize scores.isEmpty = B2 at *
  generalize fields.isEmpty = B3 at *
  generalize decide (text.length ≤ 40) = C at *
  subst hk ht hd
  cases C with
  | false => simp [-List.getD_eq_getElem?_getD, -List.map_map, evBody, evCode, evOps, evOper, evOp, opd, Env.get, Env.put, Env.keep, zipEnv, V.ok, V.sto, V.cells, D.cells, V.isAgg, binD, binInt, binStr, shInt, unD, eqOf, asI, leave, resOf, mapO, fzV, tupOf, view, view1, isData, hand, flatV, flatD, allD, mkAgg, mkVal, beq_lit, IntKind.bits, htake_self, htake_push, hget_hpush_self, hset_push, rowOf_self, okIn, lowIn, lowIn1, fzC_d, fzC_row, f26, eY, pk, pt, ld, tk, l1, l2, l3, xl, x0, y1, z1, y2, z2, y3, z3]
  | true =>
    cases B1 with
    | false => simp [-List.getD_eq_getElem?_getD, -List.map_map, evBody, evCode, evOps, evOper, evOp, opd, Env.get, Env.put, Env.keep, zipEnv, V.ok, V.sto, V.cells, D.cells, V.isAgg, binD, binInt, binStr, shInt, unD, eqOf, asI, leave, resOf, mapO, fzV, tupOf, view, view1, isData, hand, flatV, flatD, allD, mkAgg, mkVal, beq_lit, IntKind.bits, htake_self, htake_push, hget_hpush_self, hset_push, rowOf_self, okIn, lowIn, lowIn1, fzC_d, fzC_row, f26, eY, pk, pt, ld, tk, l1, l2, l3, xl, x0, y1, z1, y2, z2, y3, z3]
    | true =>
      cases B2 with
      | false => simp [-List.getD_eq_getElem?_getD, -List.map_map, evBody, evCode, evOps, evOper, evOp, opd, Env.get, Env.put, Env.keep, zipEnv, V.ok, V.sto, V.cells, D.cells, V.isAgg, binD, binInt, binStr, shInt, unD, eqOf, asI, leave, resOf, mapO, fzV, tupOf, view, view1, isData, hand, flatV, flatD, allD, mkAgg, mkVal, beq_lit, IntKind.bits, htake_self, htake_push, hget_hpush_self, hset_push, rowOf_self, okIn, lowIn, lowIn1, fzC_d, fzC_row, f26, eY, pk, pt, ld, tk, l1, l2, l3, xl, x0, y1, z1, y2, z2, y3, z3]
      | true =>
        cases B3 with
        | false => simp [-List.getD_eq_getElem?_getD, -List.map_map, evBody, evCode, evOps, evOper, evOp, opd, Env.get, Env.put, Env.keep, zipEnv, V.ok, V.sto, V.cells, D.cells, V.isAgg, binD, binInt, binStr, shInt, unD, eqOf, asI, leave, resOf, mapO, fzV, tupOf, view, view1, isData, hand, flatV, flatD, allD, mkAgg, mkVal, beq_lit, IntKind.bits, htake_self, htake_push, hget_hpush_self, hset_push, rowOf_self, okIn, lowIn, lowIn1, fzC_d, fzC_row, f26, eY, pk, pt, ld, tk, l1, l2, l3, xl, x0, y1, z1, y2, z2, y3, z3]
        | true =>
          simp [-List.getD_eq_getElem?_getD, -List.map_map, evBody, evCode, evOps, evOper, evOp, opd, Env.get, Env.put, Env.keep, zipEnv, V.ok, V.sto, V.cells, D.cells, V.isAgg, binD, binInt, binStr, shInt, unD, eqOf, asI, leave, resOf, mapO, fzV, tupOf, view, view1, isData, hand, flatV, flatD, allD, mkAgg, mkVal, beq_lit, IntKind.bits, htake_self, htake_push, hget_hpush_self, hset_push, rowOf_self, okIn, lowIn, lowIn1, fzC_d, fzC_row, f26, eY, pk, pt, ld, tk, l1, l2, l3, xl, x0, y1, z1, y2, z2, y3, z3]
set_option maxHeartbeats 800000 in
theorem e_26_k2 (H : Hp) (e : En) (hf : EnFit e) (hk : keyV e.key = true) (ht : tillV e.till = true) (hd : e.kind = 2) : ev R 26 [.d (enD e)] H = some (.d (.bool (enOk e)), H) := by
  refine ev_fn (fn := f26) rfl rfl ?_
  have pk : pureCall (ev R) 43 [.d (.str e.key)] = some (.d (.bool (keyV e.key))) := pureCall_eq (cl := ev R) fun H => e_43 H e.key
  have pt : pureCall (ev R) 25 [.d (.int .i64 e.till), .d (.int .i64 0), .d (.int .i64 2000000)] = some (.d (.bool (tillV e.till))) := p_25 e.till 0 2000000
  have p80 := pureCall_eq (cl := ev R) fun H => e_44 H e.list hf.list
  have p81 := pureCall_eq (cl := ev R) fun H => e_45 H e.list hf.list
  have p82 := pureCall_eq (cl := ev R) fun H => e_46 H e.scores hf.scores
  have p83 := pureCall_eq (cl := ev R) fun H => e_47 H e.fields hf.fields
  have x0 : (e.text = []) = (e.text.isEmpty = true) := by simp
  have y1 : ((e.list.length : Int) = 0) = (e.list.isEmpty = true) := by cases e.list <;> simp <;> try omega
  have z1 : (0 < (e.list.length : Int)) = (e.list.isEmpty = false) := by cases e.list <;> simp <;> try omega
  have y2 : ((e.scores.length : Int) = 0) = (e.scores.isEmpty = true) := by cases e.scores <;> simp <;> try omega
  have z2 : (0 < (e.scores.length : Int)) = (e.scores.isEmpty = false) := by cases e.scores <;> simp <;> try omega
  have y3 : ((e.fields.length : Int) = 0) = (e.fields.isEmpty = true) := by cases e.fields <;> simp <;> try omega
  have z3 : (0 < (e.fields.length : Int)) = (e.fields.isEmpty = false) := by cases e.fields <;> simp <;> try omega
  have l1 : ((e.list.map D.str).length : Int) = (e.list.length : Int) := by simp
  have l2 : ((e.scores.map scD).length : Int) = (e.scores.length : Int) := by simp
  have l3 : ((e.fields.map prD).length : Int) = (e.fields.length : Int) := by simp
  have xl : ((e.text.length : Int) ≤ 40) = (decide (e.text.length ≤ 40) = true) := by simp; omega
  have ld : ∀ j n, hload (hpush H (.row 0 7 [.d (.agg [.str e.key, .int .i64 e.till, .int .i64 e.kind, .str e.text, txts e.list, scs e.scores, prs e.fields])])) (hlen H) 0 0 j n = if j + n ≤ 7 then some ((([.d (.str e.key), .d (.int .i64 e.till), .d (.int .i64 e.kind), .d (.str e.text), .d (txts e.list), .d (scs e.scores), .d (prs e.fields)] : List V).drop j).take n) else none := fun j n => by
    simp [hload, rowOf_self, V.cells, D.cells]
  have tk := htake_push H (.row 0 7 [.d (.agg [.str e.key, .int .i64 e.till, .int .i64 e.kind, .str e.text, txts e.list, scs e.scores, prs e.fields])])
  unfold enOk kindV
  unfold enD
  simp only [txts, scs, prs] at *
  obtain ⟨key, till, kind, text, list, scores, fields⟩ := e
  simp only at *
  generalize keyV key = KV at *
  generalize tillV till = TV at *
  obtain ⟨Y, eY⟩ : ∃ Y, hpush H (.row 0 7 [.d (.agg [.str key, .int .i64 till, .int .i64 kind, .str text, .vals 1 (list.map D.str), .vals 2 (scores.map scD), .vals 2 (fields.map prD)])]) = Y := ⟨_, rfl⟩
  rw [eY] at ld tk
  generalize list.map D.str = d1 at *
  generalize scores.map scD = d2 at *
  generalize fields.map prD = d3 at *
  generalize (list.length : Int) = n1 at *
  generalize (scores.length : Int) = n2 at *
  generalize (fields.length : Int) = n3 at *
  generalize okTexts list = P80 at *
  generalize setV list = P81 at *
  generalize scoresV scores = P82 at *
  generalize fieldsV fields = P83 at *
  generalize text.isEmpty = B0 at *
  generalize list.isEmpty = B1 at *
  generalize scores.isEmpty = B2 at *
  generalize fields.isEmpty = B3 at *
  generalize decide (text.length ≤ 40) = C at *
  subst hk ht hd
  cases B1 with
  | true => simp [-List.getD_eq_getElem?_getD, -List.map_map, evBody, evCode, evOps, evOper, evOp, opd, Env.get, Env.put, Env.keep, zipEnv, V.ok, V.sto, V.cells, D.cells, V.isAgg, binD, binInt, binStr, shInt, unD, eqOf, asI, leave, resOf, mapO, fzV, tupOf, view, view1, isData, hand, flatV, flatD, allD, mkAgg, mkVal, beq_lit, IntKind.bits, htake_self, htake_push, hget_hpush_self, hset_push, rowOf_self, okIn, lowIn, lowIn1, fzC_d, fzC_row, f26, eY, pk, pt, ld, tk, l1, l2, l3, xl, x0, y1, z1, y2, z2, y3, z3, p80]
  | false =>
    cases P80 with
    | false => simp [-List.getD_eq_getElem?_getD, -List.map_map, evBody, evCode, evOps, evOper, evOp, opd, Env.get, Env.put, Env.keep, zipEnv, V.ok, V.sto, V.cells, D.cells, V.isAgg, binD, binInt, binStr, shInt, unD, eqOf, asI, leave, resOf, mapO, fzV, tupOf, view, view1, isData, hand, flatV, flatD, allD, mkAgg, mkVal, beq_lit, IntKind.bits, htake_self, htake_push, hget_hpush_self, hset_push, rowOf_self, okIn, lowIn, lowIn1, fzC_d, fzC_row, f26, eY, pk, pt, ld, tk, l1, l2, l3, xl, x0, y1, z1, y2, z2, y3, z3, p80]
    | true =>
      cases B0 with
      | false => simp [-List.getD_eq_getElem?_getD, -List.map_map, evBody, evCode, evOps, evOper, evOp, opd, Env.get, Env.put, Env.keep, zipEnv, V.ok, V.sto, V.cells, D.cells, V.isAgg, binD, binInt, binStr, shInt, unD, eqOf, asI, leave, resOf, mapO, fzV, tupOf, view, view1, isData, hand, flatV, flatD, allD, mkAgg, mkVal, beq_lit, IntKind.bits, htake_self, htake_push, hget_hpush_self, hset_push, rowOf_self, okIn, lowIn, lowIn1, fzC_d, fzC_row, f26, eY, pk, pt, ld, tk, l1, l2, l3, xl, x0, y1, z1, y2, z2, y3, z3, p80]
      | true =>
        cases B2 with
        | false => simp [-List.getD_eq_getElem?_getD, -List.map_map, evBody, evCode, evOps, evOper, evOp, opd, Env.get, Env.put, Env.keep, zipEnv, V.ok, V.sto, V.cells, D.cells, V.isAgg, binD, binInt, binStr, shInt, unD, eqOf, asI, leave, resOf, mapO, fzV, tupOf, view, view1, isData, hand, flatV, flatD, allD, mkAgg, mkVal, beq_lit, IntKind.bits, htake_self, htake_push, hget_hpush_self, hset_push, rowOf_self, okIn, lowIn, lowIn1, fzC_d, fzC_row, f26, eY, pk, pt, ld, tk, l1, l2, l3, xl, x0, y1, z1, y2, z2, y3, z3, p80]
        | true =>
          cases B3 with
          | false => simp [-List.getD_eq_getElem?_getD, -List.map_map, evBody, evCode, evOps, evOper, evOp, opd, Env.get, Env.put, Env.keep, zipEnv, V.ok, V.sto, V.cells, D.cells, V.isAgg, binD, binInt, binStr, shInt, unD, eqOf, asI, leave, resOf, mapO, fzV, tupOf, view, view1, isData, hand, flatV, flatD, allD, mkAgg, mkVal, beq_lit, IntKind.bits, htake_self, htake_push, hget_hpush_self, hset_push, rowOf_self, okIn, lowIn, lowIn1, fzC_d, fzC_row, f26, eY, pk, pt, ld, tk, l1, l2, l3, xl, x0, y1, z1, y2, z2, y3, z3, p80]
          | true =>
            simp [-List.getD_eq_getElem?_getD, -List.map_map, evBody, evCode, evOps, evOper, evOp, opd, Env.get, Env.put, Env.keep, zipEnv, V.ok, V.sto, V.cells, D.cells, V.isAgg, binD, binInt, binStr, shInt, unD, eqOf, asI, leave, resOf, mapO, fzV, tupOf, view, view1, isData, hand, flatV, flatD, allD, mkAgg, mkVal, beq_lit, IntKind.bits, htake_self, htake_push, hget_hpush_self, hset_push, rowOf_self, okIn, lowIn, lowIn1, fzC_d, fzC_row, f26, eY, pk, pt, ld, tk, l1, l2, l3, xl, x0, y1, z1, y2, z2, y3, z3, p80]
set_option maxHeartbeats 800000 in
theorem e_26_k3 (H : Hp) (e : En) (hf : EnFit e) (hk : keyV e.key = true) (ht : tillV e.till = true) (hd : e.kind = 3) : ev R 26 [.d (enD e)] H = some (.d (.bool (enOk e)), H) := by
  refine ev_fn (fn := f26) rfl rfl ?_
  have pk : pureCall (ev R) 43 [.d (.str e.key)] = some (.d (.bool (keyV e.key))) := pureCall_eq (cl := ev R) fun H => e_43 H e.key
  have pt : pureCall (ev R) 25 [.d (.int .i64 e.till), .d (.int .i64 0), .d (.int .i64 2000000)] = some (.d (.bool (tillV e.till))) := p_25 e.till 0 2000000
  have p80 := pureCall_eq (cl := ev R) fun H => e_44 H e.list hf.list
  have p81 := pureCall_eq (cl := ev R) fun H => e_45 H e.list hf.list
  have p82 := pureCall_eq (cl := ev R) fun H => e_46 H e.scores hf.scores
  have p83 := pureCall_eq (cl := ev R) fun H => e_47 H e.fields hf.fields
  have x0 : (e.text = []) = (e.text.isEmpty = true) := by simp
  have y1 : ((e.list.length : Int) = 0) = (e.list.isEmpty = true) := by cases e.list <;> simp <;> try omega
  have z1 : (0 < (e.list.length : Int)) = (e.list.isEmpty = false) := by cases e.list <;> simp <;> try omega
  have y2 : ((e.scores.length : Int) = 0) = (e.scores.isEmpty = true) := by cases e.scores <;> simp <;> try omega
  have z2 : (0 < (e.scores.length : Int)) = (e.scores.isEmpty = false) := by cases e.scores <;> simp <;> try omega
  have y3 : ((e.fields.length : Int) = 0) = (e.fields.isEmpty = true) := by cases e.fields <;> simp <;> try omega
  have z3 : (0 < (e.fields.length : Int)) = (e.fields.isEmpty = false) := by cases e.fields <;> simp <;> try omega
  have l1 : ((e.list.map D.str).length : Int) = (e.list.length : Int) := by simp
  have l2 : ((e.scores.map scD).length : Int) = (e.scores.length : Int) := by simp
  have l3 : ((e.fields.map prD).length : Int) = (e.fields.length : Int) := by simp
  have xl : ((e.text.length : Int) ≤ 40) = (decide (e.text.length ≤ 40) = true) := by simp; omega
  have ld : ∀ j n, hload (hpush H (.row 0 7 [.d (.agg [.str e.key, .int .i64 e.till, .int .i64 e.kind, .str e.text, txts e.list, scs e.scores, prs e.fields])])) (hlen H) 0 0 j n = if j + n ≤ 7 then some ((([.d (.str e.key), .d (.int .i64 e.till), .d (.int .i64 e.kind), .d (.str e.text), .d (txts e.list), .d (scs e.scores), .d (prs e.fields)] : List V).drop j).take n) else none := fun j n => by
    simp [hload, rowOf_self, V.cells, D.cells]
  have tk := htake_push H (.row 0 7 [.d (.agg [.str e.key, .int .i64 e.till, .int .i64 e.kind, .str e.text, txts e.list, scs e.scores, prs e.fields])])
  unfold enOk kindV
  unfold enD
  simp only [txts, scs, prs] at *
  obtain ⟨key, till, kind, text, list, scores, fields⟩ := e
  simp only at *
  generalize keyV key = KV at *
  generalize tillV till = TV at *
  obtain ⟨Y, eY⟩ : ∃ Y, hpush H (.row 0 7 [.d (.agg [.str key, .int .i64 till, .int .i64 kind, .str text, .vals 1 (list.map D.str), .vals 2 (scores.map scD), .vals 2 (fields.map prD)])]) = Y := ⟨_, rfl⟩
  rw [eY] at ld tk
  generalize list.map D.str = d1 at *
  generalize scores.map scD = d2 at *
  generalize fields.map prD = d3 at *
  generalize (list.length : Int) = n1 at *
  generalize (scores.length : Int) = n2 at *
  generalize (fields.length : Int) = n3 at *
  generalize okTexts list = P80 at *
  generalize setV list = P81 at *
  generalize scoresV scores = P82 at *
  generalize fieldsV fields = P83 at *
  generalize text.isEmpty = B0 at *
  generalize list.isEmpty = B1 at *
  generalize scores.isEmpty = B2 at *
  generalize fields.isEmpty = B3 at *
  generalize decide (text.length ≤ 40) = C at *
  subst hk ht hd
  cases B1 with
  | true => simp [-List.getD_eq_getElem?_getD, -List.map_map, evBody, evCode, evOps, evOper, evOp, opd, Env.get, Env.put, Env.keep, zipEnv, V.ok, V.sto, V.cells, D.cells, V.isAgg, binD, binInt, binStr, shInt, unD, eqOf, asI, leave, resOf, mapO, fzV, tupOf, view, view1, isData, hand, flatV, flatD, allD, mkAgg, mkVal, beq_lit, IntKind.bits, htake_self, htake_push, hget_hpush_self, hset_push, rowOf_self, okIn, lowIn, lowIn1, fzC_d, fzC_row, f26, eY, pk, pt, ld, tk, l1, l2, l3, xl, x0, y1, z1, y2, z2, y3, z3, p81]
  | false =>
    cases P81 with
    | false => simp [-List.getD_eq_getElem?_getD, -List.map_map, evBody, evCode, evOps, evOper, evOp, opd, Env.get, Env.put, Env.keep, zipEnv, V.ok, V.sto, V.cells, D.cells, V.isAgg, binD, binInt, binStr, shInt, unD, eqOf, asI, leave, resOf, mapO, fzV, tupOf, view, view1, isData, hand, flatV, flatD, allD, mkAgg, mkVal, beq_lit, IntKind.bits, htake_self, htake_push, hget_hpush_self, hset_push, rowOf_self, okIn, lowIn, lowIn1, fzC_d, fzC_row, f26, eY, pk, pt, ld, tk, l1, l2, l3, xl, x0, y1, z1, y2, z2, y3, z3, p81]
    | true =>
      cases B0 with
      | false => simp [-List.getD_eq_getElem?_getD, -List.map_map, evBody, evCode, evOps, evOper, evOp, opd, Env.get, Env.put, Env.keep, zipEnv, V.ok, V.sto, V.cells, D.cells, V.isAgg, binD, binInt, binStr, shInt, unD, eqOf, asI, leave, resOf, mapO, fzV, tupOf, view, view1, isData, hand, flatV, flatD, allD, mkAgg, mkVal, beq_lit, IntKind.bits, htake_self, htake_push, hget_hpush_self, hset_push, rowOf_self, okIn, lowIn, lowIn1, fzC_d, fzC_row, f26, eY, pk, pt, ld, tk, l1, l2, l3, xl, x0, y1, z1, y2, z2, y3, z3, p81]
      | true =>
        cases B2 with
        | false => simp [-List.getD_eq_getElem?_getD, -List.map_map, evBody, evCode, evOps, evOper, evOp, opd, Env.get, Env.put, Env.keep, zipEnv, V.ok, V.sto, V.cells, D.cells, V.isAgg, binD, binInt, binStr, shInt, unD, eqOf, asI, leave, resOf, mapO, fzV, tupOf, view, view1, isData, hand, flatV, flatD, allD, mkAgg, mkVal, beq_lit, IntKind.bits, htake_self, htake_push, hget_hpush_self, hset_push, rowOf_self, okIn, lowIn, lowIn1, fzC_d, fzC_row, f26, eY, pk, pt, ld, tk, l1, l2, l3, xl, x0, y1, z1, y2, z2, y3, z3, p81]
        | true =>
          cases B3 with
          | false => simp [-List.getD_eq_getElem?_getD, -List.map_map, evBody, evCode, evOps, evOper, evOp, opd, Env.get, Env.put, Env.keep, zipEnv, V.ok, V.sto, V.cells, D.cells, V.isAgg, binD, binInt, binStr, shInt, unD, eqOf, asI, leave, resOf, mapO, fzV, tupOf, view, view1, isData, hand, flatV, flatD, allD, mkAgg, mkVal, beq_lit, IntKind.bits, htake_self, htake_push, hget_hpush_self, hset_push, rowOf_self, okIn, lowIn, lowIn1, fzC_d, fzC_row, f26, eY, pk, pt, ld, tk, l1, l2, l3, xl, x0, y1, z1, y2, z2, y3, z3, p81]
          | true =>
            simp [-List.getD_eq_getElem?_getD, -List.map_map, evBody, evCode, evOps, evOper, evOp, opd, Env.get, Env.put, Env.keep, zipEnv, V.ok, V.sto, V.cells, D.cells, V.isAgg, binD, binInt, binStr, shInt, unD, eqOf, asI, leave, resOf, mapO, fzV, tupOf, view, view1, isData, hand, flatV, flatD, allD, mkAgg, mkVal, beq_lit, IntKind.bits, htake_self, htake_push, hget_hpush_self, hset_push, rowOf_self, okIn, lowIn, lowIn1, fzC_d, fzC_row, f26, eY, pk, pt, ld, tk, l1, l2, l3, xl, x0, y1, z1, y2, z2, y3, z3, p81]
set_option maxHeartbeats 800000 in
theorem e_26_k4 (H : Hp) (e : En) (hf : EnFit e) (hk : keyV e.key = true) (ht : tillV e.till = true) (hd : e.kind = 4) : ev R 26 [.d (enD e)] H = some (.d (.bool (enOk e)), H) := by
  refine ev_fn (fn := f26) rfl rfl ?_
  have pk : pureCall (ev R) 43 [.d (.str e.key)] = some (.d (.bool (keyV e.key))) := pureCall_eq (cl := ev R) fun H => e_43 H e.key
  have pt : pureCall (ev R) 25 [.d (.int .i64 e.till), .d (.int .i64 0), .d (.int .i64 2000000)] = some (.d (.bool (tillV e.till))) := p_25 e.till 0 2000000
  have p80 := pureCall_eq (cl := ev R) fun H => e_44 H e.list hf.list
  have p81 := pureCall_eq (cl := ev R) fun H => e_45 H e.list hf.list
  have p82 := pureCall_eq (cl := ev R) fun H => e_46 H e.scores hf.scores
  have p83 := pureCall_eq (cl := ev R) fun H => e_47 H e.fields hf.fields
  have x0 : (e.text = []) = (e.text.isEmpty = true) := by simp
  have y1 : ((e.list.length : Int) = 0) = (e.list.isEmpty = true) := by cases e.list <;> simp <;> try omega
  have z1 : (0 < (e.list.length : Int)) = (e.list.isEmpty = false) := by cases e.list <;> simp <;> try omega
  have y2 : ((e.scores.length : Int) = 0) = (e.scores.isEmpty = true) := by cases e.scores <;> simp <;> try omega
  have z2 : (0 < (e.scores.length : Int)) = (e.scores.isEmpty = false) := by cases e.scores <;> simp <;> try omega
  have y3 : ((e.fields.length : Int) = 0) = (e.fields.isEmpty = true) := by cases e.fields <;> simp <;> try omega
  have z3 : (0 < (e.fields.length : Int)) = (e.fields.isEmpty = false) := by cases e.fields <;> simp <;> try omega
  have l1 : ((e.list.map D.str).length : Int) = (e.list.length : Int) := by simp
  have l2 : ((e.scores.map scD).length : Int) = (e.scores.length : Int) := by simp
  have l3 : ((e.fields.map prD).length : Int) = (e.fields.length : Int) := by simp
  have xl : ((e.text.length : Int) ≤ 40) = (decide (e.text.length ≤ 40) = true) := by simp; omega
  have ld : ∀ j n, hload (hpush H (.row 0 7 [.d (.agg [.str e.key, .int .i64 e.till, .int .i64 e.kind, .str e.text, txts e.list, scs e.scores, prs e.fields])])) (hlen H) 0 0 j n = if j + n ≤ 7 then some ((([.d (.str e.key), .d (.int .i64 e.till), .d (.int .i64 e.kind), .d (.str e.text), .d (txts e.list), .d (scs e.scores), .d (prs e.fields)] : List V).drop j).take n) else none := fun j n => by
    simp [hload, rowOf_self, V.cells, D.cells]
  have tk := htake_push H (.row 0 7 [.d (.agg [.str e.key, .int .i64 e.till, .int .i64 e.kind, .str e.text, txts e.list, scs e.scores, prs e.fields])])
  unfold enOk kindV
  unfold enD
  simp only [txts, scs, prs] at *
  obtain ⟨key, till, kind, text, list, scores, fields⟩ := e
  simp only at *
  generalize keyV key = KV at *
  generalize tillV till = TV at *
  obtain ⟨Y, eY⟩ : ∃ Y, hpush H (.row 0 7 [.d (.agg [.str key, .int .i64 till, .int .i64 kind, .str text, .vals 1 (list.map D.str), .vals 2 (scores.map scD), .vals 2 (fields.map prD)])]) = Y := ⟨_, rfl⟩
  rw [eY] at ld tk
  generalize list.map D.str = d1 at *
  generalize scores.map scD = d2 at *
  generalize fields.map prD = d3 at *
  generalize (list.length : Int) = n1 at *
  generalize (scores.length : Int) = n2 at *
  generalize (fields.length : Int) = n3 at *
  generalize okTexts list = P80 at *
  generalize setV list = P81 at *
  generalize scoresV scores = P82 at *
  generalize fieldsV fields = P83 at *
  generalize text.isEmpty = B0 at *
  generalize list.isEmpty = B1 at *
  generalize scores.isEmpty = B2 at *
  generalize fields.isEmpty = B3 at *
  generalize decide (text.length ≤ 40) = C at *
  subst hk ht hd
  cases B2 with
  | true => simp [-List.getD_eq_getElem?_getD, -List.map_map, evBody, evCode, evOps, evOper, evOp, opd, Env.get, Env.put, Env.keep, zipEnv, V.ok, V.sto, V.cells, D.cells, V.isAgg, binD, binInt, binStr, shInt, unD, eqOf, asI, leave, resOf, mapO, fzV, tupOf, view, view1, isData, hand, flatV, flatD, allD, mkAgg, mkVal, beq_lit, IntKind.bits, htake_self, htake_push, hget_hpush_self, hset_push, rowOf_self, okIn, lowIn, lowIn1, fzC_d, fzC_row, f26, eY, pk, pt, ld, tk, l1, l2, l3, xl, x0, y1, z1, y2, z2, y3, z3, p82]
  | false =>
    cases P82 with
    | false => simp [-List.getD_eq_getElem?_getD, -List.map_map, evBody, evCode, evOps, evOper, evOp, opd, Env.get, Env.put, Env.keep, zipEnv, V.ok, V.sto, V.cells, D.cells, V.isAgg, binD, binInt, binStr, shInt, unD, eqOf, asI, leave, resOf, mapO, fzV, tupOf, view, view1, isData, hand, flatV, flatD, allD, mkAgg, mkVal, beq_lit, IntKind.bits, htake_self, htake_push, hget_hpush_self, hset_push, rowOf_self, okIn, lowIn, lowIn1, fzC_d, fzC_row, f26, eY, pk, pt, ld, tk, l1, l2, l3, xl, x0, y1, z1, y2, z2, y3, z3, p82]
    | true =>
      cases B0 with
      | false => simp [-List.getD_eq_getElem?_getD, -List.map_map, evBody, evCode, evOps, evOper, evOp, opd, Env.get, Env.put, Env.keep, zipEnv, V.ok, V.sto, V.cells, D.cells, V.isAgg, binD, binInt, binStr, shInt, unD, eqOf, asI, leave, resOf, mapO, fzV, tupOf, view, view1, isData, hand, flatV, flatD, allD, mkAgg, mkVal, beq_lit, IntKind.bits, htake_self, htake_push, hget_hpush_self, hset_push, rowOf_self, okIn, lowIn, lowIn1, fzC_d, fzC_row, f26, eY, pk, pt, ld, tk, l1, l2, l3, xl, x0, y1, z1, y2, z2, y3, z3, p82]
      | true =>
        cases B1 with
        | false => simp [-List.getD_eq_getElem?_getD, -List.map_map, evBody, evCode, evOps, evOper, evOp, opd, Env.get, Env.put, Env.keep, zipEnv, V.ok, V.sto, V.cells, D.cells, V.isAgg, binD, binInt, binStr, shInt, unD, eqOf, asI, leave, resOf, mapO, fzV, tupOf, view, view1, isData, hand, flatV, flatD, allD, mkAgg, mkVal, beq_lit, IntKind.bits, htake_self, htake_push, hget_hpush_self, hset_push, rowOf_self, okIn, lowIn, lowIn1, fzC_d, fzC_row, f26, eY, pk, pt, ld, tk, l1, l2, l3, xl, x0, y1, z1, y2, z2, y3, z3, p82]
        | true =>
          cases B3 with
          | false => simp [-List.getD_eq_getElem?_getD, -List.map_map, evBody, evCode, evOps, evOper, evOp, opd, Env.get, Env.put, Env.keep, zipEnv, V.ok, V.sto, V.cells, D.cells, V.isAgg, binD, binInt, binStr, shInt, unD, eqOf, asI, leave, resOf, mapO, fzV, tupOf, view, view1, isData, hand, flatV, flatD, allD, mkAgg, mkVal, beq_lit, IntKind.bits, htake_self, htake_push, hget_hpush_self, hset_push, rowOf_self, okIn, lowIn, lowIn1, fzC_d, fzC_row, f26, eY, pk, pt, ld, tk, l1, l2, l3, xl, x0, y1, z1, y2, z2, y3, z3, p82]
          | true =>
            simp [-List.getD_eq_getElem?_getD, -List.map_map, evBody, evCode, evOps, evOper, evOp, opd, Env.get, Env.put, Env.keep, zipEnv, V.ok, V.sto, V.cells, D.cells, V.isAgg, binD, binInt, binStr, shInt, unD, eqOf, asI, leave, resOf, mapO, fzV, tupOf, view, view1, isData, hand, flatV, flatD, allD, mkAgg, mkVal, beq_lit, IntKind.bits, htake_self, htake_push, hget_hpush_self, hset_push, rowOf_self, okIn, lowIn, lowIn1, fzC_d, fzC_row, f26, eY, pk, pt, ld, tk, l1, l2, l3, xl, x0, y1, z1, y2, z2, y3, z3, p82]
set_option maxHeartbeats 800000 in
theorem e_26_k5 (H : Hp) (e : En) (hf : EnFit e) (hk : keyV e.key = true) (ht : tillV e.till = true) (hd : e.kind = 5) : ev R 26 [.d (enD e)] H = some (.d (.bool (enOk e)), H) := by
  refine ev_fn (fn := f26) rfl rfl ?_
  have pk : pureCall (ev R) 43 [.d (.str e.key)] = some (.d (.bool (keyV e.key))) := pureCall_eq (cl := ev R) fun H => e_43 H e.key
  have pt : pureCall (ev R) 25 [.d (.int .i64 e.till), .d (.int .i64 0), .d (.int .i64 2000000)] = some (.d (.bool (tillV e.till))) := p_25 e.till 0 2000000
  have p80 := pureCall_eq (cl := ev R) fun H => e_44 H e.list hf.list
  have p81 := pureCall_eq (cl := ev R) fun H => e_45 H e.list hf.list
  have p82 := pureCall_eq (cl := ev R) fun H => e_46 H e.scores hf.scores
  have p83 := pureCall_eq (cl := ev R) fun H => e_47 H e.fields hf.fields
  have x0 : (e.text = []) = (e.text.isEmpty = true) := by simp
  have y1 : ((e.list.length : Int) = 0) = (e.list.isEmpty = true) := by cases e.list <;> simp <;> try omega
  have z1 : (0 < (e.list.length : Int)) = (e.list.isEmpty = false) := by cases e.list <;> simp <;> try omega
  have y2 : ((e.scores.length : Int) = 0) = (e.scores.isEmpty = true) := by cases e.scores <;> simp <;> try omega
  have z2 : (0 < (e.scores.length : Int)) = (e.scores.isEmpty = false) := by cases e.scores <;> simp <;> try omega
  have y3 : ((e.fields.length : Int) = 0) = (e.fields.isEmpty = true) := by cases e.fields <;> simp <;> try omega
  have z3 : (0 < (e.fields.length : Int)) = (e.fields.isEmpty = false) := by cases e.fields <;> simp <;> try omega
  have l1 : ((e.list.map D.str).length : Int) = (e.list.length : Int) := by simp
  have l2 : ((e.scores.map scD).length : Int) = (e.scores.length : Int) := by simp
  have l3 : ((e.fields.map prD).length : Int) = (e.fields.length : Int) := by simp
  have xl : ((e.text.length : Int) ≤ 40) = (decide (e.text.length ≤ 40) = true) := by simp; omega
  have ld : ∀ j n, hload (hpush H (.row 0 7 [.d (.agg [.str e.key, .int .i64 e.till, .int .i64 e.kind, .str e.text, txts e.list, scs e.scores, prs e.fields])])) (hlen H) 0 0 j n = if j + n ≤ 7 then some ((([.d (.str e.key), .d (.int .i64 e.till), .d (.int .i64 e.kind), .d (.str e.text), .d (txts e.list), .d (scs e.scores), .d (prs e.fields)] : List V).drop j).take n) else none := fun j n => by
    simp [hload, rowOf_self, V.cells, D.cells]
  have tk := htake_push H (.row 0 7 [.d (.agg [.str e.key, .int .i64 e.till, .int .i64 e.kind, .str e.text, txts e.list, scs e.scores, prs e.fields])])
  unfold enOk kindV
  unfold enD
  simp only [txts, scs, prs] at *
  obtain ⟨key, till, kind, text, list, scores, fields⟩ := e
  simp only at *
  generalize keyV key = KV at *
  generalize tillV till = TV at *
  obtain ⟨Y, eY⟩ : ∃ Y, hpush H (.row 0 7 [.d (.agg [.str key, .int .i64 till, .int .i64 kind, .str text, .vals 1 (list.map D.str), .vals 2 (scores.map scD), .vals 2 (fields.map prD)])]) = Y := ⟨_, rfl⟩
  rw [eY] at ld tk
  generalize list.map D.str = d1 at *
  generalize scores.map scD = d2 at *
  generalize fields.map prD = d3 at *
  generalize (list.length : Int) = n1 at *
  generalize (scores.length : Int) = n2 at *
  generalize (fields.length : Int) = n3 at *
  generalize okTexts list = P80 at *
  generalize setV list = P81 at *
  generalize scoresV scores = P82 at *
  generalize fieldsV fields = P83 at *
  generalize text.isEmpty = B0 at *
  generalize list.isEmpty = B1 at *
  generalize scores.isEmpty = B2 at *
  generalize fields.isEmpty = B3 at *
  generalize decide (text.length ≤ 40) = C at *
  subst hk ht hd
  cases B3 with
  | true => simp [-List.getD_eq_getElem?_getD, -List.map_map, evBody, evCode, evOps, evOper, evOp, opd, Env.get, Env.put, Env.keep, zipEnv, V.ok, V.sto, V.cells, D.cells, V.isAgg, binD, binInt, binStr, shInt, unD, eqOf, asI, leave, resOf, mapO, fzV, tupOf, view, view1, isData, hand, flatV, flatD, allD, mkAgg, mkVal, beq_lit, IntKind.bits, htake_self, htake_push, hget_hpush_self, hset_push, rowOf_self, okIn, lowIn, lowIn1, fzC_d, fzC_row, f26, eY, pk, pt, ld, tk, l1, l2, l3, xl, x0, y1, z1, y2, z2, y3, z3, p83]
  | false =>
    cases P83 with
    | false => simp [-List.getD_eq_getElem?_getD, -List.map_map, evBody, evCode, evOps, evOper, evOp, opd, Env.get, Env.put, Env.keep, zipEnv, V.ok, V.sto, V.cells, D.cells, V.isAgg, binD, binInt, binStr, shInt, unD, eqOf, asI, leave, resOf, mapO, fzV, tupOf, view, view1, isData, hand, flatV, flatD, allD, mkAgg, mkVal, beq_lit, IntKind.bits, htake_self, htake_push, hget_hpush_self, hset_push, rowOf_self, okIn, lowIn, lowIn1, fzC_d, fzC_row, f26, eY, pk, pt, ld, tk, l1, l2, l3, xl, x0, y1, z1, y2, z2, y3, z3, p83]
    | true =>
      cases B0 with
      | false => simp [-List.getD_eq_getElem?_getD, -List.map_map, evBody, evCode, evOps, evOper, evOp, opd, Env.get, Env.put, Env.keep, zipEnv, V.ok, V.sto, V.cells, D.cells, V.isAgg, binD, binInt, binStr, shInt, unD, eqOf, asI, leave, resOf, mapO, fzV, tupOf, view, view1, isData, hand, flatV, flatD, allD, mkAgg, mkVal, beq_lit, IntKind.bits, htake_self, htake_push, hget_hpush_self, hset_push, rowOf_self, okIn, lowIn, lowIn1, fzC_d, fzC_row, f26, eY, pk, pt, ld, tk, l1, l2, l3, xl, x0, y1, z1, y2, z2, y3, z3, p83]
      | true =>
        cases B1 with
        | false => simp [-List.getD_eq_getElem?_getD, -List.map_map, evBody, evCode, evOps, evOper, evOp, opd, Env.get, Env.put, Env.keep, zipEnv, V.ok, V.sto, V.cells, D.cells, V.isAgg, binD, binInt, binStr, shInt, unD, eqOf, asI, leave, resOf, mapO, fzV, tupOf, view, view1, isData, hand, flatV, flatD, allD, mkAgg, mkVal, beq_lit, IntKind.bits, htake_self, htake_push, hget_hpush_self, hset_push, rowOf_self, okIn, lowIn, lowIn1, fzC_d, fzC_row, f26, eY, pk, pt, ld, tk, l1, l2, l3, xl, x0, y1, z1, y2, z2, y3, z3, p83]
        | true =>
          cases B2 with
          | false => simp [-List.getD_eq_getElem?_getD, -List.map_map, evBody, evCode, evOps, evOper, evOp, opd, Env.get, Env.put, Env.keep, zipEnv, V.ok, V.sto, V.cells, D.cells, V.isAgg, binD, binInt, binStr, shInt, unD, eqOf, asI, leave, resOf, mapO, fzV, tupOf, view, view1, isData, hand, flatV, flatD, allD, mkAgg, mkVal, beq_lit, IntKind.bits, htake_self, htake_push, hget_hpush_self, hset_push, rowOf_self, okIn, lowIn, lowIn1, fzC_d, fzC_row, f26, eY, pk, pt, ld, tk, l1, l2, l3, xl, x0, y1, z1, y2, z2, y3, z3, p83]
          | true =>
            simp [-List.getD_eq_getElem?_getD, -List.map_map, evBody, evCode, evOps, evOper, evOp, opd, Env.get, Env.put, Env.keep, zipEnv, V.ok, V.sto, V.cells, D.cells, V.isAgg, binD, binInt, binStr, shInt, unD, eqOf, asI, leave, resOf, mapO, fzV, tupOf, view, view1, isData, hand, flatV, flatD, allD, mkAgg, mkVal, beq_lit, IntKind.bits, htake_self, htake_push, hget_hpush_self, hset_push, rowOf_self, okIn, lowIn, lowIn1, fzC_d, fzC_row, f26, eY, pk, pt, ld, tk, l1, l2, l3, xl, x0, y1, z1, y2, z2, y3, z3, p83]
theorem e_26_k0 (H : Hp) (e : En) (hf : EnFit e) (hk : keyV e.key = true) (ht : tillV e.till = true) (a1 : ¬ e.kind = 1) (a2 : ¬ e.kind = 2) (a3 : ¬ e.kind = 3) (a4 : ¬ e.kind = 4) (a5 : ¬ e.kind = 5) : ev R 26 [.d (enD e)] H = some (.d (.bool (enOk e)), H) := by
  refine ev_fn (fn := f26) rfl rfl ?_
  have pk : pureCall (ev R) 43 [.d (.str e.key)] = some (.d (.bool (keyV e.key))) := pureCall_eq (cl := ev R) fun H => e_43 H e.key
  have pt : pureCall (ev R) 25 [.d (.int .i64 e.till), .d (.int .i64 0), .d (.int .i64 2000000)] = some (.d (.bool (tillV e.till))) := p_25 e.till 0 2000000
  have p80 := pureCall_eq (cl := ev R) fun H => e_44 H e.list hf.list
  have p81 := pureCall_eq (cl := ev R) fun H => e_45 H e.list hf.list
  have p82 := pureCall_eq (cl := ev R) fun H => e_46 H e.scores hf.scores
  have p83 := pureCall_eq (cl := ev R) fun H => e_47 H e.fields hf.fields
  have x0 : (e.text = []) = (e.text.isEmpty = true) := by simp
  have y1 : ((e.list.length : Int) = 0) = (e.list.isEmpty = true) := by cases e.list <;> simp <;> try omega
  have z1 : (0 < (e.list.length : Int)) = (e.list.isEmpty = false) := by cases e.list <;> simp <;> try omega
  have y2 : ((e.scores.length : Int) = 0) = (e.scores.isEmpty = true) := by cases e.scores <;> simp <;> try omega
  have z2 : (0 < (e.scores.length : Int)) = (e.scores.isEmpty = false) := by cases e.scores <;> simp <;> try omega
  have y3 : ((e.fields.length : Int) = 0) = (e.fields.isEmpty = true) := by cases e.fields <;> simp <;> try omega
  have z3 : (0 < (e.fields.length : Int)) = (e.fields.isEmpty = false) := by cases e.fields <;> simp <;> try omega
  have l1 : ((e.list.map D.str).length : Int) = (e.list.length : Int) := by simp
  have l2 : ((e.scores.map scD).length : Int) = (e.scores.length : Int) := by simp
  have l3 : ((e.fields.map prD).length : Int) = (e.fields.length : Int) := by simp
  have xl : ((e.text.length : Int) ≤ 40) = (decide (e.text.length ≤ 40) = true) := by simp; omega
  have ld : ∀ j n, hload (hpush H (.row 0 7 [.d (.agg [.str e.key, .int .i64 e.till, .int .i64 e.kind, .str e.text, txts e.list, scs e.scores, prs e.fields])])) (hlen H) 0 0 j n = if j + n ≤ 7 then some ((([.d (.str e.key), .d (.int .i64 e.till), .d (.int .i64 e.kind), .d (.str e.text), .d (txts e.list), .d (scs e.scores), .d (prs e.fields)] : List V).drop j).take n) else none := fun j n => by
    simp [hload, rowOf_self, V.cells, D.cells]
  have tk := htake_push H (.row 0 7 [.d (.agg [.str e.key, .int .i64 e.till, .int .i64 e.kind, .str e.text, txts e.list, scs e.scores, prs e.fields])])
  unfold enOk kindV
  unfold enD
  simp only [txts, scs, prs] at *
  obtain ⟨key, till, kind, text, list, scores, fields⟩ := e
  simp only at *
  generalize keyV key = KV at *
  generalize tillV till = TV at *
  obtain ⟨Y, eY⟩ : ∃ Y, hpush H (.row 0 7 [.d (.agg [.str key, .int .i64 till, .int .i64 kind, .str text, .vals 1 (list.map D.str), .vals 2 (scores.map scD), .vals 2 (fields.map prD)])]) = Y := ⟨_, rfl⟩
  rw [eY] at ld tk
  generalize list.map D.str = d1 at *
  generalize scores.map scD = d2 at *
  generalize fields.map prD = d3 at *
  generalize (list.length : Int) = n1 at *
  generalize (scores.length : Int) = n2 at *
  generalize (fields.length : Int) = n3 at *
  generalize okTexts list = P80 at *
  generalize setV list = P81 at *
  generalize scoresV scores = P82 at *
  generalize fieldsV fields = P83 at *
  generalize text.isEmpty = B0 at *
  generalize list.isEmpty = B1 at *
  generalize scores.isEmpty = B2 at *
  generalize fields.isEmpty = B3 at *
  generalize decide (text.length ≤ 40) = C at *
  subst hk ht
  simp [-List.getD_eq_getElem?_getD, -List.map_map, evBody, evCode, evOps, evOper, evOp, opd, Env.get, Env.put, Env.keep, zipEnv, V.ok, V.sto, V.cells, D.cells, V.isAgg, binD, binInt, binStr, shInt, unD, eqOf, asI, leave, resOf, mapO, fzV, tupOf, view, view1, isData, hand, flatV, flatD, allD, mkAgg, mkVal, beq_lit, IntKind.bits, htake_self, htake_push, hget_hpush_self, hset_push, rowOf_self, okIn, lowIn, lowIn1, fzC_d, fzC_row, f26, eY, pk, pt, ld, tk, l1, l2, l3, xl, x0, y1, z1, y2, z2, y3, z3, a1, a2, a3, a4, a5]
theorem e_26 (H : Hp) (e : En) (hf : EnFit e) : ev R 26 [.d (enD e)] H = some (.d (.bool (enOk e)), H) := by
  cases hk : keyV e.key with
  | false => exact e_26_no H e hf (.inl hk)
  | true =>
    cases ht : tillV e.till with
    | false => exact e_26_no H e hf (.inr ht)
    | true =>
      by_cases a1 : e.kind = 1
      · exact e_26_k1 H e hf hk ht a1
      by_cases a2 : e.kind = 2
      · exact e_26_k2 H e hf hk ht a2
      by_cases a3 : e.kind = 3
      · exact e_26_k3 H e hf hk ht a3
      by_cases a4 : e.kind = 4
      · exact e_26_k4 H e hf hk ht a4
      by_cases a5 : e.kind = 5
      · exact e_26_k5 H e hf hk ht a5
      exact e_26_k0 H e hf hk ht a1 a2 a3 a4 a5
end Go.Proofs.YtjdmiodinhlchaaDoor.Code
/- Which bases may be: what the reference says, and what the code under test says. -/
namespace Go.Proofs.YtjdmiodinhlchaaDoor.Code
open Go Go.Ev Go.Proofs
set_option maxRecDepth 100000
set_option maxHeartbeats 1000000
set_option linter.unusedSimpArgs false
set_option linter.unusedVariables false
/-- An entry that may not stand in its place, behind another one. -/
def badE (now : Int) (i : Nat) (p e : En) : Bool := !enOk e || (decide (e.till ≠ 0) && decide (e.till ≤ now)) || (decide (0 < i) && !Op.bytesLess p.key e.key)
def badEn (b : Ba) (i : Nat) : Bool := badE b.now i (b.ents.getD (i - 1) default) (b.ents.getD i default)
def baseOk (b : Ba) : Bool := !anyF (badEn b) b.ents.length 0 && (decide (0 ≤ b.now) && decide (b.now ≤ 1000000) && decide (b.ents.length ≤ 12))
theorem runI_any (p : Nat → Bool) : ∀ (n i : Nat), runI (fun i (_ : Unit) => if p i = true then (.inr () : Unit ⊕ Unit) else .inl ()) n i () = if anyF p n i = true then .inr () else .inl ()
  | 0, i => rfl
  | n + 1, i => by
    simp only [runI, anyF]
    by_cases h : p i = true
    · simp [h]
    · simp only [h, if_false, Bool.false_or]
      exact runI_any p n (i + 1)
/-- The ways of an entry in its place. -/
theorem badE_ways (now : Int) (i : Nat) (p e : En) {C : Prop} (k1 : enOk e = false → badE now i p e = true → C)
    (k2 : enOk e = true → e.till ≠ 0 → e.till ≤ now → badE now i p e = true → C)
    (k3 : enOk e = true → (e.till = 0 ∨ (e.till ≠ 0 ∧ ¬ e.till ≤ now)) → i = 0 → badE now i p e = false → C)
    (k4 : enOk e = true → (e.till = 0 ∨ (e.till ≠ 0 ∧ ¬ e.till ≤ now)) → 0 < i → (∃ x, Op.bytesLess p.key e.key = x ∧ badE now i p e = !x) → C) : C := by
  unfold badE at *
  by_cases h1 : enOk e = true
  · by_cases h2 : e.till = 0
    · by_cases h4 : i = 0
      · exact k3 h1 (.inl h2) h4 (by simp [h1, h2, h4])
      · exact k4 h1 (.inl h2) (by omega) ⟨_, rfl, by simp [h1, h2, show 0 < i by omega]⟩
    · by_cases h3 : e.till ≤ now
      · exact k2 h1 h2 h3 (by simp [h1, h2, h3])
      · by_cases h4 : i = 0
        · exact k3 h1 (.inr ⟨h2, h3⟩) h4 (by simp [h1, h2, h3, h4])
        · exact k4 h1 (.inr ⟨h2, h3⟩) (by omega) ⟨_, rfl, by simp [h1, h2, h3, show 0 < i by omega]⟩
  · exact k1 (by simpa using h1) (by simp [h1])
theorem badEn_ways (b : Ba) (i : Nat) {C : Prop} (k1 : enOk (b.ents.getD i default) = false → badEn b i = true → C)
    (k2 : enOk (b.ents.getD i default) = true → (b.ents.getD i default).till ≠ 0 → (b.ents.getD i default).till ≤ b.now → badEn b i = true → C)
    (k3 : enOk (b.ents.getD i default) = true → ((b.ents.getD i default).till = 0 ∨ ((b.ents.getD i default).till ≠ 0 ∧ ¬ (b.ents.getD i default).till ≤ b.now)) → i = 0 → badEn b i = false → C)
    (k4 : enOk (b.ents.getD i default) = true → ((b.ents.getD i default).till = 0 ∨ ((b.ents.getD i default).till ≠ 0 ∧ ¬ (b.ents.getD i default).till ≤ b.now)) → 0 < i → (∃ x, Op.bytesLess (b.ents.getD (i - 1) default).key (b.ents.getD i default).key = x ∧ badEn b i = !x) → C) : C :=
  badE_ways _ _ _ _ k1 k2 k3 k4
theorem p_10 (b : Ba) (hf : BaFit b) : pureCall (ev R) 10 [.d (baD b)] = some (.d (.bool (baseOk b))) := pureCall_eq fun H => by
  refine ev_fn (fn := f10) rfl rfl ?_
  have bx : 1 ≤ b.ents.length → 0 ≤ b.ents.length := fun _ => Nat.zero_le _
  have key := loop_run (F := evCode (ev R) R.glob (hlen H) evLoop f10l0) (lv := [1, 3]) (fun i (_ : Unit) => if badEn b i = true then (.inr () : Unit ⊕ Unit) else .inl ()) b.ents.length
    (fun i _ e X => X = ap H [.row 0 2 [.d (baD b)]] ∧ e.get 1 = .ptr (hlen H) 0 0 0 ∧ e.get 3 = .d (.int .i64 i))
    (fun _ o e X => o = .exit 0 ∧ X = ap H [.row 0 2 [.d (baD b)]] ∧ e.get 1 = .ptr (hlen H) 0 0 0) (fun _ o e X => o = .ret ∧ htake X (hlen H) = H ∧ e.get 2 = .d (.bool false))
    (by
      rintro s e X ⟨rfl, g1, g3⟩
      simp [-List.getD_eq_getElem?_getD, -List.map_map, evBody, evCode, evOps, evOper, evOp, opd, Env.get, Env.put, Env.keep, zipEnv, V.ok, V.sto, binD, binInt, binStr, shInt, unD, eqOf, asI, leave, resOf, mapO, fzV, tupOf, view, view1, isData, hand, flatV, flatD, allD, mkAgg, mkVal, beq_lit, IntKind.bits, okIn, lowIn, lowIn1, lowT, fzC_d, ap0, ap_get, ap_get0, ap_set, ap_set0, ap_len, ap_take, ap_takeN, ap_nlt, ap_nlt0, ap_blt, ap_blt0, ap_bltR, ap_blt00, ap_ble, ap_ble0, ap_bleN, ap_bleR, rowOf, hload, hstore, hget, hset, reCell, src, allD_d', allD_app, ap_fzC, hand1, frzE, List.singleton_append, List.nil_append, List.cons_append, ap_ap, vc_agg, vc_dagg, va_agg, va_dagg, dc_agg, vc_str, va_str, dc_str, vc_int, va_int, dc_int, vc_bool, va_bool, dc_bool, vc_vals, va_vals, dc_vals, vc_nilp, va_nilp, dc_nilp, vc_rptr, va_rptr, dc_rptr, vc_fnd, va_fnd, dc_fnd, vc_nilfn, va_nilfn, dc_nilfn, vc_iface, va_iface, dc_iface, vc_niface, va_niface, dc_niface, vc_mval, va_mval, dc_mval, vc_slc, va_slc, vc_ptr, va_ptr, vc_fnv, va_fnv, vc_mref, va_mref, vc_nils, va_nils, vc_und, va_und, scD_cells, scD_vcells, scD_agg, scD_fold, prD_cells, prD_vcells, prD_agg, prD_fold, enD_cells, enD_vcells, enD_agg, enD_fold, baD_cells, baD_vcells, baD_agg, baD_fold, htake_self, gives_some, Round, Fin2, step_normal, step_exit, step_ret, fzC_ap, fzC_ap0, mapO_fz_app, mapO_d, fz_d, List.take_of_length_le, f10l0, g1, g3])
    (by
      rintro i s e X hi ⟨rfl, g1, g3⟩
      have c : (i : Int) < (b.ents.length : Int) := by have := hi; omega
      have g := ents_get b.ents i hi
      have p := pureCall_eq (cl := ev R) fun H => e_19 H (b.ents.getD i default) (hf.each _ (getD_in hi))
      have w1 : IntKind.i64.wrap ((i : Int) + 1) = ((i + 1 : Nat) : Int) := by rw [IntWalk.i64_in _ (by have := hf.len; omega)]; rfl
      refine badEn_ways b i ?_ ?_ ?_ ?_
      · intro h1 hb
        rw [hb]
        rw [h1] at p
        simp [-List.getD_eq_getElem?_getD, -List.map_map, evBody, evCode, evOps, evOper, evOp, opd, Env.get, Env.put, Env.keep, zipEnv, V.ok, V.sto, binD, binInt, binStr, shInt, unD, eqOf, asI, leave, resOf, mapO, fzV, tupOf, view, view1, isData, hand, flatV, flatD, allD, mkAgg, mkVal, beq_lit, IntKind.bits, okIn, lowIn, lowIn1, lowT, fzC_d, ap0, ap_get, ap_get0, ap_set, ap_set0, ap_len, ap_take, ap_takeN, ap_nlt, ap_nlt0, ap_blt, ap_blt0, ap_bltR, ap_blt00, ap_ble, ap_ble0, ap_bleN, ap_bleR, rowOf, hload, hstore, hget, hset, reCell, src, allD_d', allD_app, ap_fzC, hand1, frzE, List.singleton_append, List.nil_append, List.cons_append, ap_ap, vc_agg, vc_dagg, va_agg, va_dagg, dc_agg, vc_str, va_str, dc_str, vc_int, va_int, dc_int, vc_bool, va_bool, dc_bool, vc_vals, va_vals, dc_vals, vc_nilp, va_nilp, dc_nilp, vc_rptr, va_rptr, dc_rptr, vc_fnd, va_fnd, dc_fnd, vc_nilfn, va_nilfn, dc_nilfn, vc_iface, va_iface, dc_iface, vc_niface, va_niface, dc_niface, vc_mval, va_mval, dc_mval, vc_slc, va_slc, vc_ptr, va_ptr, vc_fnv, va_fnv, vc_mref, va_mref, vc_nils, va_nils, vc_und, va_und, scD_cells, scD_vcells, scD_agg, scD_fold, prD_cells, prD_vcells, prD_agg, prD_fold, enD_cells, enD_vcells, enD_agg, enD_fold, baD_cells, baD_vcells, baD_agg, baD_fold, htake_self, gives_some, Round, Fin2, step_normal, step_exit, step_ret, fzC_ap, fzC_ap0, mapO_fz_app, mapO_d, fz_d, List.take_of_length_le, f10l0, g1, g3, c, hi, g, p]
      · intro h1 h2 h3 hb
        rw [hb]
        rw [h1] at p
        simp [-List.getD_eq_getElem?_getD, -List.map_map, evBody, evCode, evOps, evOper, evOp, opd, Env.get, Env.put, Env.keep, zipEnv, V.ok, V.sto, binD, binInt, binStr, shInt, unD, eqOf, asI, leave, resOf, mapO, fzV, tupOf, view, view1, isData, hand, flatV, flatD, allD, mkAgg, mkVal, beq_lit, IntKind.bits, okIn, lowIn, lowIn1, lowT, fzC_d, ap0, ap_get, ap_get0, ap_set, ap_set0, ap_len, ap_take, ap_takeN, ap_nlt, ap_nlt0, ap_blt, ap_blt0, ap_bltR, ap_blt00, ap_ble, ap_ble0, ap_bleN, ap_bleR, rowOf, hload, hstore, hget, hset, reCell, src, allD_d', allD_app, ap_fzC, hand1, frzE, List.singleton_append, List.nil_append, List.cons_append, ap_ap, vc_agg, vc_dagg, va_agg, va_dagg, dc_agg, vc_str, va_str, dc_str, vc_int, va_int, dc_int, vc_bool, va_bool, dc_bool, vc_vals, va_vals, dc_vals, vc_nilp, va_nilp, dc_nilp, vc_rptr, va_rptr, dc_rptr, vc_fnd, va_fnd, dc_fnd, vc_nilfn, va_nilfn, dc_nilfn, vc_iface, va_iface, dc_iface, vc_niface, va_niface, dc_niface, vc_mval, va_mval, dc_mval, vc_slc, va_slc, vc_ptr, va_ptr, vc_fnv, va_fnv, vc_mref, va_mref, vc_nils, va_nils, vc_und, va_und, scD_cells, scD_vcells, scD_agg, scD_fold, prD_cells, prD_vcells, prD_agg, prD_fold, enD_cells, enD_vcells, enD_agg, enD_fold, baD_cells, baD_vcells, baD_agg, baD_fold, htake_self, gives_some, Round, Fin2, step_normal, step_exit, step_ret, fzC_ap, fzC_ap0, mapO_fz_app, mapO_d, fz_d, List.take_of_length_le, f10l0, g1, g3, c, hi, g, p, h2, h3]
      · intro h1 h2 h4 hb
        rw [hb]
        rw [h1] at p
        have c4 : ¬ (0 : Int) < (i : Int) := by omega
        have c5 : ¬ 0 < i := by omega
        have c6 := eq_true h4
        rcases h2 with h2 | ⟨h2, h3⟩
        · have h2 := eq_true h2
          simp [-List.getD_eq_getElem?_getD, -List.map_map, evBody, evCode, evOps, evOper, evOp, opd, Env.get, Env.put, Env.keep, zipEnv, V.ok, V.sto, binD, binInt, binStr, shInt, unD, eqOf, asI, leave, resOf, mapO, fzV, tupOf, view, view1, isData, hand, flatV, flatD, allD, mkAgg, mkVal, beq_lit, IntKind.bits, okIn, lowIn, lowIn1, lowT, fzC_d, ap0, ap_get, ap_get0, ap_set, ap_set0, ap_len, ap_take, ap_takeN, ap_nlt, ap_nlt0, ap_blt, ap_blt0, ap_bltR, ap_blt00, ap_ble, ap_ble0, ap_bleN, ap_bleR, rowOf, hload, hstore, hget, hset, reCell, src, allD_d', allD_app, ap_fzC, hand1, frzE, List.singleton_append, List.nil_append, List.cons_append, ap_ap, vc_agg, vc_dagg, va_agg, va_dagg, dc_agg, vc_str, va_str, dc_str, vc_int, va_int, dc_int, vc_bool, va_bool, dc_bool, vc_vals, va_vals, dc_vals, vc_nilp, va_nilp, dc_nilp, vc_rptr, va_rptr, dc_rptr, vc_fnd, va_fnd, dc_fnd, vc_nilfn, va_nilfn, dc_nilfn, vc_iface, va_iface, dc_iface, vc_niface, va_niface, dc_niface, vc_mval, va_mval, dc_mval, vc_slc, va_slc, vc_ptr, va_ptr, vc_fnv, va_fnv, vc_mref, va_mref, vc_nils, va_nils, vc_und, va_und, scD_cells, scD_vcells, scD_agg, scD_fold, prD_cells, prD_vcells, prD_agg, prD_fold, enD_cells, enD_vcells, enD_agg, enD_fold, baD_cells, baD_vcells, baD_agg, baD_fold, htake_self, gives_some, Round, Fin2, step_normal, step_exit, step_ret, fzC_ap, fzC_ap0, mapO_fz_app, mapO_d, fz_d, List.take_of_length_le, f10l0, g1, g3, c, c4, c5, c6, hi, g, p, h2, w1]
        · simp [-List.getD_eq_getElem?_getD, -List.map_map, evBody, evCode, evOps, evOper, evOp, opd, Env.get, Env.put, Env.keep, zipEnv, V.ok, V.sto, binD, binInt, binStr, shInt, unD, eqOf, asI, leave, resOf, mapO, fzV, tupOf, view, view1, isData, hand, flatV, flatD, allD, mkAgg, mkVal, beq_lit, IntKind.bits, okIn, lowIn, lowIn1, lowT, fzC_d, ap0, ap_get, ap_get0, ap_set, ap_set0, ap_len, ap_take, ap_takeN, ap_nlt, ap_nlt0, ap_blt, ap_blt0, ap_bltR, ap_blt00, ap_ble, ap_ble0, ap_bleN, ap_bleR, rowOf, hload, hstore, hget, hset, reCell, src, allD_d', allD_app, ap_fzC, hand1, frzE, List.singleton_append, List.nil_append, List.cons_append, ap_ap, vc_agg, vc_dagg, va_agg, va_dagg, dc_agg, vc_str, va_str, dc_str, vc_int, va_int, dc_int, vc_bool, va_bool, dc_bool, vc_vals, va_vals, dc_vals, vc_nilp, va_nilp, dc_nilp, vc_rptr, va_rptr, dc_rptr, vc_fnd, va_fnd, dc_fnd, vc_nilfn, va_nilfn, dc_nilfn, vc_iface, va_iface, dc_iface, vc_niface, va_niface, dc_niface, vc_mval, va_mval, dc_mval, vc_slc, va_slc, vc_ptr, va_ptr, vc_fnv, va_fnv, vc_mref, va_mref, vc_nils, va_nils, vc_und, va_und, scD_cells, scD_vcells, scD_agg, scD_fold, prD_cells, prD_vcells, prD_agg, prD_fold, enD_cells, enD_vcells, enD_agg, enD_fold, baD_cells, baD_vcells, baD_agg, baD_fold, htake_self, gives_some, Round, Fin2, step_normal, step_exit, step_ret, fzC_ap, fzC_ap0, mapO_fz_app, mapO_d, fz_d, List.take_of_length_le, f10l0, g1, g3, c, c4, c5, c6, hi, g, p, h2, h3, w1]
      · rintro h1 h2 h4 ⟨x, hx, hb⟩
        rw [hb]
        rw [h1] at p
        have w2 : IntKind.i64.wrap ((i : Int) - 1) = ((i - 1 : Nat) : Int) := by rw [IntWalk.i64_in _ (by have := hf.len; omega)]; omega
        have gp := ents_get b.ents (i - 1) (by omega)
        have c3 : i - 1 < b.ents.length := by omega
        have c4 : (0 : Int) < (i : Int) := by omega
        have c7 : ¬ i = 0 := by omega
        cases x <;> rcases h2 with h2 | ⟨h2, h3⟩
        · have h2 := eq_true h2
          simp [-List.getD_eq_getElem?_getD, -List.map_map, evBody, evCode, evOps, evOper, evOp, opd, Env.get, Env.put, Env.keep, zipEnv, V.ok, V.sto, binD, binInt, binStr, shInt, unD, eqOf, asI, leave, resOf, mapO, fzV, tupOf, view, view1, isData, hand, flatV, flatD, allD, mkAgg, mkVal, beq_lit, IntKind.bits, okIn, lowIn, lowIn1, lowT, fzC_d, ap0, ap_get, ap_get0, ap_set, ap_set0, ap_len, ap_take, ap_takeN, ap_nlt, ap_nlt0, ap_blt, ap_blt0, ap_bltR, ap_blt00, ap_ble, ap_ble0, ap_bleN, ap_bleR, rowOf, hload, hstore, hget, hset, reCell, src, allD_d', allD_app, ap_fzC, hand1, frzE, List.singleton_append, List.nil_append, List.cons_append, ap_ap, vc_agg, vc_dagg, va_agg, va_dagg, dc_agg, vc_str, va_str, dc_str, vc_int, va_int, dc_int, vc_bool, va_bool, dc_bool, vc_vals, va_vals, dc_vals, vc_nilp, va_nilp, dc_nilp, vc_rptr, va_rptr, dc_rptr, vc_fnd, va_fnd, dc_fnd, vc_nilfn, va_nilfn, dc_nilfn, vc_iface, va_iface, dc_iface, vc_niface, va_niface, dc_niface, vc_mval, va_mval, dc_mval, vc_slc, va_slc, vc_ptr, va_ptr, vc_fnv, va_fnv, vc_mref, va_mref, vc_nils, va_nils, vc_und, va_und, scD_cells, scD_vcells, scD_agg, scD_fold, prD_cells, prD_vcells, prD_agg, prD_fold, enD_cells, enD_vcells, enD_agg, enD_fold, baD_cells, baD_vcells, baD_agg, baD_fold, htake_self, gives_some, Round, Fin2, step_normal, step_exit, step_ret, fzC_ap, fzC_ap0, mapO_fz_app, mapO_d, fz_d, List.take_of_length_le, f10l0, g1, g3, c, c3, c4, c7, h4, hi, g, gp, p, h2, w2, hx]
        · simp [-List.getD_eq_getElem?_getD, -List.map_map, evBody, evCode, evOps, evOper, evOp, opd, Env.get, Env.put, Env.keep, zipEnv, V.ok, V.sto, binD, binInt, binStr, shInt, unD, eqOf, asI, leave, resOf, mapO, fzV, tupOf, view, view1, isData, hand, flatV, flatD, allD, mkAgg, mkVal, beq_lit, IntKind.bits, okIn, lowIn, lowIn1, lowT, fzC_d, ap0, ap_get, ap_get0, ap_set, ap_set0, ap_len, ap_take, ap_takeN, ap_nlt, ap_nlt0, ap_blt, ap_blt0, ap_bltR, ap_blt00, ap_ble, ap_ble0, ap_bleN, ap_bleR, rowOf, hload, hstore, hget, hset, reCell, src, allD_d', allD_app, ap_fzC, hand1, frzE, List.singleton_append, List.nil_append, List.cons_append, ap_ap, vc_agg, vc_dagg, va_agg, va_dagg, dc_agg, vc_str, va_str, dc_str, vc_int, va_int, dc_int, vc_bool, va_bool, dc_bool, vc_vals, va_vals, dc_vals, vc_nilp, va_nilp, dc_nilp, vc_rptr, va_rptr, dc_rptr, vc_fnd, va_fnd, dc_fnd, vc_nilfn, va_nilfn, dc_nilfn, vc_iface, va_iface, dc_iface, vc_niface, va_niface, dc_niface, vc_mval, va_mval, dc_mval, vc_slc, va_slc, vc_ptr, va_ptr, vc_fnv, va_fnv, vc_mref, va_mref, vc_nils, va_nils, vc_und, va_und, scD_cells, scD_vcells, scD_agg, scD_fold, prD_cells, prD_vcells, prD_agg, prD_fold, enD_cells, enD_vcells, enD_agg, enD_fold, baD_cells, baD_vcells, baD_agg, baD_fold, htake_self, gives_some, Round, Fin2, step_normal, step_exit, step_ret, fzC_ap, fzC_ap0, mapO_fz_app, mapO_d, fz_d, List.take_of_length_le, f10l0, g1, g3, c, c3, c4, c7, h4, hi, g, gp, p, h2, h3, w2, hx]
        · have h2 := eq_true h2
          simp [-List.getD_eq_getElem?_getD, -List.map_map, evBody, evCode, evOps, evOper, evOp, opd, Env.get, Env.put, Env.keep, zipEnv, V.ok, V.sto, binD, binInt, binStr, shInt, unD, eqOf, asI, leave, resOf, mapO, fzV, tupOf, view, view1, isData, hand, flatV, flatD, allD, mkAgg, mkVal, beq_lit, IntKind.bits, okIn, lowIn, lowIn1, lowT, fzC_d, ap0, ap_get, ap_get0, ap_set, ap_set0, ap_len, ap_take, ap_takeN, ap_nlt, ap_nlt0, ap_blt, ap_blt0, ap_bltR, ap_blt00, ap_ble, ap_ble0, ap_bleN, ap_bleR, rowOf, hload, hstore, hget, hset, reCell, src, allD_d', allD_app, ap_fzC, hand1, frzE, List.singleton_append, List.nil_append, List.cons_append, ap_ap, vc_agg, vc_dagg, va_agg, va_dagg, dc_agg, vc_str, va_str, dc_str, vc_int, va_int, dc_int, vc_bool, va_bool, dc_bool, vc_vals, va_vals, dc_vals, vc_nilp, va_nilp, dc_nilp, vc_rptr, va_rptr, dc_rptr, vc_fnd, va_fnd, dc_fnd, vc_nilfn, va_nilfn, dc_nilfn, vc_iface, va_iface, dc_iface, vc_niface, va_niface, dc_niface, vc_mval, va_mval, dc_mval, vc_slc, va_slc, vc_ptr, va_ptr, vc_fnv, va_fnv, vc_mref, va_mref, vc_nils, va_nils, vc_und, va_und, scD_cells, scD_vcells, scD_agg, scD_fold, prD_cells, prD_vcells, prD_agg, prD_fold, enD_cells, enD_vcells, enD_agg, enD_fold, baD_cells, baD_vcells, baD_agg, baD_fold, htake_self, gives_some, Round, Fin2, step_normal, step_exit, step_ret, fzC_ap, fzC_ap0, mapO_fz_app, mapO_d, fz_d, List.take_of_length_le, f10l0, g1, g3, c, c3, c4, c7, h4, hi, g, gp, p, h2, w1, w2, hx]
        · simp [-List.getD_eq_getElem?_getD, -List.map_map, evBody, evCode, evOps, evOper, evOp, opd, Env.get, Env.put, Env.keep, zipEnv, V.ok, V.sto, binD, binInt, binStr, shInt, unD, eqOf, asI, leave, resOf, mapO, fzV, tupOf, view, view1, isData, hand, flatV, flatD, allD, mkAgg, mkVal, beq_lit, IntKind.bits, okIn, lowIn, lowIn1, lowT, fzC_d, ap0, ap_get, ap_get0, ap_set, ap_set0, ap_len, ap_take, ap_takeN, ap_nlt, ap_nlt0, ap_blt, ap_blt0, ap_bltR, ap_blt00, ap_ble, ap_ble0, ap_bleN, ap_bleR, rowOf, hload, hstore, hget, hset, reCell, src, allD_d', allD_app, ap_fzC, hand1, frzE, List.singleton_append, List.nil_append, List.cons_append, ap_ap, vc_agg, vc_dagg, va_agg, va_dagg, dc_agg, vc_str, va_str, dc_str, vc_int, va_int, dc_int, vc_bool, va_bool, dc_bool, vc_vals, va_vals, dc_vals, vc_nilp, va_nilp, dc_nilp, vc_rptr, va_rptr, dc_rptr, vc_fnd, va_fnd, dc_fnd, vc_nilfn, va_nilfn, dc_nilfn, vc_iface, va_iface, dc_iface, vc_niface, va_niface, dc_niface, vc_mval, va_mval, dc_mval, vc_slc, va_slc, vc_ptr, va_ptr, vc_fnv, va_fnv, vc_mref, va_mref, vc_nils, va_nils, vc_und, va_und, scD_cells, scD_vcells, scD_agg, scD_fold, prD_cells, prD_vcells, prD_agg, prD_fold, enD_cells, enD_vcells, enD_agg, enD_fold, baD_cells, baD_vcells, baD_agg, baD_fold, htake_self, gives_some, Round, Fin2, step_normal, step_exit, step_ret, fzC_ap, fzC_ap0, mapO_fz_app, mapO_d, fz_d, List.take_of_length_le, f10l0, g1, g3, c, c3, c4, h4, hi, g, gp, p, h2, h3, w1, w2, hx])
    b.ents.length 0 () [(1, .ptr (hlen H) 0 0 0), (3, .d (.int .i64 0))] (ap H [.row 0 2 [.d (baD b)]]) (by omega) ⟨rfl, rfl, rfl⟩
  rw [runI_any] at key
  obtain ⟨o, e', X', he, hq⟩ := key.out
  have p1 := p_20 b.now 0 1000000
  unfold baseOk
  by_cases h : anyF (badEn b) b.ents.length 0 = true
  · rw [if_pos h] at hq
    obtain ⟨rfl, tk, g2⟩ := hq
    simp [-List.getD_eq_getElem?_getD, -List.map_map, evBody, evCode, evOps, evOper, evOp, opd, Env.get, Env.put, Env.keep, zipEnv, V.ok, V.sto, binD, binInt, binStr, shInt, unD, eqOf, asI, leave, resOf, mapO, fzV, tupOf, view, view1, isData, hand, flatV, flatD, allD, mkAgg, mkVal, beq_lit, IntKind.bits, okIn, lowIn, lowIn1, lowT, fzC_d, ap0, ap_get, ap_get0, ap_set, ap_set0, ap_len, ap_take, ap_takeN, ap_nlt, ap_nlt0, ap_blt, ap_blt0, ap_bltR, ap_blt00, ap_ble, ap_ble0, ap_bleN, ap_bleR, rowOf, hload, hstore, hget, hset, reCell, src, allD_d', allD_app, ap_fzC, hand1, frzE, List.singleton_append, List.nil_append, List.cons_append, ap_ap, vc_agg, vc_dagg, va_agg, va_dagg, dc_agg, vc_str, va_str, dc_str, vc_int, va_int, dc_int, vc_bool, va_bool, dc_bool, vc_vals, va_vals, dc_vals, vc_nilp, va_nilp, dc_nilp, vc_rptr, va_rptr, dc_rptr, vc_fnd, va_fnd, dc_fnd, vc_nilfn, va_nilfn, dc_nilfn, vc_iface, va_iface, dc_iface, vc_niface, va_niface, dc_niface, vc_mval, va_mval, dc_mval, vc_slc, va_slc, vc_ptr, va_ptr, vc_fnv, va_fnv, vc_mref, va_mref, vc_nils, va_nils, vc_und, va_und, scD_cells, scD_vcells, scD_agg, scD_fold, prD_cells, prD_vcells, prD_agg, prD_fold, enD_cells, enD_vcells, enD_agg, enD_fold, baD_cells, baD_vcells, baD_agg, baD_fold, htake_self, gives_some, Round, Fin2, step_normal, step_exit, step_ret, fzC_ap, fzC_ap0, mapO_fz_app, mapO_d, fz_d, List.take_of_length_le, f10, he, tk, g2, h]
  · rw [if_neg h] at hq
    obtain ⟨rfl, rfl, g1⟩ := hq
    obtain ⟨x, hx⟩ : ∃ x, (decide (b.now ≥ 0) && decide (b.now ≤ 1000000)) = x := ⟨_, rfl⟩
    rw [hx] at p1
    have hx' : (decide (0 ≤ b.now) && decide (b.now ≤ 1000000)) = x := hx
    rw [hx']
    cases x
    · simp [-List.getD_eq_getElem?_getD, -List.map_map, evBody, evCode, evOps, evOper, evOp, opd, Env.get, Env.put, Env.keep, zipEnv, V.ok, V.sto, binD, binInt, binStr, shInt, unD, eqOf, asI, leave, resOf, mapO, fzV, tupOf, view, view1, isData, hand, flatV, flatD, allD, mkAgg, mkVal, beq_lit, IntKind.bits, okIn, lowIn, lowIn1, lowT, fzC_d, ap0, ap_get, ap_get0, ap_set, ap_set0, ap_len, ap_take, ap_takeN, ap_nlt, ap_nlt0, ap_blt, ap_blt0, ap_bltR, ap_blt00, ap_ble, ap_ble0, ap_bleN, ap_bleR, rowOf, hload, hstore, hget, hset, reCell, src, allD_d', allD_app, ap_fzC, hand1, frzE, List.singleton_append, List.nil_append, List.cons_append, ap_ap, vc_agg, vc_dagg, va_agg, va_dagg, dc_agg, vc_str, va_str, dc_str, vc_int, va_int, dc_int, vc_bool, va_bool, dc_bool, vc_vals, va_vals, dc_vals, vc_nilp, va_nilp, dc_nilp, vc_rptr, va_rptr, dc_rptr, vc_fnd, va_fnd, dc_fnd, vc_nilfn, va_nilfn, dc_nilfn, vc_iface, va_iface, dc_iface, vc_niface, va_niface, dc_niface, vc_mval, va_mval, dc_mval, vc_slc, va_slc, vc_ptr, va_ptr, vc_fnv, va_fnv, vc_mref, va_mref, vc_nils, va_nils, vc_und, va_und, scD_cells, scD_vcells, scD_agg, scD_fold, prD_cells, prD_vcells, prD_agg, prD_fold, enD_cells, enD_vcells, enD_agg, enD_fold, baD_cells, baD_vcells, baD_agg, baD_fold, htake_self, gives_some, Round, Fin2, step_normal, step_exit, step_ret, fzC_ap, fzC_ap0, mapO_fz_app, mapO_d, fz_d, List.take_of_length_le, f10, he, g1, h, p1]
    · by_cases n2 : b.ents.length ≤ 12
      · have n3 : (b.ents.length : Int) ≤ 12 := by omega
        simp [-List.getD_eq_getElem?_getD, -List.map_map, evBody, evCode, evOps, evOper, evOp, opd, Env.get, Env.put, Env.keep, zipEnv, V.ok, V.sto, binD, binInt, binStr, shInt, unD, eqOf, asI, leave, resOf, mapO, fzV, tupOf, view, view1, isData, hand, flatV, flatD, allD, mkAgg, mkVal, beq_lit, IntKind.bits, okIn, lowIn, lowIn1, lowT, fzC_d, ap0, ap_get, ap_get0, ap_set, ap_set0, ap_len, ap_take, ap_takeN, ap_nlt, ap_nlt0, ap_blt, ap_blt0, ap_bltR, ap_blt00, ap_ble, ap_ble0, ap_bleN, ap_bleR, rowOf, hload, hstore, hget, hset, reCell, src, allD_d', allD_app, ap_fzC, hand1, frzE, List.singleton_append, List.nil_append, List.cons_append, ap_ap, vc_agg, vc_dagg, va_agg, va_dagg, dc_agg, vc_str, va_str, dc_str, vc_int, va_int, dc_int, vc_bool, va_bool, dc_bool, vc_vals, va_vals, dc_vals, vc_nilp, va_nilp, dc_nilp, vc_rptr, va_rptr, dc_rptr, vc_fnd, va_fnd, dc_fnd, vc_nilfn, va_nilfn, dc_nilfn, vc_iface, va_iface, dc_iface, vc_niface, va_niface, dc_niface, vc_mval, va_mval, dc_mval, vc_slc, va_slc, vc_ptr, va_ptr, vc_fnv, va_fnv, vc_mref, va_mref, vc_nils, va_nils, vc_und, va_und, scD_cells, scD_vcells, scD_agg, scD_fold, prD_cells, prD_vcells, prD_agg, prD_fold, enD_cells, enD_vcells, enD_agg, enD_fold, baD_cells, baD_vcells, baD_agg, baD_fold, htake_self, gives_some, Round, Fin2, step_normal, step_exit, step_ret, fzC_ap, fzC_ap0, mapO_fz_app, mapO_d, fz_d, List.take_of_length_le, f10, he, g1, h, p1, n2, n3]
      · have n3 : ¬ (b.ents.length : Int) ≤ 12 := by omega
        simp [-List.getD_eq_getElem?_getD, -List.map_map, evBody, evCode, evOps, evOper, evOp, opd, Env.get, Env.put, Env.keep, zipEnv, V.ok, V.sto, binD, binInt, binStr, shInt, unD, eqOf, asI, leave, resOf, mapO, fzV, tupOf, view, view1, isData, hand, flatV, flatD, allD, mkAgg, mkVal, beq_lit, IntKind.bits, okIn, lowIn, lowIn1, lowT, fzC_d, ap0, ap_get, ap_get0, ap_set, ap_set0, ap_len, ap_take, ap_takeN, ap_nlt, ap_nlt0, ap_blt, ap_blt0, ap_bltR, ap_blt00, ap_ble, ap_ble0, ap_bleN, ap_bleR, rowOf, hload, hstore, hget, hset, reCell, src, allD_d', allD_app, ap_fzC, hand1, frzE, List.singleton_append, List.nil_append, List.cons_append, ap_ap, vc_agg, vc_dagg, va_agg, va_dagg, dc_agg, vc_str, va_str, dc_str, vc_int, va_int, dc_int, vc_bool, va_bool, dc_bool, vc_vals, va_vals, dc_vals, vc_nilp, va_nilp, dc_nilp, vc_rptr, va_rptr, dc_rptr, vc_fnd, va_fnd, dc_fnd, vc_nilfn, va_nilfn, dc_nilfn, vc_iface, va_iface, dc_iface, vc_niface, va_niface, dc_niface, vc_mval, va_mval, dc_mval, vc_slc, va_slc, vc_ptr, va_ptr, vc_fnv, va_fnv, vc_mref, va_mref, vc_nils, va_nils, vc_und, va_und, scD_cells, scD_vcells, scD_agg, scD_fold, prD_cells, prD_vcells, prD_agg, prD_fold, enD_cells, enD_vcells, enD_agg, enD_fold, baD_cells, baD_vcells, baD_agg, baD_fold, htake_self, gives_some, Round, Fin2, step_normal, step_exit, step_ret, fzC_ap, fzC_ap0, mapO_fz_app, mapO_d, fz_d, List.take_of_length_le, f10, he, g1, h, p1, n2, n3]
theorem p_14 (b : Ba) (hf : BaFit b) : pureCall (ev R) 14 [.d (baD b)] = some (.d (.bool (baseOk b))) := pureCall_eq fun H => by
  refine ev_fn (fn := f14) rfl rfl ?_
  have key := loop_run (F := evCode (ev R) R.glob (hlen H) evLoop f14l0) (lv := [1, 16, 17, 18]) (fun i (_ : Unit) => if badEn b i = true then (.inr () : Unit ⊕ Unit) else .inl ()) b.ents.length
    (fun i _ e X => X = ap H [.row 0 2 [.d (baD b)]] ∧ e.get 1 = .ptr (hlen H) 0 0 0 ∧ e.get 16 = .d (entsD b.ents) ∧ e.get 17 = .d (.int .i64 b.ents.length) ∧ e.get 18 = .d (.int .i64 i))
    (fun _ o e X => o = .exit 0 ∧ X = ap H [.row 0 2 [.d (baD b)]]) (fun _ o e X => o = .ret ∧ htake X (hlen H) = H ∧ e.get 2 = .d (.bool false))
    (by
      rintro s e X ⟨rfl, g1, g16, g17, g18⟩
      simp [-List.getD_eq_getElem?_getD, -List.map_map, evBody, evCode, evOps, evOper, evOp, opd, Env.get, Env.put, Env.keep, zipEnv, V.ok, V.sto, binD, binInt, binStr, shInt, unD, eqOf, asI, leave, resOf, mapO, fzV, tupOf, view, view1, isData, hand, flatV, flatD, allD, mkAgg, mkVal, beq_lit, IntKind.bits, okIn, lowIn, lowIn1, lowT, fzC_d, ap0, ap_get, ap_get0, ap_set, ap_set0, ap_len, ap_take, ap_takeN, ap_nlt, ap_nlt0, ap_blt, ap_blt0, ap_bltR, ap_blt00, ap_ble, ap_ble0, ap_bleN, ap_bleR, rowOf, hload, hstore, hget, hset, reCell, src, allD_d', allD_app, ap_fzC, hand1, frzE, List.singleton_append, List.nil_append, List.cons_append, ap_ap, vc_agg, vc_dagg, va_agg, va_dagg, dc_agg, vc_str, va_str, dc_str, vc_int, va_int, dc_int, vc_bool, va_bool, dc_bool, vc_vals, va_vals, dc_vals, vc_nilp, va_nilp, dc_nilp, vc_rptr, va_rptr, dc_rptr, vc_fnd, va_fnd, dc_fnd, vc_nilfn, va_nilfn, dc_nilfn, vc_iface, va_iface, dc_iface, vc_niface, va_niface, dc_niface, vc_mval, va_mval, dc_mval, vc_slc, va_slc, vc_ptr, va_ptr, vc_fnv, va_fnv, vc_mref, va_mref, vc_nils, va_nils, vc_und, va_und, scD_cells, scD_vcells, scD_agg, scD_fold, prD_cells, prD_vcells, prD_agg, prD_fold, enD_cells, enD_vcells, enD_agg, enD_fold, baD_cells, baD_vcells, baD_agg, baD_fold, htake_self, gives_some, Round, Fin2, step_normal, step_exit, step_ret, fzC_ap, fzC_ap0, mapO_fz_app, mapO_d, fz_d, List.take_of_length_le, f14l0, g1, g16, g17, g18])
    (by
      rintro i s e X hi ⟨rfl, g1, g16, g17, g18⟩
      have c : (i : Int) < (b.ents.length : Int) := by have := hi; omega
      have g := ents_get b.ents i hi
      have p := pureCall_eq (cl := ev R) fun H => e_26 H (b.ents.getD i default) (hf.each _ (getD_in hi))
      have w1 : IntKind.i64.wrap ((i : Int) + 1) = ((i + 1 : Nat) : Int) := by rw [IntWalk.i64_in _ (by have := hf.len; omega)]; rfl
      have w2 : 0 < i → IntKind.i64.wrap ((i : Int) - 1) = ((i - 1 : Nat) : Int) := fun h4 => by rw [IntWalk.i64_in _ (by have := hf.len; omega)]; omega
      have gp := fun h : 0 < i => ents_get b.ents (i - 1) (by omega)
      unfold badEn
      by_cases h1 : enOk (b.ents.getD i default) = true
      · rw [h1] at p
        by_cases h4 : 0 < i
        · have w2 := w2 h4
          have gp := gp h4
          have c3 : i - 1 < b.ents.length := by omega
          have c4 : (0 : Int) < (i : Int) := by omega
          have c7 : ¬ i = 0 := by omega
          generalize b.ents.getD i default = E at *
          generalize b.ents.getD (i - 1) default = E0 at *
          unfold badE
          rw [h1]
          obtain ⟨x, hx⟩ : ∃ x, Op.bytesLess E0.key E.key = x := ⟨_, rfl⟩
          cases x
          · simp [-List.getD_eq_getElem?_getD, -List.map_map, evBody, evCode, evOps, evOper, evOp, opd, Env.get, Env.put, Env.keep, zipEnv, V.ok, V.sto, binD, binInt, binStr, shInt, unD, eqOf, asI, leave, resOf, mapO, fzV, tupOf, view, view1, isData, hand, flatV, flatD, allD, mkAgg, mkVal, beq_lit, IntKind.bits, okIn, lowIn, lowIn1, lowT, fzC_d, ap0, ap_get, ap_get0, ap_set, ap_set0, ap_len, ap_take, ap_takeN, ap_nlt, ap_nlt0, ap_blt, ap_blt0, ap_bltR, ap_blt00, ap_ble, ap_ble0, ap_bleN, ap_bleR, rowOf, hload, hstore, hget, hset, reCell, src, allD_d', allD_app, ap_fzC, hand1, frzE, List.singleton_append, List.nil_append, List.cons_append, ap_ap, vc_agg, vc_dagg, va_agg, va_dagg, dc_agg, vc_str, va_str, dc_str, vc_int, va_int, dc_int, vc_bool, va_bool, dc_bool, vc_vals, va_vals, dc_vals, vc_nilp, va_nilp, dc_nilp, vc_rptr, va_rptr, dc_rptr, vc_fnd, va_fnd, dc_fnd, vc_nilfn, va_nilfn, dc_nilfn, vc_iface, va_iface, dc_iface, vc_niface, va_niface, dc_niface, vc_mval, va_mval, dc_mval, vc_slc, va_slc, vc_ptr, va_ptr, vc_fnv, va_fnv, vc_mref, va_mref, vc_nils, va_nils, vc_und, va_und, scD_cells, scD_vcells, scD_agg, scD_fold, prD_cells, prD_vcells, prD_agg, prD_fold, enD_cells, enD_vcells, enD_agg, enD_fold, baD_cells, baD_vcells, baD_agg, baD_fold, htake_self, gives_some, Round, Fin2, step_normal, step_exit, step_ret, fzC_ap, fzC_ap0, mapO_fz_app, mapO_d, fz_d, List.take_of_length_le, f14l0, g1, g16, g17, g18, c, c3, c4, c7, h4, hi, g, gp, p, w2, hx]
          · by_cases h2 : E.till = 0
            · have h2 := eq_true h2
              simp [-List.getD_eq_getElem?_getD, -List.map_map, evBody, evCode, evOps, evOper, evOp, opd, Env.get, Env.put, Env.keep, zipEnv, V.ok, V.sto, binD, binInt, binStr, shInt, unD, eqOf, asI, leave, resOf, mapO, fzV, tupOf, view, view1, isData, hand, flatV, flatD, allD, mkAgg, mkVal, beq_lit, IntKind.bits, okIn, lowIn, lowIn1, lowT, fzC_d, ap0, ap_get, ap_get0, ap_set, ap_set0, ap_len, ap_take, ap_takeN, ap_nlt, ap_nlt0, ap_blt, ap_blt0, ap_bltR, ap_blt00, ap_ble, ap_ble0, ap_bleN, ap_bleR, rowOf, hload, hstore, hget, hset, reCell, src, allD_d', allD_app, ap_fzC, hand1, frzE, List.singleton_append, List.nil_append, List.cons_append, ap_ap, vc_agg, vc_dagg, va_agg, va_dagg, dc_agg, vc_str, va_str, dc_str, vc_int, va_int, dc_int, vc_bool, va_bool, dc_bool, vc_vals, va_vals, dc_vals, vc_nilp, va_nilp, dc_nilp, vc_rptr, va_rptr, dc_rptr, vc_fnd, va_fnd, dc_fnd, vc_nilfn, va_nilfn, dc_nilfn, vc_iface, va_iface, dc_iface, vc_niface, va_niface, dc_niface, vc_mval, va_mval, dc_mval, vc_slc, va_slc, vc_ptr, va_ptr, vc_fnv, va_fnv, vc_mref, va_mref, vc_nils, va_nils, vc_und, va_und, scD_cells, scD_vcells, scD_agg, scD_fold, prD_cells, prD_vcells, prD_agg, prD_fold, enD_cells, enD_vcells, enD_agg, enD_fold, baD_cells, baD_vcells, baD_agg, baD_fold, htake_self, gives_some, Round, Fin2, step_normal, step_exit, step_ret, fzC_ap, fzC_ap0, mapO_fz_app, mapO_d, fz_d, List.take_of_length_le, f14l0, g1, g16, g17, g18, c, c3, c4, c7, h4, hi, g, gp, p, h2, w1, w2, hx]
            · by_cases h3 : E.till ≤ b.now
              · simp [-List.getD_eq_getElem?_getD, -List.map_map, evBody, evCode, evOps, evOper, evOp, opd, Env.get, Env.put, Env.keep, zipEnv, V.ok, V.sto, binD, binInt, binStr, shInt, unD, eqOf, asI, leave, resOf, mapO, fzV, tupOf, view, view1, isData, hand, flatV, flatD, allD, mkAgg, mkVal, beq_lit, IntKind.bits, okIn, lowIn, lowIn1, lowT, fzC_d, ap0, ap_get, ap_get0, ap_set, ap_set0, ap_len, ap_take, ap_takeN, ap_nlt, ap_nlt0, ap_blt, ap_blt0, ap_bltR, ap_blt00, ap_ble, ap_ble0, ap_bleN, ap_bleR, rowOf, hload, hstore, hget, hset, reCell, src, allD_d', allD_app, ap_fzC, hand1, frzE, List.singleton_append, List.nil_append, List.cons_append, ap_ap, vc_agg, vc_dagg, va_agg, va_dagg, dc_agg, vc_str, va_str, dc_str, vc_int, va_int, dc_int, vc_bool, va_bool, dc_bool, vc_vals, va_vals, dc_vals, vc_nilp, va_nilp, dc_nilp, vc_rptr, va_rptr, dc_rptr, vc_fnd, va_fnd, dc_fnd, vc_nilfn, va_nilfn, dc_nilfn, vc_iface, va_iface, dc_iface, vc_niface, va_niface, dc_niface, vc_mval, va_mval, dc_mval, vc_slc, va_slc, vc_ptr, va_ptr, vc_fnv, va_fnv, vc_mref, va_mref, vc_nils, va_nils, vc_und, va_und, scD_cells, scD_vcells, scD_agg, scD_fold, prD_cells, prD_vcells, prD_agg, prD_fold, enD_cells, enD_vcells, enD_agg, enD_fold, baD_cells, baD_vcells, baD_agg, baD_fold, htake_self, gives_some, Round, Fin2, step_normal, step_exit, step_ret, fzC_ap, fzC_ap0, mapO_fz_app, mapO_d, fz_d, List.take_of_length_le, f14l0, g1, g16, g17, g18, c, c3, c4, c7, h4, hi, g, gp, p, h2, h3, w1, w2, hx]
              · simp [-List.getD_eq_getElem?_getD, -List.map_map, evBody, evCode, evOps, evOper, evOp, opd, Env.get, Env.put, Env.keep, zipEnv, V.ok, V.sto, binD, binInt, binStr, shInt, unD, eqOf, asI, leave, resOf, mapO, fzV, tupOf, view, view1, isData, hand, flatV, flatD, allD, mkAgg, mkVal, beq_lit, IntKind.bits, okIn, lowIn, lowIn1, lowT, fzC_d, ap0, ap_get, ap_get0, ap_set, ap_set0, ap_len, ap_take, ap_takeN, ap_nlt, ap_nlt0, ap_blt, ap_blt0, ap_bltR, ap_blt00, ap_ble, ap_ble0, ap_bleN, ap_bleR, rowOf, hload, hstore, hget, hset, reCell, src, allD_d', allD_app, ap_fzC, hand1, frzE, List.singleton_append, List.nil_append, List.cons_append, ap_ap, vc_agg, vc_dagg, va_agg, va_dagg, dc_agg, vc_str, va_str, dc_str, vc_int, va_int, dc_int, vc_bool, va_bool, dc_bool, vc_vals, va_vals, dc_vals, vc_nilp, va_nilp, dc_nilp, vc_rptr, va_rptr, dc_rptr, vc_fnd, va_fnd, dc_fnd, vc_nilfn, va_nilfn, dc_nilfn, vc_iface, va_iface, dc_iface, vc_niface, va_niface, dc_niface, vc_mval, va_mval, dc_mval, vc_slc, va_slc, vc_ptr, va_ptr, vc_fnv, va_fnv, vc_mref, va_mref, vc_nils, va_nils, vc_und, va_und, scD_cells, scD_vcells, scD_agg, scD_fold, prD_cells, prD_vcells, prD_agg, prD_fold, enD_cells, enD_vcells, enD_agg, enD_fold, baD_cells, baD_vcells, baD_agg, baD_fold, htake_self, gives_some, Round, Fin2, step_normal, step_exit, step_ret, fzC_ap, fzC_ap0, mapO_fz_app, mapO_d, fz_d, List.take_of_length_le, f14l0, g1, g16, g17, g18, c, c3, c4, c7, h4, hi, g, gp, p, h2, h3, w1, w2, hx]
        · have c4 : ¬ (0 : Int) < (i : Int) := by omega
          have c6 : (i = 0) = True := eq_true (by omega)
          generalize b.ents.getD i default = E at *
          generalize b.ents.getD (i - 1) default = E0 at *
          unfold badE
          rw [h1]
          by_cases h2 : E.till = 0
          · have h2 := eq_true h2
            simp [-List.getD_eq_getElem?_getD, -List.map_map, evBody, evCode, evOps, evOper, evOp, opd, Env.get, Env.put, Env.keep, zipEnv, V.ok, V.sto, binD, binInt, binStr, shInt, unD, eqOf, asI, leave, resOf, mapO, fzV, tupOf, view, view1, isData, hand, flatV, flatD, allD, mkAgg, mkVal, beq_lit, IntKind.bits, okIn, lowIn, lowIn1, lowT, fzC_d, ap0, ap_get, ap_get0, ap_set, ap_set0, ap_len, ap_take, ap_takeN, ap_nlt, ap_nlt0, ap_blt, ap_blt0, ap_bltR, ap_blt00, ap_ble, ap_ble0, ap_bleN, ap_bleR, rowOf, hload, hstore, hget, hset, reCell, src, allD_d', allD_app, ap_fzC, hand1, frzE, List.singleton_append, List.nil_append, List.cons_append, ap_ap, vc_agg, vc_dagg, va_agg, va_dagg, dc_agg, vc_str, va_str, dc_str, vc_int, va_int, dc_int, vc_bool, va_bool, dc_bool, vc_vals, va_vals, dc_vals, vc_nilp, va_nilp, dc_nilp, vc_rptr, va_rptr, dc_rptr, vc_fnd, va_fnd, dc_fnd, vc_nilfn, va_nilfn, dc_nilfn, vc_iface, va_iface, dc_iface, vc_niface, va_niface, dc_niface, vc_mval, va_mval, dc_mval, vc_slc, va_slc, vc_ptr, va_ptr, vc_fnv, va_fnv, vc_mref, va_mref, vc_nils, va_nils, vc_und, va_und, scD_cells, scD_vcells, scD_agg, scD_fold, prD_cells, prD_vcells, prD_agg, prD_fold, enD_cells, enD_vcells, enD_agg, enD_fold, baD_cells, baD_vcells, baD_agg, baD_fold, htake_self, gives_some, Round, Fin2, step_normal, step_exit, step_ret, fzC_ap, fzC_ap0, mapO_fz_app, mapO_d, fz_d, List.take_of_length_le, f14l0, g1, g16, g17, g18, c, c4, c6, h4, hi, g, p, h2, w1]
          · by_cases h3 : E.till ≤ b.now
            · simp [-List.getD_eq_getElem?_getD, -List.map_map, evBody, evCode, evOps, evOper, evOp, opd, Env.get, Env.put, Env.keep, zipEnv, V.ok, V.sto, binD, binInt, binStr, shInt, unD, eqOf, asI, leave, resOf, mapO, fzV, tupOf, view, view1, isData, hand, flatV, flatD, allD, mkAgg, mkVal, beq_lit, IntKind.bits, okIn, lowIn, lowIn1, lowT, fzC_d, ap0, ap_get, ap_get0, ap_set, ap_set0, ap_len, ap_take, ap_takeN, ap_nlt, ap_nlt0, ap_blt, ap_blt0, ap_bltR, ap_blt00, ap_ble, ap_ble0, ap_bleN, ap_bleR, rowOf, hload, hstore, hget, hset, reCell, src, allD_d', allD_app, ap_fzC, hand1, frzE, List.singleton_append, List.nil_append, List.cons_append, ap_ap, vc_agg, vc_dagg, va_agg, va_dagg, dc_agg, vc_str, va_str, dc_str, vc_int, va_int, dc_int, vc_bool, va_bool, dc_bool, vc_vals, va_vals, dc_vals, vc_nilp, va_nilp, dc_nilp, vc_rptr, va_rptr, dc_rptr, vc_fnd, va_fnd, dc_fnd, vc_nilfn, va_nilfn, dc_nilfn, vc_iface, va_iface, dc_iface, vc_niface, va_niface, dc_niface, vc_mval, va_mval, dc_mval, vc_slc, va_slc, vc_ptr, va_ptr, vc_fnv, va_fnv, vc_mref, va_mref, vc_nils, va_nils, vc_und, va_und, scD_cells, scD_vcells, scD_agg, scD_fold, prD_cells, prD_vcells, prD_agg, prD_fold, enD_cells, enD_vcells, enD_agg, enD_fold, baD_cells, baD_vcells, baD_agg, baD_fold, htake_self, gives_some, Round, Fin2, step_normal, step_exit, step_ret, fzC_ap, fzC_ap0, mapO_fz_app, mapO_d, fz_d, List.take_of_length_le, f14l0, g1, g16, g17, g18, c, c4, c6, h4, hi, g, p, h2, h3, w1]
            · simp [-List.getD_eq_getElem?_getD, -List.map_map, evBody, evCode, evOps, evOper, evOp, opd, Env.get, Env.put, Env.keep, zipEnv, V.ok, V.sto, binD, binInt, binStr, shInt, unD, eqOf, asI, leave, resOf, mapO, fzV, tupOf, view, view1, isData, hand, flatV, flatD, allD, mkAgg, mkVal, beq_lit, IntKind.bits, okIn, lowIn, lowIn1, lowT, fzC_d, ap0, ap_get, ap_get0, ap_set, ap_set0, ap_len, ap_take, ap_takeN, ap_nlt, ap_nlt0, ap_blt, ap_blt0, ap_bltR, ap_blt00, ap_ble, ap_ble0, ap_bleN, ap_bleR, rowOf, hload, hstore, hget, hset, reCell, src, allD_d', allD_app, ap_fzC, hand1, frzE, List.singleton_append, List.nil_append, List.cons_append, ap_ap, vc_agg, vc_dagg, va_agg, va_dagg, dc_agg, vc_str, va_str, dc_str, vc_int, va_int, dc_int, vc_bool, va_bool, dc_bool, vc_vals, va_vals, dc_vals, vc_nilp, va_nilp, dc_nilp, vc_rptr, va_rptr, dc_rptr, vc_fnd, va_fnd, dc_fnd, vc_nilfn, va_nilfn, dc_nilfn, vc_iface, va_iface, dc_iface, vc_niface, va_niface, dc_niface, vc_mval, va_mval, dc_mval, vc_slc, va_slc, vc_ptr, va_ptr, vc_fnv, va_fnv, vc_mref, va_mref, vc_nils, va_nils, vc_und, va_und, scD_cells, scD_vcells, scD_agg, scD_fold, prD_cells, prD_vcells, prD_agg, prD_fold, enD_cells, enD_vcells, enD_agg, enD_fold, baD_cells, baD_vcells, baD_agg, baD_fold, htake_self, gives_some, Round, Fin2, step_normal, step_exit, step_ret, fzC_ap, fzC_ap0, mapO_fz_app, mapO_d, fz_d, List.take_of_length_le, f14l0, g1, g16, g17, g18, c, c4, c6, h4, hi, g, p, h2, h3, w1]
      · rw [Bool.not_eq_true] at h1
        rw [h1] at p
        generalize b.ents.getD i default = E at *
        unfold badE
        rw [h1]
        simp [-List.getD_eq_getElem?_getD, -List.map_map, evBody, evCode, evOps, evOper, evOp, opd, Env.get, Env.put, Env.keep, zipEnv, V.ok, V.sto, binD, binInt, binStr, shInt, unD, eqOf, asI, leave, resOf, mapO, fzV, tupOf, view, view1, isData, hand, flatV, flatD, allD, mkAgg, mkVal, beq_lit, IntKind.bits, okIn, lowIn, lowIn1, lowT, fzC_d, ap0, ap_get, ap_get0, ap_set, ap_set0, ap_len, ap_take, ap_takeN, ap_nlt, ap_nlt0, ap_blt, ap_blt0, ap_bltR, ap_blt00, ap_ble, ap_ble0, ap_bleN, ap_bleR, rowOf, hload, hstore, hget, hset, reCell, src, allD_d', allD_app, ap_fzC, hand1, frzE, List.singleton_append, List.nil_append, List.cons_append, ap_ap, vc_agg, vc_dagg, va_agg, va_dagg, dc_agg, vc_str, va_str, dc_str, vc_int, va_int, dc_int, vc_bool, va_bool, dc_bool, vc_vals, va_vals, dc_vals, vc_nilp, va_nilp, dc_nilp, vc_rptr, va_rptr, dc_rptr, vc_fnd, va_fnd, dc_fnd, vc_nilfn, va_nilfn, dc_nilfn, vc_iface, va_iface, dc_iface, vc_niface, va_niface, dc_niface, vc_mval, va_mval, dc_mval, vc_slc, va_slc, vc_ptr, va_ptr, vc_fnv, va_fnv, vc_mref, va_mref, vc_nils, va_nils, vc_und, va_und, scD_cells, scD_vcells, scD_agg, scD_fold, prD_cells, prD_vcells, prD_agg, prD_fold, enD_cells, enD_vcells, enD_agg, enD_fold, baD_cells, baD_vcells, baD_agg, baD_fold, htake_self, gives_some, Round, Fin2, step_normal, step_exit, step_ret, fzC_ap, fzC_ap0, mapO_fz_app, mapO_d, fz_d, List.take_of_length_le, f14l0, g1, g16, g17, g18, c, hi, g, p])
    b.ents.length 0 () [(1, .ptr (hlen H) 0 0 0), (16, .d (entsD b.ents)), (17, .d (.int .i64 b.ents.length)), (18, .d (.int .i64 0))] (ap H [.row 0 2 [.d (baD b)]]) (by omega) ⟨rfl, rfl, rfl, rfl, rfl⟩
  rw [runI_any] at key
  obtain ⟨o, e', X', he, hq⟩ := key.out
  have p1 := p_25 b.now 0 1000000
  unfold baseOk
  obtain ⟨x, hx⟩ : ∃ x, (decide (b.now ≥ 0) && decide (b.now ≤ 1000000)) = x := ⟨_, rfl⟩
  rw [hx] at p1
  have hx' : (decide (0 ≤ b.now) && decide (b.now ≤ 1000000)) = x := hx
  rw [hx']
  cases x
  · simp [-List.getD_eq_getElem?_getD, -List.map_map, evBody, evCode, evOps, evOper, evOp, opd, Env.get, Env.put, Env.keep, zipEnv, V.ok, V.sto, binD, binInt, binStr, shInt, unD, eqOf, asI, leave, resOf, mapO, fzV, tupOf, view, view1, isData, hand, flatV, flatD, allD, mkAgg, mkVal, beq_lit, IntKind.bits, okIn, lowIn, lowIn1, lowT, fzC_d, ap0, ap_get, ap_get0, ap_set, ap_set0, ap_len, ap_take, ap_takeN, ap_nlt, ap_nlt0, ap_blt, ap_blt0, ap_bltR, ap_blt00, ap_ble, ap_ble0, ap_bleN, ap_bleR, rowOf, hload, hstore, hget, hset, reCell, src, allD_d', allD_app, ap_fzC, hand1, frzE, List.singleton_append, List.nil_append, List.cons_append, ap_ap, vc_agg, vc_dagg, va_agg, va_dagg, dc_agg, vc_str, va_str, dc_str, vc_int, va_int, dc_int, vc_bool, va_bool, dc_bool, vc_vals, va_vals, dc_vals, vc_nilp, va_nilp, dc_nilp, vc_rptr, va_rptr, dc_rptr, vc_fnd, va_fnd, dc_fnd, vc_nilfn, va_nilfn, dc_nilfn, vc_iface, va_iface, dc_iface, vc_niface, va_niface, dc_niface, vc_mval, va_mval, dc_mval, vc_slc, va_slc, vc_ptr, va_ptr, vc_fnv, va_fnv, vc_mref, va_mref, vc_nils, va_nils, vc_und, va_und, scD_cells, scD_vcells, scD_agg, scD_fold, prD_cells, prD_vcells, prD_agg, prD_fold, enD_cells, enD_vcells, enD_agg, enD_fold, baD_cells, baD_vcells, baD_agg, baD_fold, htake_self, gives_some, Round, Fin2, step_normal, step_exit, step_ret, fzC_ap, fzC_ap0, mapO_fz_app, mapO_d, fz_d, List.take_of_length_le, f14, p1]
  · by_cases n2 : b.ents.length ≤ 12
    · have n3 : ¬ (12 : Int) < (b.ents.length : Int) := by omega
      have n4 : ¬ 12 < b.ents.length := by omega
      by_cases h : anyF (badEn b) b.ents.length 0 = true
      · rw [if_pos h] at hq
        obtain ⟨rfl, tk, g2⟩ := hq
        simp [-List.getD_eq_getElem?_getD, -List.map_map, evBody, evCode, evOps, evOper, evOp, opd, Env.get, Env.put, Env.keep, zipEnv, V.ok, V.sto, binD, binInt, binStr, shInt, unD, eqOf, asI, leave, resOf, mapO, fzV, tupOf, view, view1, isData, hand, flatV, flatD, allD, mkAgg, mkVal, beq_lit, IntKind.bits, okIn, lowIn, lowIn1, lowT, fzC_d, ap0, ap_get, ap_get0, ap_set, ap_set0, ap_len, ap_take, ap_takeN, ap_nlt, ap_nlt0, ap_blt, ap_blt0, ap_bltR, ap_blt00, ap_ble, ap_ble0, ap_bleN, ap_bleR, rowOf, hload, hstore, hget, hset, reCell, src, allD_d', allD_app, ap_fzC, hand1, frzE, List.singleton_append, List.nil_append, List.cons_append, ap_ap, vc_agg, vc_dagg, va_agg, va_dagg, dc_agg, vc_str, va_str, dc_str, vc_int, va_int, dc_int, vc_bool, va_bool, dc_bool, vc_vals, va_vals, dc_vals, vc_nilp, va_nilp, dc_nilp, vc_rptr, va_rptr, dc_rptr, vc_fnd, va_fnd, dc_fnd, vc_nilfn, va_nilfn, dc_nilfn, vc_iface, va_iface, dc_iface, vc_niface, va_niface, dc_niface, vc_mval, va_mval, dc_mval, vc_slc, va_slc, vc_ptr, va_ptr, vc_fnv, va_fnv, vc_mref, va_mref, vc_nils, va_nils, vc_und, va_und, scD_cells, scD_vcells, scD_agg, scD_fold, prD_cells, prD_vcells, prD_agg, prD_fold, enD_cells, enD_vcells, enD_agg, enD_fold, baD_cells, baD_vcells, baD_agg, baD_fold, htake_self, gives_some, Round, Fin2, step_normal, step_exit, step_ret, fzC_ap, fzC_ap0, mapO_fz_app, mapO_d, fz_d, List.take_of_length_le, f14, p1, n2, n3, n4, he, tk, g2, h]
      · rw [if_neg h] at hq
        obtain ⟨rfl, rfl⟩ := hq
        simp [-List.getD_eq_getElem?_getD, -List.map_map, evBody, evCode, evOps, evOper, evOp, opd, Env.get, Env.put, Env.keep, zipEnv, V.ok, V.sto, binD, binInt, binStr, shInt, unD, eqOf, asI, leave, resOf, mapO, fzV, tupOf, view, view1, isData, hand, flatV, flatD, allD, mkAgg, mkVal, beq_lit, IntKind.bits, okIn, lowIn, lowIn1, lowT, fzC_d, ap0, ap_get, ap_get0, ap_set, ap_set0, ap_len, ap_take, ap_takeN, ap_nlt, ap_nlt0, ap_blt, ap_blt0, ap_bltR, ap_blt00, ap_ble, ap_ble0, ap_bleN, ap_bleR, rowOf, hload, hstore, hget, hset, reCell, src, allD_d', allD_app, ap_fzC, hand1, frzE, List.singleton_append, List.nil_append, List.cons_append, ap_ap, vc_agg, vc_dagg, va_agg, va_dagg, dc_agg, vc_str, va_str, dc_str, vc_int, va_int, dc_int, vc_bool, va_bool, dc_bool, vc_vals, va_vals, dc_vals, vc_nilp, va_nilp, dc_nilp, vc_rptr, va_rptr, dc_rptr, vc_fnd, va_fnd, dc_fnd, vc_nilfn, va_nilfn, dc_nilfn, vc_iface, va_iface, dc_iface, vc_niface, va_niface, dc_niface, vc_mval, va_mval, dc_mval, vc_slc, va_slc, vc_ptr, va_ptr, vc_fnv, va_fnv, vc_mref, va_mref, vc_nils, va_nils, vc_und, va_und, scD_cells, scD_vcells, scD_agg, scD_fold, prD_cells, prD_vcells, prD_agg, prD_fold, enD_cells, enD_vcells, enD_agg, enD_fold, baD_cells, baD_vcells, baD_agg, baD_fold, htake_self, gives_some, Round, Fin2, step_normal, step_exit, step_ret, fzC_ap, fzC_ap0, mapO_fz_app, mapO_d, fz_d, List.take_of_length_le, f14, p1, n2, n3, n4, he, h]
    · have n3 : (12 : Int) < (b.ents.length : Int) := by omega
      have n4 : 12 < b.ents.length := by omega
      simp [-List.getD_eq_getElem?_getD, -List.map_map, evBody, evCode, evOps, evOper, evOp, opd, Env.get, Env.put, Env.keep, zipEnv, V.ok, V.sto, binD, binInt, binStr, shInt, unD, eqOf, asI, leave, resOf, mapO, fzV, tupOf, view, view1, isData, hand, flatV, flatD, allD, mkAgg, mkVal, beq_lit, IntKind.bits, okIn, lowIn, lowIn1, lowT, fzC_d, ap0, ap_get, ap_get0, ap_set, ap_set0, ap_len, ap_take, ap_takeN, ap_nlt, ap_nlt0, ap_blt, ap_blt0, ap_bltR, ap_blt00, ap_ble, ap_ble0, ap_bleN, ap_bleR, rowOf, hload, hstore, hget, hset, reCell, src, allD_d', allD_app, ap_fzC, hand1, frzE, List.singleton_append, List.nil_append, List.cons_append, ap_ap, vc_agg, vc_dagg, va_agg, va_dagg, dc_agg, vc_str, va_str, dc_str, vc_int, va_int, dc_int, vc_bool, va_bool, dc_bool, vc_vals, va_vals, dc_vals, vc_nilp, va_nilp, dc_nilp, vc_rptr, va_rptr, dc_rptr, vc_fnd, va_fnd, dc_fnd, vc_nilfn, va_nilfn, dc_nilfn, vc_iface, va_iface, dc_iface, vc_niface, va_niface, dc_niface, vc_mval, va_mval, dc_mval, vc_slc, va_slc, vc_ptr, va_ptr, vc_fnv, va_fnv, vc_mref, va_mref, vc_nils, va_nils, vc_und, va_und, scD_cells, scD_vcells, scD_agg, scD_fold, prD_cells, prD_vcells, prD_agg, prD_fold, enD_cells, enD_vcells, enD_agg, enD_fold, baD_cells, baD_vcells, baD_agg, baD_fold, htake_self, gives_some, Round, Fin2, step_normal, step_exit, step_ret, fzC_ap, fzC_ap0, mapO_fz_app, mapO_d, fz_d, List.take_of_length_le, f14, p1, n2, n3, n4]
end Go.Proofs.YtjdmiodinhlchaaDoor.Code
/- Lists of texts, drawn. -/
namespace Go.Proofs.YtjdmiodinhlchaaDoor.Code
open Go Go.Ev Go.Proofs
set_option maxRecDepth 100000
set_option linter.unusedSimpArgs false
set_option linter.unusedVariables false
def textsV (bs : List Int) : Nat → Int → List Txt
  | 0, _ => []
  | n + 1, p => textV bs p :: textsV bs n (p + 1)
theorem textsV_len (bs : List Int) : ∀ (n : Nat) (p : Int), (textsV bs n p).length = n
  | 0, _ => rfl
  | n + 1, p => by simp [textsV, textsV_len bs n (p + 1)]
/-- A row of texts. -/
def rowT (k : Nat) (ts : List Txt) : Ev.Obj := .row k 1 ((ts.map D.str).map V.d)
theorem hget_behind {H : Hp} {r : Nat} {o : Ev.Obj} {bs : List Int} {p : Int} (h : hget H r = some (rd bs p)) (q : Int) : hget (hpush (hset H r (rd bs q)) o) r = some (rd bs q) := by
  have hl := hget_lt h
  rw [hget_hpush_lt _ (by rw [hlen_hset]; exact hl), hget_hset_self _ hl]
theorem rowT_row {H : Hp} {k : Nat} {ts : List Txt} {n : Nat} (hn : n = hlen H) : rowOf (hpush H (rowT k ts)) n k = some (1, (ts.map D.str).map V.d) := by
  subst hn; exact rowOf_self _ _ _ _
theorem rowT_set {H : Hp} {k : Nat} {ts : List Txt} {t : Txt} {n : Nat} (hn : n = hlen H) (o : Ev.Obj) : hset (hpush H o) n (.row k 1 ((ts.map D.str).map V.d ++ [.d (.str t)])) = hpush H (rowT k (ts ++ [t])) := by
  subst hn
  rw [hset_push]
  simp [rowT]
theorem allD_d : ∀ (ds : List D), allD (ds.map V.d) = some ds
  | [] => rfl
  | d :: ds => by simp only [List.map_cons, allD, allD_d ds]
/-- A list that grows to the most there may be, or one more. -/
def growV (bs : List Int) : Nat → Int → List Txt → List Txt × Int
  | 0, p, ts => (ts, p)
  | f + 1, p, ts => if (ts.length : Int) < 16 + pickV bs p 2 then growV bs f (p + 1) (ts ++ [[110] ++ decV ts.length]) else (ts, p + 1)
theorem rowT_fz {H X : Hp} (hl : hlen H = hlen X) (k : Nat) (ts : List Txt) : fzC (hlen H) (hpush X (rowT k ts)) (.slc (hlen H) k 0 ts.length) = some (.d (txts ts)) := by
  rw [hl]
  exact fzC_row X k 1 _ _ (by simp)
theorem rowT_take {H X : Hp} (hl : hlen H = hlen X) (o : Ev.Obj) : htake (hpush X o) (hlen H) = X := by
  rw [hl]; exact htake_push _ _
/-- Any list of texts, drawn. -/
def anyV (bs : List Int) (p : Int) : List Txt × Int :=
  if pickV bs (p + 1 + ((pickV bs p 7).toNat : Int)) 16 = 0 then (textsV bs (pickV bs p 7).toNat (p + 1) ++ [many [121] 41 []], p + 1 + ((pickV bs p 7).toNat : Int) + 1)
  else if pickV bs (p + 1 + ((pickV bs p 7).toNat : Int)) 16 = 1 then growV bs (18 - (pickV bs p 7).toNat) (p + 1 + ((pickV bs p 7).toNat : Int) + 1) (textsV bs (pickV bs p 7).toNat (p + 1))
  else (textsV bs (pickV bs p 7).toNat (p + 1), p + 1 + ((pickV bs p 7).toNat : Int) + 1)
end Go.Proofs.YtjdmiodinhlchaaDoor.Code
/- Lists of lists of texts, as data. -/
namespace Go.Proofs.YtjdmiodinhlchaaDoor.Code
open Go Go.Ev Go.Proofs
set_option maxRecDepth 100000
set_option linter.unusedSimpArgs false
set_option linter.unusedVariables false
def textss (xss : List (List Txt)) : List D := xss.map fun xs => txts xs
theorem textss_get (xss : List (List Txt)) (i : Nat) (hi : i < xss.length) : (textss xss).getD i .nilp = txts (xss.getD i []) := by
  simp [textss, List.getD_eq_getElem?_getD, hi]
theorem textss_len (xss : List (List Txt)) : (textss xss).length = xss.length := by simp [textss]
end Go.Proofs.YtjdmiodinhlchaaDoor.Code
/- Lists of lists of texts, marked in place and found so again. -/
namespace Go.Proofs.YtjdmiodinhlchaaDoor.Code
open Go Go.Ev Go.Proofs
set_option maxRecDepth 100000
set_option linter.unusedSimpArgs false
set_option linter.unusedVariables false
def digM (n : Nat) (out : Txt) : Txt := if h : n = 0 then out else digM (n / 10) (UInt8.ofNat (48 + n % 10) :: out)
termination_by n
decreasing_by omega
theorem digM_len (n : Nat) : ∀ out : Txt, (digM n out).length ≤ out.length + n := by
  induction n using Nat.strongRecOn with
  | _ n ih =>
    intro out
    rw [digM]
    split
    · omega
    · have := ih (n / 10) (by omega) (UInt8.ofNat (48 + n % 10) :: out)
      rw [List.length_cons] at this
      omega
/-- The text of a mark. -/
def markV (n : Nat) : Txt := if n = 0 then [109, 48] else 109 :: digM n []
/-- The marks of a list. -/
def marks (at' : Nat) : Nat → List Txt
  | 0 => []
  | n + 1 => markV at' :: marks (at' + 1) n
theorem marks_len : ∀ (n a : Nat), (marks a n).length = n
  | 0, _ => rfl
  | n + 1, a => by simp [marks, marks_len n (a + 1)]
theorem marks_get : ∀ (n a i : Nat), i < n → (marks a n).getD i [] = markV (a + i)
  | n + 1, a, 0, _ => rfl
  | n + 1, a, i + 1, h => by
    simp only [marks, List.getD_cons_succ]
    rw [marks_get n (a + 1) i (by omega)]
    congr 1; omega
/-- The marks of a list of lists. -/
def marksS (a : Nat) : List (List Txt) → List (List Txt)
  | [] => []
  | x :: r => marks a x.length :: marksS (a + x.length) r
/-- How many texts there are. -/
def total : List (List Txt) → Nat
  | [] => 0
  | x :: r => x.length + total r
theorem marksS_len : ∀ (xss : List (List Txt)) (a : Nat), (marksS a xss).length = xss.length
  | [], _ => rfl
  | x :: r, a => by simp [marksS, marksS_len r]
theorem marksS_get : ∀ (xss : List (List Txt)) (a i : Nat), i < xss.length → (marksS a xss).getD i [] = marks (a + total (xss.take i)) (xss.getD i []).length
  | x :: r, a, 0, _ => by simp [marksS, total]
  | x :: r, a, i + 1, h => by
    simp only [List.length_cons] at h
    simp only [marksS, List.getD_cons_succ, List.take_succ_cons, total]
    rw [marksS_get r (a + x.length) i (by omega)]
    congr 1; omega
theorem total_take (xss : List (List Txt)) : ∀ (i : Nat), i < xss.length → total (xss.take (i + 1)) = total (xss.take i) + (xss.getD i []).length := by
  induction xss with
  | nil => intro i h; simp at h
  | cons x r ih =>
    intro i h
    cases i with
    | zero => simp [total]
    | succ i =>
      simp only [List.length_cons] at h
      simp only [List.take_succ_cons, total, List.getD_cons_succ]
      rw [ih i (by omega)]
      omega
theorem total_le (xss : List (List Txt)) : ∀ (i : Nat), total (xss.take i) ≤ total xss := by
  induction xss with
  | nil => intro i; simp [total]
  | cons x r ih =>
    intro i
    cases i with
    | zero => simp [total]
    | succ i =>
      simp only [List.take_succ_cons, total]
      have := ih i
      omega
theorem total_all (xss : List (List Txt)) : total (xss.take xss.length) = total xss := by rw [List.take_length]
end Go.Proofs.YtjdmiodinhlchaaDoor.Code
/- Rows of rows of texts, and marking them in place. -/
namespace Go.Proofs.YtjdmiodinhlchaaDoor.Code
open Go Go.Ev Go.Proofs
set_option maxRecDepth 100000
set_option linter.unusedSimpArgs false
set_option linter.unusedVariables false
/-- A row's texts. -/
def dat (x : List Txt) : List V := (x.map D.str).map V.d
theorem rowT_is (x : List Txt) : rowT 0 x = .row 0 1 (dat x) := rfl
theorem dat_len (x : List Txt) : (dat x).length = x.length := by simp [dat]
def refs1 (k : Nat) : List (List Txt) → List V
  | [] => []
  | x :: r => .slc k 0 0 x.length :: refs1 (k + 1) r
theorem refs1_len : ∀ (xss : List (List Txt)) (k : Nat), (refs1 k xss).length = xss.length
  | [], _ => rfl
  | x :: r, k => by simp [refs1, refs1_len r]
theorem refs1_get : ∀ (xss : List (List Txt)) (k j : Nat), j < xss.length → (refs1 k xss)[j]? = some (.slc (k + j) 0 0 (xss.getD j []).length)
  | x :: r, k, 0, _ => by simp [refs1]
  | x :: r, k, j + 1, h => by
    simp only [List.length_cons] at h
    simp only [refs1, List.getElem?_cons_succ, List.getD_cons_succ]
    rw [refs1_get r (k + 1) j (by omega)]
    congr 2; omega
theorem rowOf_hset_ne {X : Hp} {r r' g : Nat} (o : Ev.Obj) (h : r' ≠ r) : rowOf (hset X r o) r' g = rowOf X r' g := by
  simp only [rowOf, hget_hset_ne o h]
theorem rowOf_lt {X : Hp} {r g : Nat} {p : Nat × List V} (h : rowOf X r g = some p) : r < hlen X := by
  unfold rowOf at h
  split at h
  · rename_i hg; exact hget_lt hg
  · simp at h
theorem rowOf_hset_self {X : Hp} {r : Nat} (g e : Nat) (xs : List V) (h : r < hlen X) : rowOf (hset X r (.row g e xs)) r g = some (e, xs) := by
  simp [rowOf, hget_hset_self _ h]
theorem hget_of_row {X : Hp} {r g e : Nat} {xs : List V} (h : rowOf X r g = some (e, xs)) : hget X r = some (.row g e xs) := by
  unfold rowOf at h
  split at h
  · rename_i g' e' xs' hg
    cases hb : Nat.beq g' g with
    | false => rw [hb] at h; simp at h
    | true =>
      rw [hb] at h
      have := Nat.eq_of_beq_eq_true hb
      simp only [cond_true, Option.some.injEq, Prod.mk.injEq] at h
      obtain ⟨rfl, rfl⟩ := h
      subst this
      exact hg
  · simp at h
theorem hset_as {X : Hp} {r : Nat} {o : Ev.Obj} (h : hget X r = some o) : hset X r o = X := by
  induction X generalizing r with
  | nil => rfl
  | cons x X ih =>
    cases r with
    | zero => simp only [hget, Option.some.injEq] at h; subst h; rfl
    | succ r => simp only [hget] at h; simp only [hset, ih h]
theorem dat_set (ys : List Txt) (i : Nat) (v : Txt) : (dat ys).set i (.d (.str v)) = dat (ys.set i v) := by simp [dat, List.map_set]
theorem dat_store (X : Hp) (r i : Nat) (ys : List Txt) (v : Txt) (hi : i < ys.length) (hr : rowOf X r 0 = some (1, dat ys)) : hstore X r 0 i 0 [.d (.str v)] = some (hset X r (rowT 0 (ys.set i v))) := by
  have g : (dat ys)[i]? = some (.d (.str (ys.getD i []))) := by
    simp [dat, List.getD_eq_getElem?_getD, hi]
  have h := dat_set ys i v
  rw [rowT_is, ← h]
  simp [hstore, hr, g, V.cells, reCell, V.isAgg]
theorem take_set (ys : List Txt) (i : Nat) (v : Txt) (hi : i < ys.length) : (ys.set i v).take (i + 1) = ys.take i ++ [v] := by
  rw [List.take_set, List.take_add_one, List.getElem?_eq_getElem hi, Option.toList_some]
  rw [List.set_append_right _ _ (by simp; omega)]
  have : i - (ys.take i).length = 0 := by simp; omega
  rw [this]
  rfl
/-- The rows of k, k + 1, .. marked, and nothing else. -/
def markH (X : Hp) (k b : Nat) : List (List Txt) → Hp
  | [] => X
  | x :: r => markH (hset X k (rowT 0 (marks b x.length))) (k + 1) (b + x.length) r
theorem markH_len : ∀ (xss : List (List Txt)) (X : Hp) (k b : Nat), hlen (markH X k b xss) = hlen X
  | [], _, _, _ => rfl
  | x :: r, X, k, b => by rw [markH, markH_len r, hlen_hset]
theorem markH_ne : ∀ (xss : List (List Txt)) (X : Hp) (k b q g : Nat), q < k ∨ k + xss.length ≤ q → rowOf (markH X k b xss) q g = rowOf X q g
  | [], _, _, _, _, _, _ => rfl
  | x :: r, X, k, b, q, g, h => by
    simp only [List.length_cons] at h
    rw [markH, markH_ne r _ _ _ _ _ (by omega), rowOf_hset_ne _ (by omega)]
theorem markH_get : ∀ (xss : List (List Txt)) (X : Hp) (k b j : Nat), j < xss.length → k + xss.length ≤ hlen X → rowOf (markH X k b xss) (k + j) 0 = some (1, dat ((marksS b xss).getD j []))
  | x :: r, X, k, b, 0, h, hX => by
    simp only [List.length_cons] at hX
    rw [markH, markH_ne r _ _ _ _ _ (by omega), Nat.add_zero, rowT_is, rowOf_hset_self _ _ _ (by omega)]
    rfl
  | x :: r, X, k, b, j + 1, h, hX => by
    simp only [List.length_cons] at hX h
    rw [markH]
    have := markH_get r (hset X k (rowT 0 (marks b x.length))) (k + 1) (b + x.length) j (by omega) (by rw [hlen_hset]; omega)
    rw [show k + (j + 1) = k + 1 + j by omega, this]
    rfl
theorem refs1_marks : ∀ (xss : List (List Txt)) (k b : Nat), refs1 k (marksS b xss) = refs1 k xss
  | [], _, _ => rfl
  | x :: r, k, b => by simp only [marksS, refs1, marks_len, refs1_marks r]
/-- Rows k, k + 1, .., and the row of them. -/
def Nest (X : Hp) (k : Nat) (xss : List (List Txt)) : Prop := (∀ j, j < xss.length → rowOf X (k + j) 0 = some (1, dat (xss.getD j []))) ∧ rowOf X (k + xss.length) 0 = some (1, refs1 k xss)
theorem Nest.push {X : Hp} {k : Nat} {xss : List (List Txt)} (h : Nest X k xss) (o : Ev.Obj) : Nest (hpush X o) k xss :=
  ⟨fun j hj => rowOf_push (h.1 j hj), rowOf_push h.2⟩
theorem Nest.mark {X : Hp} {k : Nat} {xss : List (List Txt)} (h : Nest X k xss) (b : Nat) : Nest (markH X k b xss) k (marksS b xss) := by
  have hl := rowOf_lt h.2
  refine ⟨fun j hj => ?_, ?_⟩
  · rw [marksS_len] at hj
    exact markH_get xss X k b j hj (by omega)
  · rw [marksS_len, markH_ne xss X k b _ _ (by omega), refs1_marks]
    exact h.2
theorem fz_refs {X : Hp} : ∀ (xss : List (List Txt)) (k : Nat), (∀ j, j < xss.length → rowOf X (k + j) 0 = some (1, dat (xss.getD j []))) → mapO (fz 0 7 X) (refs1 k xss) = some (textss xss)
  | [], _, _ => rfl
  | x :: r, k, h => by
    have h0 := h 0 (by simp)
    simp only [Nat.add_zero, List.getD_cons_zero] at h0
    have f := fz_row (n := 0) (d := 6) (i := 0) (k := x.length) (by omega) h0 (by simp [dat]) (ys := x.map D.str) (by
      rw [List.drop_zero, List.take_of_length_le (by simp [dat])]; exact mapO_d _)
    have ih := fz_refs (X := X) r (k + 1) (fun j hj => by
      have := h (j + 1) (by simp; omega)
      rw [show k + (j + 1) = k + 1 + j by omega, List.getD_cons_succ] at this
      exact this)
    simp only [refs1, mapO, f, ih]
    rfl
theorem Nest.fz {X : Hp} {k : Nat} {xss : List (List Txt)} (h : Nest X k xss) : Ev.fz 0 deep X (.slc (k + xss.length) 0 0 xss.length) = some (.vals 1 (textss xss)) := by
  have f := fz_row (n := 0) (d := 7) (i := 0) (k := xss.length) (by omega) h.2 (by rw [refs1_len]; omega) (ys := textss xss) (by
    rw [List.drop_zero, List.take_of_length_le (by rw [refs1_len]; omega)]; exact fz_refs xss k h.1)
  rw [show deep = 7 + 1 from rfl]
  exact f
theorem allD_refs (xss : List (List Txt)) (k : Nat) (h : xss ≠ []) : allD (refs1 k xss) = none := by
  cases xss with
  | nil => exact absurd rfl h
  | cons x r => rfl
theorem Nest.view {X : Hp} {k : Nat} {xss : List (List Txt)} (h : Nest X k xss) (hn : xss ≠ []) : Ev.view X (.slc (k + xss.length) 0 0 xss.length) = some (.vals 1 (textss xss)) := by
  have h2 := h.2
  have h3 := h.fz
  have a := allD_refs xss k hn
  simp only [Ev.view, view1, h2, a, refs1_len, h3]
  simp
end Go.Proofs.YtjdmiodinhlchaaDoor.Code
/- A list of lists that is being made: its rows, wherever they lie, and how they are handed over. -/
namespace Go.Proofs.YtjdmiodinhlchaaDoor.Code
open Go Go.Ev Go.Proofs
set_option maxRecDepth 100000
set_option linter.unusedSimpArgs false
set_option linter.unusedVariables false
abbrev Li := Nat × Nat × List Txt
def refsL (L : List Li) : List V := L.map fun p => .slc p.1 p.2.1 0 p.2.2.length
def listsL (L : List Li) : List (List Txt) := L.map fun p => p.2.2
theorem refsL_len (L : List Li) : (refsL L).length = L.length := by simp [refsL]
theorem listsL_len (L : List Li) : (listsL L).length = L.length := by simp [listsL]
theorem refsL_snoc (L : List Li) (k g : Nat) (x : List Txt) : refsL (L ++ [(k, g, x)]) = refsL L ++ [.slc k g 0 x.length] := by simp [refsL]
theorem listsL_snoc (L : List Li) (k g : Nat) (x : List Txt) : listsL (L ++ [(k, g, x)]) = listsL L ++ [x] := by simp [listsL]
/-- In X, made out of H, row o holds the lists of L, which lie where L says. -/
structure OutL (H : Hp) (o : Nat) (X : Hp) (g : Nat) (L : List Li) : Prop where
  take : htake X (hlen H) = H
  row : rowOf X o g = some (1, refsL L)
  lies : ∀ p ∈ L, rowOf X p.1 p.2.1 = some (1, dat p.2.2) ∧ o < p.1
  dist : L.Pairwise fun p q => p.1 ≠ q.1
  lo : hlen H ≤ o
theorem htake_le {X : Hp} {n : Nat} (o : Ev.Obj) (h : n ≤ hlen X) : htake (hpush X o) n = htake X n := by
  simp only [htake, hpush, hlen] at *
  rw [List.take_append_of_le_length h]
theorem htake_hset_le {X : Hp} {n r : Nat} (o : Ev.Obj) (h : n ≤ r) : htake (hset X r o) n = htake X n := by
  simp only [htake]
  rw [hset_at, List.take_set_of_le h]
theorem OutL.lt {H X : Hp} {o g : Nat} {L : List Li} (h : OutL H o X g L) : o < hlen X := rowOf_lt h.row
theorem OutL.start (H : Hp) (X : Hp) (hX : htake X (hlen H) = H) (hl : hlen H ≤ hlen X) : OutL H (hlen X) (hpush X (.row 0 1 [])) 0 [] :=
  ⟨by rw [htake_le _ hl]; exact hX, rowOf_self _ _ _ _, fun p hp => by simp at hp, List.Pairwise.nil, hl⟩
theorem OutL.push {H X : Hp} {o g : Nat} {L : List Li} (h : OutL H o X g L) (ob : Ev.Obj) : OutL H o (hpush X ob) g L :=
  ⟨by rw [htake_le _ (by have := h.lt; have := h.lo; omega)]; exact h.take, rowOf_push h.row, fun p hp => ⟨rowOf_push (h.lies p hp).1, (h.lies p hp).2⟩, h.dist, h.lo⟩
/-- A row that is none of the list's is changed. -/
theorem OutL.other {H X : Hp} {o g : Nat} {L : List Li} (h : OutL H o X g L) {r : Nat} (ob : Ev.Obj) (h1 : o < r) (h2 : ∀ p ∈ L, p.1 ≠ r) : OutL H o (hset X r ob) g L :=
  ⟨by rw [htake_hset_le _ (by have := h.lo; omega)]; exact h.take, by rw [rowOf_hset_ne _ (by omega)]; exact h.row, fun p hp => ⟨by rw [rowOf_hset_ne _ (h2 p hp)]; exact (h.lies p hp).1, (h.lies p hp).2⟩, h.dist, h.lo⟩
theorem OutL.fresh {H X : Hp} {o g : Nat} {L : List Li} (h : OutL H o X g L) : ∀ p ∈ L, p.1 < hlen X := fun p hp => rowOf_lt (h.lies p hp).1
theorem OutL.add {H X : Hp} {o g : Nat} {L : List Li} (h : OutL H o X g L) {k g' : Nat} {x : List Txt} (hr : rowOf X k g' = some (1, dat x)) (hk : o < k) (hn : ∀ p ∈ L, p.1 ≠ k) : OutL H o (hset X o (.row (g + 1) 1 (refsL L ++ [.slc k g' 0 x.length]))) (g + 1) (L ++ [(k, g', x)]) := by
  refine ⟨by rw [htake_hset_le _ h.lo]; exact h.take, ?_, fun p hp => ?_, ?_, h.lo⟩
  · rw [rowOf_hset_self _ _ _ h.lt, refsL_snoc]
  · rcases List.mem_append.1 hp with hp | hp
    · have := h.lies p hp
      exact ⟨by rw [rowOf_hset_ne _ (by omega)]; exact this.1, this.2⟩
    · simp only [List.mem_singleton] at hp
      subst hp
      exact ⟨by rw [rowOf_hset_ne _ (by omega)]; exact hr, hk⟩
  · rw [List.pairwise_append]
    refine ⟨h.dist, List.pairwise_singleton _ _, fun p hp q hq => ?_⟩
    simp only [List.mem_singleton] at hq
    subst hq
    exact hn p hp
theorem allD_dat (x : List Txt) : allD (dat x) = some (x.map D.str) := allD_d _
/-- Lists handed over: their rows, and the row of them. -/
def nestH (H : Hp) (xss : List (List Txt)) : Hp := hpush ((H : List Ev.Obj) ++ xss.map (rowT 0)) (.row 0 1 (refs1 (hlen H) xss))
theorem own_refsL (n : Nat) (f : Hp → Hp → V → Option (V × Hp × Hp)) : ∀ (L : List Li) (X base : Hp), (∀ p ∈ L, n ≤ p.1 ∧ rowOf X p.1 p.2.1 = some (1, dat p.2.2)) → (L.Pairwise fun p q => p.1 ≠ q.1) →
    ∃ X', ownEs (layer n (layer n (own1 n))) X base (refsL L) = some (refs1 (hlen base) (listsL L), X', (base : List Ev.Obj) ++ (listsL L).map (rowT 0)) ∧ ∀ r g, (∀ p ∈ L, p.1 ≠ r) → rowOf X' r g = rowOf X r g
  | [], X, base, h, hd => ⟨X, by simp [refsL, listsL, ownEs, refs1], fun _ _ _ => rfl⟩
  | (k, g, x) :: r, X, base, h, hd => by
    obtain ⟨hk, h0⟩ := h (k, g, x) (by simp)
    simp only at hk h0
    obtain ⟨hd1, hd2⟩ := List.pairwise_cons.1 hd
    obtain ⟨X', h1, h2⟩ := own_refsL n f r (hset X k .dead) (hpush base (rowT 0 x)) (fun p hp => by
      obtain ⟨a, b⟩ := h p (by simp [hp])
      exact ⟨a, by rw [rowOf_hset_ne _ (Ne.symm (hd1 p hp))]; exact b⟩) hd2
    have hn : ¬ k < n := by omega
    have a := allD_dat x
    rw [hlen_hpush] at h1
    have e1 : own1 n X base (.slc k g 0 x.length) = some (.slc (hlen base) 0 0 x.length, hset X k .dead, hpush base (rowT 0 x)) := by
      simp only [own1, hn, if_false, h0, a, rowT_is]
    have e2 : layer n (layer n (own1 n)) X base (.slc k g 0 x.length) = some (.slc (hlen base) 0 0 x.length, hset X k .dead, hpush base (rowT 0 x)) := by
      rw [layer, e1]
    refine ⟨X', ?_, fun q g' hq => by
      rw [h2 q g' (fun p hp => hq p (by simp [hp])), rowOf_hset_ne _ (Ne.symm (hq (k, g, x) (by simp)))]⟩
    simp only [refsL, listsL, List.map_cons, ownEs, ownEl, e2, refs1]
    simp only [refsL, listsL] at h1
    rw [h1]
    simp [hpush]
theorem OutL.own {H X : Hp} {o g : Nat} {L : List Li} (h : OutL H o X g L) : ∃ X', ownL (hlen H) X H [.slc o g 0 L.length] = some ([.slc (hlen H + L.length) 0 0 L.length], X', nestH H (listsL L)) := by
  obtain ⟨X', h1, h2⟩ := own_refsL (hlen H) (own1 (hlen H)) L X H (fun p hp => ⟨by have := (h.lies p hp).2; have := h.lo; omega, (h.lies p hp).1⟩) h.dist
  have hr := h.row
  have hr2 := h2 o g (fun p hp => by have := (h.lies p hp).2; omega)
  rw [hr] at hr2
  have hn : ¬ o < hlen H := by have := h.lo; omega
  have bl : hlen ((H : List Ev.Obj) ++ (listsL L).map (rowT 0)) = hlen H + L.length := by simp [hlen, listsL]
  have d2 : ∃ X, ownEl (layer (hlen H) (layer (hlen H) (layer (hlen H) (own1 (hlen H))))) X H (.slc o g 0 L.length) = some (.slc (hlen H + L.length) 0 0 L.length, X, nestH H (listsL L)) ∨ True := ⟨X, .inr trivial⟩
  have d2 : ∃ Z, ownEl (layer (hlen H) (layer (hlen H) (layer (hlen H) (own1 (hlen H))))) X H (.slc o g 0 L.length) = some (.slc (hlen H + L.length) 0 0 L.length, Z, nestH H (listsL L)) := by
    simp only [ownEl]
    rw [layer]
    cases hx : L with
    | nil =>
      rw [hx] at hr
      refine ⟨hset X o .dead, ?_⟩
      simp only [own1, hn, if_false, hr, refsL, List.map_nil, allD]
      simp [nestH, refs1, listsL]
    | cons y r =>
      rw [← hx]
      have al : allD (refsL L) = none := by rw [hx]; rfl
      refine ⟨hset X' o .dead, ?_⟩
      simp only [own1, hn, if_false, hr, al, h1, hr2, bl]
      rfl
  obtain ⟨Z, d2⟩ := d2
  refine ⟨Z, ?_⟩
  simp only [ownL, ownEs, d2]
theorem OutL.ownB {H X : Hp} {o g : Nat} {L : List Li} (h : OutL H o X g L) (n : Nat) (B : Hp) (hnH : n ≤ hlen H) : ∃ X', ownL n X B [.slc o g 0 L.length] = some ([.slc (hlen B + L.length) 0 0 L.length], X', nestH B (listsL L)) := by
  obtain ⟨X', h1, h2⟩ := own_refsL n (own1 n) L X B (fun p hp => ⟨by have := (h.lies p hp).2; have := h.lo; omega, (h.lies p hp).1⟩) h.dist
  have hr := h.row
  have hr2 := h2 o g (fun p hp => by have := (h.lies p hp).2; omega)
  rw [hr] at hr2
  have hn : ¬ o < n := by have := h.lo; omega
  have bl : hlen ((B : List Ev.Obj) ++ (listsL L).map (rowT 0)) = hlen B + L.length := by simp [hlen, listsL]
  have d2 : ∃ Z, ownEl (layer n (layer n (layer n (own1 n)))) X B (.slc o g 0 L.length) = some (.slc (hlen B + L.length) 0 0 L.length, Z, nestH B (listsL L)) := by
    simp only [ownEl]
    rw [layer]
    cases hx : L with
    | nil =>
      rw [hx] at hr
      refine ⟨hset X o .dead, ?_⟩
      simp only [own1, hn, if_false, hr, refsL, List.map_nil, allD]
      simp [nestH, refs1, listsL]
    | cons y r =>
      rw [← hx]
      have al : allD (refsL L) = none := by rw [hx]; rfl
      refine ⟨hset X' o .dead, ?_⟩
      simp only [own1, hn, if_false, hr, al, h1, hr2, bl]
      rfl
  obtain ⟨Z, d2⟩ := d2
  refine ⟨Z, ?_⟩
  simp only [ownL, ownEs, d2]
/-- A row of the base lies as it lay. -/
theorem OutL.base {H X : Hp} {o g : Nat} {L : List Li} (h : OutL H o X g L) {r g' : Nat} {p : Nat × List V} (hr : rowOf H r g' = some p) : rowOf X r g' = some p := by
  have hl := rowOf_lt hr
  have ht := h.take
  have e : hget X r = hget H r := by
    rw [hget_at, hget_at]
    rw [← ht]
    simp only [htake]
    rw [List.getElem?_take_of_lt hl]
  unfold rowOf at hr ⊢
  rw [e]; exact hr
end Go.Proofs.YtjdmiodinhlchaaDoor.Code
/- Lists cut into chunks of six: the reference. -/
namespace Go.Proofs.YtjdmiodinhlchaaDoor.Code
open Go Go.Ev Go.Proofs
set_option maxRecDepth 100000
set_option linter.unusedSimpArgs false
set_option linter.unusedVariables false
/-- Chunks of six, each behind a word and a key. -/
def chunks (w k : Txt) (xs : List Txt) : Nat → Nat → List (List Txt)
  | 0, _ => []
  | f + 1, i => if i < xs.length then ((w :: k :: ((xs.take (min (i + 6) xs.length)).drop i)) :: chunks w k xs f (i + 6)) else []
/-- What the loop leaves. -/
def Q_23 (H : Hp) (xss : List (List Txt)) (o : Option (Ev.Out × St)) : Prop :=
  ∃ e' X' g' L', o = some (.exit 0, ⟨e', X'⟩) ∧ OutL H (hlen H) X' g' L' ∧ listsL L' = xss ∧ e'.get 7 = .slc (hlen H) g' 0 L'.length
theorem l_23 (H : Hp) (w k : Txt) (xs : List Txt) (hx : xs.length ≤ 1000000) : ∀ (f i g : Nat) (L : List Li) (X : Hp) (e : Env), xs.length ≤ i + 6 * f → L.length + f ≤ 1000000 → i ≤ 2000000 → OutL H (hlen H) X g L → e.get 0 = .d (.str w) → e.get 1 = .d (.str k) → e.get 2 = .d (txts xs) → e.get 7 = .slc (hlen H) g 0 L.length → e.get 8 = .d (.int .i64 i) →
    Q_23 H (listsL L ++ chunks w k xs f i) (evLoop (evCode (ev R) R.glob (hlen H) evLoop f23l0) [0, 1, 2, 7, 8] ⟨e, X⟩)
  | 0, i, g, L, X, e, h1, h2, hi, hO, g0, g1, g2, g7, g8 => by
    have c : ¬ (i : Int) < (xs.length : Int) := by omega
    have c' : ¬ i < xs.length := by omega
    rw [evLoop_eq]
    unfold Q_23
    refine ⟨?_, X, g, L, ?_, hO, by simp [chunks], ?_⟩
    rotate_left
    · simp [-List.getD_eq_getElem?_getD, -List.map_map, evBody, evCode, evOps, evOper, evOp, opd, Env.get, Env.put, Env.keep, zipEnv, V.ok, V.sto, V.cells, D.cells, V.isAgg, binD, binInt, binStr, shInt, unD, eqOf, asI, leave, resOf, mapO, fzV, tupOf, view, view1, isData, hand, flatV, flatD, allD, mkAgg, mkVal, beq_lit, IntKind.bits, htake_self, htake_push, hget_hpush_self, hset_push, rowOf_self, okIn, lowIn, lowIn1, fzC_d, fzC_row, f23l0, g0, g1, g2, g7, g8, txts, c, c']
      try rfl
    · simp [-List.getD_eq_getElem?_getD, -List.map_map, evBody, evCode, evOps, evOper, evOp, opd, Env.get, Env.put, Env.keep, zipEnv, V.ok, V.sto, V.cells, D.cells, V.isAgg, binD, binInt, binStr, shInt, unD, eqOf, asI, leave, resOf, mapO, fzV, tupOf, view, view1, isData, hand, flatV, flatD, allD, mkAgg, mkVal, beq_lit, IntKind.bits, htake_self, htake_push, hget_hpush_self, hset_push, rowOf_self, okIn, lowIn, lowIn1, fzC_d, fzC_row, g7]
  | f + 1, i, g, L, X, e, h1, h2, hi, hO, g0, g1, g2, g7, g8 => by
    by_cases c' : i < xs.length
    · have c : (i : Int) < (xs.length : Int) := by omega
      have hlt := hO.lt
      -- the rows that are made
      obtain ⟨X1, eX1⟩ : ∃ X1, hpush X (.row 0 1 [.d (.str w), .d (.str k)]) = X1 := ⟨_, rfl⟩
      obtain ⟨m, hm⟩ : ∃ m, min (i + 6) xs.length = m := ⟨_, rfl⟩
      have cut : ((xs.map D.str).take m).drop i = (((xs.take m).drop i).map D.str) := by rw [List.map_drop, List.map_take]
      obtain ⟨x, hxx⟩ : ∃ x, (w :: k :: ((xs.take m).drop i)) = x := ⟨_, rfl⟩
      have xl : x.length = 2 + (m - i) := by rw [← hxx]; simp; omega
      have xd : dat x = [.d (.str w), .d (.str k)] ++ (((xs.take m).drop i).map D.str).map V.d := by rw [← hxx]; rfl
      have ch : chunks w k xs (f + 1) i = x :: chunks w k xs f (i + 6) := by rw [chunks, if_pos c', hm, hxx]
      have r1 : rowOf X1 (hlen X) 0 = some (1, [.d (.str w), .d (.str k)]) := by rw [← eX1]; exact rowOf_self _ _ _ _
      obtain ⟨X2, eX2⟩ : ∃ X2, hset X1 (hlen X) (.row 1 1 (.d (.str w) :: .d (.str k) :: (((xs.take m).drop i).map D.str).map V.d)) = X2 := ⟨_, rfl⟩
      have eX2' : X2 = hpush X (.row 1 1 (dat x)) := by rw [← eX2, ← eX1, hset_push, xd]; rfl
      have l2 : hlen X2 = hlen X + 1 := by rw [eX2', hlen_hpush]
      have r2 : rowOf X2 (hlen X) 1 = some (1, dat x) := by rw [eX2']; exact rowOf_self _ _ _ _
      have O2 : OutL H (hlen H) X2 g L := by rw [eX2']; exact hO.push _
      obtain ⟨X3, eX3⟩ : ∃ X3, hpush X2 (.row 0 1 [.slc (hlen X) 1 0 x.length]) = X3 := ⟨_, rfl⟩
      have O3 : OutL H (hlen H) X3 g L := by rw [← eX3]; exact O2.push _
      have r3 : rowOf X3 (hlen X) 1 = some (1, dat x) := by rw [← eX3]; exact rowOf_push r2
      have r4 : rowOf X3 (hlen X2) 0 = some (1, [.slc (hlen X) 1 0 x.length]) := by rw [← eX3]; exact rowOf_self _ _ _ _
      have ro := O3.row
      have O4 := O3.add r3 hlt (fun p hp => by have := hO.fresh p hp; omega)
      obtain ⟨X4, eX4⟩ : ∃ X4, hset X3 (hlen H) (.row (g + 1) 1 (refsL L ++ [.slc (hlen X) 1 0 x.length])) = X4 := ⟨_, rfl⟩
      rw [eX4] at O4
      rw [xl] at eX3 r4 eX4
      have rl := refsL_len L
      have ih := l_23 H w k xs hx f (i + 6) (g + 1) (L ++ [(hlen X, 1, x)]) X4
      rw [listsL_snoc, List.append_assoc, List.length_append, List.length_singleton] at ih
      rw [ch]
      -- numbers
      have w6 : IntKind.i64.wrap ((i : Int) + 8) = (i : Int) + 8 := IntWalk.i64_in _ (by omega)
      have w6' : IntKind.i64.wrap ((i : Int) + 8 - 2) = ((i + 6 : Nat) : Int) := by rw [IntWalk.i64_in _ (by omega)]; omega
      have rm : (L.length + 1) * 24 ≤ room := by unfold room; omega
      have rm2 : (2 + (m - i)) * 16 ≤ room := by unfold room; omega
      have em : [x] ++ chunks w k xs f (i + 6) = x :: chunks w k xs f (i + 6) := rfl
      rw [em] at ih
      have ble : (hlen H).ble (hlen H) = true := by simp
      have ble2 : (hlen H).ble (hlen X) = true := by simp; omega
      generalize listsL L ++ x :: chunks w k xs f (i + 6) = CC at ih ⊢
      rw [evLoop_eq]
      generalize evLoop (evCode (ev R) R.glob (hlen H) evLoop f23l0) [0, 1, 2, 7, 8] = F at ih ⊢
      have dl : ((((xs.take m).drop i).map D.str).map V.d).length = m - i := by simp; omega
      have dl2 : (((xs.take m).drop i).map D.str).length = m - i := by simp; omega
      simp only [txts] at g2 ih
      have tt : (xs.map D.str).length = xs.length := by simp
      generalize ((xs.take m).drop i).map D.str = T at *
      generalize xs.map D.str = TT at *
      obtain ⟨I, hI⟩ : ∃ I : Int, (i : Int) = I := ⟨_, rfl⟩
      obtain ⟨I2, hI2⟩ : ∃ I : Int, ((i + 6 : Nat) : Int) = I := ⟨_, rfl⟩
      have a1 : I.toNat = i := by omega
      have a0 : 0 ≤ I := by omega
      have b0 : 0 ≤ I2 := by omega
      have tl : (TT.length : Int) = (xs.length : Int) := by omega
      obtain ⟨N, hN⟩ : ∃ N : Int, (xs.length : Int) = N := ⟨_, rfl⟩
      rw [hI] at w6 w6' c g8
      rw [hI2] at w6' ih
      rw [hN] at tl c
      by_cases d : I2 > N
      · have hm' : m = xs.length := by omega
        have n1 : N ≤ N := Int.le_refl _
        have n2 : N.toNat = m := by omega
        have n3 : I ≤ (m : Int) := by omega
        have n4 : (0 : Int) ≤ N := by omega
        have n5 : i ≤ m := by omega
        simp [-List.getD_eq_getElem?_getD, -List.map_map, evBody, evCode, evOps, evOper, evOp, opd, Env.get, Env.put, Env.keep, zipEnv, V.ok, V.sto, V.cells, D.cells, V.isAgg, binD, binInt, binStr, shInt, unD, eqOf, asI, leave, resOf, mapO, fzV, tupOf, view, view1, isData, hand, flatV, flatD, allD, mkAgg, mkVal, beq_lit, IntKind.bits, htake_self, htake_push, hget_hpush_self, hset_push, rowOf_self, okIn, lowIn, lowIn1, fzC_d, fzC_row, f23l0, g0, g1, g2, g7, g8, c, w6, w6', tl, d, bound, a0, a1, b0, n1, n2, n3, n4, n5, cut, eX1, r1, src, eX2, eX3, r4, ro, rl, eX4, rm, rm2, ble, ble2, dl, dl2, xl]
        refine ih _ (by omega) (by omega) (by omega) O4 ?_ ?_ ?_ ?_ ?_ <;> rfl
      · have n1 : I2 ≤ N := by omega
        have n2 : I2.toNat = m := by omega
        have n3 : I ≤ (m : Int) := by omega
        have n5 : i ≤ m := by omega
        simp [-List.getD_eq_getElem?_getD, -List.map_map, evBody, evCode, evOps, evOper, evOp, opd, Env.get, Env.put, Env.keep, zipEnv, V.ok, V.sto, V.cells, D.cells, V.isAgg, binD, binInt, binStr, shInt, unD, eqOf, asI, leave, resOf, mapO, fzV, tupOf, view, view1, isData, hand, flatV, flatD, allD, mkAgg, mkVal, beq_lit, IntKind.bits, htake_self, htake_push, hget_hpush_self, hset_push, rowOf_self, okIn, lowIn, lowIn1, fzC_d, fzC_row, f23l0, g0, g1, g2, g7, g8, c, w6, w6', tl, d, bound, a0, a1, b0, n1, n2, n3, n5, cut, eX1, r1, src, eX2, eX3, r4, ro, rl, eX4, rm, rm2, ble, ble2, dl, dl2, xl]
        refine ih _ (by omega) (by omega) (by omega) O4 ?_ ?_ ?_ ?_ ?_ <;> rfl
    · have c : ¬ (i : Int) < (xs.length : Int) := by omega
      rw [evLoop_eq]
      unfold Q_23
      refine ⟨?_, X, g, L, ?_, hO, by simp [chunks, c'], ?_⟩
      rotate_left
      · simp [-List.getD_eq_getElem?_getD, -List.map_map, evBody, evCode, evOps, evOper, evOp, opd, Env.get, Env.put, Env.keep, zipEnv, V.ok, V.sto, V.cells, D.cells, V.isAgg, binD, binInt, binStr, shInt, unD, eqOf, asI, leave, resOf, mapO, fzV, tupOf, view, view1, isData, hand, flatV, flatD, allD, mkAgg, mkVal, beq_lit, IntKind.bits, htake_self, htake_push, hget_hpush_self, hset_push, rowOf_self, okIn, lowIn, lowIn1, fzC_d, fzC_row, f23l0, g0, g1, g2, g7, g8, txts, c, c']
        try rfl
      · simp [-List.getD_eq_getElem?_getD, -List.map_map, evBody, evCode, evOps, evOper, evOp, opd, Env.get, Env.put, Env.keep, zipEnv, V.ok, V.sto, V.cells, D.cells, V.isAgg, binD, binInt, binStr, shInt, unD, eqOf, asI, leave, resOf, mapO, fzV, tupOf, view, view1, isData, hand, flatV, flatD, allD, mkAgg, mkVal, beq_lit, IntKind.bits, htake_self, htake_push, hget_hpush_self, hset_push, rowOf_self, okIn, lowIn, lowIn1, fzC_d, fzC_row, g7]
/-- A list cut into orders. -/
def manyV (w k : Txt) (xs : List Txt) : List (List Txt) := chunks w k xs xs.length 0
theorem e_23 (H : Hp) (w k : Txt) (xs : List Txt) (hx : xs.length ≤ 900000) : ev R 23 [.d (.str w), .d (.str k), .d (txts xs)] H = some (.slc (hlen H + (manyV w k xs).length) 0 0 (manyV w k xs).length, nestH H (manyV w k xs)) := by
  refine ev_fn (fn := f23) rfl rfl ?_
  have O0 := OutL.start H H (htake_self H) (Nat.le_refl _)
  obtain ⟨e', X', g', L', he, hO, hL, h7⟩ := l_23 H w k xs (by omega) xs.length 0 0 [] (hpush H (.row 0 1 [])) [(0, .d (.str w)), (1, .d (.str k)), (2, .d (txts xs)), (7, .slc (hlen H) 0 0 0), (8, .d (.int .i64 0))] (by omega) (by simp; omega) (by omega) O0 rfl rfl rfl rfl rfl
  have hL : listsL L' = manyV w k xs := by rw [hL]; rfl
  have tk := hO.take
  obtain ⟨Z, own⟩ := hO.own
  have ll := listsL_len L'
  rw [hL] at own ll
  rw [← ll] at own h7
  generalize manyV w k xs = M at *
  simp only [txts] at he
  generalize nestH H M = NN at *
  simp [-List.getD_eq_getElem?_getD, -List.map_map, evBody, evCode, evOps, evOper, evOp, opd, Env.get, Env.put, Env.keep, zipEnv, V.ok, V.sto, V.cells, D.cells, V.isAgg, binD, binInt, binStr, shInt, unD, eqOf, asI, leave, resOf, mapO, fzV, tupOf, view, view1, isData, hand, flatV, flatD, allD, mkAgg, mkVal, beq_lit, IntKind.bits, htake_self, htake_push, hget_hpush_self, hset_push, rowOf_self, okIn, lowIn, lowIn1, fzC_d, fzC_row, f23, txts, he, h7, tk, own]
end Go.Proofs.YtjdmiodinhlchaaDoor.Code
/- Numbers written out, below zero too: both ways. -/
namespace Go.Proofs.YtjdmiodinhlchaaDoor.Code
open Go Go.Ev Go.Proofs
set_option maxRecDepth 100000
set_option linter.unusedSimpArgs false
set_option linter.unusedVariables false
def decZ (z : Int) : Txt := if z < 0 then 45 :: decV z.natAbs else decV z.toNat
theorem e_22z (H : Hp) (z : Int) (h : -1000000000 ≤ z ∧ z ≤ 1000000000) : ev R 22 [.d (.int .i64 z)] H = some (.d (.str (decZ z)), H) := by
  unfold decZ
  by_cases c : z < 0
  · rw [if_pos c]
    refine ev_fn (fn := f22) rfl rfl ?_
    obtain ⟨n, hn⟩ : ∃ n : Nat, z.natAbs = n := ⟨_, rfl⟩
    have hz : -z = (n : Int) := by omega
    have c1 : ¬ z < -9223372036854775807 := by omega
    have w : IntKind.i64.wrap (-z) = (n : Int) := by rw [IntWalk.i64_in _ (by omega)]; exact hz
    have p := pureCall_eq (cl := ev R) fun H => e_22 n H (by omega)
    have dl := decV_len n
    have l : 1 + (decV n).length ≤ strRoom := by unfold strRoom; omega
    rw [hn]
    generalize decV n = x at *
    generalize (n : Int) = N at *
    simp [-List.getD_eq_getElem?_getD, -List.map_map, evBody, evCode, evOps, evOper, evOp, opd, Env.get, Env.put, Env.keep, zipEnv, V.ok, V.sto, V.cells, D.cells, V.isAgg, binD, binInt, binStr, shInt, unD, eqOf, asI, leave, resOf, mapO, fzV, tupOf, view, view1, isData, hand, flatV, flatD, allD, mkAgg, mkVal, beq_lit, IntKind.bits, htake_self, htake_push, hget_hpush_self, hset_push, rowOf_self, okIn, lowIn, lowIn1, fzC_d, fzC_row, f22, c, c1, w, p, l]
  · rw [if_neg c]
    obtain ⟨n, rfl⟩ := Int.eq_ofNat_of_zero_le (show 0 ≤ z by omega)
    exact e_22 n H (by omega)
theorem dec_itoa2 (n : Nat) : Lib.decDigits n = decV n := by
  induction n using Nat.strongRecOn with
  | _ n ih =>
    rw [Lib.decDigits, decV]
    split
    · rfl
    · rw [ih (n / 10) (by omega)]
theorem itoa_decZ (z : Int) : Lib.itoa z = decZ z := by
  unfold Lib.itoa decZ
  split
  · rw [dec_itoa2]
  · rw [dec_itoa2]
theorem e_28 (H : Hp) (z : Int) (h : -1000000000 ≤ z ∧ z ≤ 1000000000) : ev R 28 [.d (.int .i64 z)] H = some (.d (.str (decZ z)), H) := by
  refine ev_fn (fn := f28) rfl rfl ?_
  have p := pureCall_eq (cl := ev R) fun H => e_48 H z (by omega)
  rw [itoa_decZ] at p
  simp [-List.getD_eq_getElem?_getD, -List.map_map, evBody, evCode, evOps, evOper, evOp, opd, Env.get, Env.put, Env.keep, zipEnv, V.ok, V.sto, V.cells, D.cells, V.isAgg, binD, binInt, binStr, shInt, unD, eqOf, asI, leave, resOf, mapO, fzV, tupOf, view, view1, isData, hand, flatV, flatD, allD, mkAgg, mkVal, beq_lit, IntKind.bits, htake_self, htake_push, hget_hpush_self, hset_push, rowOf_self, okIn, lowIn, lowIn1, fzC_d, fzC_row, f28, p]
theorem decZ_len (z : Int) (h : -1000000000 ≤ z ∧ z ≤ 1000000000) : (decZ z).length ≤ 1000000002 := by
  unfold decZ
  split
  · have := decV_len z.natAbs
    rw [List.length_cons]; omega
  · have := decV_len z.toNat
    omega
end Go.Proofs.YtjdmiodinhlchaaDoor.Code
/- The orders that make an entry: the reference. -/
namespace Go.Proofs.YtjdmiodinhlchaaDoor.Code
open Go Go.Ev Go.Proofs
set_option maxRecDepth 100000
set_option linter.unusedSimpArgs false
set_option linter.unusedVariables false
def zadd (k : Txt) (x : Sc) : List Txt := [[90, 65, 68, 68], k, decZ x.2, x.1]
def hsetV (k : Txt) (x : Pr) : List Txt := [[72, 83, 69, 84], k, x.1, x.2]
/-- What makes an entry's contents. -/
def bodyV (e : En) : List (List Txt) :=
  if e.kind = 1 then [[[83, 69, 84], e.key, e.text]]
  else if e.kind = 2 then manyV [82, 80, 85, 83, 72] e.key e.list
  else if e.kind = 3 then manyV [83, 65, 68, 68] e.key e.list
  else if e.kind = 4 then e.scores.map (zadd e.key)
  else if e.kind = 5 then e.fields.map (hsetV e.key)
  else []
def tillO (e : En) : List (List Txt) := if e.till = 0 then [] else [[[69, 88, 80, 73, 82, 69, 65, 84], e.key, decZ e.till]]
/-- What makes an entry. -/
def makeV (e : En) : List (List Txt) := bodyV e ++ tillO e
/-- The box of an entry, and a row of data. -/
def bx (H : Hp) (e : En) : Hp := hpush H (.row 0 7 [.d (enD e)])
theorem bx_len (H : Hp) (e : En) : hlen (bx H e) = hlen H + 1 := hlen_hpush _ _
def rowD (g : Nat) (xss : List (List Txt)) : Ev.Obj := .row g 1 ((textss xss).map V.d)
theorem bx_load (H : Hp) (e : En) (o : Ev.Obj) (j n : Nat) : hload (hpush (bx H e) o) (hlen H) 0 0 j n = if j + n ≤ 7 then some ((([.d (.str e.key), .d (.int .i64 e.till), .d (.int .i64 e.kind), .d (.str e.text), .d (txts e.list), .d (scs e.scores), .d (prs e.fields)] : List V).drop j).take n) else none := by
  have hr : rowOf (hpush (bx H e) o) (hlen H) 0 = some (7, [.d (enD e)]) := rowOf_push (rowOf_self _ _ _ _)
  simp [hload, hr, enD, V.cells, D.cells]
/-- What the loops leave. -/
def Q_12 (H : Hp) (e : En) (ex : Nat) (xss : List (List Txt)) (o : Option (Ev.Out × St)) : Prop :=
  ∃ e' g', o = some (.exit ex, ⟨e', hpush (bx H e) (rowD g' xss)⟩) ∧ e'.get 1 = .ptr (hlen H) 0 0 0 ∧ e'.get 3 = .slc (hlen H + 1) g' 0 xss.length
theorem l_12a (n0 : Nat) (H : Hp) (en : En) (hx : en.scores.length ≤ 16) (hs : ∀ i, i < en.scores.length → -1000000000 ≤ (en.scores.getD i ([], 0)).2 ∧ (en.scores.getD i ([], 0)).2 ≤ 1000000000) : ∀ (n i g : Nat) (acc : List (List Txt)) (e : Env), i + n = en.scores.length → acc.length + n ≤ 100 → e.get 1 = .ptr (hlen H) 0 0 0 → e.get 3 = .slc (hlen H + 1) g 0 acc.length → e.get 4 = .d (.int .i64 i) →
    Q_12 H en 1 (acc ++ (en.scores.drop i).map (zadd en.key)) (evLoop (evCode (ev R) R.glob n0 evLoop f12l0) [1, 3, 4] ⟨e, hpush (bx H en) (rowD g acc)⟩)
  | 0, i, g, acc, e, h1, h2, g1, g3, g4 => by
    have c : ¬ (i : Int) < (en.scores.length : Int) := by omega
    have c' : ¬ i < en.scores.length := by omega
    have ld := bx_load H en (rowD g acc)
    rw [List.drop_of_length_le (by omega), List.map_nil, List.append_nil]
    obtain ⟨Y, hY⟩ : ∃ Y, hpush (bx H en) (rowD g acc) = Y := ⟨_, rfl⟩
    rw [hY] at ld
    have key : ∃ e', evLoop (evCode (ev R) R.glob n0 evLoop f12l0) [1, 3, 4] ⟨e, Y⟩ = some (.exit 1, ⟨e', Y⟩) ∧ e'.get 1 = .ptr (hlen H) 0 0 0 ∧ e'.get 3 = .slc (hlen H + 1) g 0 acc.length := by
      rw [evLoop_eq]
      refine ⟨?_, ?_, ?_, ?_⟩
      rotate_left
      · simp [-List.getD_eq_getElem?_getD, -List.map_map, evBody, evCode, evOps, evOper, evOp, opd, Env.get, Env.put, Env.keep, zipEnv, V.ok, V.sto, V.cells, D.cells, V.isAgg, binD, binInt, binStr, shInt, unD, eqOf, asI, leave, resOf, mapO, fzV, tupOf, view, view1, isData, hand, flatV, flatD, allD, mkAgg, mkVal, beq_lit, IntKind.bits, htake_self, htake_push, hget_hpush_self, hset_push, rowOf_self, okIn, lowIn, lowIn1, fzC_d, fzC_row, f12l0, g1, g3, g4, ld, scs, c, c']
        try rfl
      · simp [-List.getD_eq_getElem?_getD, -List.map_map, evBody, evCode, evOps, evOper, evOp, opd, Env.get, Env.put, Env.keep, zipEnv, V.ok, V.sto, V.cells, D.cells, V.isAgg, binD, binInt, binStr, shInt, unD, eqOf, asI, leave, resOf, mapO, fzV, tupOf, view, view1, isData, hand, flatV, flatD, allD, mkAgg, mkVal, beq_lit, IntKind.bits, htake_self, htake_push, hget_hpush_self, hset_push, rowOf_self, okIn, lowIn, lowIn1, fzC_d, fzC_row, g1]
      · simp [-List.getD_eq_getElem?_getD, -List.map_map, evBody, evCode, evOps, evOper, evOp, opd, Env.get, Env.put, Env.keep, zipEnv, V.ok, V.sto, V.cells, D.cells, V.isAgg, binD, binInt, binStr, shInt, unD, eqOf, asI, leave, resOf, mapO, fzV, tupOf, view, view1, isData, hand, flatV, flatD, allD, mkAgg, mkVal, beq_lit, IntKind.bits, htake_self, htake_push, hget_hpush_self, hset_push, rowOf_self, okIn, lowIn, lowIn1, fzC_d, fzC_row, g3]
    obtain ⟨e', k1, k2, k3⟩ := key
    exact ⟨e', g, by rw [hY]; exact k1, k2, k3⟩
  | n + 1, i, g, acc, e, h1, h2, g1, g3, g4 => by
    have c : (i : Int) < (en.scores.length : Int) := by omega
    have c' : i < en.scores.length := by omega
    have ld := bx_load H en (rowD g acc)
    have ga := scs_get en.scores i c'
    have hsi := hs i c'
    have p := pureCall_eq (cl := ev R) fun H => e_22z H (en.scores.getD i ([], 0)).2 hsi
    have w1 : IntKind.i64.wrap ((i : Int) + 1) = ((i + 1 : Nat) : Int) := by rw [IntWalk.i64_in _ (by omega)]; rfl
    have hd : en.scores.drop i = en.scores.getD i ([], 0) :: en.scores.drop (i + 1) := by
      rw [List.getD_eq_getElem?_getD, List.getElem?_eq_getElem c']
      exact List.drop_eq_getElem_cons c'
    have rw1 : rowOf (hpush (bx H en) (rowD g acc)) (hlen H + 1) g = some (1, (textss acc).map V.d) := by rw [← bx_len H en]; exact rowOf_self _ _ _ _
    have rs : hset (hpush (bx H en) (rowD g acc)) (hlen H + 1) (.row (g + 1) 1 ((textss acc).map V.d ++ [.d (txts (zadd en.key (en.scores.getD i ([], 0))))])) = hpush (bx H en) (rowD (g + 1) (acc ++ [zadd en.key (en.scores.getD i ([], 0))])) := by
      rw [← bx_len H en, hset_push]
      simp [rowD, textss]
    have ih := l_12a n0 H en hx hs n (i + 1) (g + 1) (acc ++ [zadd en.key (en.scores.getD i ([], 0))])
    rw [hd, List.map_cons]
    rw [List.append_assoc, List.singleton_append, List.length_append, List.length_singleton] at ih
    have vl : ((textss acc).map V.d).length = acc.length := by rw [List.length_map, textss_len]
    have rm : (acc.length + 1) * 24 ≤ room := by unfold room; omega
    generalize acc ++ zadd en.key (en.scores.getD i ([], 0)) :: (en.scores.drop (i + 1)).map (zadd en.key) = CC at *
    obtain ⟨Y2, hY2⟩ : ∃ Y2, hpush (bx H en) (rowD (g + 1) (acc ++ [zadd en.key (en.scores.getD i ([], 0))])) = Y2 := ⟨_, rfl⟩
    rw [hY2] at rs ih
    clear hY2
    simp only [zadd, txts, List.map_cons, List.map_nil] at rs
    generalize (textss acc).map V.d = vs at *
    generalize hpush (bx H en) (rowD g acc) = Y at *
    generalize en.scores.getD i ([], 0) = x at *
    rw [evLoop_eq]
    generalize evLoop (evCode (ev R) R.glob n0 evLoop f12l0) [1, 3, 4] = F at ih ⊢
    simp [-List.getD_eq_getElem?_getD, -List.map_map, evBody, evCode, evOps, evOper, evOp, opd, Env.get, Env.put, Env.keep, zipEnv, V.ok, V.sto, V.cells, D.cells, V.isAgg, binD, binInt, binStr, shInt, unD, eqOf, asI, leave, resOf, mapO, fzV, tupOf, view, view1, isData, hand, flatV, flatD, allD, mkAgg, mkVal, beq_lit, IntKind.bits, htake_self, htake_push, hget_hpush_self, hset_push, rowOf_self, okIn, lowIn, lowIn1, fzC_d, fzC_row, f12l0, g1, g3, g4, ld, scs, c, c', ga, p, w1, rw1, src, vl, rm, rs]
    refine ih _ (by omega) (by omega) ?_ ?_ ?_ <;> (first | rfl | exact g1)
theorem l_12b (n0 : Nat) (H : Hp) (en : En) (hx : en.fields.length ≤ 16) : ∀ (n i g : Nat) (acc : List (List Txt)) (e : Env), i + n = en.fields.length → acc.length + n ≤ 100 → e.get 1 = .ptr (hlen H) 0 0 0 → e.get 3 = .slc (hlen H + 1) g 0 acc.length → e.get 5 = .d (.int .i64 i) →
    Q_12 H en 3 (acc ++ (en.fields.drop i).map (hsetV en.key)) (evLoop (evCode (ev R) R.glob n0 evLoop f12l1) [1, 3, 5] ⟨e, hpush (bx H en) (rowD g acc)⟩)
  | 0, i, g, acc, e, h1, h2, g1, g3, g5 => by
    have c : ¬ (i : Int) < (en.fields.length : Int) := by omega
    have c' : ¬ i < en.fields.length := by omega
    have ld := bx_load H en (rowD g acc)
    rw [List.drop_of_length_le (by omega), List.map_nil, List.append_nil]
    obtain ⟨Y, hY⟩ : ∃ Y, hpush (bx H en) (rowD g acc) = Y := ⟨_, rfl⟩
    rw [hY] at ld
    have key : ∃ e', evLoop (evCode (ev R) R.glob n0 evLoop f12l1) [1, 3, 5] ⟨e, Y⟩ = some (.exit 3, ⟨e', Y⟩) ∧ e'.get 1 = .ptr (hlen H) 0 0 0 ∧ e'.get 3 = .slc (hlen H + 1) g 0 acc.length := by
      rw [evLoop_eq]
      refine ⟨?_, ?_, ?_, ?_⟩
      rotate_left
      · simp [-List.getD_eq_getElem?_getD, -List.map_map, evBody, evCode, evOps, evOper, evOp, opd, Env.get, Env.put, Env.keep, zipEnv, V.ok, V.sto, V.cells, D.cells, V.isAgg, binD, binInt, binStr, shInt, unD, eqOf, asI, leave, resOf, mapO, fzV, tupOf, view, view1, isData, hand, flatV, flatD, allD, mkAgg, mkVal, beq_lit, IntKind.bits, htake_self, htake_push, hget_hpush_self, hset_push, rowOf_self, okIn, lowIn, lowIn1, fzC_d, fzC_row, f12l1, g1, g3, g5, ld, prs, c, c']
        try rfl
      · simp [-List.getD_eq_getElem?_getD, -List.map_map, evBody, evCode, evOps, evOper, evOp, opd, Env.get, Env.put, Env.keep, zipEnv, V.ok, V.sto, V.cells, D.cells, V.isAgg, binD, binInt, binStr, shInt, unD, eqOf, asI, leave, resOf, mapO, fzV, tupOf, view, view1, isData, hand, flatV, flatD, allD, mkAgg, mkVal, beq_lit, IntKind.bits, htake_self, htake_push, hget_hpush_self, hset_push, rowOf_self, okIn, lowIn, lowIn1, fzC_d, fzC_row, g1]
      · simp [-List.getD_eq_getElem?_getD, -List.map_map, evBody, evCode, evOps, evOper, evOp, opd, Env.get, Env.put, Env.keep, zipEnv, V.ok, V.sto, V.cells, D.cells, V.isAgg, binD, binInt, binStr, shInt, unD, eqOf, asI, leave, resOf, mapO, fzV, tupOf, view, view1, isData, hand, flatV, flatD, allD, mkAgg, mkVal, beq_lit, IntKind.bits, htake_self, htake_push, hget_hpush_self, hset_push, rowOf_self, okIn, lowIn, lowIn1, fzC_d, fzC_row, g3]
    obtain ⟨e', k1, k2, k3⟩ := key
    exact ⟨e', g, by rw [hY]; exact k1, k2, k3⟩
  | n + 1, i, g, acc, e, h1, h2, g1, g3, g5 => by
    have c : (i : Int) < (en.fields.length : Int) := by omega
    have c' : i < en.fields.length := by omega
    have ld := bx_load H en (rowD g acc)
    have ga := prs_get en.fields i c'
    have w1 : IntKind.i64.wrap ((i : Int) + 1) = ((i + 1 : Nat) : Int) := by rw [IntWalk.i64_in _ (by omega)]; rfl
    have hd : en.fields.drop i = en.fields.getD i ([], []) :: en.fields.drop (i + 1) := by
      rw [List.getD_eq_getElem?_getD, List.getElem?_eq_getElem c']
      exact List.drop_eq_getElem_cons c'
    have rw1 : rowOf (hpush (bx H en) (rowD g acc)) (hlen H + 1) g = some (1, (textss acc).map V.d) := by rw [← bx_len H en]; exact rowOf_self _ _ _ _
    have rs : hset (hpush (bx H en) (rowD g acc)) (hlen H + 1) (.row (g + 1) 1 ((textss acc).map V.d ++ [.d (txts (hsetV en.key (en.fields.getD i ([], []))))])) = hpush (bx H en) (rowD (g + 1) (acc ++ [hsetV en.key (en.fields.getD i ([], []))])) := by
      rw [← bx_len H en, hset_push]
      simp [rowD, textss]
    have ih := l_12b n0 H en hx n (i + 1) (g + 1) (acc ++ [hsetV en.key (en.fields.getD i ([], []))])
    rw [hd, List.map_cons]
    rw [List.append_assoc, List.singleton_append, List.length_append, List.length_singleton] at ih
    have vl : ((textss acc).map V.d).length = acc.length := by rw [List.length_map, textss_len]
    have rm : (acc.length + 1) * 24 ≤ room := by unfold room; omega
    generalize acc ++ hsetV en.key (en.fields.getD i ([], [])) :: (en.fields.drop (i + 1)).map (hsetV en.key) = CC at *
    obtain ⟨Y2, hY2⟩ : ∃ Y2, hpush (bx H en) (rowD (g + 1) (acc ++ [hsetV en.key (en.fields.getD i ([], []))])) = Y2 := ⟨_, rfl⟩
    rw [hY2] at rs ih
    clear hY2
    simp only [hsetV, txts, List.map_cons, List.map_nil] at rs
    generalize (textss acc).map V.d = vs at *
    generalize hpush (bx H en) (rowD g acc) = Y at *
    generalize en.fields.getD i ([], []) = x at *
    rw [evLoop_eq]
    generalize evLoop (evCode (ev R) R.glob n0 evLoop f12l1) [1, 3, 5] = F at ih ⊢
    simp [-List.getD_eq_getElem?_getD, -List.map_map, evBody, evCode, evOps, evOper, evOp, opd, Env.get, Env.put, Env.keep, zipEnv, V.ok, V.sto, V.cells, D.cells, V.isAgg, binD, binInt, binStr, shInt, unD, eqOf, asI, leave, resOf, mapO, fzV, tupOf, view, view1, isData, hand, flatV, flatD, allD, mkAgg, mkVal, beq_lit, IntKind.bits, htake_self, htake_push, hget_hpush_self, hset_push, rowOf_self, okIn, lowIn, lowIn1, fzC_d, fzC_row, f12l1, g1, g3, g5, ld, prs, c, c', ga, w1, rw1, src, vl, rm, rs]
    refine ih _ (by omega) (by omega) ?_ ?_ ?_ <;> (first | rfl | exact g1)
end Go.Proofs.YtjdmiodinhlchaaDoor.Code
/- The orders that make an entry: the whole of them, as the reference says. -/
namespace Go.Proofs.YtjdmiodinhlchaaDoor.Code
open Go Go.Ev Go.Proofs
set_option maxRecDepth 100000
set_option linter.unusedSimpArgs false
set_option linter.unusedVariables false
section
variable (H : Hp) (e : En)
theorem rowD_row (g : Nat) (acc : List (List Txt)) : rowOf (hpush (bx H e) (rowD g acc)) (hlen H + 1) g = some (1, (textss acc).map V.d) := by rw [← bx_len H e]; exact rowOf_self _ _ _ _
theorem rowD_add (g g' : Nat) (acc : List (List Txt)) (o : Ev.Obj) (x : List Txt) : hset (hpush (bx H e) o) (hlen H + 1) (.row g' 1 ((textss acc).map V.d ++ [.d (txts x)])) = hpush (bx H e) (rowD g' (acc ++ [x])) := by
  rw [← bx_len H e, hset_push]
  simp [rowD, textss]
theorem rowD_fz (g : Nat) (acc : List (List Txt)) : fzC (hlen H) (hpush (bx H e) (rowD g acc)) (.slc (hlen H + 1) g 0 acc.length) = some (.d (.vals 1 (textss acc))) := by
  have h := fz_row (n := hlen H) (d := 7) (i := 0) (k := acc.length) (by omega) (rowD_row H e g acc) (by simp [textss]) (ys := textss acc) (by
    rw [List.drop_zero, List.take_of_length_le (by simp [textss])]; exact mapO_d _)
  show (if hlen H + 1 < hlen H then _ else (match fz (hlen H) deep _ (.slc (hlen H + 1) g 0 acc.length) with | some x => some (V.d x) | none => none)) = _
  rw [if_neg (by omega), show deep = 7 + 1 from rfl, h]
theorem bx_take (o : Ev.Obj) : htake (hpush (bx H e) o) (hlen H) = H := by
  unfold bx
  simp [htake, hpush, hlen]
end
theorem nestH_row (X : Hp) (xss : List (List Txt)) {r g : Nat} {p : Nat × List V} (hr : rowOf X r g = some p) : rowOf (nestH X xss) r g = some p := by
  have hl := rowOf_lt hr
  unfold rowOf at hr ⊢
  have e : hget (nestH X xss) r = hget X r := by
    rw [hget_at, hget_at]
    simp only [nestH, hpush]
    simp only [hlen] at hl
    rw [List.append_assoc, List.getElem?_append_left hl]
  rw [e]; exact hr
theorem nestH_nest (H : Hp) (xss : List (List Txt)) : Nest (nestH H xss) (hlen H) xss := by
  refine ⟨fun j hj => ?_, ?_⟩
  · have e : (nestH H xss)[hlen H + j]? = some (rowT 0 (xss.getD j [])) := by
      simp only [nestH, hpush]
      rw [List.append_assoc, List.getElem?_append_right (by simp [hlen])]
      have : hlen H + j - H.length = j := by simp only [hlen]; omega
      rw [this, List.getElem?_append_left (by simpa using hj)]
      simp [List.getD_eq_getElem?_getD, hj]
    simp only [rowOf, hget_at, e, rowT_is]
    simp
  · have e : (nestH H xss)[hlen H + xss.length]? = some (.row 0 1 (refs1 (hlen H) xss)) := by
      simp only [nestH, hpush]
      rw [List.getElem?_append_right (by simp [hlen])]
      simp [hlen]
    simp only [rowOf, hget_at, e]
    simp
theorem nestH_take (X : Hp) (xss : List (List Txt)) (n : Nat) (h : n ≤ hlen X) : htake (nestH X xss) n = htake X n := by
  simp only [htake, nestH, hpush, hlen] at *
  rw [List.append_assoc, List.take_append_of_le_length h]
theorem fz_refsN {n : Nat} {X : Hp} : ∀ (xss : List (List Txt)) (k : Nat), n ≤ k → (∀ j, j < xss.length → rowOf X (k + j) 0 = some (1, dat (xss.getD j []))) → mapO (fz n 7 X) (refs1 k xss) = some (textss xss)
  | [], _, _, _ => rfl
  | x :: r, k, hk, h => by
    have h0 := h 0 (by simp)
    simp only [Nat.add_zero, List.getD_cons_zero] at h0
    have f := fz_row (n := n) (d := 6) (i := 0) (k := x.length) (by omega) h0 (by simp [dat]) (ys := x.map D.str) (by
      rw [List.drop_zero, List.take_of_length_le (by simp [dat])]; exact mapO_d _)
    have ih := fz_refsN (n := n) (X := X) r (k + 1) (by omega) (fun j hj => by
      have := h (j + 1) (by simp; omega)
      rw [show k + (j + 1) = k + 1 + j by omega, List.getD_cons_succ] at this
      exact this)
    simp only [refs1, mapO, f, ih]
    rfl
theorem mapO_append {α β : Type} (f : α → Option β) : ∀ (xs ys : List α) (us bs : List β), mapO f xs = some us → mapO f ys = some bs → mapO f (xs ++ ys) = some (us ++ bs)
  | [], ys, us, bs, h1, h2 => by
    simp only [mapO, Option.some.injEq] at h1
    subst h1
    simpa using h2
  | x :: xs, ys, us, bs, h1, h2 => by
    simp only [mapO] at h1
    split at h1
    · rename_i b hb
      split at h1
      · rename_i cs hcs
        simp only [Option.some.injEq] at h1
        subst h1
        have := mapO_append f xs ys cs bs hcs h2
        simp only [List.cons_append, mapO, hb, this]
      · simp at h1
    · simp at h1
def CF (e : En) : Prop := e.scores.length ≤ 16 ∧ (∀ i, i < e.scores.length → -1000000000 ≤ (e.scores.getD i ([], 0)).2 ∧ (e.scores.getD i ([], 0)).2 ≤ 1000000000) ∧ e.fields.length ≤ 16 ∧ e.list.length ≤ 900000 ∧ 0 ≤ e.till ∧ e.till ≤ 2000000
theorem e_12_k1 (H : Hp) (e : En) (hc : CF e) (hd : e.kind = 1) : ev R 12 [.d (enD e)] H = some (.d (.vals 1 (textss (makeV e))), H) := by
  refine ev_fn (fn := f12) rfl rfl ?_
  obtain ⟨c1, c2, c3, c4, c5, c6⟩ := hc
  have p := pureCall_eq (cl := ev R) fun H => e_22z H e.till (by omega)
  have eb : hpush H (.row 0 7 [.d (enD e)]) = bx H e := rfl
  simp only [enD, txts, scs, prs] at eb
  have bl := bx_len H e
  have e0 : Ev.Obj.row 0 1 [] = rowD 0 [] := rfl
  have ld := bx_load H e
  simp only [txts, scs, prs] at ld
  have r0 := rowD_row H e 0 []
  have ad0 := rowD_add H e 0 1 [] (rowD 0 []) [[83, 69, 84], e.key, e.text]
  have r1 := rowD_row H e 1 [[[83, 69, 84], e.key, e.text]]
  have ad1 := rowD_add H e 1 2 [[[83, 69, 84], e.key, e.text]] (rowD 1 [[[83, 69, 84], e.key, e.text]]) [[69, 88, 80, 73, 82, 69, 65, 84], e.key, decZ e.till]
  have f1 := rowD_fz H e 1 [[[83, 69, 84], e.key, e.text]]
  have f2 := rowD_fz H e 2 ([[[83, 69, 84], e.key, e.text]] ++ [[[69, 88, 80, 73, 82, 69, 65, 84], e.key, decZ e.till]])
  have tk := bx_take H e
  unfold makeV bodyV tillO
  rw [if_pos hd]
  simp only [List.nil_append, List.singleton_append, List.length_cons, List.length_nil, textss, List.map_nil, List.map_cons, txts] at r0 ad0 r1 ad1 f1 f2
  have rm : (1 : Nat) * 24 ≤ room := by unfold room; omega
  have rm2 : (2 : Nat) * 24 ≤ room := by unfold room; omega
  obtain ⟨B, hB⟩ : ∃ B, bx H e = B := ⟨_, rfl⟩
  rw [hB] at eb bl
  simp only [hB] at ld r0 ad0 r1 ad1 f1 f2 tk
  clear hB
  obtain ⟨key, till, kind, text, list, scores, fields⟩ := e
  simp only at *
  subst hd
  by_cases ht : till = 0
  · subst ht
    simp [-List.getD_eq_getElem?_getD, -List.map_map, evBody, evCode, evOps, evOper, evOp, opd, Env.get, Env.put, Env.keep, zipEnv, V.ok, V.sto, V.cells, D.cells, V.isAgg, binD, binInt, binStr, shInt, unD, eqOf, asI, leave, resOf, mapO, fzV, tupOf, view, view1, isData, hand, flatV, flatD, allD, mkAgg, mkVal, beq_lit, IntKind.bits, htake_self, htake_push, hget_hpush_self, hset_push, rowOf_self, okIn, lowIn, lowIn1, fzC_d, fzC_row, f12, enD, scs, prs, eb, bl, e0, ld, r0, ad0, f1, tk, textss, txts, src, rm, rm2]
  · simp [-List.getD_eq_getElem?_getD, -List.map_map, evBody, evCode, evOps, evOper, evOp, opd, Env.get, Env.put, Env.keep, zipEnv, V.ok, V.sto, V.cells, D.cells, V.isAgg, binD, binInt, binStr, shInt, unD, eqOf, asI, leave, resOf, mapO, fzV, tupOf, view, view1, isData, hand, flatV, flatD, allD, mkAgg, mkVal, beq_lit, IntKind.bits, htake_self, htake_push, hget_hpush_self, hset_push, rowOf_self, okIn, lowIn, lowIn1, fzC_d, fzC_row, f12, enD, scs, prs, eb, bl, e0, ld, r0, ad0, r1, ad1, f2, tk, ht, p, textss, txts, src, rm, rm2]
end Go.Proofs.YtjdmiodinhlchaaDoor.Code
/- The orders that make an entry: the whole of them, as the reference says. -/
namespace Go.Proofs.YtjdmiodinhlchaaDoor.Code
open Go Go.Ev Go.Proofs
set_option maxRecDepth 100000
set_option linter.unusedSimpArgs false
set_option linter.unusedVariables false
theorem e_12_k4 (H : Hp) (e : En) (hc : CF e) (hd : e.kind = 4) : ev R 12 [.d (enD e)] H = some (.d (.vals 1 (textss (makeV e))), H) := by
  refine ev_fn (fn := f12) rfl rfl ?_
  obtain ⟨c1, c2, c3, c4, c5, c6⟩ := hc
  have p := pureCall_eq (cl := ev R) fun H => e_22z H e.till (by omega)
  have eb : hpush H (.row 0 7 [.d (enD e)]) = bx H e := rfl
  simp only [enD, txts, scs, prs] at eb
  have bl := bx_len H e
  have e0 : Ev.Obj.row 0 1 [] = rowD 0 [] := rfl
  have ld := bx_load H e
  simp only [txts, scs, prs] at ld
  obtain ⟨e', g, he, h1, h3⟩ := l_12a (hlen H) H e c1 c2 e.scores.length 0 0 [] [(1, .ptr (hlen H) 0 0 0), (3, .slc (hlen H + 1) 0 0 0), (4, .d (.int .i64 0))] (by omega) (by simp; omega) rfl rfl rfl
  rw [List.drop_zero, List.nil_append] at he h3
  have f1 := rowD_fz H e g (e.scores.map (zadd e.key))
  have r1 := rowD_row H e g (e.scores.map (zadd e.key))
  have ad1 := rowD_add H e g (g + 1) (e.scores.map (zadd e.key)) (rowD g (e.scores.map (zadd e.key))) [[69, 88, 80, 73, 82, 69, 65, 84], e.key, decZ e.till]
  have f2 := rowD_fz H e (g + 1) (e.scores.map (zadd e.key) ++ [[[69, 88, 80, 73, 82, 69, 65, 84], e.key, decZ e.till]])
  have tk := bx_take H e
  have vl : ((textss (e.scores.map (zadd e.key))).map V.d).length = (e.scores.map (zadd e.key)).length := by rw [List.length_map, textss_len]
  unfold makeV bodyV tillO
  rw [if_neg (by omega), if_neg (by omega), if_neg (by omega), if_pos hd]
  have ml : (e.scores.map (zadd e.key)).length ≤ 16 := by rw [List.length_map]; assumption
  rw [List.length_append, List.length_singleton] at f2
  generalize e.scores.map (zadd e.key) = M at *
  simp only [txts, List.map_nil, List.map_cons] at ad1
  have rm : (M.length + 1) * 24 ≤ room := by unfold room; omega
  have ml0 := textss_len M
  generalize (textss M).map V.d = vs at *
  obtain ⟨B, hB⟩ : ∃ B, bx H e = B := ⟨_, rfl⟩
  rw [hB] at eb bl he
  simp only [hB] at ld r1 ad1 f1 f2 tk
  clear hB
  obtain ⟨key, till, kind, text, list, scores, fields⟩ := e
  simp only at *
  subst hd
  by_cases ht : till = 0
  · subst ht
    rw [if_pos rfl, List.append_nil]
    simp [-List.getD_eq_getElem?_getD, -List.map_map, evBody, evCode, evOps, evOper, evOp, opd, Env.get, Env.put, Env.keep, zipEnv, V.ok, V.sto, V.cells, D.cells, V.isAgg, binD, binInt, binStr, shInt, unD, eqOf, asI, leave, resOf, mapO, fzV, tupOf, view, view1, isData, hand, flatV, flatD, allD, mkAgg, mkVal, beq_lit, IntKind.bits, htake_self, htake_push, hget_hpush_self, hset_push, rowOf_self, okIn, lowIn, lowIn1, fzC_d, fzC_row, f12, enD, scs, prs, txts, eb, bl, e0, ld, he, h1, h3, f1, tk]
  · rw [if_neg ht]
    have tz := tk (rowD (g + 1) (M ++ [[[69, 88, 80, 73, 82, 69, 65, 84], key, decZ till]]))
    generalize textss (M ++ [[[69, 88, 80, 73, 82, 69, 65, 84], key, decZ till]]) = TT at *
    generalize hpush B (rowD (g + 1) (M ++ [[[69, 88, 80, 73, 82, 69, 65, 84], key, decZ till]])) = ZZ at *
    simp [-List.getD_eq_getElem?_getD, -List.map_map, evBody, evCode, evOps, evOper, evOp, opd, Env.get, Env.put, Env.keep, zipEnv, V.ok, V.sto, V.cells, D.cells, V.isAgg, binD, binInt, binStr, shInt, unD, eqOf, asI, leave, resOf, mapO, fzV, tupOf, view, view1, isData, hand, flatV, flatD, allD, mkAgg, mkVal, beq_lit, IntKind.bits, htake_self, htake_push, hget_hpush_self, hset_push, rowOf_self, okIn, lowIn, lowIn1, fzC_d, fzC_row, f12, enD, scs, prs, txts, eb, bl, e0, ld, he, h1, h3, r1, ad1, f2, tk, tz, ht, p, src, vl, rm]
theorem e_12_k5 (H : Hp) (e : En) (hc : CF e) (hd : e.kind = 5) : ev R 12 [.d (enD e)] H = some (.d (.vals 1 (textss (makeV e))), H) := by
  refine ev_fn (fn := f12) rfl rfl ?_
  obtain ⟨c1, c2, c3, c4, c5, c6⟩ := hc
  have p := pureCall_eq (cl := ev R) fun H => e_22z H e.till (by omega)
  have eb : hpush H (.row 0 7 [.d (enD e)]) = bx H e := rfl
  simp only [enD, txts, scs, prs] at eb
  have bl := bx_len H e
  have e0 : Ev.Obj.row 0 1 [] = rowD 0 [] := rfl
  have ld := bx_load H e
  simp only [txts, scs, prs] at ld
  obtain ⟨e', g, he, h1, h3⟩ := l_12b (hlen H) H e c3 e.fields.length 0 0 [] [(1, .ptr (hlen H) 0 0 0), (3, .slc (hlen H + 1) 0 0 0), (5, .d (.int .i64 0))] (by omega) (by simp; omega) rfl rfl rfl
  rw [List.drop_zero, List.nil_append] at he h3
  have f1 := rowD_fz H e g (e.fields.map (hsetV e.key))
  have r1 := rowD_row H e g (e.fields.map (hsetV e.key))
  have ad1 := rowD_add H e g (g + 1) (e.fields.map (hsetV e.key)) (rowD g (e.fields.map (hsetV e.key))) [[69, 88, 80, 73, 82, 69, 65, 84], e.key, decZ e.till]
  have f2 := rowD_fz H e (g + 1) (e.fields.map (hsetV e.key) ++ [[[69, 88, 80, 73, 82, 69, 65, 84], e.key, decZ e.till]])
  have tk := bx_take H e
  have vl : ((textss (e.fields.map (hsetV e.key))).map V.d).length = (e.fields.map (hsetV e.key)).length := by rw [List.length_map, textss_len]
  unfold makeV bodyV tillO
  rw [if_neg (by omega), if_neg (by omega), if_neg (by omega), if_neg (by omega), if_pos hd]
  have ml : (e.fields.map (hsetV e.key)).length ≤ 16 := by rw [List.length_map]; assumption
  rw [List.length_append, List.length_singleton] at f2
  generalize e.fields.map (hsetV e.key) = M at *
  simp only [txts, List.map_nil, List.map_cons] at ad1
  have rm : (M.length + 1) * 24 ≤ room := by unfold room; omega
  have ml0 := textss_len M
  generalize (textss M).map V.d = vs at *
  obtain ⟨B, hB⟩ : ∃ B, bx H e = B := ⟨_, rfl⟩
  rw [hB] at eb bl he
  simp only [hB] at ld r1 ad1 f1 f2 tk
  clear hB
  obtain ⟨key, till, kind, text, list, scores, fields⟩ := e
  simp only at *
  subst hd
  by_cases ht : till = 0
  · subst ht
    rw [if_pos rfl, List.append_nil]
    simp [-List.getD_eq_getElem?_getD, -List.map_map, evBody, evCode, evOps, evOper, evOp, opd, Env.get, Env.put, Env.keep, zipEnv, V.ok, V.sto, V.cells, D.cells, V.isAgg, binD, binInt, binStr, shInt, unD, eqOf, asI, leave, resOf, mapO, fzV, tupOf, view, view1, isData, hand, flatV, flatD, allD, mkAgg, mkVal, beq_lit, IntKind.bits, htake_self, htake_push, hget_hpush_self, hset_push, rowOf_self, okIn, lowIn, lowIn1, fzC_d, fzC_row, f12, enD, scs, prs, txts, eb, bl, e0, ld, he, h1, h3, f1, tk]
  · rw [if_neg ht]
    have tz := tk (rowD (g + 1) (M ++ [[[69, 88, 80, 73, 82, 69, 65, 84], key, decZ till]]))
    generalize textss (M ++ [[[69, 88, 80, 73, 82, 69, 65, 84], key, decZ till]]) = TT at *
    generalize hpush B (rowD (g + 1) (M ++ [[[69, 88, 80, 73, 82, 69, 65, 84], key, decZ till]])) = ZZ at *
    simp [-List.getD_eq_getElem?_getD, -List.map_map, evBody, evCode, evOps, evOper, evOp, opd, Env.get, Env.put, Env.keep, zipEnv, V.ok, V.sto, V.cells, D.cells, V.isAgg, binD, binInt, binStr, shInt, unD, eqOf, asI, leave, resOf, mapO, fzV, tupOf, view, view1, isData, hand, flatV, flatD, allD, mkAgg, mkVal, beq_lit, IntKind.bits, htake_self, htake_push, hget_hpush_self, hset_push, rowOf_self, okIn, lowIn, lowIn1, fzC_d, fzC_row, f12, enD, scs, prs, txts, eb, bl, e0, ld, he, h1, h3, r1, ad1, f2, tk, tz, ht, p, src, vl, rm]
end Go.Proofs.YtjdmiodinhlchaaDoor.Code
/- The orders that make an entry: lists and sets, as the reference says; and the reference whole. -/
namespace Go.Proofs.YtjdmiodinhlchaaDoor.Code
open Go Go.Ev Go.Proofs
set_option maxRecDepth 100000
set_option linter.unusedSimpArgs false
set_option linter.unusedVariables false
theorem box_load {H N : Hp} {e : En} (hr : rowOf N (hlen H) 0 = some (7, [.d (enD e)])) (j n : Nat) : hload N (hlen H) 0 0 j n = if j + n ≤ 7 then some ((([.d (.str e.key), .d (.int .i64 e.till), .d (.int .i64 e.kind), .d (.str e.text), .d (txts e.list), .d (scs e.scores), .d (prs e.fields)] : List V).drop j).take n) else none := by
  simp [hload, hr, enD, V.cells, D.cells]
theorem nest_fz {n k : Nat} {N : Hp} {M : List (List Txt)} (h : Nest N k M) (hk : n ≤ k) : fzC n N (.slc (k + M.length) 0 0 M.length) = some (.d (.vals 1 (textss M))) := by
  have f := fz_row (n := n) (d := 7) (i := 0) (k := M.length) (by omega) h.2 (by rw [refs1_len]; omega) (ys := textss M) (by
    rw [List.drop_zero, List.take_of_length_le (by rw [refs1_len]; omega)]; exact fz_refsN M k hk h.1)
  show (if k + M.length < n then _ else (match fz n deep _ (.slc (k + M.length) 0 0 M.length) with | some x => some (V.d x) | none => none)) = _
  rw [if_neg (by omega), show deep = 7 + 1 from rfl, f]
theorem nest_fz1 {n k : Nat} {N : Hp} {M : List (List Txt)} (h : Nest N k M) (hk : n ≤ k) (x : List Txt) : fzC n (hset N (k + M.length) (.row 1 1 (refs1 k M ++ [.d (txts x)]))) (.slc (k + M.length) 1 0 (M.length + 1)) = some (.d (.vals 1 (textss (M ++ [x])))) := by
  have hl := rowOf_lt h.2
  have hr : rowOf (hset N (k + M.length) (.row 1 1 (refs1 k M ++ [.d (txts x)]))) (k + M.length) 1 = some (1, refs1 k M ++ [.d (txts x)]) := rowOf_hset_self _ _ _ hl
  have f0 := fz_refsN (n := n) (X := hset N (k + M.length) (.row 1 1 (refs1 k M ++ [.d (txts x)]))) M k hk (fun j hj => by rw [rowOf_hset_ne _ (by omega)]; exact h.1 j hj)
  have f := fz_row (n := n) (d := 7) (i := 0) (k := M.length + 1) (by omega) hr (by simp [refs1_len]) (ys := textss (M ++ [x])) (by
    rw [List.drop_zero, List.take_of_length_le (by simp [refs1_len])]
    rw [show textss (M ++ [x]) = textss M ++ [txts x] by simp [textss]]
    exact mapO_append _ _ _ _ _ f0 rfl)
  show (if k + M.length < n then _ else (match fz n deep _ (.slc (k + M.length) 1 0 (M.length + 1)) with | some x => some (V.d x) | none => none)) = _
  rw [if_neg (by omega), show deep = 7 + 1 from rfl, f]
theorem chunks_len (w k : Txt) (xs : List Txt) : ∀ (f i : Nat), (chunks w k xs f i).length ≤ f
  | 0, _ => by simp [chunks]
  | f + 1, i => by
    rw [chunks]
    split
    · have := chunks_len w k xs f (i + 6)
      rw [List.length_cons]; omega
    · simp
theorem e_12_k2 (H : Hp) (e : En) (hc : CF e) (hd : e.kind = 2) : ev R 12 [.d (enD e)] H = some (.d (.vals 1 (textss (makeV e))), H) := by
  refine ev_fn (fn := f12) rfl rfl ?_
  obtain ⟨c1, c2, c3, c4, c5, c6⟩ := hc
  have p := pureCall_eq (cl := ev R) fun H => e_22z H e.till (by omega)
  have eb : hpush H (.row 0 7 [.d (enD e)]) = bx H e := rfl
  simp only [enD, txts, scs, prs] at eb
  have bl := bx_len H e
  have e0 : Ev.Obj.row 0 1 [] = rowD 0 [] := rfl
  have ld := bx_load H e
  have hb : rowOf (hpush (bx H e) (rowD 0 [])) (hlen H) 0 = some (7, [.d (enD e)]) := rowOf_push (rowOf_self _ _ _ _)
  have q := e_23 (hpush (bx H e) (rowD 0 [])) [82, 80, 85, 83, 72] e.key e.list c4
  have tk0 := bx_take H e (rowD 0 [])
  have l0 : hlen (hpush (bx H e) (rowD 0 [])) = hlen H + 2 := by rw [hlen_hpush, bx_len]
  have ml : (manyV [82, 80, 85, 83, 72] e.key e.list).length ≤ 900000 := Nat.le_trans (chunks_len _ _ _ _ _) c4
  unfold makeV bodyV tillO
  rw [if_neg (by omega), if_pos hd]
  generalize manyV [82, 80, 85, 83, 72] e.key e.list = M at *
  obtain ⟨X0, hX0⟩ : ∃ X0, hpush (bx H e) (rowD 0 []) = X0 := ⟨_, rfl⟩
  have ld0 := ld (rowD 0 [])
  rw [hX0] at hb q tk0 l0 ld0
  have nn := nestH_nest X0 M
  have hbN := nestH_row X0 M hb
  have tkN := nestH_take X0 M (hlen H) (by omega)
  rw [tk0] at tkN
  obtain ⟨N, hN⟩ : ∃ N, nestH X0 M = N := ⟨_, rfl⟩
  rw [hN] at q nn hbN tkN
  have ldN := box_load hbN
  have f1 := nest_fz nn (show hlen H ≤ hlen X0 by omega)
  have f2 := nest_fz1 nn (show hlen H ≤ hlen X0 by omega) [[69, 88, 80, 73, 82, 69, 65, 84], e.key, decZ e.till]
  have rN := nn.2
  have rl := refs1_len M (hlen X0)
  obtain ⟨N2, hN2⟩ : ∃ N2, hset N (hlen X0 + M.length) (.row 1 1 (refs1 (hlen X0) M ++ [.d (txts [[69, 88, 80, 73, 82, 69, 65, 84], e.key, decZ e.till])])) = N2 := ⟨_, rfl⟩
  have tk2 : htake N2 (hlen H) = H := by
    rw [← hN2, htake_hset_le _ (by omega)]; exact tkN
  rw [hN2] at f2
  have rm : (M.length + 1) * 24 ≤ room := by unfold room; omega
  generalize hlen X0 + M.length = K at *
  generalize refs1 (hlen X0) M = vs at *
  simp only [txts, scs, prs, List.map_cons, List.map_nil] at ld0 ldN q hN2
  rw [eb.symm] at hX0
  clear nn hb hbN hN ld l0 bl tk0
  obtain ⟨key, till, kind, text, list, scores, fields⟩ := e
  simp only at *
  subst hd
  by_cases ht : till = 0
  · subst ht
    rw [if_pos rfl, List.append_nil]
    generalize textss M = TT at *
    simp [-List.getD_eq_getElem?_getD, -List.map_map, evBody, evCode, evOps, evOper, evOp, opd, Env.get, Env.put, Env.keep, zipEnv, V.ok, V.sto, V.cells, D.cells, V.isAgg, binD, binInt, binStr, shInt, unD, eqOf, asI, leave, resOf, mapO, fzV, tupOf, view, view1, isData, hand, flatV, flatD, allD, mkAgg, mkVal, beq_lit, IntKind.bits, htake_self, htake_push, hget_hpush_self, hset_push, rowOf_self, okIn, lowIn, lowIn1, fzC_d, fzC_row, f12, enD, scs, prs, txts, e0, hX0, ld0, q, ldN, f1, tkN]
  · rw [if_neg ht]
    generalize textss (M ++ [[[69, 88, 80, 73, 82, 69, 65, 84], key, decZ till]]) = TT at *
    simp [-List.getD_eq_getElem?_getD, -List.map_map, evBody, evCode, evOps, evOper, evOp, opd, Env.get, Env.put, Env.keep, zipEnv, V.ok, V.sto, V.cells, D.cells, V.isAgg, binD, binInt, binStr, shInt, unD, eqOf, asI, leave, resOf, mapO, fzV, tupOf, view, view1, isData, hand, flatV, flatD, allD, mkAgg, mkVal, beq_lit, IntKind.bits, htake_self, htake_push, hget_hpush_self, hset_push, rowOf_self, okIn, lowIn, lowIn1, fzC_d, fzC_row, f12, enD, scs, prs, txts, e0, hX0, ld0, q, ldN, f2, tk2, ht, p, src, rN, rl, hN2, rm]
theorem e_12_k3 (H : Hp) (e : En) (hc : CF e) (hd : e.kind = 3) : ev R 12 [.d (enD e)] H = some (.d (.vals 1 (textss (makeV e))), H) := by
  refine ev_fn (fn := f12) rfl rfl ?_
  obtain ⟨c1, c2, c3, c4, c5, c6⟩ := hc
  have p := pureCall_eq (cl := ev R) fun H => e_22z H e.till (by omega)
  have eb : hpush H (.row 0 7 [.d (enD e)]) = bx H e := rfl
  simp only [enD, txts, scs, prs] at eb
  have bl := bx_len H e
  have e0 : Ev.Obj.row 0 1 [] = rowD 0 [] := rfl
  have ld := bx_load H e
  have hb : rowOf (hpush (bx H e) (rowD 0 [])) (hlen H) 0 = some (7, [.d (enD e)]) := rowOf_push (rowOf_self _ _ _ _)
  have q := e_23 (hpush (bx H e) (rowD 0 [])) [83, 65, 68, 68] e.key e.list c4
  have tk0 := bx_take H e (rowD 0 [])
  have l0 : hlen (hpush (bx H e) (rowD 0 [])) = hlen H + 2 := by rw [hlen_hpush, bx_len]
  have ml : (manyV [83, 65, 68, 68] e.key e.list).length ≤ 900000 := Nat.le_trans (chunks_len _ _ _ _ _) c4
  unfold makeV bodyV tillO
  rw [if_neg (by omega), if_neg (by omega), if_pos hd]
  generalize manyV [83, 65, 68, 68] e.key e.list = M at *
  obtain ⟨X0, hX0⟩ : ∃ X0, hpush (bx H e) (rowD 0 []) = X0 := ⟨_, rfl⟩
  have ld0 := ld (rowD 0 [])
  rw [hX0] at hb q tk0 l0 ld0
  have nn := nestH_nest X0 M
  have hbN := nestH_row X0 M hb
  have tkN := nestH_take X0 M (hlen H) (by omega)
  rw [tk0] at tkN
  obtain ⟨N, hN⟩ : ∃ N, nestH X0 M = N := ⟨_, rfl⟩
  rw [hN] at q nn hbN tkN
  have ldN := box_load hbN
  have f1 := nest_fz nn (show hlen H ≤ hlen X0 by omega)
  have f2 := nest_fz1 nn (show hlen H ≤ hlen X0 by omega) [[69, 88, 80, 73, 82, 69, 65, 84], e.key, decZ e.till]
  have rN := nn.2
  have rl := refs1_len M (hlen X0)
  obtain ⟨N2, hN2⟩ : ∃ N2, hset N (hlen X0 + M.length) (.row 1 1 (refs1 (hlen X0) M ++ [.d (txts [[69, 88, 80, 73, 82, 69, 65, 84], e.key, decZ e.till])])) = N2 := ⟨_, rfl⟩
  have tk2 : htake N2 (hlen H) = H := by
    rw [← hN2, htake_hset_le _ (by omega)]; exact tkN
  rw [hN2] at f2
  have rm : (M.length + 1) * 24 ≤ room := by unfold room; omega
  generalize hlen X0 + M.length = K at *
  generalize refs1 (hlen X0) M = vs at *
  simp only [txts, scs, prs, List.map_cons, List.map_nil] at ld0 ldN q hN2
  rw [eb.symm] at hX0
  clear nn hb hbN hN ld l0 bl tk0
  obtain ⟨key, till, kind, text, list, scores, fields⟩ := e
  simp only at *
  subst hd
  by_cases ht : till = 0
  · subst ht
    rw [if_pos rfl, List.append_nil]
    generalize textss M = TT at *
    simp [-List.getD_eq_getElem?_getD, -List.map_map, evBody, evCode, evOps, evOper, evOp, opd, Env.get, Env.put, Env.keep, zipEnv, V.ok, V.sto, V.cells, D.cells, V.isAgg, binD, binInt, binStr, shInt, unD, eqOf, asI, leave, resOf, mapO, fzV, tupOf, view, view1, isData, hand, flatV, flatD, allD, mkAgg, mkVal, beq_lit, IntKind.bits, htake_self, htake_push, hget_hpush_self, hset_push, rowOf_self, okIn, lowIn, lowIn1, fzC_d, fzC_row, f12, enD, scs, prs, txts, e0, hX0, ld0, q, ldN, f1, tkN]
  · rw [if_neg ht]
    generalize textss (M ++ [[[69, 88, 80, 73, 82, 69, 65, 84], key, decZ till]]) = TT at *
    simp [-List.getD_eq_getElem?_getD, -List.map_map, evBody, evCode, evOps, evOper, evOp, opd, Env.get, Env.put, Env.keep, zipEnv, V.ok, V.sto, V.cells, D.cells, V.isAgg, binD, binInt, binStr, shInt, unD, eqOf, asI, leave, resOf, mapO, fzV, tupOf, view, view1, isData, hand, flatV, flatD, allD, mkAgg, mkVal, beq_lit, IntKind.bits, htake_self, htake_push, hget_hpush_self, hset_push, rowOf_self, okIn, lowIn, lowIn1, fzC_d, fzC_row, f12, enD, scs, prs, txts, e0, hX0, ld0, q, ldN, f2, tk2, ht, p, src, rN, rl, hN2, rm]
end Go.Proofs.YtjdmiodinhlchaaDoor.Code
/- The reference's orders of an entry. -/
namespace Go.Proofs.YtjdmiodinhlchaaDoor.Code
open Go Go.Ev Go.Proofs
set_option maxRecDepth 100000
set_option linter.unusedSimpArgs false
set_option linter.unusedVariables false
theorem anyF_false {p : Nat → Bool} : ∀ {n i : Nat}, anyF p n i = false → ∀ k, i ≤ k → k < i + n → p k = false
  | 0, i, h, k, h1, h2 => by omega
  | n + 1, i, h, k, h1, h2 => by
    simp only [anyF, Bool.or_eq_false_iff] at h
    by_cases e : k = i
    · subst e; exact h.1
    · exact anyF_false h.2 k (by omega) (by omega)
theorem scores_in {xs : List Sc} (h : scoresV xs = true) : xs.length ≤ 16 ∧ ∀ i, i < xs.length → -1000000000 ≤ (xs.getD i ([], 0)).2 ∧ (xs.getD i ([], 0)).2 ≤ 1000000000 := by
  unfold scoresV at h
  simp only [Bool.and_eq_true, Bool.not_eq_true', decide_eq_true_eq] at h
  refine ⟨h.2, fun i hi => ?_⟩
  have hb := anyF_false h.1 i (by omega) (by omega)
  unfold badSc at hb
  simp only [Bool.or_eq_false_iff] at hb
  have := hb.1.1.2
  simp only [Bool.not_eq_false', Bool.and_eq_true, decide_eq_true_eq] at this
  omega
theorem enOk_cf {e : En} (h : enOk e = true) (hl : e.list.length ≤ 900000) : CF e ∧ (e.kind = 1 ∨ e.kind = 2 ∨ e.kind = 3 ∨ e.kind = 4 ∨ e.kind = 5) := by
  unfold enOk tillV kindV at h
  simp only [Bool.and_eq_true, decide_eq_true_eq] at h
  obtain ⟨⟨_, h1, h2⟩, h3⟩ := h
  unfold CF
  have em : ∀ {α : Type} {l : List α}, l.isEmpty = true → l.length = 0 := fun {α l} h => by cases l <;> simp_all
  have none : e.scores.isEmpty = true → e.scores.length ≤ 16 ∧ ∀ i, i < e.scores.length → -1000000000 ≤ (e.scores.getD i ([], 0)).2 ∧ (e.scores.getD i ([], 0)).2 ≤ 1000000000 := fun h => by
    have := em h
    exact ⟨by omega, fun i hi => by omega⟩
  split at h3
  · rename_i k
    simp only [Bool.and_eq_true, decide_eq_true_eq] at h3
    obtain ⟨⟨⟨a, b⟩, c⟩, d⟩ := h3
    exact ⟨⟨(none c).1, (none c).2, by have := em d; omega, hl, h1, h2⟩, by omega⟩
  · split at h3
    · simp only [Bool.and_eq_true] at h3
      obtain ⟨⟨⟨⟨a, b⟩, c⟩, d⟩, f⟩ := h3
      exact ⟨⟨(none d).1, (none d).2, by have := em f; omega, hl, h1, h2⟩, by omega⟩
    · split at h3
      · simp only [Bool.and_eq_true] at h3
        obtain ⟨⟨⟨⟨a, b⟩, c⟩, d⟩, f⟩ := h3
        exact ⟨⟨(none d).1, (none d).2, by have := em f; omega, hl, h1, h2⟩, by omega⟩
      · split at h3
        · simp only [Bool.and_eq_true] at h3
          obtain ⟨⟨⟨⟨a, b⟩, c⟩, d⟩, f⟩ := h3
          exact ⟨⟨(scores_in d).1, (scores_in d).2, by have := em f; omega, hl, h1, h2⟩, by omega⟩
        · split at h3
          · simp only [Bool.and_eq_true] at h3
            obtain ⟨⟨⟨⟨a, b⟩, c⟩, d⟩, f⟩ := h3
            have : e.fields.length ≤ 16 := by
              unfold fieldsV at f
              simp only [Bool.and_eq_true, decide_eq_true_eq] at f
              exact f.2
            exact ⟨⟨(none c).1, (none c).2, this, hl, h1, h2⟩, by omega⟩
          · simp at h3
theorem e_12 (H : Hp) (e : En) (h : enOk e = true) (hl : e.list.length ≤ 900000) : ev R 12 [.d (enD e)] H = some (.d (.vals 1 (textss (makeV e))), H) := by
  obtain ⟨hc, k | k | k | k | k⟩ := enOk_cf h hl
  · exact e_12_k1 H e hc k
  · exact e_12_k2 H e hc k
  · exact e_12_k3 H e hc k
  · exact e_12_k4 H e hc k
  · exact e_12_k5 H e hc k
/-- The orders of an entry. -/
def ordersV (e : En) : List (List Txt) := if enOk e = true then makeV e else []
end Go.Proofs.YtjdmiodinhlchaaDoor.Code
