/- Lemmas (several texts in one). -/
import Derived.Test.YtjdmiodinhlchaaGreatMBaseTick4
/- The program's types as data. -/
namespace Go.Proofs.YtjdmiodinhlchaaGreat.Code
open Go Go.Ev Go.Proofs
set_option maxRecDepth 100000
set_option linter.unusedSimpArgs false
set_option linter.unusedVariables false
abbrev Sc := Txt × Int
abbrev Pr := Txt × Txt
def scD (x : Sc) : D := .agg [.str x.1, .int .i64 x.2]
def prD (x : Pr) : D := .agg [.str x.1, .str x.2]
abbrev scs (xs : List Sc) : D := .vals 2 (xs.map scD)
abbrev prs (xs : List Pr) : D := .vals 2 (xs.map prD)
structure En where
  key : Txt
  till : Int
  kind : Int
  text : Txt
  list : List Txt
  scores : List Sc
  fields : List Pr
def enD (e : En) : D := .agg [.str e.key, .int .i64 e.till, .int .i64 e.kind, .str e.text, txts e.list, scs e.scores, prs e.fields]
def In64 (n : Int) : Prop := -9223372036854775808 ≤ n ∧ n ≤ 9223372036854775807
structure EnFit (e : En) : Prop where
  key : e.key.length ≤ 9223372036854775807
  text : e.text.length ≤ 9223372036854775807
  list : e.list.length ≤ 9223372036854775807
  lists : ∀ i, (e.list.getD i []).length ≤ 9223372036854775807
  scores : e.scores.length ≤ 9223372036854775807
  scoress : ∀ i, ((e.scores.getD i ([], 0)).1).length ≤ 9223372036854775807
  fields : e.fields.length ≤ 9223372036854775807
  fieldss : ∀ i, ((e.fields.getD i ([], [])).1).length ≤ 9223372036854775807 ∧ ((e.fields.getD i ([], [])).2).length ≤ 9223372036854775807
  till : In64 e.till
  kind : In64 e.kind
structure Ba where
  now : Int
  ents : List En
abbrev entsD (es : List En) : D := .vals 7 (es.map enD)
def baD (b : Ba) : D := .agg [.int .i64 b.now, entsD b.ents]
inductive Re where
  | mk (kind num : Int) (text : Txt) (texts : List Txt) (many : List Re)
def Re.kind : Re → Int | .mk k _ _ _ _ => k
def Re.num : Re → Int | .mk _ n _ _ _ => n
def Re.text : Re → Txt | .mk _ _ t _ _ => t
def Re.texts : Re → List Txt | .mk _ _ _ l _ => l
def Re.many : Re → List Re | .mk _ _ _ _ m => m
def reD : Re → D
  | .mk k n t l m => .agg [.int .i64 k, .int .i64 n, .str t, txts l, .vals 5 (m.attach.map fun x => reD x.1)]
termination_by r => SizeOf.sizeOf r
decreasing_by
  have := List.sizeOf_lt_of_mem x.2
  simp only [Re.mk.sizeOf_spec]
  omega
theorem reD_mk (k n : Int) (t : Txt) (l : List Txt) (m : List Re) : reD (.mk k n t l m) = .agg [.int .i64 k, .int .i64 n, .str t, txts l, .vals 5 (m.map reD)] := by
  rw [reD.eq_1]
  simp
/-! ### Whole elements and their cells -/
theorem scD_cells (x : Sc) : (scD x).cells = [.str x.1, .int .i64 x.2] := rfl
theorem scD_vcells (x : Sc) : (V.d (scD x)).cells = [.d (.str x.1), .d (.int .i64 x.2)] := rfl
theorem scD_agg (x : Sc) : (V.d (scD x)).isAgg = true := rfl
theorem scD_fold (a : Txt) (n : Int) : D.agg [.str a, .int .i64 n] = scD (a, n) := rfl
theorem prD_cells (x : Pr) : (prD x).cells = [.str x.1, .str x.2] := rfl
theorem prD_vcells (x : Pr) : (V.d (prD x)).cells = [.d (.str x.1), .d (.str x.2)] := rfl
theorem prD_agg (x : Pr) : (V.d (prD x)).isAgg = true := rfl
theorem prD_fold (a b : Txt) : D.agg [.str a, .str b] = prD (a, b) := rfl
theorem enD_cells (e : En) : (enD e).cells = [.str e.key, .int .i64 e.till, .int .i64 e.kind, .str e.text, txts e.list, scs e.scores, prs e.fields] := rfl
theorem enD_vcells (e : En) : (V.d (enD e)).cells = [.d (.str e.key), .d (.int .i64 e.till), .d (.int .i64 e.kind), .d (.str e.text), .d (txts e.list), .d (scs e.scores), .d (prs e.fields)] := rfl
theorem enD_agg (e : En) : (V.d (enD e)).isAgg = true := rfl
theorem enD_fold (k : Txt) (t d : Int) (x : Txt) (l : List Txt) (s : List Sc) (f : List Pr) : D.agg [.str k, .int .i64 t, .int .i64 d, .str x, .vals 1 (l.map D.str), scs s, prs f] = enD ⟨k, t, d, x, l, s, f⟩ := rfl
theorem baD_cells (b : Ba) : (baD b).cells = [.int .i64 b.now, entsD b.ents] := rfl
theorem baD_vcells (b : Ba) : (V.d (baD b)).cells = [.d (.int .i64 b.now), .d (entsD b.ents)] := rfl
theorem baD_agg (b : Ba) : (V.d (baD b)).isAgg = true := rfl
theorem baD_fold (n : Int) (es : List En) : D.agg [.int .i64 n, entsD es] = baD ⟨n, es⟩ := rfl
instance : Inhabited En := ⟨⟨[], 0, 0, [], [], [], []⟩⟩
theorem ents_get (es : List En) (i : Nat) (hi : i < es.length) : (es.map enD).getD i .nilp = enD (es.getD i default) := by
  simp [List.getD_eq_getElem?_getD, hi]
theorem getD_in {α : Type} {xs : List α} {i : Nat} {d : α} (hi : i < xs.length) : xs.getD i d ∈ xs := by
  rw [List.getD_eq_getElem?_getD, List.getElem?_eq_getElem hi]
  exact List.getElem_mem hi
structure BaFit (b : Ba) : Prop where
  now : In64 b.now
  len : b.ents.length ≤ 9223372036854775807
  each : ∀ e ∈ b.ents, EnFit e
end Go.Proofs.YtjdmiodinhlchaaGreat.Code
/- Replies as data, folded; parts that are nothing. -/
namespace Go.Proofs.YtjdmiodinhlchaaGreat.Code
open Go Go.Ev Go.Proofs
set_option maxRecDepth 100000
set_option linter.unusedSimpArgs false
set_option linter.unusedVariables false
theorem fzC_nils (n e : Nat) (H : Hp) : fzC n H (.nils e) = some (.d (.vals e [])) := rfl
theorem reD_eq (r : Re) : reD r = .agg [.int .i64 r.kind, .int .i64 r.num, .str r.text, txts r.texts, .vals 5 (r.many.map reD)] := by
  cases r; exact reD_mk ..
theorem reD_cells (r : Re) : (reD r).cells = [.int .i64 r.kind, .int .i64 r.num, .str r.text, txts r.texts, .vals 5 (r.many.map reD)] := by rw [reD_eq]; rfl
theorem reD_vcells (r : Re) : (V.d (reD r)).cells = [.d (.int .i64 r.kind), .d (.int .i64 r.num), .d (.str r.text), .d (txts r.texts), .d (.vals 5 (r.many.map reD))] := by rw [reD_eq]; rfl
theorem reD_agg (r : Re) : (V.d (reD r)).isAgg = true := by rw [reD_eq]; rfl
theorem reD_fold (k n : Int) (t : Txt) (l : List Txt) (m : List Re) : D.agg [.int .i64 k, .int .i64 n, .str t, .vals 1 (l.map D.str), .vals 5 (m.map reD)] = reD (.mk k n t l m) := (reD_mk ..).symm
theorem reD_fold0 (k n : Int) (t : Txt) : D.agg [.int .i64 k, .int .i64 n, .str t, .vals 1 [], .vals 5 []] = reD (.mk k n t [] []) := (reD_mk k n t [] []).symm
theorem reD_fold1 (k n : Int) (t : Txt) (l : List Txt) : D.agg [.int .i64 k, .int .i64 n, .str t, .vals 1 (l.map D.str), .vals 5 []] = reD (.mk k n t l []) := (reD_mk k n t l []).symm
theorem re_eta (r : Re) : Re.mk r.kind r.num r.text r.texts r.many = r := by cases r; rfl
theorem enD_fold0 (k : Txt) (t d : Int) (x : Txt) : D.agg [.str k, .int .i64 t, .int .i64 d, .str x, .vals 1 [], .vals 2 [], .vals 2 []] = enD ⟨k, t, d, x, [], [], []⟩ := rfl
theorem baD_fold0 (n : Int) : D.agg [.int .i64 n, .vals 7 []] = baD ⟨n, []⟩ := rfl
end Go.Proofs.YtjdmiodinhlchaaGreat.Code
/- Lists of few elements, looked up. -/
namespace Go.Proofs.YtjdmiodinhlchaaGreat.Code
open Go Go.Ev Go.Proofs
theorem gd0 {α : Type} (x : α) (r : List α) (d : α) : (x :: r).getD 0 d = x := rfl
theorem gd1 {α : Type} (x y : α) (r : List α) (d : α) : (x :: y :: r).getD 1 d = y := rfl
theorem gd2 {α : Type} (x y z : α) (r : List α) (d : α) : (x :: y :: z :: r).getD 2 d = z := rfl
theorem gd3 {α : Type} (x y z u : α) (r : List α) (d : α) : (x :: y :: z :: u :: r).getD 3 d = u := rfl
theorem gd4 {α : Type} (x y z u v : α) (r : List α) (d : α) : (x :: y :: z :: u :: v :: r).getD 4 d = v := rfl
theorem gd5 {α : Type} (x y z u v w : α) (r : List α) (d : α) : (x :: y :: z :: u :: v :: w :: r).getD 5 d = w := rfl
end Go.Proofs.YtjdmiodinhlchaaGreat.Code
/- The simp sets of these texts, each as one name. -/
namespace Go.Proofs.YtjdmiodinhlchaaGreat.Code
open Go Go.Ev Go.Proofs
set_option maxRecDepth 100000
set_option linter.defProp false
set_option linter.unusedVariables false
theorem app1 {α : Type} (x : α) (l : List α) : [x] ++ l = x :: l := rfl
theorem app2 {α : Type} (l : List α) : [] ++ l = l := rfl
theorem app3 {α : Type} (x : α) (l m : List α) : x :: l ++ m = x :: (l ++ m) := rfl
theorem app4 {α : Type} {l : List α} {i : Nat} (h : l.length ≤ i) : List.take i l = l := List.take_of_length_le h
theorem app5 {α β : Type} (f : α → β) (x : α) (l : List α) : List.map f (x :: l) = f x :: List.map f l := rfl
theorem hand_n (G : Glob) (env : Ev.Env) (H : Hp) : Ev.hand G env H [] = some ([], H) := rfl
theorem hand_c (G : Glob) (env : Ev.Env) (H : Hp) (k : Bool) (x : AOpd) (r : List (Bool × AOpd)) : Ev.hand G env H ((k, x) :: r) = (match hand1 H k (opd G env x) with
    | some (v, H) => (match Ev.hand G env H r with
      | some (vs, H) => some (v :: vs, H)
      | none => none)
    | none => none) := rfl
theorem app6 {α β : Type} (f : α → β) : List.map f [] = [] := rfl
def sc_0 := And.intro @dat.eq_1 (And.intro @dat.eq_2 (And.intro @dat.eq_3 (And.intro @dat.eq_def (And.intro @toDs.eq_1 (And.intro @toDs.eq_2 (And.intro @toD1.eq_1 (And.intro @toD1.eq_2 (And.intro @toD1.eq_3 (And.intro @toD1.eq_def (And.intro @evBody.eq_1 (@evCode.eq_1)))))))))))
def sc_1 := And.intro @evCode.eq_2 (And.intro @evCode.eq_3 (And.intro @evCode.eq_4 (And.intro @evCode.eq_5 (And.intro @evCode.eq_6 (And.intro @evCode.eq_7 (And.intro @evCode.eq_8 (And.intro @evCode.eq_9 (And.intro @evCode.eq_10 (And.intro @evCode.eq_11 (And.intro @evCode.eq_12 (@evOps.eq_1)))))))))))
def sc_2 := And.intro @evOps.eq_2 (And.intro @evOper.eq_1 (And.intro @evX.eq_1 (And.intro @evX.eq_2 (And.intro @evX.eq_3 (And.intro @Go.Ev.Again.eq_1 (And.intro @evOp.eq_1 (And.intro @evOp.eq_2 (And.intro @evOp.eq_3 (And.intro @evOp.eq_4 (And.intro @evOp.eq_5 (@evOp.eq_6)))))))))))
def sc_3 := And.intro @evOp.eq_7 (And.intro @evOp.eq_8 (And.intro @evOp.eq_9 (And.intro @evOp.eq_10 (And.intro @evOp.eq_11 (And.intro @evOp.eq_12 (And.intro @evOp.eq_13 (And.intro @evOp.eq_14 (And.intro @evOp.eq_15 (And.intro @evOp.eq_16 (And.intro @evOp.eq_17 (@evOp.eq_18)))))))))))
def sc_4 := And.intro @evOp.eq_19 (And.intro @evOp.eq_20 (And.intro @evOp.eq_21 (And.intro @evOp.eq_22 (And.intro @evOp.eq_23 (And.intro @evOp.eq_24 (And.intro @evOp.eq_25 (And.intro @evOp.eq_26 (And.intro @evOp.eq_27 (And.intro @evOp.eq_28 (And.intro @evOp.eq_29 (@evOp.eq_30)))))))))))
def sc_5 := And.intro @evOp.eq_31 (And.intro @evOp.eq_32 (And.intro @evOp.eq_33 (And.intro @evOp.eq_34 (And.intro @evOp.eq_35 (And.intro @evOp.eq_36 (And.intro @evOp.eq_37 (And.intro @evOp.eq_38 (And.intro @evOp.eq_39 (And.intro @evOp.eq_40 (And.intro @evOp.eq_def (@opd.eq_1)))))))))))
def sc_6 := And.intro @opd.eq_2 (And.intro @opd.eq_3 (And.intro @opd.eq_4 (And.intro @opd.eq_5 (And.intro @opd.eq_6 (And.intro @opd.eq_def (And.intro @Go.Ev.Env.get.eq_1 (And.intro @Go.Ev.Env.get.eq_2 (And.intro @Go.Ev.Env.put.eq_1 (And.intro @Go.Ev.Env.put.eq_2 (And.intro @Go.Ev.Env.keep.eq_1 (@Go.Ev.Env.keep.eq_2)))))))))))
def sc_7 := And.intro @zipEnv.eq_1 (And.intro @zipEnv.eq_2 (And.intro @V.ok.eq_1 (And.intro @V.ok.eq_2 (And.intro @V.ok.eq_def (And.intro @V.sto.eq_1 (And.intro @V.sto.eq_2 (And.intro @V.sto.eq_3 (And.intro @V.sto.eq_4 (And.intro @V.sto.eq_def (And.intro @binD.eq_1 (@binD.eq_2)))))))))))
def sc_8 := And.intro @binD.eq_3 (And.intro @binD.eq_4 (And.intro @binD.eq_5 (And.intro @binD.eq_6 (And.intro @binD.eq_7 (And.intro @binD.eq_8 (And.intro @binD.eq_def (And.intro @binInt.eq_1 (And.intro @binInt.eq_2 (And.intro @binInt.eq_3 (And.intro @binInt.eq_4 (@binInt.eq_5)))))))))))
def sc_9 := And.intro @binInt.eq_6 (And.intro @binInt.eq_7 (And.intro @binInt.eq_8 (And.intro @binInt.eq_9 (And.intro @binInt.eq_10 (And.intro @binInt.eq_11 (And.intro @binInt.eq_12 (And.intro @binInt.eq_def (And.intro @binStr.eq_1 (And.intro @binStr.eq_2 (And.intro @binStr.eq_3 (@binStr.eq_4)))))))))))
def sc_10 := And.intro @binStr.eq_5 (And.intro @binStr.eq_6 (And.intro @binStr.eq_7 (And.intro @binStr.eq_8 (And.intro @binStr.eq_def (And.intro @shInt.eq_1 (And.intro @shInt.eq_2 (And.intro @shInt.eq_3 (And.intro @shInt.eq_def (And.intro @unD.eq_1 (And.intro @unD.eq_2 (@unD.eq_3)))))))))))
def sc_11 := And.intro @unD.eq_def (And.intro @eqOf.eq_1 (And.intro @eqOf.eq_2 (And.intro @eqOf.eq_3 (And.intro @eqOf.eq_4 (And.intro @eqOf.eq_5 (And.intro @eqOf.eq_6 (And.intro @eqOf.eq_def (And.intro @asI.eq_1 (And.intro @asI.eq_2 (And.intro @asI.eq_def (@leave.eq_1)))))))))))
def sc_12 := And.intro @resOf.eq_1 (And.intro @resOf.eq_2 (And.intro @resOf.eq_3 (And.intro @resOf.eq_def (And.intro @mapO.eq_1 (And.intro @mapO.eq_2 (And.intro @fzV.eq_1 (And.intro @fzV.eq_2 (And.intro @fzV.eq_3 (And.intro @fzV.eq_def (And.intro @tupOf.eq_1 (@tupOf.eq_2)))))))))))
def sc_13 := And.intro @tupOf.eq_def (And.intro @view.eq_1 (And.intro @view.eq_2 (And.intro @view.eq_3 (And.intro @view.eq_def (And.intro @view1.eq_1 (And.intro @view1.eq_2 (And.intro @view1.eq_3 (And.intro @view1.eq_4 (And.intro @view1.eq_5 (And.intro @view1.eq_def (@isData.eq_1)))))))))))
def sc_14 := And.intro @isData.eq_2 (And.intro @isData.eq_3 (And.intro @isData.eq_4 (And.intro @isData.eq_def (And.intro @hand_n (And.intro @hand_c (And.intro @flatV.eq_1 (And.intro @flatV.eq_2 (And.intro @flatV.eq_3 (And.intro @flatV.eq_def (And.intro @flatD.eq_1 (@flatD.eq_2)))))))))))
def sc_15 := And.intro @flatD.eq_3 (And.intro @flatD.eq_4 (And.intro @flatD.eq_def (And.intro @allD.eq_1 (And.intro @allD.eq_2 (And.intro @allD.eq_3 (And.intro @mkAgg.eq_1 (And.intro @mkVal.eq_1 (And.intro @mkVal.eq_2 (And.intro @mkVal.eq_3 (And.intro @mkVal.eq_def (@beq_lit)))))))))))
def sc_16 := And.intro @IntKind.bits.eq_1 (And.intro @IntKind.bits.eq_2 (And.intro @IntKind.bits.eq_3 (And.intro @IntKind.bits.eq_4 (And.intro @IntKind.bits.eq_5 (And.intro @IntKind.bits.eq_6 (And.intro @IntKind.bits.eq_7 (And.intro @IntKind.bits.eq_8 (And.intro @IntKind.bits.eq_def (And.intro @hand1.eq_1 (And.intro @hand1.eq_2 (@hand1.eq_def)))))))))))
def sc_17 := And.intro @mV.eq_1 (And.intro @oP.eq_1 (And.intro @oG.eq_1 (And.intro @oN.eq_1 (And.intro @oL.eq_1 (@oF.eq_1)))))
def s_0 := And.intro @V.cells.eq_1 (And.intro @V.cells.eq_2 (And.intro @V.cells.eq_3 (And.intro @V.cells.eq_def (And.intro @D.cells.eq_1 (And.intro @D.cells.eq_2 (And.intro @D.cells.eq_def (And.intro @V.isAgg.eq_1 (And.intro @V.isAgg.eq_2 (And.intro @V.isAgg.eq_3 (And.intro @V.isAgg.eq_def (@fzC.eq_1)))))))))))
def s_1 := And.intro @fzC.eq_2 (And.intro @fzC.eq_3 (And.intro @fzC.eq_4 (And.intro @fzC.eq_def (And.intro @htake.eq_1 (@hlen.eq_1)))))
def sh_0 := And.intro @V.cells.eq_1 (And.intro @V.cells.eq_2 (And.intro @V.cells.eq_3 (And.intro @V.cells.eq_def (And.intro @D.cells.eq_1 (And.intro @D.cells.eq_2 (And.intro @D.cells.eq_def (And.intro @V.isAgg.eq_1 (And.intro @V.isAgg.eq_2 (And.intro @V.isAgg.eq_3 (And.intro @V.isAgg.eq_def (@htake_self)))))))))))
def sh_1 := And.intro @htake_push (And.intro @hget_hpush_self (And.intro @hset_push (And.intro @rowOf_self (And.intro @okIn.eq_1 (And.intro @lowIn.eq_1 (And.intro @lowIn.eq_2 (And.intro @lowIn.eq_3 (And.intro @lowIn.eq_def (And.intro @lowIn1.eq_1 (And.intro @lowIn1.eq_2 (@lowIn1.eq_3)))))))))))
def sh_2 := And.intro @lowIn1.eq_4 (And.intro @lowIn1.eq_5 (And.intro @lowIn1.eq_def (And.intro @fzC_d (@fzC_row))))
def sa_0 := And.intro @V.cells.eq_1 (And.intro @V.cells.eq_2 (And.intro @V.cells.eq_3 (And.intro @V.cells.eq_def (And.intro @D.cells.eq_1 (And.intro @D.cells.eq_2 (And.intro @D.cells.eq_def (And.intro @V.isAgg.eq_1 (And.intro @V.isAgg.eq_2 (And.intro @V.isAgg.eq_3 (And.intro @V.isAgg.eq_def (@okIn.eq_1)))))))))))
def sa_1 := And.intro @lowIn.eq_1 (And.intro @lowIn.eq_2 (And.intro @lowIn.eq_3 (And.intro @lowIn.eq_def (And.intro @lowIn1.eq_1 (And.intro @lowIn1.eq_2 (And.intro @lowIn1.eq_3 (And.intro @lowIn1.eq_4 (And.intro @lowIn1.eq_5 (And.intro @lowIn1.eq_def (And.intro @lowT.eq_1 (@lowT.eq_2)))))))))))
def sa_2 := And.intro @lowT.eq_3 (And.intro @lowT.eq_4 (And.intro @lowT.eq_5 (And.intro @lowT.eq_def (And.intro @fzC_d (And.intro @ap0 (And.intro @ap_push (And.intro @ap_get (And.intro @ap_get0 (And.intro @ap_set (And.intro @ap_set0 (@ap_len)))))))))))
def sa_3 := And.intro @ap_take (And.intro @ap_takeN (And.intro @ap_nlt (And.intro @ap_nlt0 (And.intro @ap_blt (And.intro @ap_blt0 (And.intro @ap_bltR (And.intro @ap_blt00 (And.intro @ap_ble (And.intro @ap_ble0 (And.intro @ap_bleN (@ap_bleR)))))))))))
def sa_4 := And.intro @rowOf.eq_1 (And.intro @hload.eq_1 (And.intro @hstore.eq_1 (And.intro @hget.eq_1 (And.intro @hget.eq_2 (And.intro @hget.eq_3 (And.intro @hset.eq_1 (And.intro @hset.eq_2 (And.intro @hset.eq_3 (And.intro @reCell.eq_1 (And.intro @reCell.eq_2 (@reCell.eq_3)))))))))))
def sa_5 := And.intro @reCell.eq_def (And.intro @src.eq_1 (And.intro @src.eq_2 (And.intro @src.eq_3 (And.intro @src.eq_4 (And.intro @src.eq_def (And.intro @allD_d' (And.intro @allD_app (And.intro @ap_fzC (And.intro @frzE.eq_1 (And.intro @frzE.eq_2 (@app1)))))))))))
def sa_6 := And.intro @app2 (@app3)
def sb_0 := And.intro @okIn.eq_1 (And.intro @lowIn.eq_1 (And.intro @lowIn.eq_2 (And.intro @lowIn.eq_3 (And.intro @lowIn.eq_def (And.intro @lowIn1.eq_1 (And.intro @lowIn1.eq_2 (And.intro @lowIn1.eq_3 (And.intro @lowIn1.eq_4 (And.intro @lowIn1.eq_5 (And.intro @lowIn1.eq_def (@lowT.eq_1)))))))))))
def sb_1 := And.intro @lowT.eq_2 (And.intro @lowT.eq_3 (And.intro @lowT.eq_4 (And.intro @lowT.eq_5 (And.intro @lowT.eq_def (And.intro @fzC_d (And.intro @ap0 (And.intro @ap_get (And.intro @ap_get0 (And.intro @ap_set (And.intro @ap_set0 (@ap_len)))))))))))
def sb_2 := And.intro @ap_take (And.intro @ap_takeN (And.intro @ap_nlt (And.intro @ap_nlt0 (And.intro @ap_blt (And.intro @ap_blt0 (And.intro @ap_bltR (And.intro @ap_blt00 (And.intro @ap_ble (And.intro @ap_ble0 (And.intro @ap_bleN (@ap_bleR)))))))))))
def sb_3 := And.intro @rowOf.eq_1 (And.intro @hload.eq_1 (And.intro @hstore.eq_1 (And.intro @hget.eq_1 (And.intro @hget.eq_2 (And.intro @hget.eq_3 (And.intro @hset.eq_1 (And.intro @hset.eq_2 (And.intro @hset.eq_3 (And.intro @reCell.eq_1 (And.intro @reCell.eq_2 (@reCell.eq_3)))))))))))
def sb_4 := And.intro @reCell.eq_def (And.intro @src.eq_1 (And.intro @src.eq_2 (And.intro @src.eq_3 (And.intro @src.eq_4 (And.intro @src.eq_def (And.intro @allD_d' (And.intro @allD_app (And.intro @ap_fzC (And.intro @frzE.eq_1 (And.intro @frzE.eq_2 (@app1)))))))))))
def sb_5 := And.intro @app2 (And.intro @app3 (And.intro @ap_ap (And.intro @vc_agg (And.intro @vc_dagg (And.intro @va_agg (And.intro @va_dagg (And.intro @dc_agg (And.intro @vc_str (And.intro @va_str (And.intro @dc_str (@vc_int)))))))))))
def sb_6 := And.intro @va_int (And.intro @dc_int (And.intro @vc_bool (And.intro @va_bool (And.intro @dc_bool (And.intro @vc_vals (And.intro @va_vals (And.intro @dc_vals (And.intro @vc_nilp (And.intro @va_nilp (And.intro @dc_nilp (@vc_rptr)))))))))))
def sb_7 := And.intro @va_rptr (And.intro @dc_rptr (And.intro @vc_fnd (And.intro @va_fnd (And.intro @dc_fnd (And.intro @vc_nilfn (And.intro @va_nilfn (And.intro @dc_nilfn (And.intro @vc_iface (And.intro @va_iface (And.intro @dc_iface (@vc_niface)))))))))))
def sb_8 := And.intro @va_niface (And.intro @dc_niface (And.intro @vc_mval (And.intro @va_mval (And.intro @dc_mval (And.intro @vc_slc (And.intro @va_slc (And.intro @vc_ptr (And.intro @va_ptr (And.intro @vc_fnv (And.intro @va_fnv (@vc_mref)))))))))))
def sb_9 := And.intro @va_mref (And.intro @vc_nils (And.intro @va_nils (And.intro @vc_und (And.intro @va_und (And.intro @scD_cells (And.intro @scD_vcells (And.intro @scD_agg (And.intro @scD_fold (And.intro @prD_cells (And.intro @prD_vcells (@prD_agg)))))))))))
def sb_10 := And.intro @prD_fold (And.intro @enD_cells (And.intro @enD_vcells (And.intro @enD_agg (And.intro @enD_fold (And.intro @baD_cells (And.intro @baD_vcells (And.intro @baD_agg (And.intro @baD_fold (And.intro @htake_self (And.intro @gives_some (@Round.eq_1)))))))))))
def sb_11 := And.intro @Round.eq_2 (And.intro @Round.eq_def (And.intro @Fin2.eq_1 (And.intro @Fin2.eq_2 (And.intro @Fin2.eq_def (And.intro @step_normal (And.intro @step_exit (And.intro @step_ret (And.intro @fzC_ap (And.intro @fzC_ap0 (And.intro @mapO_fz_app (@mapO_d)))))))))))
def sb_12 := And.intro @fz_d (@app4)
def sd_0 := And.intro @fills.eq_1 (And.intro @fills.eq_2 (And.intro @setAt.eq_1 (And.intro @fzC_nils (And.intro @reD_cells (And.intro @reD_vcells (And.intro @reD_agg (And.intro @reD_fold (And.intro @reD_fold0 (And.intro @reD_fold1 (And.intro @re_eta (@enD_fold0)))))))))))
def sd_1 := And.intro @Step.eq_1 (And.intro @Step.eq_2 (And.intro @Step.eq_3 (@Step.eq_def)))
def sl_0 := And.intro @bound.eq_1 (And.intro @bound.eq_2 (And.intro @bound.eq_def (And.intro @isData1.eq_1 (And.intro @isData1.eq_2 (And.intro @isData1.eq_3 (And.intro @isData1.eq_1 (And.intro @isData1.eq_2 (And.intro @isData1.eq_3 (And.intro @isData1.eq_def (And.intro @gd0 (@gd1)))))))))))
def sl_1 := And.intro @gd2 (And.intro @gd3 (And.intro @gd4 (And.intro @gd5 (And.intro @txts.eq_1 (And.intro @app5 (@app6))))))
def so_0 := And.intro @ownL.eq_1 (And.intro @ownEs.eq_1 (And.intro @ownEs.eq_2 (And.intro @ownEl.eq_1 (And.intro @ownEl.eq_2 (And.intro @ownEl.eq_def (And.intro @ownCs.eq_1 (And.intro @ownCs.eq_2 (And.intro @layer.eq_1 (And.intro @layer.eq_2 (And.intro @layer.eq_def (@own1.eq_1)))))))))))
def so_1 := And.intro @own1.eq_2 (And.intro @own1.eq_3 (And.intro @own1.eq_4 (And.intro @own1.eq_5 (@own1.eq_def))))
def evE := And.intro sc_0 (And.intro sc_1 (And.intro sc_2 (And.intro sc_3 (And.intro sc_4 (And.intro sc_5 (And.intro sc_6 (And.intro sc_7 (And.intro sc_8 (And.intro sc_9 (And.intro sc_10 (And.intro sc_11 (And.intro sc_12 (And.intro sc_13 (And.intro sc_14 (And.intro sc_15 (And.intro sc_16 (And.intro sc_17 (And.intro s_0 (s_1)))))))))))))))))))
def evH := And.intro sc_0 (And.intro sc_1 (And.intro sc_2 (And.intro sc_3 (And.intro sc_4 (And.intro sc_5 (And.intro sc_6 (And.intro sc_7 (And.intro sc_8 (And.intro sc_9 (And.intro sc_10 (And.intro sc_11 (And.intro sc_12 (And.intro sc_13 (And.intro sc_14 (And.intro sc_15 (And.intro sc_16 (And.intro sc_17 (And.intro sh_0 (And.intro sh_1 (sh_2))))))))))))))))))))
def evA := And.intro sc_0 (And.intro sc_1 (And.intro sc_2 (And.intro sc_3 (And.intro sc_4 (And.intro sc_5 (And.intro sc_6 (And.intro sc_7 (And.intro sc_8 (And.intro sc_9 (And.intro sc_10 (And.intro sc_11 (And.intro sc_12 (And.intro sc_13 (And.intro sc_14 (And.intro sc_15 (And.intro sc_16 (And.intro sc_17 (And.intro sa_0 (And.intro sa_1 (And.intro sa_2 (And.intro sa_3 (And.intro sa_4 (And.intro sa_5 (sa_6))))))))))))))))))))))))
def evB := And.intro sc_0 (And.intro sc_1 (And.intro sc_2 (And.intro sc_3 (And.intro sc_4 (And.intro sc_5 (And.intro sc_6 (And.intro sc_7 (And.intro sc_8 (And.intro sc_9 (And.intro sc_10 (And.intro sc_11 (And.intro sc_12 (And.intro sc_13 (And.intro sc_14 (And.intro sc_15 (And.intro sc_16 (And.intro sc_17 (And.intro sb_0 (And.intro sb_1 (And.intro sb_2 (And.intro sb_3 (And.intro sb_4 (And.intro sb_5 (And.intro sb_6 (And.intro sb_7 (And.intro sb_8 (And.intro sb_9 (And.intro sb_10 (And.intro sb_11 (sb_12))))))))))))))))))))))))))))))
def evC := And.intro evB (And.intro sd_0 (sd_1))
def evL := And.intro evC (And.intro sl_0 (sl_1))
def evO := And.intro so_0 (so_1)
end Go.Proofs.YtjdmiodinhlchaaGreat.Code
/- Lists of texts: their copies, their likeness, where a text stands. -/
namespace Go.Proofs.YtjdmiodinhlchaaGreat.Code
open Go Go.Ev Go.Proofs
set_option maxRecDepth 100000
set_option linter.unusedSimpArgs false
set_option linter.unusedVariables false
def long (xs : List Txt) (i : Nat) : Bool := decide (40 < (xs.getD i []).length)
def okTexts (xs : List Txt) : Bool := (seek (long xs) xs.length 0).isNone && decide (xs.length ≤ 16)
theorem l_56 (n0 : Nat) (xs : List Txt) (hx : xs.length ≤ 9223372036854775807)  (H : Hp) : ∀ (n i : Nat) (e : Env), i + n = xs.length → e.get 0 = .d (txts xs) → e.get 3 = .d (.int .i64 i) →
    ∃ e', evLoop (evCode (ev R) R.glob n0 evLoop f56l0) [0, 3] ⟨e, H⟩ = some ((match seek (long xs) n i with | some _ => .ret | none => .exit 0), ⟨e', H⟩) ∧
      (∀ j, seek (long xs) n i = some j → e'.get 2 = .d (.bool false)) ∧ (seek (long xs) n i = none → e'.get 0 = .d (txts xs))
  | 0, i, e, hn, h0, h3 => by
    have c : ¬ (i : Int) < (xs.length : Int) := by omega
    have c' : ¬ i < xs.length := by omega
    rw [evLoop_eq]
    refine ⟨?_, ?_, ?_, ?_⟩
    rotate_left
    · simp [evH, -List.getD_eq_getElem?_getD, -List.map_map, f56l0, h0, h3, txts, c, c', seek]
      rfl
    · intro j hj; simp [seek] at hj
    · intro _
      try refine ⟨?_, ?_⟩
      all_goals (first | trivial | simp [evH, -List.getD_eq_getElem?_getD, -List.map_map, h0, h3, txts])
  | n + 1, i, e, hn, h0, h3 => by
    have c : (i : Int) < (xs.length : Int) := by omega
    have c' : i < xs.length := by omega
    have g := txts_get xs i c'
    have w1 : IntKind.i64.wrap ((i : Int) + 1) = ((i + 1 : Nat) : Int) := by rw [IntWalk.i64_in _ (by omega)]; rfl
    have ih := l_56 n0 xs hx  H n (i + 1)
    rw [evLoop_eq]
    generalize evLoop (evCode (ev R) R.glob n0 evLoop f56l0) [0, 3] = F at ih ⊢
    by_cases hb : 40 < (xs.getD i []).length
    · have hb' : (40 : Int) < ((xs.getD i []).length : Int) := by omega
      refine ⟨?_, ?_, ?_, ?_⟩
      rotate_left
      · simp [evH, -List.getD_eq_getElem?_getD, -List.map_map, f56l0, h0, h3, txts, c, c', g, hb, hb', seek, long]
        rfl
      · intro j hj
        simp [seek, long, hb, -List.getD_eq_getElem?_getD] at hj
        try subst hj
        simp [evH, -List.getD_eq_getElem?_getD, -List.map_map]
      · intro hj; simp [seek, long, hb, -List.getD_eq_getElem?_getD] at hj
    · have hb' : ¬ (40 : Int) < ((xs.getD i []).length : Int) := by omega
      have hs : seek (long xs) (n + 1) i = seek (long xs) n (i + 1) := by simp [seek, long, hb, -List.getD_eq_getElem?_getD]
      rw [hs]
      simp [evH, -List.getD_eq_getElem?_getD, -List.map_map, f56l0, h0, h3, txts, c, c', g, hb, hb', w1]
      refine ih _ (by omega) ?_ ?_ <;> rfl
theorem l_86 (n0 : Nat) (xs : List Txt) (hx : xs.length ≤ 9223372036854775807) (m : Int) (H : Hp) : ∀ (n i : Nat) (e : Env), i + n = xs.length → e.get 0 = .d (txts xs) → e.get 1 = .d (.int .i64 m) → e.get 7 = .d (txts xs) → e.get 8 = .d (.int .i64 xs.length) → e.get 9 = .d (.int .i64 i) →
    ∃ e', evLoop (evCode (ev R) R.glob n0 evLoop f86l0) [0, 1, 7, 8, 9] ⟨e, H⟩ = some ((match seek (long xs) n i with | some _ => .ret | none => .exit 0), ⟨e', H⟩) ∧
      (∀ j, seek (long xs) n i = some j → e'.get 4 = .d (.bool false)) ∧ (seek (long xs) n i = none → e'.get 0 = .d (txts xs) ∧ e'.get 1 = .d (.int .i64 m))
  | 0, i, e, hn, h0, h1, h7, h8, h9 => by
    have c : ¬ (i : Int) < (xs.length : Int) := by omega
    have c' : ¬ i < xs.length := by omega
    rw [evLoop_eq]
    refine ⟨?_, ?_, ?_, ?_⟩
    rotate_left
    · simp [evH, -List.getD_eq_getElem?_getD, -List.map_map, f86l0, h0, h1, h7, h8, h9, txts, c, c', seek]
      rfl
    · intro j hj; simp [seek] at hj
    · intro _
      try refine ⟨?_, ?_⟩
      all_goals (first | trivial | simp [evH, -List.getD_eq_getElem?_getD, -List.map_map, h0, h1, h7, h8, h9, txts])
  | n + 1, i, e, hn, h0, h1, h7, h8, h9 => by
    have c : (i : Int) < (xs.length : Int) := by omega
    have c' : i < xs.length := by omega
    have g := txts_get xs i c'
    have w1 : IntKind.i64.wrap ((i : Int) + 1) = ((i + 1 : Nat) : Int) := by rw [IntWalk.i64_in _ (by omega)]; rfl
    have ih := l_86 n0 xs hx m H n (i + 1)
    rw [evLoop_eq]
    generalize evLoop (evCode (ev R) R.glob n0 evLoop f86l0) [0, 1, 7, 8, 9] = F at ih ⊢
    by_cases hb : 40 < (xs.getD i []).length
    · have hb' : (40 : Int) < ((xs.getD i []).length : Int) := by omega
      refine ⟨?_, ?_, ?_, ?_⟩
      rotate_left
      · simp [evH, -List.getD_eq_getElem?_getD, -List.map_map, f86l0, h0, h1, h7, h8, h9, txts, c, c', g, hb, hb', seek, long]
        rfl
      · intro j hj
        simp [seek, long, hb, -List.getD_eq_getElem?_getD] at hj
        try subst hj
        simp [evH, -List.getD_eq_getElem?_getD, -List.map_map]
      · intro hj; simp [seek, long, hb, -List.getD_eq_getElem?_getD] at hj
    · have hb' : ¬ (40 : Int) < ((xs.getD i []).length : Int) := by omega
      have hs : seek (long xs) (n + 1) i = seek (long xs) n (i + 1) := by simp [seek, long, hb, -List.getD_eq_getElem?_getD]
      rw [hs]
      simp [evH, -List.getD_eq_getElem?_getD, -List.map_map, f86l0, h0, h1, h7, h8, h9, txts, c, c', g, hb, hb', w1]
      refine ih _ (by omega) ?_ ?_ ?_ ?_ ?_ <;> rfl
theorem e_56 (H : Hp) (xs : List Txt) (hx : xs.length ≤ 9223372036854775807) : ev R 56 [.d (txts xs)] H = some (.d (.bool (okTexts xs)), H) := by
  refine ev_fn (fn := f56) rfl rfl ?_
  obtain ⟨e', he, h1, h2⟩ := l_56 (hlen H) xs hx H xs.length 0 [(0, .d (txts xs)), (3, .d (.int .i64 0))] (by omega) rfl rfl
  cases hr : seek (long xs) xs.length 0 with
  | some j =>
    simp only [hr] at he
    simp [evH, -List.getD_eq_getElem?_getD, -List.map_map, f56, he, h1 j hr, okTexts, hr]
  | none =>
    simp only [hr] at he
    have h3 := h2 hr
    simp [evH, -List.getD_eq_getElem?_getD, -List.map_map, f56, he, h3, okTexts, hr, txts]
    omega
theorem e_86 (H : Hp) (xs : List Txt) (hx : xs.length ≤ 9223372036854775807) : ev R 86 [.d (txts xs), .d (.int .i64 16)] H = some (.d (.bool (okTexts xs)), H) := by
  refine ev_fn (fn := f86) rfl rfl ?_
  obtain ⟨e', he, h1, h2⟩ := l_86 (hlen H) xs hx 16 H xs.length 0 [(0, .d (txts xs)), (1, .d (.int .i64 16)), (7, .d (txts xs)), (8, .d (.int .i64 xs.length)), (9, .d (.int .i64 0))] (by omega) rfl rfl rfl rfl rfl
  cases hr : seek (long xs) xs.length 0 with
  | some j =>
    simp only [hr] at he
    simp [evH, -List.getD_eq_getElem?_getD, -List.map_map, f86, he, h1 j hr, okTexts, hr]
  | none =>
    simp only [hr] at he
    obtain ⟨h3, h4⟩ := h2 hr
    simp [evH, -List.getD_eq_getElem?_getD, -List.map_map, f86, he, h3, h4, okTexts, hr, txts]
    omega
theorem e_65 (H : Hp) (xs : List Txt) (hx : xs.length ≤ 9223372036854775807) : ev R 65 [.d (txts xs)] H = some (.d (.bool (okTexts xs)), H) := by
  refine ev_fn (fn := f65) rfl rfl ?_
  have p63 : pureCall (ev R) 86 [.d (txts xs), .d (.int .i64 16)] = some (.d (.bool (okTexts xs))) := pureCall_eq fun H => e_86 H xs hx
  simp [evH, -List.getD_eq_getElem?_getD, -List.map_map, f65, p63]
def differ (xs ys : List Txt) (i : Nat) : Bool := decide (¬ xs.getD i [] = ys.getD i [])
end Go.Proofs.YtjdmiodinhlchaaGreat.Code
/- Rows that are being filled. -/
namespace Go.Proofs.YtjdmiodinhlchaaGreat.Code
open Go Go.Ev Go.Proofs
set_option maxRecDepth 100000
set_option linter.unusedSimpArgs false
set_option linter.unusedVariables false
section
variable (H : Hp) (a b c d : Ev.Obj)
theorem get2_0 : hget (hpush (hpush H a) b) (hlen H) = some a := by rw [hget_hpush_lt _ (by rw [hlen_hpush]; omega), hget_hpush_self]
theorem get2_1 : hget (hpush (hpush H a) b) (hlen H + 1) = some b := by rw [← hlen_hpush H a, hget_hpush_self]
end
end Go.Proofs.YtjdmiodinhlchaaGreat.Code
/- Entries and bases copied: frozen at once. -/
namespace Go.Proofs.YtjdmiodinhlchaaGreat.Code
open Go Go.Ev Go.Proofs
set_option maxRecDepth 100000
set_option linter.unusedSimpArgs false
set_option linter.unusedVariables false
theorem scs_get' (xs : List Sc) (i : Nat) (hi : i < xs.length) : (xs.map scD).getD i .nilp = scD (xs.getD i ([], 0)) := by
  simp [List.getD_eq_getElem?_getD, hi]
theorem prs_get' (xs : List Pr) (i : Nat) (hi : i < xs.length) : (xs.map prD).getD i .nilp = prD (xs.getD i ([], [])) := by
  simp [List.getD_eq_getElem?_getD, hi]
structure Small (e : En) : Prop where
  list : e.list.length ≤ 1048576
  scores : e.scores.length ≤ 1048576
  fields : e.fields.length ≤ 1048576
end Go.Proofs.YtjdmiodinhlchaaGreat.Code
/- What FnExactListAt answers. -/
namespace Go.Proofs.YtjdmiodinhlchaaGreat.Code
open Go Go.Ev Go.Proofs
set_option maxRecDepth 100000
set_option linter.unusedSimpArgs false
set_option linter.unusedVariables false
def spend (xs : List Txt) : Nat → Nat → Int → Int
  | 0, _, l => l
  | n + 1, i, l => if l - (xs.getD i []).length < 0 then -1 else spend xs n (i + 1) (l - (xs.getD i []).length)
def left (xs : List Txt) : Int := if 1048576 - (xs.length : Int) < 0 then -1 else (if spend xs xs.length 0 (1048576 - xs.length) < 0 then -1 else spend xs xs.length 0 (1048576 - xs.length))
namespace fnExactListAt
end fnExactListAt
end Go.Proofs.YtjdmiodinhlchaaGreat.Code
/- The reader that draws: a row of a slice of bytes and a place. -/
namespace Go.Proofs.YtjdmiodinhlchaaGreat.Code
open Go Go.Ev Go.Proofs
set_option maxRecDepth 100000
set_option linter.unusedSimpArgs false
set_option linter.unusedVariables false
abbrev bytesD (bs : List Int) : D := .vals 1 (bs.map (.int .u8))
def rd (bs : List Int) (p : Int) : Ev.Obj := .row 0 2 [.d (.agg [bytesD bs, .int .i64 p])]
theorem rd_row {H : Hp} {r : Nat} {bs : List Int} {p : Int} (h : hget H r = some (rd bs p)) : rowOf H r 0 = some (2, [.d (.agg [bytesD bs, .int .i64 p])]) := by
  simp [rowOf, h, rd]
theorem rd_load0 {H : Hp} {r : Nat} {bs : List Int} {p : Int} (h : hget H r = some (rd bs p)) : hload H r 0 0 0 1 = some [.d (bytesD bs)] := by
  simp [hload, rd_row h, V.cells]
theorem rd_load1 {H : Hp} {r : Nat} {bs : List Int} {p : Int} (h : hget H r = some (rd bs p)) : hload H r 0 0 1 1 = some [.d (.int .i64 p)] := by
  simp [hload, rd_row h, V.cells]
theorem rd_store {H : Hp} {r : Nat} {bs : List Int} {p q : Int} (h : hget H r = some (rd bs p)) : hstore H r 0 0 1 [.d (.int .i64 q)] = some (hset H r (rd bs q)) := by
  simp [hstore, rd_row h, V.cells, reCell, V.isAgg, mkAgg, allD, rd]
theorem htake_hset {H : Hp} {r : Nat} {o : Ev.Obj} : htake (hset H r o) (hlen H) = hset H r o := by
  have := htake_self (hset H r o)
  rwa [hlen_hset] at this
def okBytes (bs : List Int) : Prop := bs.length ≤ 2000 ∧ ∀ i, 0 ≤ bs.getD i 0 ∧ bs.getD i 0 ≤ 255
theorem bytes_get (bs : List Int) (i : Nat) (hi : i < bs.length) : (bs.map (D.int .u8)).getD i .nilp = .int .u8 (bs.getD i 0) := by
  simp [List.getD_eq_getElem?_getD, hi]
theorem xor_in (x y : Int) (hx : 0 ≤ x) (hx2 : x < 9223372036854775808) (hy : 0 ≤ y) (hy2 : y < 9223372036854775808) : ∃ z, bitsOp .xor .i64 x y = some z ∧ 0 ≤ z := by
  obtain ⟨a, rfl⟩ := Int.eq_ofNat_of_zero_le hx
  obtain ⟨b, rfl⟩ := Int.eq_ofNat_of_zero_le hy
  have ha : a < 2 ^ 63 := by omega
  have hb : b < 2 ^ 63 := by omega
  have hlt : a ^^^ b < 2 ^ 63 := Nat.xor_lt_two_pow ha hb
  have e : ((BitVec.ofInt 64 (a : Int) ^^^ BitVec.ofInt 64 (b : Int)).toNat : Int) = ((a ^^^ b : Nat) : Int) := by
    rw [BitVec.ofInt_natCast, BitVec.ofInt_natCast, BitVec.toNat_xor, BitVec.toNat_ofNat, BitVec.toNat_ofNat, Nat.mod_eq_of_lt (by omega), Nat.mod_eq_of_lt (by omega)]
  refine ⟨((a ^^^ b : Nat) : Int), ?_, by omega⟩
  show some (IntKind.i64.wrap ((BitVec.ofInt 64 (a : Int) ^^^ BitVec.ofInt 64 (b : Int)).toNat : Int)) = _
  rw [e, IntWalk.i64_in _ (by omega)]
def farV (bs : List Int) (p : Int) : Int :=
  bs.getD (p.tmod bs.length).toNat 0 * 131 + bs.getD ((p * 7 + 3).tmod bs.length).toNat 0 * 1117 + p * 29 + p.tdiv bs.length * 53
def pickV (bs : List Int) (p n : Int) : Int :=
  if n < 1 then 0 else if bs.length = 0 then 0 else if p < bs.length then (bs.getD p.toNat 0).tmod n else ((bitsOp .xor .i64 (farV bs p) ((farV bs p).tdiv 64)).getD 0).tmod n
theorem e_54 (H : Hp) (r : Nat) (bs : List Int) (p n : Int) (h : hget H r = some (rd bs p)) (hb : okBytes bs) (hp : 0 ≤ p) (hp2 : p ≤ 1000000000000) : ev R 54 [.ptr r 0 0 0, .d (.int .i64 n)] H = some (.d (.int .i64 (pickV bs p n)), hset H r (rd bs (p + 1))) := by
  refine ev_fn (fn := f54) rfl rfl ?_
  have w1 : IntKind.i64.wrap (p + 1) = p + 1 := IntWalk.i64_in _ (by omega)
  have w2 : IntKind.i64.wrap p = p := IntWalk.i64_in _ (by omega)
  have hl := hget_lt h
  have h1 : hget (hset H r (rd bs (p + 1))) r = some (rd bs (p + 1)) := hget_hset_self _ hl
  have a0 := rd_load0 h1
  have a1 := rd_load1 h1
  have b1 := rd_load1 h
  have st := rd_store (q := p + 1) h
  unfold pickV
  by_cases hn : n < 1
  · simp [evH, -List.getD_eq_getElem?_getD, -List.map_map, f54, w1, w2, a0, a1, b1, st, hn, htake_hset]
  · by_cases hz : bs.length = 0
    · have hz' : bs = [] := List.eq_nil_of_length_eq_zero hz
      subst hz'
      simp [evH, -List.getD_eq_getElem?_getD, -List.map_map, f54, w1, w2, a0, a1, b1, st, hn, htake_hset]
    · have hz' : ¬ bs = [] := fun e => hz (by subst e; rfl)
      have n0 : ¬ n = 0 := by omega
      by_cases hlt : p < (bs.length : Int)
      · have g := bytes_get bs p.toNat (by omega)
        have bb := hb.2 p.toNat
        have w3 : IntKind.i64.wrap (bs.getD p.toNat 0) = bs.getD p.toNat 0 := IntWalk.i64_in _ (by omega)
        simp [evH, -List.getD_eq_getElem?_getD, -List.map_map, f54, w1, w2, w3, a0, a1, b1, st, hn, hz, hz', hp, hlt, g, n0, htake_hset]
      · have L0 : (0 : Int) < bs.length := by omega
        have lz : ¬ (bs.length : Int) = 0 := by omega
        have i1 : 0 ≤ p.tmod bs.length := Int.tmod_nonneg _ hp
        have i2 : p.tmod bs.length < bs.length := Int.tmod_lt_of_pos _ L0
        have j1 : 0 ≤ (p * 7 + 3).tmod bs.length := Int.tmod_nonneg _ (by omega)
        have j2 : (p * 7 + 3).tmod bs.length < bs.length := Int.tmod_lt_of_pos _ L0
        have g1 := bytes_get bs (p.tmod bs.length).toNat (by omega)
        have g2 := bytes_get bs ((p * 7 + 3).tmod bs.length).toNat (by omega)
        have c1 := hb.2 (p.tmod bs.length).toNat
        have c2 := hb.2 ((p * 7 + 3).tmod bs.length).toNat
        have d0 : 0 ≤ p.tdiv bs.length ∧ p.tdiv bs.length ≤ p := by
          rw [Int.tdiv_eq_ediv_of_nonneg hp]
          exact ⟨Int.ediv_nonneg hp (by omega), Int.ediv_le_self _ hp⟩
        obtain ⟨X, hX⟩ : ∃ X, X = farV bs p := ⟨_, rfl⟩
        have hXe := hX
        unfold farV at hXe
        rw [← hX]
        generalize bs.getD (p.tmod bs.length).toNat 0 = x1 at g1 c1 hXe ⊢
        generalize bs.getD ((p * 7 + 3).tmod bs.length).toNat 0 = x2 at g2 c2 hXe ⊢
        generalize hq : p.tdiv bs.length = q at d0 hXe ⊢
        have xb : 0 ≤ X ∧ X < 9223372036854775807 := by omega
        have t0 : 0 ≤ X.tdiv 64 ∧ X.tdiv 64 ≤ X := by
          rw [Int.tdiv_eq_ediv_of_nonneg xb.1]
          omega
        obtain ⟨z, hz1, hz2⟩ := xor_in X (X.tdiv 64) xb.1 (by omega) t0.1 (by omega)
        have v1 : IntKind.i64.wrap x1 = x1 := IntWalk.i64_in _ (by omega)
        have v2 : IntKind.i64.wrap (x1 * 131) = x1 * 131 := IntWalk.i64_in _ (by omega)
        have v3 : IntKind.i64.wrap (p * 7) = p * 7 := IntWalk.i64_in _ (by omega)
        have v4 : IntKind.i64.wrap (p * 7 + 3) = p * 7 + 3 := IntWalk.i64_in _ (by omega)
        have v5 : IntKind.i64.wrap x2 = x2 := IntWalk.i64_in _ (by omega)
        have v6 : IntKind.i64.wrap (x2 * 1117) = x2 * 1117 := IntWalk.i64_in _ (by omega)
        have v7 : IntKind.i64.wrap (x1 * 131 + x2 * 1117) = x1 * 131 + x2 * 1117 := IntWalk.i64_in _ (by omega)
        have v8 : IntKind.i64.wrap (p * 29) = p * 29 := IntWalk.i64_in _ (by omega)
        have v9 : IntKind.i64.wrap (x1 * 131 + x2 * 1117 + p * 29) = x1 * 131 + x2 * 1117 + p * 29 := IntWalk.i64_in _ (by omega)
        have v10 : IntKind.i64.wrap q = q := IntWalk.i64_in _ (by omega)
        have v11 : IntKind.i64.wrap (q * 53) = q * 53 := IntWalk.i64_in _ (by omega)
        have v12 : IntKind.i64.wrap (x1 * 131 + x2 * 1117 + p * 29 + q * 53) = X := by rw [hXe]; exact IntWalk.i64_in _ (by omega)
        have v13 : IntKind.i64.wrap (X.tdiv 64) = X.tdiv 64 := IntWalk.i64_in _ (by omega)
        simp [evH, -List.getD_eq_getElem?_getD, -List.map_map, f54, w1, w2, a0, a1, b1, st, hn, hz, hz', hlt, n0, lz, htake_hset, i1, i2, j1, j2, g1, g2, hq, v1, v2, v3, v4, v5, v6, v7, v8, v9, v10, v11, v12, v13, hz1]
theorem pickV_in (bs : List Int) (p n : Int) (hb : okBytes bs) (hp : 0 ≤ p) (hp2 : p ≤ 1000000000000) : 0 ≤ pickV bs p n ∧ (1 ≤ n → pickV bs p n < n) := by
  unfold pickV
  split
  · omega
  · split
    · omega
    · split
      · have := hb.2 p.toNat
        exact ⟨Int.tmod_nonneg _ this.1, fun h => Int.tmod_lt_of_pos _ (by omega)⟩
      · rename_i h1 h2 h3
        have c1 := hb.2 (p.tmod bs.length).toNat
        have c2 := hb.2 ((p * 7 + 3).tmod bs.length).toNat
        have d0 : 0 ≤ p.tdiv bs.length ∧ p.tdiv bs.length ≤ p := by
          rw [Int.tdiv_eq_ediv_of_nonneg hp]
          exact ⟨Int.ediv_nonneg hp (by omega), Int.ediv_le_self _ hp⟩
        have xb : 0 ≤ farV bs p ∧ farV bs p < 9223372036854775807 := by
          unfold farV
          omega
        have t0 : 0 ≤ (farV bs p).tdiv 64 ∧ (farV bs p).tdiv 64 ≤ farV bs p := by
          rw [Int.tdiv_eq_ediv_of_nonneg xb.1]
          omega
        obtain ⟨z, hz1, hz2⟩ := xor_in (farV bs p) ((farV bs p).tdiv 64) xb.1 (by omega) t0.1 (by omega)
        rw [hz1]
        exact ⟨Int.tmod_nonneg _ hz2, fun h => Int.tmod_lt_of_pos _ (by omega)⟩
def ofV (bs : List Int) (p : Int) (xs : List Txt) : Txt := xs.getD (pickV bs p xs.length).toNat []
theorem e_29 (H : Hp) (r : Nat) (bs : List Int) (p : Int) (xs : List Txt) (h : hget H r = some (rd bs p)) (hb : okBytes bs) (hp : 0 ≤ p) (hp2 : p ≤ 1000000000000) (hx : 0 < xs.length) : ev R 29 [.ptr r 0 0 0, .d (txts xs)] H = some (.d (.str (ofV bs p xs)), hset H r (rd bs (p + 1))) := by
  refine ev_fn (fn := f29) rfl rfl ?_
  have q := e_54 H r bs p xs.length h hb hp hp2
  obtain ⟨k0, k1⟩ := pickV_in bs p xs.length hb hp hp2
  have k1 := k1 (by omega)
  have g := txts_get xs (pickV bs p xs.length).toNat (by omega)
  simp [evH, -List.getD_eq_getElem?_getD, -List.map_map, f29, txts, q, k0, k1, g, htake_hset, ofV]
def many (s : Txt) (n : Nat) (out : Txt) : Txt :=
  if h : n = 0 then out else many (s ++ s) (n / 2) (if n % 2 = 1 then out ++ s else out)
termination_by n
decreasing_by omega
theorem l_100 (n0 : Nat) (H : Hp) : ∀ (n : Nat) (s out : Txt) (e : Env), n ≤ 1000 → out.length + s.length * n ≤ 1000000 → s.length ≤ 2000000 → e.get 0 = .d (.str s) → e.get 1 = .d (.int .i64 n) → e.get 5 = .d (.str out) →
    ∃ e', evLoop (evCode (ev R) R.glob n0 evLoop f100l0) [0, 1, 5] ⟨e, H⟩ = some (.exit 0, ⟨e', H⟩) ∧ e'.get 5 = .d (.str (many s n out)) := by
  intro n
  induction n using Nat.strongRecOn with
  | _ n ih =>
    intro s out e hn hl hsl h0 h1 h5
    by_cases hz : n = 0
    · subst hz
      rw [evLoop_eq]
      refine ⟨?_, ?_, ?_⟩
      rotate_left
      · simp [evH, -List.getD_eq_getElem?_getD, -List.map_map, f100l0, h0, h1, h5]
        rfl
      · rw [many]
        simp [evH, -List.getD_eq_getElem?_getD, -List.map_map, h5]
    · have c : (0 : Int) < (n : Int) := by omega
      have c' : 0 < n := by omega
      have m2 : IntKind.i64.wrap ((n : Int).tdiv 2) = ((n / 2 : Nat) : Int) := by
        rw [Int.tdiv_eq_ediv_of_nonneg (by omega), IntWalk.i64_in _ (by omega)]; omega
      have m3 : IntKind.i64.wrap ((n : Int) / 2) = ((n / 2 : Nat) : Int) := by
        rw [IntWalk.i64_in _ (by omega)]; omega
      have hmul : s.length * (n / 2) * 2 ≤ s.length * n := by
        rw [Nat.mul_assoc]
        exact Nat.mul_le_mul_left _ (by omega)
      have hmul1 : s.length * 1 ≤ s.length * n := Nat.mul_le_mul_left _ (by omega)
      have l2 : s.length + s.length ≤ strRoom := by unfold strRoom; omega
      have l3 : out.length + s.length ≤ strRoom := by unfold strRoom; omega
      have hd : (s ++ s).length * (n / 2) = s.length * (n / 2) * 2 := by rw [List.length_append, Nat.add_mul]; omega
      have hsq : (s ++ s).length ≤ 2000000 := by rw [List.length_append]; omega
      have hodd : s.length * n = s.length * (n / 2) * 2 + s.length * (n % 2) := by
        rw [Nat.mul_assoc, ← Nat.mul_add]
        congr 1
        omega
      rw [evLoop_eq]
      have ih' := ih (n / 2) (by omega) (s ++ s) (if n % 2 = 1 then out ++ s else out)
      rw [many, dif_neg hz]
      generalize many (s ++ s) (n / 2) (if n % 2 = 1 then out ++ s else out) = M at ih' ⊢
      generalize evLoop (evCode (ev R) R.glob n0 evLoop f100l0) [0, 1, 5] = F at ih' ⊢
      by_cases odd : n % 2 = 1
      · have m1 : (n : Int).tmod 2 = 1 := by rw [Int.tmod_eq_emod_of_nonneg (by omega)]; omega
        rw [odd] at hodd
        simp only [odd, if_true] at ih'
        simp [evH, -List.getD_eq_getElem?_getD, -List.map_map, f100l0, h0, h1, h5, c, c', m1, m2, m3, l2, l3]
        refine ih' _ (by omega) ?_ hsq ?_ ?_ ?_
        · rw [hd, List.length_append]; omega
        all_goals rfl
      · have m1 : (n : Int).tmod 2 = 0 := by rw [Int.tmod_eq_emod_of_nonneg (by omega)]; omega
        simp only [odd, if_false] at ih'
        simp [evH, -List.getD_eq_getElem?_getD, -List.map_map, f100l0, h0, h1, h5, c, c', m1, m2, m3, l2, l3]
        refine ih' _ (by omega) ?_ hsq ?_ ?_ ?_
        · rw [hd]; omega
        all_goals rfl
theorem e_100 (H : Hp) (s : Txt) (n : Nat) (hn : n ≤ 1000) (hs : s.length ≤ 1000) : ev R 100 [.d (.str s), .d (.int .i64 n)] H = some (.d (.str (many s n [])), H) := by
  refine ev_fn (fn := f100) rfl rfl ?_
  have hm : s.length * n ≤ 1000 * 1000 := Nat.mul_le_mul hs hn
  obtain ⟨e', he, h5⟩ := l_100 (hlen H) H n s [] [(0, .d (.str s)), (1, .d (.int .i64 n)), (5, .d (.str []))] hn (by simp; omega) (by omega) rfl rfl rfl
  simp [evH, -List.getD_eq_getElem?_getD, -List.map_map, f100, he, h5]
def textList : List Txt := [[], [97], [98], [99], [53], [45, 51], [104, 101, 108, 108, 111], [13, 10], [255], many [120] 40 [], [57, 57, 57, 57, 57, 57, 57, 57, 57]]
def textV (bs : List Int) (p : Int) : Txt := ofV bs p textList
theorem e_75 (H : Hp) (r : Nat) (bs : List Int) (p : Int) (h : hget H r = some (rd bs p)) (hb : okBytes bs) (hp : 0 ≤ p) (hp2 : p ≤ 1000000000000) : ev R 75 [.ptr r 0 0 0] H = some (.d (.str (textV bs p)), hset H r (rd bs (p + 1))) := by
  refine ev_fn (fn := f75) rfl rfl ?_
  have q := e_29 H r bs p textList h hb hp hp2 (by simp [textList])
  have m : pureCall (ev R) 100 [.d (.str [120]), .d (.int .i64 40)] = some (.d (.str (many [120] 40 []))) := pureCall_eq fun H => e_100 H [120] 40 (by omega) (by simp)
  unfold textV
  simp only [textList, txts, List.map_cons, List.map_nil] at q ⊢
  simp [evH, -List.getD_eq_getElem?_getD, -List.map_map, f75, m, q, htake_hset]
theorem many_len (s : Txt) (n : Nat) (out : Txt) : (many s n out).length = out.length + s.length * n := by
  induction n using Nat.strongRecOn generalizing s out with
  | _ n ih =>
    rw [many]
    split
    · rename_i h; subst h; simp
    · rw [ih (n / 2) (by omega)]
      have hodd : s.length * n = s.length * (n / 2) * 2 + s.length * (n % 2) := by
        rw [Nat.mul_assoc, ← Nat.mul_add]
        congr 1
        omega
      have hd : (s ++ s).length * (n / 2) = s.length * (n / 2) * 2 := by rw [List.length_append, Nat.add_mul]; omega
      rw [hd]
      split
      · rename_i h; rw [h] at hodd; rw [List.length_append]; omega
      · rename_i h; have : n % 2 = 0 := by omega
        rw [this] at hodd; omega
theorem ofV_all (bs : List Int) (p : Int) (xs : List Txt) (m : Nat) (h : ∀ x ∈ xs, x.length ≤ m) : (ofV bs p xs).length ≤ m := by
  unfold ofV
  by_cases hi : (pickV bs p xs.length).toNat < xs.length
  · rw [List.getD_eq_getElem?_getD, List.getElem?_eq_getElem hi]
    exact h _ (List.getElem_mem hi)
  · rw [List.getD_eq_getElem?_getD, List.getElem?_eq_none (by omega)]
    exact Nat.zero_le _
theorem textV_len (bs : List Int) (p : Int) : (textV bs p).length ≤ 40 := by
  refine ofV_all bs p textList 40 fun x hx => ?_
  have hm := many_len [120] 40 []
  simp only [textList, List.mem_cons, List.not_mem_nil, or_false] at hx
  rcases hx with rfl | rfl | rfl | rfl | rfl | rfl | rfl | rfl | rfl | rfl | rfl <;> first | (rw [hm]; simp) | simp
def opened (bs : List Int) : List Int := bs.take 2000
theorem opened_ok (bs : List Int) (h : ∀ i, 0 ≤ bs.getD i 0 ∧ bs.getD i 0 ≤ 255) : okBytes (opened bs) := by
  refine ⟨by simp [opened]; omega, fun i => ?_⟩
  by_cases hi : i < 2000
  · have : (opened bs).getD i 0 = bs.getD i 0 := by simp [opened, List.getD_eq_getElem?_getD, List.getElem?_take, hi]
    rw [this]; exact h i
  · have : (opened bs).getD i 0 = 0 := by simp [opened, List.getD_eq_getElem?_getD, List.getElem?_take, hi]
    rw [this]; omega
theorem e_27 (H : Hp) (bs : List Int) : ev R 27 [.d (bytesD bs)] H = some (.ptr (hlen H) 0 0 0, hpush H (rd (opened bs) 0)) := by
  refine ev_fn (fn := f27) rfl rfl ?_
  by_cases hb : 2000 < (bs.length : Int)
  · have h1 : 2000 ≤ bs.length := by omega
    have h2 : (2000 : Int) ≤ bs.length := by omega

    simp [evH, -List.getD_eq_getElem?_getD, -List.map_map, f27, hb, h1, h2, bound, fills, setAt, rd, opened, evO]
    simp only [bytesD, List.map_take]
  · have h1 : ¬ 2000 < bs.length := by omega
    have e : bs.take 2000 = bs := List.take_of_length_le (by omega)
    simp [evH, -List.getD_eq_getElem?_getD, -List.map_map, f27, hb, h1, fills, setAt, rd, opened, e, evO]
end Go.Proofs.YtjdmiodinhlchaaGreat.Code
/- Numbers written out, in the draws. -/
namespace Go.Proofs.YtjdmiodinhlchaaGreat.Code
open Go Go.Ev Go.Proofs
set_option maxRecDepth 100000
set_option linter.unusedSimpArgs false
set_option linter.unusedVariables false
def decV (n : Nat) : Txt := if h : n < 10 then [UInt8.ofNat (48 + n)] else decV (n / 10) ++ [UInt8.ofNat (48 + n % 10)]
termination_by n
decreasing_by omega
theorem decV_len (n : Nat) : (decV n).length ≤ n + 1 := by
  induction n using Nat.strongRecOn with
  | _ n ih =>
    rw [decV]
    split
    · simp
    · have := ih (n / 10) (by omega)
      rw [List.length_append]
      simp only [List.length_singleton]
      omega
theorem e_83 (n : Nat) : ∀ (H : Hp), n ≤ 1000000000 → ev R 83 [.d (.int .i64 n)] H = some (.d (.str (decV n)), H) := by
  induction n using Nat.strongRecOn with
  | _ n ih =>
    intro H hn
    refine ev_fn (fn := f83) rfl rfl ?_
    have c1 : ¬ (n : Int) < -9223372036854775807 := by omega
    have c2 : ¬ (n : Int) < 0 := by omega
    by_cases c3 : n < 10
    · have c3' : (n : Int) < 10 := by omega
      have w1 : IntKind.i64.wrap (48 + (n : Int)) = 48 + n := IntWalk.i64_in _ (by omega)
      have w2 : IntKind.u8.wrap (48 + (n : Int)) = 48 + n := IntWalk.u8_in _ (by omega)
      have t : (48 + (n : Int)).toNat = 48 + n := by omega
      rw [decV, dif_pos c3]
      simp [evH, -List.getD_eq_getElem?_getD, -List.map_map, f83, c1, c2, c3, c3', w1, w2, t, src, strOf]
    · have c3' : ¬ (n : Int) < 10 := by omega
      have q : pureCall (ev R) 83 [.d (.int .i64 ((n / 10 : Nat) : Int))] = some (.d (.str (decV (n / 10)))) := pureCall_eq fun H => ih (n / 10) (by omega) H (by omega)
      obtain ⟨k, hk⟩ : ∃ k : Int, ((n / 10 : Nat) : Int) = k := ⟨_, rfl⟩
      obtain ⟨d, hd⟩ : ∃ d : Int, (n : Int).tmod 10 = d := ⟨_, rfl⟩
      have hd' : d = ((n % 10 : Nat) : Int) := by rw [← hd, Int.tmod_eq_emod_of_nonneg (by omega)]; omega
      rw [hk] at q
      have w0 : IntKind.i64.wrap ((n : Int).tdiv 10) = k := by rw [Int.tdiv_eq_ediv_of_nonneg (by omega), IntWalk.i64_in _ (by omega)]; omega
      have w0' : IntKind.i64.wrap ((n : Int) / 10) = k := by rw [IntWalk.i64_in _ (by omega)]; omega
      have hd2 : (n : Int) % 10 = d := by omega
      have w1 : IntKind.i64.wrap (48 + d) = 48 + d := IntWalk.i64_in _ (by omega)
      have w2 : IntKind.u8.wrap (48 + d) = 48 + d := IntWalk.u8_in _ (by omega)
      have t : (48 + d).toNat = 48 + n % 10 := by omega
      have hl := decV_len (n / 10)
      have l : (decV (n / 10)).length + 1 ≤ strRoom := by unfold strRoom; omega
      rw [decV, dif_neg c3]
      simp [evH, -List.getD_eq_getElem?_getD, -List.map_map, f83, c1, c2, c3, c3', q, w0, w0', hd, hd2, w1, w2, t, l, src, strOf]
end Go.Proofs.YtjdmiodinhlchaaGreat.Code
/- One bit of a text, in the code under test and in what it is held against. -/
namespace Go.Proofs.YtjdmiodinhlchaaGreat.Code
open Go Go.Ev Go.Proofs
set_option maxRecDepth 100000
set_option linter.unusedSimpArgs false
theorem e_32 (H : Hp) (a b c : Int) : ev R 32 [.d (.int .i64 a), .d (.int .i64 b), .d (.int .i64 c)] H = some (.d (.bool (decide (a ≥ b) && decide (a ≤ c))), H) := by
  refine ev_fn (fn := f32) rfl rfl ?_
  by_cases h1 : a ≥ b <;> by_cases h2 : a ≤ c <;>
  simp [evE, -List.getD_eq_getElem?_getD, -List.map_map, f32, h1, h2]
theorem e_40 (H : Hp) (a b c : Int) : ev R 40 [.d (.int .i64 a), .d (.int .i64 b), .d (.int .i64 c)] H = some (.d (.bool (decide (a ≥ b) && decide (a ≤ c))), H) := by
  refine ev_fn (fn := f40) rfl rfl ?_
  by_cases h1 : a ≥ b <;> by_cases h2 : a ≤ c <;>
  simp [evE, -List.getD_eq_getElem?_getD, -List.map_map, f40, h1, h2]
theorem p_32 (a b c : Int) : pureCall (ev R) 32 [.d (.int .i64 a), .d (.int .i64 b), .d (.int .i64 c)] = some (.d (.bool (decide (a ≥ b) && decide (a ≤ c)))) := pureCall_eq fun H => e_32 H a b c
theorem p_40 (a b c : Int) : pureCall (ev R) 40 [.d (.int .i64 a), .d (.int .i64 b), .d (.int .i64 c)] = some (.d (.bool (decide (a ≥ b) && decide (a ≤ c)))) := pureCall_eq fun H => e_40 H a b c
def bit (s : List UInt8) (i : Int) : Int := if i / 8 ≥ s.length then 0 else ((s.getD (i / 8).toNat 0).toNat : Int) / (2 ^ (7 - i % 8).toNat) % 2
end Go.Proofs.YtjdmiodinhlchaaGreat.Code
/- Entries as data, and how much is left behind one. -/
namespace Go.Proofs.YtjdmiodinhlchaaGreat.Code
open Go Go.Ev Go.Proofs
set_option maxRecDepth 100000
set_option linter.unusedSimpArgs false
set_option linter.unusedVariables false
theorem scs_get (xs : List Sc) (i : Nat) (hi : i < xs.length) : (xs.map scD).getD i .nilp = .agg [.str (xs.getD i ([], 0)).1, .int .i64 (xs.getD i ([], 0)).2] := by
  simp [scD, List.getD_eq_getElem?_getD, hi]
theorem prs_get (xs : List Pr) (i : Nat) (hi : i < xs.length) : (xs.map prD).getD i .nilp = .agg [.str (xs.getD i ([], [])).1, .str (xs.getD i ([], [])).2] := by
  simp [prD, List.getD_eq_getElem?_getD, hi]
end Go.Proofs.YtjdmiodinhlchaaGreat.Code
/- Entries compared with themselves. -/
namespace Go.Proofs.YtjdmiodinhlchaaGreat.Code
open Go Go.Ev Go.Proofs
set_option maxRecDepth 100000
set_option linter.unusedSimpArgs false
set_option linter.unusedVariables false
end Go.Proofs.YtjdmiodinhlchaaGreat.Code
/- Bases: how much is left behind one, bases compared. -/
namespace Go.Proofs.YtjdmiodinhlchaaGreat.Code
open Go Go.Ev Go.Proofs
set_option maxRecDepth 100000
set_option linter.unusedSimpArgs false
set_option linter.unusedVariables false
end Go.Proofs.YtjdmiodinhlchaaGreat.Code
/- Which lists an entry may hold: texts in order, fields in order. -/
namespace Go.Proofs.YtjdmiodinhlchaaGreat.Code
open Go Go.Ev Go.Proofs
set_option maxRecDepth 100000
set_option linter.unusedSimpArgs false
set_option linter.unusedVariables false
theorem e_55 (H : Hp) (s : Txt) : ev R 55 [.d (.str s)] H = some (.d (.bool (decide ((s.length : Int) ≥ 1) && decide ((s.length : Int) ≤ 12))), H) := by
  refine ev_fn (fn := f55) rfl rfl ?_
  have p := p_32 (s.length : Int) 1 12
  simp [evH, -List.getD_eq_getElem?_getD, -List.map_map, f55, p]
theorem e_64 (H : Hp) (s : Txt) : ev R 64 [.d (.str s)] H = some (.d (.bool (decide ((s.length : Int) ≥ 1) && decide ((s.length : Int) ≤ 12))), H) := by
  refine ev_fn (fn := f64) rfl rfl ?_
  have p := p_40 (s.length : Int) 1 12
  simp [evH, -List.getD_eq_getElem?_getD, -List.map_map, f64, p]
def anyF (p : Nat → Bool) : Nat → Nat → Bool
  | 0, _ => false
  | n + 1, i => p i || anyF p n (i + 1)
def notAsc (xs : List Txt) (i : Nat) : Bool := !Op.bytesLess (xs.getD (i - 1) []) (xs.getD i [])
def setV (xs : List Txt) : Bool := !anyF (notAsc xs) (xs.length - 1) 1 && okTexts xs
theorem l_57 (n0 : Nat) (xs : List Txt) (hx : xs.length ≤ 9223372036854775807) (H : Hp) : ∀ (n i : Nat) (e : Env), xs.length ≤ i + n → i + n ≤ xs.length + 1 → 1 ≤ i → (n = 0 ∨ i + n = xs.length) → e.get 0 = .d (txts xs) → e.get 3 = .d (.int .i64 i) →
    ∃ e', evLoop (evCode (ev R) R.glob n0 evLoop f57l0) [0, 3] ⟨e, H⟩ = some ((bif anyF (notAsc xs) n i then .ret else .exit 0), ⟨e', H⟩) ∧
      (anyF (notAsc xs) n i = true → e'.get 2 = .d (.bool false)) ∧ (anyF (notAsc xs) n i = false → e'.get 0 = .d (txts xs))
  | 0, i, e, h1, h2, h3, h4, g0, g3 => by
    have c : ¬ (i : Int) < (xs.length : Int) := by omega
    have c' : ¬ i < xs.length := by omega
    rw [evLoop_eq]
    simp only [anyF]
    refine ⟨?_, ?_, ?_, ?_⟩
    rotate_left
    · simp [evH, -List.getD_eq_getElem?_getD, -List.map_map, f57l0, g0, g3, txts, c, c']
      try rfl
    · intro h; simp at h
    · intro _; simp [evH, -List.getD_eq_getElem?_getD, -List.map_map, g0, txts]
  | n + 1, i, e, h1, h2, h3, h4, g0, g3 => by
    have h4 : i + (n + 1) = xs.length := by omega
    have c' : i < xs.length := by omega
    have ih := l_57 n0 xs hx H n (i + 1)
    have ga := txts_get xs i c'
    have gb := txts_get xs (i - 1) (by omega)
    have hp : notAsc xs i = !Op.bytesLess (xs.getD (i - 1) []) (xs.getD i []) := rfl
    obtain ⟨I, hI⟩ : ∃ I : Int, (i : Int) = I := ⟨_, rfl⟩
    obtain ⟨I2, hI2⟩ : ∃ I : Int, ((i + 1 : Nat) : Int) = I := ⟨_, rfl⟩
    obtain ⟨J, hJ⟩ : ∃ I : Int, ((i - 1 : Nat) : Int) = I := ⟨_, rfl⟩
    have w0 : IntKind.i64.wrap (I - 1) = J := by rw [IntWalk.i64_in _ (by omega)]; omega
    have w1 : IntKind.i64.wrap (I + 1) = I2 := by rw [IntWalk.i64_in _ (by omega)]; omega
    have c : I < (xs.length : Int) := by omega
    have cj : J < (xs.length : Int) := by omega
    have p0 : 0 ≤ I := by omega
    have pj : 0 ≤ J := by omega
    have t0 : I.toNat = i := by omega
    have tj : J.toNat = i - 1 := by omega
    have hk : xs.length ≤ i + 1 + n := by omega
    have hk2 : i + 1 + n ≤ xs.length + 1 := by omega
    have hk3 : n = 0 ∨ i + 1 + n = xs.length := by omega
    rw [hI] at g3
    rw [hI2] at ih
    simp only [anyF]
    generalize notAsc xs i = b at *
    generalize anyF (notAsc xs) n (i + 1) = S at *
    generalize xs.getD i [] = x at *
    generalize xs.getD (i - 1) [] = y at *
    rw [evLoop_eq]
    generalize evLoop (evCode (ev R) R.glob n0 evLoop f57l0) [0, 3] = F at ih ⊢
    cases hl : Op.bytesLess y x with
    | false =>
      rw [hl] at hp
      subst hp
      simp only [Bool.not_false, Bool.true_or, cond_true]
      refine ⟨?_, ?_, ?_, ?_⟩
      rotate_left
      · simp [evH, -List.getD_eq_getElem?_getD, -List.map_map, f57l0, g0, g3, txts, c, cj, p0, pj, t0, tj, w0, ga, gb, hl]
        try rfl
      · intro _; simp [evH, -List.getD_eq_getElem?_getD, -List.map_map]
      · intro h; simp at h
    | true =>
      rw [hl] at hp
      subst hp
      simp only [Bool.not_true, Bool.false_or]
      simp [evH, -List.getD_eq_getElem?_getD, -List.map_map, f57l0, g0, g3, txts, c, cj, p0, pj, t0, tj, w0, w1, ga, gb, hl]
      refine ih _ hk hk2 (by omega) hk3 ?_ ?_ <;> rfl
theorem e_57 (H : Hp) (xs : List Txt) (hx : xs.length ≤ 9223372036854775807) : ev R 57 [.d (txts xs)] H = some (.d (.bool (setV xs)), H) := by
  refine ev_fn (fn := f57) rfl rfl ?_
  have p := pureCall_eq (cl := ev R) fun H => e_56 H xs hx
  obtain ⟨e', he, h1, h2⟩ := l_57 (hlen H) xs hx H (xs.length - 1) 1 [(0, .d (txts xs)), (3, .d (.int .i64 1))] (by omega) (by omega) (by omega) (by omega) rfl rfl
  unfold setV
  cases hb : anyF (notAsc xs) (xs.length - 1) 1 with
  | true =>
    have h1 := h1 hb
    simp only [hb, cond_true] at he
    simp [evH, -List.getD_eq_getElem?_getD, -List.map_map, f57, he, h1]
  | false =>
    have h2 := h2 hb
    simp only [hb, cond_false] at he
    simp [evH, -List.getD_eq_getElem?_getD, -List.map_map, f57, he, h2, p]
theorem l_66 (n0 : Nat) (xs : List Txt) (hx : xs.length ≤ 9223372036854775807) (H : Hp) : ∀ (n i : Nat) (e : Env), xs.length ≤ i + n → i + n ≤ xs.length + 1 → 1 ≤ i → (n = 0 ∨ i + n = xs.length) → e.get 0 = .d (txts xs) → e.get 3 = .d (.int .i64 i) →
    ∃ e', evLoop (evCode (ev R) R.glob n0 evLoop f66l0) [0, 3] ⟨e, H⟩ = some ((bif anyF (notAsc xs) n i then .ret else .exit 0), ⟨e', H⟩) ∧
      (anyF (notAsc xs) n i = true → e'.get 2 = .d (.bool false)) ∧ (anyF (notAsc xs) n i = false → e'.get 0 = .d (txts xs))
  | 0, i, e, h1, h2, h3, h4, g0, g3 => by
    have c : ¬ (i : Int) < (xs.length : Int) := by omega
    have c' : ¬ i < xs.length := by omega
    rw [evLoop_eq]
    simp only [anyF]
    refine ⟨?_, ?_, ?_, ?_⟩
    rotate_left
    · simp [evH, -List.getD_eq_getElem?_getD, -List.map_map, f66l0, g0, g3, txts, c, c']
      try rfl
    · intro h; simp at h
    · intro _; simp [evH, -List.getD_eq_getElem?_getD, -List.map_map, g0, txts]
  | n + 1, i, e, h1, h2, h3, h4, g0, g3 => by
    have h4 : i + (n + 1) = xs.length := by omega
    have c' : i < xs.length := by omega
    have ih := l_66 n0 xs hx H n (i + 1)
    have ga := txts_get xs i c'
    have gb := txts_get xs (i - 1) (by omega)
    have hp : notAsc xs i = !Op.bytesLess (xs.getD (i - 1) []) (xs.getD i []) := rfl
    obtain ⟨I, hI⟩ : ∃ I : Int, (i : Int) = I := ⟨_, rfl⟩
    obtain ⟨I2, hI2⟩ : ∃ I : Int, ((i + 1 : Nat) : Int) = I := ⟨_, rfl⟩
    obtain ⟨J, hJ⟩ : ∃ I : Int, ((i - 1 : Nat) : Int) = I := ⟨_, rfl⟩
    have w0 : IntKind.i64.wrap (I - 1) = J := by rw [IntWalk.i64_in _ (by omega)]; omega
    have w1 : IntKind.i64.wrap (I + 1) = I2 := by rw [IntWalk.i64_in _ (by omega)]; omega
    have c : I < (xs.length : Int) := by omega
    have cj : J < (xs.length : Int) := by omega
    have p0 : 0 ≤ I := by omega
    have pj : 0 ≤ J := by omega
    have t0 : I.toNat = i := by omega
    have tj : J.toNat = i - 1 := by omega
    have hk : xs.length ≤ i + 1 + n := by omega
    have hk2 : i + 1 + n ≤ xs.length + 1 := by omega
    have hk3 : n = 0 ∨ i + 1 + n = xs.length := by omega
    rw [hI] at g3
    rw [hI2] at ih
    simp only [anyF]
    generalize notAsc xs i = b at *
    generalize anyF (notAsc xs) n (i + 1) = S at *
    generalize xs.getD i [] = x at *
    generalize xs.getD (i - 1) [] = y at *
    rw [evLoop_eq]
    generalize evLoop (evCode (ev R) R.glob n0 evLoop f66l0) [0, 3] = F at ih ⊢
    cases hl : Op.bytesLess y x with
    | false =>
      rw [hl] at hp
      subst hp
      simp only [Bool.not_false, Bool.true_or, cond_true]
      refine ⟨?_, ?_, ?_, ?_⟩
      rotate_left
      · simp [evH, -List.getD_eq_getElem?_getD, -List.map_map, f66l0, g0, g3, txts, c, cj, p0, pj, t0, tj, w0, ga, gb, hl]
        try rfl
      · intro _; simp [evH, -List.getD_eq_getElem?_getD, -List.map_map]
      · intro h; simp at h
    | true =>
      rw [hl] at hp
      subst hp
      simp only [Bool.not_true, Bool.false_or]
      simp [evH, -List.getD_eq_getElem?_getD, -List.map_map, f66l0, g0, g3, txts, c, cj, p0, pj, t0, tj, w0, w1, ga, gb, hl]
      refine ih _ hk hk2 (by omega) hk3 ?_ ?_ <;> rfl
theorem e_66 (H : Hp) (xs : List Txt) (hx : xs.length ≤ 9223372036854775807) : ev R 66 [.d (txts xs)] H = some (.d (.bool (setV xs)), H) := by
  refine ev_fn (fn := f66) rfl rfl ?_
  have p := pureCall_eq (cl := ev R) fun H => e_65 H xs hx
  obtain ⟨e', he, h1, h2⟩ := l_66 (hlen H) xs hx H (xs.length - 1) 1 [(0, .d (txts xs)), (3, .d (.int .i64 1))] (by omega) (by omega) (by omega) (by omega) rfl rfl
  unfold setV
  cases hb : anyF (notAsc xs) (xs.length - 1) 1 with
  | true =>
    have h1 := h1 hb
    simp only [hb, cond_true] at he
    simp [evH, -List.getD_eq_getElem?_getD, -List.map_map, f66, he, h1]
  | false =>
    have h2 := h2 hb
    simp only [hb, cond_false] at he
    simp [evH, -List.getD_eq_getElem?_getD, -List.map_map, f66, he, h2, p]
end Go.Proofs.YtjdmiodinhlchaaGreat.Code
/- The reference's small functions: copies, replies, places. -/
namespace Go.Proofs.YtjdmiodinhlchaaGreat.Code
open Go Go.Ev Go.Proofs
set_option maxRecDepth 100000
set_option linter.unusedSimpArgs false
set_option linter.unusedVariables false
theorem e_85 (H : Hp) (xs : List Txt) (hx : xs.length ≤ 1000000) : ev R 85 [.d (txts xs)] H = some (.slc (hlen H) 0 0 xs.length, ap H [.row 0 1 ((xs.map D.str).map V.d)]) := by
  refine ev_fn (fn := f85) rfl rfl ?_
  have r : xs.length * 16 ≤ room := by unfold room; omega
  simp [evC, -List.getD_eq_getElem?_getD, -List.map_map, f85, txts, r, evO]
theorem p_85 (xs : List Txt) (hx : xs.length ≤ 1000000) : pureFCall (ev R) 85 [.d (txts xs)] = some (.d (txts xs)) := by
  refine pureFCall_eq fun H => ⟨_, _, e_85 H xs hx, ?_, ap_take H _⟩
  simp [evC, -List.getD_eq_getElem?_getD, -List.map_map, txts]
theorem p_85n (xs : List Txt) (hx : xs.length ≤ 1000000) : pureCall (ev R) 85 [.d (txts xs)] = none := by
  cases h : pureCall (ev R) 85 [.d (txts xs)] with
  | none => rfl
  | some v =>
    have h1 := pureCall_some h []
    rw [e_85 [] xs hx] at h1
    simp [ap] at h1
theorem p_108 (s : Txt) : pureCall (ev R) 108 [.d (.str s)] = some (.d (reD (.mk 1 0 s [] []))) := pureCall_eq fun H => by
  refine ev_fn (fn := f108) rfl rfl ?_
  simp [evC, -List.getD_eq_getElem?_getD, -List.map_map, f108, txts]
theorem p_131 (n : Int) : pureCall (ev R) 131 [.d (.int .i64 n)] = some (.d (reD (.mk 2 n [] [] []))) := pureCall_eq fun H => by
  refine ev_fn (fn := f131) rfl rfl ?_
  simp [evC, -List.getD_eq_getElem?_getD, -List.map_map, f131, txts]
theorem p_130 (s : Txt) : pureCall (ev R) 130 [.d (.str s)] = some (.d (reD (.mk 3 0 s [] []))) := pureCall_eq fun H => by
  refine ev_fn (fn := f130) rfl rfl ?_
  simp [evC, -List.getD_eq_getElem?_getD, -List.map_map, f130, txts]
theorem p_129 : pureCall (ev R) 129 [] = some (.d (reD (.mk 4 0 [] [] []))) := pureCall_eq fun H => by
  refine ev_fn (fn := f129) rfl rfl ?_
  simp [evC, -List.getD_eq_getElem?_getD, -List.map_map, f129, txts]
theorem p_141 (xs : List Txt) : pureCall (ev R) 141 [.d (txts xs)] = some (.d (reD (.mk 5 0 [] xs []))) := pureCall_eq fun H => by
  refine ev_fn (fn := f141) rfl rfl ?_
  simp [evC, -List.getD_eq_getElem?_getD, -List.map_map, f141, txts]
def boolRe (b : Bool) : Re := .mk 2 (if b then 1 else 0) [] [] []
theorem p_144 (b : Bool) : pureCall (ev R) 144 [.d (.bool b)] = some (.d (reD (boolRe b))) := pureCall_eq fun H => by
  refine ev_fn (fn := f144) rfl rfl ?_
  have a := p_131 1
  have c := p_131 0
  cases b <;> simp [evC, -List.getD_eq_getElem?_getD, -List.map_map, f144, a, c, boolRe]
theorem p_163 (n : Int) : pureCall (ev R) 163 [.d (.int .i64 n)] = some (.d (.bool (decide (-1000000000 ≤ n) && decide (n ≤ 1000000000)))) := pureCall_eq fun H => by
  refine ev_fn (fn := f163) rfl rfl ?_
  have p := pureCall_eq (cl := ev R) fun H => e_32 H n (-1000000000) 1000000000
  simp [evC, -List.getD_eq_getElem?_getD, -List.map_map, f163, p]
def endsV (n f t : Int) : Int × Int :=
  let f := if f < 0 then f + n else f
  let t := if t < 0 then t + n else t
  let f := if f < 0 then 0 else f
  let t := if n ≤ t then n - 1 else t
  if t < f then (0, 0) else (f, t + 1)
theorem p_134 (n f t : Int) (hn : 0 ≤ n ∧ n ≤ 1000000) (hf : -1000000000 ≤ f ∧ f ≤ 1000000000) (ht : -1000000000 ≤ t ∧ t ≤ 1000000000) :
    pureCall (ev R) 134 [.d (.int .i64 n), .d (.int .i64 f), .d (.int .i64 t)] = some (.tup [.d (.int .i64 (endsV n f t).1), .d (.int .i64 (endsV n f t).2)]) := pureCall_eq fun H => by
  refine ev_fn (fn := f134) rfl rfl ?_
  have w1 : IntKind.i64.wrap (f + n) = f + n := IntWalk.i64_in _ (by omega)
  have w2 : IntKind.i64.wrap (t + n) = t + n := IntWalk.i64_in _ (by omega)
  have w3 : IntKind.i64.wrap (n - 1) = n - 1 := IntWalk.i64_in _ (by omega)
  have w4 : IntKind.i64.wrap (t + 1) = t + 1 := IntWalk.i64_in _ (by omega)
  have w5 : IntKind.i64.wrap (t + n + 1) = t + n + 1 := IntWalk.i64_in _ (by omega)
  have w6 : IntKind.i64.wrap n = n := IntWalk.i64_in _ (by omega)
  unfold endsV
  by_cases a : f < 0 <;> by_cases b : t < 0
  · by_cases c : f + n < 0 <;> by_cases d : n ≤ t + n
    · by_cases k : n - 1 < 0 <;> first | (exfalso; omega) | (simp [evC, -List.getD_eq_getElem?_getD, -List.map_map, f134, a, b, c, d, k, w1, w2, w3, w4, w5, w6])
    · by_cases k : t + n < 0 <;> first | (exfalso; omega) | (simp [evC, -List.getD_eq_getElem?_getD, -List.map_map, f134, a, b, c, d, k, w1, w2, w3, w4, w5, w6])
    · by_cases k : n - 1 < f + n <;> first | (exfalso; omega) | (simp [evC, -List.getD_eq_getElem?_getD, -List.map_map, f134, a, b, c, d, k, w1, w2, w3, w4, w5, w6])
    · by_cases k : t + n < f + n <;> first | (exfalso; omega) | (simp [evC, -List.getD_eq_getElem?_getD, -List.map_map, f134, a, b, c, d, k, w1, w2, w3, w4, w5, w6])
  · by_cases c : f + n < 0 <;> by_cases d : n ≤ t
    · by_cases k : n - 1 < 0 <;> first | (exfalso; omega) | (simp [evC, -List.getD_eq_getElem?_getD, -List.map_map, f134, a, b, c, d, k, w1, w2, w3, w4, w5, w6])
    · by_cases k : t < 0 <;> first | (exfalso; omega) | (simp [evC, -List.getD_eq_getElem?_getD, -List.map_map, f134, a, b, c, d, k, w1, w2, w3, w4, w5, w6])
    · by_cases k : n - 1 < f + n <;> first | (exfalso; omega) | (simp [evC, -List.getD_eq_getElem?_getD, -List.map_map, f134, a, b, c, d, k, w1, w2, w3, w4, w5, w6])
    · by_cases k : t < f + n <;> first | (exfalso; omega) | (simp [evC, -List.getD_eq_getElem?_getD, -List.map_map, f134, a, b, c, d, k, w1, w2, w3, w4, w5, w6])
  · by_cases c : f < 0 <;> by_cases d : n ≤ t + n
    · by_cases k : n - 1 < 0 <;> first | (exfalso; omega) | (simp [evC, -List.getD_eq_getElem?_getD, -List.map_map, f134, a, b, c, d, k, w1, w2, w3, w4, w5, w6])
    · by_cases k : t + n < 0 <;> first | (exfalso; omega) | (simp [evC, -List.getD_eq_getElem?_getD, -List.map_map, f134, a, b, c, d, k, w1, w2, w3, w4, w5, w6])
    · by_cases k : n - 1 < f <;> first | (exfalso; omega) | (simp [evC, -List.getD_eq_getElem?_getD, -List.map_map, f134, a, b, c, d, k, w1, w2, w3, w4, w5, w6])
    · by_cases k : t + n < f <;> first | (exfalso; omega) | (simp [evC, -List.getD_eq_getElem?_getD, -List.map_map, f134, a, b, c, d, k, w1, w2, w3, w4, w5, w6])
  · by_cases c : f < 0 <;> by_cases d : n ≤ t
    · by_cases k : n - 1 < 0 <;> first | (exfalso; omega) | (simp [evC, -List.getD_eq_getElem?_getD, -List.map_map, f134, a, b, c, d, k, w1, w2, w3, w4, w5, w6])
    · by_cases k : t < 0 <;> first | (exfalso; omega) | (simp [evC, -List.getD_eq_getElem?_getD, -List.map_map, f134, a, b, c, d, k, w1, w2, w3, w4, w5, w6])
    · by_cases k : n - 1 < f <;> first | (exfalso; omega) | (simp [evC, -List.getD_eq_getElem?_getD, -List.map_map, f134, a, b, c, d, k, w1, w2, w3, w4, w5, w6])
    · by_cases k : t < f <;> first | (exfalso; omega) | (simp [evC, -List.getD_eq_getElem?_getD, -List.map_map, f134, a, b, c, d, k, w1, w2, w3, w4, w5, w6])
end Go.Proofs.YtjdmiodinhlchaaGreat.Code
/- Which lists an entry may hold: fields in order. -/
namespace Go.Proofs.YtjdmiodinhlchaaGreat.Code
open Go Go.Ev Go.Proofs
set_option maxRecDepth 100000
set_option linter.unusedSimpArgs false
set_option linter.unusedVariables false
def badPr (xs : List Pr) (i : Nat) : Bool := decide (40 < (xs.getD i ([], [])).1.length) || decide (40 < (xs.getD i ([], [])).2.length) || (decide (0 < i) && !Op.bytesLess (xs.getD (i - 1) ([], [])).1 (xs.getD i ([], [])).1)
theorem htake_lt {X : Hp} {n : Nat} (o : Ev.Obj) (h : n ≤ hlen X) : htake (hpush X o) n = htake X n := by
  simp only [htake, hpush, hlen] at *
  rw [List.take_append_of_le_length h]
def fieldsV (xs : List Pr) : Bool := !anyF (badPr xs) xs.length 0 && decide (xs.length ≤ 16)
theorem l_59 (n0 : Nat) (xs : List Pr) (hx : xs.length ≤ 9223372036854775807) (H : Hp) : ∀ (n i : Nat) (e : Env), i + n = xs.length → e.get 0 = .d (prs xs) → e.get 3 = .d (.int .i64 i) →
    ∃ e', evLoop (evCode (ev R) R.glob n0 evLoop f59l0) [0, 3] ⟨e, H⟩ = some ((bif anyF (badPr xs) n i then .ret else .exit 0), ⟨e', H⟩) ∧
      (anyF (badPr xs) n i = true → e'.get 2 = .d (.bool false)) ∧ (anyF (badPr xs) n i = false → e'.get 0 = .d (prs xs))
  | 0, i, e, h1, g0, g3 => by
    have c : ¬ (i : Int) < (xs.length : Int) := by omega
    have c' : ¬ i < xs.length := by omega
    rw [evLoop_eq]
    simp only [anyF]
    refine ⟨?_, ?_, ?_, ?_⟩
    rotate_left
    · simp [evH, -List.getD_eq_getElem?_getD, -List.map_map, f59l0, g0, g3, prs, c, c']
      try rfl
    · intro h; simp at h
    · intro _; simp [evH, -List.getD_eq_getElem?_getD, -List.map_map, g0, prs]
  | n + 1, i, e, h1, g0, g3 => by
    have h4 : i + (n + 1) = xs.length := h1
    have c' : i < xs.length := by omega
    have ga := prs_get xs i c'
    have hp : badPr xs i = (decide (40 < (xs.getD i ([], [])).1.length) || decide (40 < (xs.getD i ([], [])).2.length) || (decide (0 < i) && !Op.bytesLess (xs.getD (i - 1) ([], [])).1 (xs.getD i ([], [])).1)) := rfl
    have gb := prs_get xs (i - 1) (by omega)
    obtain ⟨I, hI⟩ : ∃ I : Int, (i : Int) = I := ⟨_, rfl⟩
    obtain ⟨I2, hI2⟩ : ∃ I : Int, ((i + 1 : Nat) : Int) = I := ⟨_, rfl⟩
    obtain ⟨J, hJ⟩ : ∃ I : Int, ((i - 1 : Nat) : Int) = I := ⟨_, rfl⟩
    have w1 : IntKind.i64.wrap (I + 1) = I2 := by rw [IntWalk.i64_in _ (by omega)]; omega
    have c : I < (xs.length : Int) := by omega
    have cj : J < (xs.length : Int) := by omega
    have p0 : 0 ≤ I := by omega
    have pj : 0 ≤ J := by omega
    have t0 : I.toNat = i := by omega
    have tj : J.toNat = i - 1 := by omega
    have hk : i + 1 + n = xs.length := by omega
    have w0 : 0 < i → IntKind.i64.wrap (I - 1) = J := fun _ => by rw [IntWalk.i64_in _ (by omega)]; omega
    have z0 : 0 < i → 0 < I := fun _ => by omega
    have z1 : ¬ 0 < i → ¬ 0 < I := fun _ => by omega
    have ih := l_59 n0 xs hx H n (i + 1)
    rw [hI] at g3
    rw [hI2] at ih
    simp only [anyF]
    generalize badPr xs i = b at *
    generalize anyF (badPr xs) n (i + 1) = S at *
    generalize xs.getD i ([], []) = x at *
    generalize xs.getD (i - 1) ([], []) = y at *
    obtain ⟨x1, x2⟩ := x
    obtain ⟨y1, y2⟩ := y
    simp only at *
    rw [evLoop_eq]
    generalize evLoop (evCode (ev R) R.glob n0 evLoop f59l0) [0, 3] = F at ih ⊢
    by_cases k1 : 40 < x1.length
    · have k1' : (40 : Int) < (x1.length : Int) := by omega
      simp only [k1, decide_true, Bool.true_or] at hp
      subst hp
      simp only [Bool.true_or, cond_true]
      refine ⟨?_, ?_, ?_, ?_⟩
      rotate_left
      · simp [evH, -List.getD_eq_getElem?_getD, -List.map_map, f59l0, g0, g3, prs, c, cj, p0, pj, t0, tj, ga, gb, k1, k1']
        try rfl
      · intro _; simp [evH, -List.getD_eq_getElem?_getD, -List.map_map]
      · intro h; simp at h
    · have k1' : ¬ (40 : Int) < (x1.length : Int) := by omega
      by_cases k2 : 40 < x2.length
      · have k2' : (40 : Int) < (x2.length : Int) := by omega
        simp only [k1, k2, decide_true, decide_false, Bool.false_or, Bool.true_or] at hp
        subst hp
        simp only [Bool.true_or, cond_true]
        refine ⟨?_, ?_, ?_, ?_⟩
        rotate_left
        · simp [evH, -List.getD_eq_getElem?_getD, -List.map_map, f59l0, g0, g3, prs, c, cj, p0, pj, t0, tj, ga, gb, k1, k1', k2, k2']
          try rfl
        · intro _; simp [evH, -List.getD_eq_getElem?_getD, -List.map_map]
        · intro h; simp at h
      · have k2' : ¬ (40 : Int) < (x2.length : Int) := by omega
        by_cases k3 : 0 < i
        · have w0 := w0 k3
          have z0 := z0 k3
          cases hl : Op.bytesLess y1 x1 with
          | false =>
            simp only [k1, k2, k3, hl, decide_true, decide_false, Bool.false_or, Bool.true_and, Bool.not_false] at hp
            subst hp
            simp only [Bool.true_or, cond_true]
            refine ⟨?_, ?_, ?_, ?_⟩
            rotate_left
            · simp [evH, -List.getD_eq_getElem?_getD, -List.map_map, f59l0, g0, g3, prs, c, cj, p0, pj, t0, tj, ga, gb, k1, k1', k2, k2', z0, w0, hl]
              try rfl
            · intro _; simp [evH, -List.getD_eq_getElem?_getD, -List.map_map]
            · intro h; simp at h
          | true =>
            simp only [k1, k2, k3, hl, decide_true, decide_false, Bool.false_or, Bool.true_and, Bool.not_true] at hp
            subst hp
            simp only [Bool.false_or]
            simp [evH, -List.getD_eq_getElem?_getD, -List.map_map, f59l0, g0, g3, prs, c, cj, p0, pj, t0, tj, w1, ga, gb, k1, k1', k2, k2', z0, w0, hl]
            refine ih _ hk ?_ ?_ <;> rfl
        · have z1 := z1 k3
          simp only [k1, k2, k3, decide_false, Bool.false_or, Bool.false_and] at hp
          subst hp
          simp only [Bool.false_or]
          simp [evH, -List.getD_eq_getElem?_getD, -List.map_map, f59l0, g0, g3, prs, c, cj, p0, pj, t0, tj, w1, ga, gb, k1, k1', k2, k2', z1]
          refine ih _ hk ?_ ?_ <;> rfl
theorem e_59 (H : Hp) (xs : List Pr) (hx : xs.length ≤ 9223372036854775807) : ev R 59 [.d (prs xs)] H = some (.d (.bool (fieldsV xs)), H) := by
  refine ev_fn (fn := f59) rfl rfl ?_
  obtain ⟨e', he, h1, h2⟩ := l_59 (hlen H) xs hx H xs.length 0 [(0, .d (prs xs)), (3, .d (.int .i64 0))] (by omega) rfl rfl
  unfold fieldsV
  simp only [prs] at he h2
  cases hb : anyF (badPr xs) xs.length 0 with
  | true =>
    have h1 := h1 hb
    simp only [hb, cond_true] at he
    simp [evH, -List.getD_eq_getElem?_getD, -List.map_map, f59, prs, he, h1]
  | false =>
    have h2 := h2 hb
    simp only [hb, cond_false] at he
    by_cases hl : xs.length ≤ 16
    · have hl' : (xs.length : Int) ≤ 16 := by omega
      simp [evH, -List.getD_eq_getElem?_getD, -List.map_map, f59, prs, he, h2, hl, hl']
    · have hl' : ¬ (xs.length : Int) ≤ 16 := by omega
      simp [evH, -List.getD_eq_getElem?_getD, -List.map_map, f59, prs, he, h2, hl, hl']
theorem l_68 (n0 : Nat) (xs : List Pr) (hx : xs.length ≤ 9223372036854775807) (H : Hp) : ∀ (n i : Nat) (X : Hp) (e : Env), i + n = xs.length → htake X (hlen H) = H → hlen H ≤ hlen X → e.get 0 = .d (prs xs) → e.get 5 = .d (prs xs) → e.get 6 = .d (.int .i64 xs.length) → e.get 7 = .d (.int .i64 i) →
    ∃ e' X', evLoop (evCode (ev R) R.glob n0 evLoop f68l0) [0, 5, 6, 7] ⟨e, X⟩ = some ((bif anyF (badPr xs) n i then .ret else .exit 0), ⟨e', X'⟩) ∧
      (anyF (badPr xs) n i = true → e'.get 2 = .d (.bool false)) ∧ (anyF (badPr xs) n i = false → e'.get 0 = .d (prs xs)) ∧ htake X' (hlen H) = H
  | 0, i, X, e, h1, hx1, hx2, g0, g5, g6, g3 => by
    have c : ¬ (i : Int) < (xs.length : Int) := by omega
    have c' : ¬ i < xs.length := by omega
    rw [evLoop_eq]
    simp only [anyF]
    refine ⟨?_, X, ?_, ?_, ?_, ?_⟩
    rotate_left
    · simp [evH, -List.getD_eq_getElem?_getD, -List.map_map, f68l0, g0, g5, g6, g3, prs, c, c']
      try rfl
    · intro h; simp at h
    · intro _; simp [evH, -List.getD_eq_getElem?_getD, -List.map_map, g0, prs]
    · exact hx1
  | n + 1, i, X, e, h1, hx1, hx2, g0, g5, g6, g3 => by
    have h4 : i + (n + 1) = xs.length := h1
    have c' : i < xs.length := by omega
    have ga := prs_get xs i c'
    have hp : badPr xs i = (decide (40 < (xs.getD i ([], [])).1.length) || decide (40 < (xs.getD i ([], [])).2.length) || (decide (0 < i) && !Op.bytesLess (xs.getD (i - 1) ([], [])).1 (xs.getD i ([], [])).1)) := rfl
    have gb := prs_get xs (i - 1) (by omega)
    obtain ⟨I, hI⟩ : ∃ I : Int, (i : Int) = I := ⟨_, rfl⟩
    obtain ⟨I2, hI2⟩ : ∃ I : Int, ((i + 1 : Nat) : Int) = I := ⟨_, rfl⟩
    obtain ⟨J, hJ⟩ : ∃ I : Int, ((i - 1 : Nat) : Int) = I := ⟨_, rfl⟩
    have w1 : IntKind.i64.wrap (I + 1) = I2 := by rw [IntWalk.i64_in _ (by omega)]; omega
    have c : I < (xs.length : Int) := by omega
    have cj : J < (xs.length : Int) := by omega
    have p0 : 0 ≤ I := by omega
    have pj : 0 ≤ J := by omega
    have t0 : I.toNat = i := by omega
    have tj : J.toNat = i - 1 := by omega
    have hk : i + 1 + n = xs.length := by omega
    have w0 : 0 < i → IntKind.i64.wrap (I - 1) = J := fun _ => by rw [IntWalk.i64_in _ (by omega)]; omega
    have z0 : 0 < i → 0 < I := fun _ => by omega
    have z1 : ¬ 0 < i → ¬ 0 < I := fun _ => by omega
    have ga' : ∀ z : D, hstore (hpush X (.row 0 2 [.d (.agg [.str [], .str []])])) (hlen X) 0 0 0 [.d (.str (xs.getD i ([], [])).1), .d (.str (xs.getD i ([], [])).2)] = some (hpush X (.row 0 2 [.d (.agg [.str (xs.getD i ([], [])).1, .str (xs.getD i ([], [])).2])])) := fun _ => by
      simp [hstore, rowOf_self, V.cells, D.cells, reCell, V.isAgg, mkAgg, allD, hset_push]
    have st := ga' .nilp
    have ld0 : hload (hpush X (.row 0 2 [.d (.agg [.str (xs.getD i ([], [])).1, .str (xs.getD i ([], [])).2])])) (hlen X) 0 0 0 1 = some [.d (.str (xs.getD i ([], [])).1)] := by simp [hload, rowOf_self, V.cells, D.cells]
    have ld1 : hload (hpush X (.row 0 2 [.d (.agg [.str (xs.getD i ([], [])).1, .str (xs.getD i ([], [])).2])])) (hlen X) 0 0 1 1 = some [.d (.str (xs.getD i ([], [])).2)] := by simp [hload, rowOf_self, V.cells, D.cells]
    have tk : htake (hpush X (.row 0 2 [.d (.agg [.str (xs.getD i ([], [])).1, .str (xs.getD i ([], [])).2])])) (hlen H) = H := by rw [htake_lt _ hx2]; exact hx1
    have lk : hlen H ≤ hlen (hpush X (.row 0 2 [.d (.agg [.str (xs.getD i ([], [])).1, .str (xs.getD i ([], [])).2])])) := by rw [hlen_hpush]; omega
    have ih := l_68 n0 xs hx H n (i + 1) (hpush X (.row 0 2 [.d (.agg [.str (xs.getD i ([], [])).1, .str (xs.getD i ([], [])).2])]))
    generalize hpush X (.row 0 2 [.d (.agg [.str (xs.getD i ([], [])).1, .str (xs.getD i ([], [])).2])]) = Y at *
    rw [hI] at g3
    rw [hI2] at ih
    simp only [anyF]
    generalize badPr xs i = b at *
    generalize anyF (badPr xs) n (i + 1) = S at *
    generalize xs.getD i ([], []) = x at *
    generalize xs.getD (i - 1) ([], []) = y at *
    obtain ⟨x1, x2⟩ := x
    obtain ⟨y1, y2⟩ := y
    simp only at *
    rw [evLoop_eq]
    generalize evLoop (evCode (ev R) R.glob n0 evLoop f68l0) [0, 5, 6, 7] = F at ih ⊢
    by_cases k1 : 40 < x1.length
    · have k1' : (40 : Int) < (x1.length : Int) := by omega
      simp only [k1, decide_true, Bool.true_or] at hp
      subst hp
      simp only [Bool.true_or, cond_true]
      refine ⟨?_, Y, ?_, ?_, ?_, ?_⟩
      rotate_left
      · simp [evH, -List.getD_eq_getElem?_getD, -List.map_map, f68l0, g0, g5, g6, g3, prs, c, cj, p0, pj, t0, tj, ga, gb, st, ld0, ld1, k1, k1']
        try rfl
      · intro _; simp [evH, -List.getD_eq_getElem?_getD, -List.map_map]
      · intro h; simp at h
      · exact tk
    · have k1' : ¬ (40 : Int) < (x1.length : Int) := by omega
      by_cases k2 : 40 < x2.length
      · have k2' : (40 : Int) < (x2.length : Int) := by omega
        simp only [k1, k2, decide_true, decide_false, Bool.false_or, Bool.true_or] at hp
        subst hp
        simp only [Bool.true_or, cond_true]
        refine ⟨?_, Y, ?_, ?_, ?_, ?_⟩
        rotate_left
        · simp [evH, -List.getD_eq_getElem?_getD, -List.map_map, f68l0, g0, g5, g6, g3, prs, c, cj, p0, pj, t0, tj, ga, gb, st, ld0, ld1, k1, k1', k2, k2']
          try rfl
        · intro _; simp [evH, -List.getD_eq_getElem?_getD, -List.map_map]
        · intro h; simp at h
        · exact tk
      · have k2' : ¬ (40 : Int) < (x2.length : Int) := by omega
        by_cases k3 : 0 < i
        · have w0 := w0 k3
          have z0 := z0 k3
          cases hl : Op.bytesLess y1 x1 with
          | false =>
            simp only [k1, k2, k3, hl, decide_true, decide_false, Bool.false_or, Bool.true_and, Bool.not_false] at hp
            subst hp
            simp only [Bool.true_or, cond_true]
            refine ⟨?_, Y, ?_, ?_, ?_, ?_⟩
            rotate_left
            · simp [evH, -List.getD_eq_getElem?_getD, -List.map_map, f68l0, g0, g5, g6, g3, prs, c, cj, p0, pj, t0, tj, ga, gb, st, ld0, ld1, k1, k1', k2, k2', z0, w0, hl]
              try rfl
            · intro _; simp [evH, -List.getD_eq_getElem?_getD, -List.map_map]
            · intro h; simp at h
            · exact tk
          | true =>
            simp only [k1, k2, k3, hl, decide_true, decide_false, Bool.false_or, Bool.true_and, Bool.not_true] at hp
            subst hp
            simp only [Bool.false_or]
            simp [evH, -List.getD_eq_getElem?_getD, -List.map_map, f68l0, g0, g5, g6, g3, prs, c, cj, p0, pj, t0, tj, w1, ga, gb, st, ld0, ld1, k1, k1', k2, k2', z0, w0, hl]
            refine ih _ hk tk lk ?_ ?_ ?_ ?_ <;> (first | rfl | exact g6)
        · have z1 := z1 k3
          simp only [k1, k2, k3, decide_false, Bool.false_or, Bool.false_and] at hp
          subst hp
          simp only [Bool.false_or]
          simp [evH, -List.getD_eq_getElem?_getD, -List.map_map, f68l0, g0, g5, g6, g3, prs, c, cj, p0, pj, t0, tj, w1, ga, gb, st, ld0, ld1, k1, k1', k2, k2', z1]
          refine ih _ hk tk lk ?_ ?_ ?_ ?_ <;> (first | rfl | exact g6)
theorem e_68 (H : Hp) (xs : List Pr) (hx : xs.length ≤ 9223372036854775807) : ev R 68 [.d (prs xs)] H = some (.d (.bool (fieldsV xs)), H) := by
  refine ev_fn (fn := f68) rfl rfl ?_
  obtain ⟨e', X', he, h1, h2, tk⟩ := l_68 (hlen H) xs hx H xs.length 0 H [(0, .d (prs xs)), (5, .d (prs xs)), (6, .d (.int .i64 xs.length)), (7, .d (.int .i64 0))] (by omega) (htake_self H) (Nat.le_refl _) rfl rfl rfl rfl
  unfold fieldsV
  simp only [prs] at he h2
  cases hb : anyF (badPr xs) xs.length 0 with
  | true =>
    have h1 := h1 hb
    simp only [hb, cond_true] at he
    simp [evH, -List.getD_eq_getElem?_getD, -List.map_map, f68, prs, he, h1, tk]
  | false =>
    have h2 := h2 hb
    simp only [hb, cond_false] at he
    by_cases hl : xs.length ≤ 16
    · have hl' : (xs.length : Int) ≤ 16 := by omega
      simp [evH, -List.getD_eq_getElem?_getD, -List.map_map, f68, prs, he, h2, hl, hl', tk]
    · have hl' : ¬ (xs.length : Int) ≤ 16 := by omega
      simp [evH, -List.getD_eq_getElem?_getD, -List.map_map, f68, prs, he, h2, hl, hl', tk]
end Go.Proofs.YtjdmiodinhlchaaGreat.Code
/- How scores are compared and found. -/
namespace Go.Proofs.YtjdmiodinhlchaaGreat.Code
open Go Go.Ev Go.Proofs
set_option maxRecDepth 100000
set_option linter.unusedSimpArgs false
set_option linter.unusedVariables false
theorem e_157 (H : Hp) (n : Int) : ev R 157 [.d (.int .i64 n)] H = some (.d (.bool false), H) := by
  refine ev_fn (fn := f157) rfl rfl ?_
  simp [evH, -List.getD_eq_getElem?_getD, -List.map_map, f157]
theorem e_74 (H : Hp) (s : Txt) : ev R 74 [.d (.str s)] H = some (.d (.bool false), H) := by
  refine ev_fn (fn := f74) rfl rfl ?_
  simp [evH, -List.getD_eq_getElem?_getD, -List.map_map, f74]
def cmpI (a b : Int) : Int := if a < b then -1 else if b < a then 1 else 0
def cmpS (x y : Txt) : Int := if Op.bytesLess x y = true then -1 else if (!(Op.bytesLess x y || decide (x = y))) = true then 1 else 0
theorem e_117 (H : Hp) (a b : Int) : ev R 117 [.d (.int .i64 a), .d (.int .i64 b)] H = some (.d (.int .i64 (cmpI a b)), H) := by
  refine ev_fn (fn := f117) rfl rfl ?_
  have p1 := pureCall_eq (cl := ev R) fun H => e_157 H a
  have p2 := pureCall_eq (cl := ev R) fun H => e_157 H b
  unfold cmpI
  by_cases c1 : a < b
  · simp [evH, -List.getD_eq_getElem?_getD, -List.map_map, f117, p1, p2, c1]
  · by_cases c2 : b < a
    · simp [evH, -List.getD_eq_getElem?_getD, -List.map_map, f117, p1, p2, c1, c2]
    · simp [evH, -List.getD_eq_getElem?_getD, -List.map_map, f117, p1, p2, c1, c2]
theorem e_50 (H : Hp) (x y : Txt) : ev R 50 [.d (.str x), .d (.str y)] H = some (.d (.int .i64 (cmpS x y)), H) := by
  refine ev_fn (fn := f50) rfl rfl ?_
  have p1 := pureCall_eq (cl := ev R) fun H => e_74 H x
  have p2 := pureCall_eq (cl := ev R) fun H => e_74 H y
  unfold cmpS
  cases c1 : Op.bytesLess x y with
  | true => simp [evH, -List.getD_eq_getElem?_getD, -List.map_map, f50, p1, p2, c1]
  | false =>
    by_cases c2 : x = y
    · subst c2
      simp [evH, -List.getD_eq_getElem?_getD, -List.map_map, f50, p1, c1]
    · simp [evH, -List.getD_eq_getElem?_getD, -List.map_map, f50, p1, p2, c1, c2]
def orV (a b : Int) : Int := if a = 0 then b else a
theorem duo0 (a b : D) : [a, b].getD 0 .nilp = a := rfl
theorem duo1 (a b : D) : [a, b].getD 1 .nilp = b := rfl
theorem e_116 (H : Hp) (a b : Int) : ev R 116 [.d (.vals 1 [.int .i64 a, .int .i64 b])] H = some (.d (.int .i64 (orV a b)), H) := by
  refine ev_fn (fn := f116) rfl rfl ?_
  have w1 : IntKind.i64.wrap (0 + 1) = 1 := rfl
  have w2 : IntKind.i64.wrap (1 + 1) = 2 := rfl
  have w1' : IntKind.i64.wrap 1 = 1 := rfl
  have w2' : IntKind.i64.wrap 2 = 2 := rfl
  unfold orV
  by_cases c1 : a = 0
  · subst c1
    by_cases c2 : b = 0
    · subst c2
      have L : ∃ e', evLoop (evCode (ev R) R.glob (hlen H) evLoop f116l0) [3, 6, 7, 8] ⟨[(3, .d (.int .i64 0)), (6, .d (.vals 1 [.int .i64 0, .int .i64 0])), (7, .d (.int .i64 2)), (8, .d (.int .i64 0))], H⟩ = some (.exit 0, ⟨e', H⟩) ∧ e'.get 3 = .d (.int .i64 0) := by
        rw [evLoop_eq]
        simp [evH, -List.getD_eq_getElem?_getD, -List.map_map, f116l0, duo0, duo1, w1, w2, w1', w2']
        rw [evLoop_eq]
        simp [evH, -List.getD_eq_getElem?_getD, -List.map_map, f116l0, duo0, duo1, w1, w2, w1', w2']
        rw [evLoop_eq]
        refine ⟨?_, ?_, ?_⟩
        rotate_left
        · simp [evH, -List.getD_eq_getElem?_getD, -List.map_map, f116l0, duo0, duo1, w1, w2, w1', w2']
          try rfl
        · simp [evH, -List.getD_eq_getElem?_getD, -List.map_map]
      obtain ⟨e', he, h3⟩ := L
      simp [evH, -List.getD_eq_getElem?_getD, -List.map_map, f116, he, h3]
    · have L : ∃ e', evLoop (evCode (ev R) R.glob (hlen H) evLoop f116l0) [3, 6, 7, 8] ⟨[(3, .d (.int .i64 0)), (6, .d (.vals 1 [.int .i64 0, .int .i64 b])), (7, .d (.int .i64 2)), (8, .d (.int .i64 0))], H⟩ = some (.ret, ⟨e', H⟩) ∧ e'.get 2 = .d (.int .i64 b) := by
        rw [evLoop_eq]
        simp [evH, -List.getD_eq_getElem?_getD, -List.map_map, f116l0, duo0, duo1, w1, w2, w1', w2', c2]
        rw [evLoop_eq]
        refine ⟨?_, ?_, ?_⟩
        rotate_left
        · simp [evH, -List.getD_eq_getElem?_getD, -List.map_map, f116l0, duo0, duo1, w1, w2, w1', w2', c2]
          try rfl
        · simp [evH, -List.getD_eq_getElem?_getD, -List.map_map]
      obtain ⟨e', he, h3⟩ := L
      simp [evH, -List.getD_eq_getElem?_getD, -List.map_map, f116, he, h3, c2]
  · have L : ∃ e', evLoop (evCode (ev R) R.glob (hlen H) evLoop f116l0) [3, 6, 7, 8] ⟨[(3, .d (.int .i64 0)), (6, .d (.vals 1 [.int .i64 a, .int .i64 b])), (7, .d (.int .i64 2)), (8, .d (.int .i64 0))], H⟩ = some (.ret, ⟨e', H⟩) ∧ e'.get 2 = .d (.int .i64 a) := by
      rw [evLoop_eq]
      refine ⟨?_, ?_, ?_⟩
      rotate_left
      · simp [evH, -List.getD_eq_getElem?_getD, -List.map_map, f116l0, duo0, duo1, w1, w2, w1', w2', c1]
        try rfl
      · simp [evH, -List.getD_eq_getElem?_getD, -List.map_map]
    obtain ⟨e', he, h3⟩ := L
    simp [evH, -List.getD_eq_getElem?_getD, -List.map_map, f116, he, h3, c1]
theorem take2 (H : Hp) (a b : Ev.Obj) : htake (hpush (hpush H a) b) (hlen H) = H := by simp [htake, hpush, hlen]
theorem e_88 (H : Hp) (x y : Txt) (a b : Int) : ev R 88 [.d (.agg [.str x, .int .i64 a]), .d (.agg [.str y, .int .i64 b])] H = some (.d (.int .i64 (orV (cmpI a b) (cmpS x y))), H) := by
  refine ev_fn (fn := f88) rfl rfl ?_
  have p1 := pureCall_eq (cl := ev R) fun H => e_117 H a b
  have p2 := pureCall_eq (cl := ev R) fun H => e_50 H x y
  have p3 := pureCall_eq (cl := ev R) fun H => e_116 H (cmpI a b) (cmpS x y)
  simp [evH, -List.getD_eq_getElem?_getD, -List.map_map, f88, hlen_hpush, hload, rowOf, get2_0, get2_1, p1, p2, p3, take2]
def aheadV (x y : Txt) (a b : Int) : Bool := decide (a < b) || (decide (a = b) && Op.bytesLess x y)
theorem e_84 (H : Hp) (x y : Txt) (a b : Int) : ev R 84 [.d (.agg [.str x, .int .i64 a]), .d (.agg [.str y, .int .i64 b])] H = some (.d (.bool (aheadV x y a b)), H) := by
  refine ev_fn (fn := f84) rfl rfl ?_
  unfold aheadV
  by_cases c1 : a < b
  · simp [evH, -List.getD_eq_getElem?_getD, -List.map_map, f84, hlen_hpush, hload, rowOf, get2_0, get2_1, c1, take2]
  · by_cases c2 : a = b
    · simp [evH, -List.getD_eq_getElem?_getD, -List.map_map, f84, hlen_hpush, hload, rowOf, get2_0, get2_1, c1, c2, take2]
    · simp [evH, -List.getD_eq_getElem?_getD, -List.map_map, f84, hlen_hpush, hload, rowOf, get2_0, get2_1, c1, c2, take2]
theorem order_ahead (x y : Txt) (a b : Int) : decide (orV (cmpI a b) (cmpS x y) ≥ 0) = !aheadV x y a b := by
  unfold orV cmpI cmpS aheadV
  by_cases c1 : a < b
  · simp [c1]
  · by_cases c2 : b < a
    · have : ¬ a = b := by omega
      simp [c1, c2, this]
    · have : a = b := by omega
      cases h : Op.bytesLess x y with
      | true => simp [c1, c2, this]
      | false =>
        by_cases c3 : x = y
        · simp [c1, c2, this, c3]
        · simp [c1, c2, this, c3]
theorem e_119 (H : Hp) (t x : Txt) (n : Int) : ev R 119 [.d (.agg [.str t, .int .i64 n]), .d (.rptr [.str x])] H = some (.d (.bool (decide (t = x))), H) := by
  refine ev_fn (fn := f119) rfl rfl ?_
  have ld : hload (hpush H (.row 0 2 [.d (.agg [.str t, .int .i64 n])])) (hlen H) 0 0 0 1 = some [.d (.str t)] := by simp [hload, rowOf_self, V.cells, D.cells]
  simp [evH, -List.getD_eq_getElem?_getD, -List.map_map, f119, ld]
def sameT (xs : List Sc) (x : Txt) (i : Nat) : Bool := decide ((xs.getD i ([], 0)).1 = x)
theorem l_118 (n0 : Nat) (xs : List Sc) (hx : xs.length ≤ 9223372036854775807) (x : Txt) (H : Hp) : ∀ (n i : Nat) (e : Env), i + n = xs.length → e.get 0 = .d (scs xs) → e.get 1 = .d (.fn (.func 119) [.rptr [.str x]]) → e.get 7 = .d (.int .i64 xs.length) → e.get 8 = .d (.int .i64 i) →
    ∃ e', evLoop (evCode (ev R) R.glob n0 evLoop f118l0) [0, 1, 7, 8] ⟨e, H⟩ = some ((match seek (sameT xs x) n i with | some _ => .ret | none => .exit 0), ⟨e', H⟩) ∧ (∀ j, seek (sameT xs x) n i = some j → e'.get 4 = .d (.int .i64 j))
  | 0, i, e, h1, g0, g1, g7, g8 => by
    have c : ¬ (i : Int) < (xs.length : Int) := by omega
    have c' : ¬ i < xs.length := by omega
    rw [evLoop_eq]
    simp only [seek]
    refine ⟨?_, ?_, ?_⟩
    rotate_left
    · simp [evH, -List.getD_eq_getElem?_getD, -List.map_map, f118l0, g0, g1, g7, g8, scs, c, c']
      try rfl
    · intro j h; simp at h
  | n + 1, i, e, h1, g0, g1, g7, g8 => by
    have c : (i : Int) < (xs.length : Int) := by omega
    have c' : i < xs.length := by omega
    have ga := scs_get xs i c'
    have p := pureCall_eq (cl := ev R) fun H => e_119 H (xs.getD i ([], 0)).1 x (xs.getD i ([], 0)).2
    have hp : sameT xs x i = decide ((xs.getD i ([], 0)).1 = x) := rfl
    have w1 : IntKind.i64.wrap ((i : Int) + 1) = ((i + 1 : Nat) : Int) := by rw [IntWalk.i64_in _ (by omega)]; rfl
    have ih := l_118 n0 xs hx x H n (i + 1)
    simp only [seek]
    rw [hp]
    generalize (xs.getD i ([], 0)) = y at *
    rw [evLoop_eq]
    generalize evLoop (evCode (ev R) R.glob n0 evLoop f118l0) [0, 1, 7, 8] = F at ih ⊢
    by_cases hb : y.1 = x
    · simp only [hb, decide_true, if_true] at p ⊢
      refine ⟨?_, ?_, ?_⟩
      rotate_left
      · simp [evH, -List.getD_eq_getElem?_getD, -List.map_map, f118l0, g0, g1, g7, g8, scs, c, c', ga, hb, p]
        try rfl
      · intro j hj
        simp only [Option.some.injEq] at hj
        subst hj
        simp [evH, -List.getD_eq_getElem?_getD, -List.map_map]
    · simp only [hb, decide_false, Bool.false_eq_true, if_false] at p ⊢
      generalize seek (sameT xs x) n (i + 1) = S at *
      simp [evH, -List.getD_eq_getElem?_getD, -List.map_map, f118l0, g0, g1, g7, g8, scs, c, c', ga, hb, p, w1]
      refine ih _ (by omega) ?_ ?_ ?_ ?_ <;> (first | rfl | exact g7)
def scAt (xs : List Sc) (x : Txt) : Int := match seek (sameT xs x) xs.length 0 with | some j => j | none => -1
theorem e_118 (H : Hp) (xs : List Sc) (hx : xs.length ≤ 9223372036854775807) (x : Txt) : ev R 118 [.d (scs xs), .d (.fn (.func 119) [.rptr [.str x]])] H = some (.d (.int .i64 (scAt xs x)), H) := by
  refine ev_fn (fn := f118) rfl rfl ?_
  obtain ⟨e', he, h4⟩ := l_118 (hlen H) xs hx x H xs.length 0 [(0, .d (scs xs)), (1, .d (.fn (.func 119) [.rptr [.str x]])), (7, .d (.int .i64 xs.length)), (8, .d (.int .i64 0))] (by omega) rfl rfl rfl rfl
  unfold scAt
  simp only [scs] at he
  cases hr : seek (sameT xs x) xs.length 0 with
  | some j =>
    have h4 := h4 j hr
    simp only [hr] at he
    simp [evH, -List.getD_eq_getElem?_getD, -List.map_map, f118, scs, he, h4]
  | none =>
    simp only [hr] at he
    simp [evH, -List.getD_eq_getElem?_getD, -List.map_map, f118, scs, he]
theorem e_89 (H : Hp) (xs : List Sc) (hx : xs.length ≤ 9223372036854775807) (x : Txt) : ev R 89 [.d (scs xs), .d (.str x)] H = some (.d (.int .i64 (scAt xs x)), H) := by
  refine ev_fn (fn := f89) rfl rfl ?_
  have p := pureCall_eq (cl := ev R) fun H => e_118 H xs hx x
  have uno : ∀ a : D, [a].getD 0 .nilp = a := fun _ => rfl
  simp only [scs] at p
  simp [evH, -List.getD_eq_getElem?_getD, -List.map_map, f89, scs, uno, p]
theorem scAt_ne (xs : List Sc) (i : Nat) (hi : i < xs.length) : decide (¬ scAt xs (xs.getD i ([], 0)).1 = (i : Int)) = anyF (sameT xs (xs.getD i ([], 0)).1) i 0 := by
  have anyT : ∀ (p : Nat → Bool) (n k : Nat), anyF p n k = true ↔ ∃ j, k ≤ j ∧ j < k + n ∧ p j = true := by
    intro p n
    induction n with
    | zero => intro k; simp [anyF]; intro j h1 h2; omega
    | succ n ih =>
      intro k
      simp only [anyF, Bool.or_eq_true, ih (k + 1)]
      constructor
      · rintro (h | ⟨j, h1, h2, h3⟩)
        · exact ⟨k, Nat.le_refl _, by omega, h⟩
        · exact ⟨j, by omega, by omega, h3⟩
      · rintro ⟨j, h1, h2, h3⟩
        by_cases e : j = k
        · subst e; exact .inl h3
        · exact .inr ⟨j, by omega, by omega, h3⟩
  have self : sameT xs (xs.getD i ([], 0)).1 i = true := by simp [sameT]
  generalize (xs.getD i ([], 0)).1 = x at *
  unfold scAt
  cases hr : seek (sameT xs x) xs.length 0 with
  | none =>
    have := seek_none hr i (by omega) (by omega)
    rw [self] at this; simp at this
  | some j =>
    obtain ⟨h1, h2, h3, h4⟩ := seek_some hr
    have hji : j ≤ i := by
      refine Nat.le_of_not_lt fun h => ?_
      have := h4 i (by omega) h
      rw [self] at this; simp at this
    simp only
    cases hb : anyF (sameT xs x) i 0 with
    | true =>
      obtain ⟨k, k1, k2, k3⟩ := (anyT _ _ _).1 hb
      have hk : ¬ k < j := fun h => by
        have := h4 k (by omega) h
        rw [k3] at this; simp at this
      simp; omega
    | false =>
      have : ¬ j < i := fun h => by
        have := (anyT (sameT xs x) i 0).2 ⟨j, by omega, by omega, h3⟩
        rw [hb] at this; simp at this
      simp; omega
end Go.Proofs.YtjdmiodinhlchaaGreat.Code
/- Which lists an entry may hold: scores in order, without twins. -/
namespace Go.Proofs.YtjdmiodinhlchaaGreat.Code
open Go Go.Ev Go.Proofs
set_option maxRecDepth 100000
set_option linter.unusedSimpArgs false
set_option linter.unusedVariables false
theorem e_87 (H : Hp) (a : Int) : ev R 87 [.d (.int .i64 a)] H = some (.d (.bool (decide (a ≥ -1000000000) && decide (a ≤ 1000000000))), H) := by
  refine ev_fn (fn := f87) rfl rfl ?_
  have p := p_40 a (-1000000000) 1000000000
  simp [evH, -List.getD_eq_getElem?_getD, -List.map_map, f87, p]
def badSc (xs : List Sc) (i : Nat) : Bool := decide (40 < (xs.getD i ([], 0)).1.length) || !(decide ((xs.getD i ([], 0)).2 ≥ -1000000000) && decide ((xs.getD i ([], 0)).2 ≤ 1000000000)) ||
  (decide (0 < i) && !aheadV (xs.getD (i - 1) ([], 0)).1 (xs.getD i ([], 0)).1 (xs.getD (i - 1) ([], 0)).2 (xs.getD i ([], 0)).2) || anyF (sameT xs (xs.getD i ([], 0)).1) i 0
theorem l_58i (n0 : Nat) (xs : List Sc) (hx : xs.length ≤ 9223372036854775807) (i : Nat) (hi : i < xs.length) (H : Hp) : ∀ (n k : Nat) (e : Env), k + n = i → e.get 0 = .d (scs xs) → e.get 3 = .d (.int .i64 i) → e.get 4 = .d (.int .i64 k) →
    ∃ e', evLoop (evCode (ev R) R.glob n0 evLoop f58l0) [0, 3, 4] ⟨e, H⟩ = some ((bif anyF (sameT xs (xs.getD i ([], 0)).1) n k then .ret else .exit 2), ⟨e', H⟩) ∧
      (anyF (sameT xs (xs.getD i ([], 0)).1) n k = true → e'.get 2 = .d (.bool false)) ∧ (anyF (sameT xs (xs.getD i ([], 0)).1) n k = false → e'.get 0 = .d (scs xs) ∧ e'.get 3 = .d (.int .i64 i))
  | 0, k, e, h1, g0, g3, g4 => by
    have c : ¬ (k : Int) < (i : Int) := by omega
    have c' : ¬ k < i := by omega
    rw [evLoop_eq]
    simp only [anyF]
    refine ⟨?_, ?_, ?_, ?_⟩
    rotate_left
    · simp [evH, -List.getD_eq_getElem?_getD, -List.map_map, f58l0, g0, g3, g4, scs, c, c']
      try rfl
    · intro h; simp at h
    · intro _; simp [evH, -List.getD_eq_getElem?_getD, -List.map_map, g0, g3, scs]
  | n + 1, k, e, h1, g0, g3, g4 => by
    have c : (k : Int) < (i : Int) := by omega
    have c' : k < i := by omega
    have ga := scs_get xs i hi
    have gb := scs_get xs k (by omega)
    have ck : (k : Int) < (xs.length : Int) := by omega
    have ci : (i : Int) < (xs.length : Int) := by omega
    have ck' : k < xs.length := by omega
    have hp : sameT xs (xs.getD i ([], 0)).1 k = decide ((xs.getD k ([], 0)).1 = (xs.getD i ([], 0)).1) := rfl
    have w1 : IntKind.i64.wrap ((k : Int) + 1) = ((k + 1 : Nat) : Int) := by rw [IntWalk.i64_in _ (by omega)]; rfl
    have ih := l_58i n0 xs hx i hi H n (k + 1)
    simp only [anyF]
    rw [hp]
    generalize anyF (sameT xs (xs.getD i ([], 0)).1) n (k + 1) = S at *
    generalize (xs.getD i ([], 0)) = x at *
    generalize (xs.getD k ([], 0)) = y at *
    rw [evLoop_eq]
    generalize evLoop (evCode (ev R) R.glob n0 evLoop f58l0) [0, 3, 4] = F at ih ⊢
    by_cases hb : y.1 = x.1
    · simp only [hb, decide_true, Bool.true_or, cond_true]
      refine ⟨?_, ?_, ?_, ?_⟩
      rotate_left
      · simp [evH, -List.getD_eq_getElem?_getD, -List.map_map, f58l0, g0, g3, g4, scs, c, c', ck, ci, ck', hi, ga, gb, hb]
        try rfl
      · intro _; simp [evH, -List.getD_eq_getElem?_getD, -List.map_map]
      · intro h; simp at h
    · simp only [hb, decide_false, Bool.false_or]
      simp [evH, -List.getD_eq_getElem?_getD, -List.map_map, f58l0, g0, g3, g4, scs, c, c', ck, ci, ck', hi, ga, gb, hb, w1]
      refine ih _ (by omega) ?_ ?_ ?_ <;> (first | rfl | exact g3)
def scoresV (xs : List Sc) : Bool := !anyF (badSc xs) xs.length 0 && decide (xs.length ≤ 16)
theorem l_58 (n0 : Nat) (xs : List Sc) (hx : xs.length ≤ 9223372036854775807) (H : Hp) : ∀ (n i : Nat) (e : Env), i + n = xs.length → e.get 0 = .d (scs xs) → e.get 3 = .d (.int .i64 i) →
    ∃ e', evLoop (evCode (ev R) R.glob n0 evLoop f58l1) [0, 3] ⟨e, H⟩ = some ((bif anyF (badSc xs) n i then .ret else .exit 0), ⟨e', H⟩) ∧
      (anyF (badSc xs) n i = true → e'.get 2 = .d (.bool false)) ∧ (anyF (badSc xs) n i = false → e'.get 0 = .d (scs xs))
  | 0, i, e, h1, g0, g3 => by
    have c : ¬ (i : Int) < (xs.length : Int) := by omega
    have c' : ¬ i < xs.length := by omega
    rw [evLoop_eq]
    simp only [anyF]
    refine ⟨?_, ?_, ?_, ?_⟩
    rotate_left
    · simp [evH, -List.getD_eq_getElem?_getD, -List.map_map, f58l1, g0, g3, scs, c, c']
      try rfl
    · intro h; simp at h
    · intro _; simp [evH, -List.getD_eq_getElem?_getD, -List.map_map, g0, scs]
  | n + 1, i, e, h1, g0, g3 => by
    have c' : i < xs.length := by omega
    have ga := scs_get xs i c'
    have gb := scs_get xs (i - 1) (by omega)
    have hp : badSc xs i = (decide (40 < (xs.getD i ([], 0)).1.length) || !(decide ((xs.getD i ([], 0)).2 ≥ -1000000000) && decide ((xs.getD i ([], 0)).2 ≤ 1000000000)) || (decide (0 < i) && !aheadV (xs.getD (i - 1) ([], 0)).1 (xs.getD i ([], 0)).1 (xs.getD (i - 1) ([], 0)).2 (xs.getD i ([], 0)).2) || anyF (sameT xs (xs.getD i ([], 0)).1) i 0) := rfl
    have sn := scAt_ne xs i c'
    have q30 := p_32 (xs.getD i ([], 0)).2 (-1000000000) 1000000000
    have q99 := pureCall_eq (cl := ev R) fun H => e_87 H (xs.getD i ([], 0)).2
    have q98 := pureCall_eq (cl := ev R) fun H => e_84 H (xs.getD (i - 1) ([], 0)).1 (xs.getD i ([], 0)).1 (xs.getD (i - 1) ([], 0)).2 (xs.getD i ([], 0)).2
    have q100 := pureCall_eq (cl := ev R) fun H => e_88 H (xs.getD (i - 1) ([], 0)).1 (xs.getD i ([], 0)).1 (xs.getD (i - 1) ([], 0)).2 (xs.getD i ([], 0)).2
    have oa := order_ahead (xs.getD (i - 1) ([], 0)).1 (xs.getD i ([], 0)).1 (xs.getD (i - 1) ([], 0)).2 (xs.getD i ([], 0)).2
    have q101 := pureCall_eq (cl := ev R) fun H => e_89 H xs hx (xs.getD i ([], 0)).1
    simp only [scs] at q101
    obtain ⟨ei, hin, hi2, hi3⟩ := l_58i n0 xs hx i c' H i 0 [(0, .d (scs xs)), (3, .d (.int .i64 i)), (4, .d (.int .i64 0))] (by omega) rfl rfl rfl
    simp only [scs] at hin hi3
    obtain ⟨I, hI⟩ : ∃ I : Int, (i : Int) = I := ⟨_, rfl⟩
    obtain ⟨I2, hI2⟩ : ∃ I : Int, ((i + 1 : Nat) : Int) = I := ⟨_, rfl⟩
    obtain ⟨J, hJ⟩ : ∃ I : Int, ((i - 1 : Nat) : Int) = I := ⟨_, rfl⟩
    have w1 : IntKind.i64.wrap (I + 1) = I2 := by rw [IntWalk.i64_in _ (by omega)]; omega
    have c : I < (xs.length : Int) := by omega
    have cj : J < (xs.length : Int) := by omega
    have p0 : 0 ≤ I := by omega
    have pj : 0 ≤ J := by omega
    have t0 : I.toNat = i := by omega
    have tj : J.toNat = i - 1 := by omega
    have hk : i + 1 + n = xs.length := by omega
    have w0 : 0 < i → IntKind.i64.wrap (I - 1) = J := fun _ => by rw [IntWalk.i64_in _ (by omega)]; omega
    have z0 : 0 < i → 0 < I := fun _ => by omega
    have z1 : ¬ 0 < i → ¬ 0 < I := fun _ => by omega
    have ih := l_58 n0 xs hx H n (i + 1)
    rw [hI] at g3 sn hin hi3
    rw [hI2] at ih
    simp only [anyF]
    generalize badSc xs i = b at *
    generalize anyF (badSc xs) n (i + 1) = S at *
    generalize anyF (sameT xs (xs.getD i ([], 0)).1) i 0 = tw at *
    generalize xs.getD i ([], 0) = x at *
    generalize xs.getD (i - 1) ([], 0) = y at *
    obtain ⟨x1, x2⟩ := x
    obtain ⟨y1, y2⟩ := y
    simp only at *
    generalize aheadV y1 x1 y2 x2 = ah at *
    generalize orV (cmpI y2 x2) (cmpS y1 x1) = od at *
    generalize scAt xs x1 = sa at *
    rw [evLoop_eq]
    generalize evLoop (evCode (ev R) R.glob n0 evLoop f58l1) [0, 3] = F at ih ⊢
    by_cases k1 : 40 < x1.length
    · have k1' : (40 : Int) < (x1.length : Int) := by omega
      simp only [k1, decide_true, Bool.true_or] at hp
      subst hp
      simp only [Bool.true_or, cond_true]
      refine ⟨?_, ?_, ?_, ?_⟩
      rotate_left
      · simp [evH, -List.getD_eq_getElem?_getD, -List.map_map, f58l1, g0, g3, scs, c, cj, p0, pj, t0, tj, ga, gb, q30, q99, q98, q100, q101, k1, k1']
        try rfl
      · intro _; simp [evH, -List.getD_eq_getElem?_getD, -List.map_map]
      · intro h; simp at h
    · have k1' : ¬ (40 : Int) < (x1.length : Int) := by omega
      cases k2 : (decide (x2 ≥ -1000000000) && decide (x2 ≤ 1000000000)) with
      | false =>
        rw [k2] at q30 q99
        simp only [k1, k2, decide_false, Bool.false_or, Bool.not_false, Bool.true_or] at hp
        subst hp
        simp only [Bool.true_or, cond_true]
        refine ⟨?_, ?_, ?_, ?_⟩
        rotate_left
        · simp [evH, -List.getD_eq_getElem?_getD, -List.map_map, f58l1, g0, g3, scs, c, cj, p0, pj, t0, tj, ga, gb, q30, q99, q98, q100, q101, k1, k1']
          try rfl
        · intro _; simp [evH, -List.getD_eq_getElem?_getD, -List.map_map]
        · intro h; simp at h
      | true =>
        rw [k2] at q30 q99
        by_cases k3 : 0 < i
        · have w0 := w0 k3
          have z0 := z0 k3
          cases ah with
          | false =>
            have od1 : 0 ≤ od := by simpa using oa
            have od2 : ¬ od < 0 := by omega
            simp only [k1, k2, k3, decide_true, decide_false, Bool.false_or, Bool.not_true, Bool.not_false, Bool.true_and, Bool.true_or] at hp
            subst hp
            simp only [Bool.true_or, cond_true]
            refine ⟨?_, ?_, ?_, ?_⟩
            rotate_left
            · simp [evH, -List.getD_eq_getElem?_getD, -List.map_map, f58l1, g0, g3, scs, c, cj, p0, pj, t0, tj, ga, gb, q30, q99, q98, q100, q101, k1, k1', z0, w0, od1, od2]
              try rfl
            · intro _; simp [evH, -List.getD_eq_getElem?_getD, -List.map_map]
            · intro h; simp at h
          | true =>
            have od1 : ¬ 0 ≤ od := by simpa using oa
            have od2 : od < 0 := by omega
            cases tw with
            | true =>
              simp only [cond_true] at hin
              have hi2 := hi2 rfl
              simp only [k1, k2, k3, decide_true, decide_false, Bool.false_or, Bool.not_true, Bool.true_and, Bool.or_true] at hp
              subst hp
              simp only [Bool.true_or, cond_true]
              refine ⟨?_, ?_, ?_, ?_⟩
              rotate_left
              · simp [evH, -List.getD_eq_getElem?_getD, -List.map_map, f58l1, g0, g3, scs, c, cj, p0, pj, t0, tj, ga, gb, q30, q99, q98, q100, q101, k1, k1', z0, w0, od1, od2, hin]
                try rfl
              · intro _; simp [evH, -List.getD_eq_getElem?_getD, -List.map_map, hi2]
              · intro h; simp at h
            | false =>
              simp only [cond_false] at hin
              obtain ⟨hi3, hi4⟩ := hi3 rfl
              simp only [k1, k2, k3, decide_true, decide_false, Bool.false_or, Bool.not_true, Bool.true_and, Bool.or_false] at hp
              subst hp
              simp only [Bool.false_or]
              simp [evH, -List.getD_eq_getElem?_getD, -List.map_map, f58l1, g0, g3, scs, c, cj, p0, pj, t0, tj, ga, gb, q30, q99, q98, q100, q101, w1, k1, k1', z0, w0, od1, od2, hin, hi3, hi4]
              refine ih _ hk ?_ ?_ <;> (first | rfl | assumption)
        · have z1 := z1 k3
          cases tw with
          | true =>
            simp only [cond_true] at hin
            have hi2 := hi2 rfl
            simp only [k1, k2, k3, decide_false, Bool.false_or, Bool.not_true, Bool.false_and, Bool.or_true] at hp
            subst hp
            simp only [Bool.true_or, cond_true]
            refine ⟨?_, ?_, ?_, ?_⟩
            rotate_left
            · simp [evH, -List.getD_eq_getElem?_getD, -List.map_map, f58l1, g0, g3, scs, c, cj, p0, pj, t0, tj, ga, gb, q30, q99, q98, q100, q101, k1, k1', z1, hin]
              try rfl
            · intro _; simp [evH, -List.getD_eq_getElem?_getD, -List.map_map, hi2]
            · intro h; simp at h
          | false =>
            simp only [cond_false] at hin
            obtain ⟨hi3, hi4⟩ := hi3 rfl
            simp only [k1, k2, k3, decide_false, Bool.false_or, Bool.not_true, Bool.false_and, Bool.or_false] at hp
            subst hp
            simp only [Bool.false_or]
            simp [evH, -List.getD_eq_getElem?_getD, -List.map_map, f58l1, g0, g3, scs, c, cj, p0, pj, t0, tj, ga, gb, q30, q99, q98, q100, q101, w1, k1, k1', z1, hin, hi3, hi4]
            refine ih _ hk ?_ ?_ <;> (first | rfl | assumption)
theorem e_58 (H : Hp) (xs : List Sc) (hx : xs.length ≤ 9223372036854775807) : ev R 58 [.d (scs xs)] H = some (.d (.bool (scoresV xs)), H) := by
  refine ev_fn (fn := f58) rfl rfl ?_
  obtain ⟨e', he, h1, h2⟩ := l_58 (hlen H) xs hx H xs.length 0 [(0, .d (scs xs)), (3, .d (.int .i64 0))] (by omega) rfl rfl
  unfold scoresV
  simp only [scs] at he h2
  cases hb : anyF (badSc xs) xs.length 0 with
  | true =>
    have h1 := h1 hb
    simp only [hb, cond_true] at he
    simp [evH, -List.getD_eq_getElem?_getD, -List.map_map, f58, scs, he, h1]
  | false =>
    have h2 := h2 hb
    simp only [hb, cond_false] at he
    by_cases hl : xs.length ≤ 16
    · have hl' : (xs.length : Int) ≤ 16 := by omega
      simp [evH, -List.getD_eq_getElem?_getD, -List.map_map, f58, scs, he, h2, hl, hl']
    · have hl' : ¬ (xs.length : Int) ≤ 16 := by omega
      simp [evH, -List.getD_eq_getElem?_getD, -List.map_map, f58, scs, he, h2, hl, hl']
theorem l_67 (n0 : Nat) (xs : List Sc) (hx : xs.length ≤ 9223372036854775807) (H : Hp) : ∀ (n i : Nat) (X : Hp) (e : Env), i + n = xs.length → htake X (hlen H) = H → hlen H ≤ hlen X → e.get 0 = .d (scs xs) → e.get 5 = .d (scs xs) → e.get 6 = .d (.int .i64 xs.length) → e.get 7 = .d (.int .i64 i) →
    ∃ e' X', evLoop (evCode (ev R) R.glob n0 evLoop f67l0) [0, 5, 6, 7] ⟨e, X⟩ = some ((bif anyF (badSc xs) n i then .ret else .exit 0), ⟨e', X'⟩) ∧
      (anyF (badSc xs) n i = true → e'.get 2 = .d (.bool false)) ∧ (anyF (badSc xs) n i = false → e'.get 0 = .d (scs xs)) ∧ htake X' (hlen H) = H
  | 0, i, X, e, h1, hx1, hx2, g0, g5, g6, g3 => by
    have c : ¬ (i : Int) < (xs.length : Int) := by omega
    have c' : ¬ i < xs.length := by omega
    rw [evLoop_eq]
    simp only [anyF]
    refine ⟨?_, X, ?_, ?_, ?_, ?_⟩
    rotate_left
    · simp [evH, -List.getD_eq_getElem?_getD, -List.map_map, f67l0, g0, g5, g6, g3, scs, c, c']
      try rfl
    · intro h; simp at h
    · intro _; simp [evH, -List.getD_eq_getElem?_getD, -List.map_map, g0, scs]
    · exact hx1
  | n + 1, i, X, e, h1, hx1, hx2, g0, g5, g6, g3 => by
    have c' : i < xs.length := by omega
    have ga := scs_get xs i c'
    have gb := scs_get xs (i - 1) (by omega)
    have hp : badSc xs i = (decide (40 < (xs.getD i ([], 0)).1.length) || !(decide ((xs.getD i ([], 0)).2 ≥ -1000000000) && decide ((xs.getD i ([], 0)).2 ≤ 1000000000)) || (decide (0 < i) && !aheadV (xs.getD (i - 1) ([], 0)).1 (xs.getD i ([], 0)).1 (xs.getD (i - 1) ([], 0)).2 (xs.getD i ([], 0)).2) || anyF (sameT xs (xs.getD i ([], 0)).1) i 0) := rfl
    have sn := scAt_ne xs i c'
    have q30 := p_32 (xs.getD i ([], 0)).2 (-1000000000) 1000000000
    have q99 := pureCall_eq (cl := ev R) fun H => e_87 H (xs.getD i ([], 0)).2
    have q98 := pureCall_eq (cl := ev R) fun H => e_84 H (xs.getD (i - 1) ([], 0)).1 (xs.getD i ([], 0)).1 (xs.getD (i - 1) ([], 0)).2 (xs.getD i ([], 0)).2
    have q100 := pureCall_eq (cl := ev R) fun H => e_88 H (xs.getD (i - 1) ([], 0)).1 (xs.getD i ([], 0)).1 (xs.getD (i - 1) ([], 0)).2 (xs.getD i ([], 0)).2
    have oa := order_ahead (xs.getD (i - 1) ([], 0)).1 (xs.getD i ([], 0)).1 (xs.getD (i - 1) ([], 0)).2 (xs.getD i ([], 0)).2
    have q101 := pureCall_eq (cl := ev R) fun H => e_89 H xs hx (xs.getD i ([], 0)).1
    simp only [scs] at q101
    skip
    obtain ⟨I, hI⟩ : ∃ I : Int, (i : Int) = I := ⟨_, rfl⟩
    obtain ⟨I2, hI2⟩ : ∃ I : Int, ((i + 1 : Nat) : Int) = I := ⟨_, rfl⟩
    obtain ⟨J, hJ⟩ : ∃ I : Int, ((i - 1 : Nat) : Int) = I := ⟨_, rfl⟩
    have w1 : IntKind.i64.wrap (I + 1) = I2 := by rw [IntWalk.i64_in _ (by omega)]; omega
    have c : I < (xs.length : Int) := by omega
    have cj : J < (xs.length : Int) := by omega
    have p0 : 0 ≤ I := by omega
    have pj : 0 ≤ J := by omega
    have t0 : I.toNat = i := by omega
    have tj : J.toNat = i - 1 := by omega
    have hk : i + 1 + n = xs.length := by omega
    have w0 : 0 < i → IntKind.i64.wrap (I - 1) = J := fun _ => by rw [IntWalk.i64_in _ (by omega)]; omega
    have z0 : 0 < i → 0 < I := fun _ => by omega
    have z1 : ¬ 0 < i → ¬ 0 < I := fun _ => by omega
    have ga' : ∀ z : D, hstore (hpush X (.row 0 2 [.d (.agg [.str [], .int .i64 0])])) (hlen X) 0 0 0 [.d (.str (xs.getD i ([], 0)).1), .d (.int .i64 (xs.getD i ([], 0)).2)] = some (hpush X (.row 0 2 [.d (.agg [.str (xs.getD i ([], 0)).1, .int .i64 (xs.getD i ([], 0)).2])])) := fun _ => by
      simp [hstore, rowOf_self, V.cells, D.cells, reCell, V.isAgg, mkAgg, allD, hset_push]
    have st := ga' .nilp
    have ld0 : hload (hpush X (.row 0 2 [.d (.agg [.str (xs.getD i ([], 0)).1, .int .i64 (xs.getD i ([], 0)).2])])) (hlen X) 0 0 0 1 = some [.d (.str (xs.getD i ([], 0)).1)] := by simp [hload, rowOf_self, V.cells, D.cells]
    have ld1 : hload (hpush X (.row 0 2 [.d (.agg [.str (xs.getD i ([], 0)).1, .int .i64 (xs.getD i ([], 0)).2])])) (hlen X) 0 0 1 1 = some [.d (.int .i64 (xs.getD i ([], 0)).2)] := by simp [hload, rowOf_self, V.cells, D.cells]
    have ld2 : hload (hpush X (.row 0 2 [.d (.agg [.str (xs.getD i ([], 0)).1, .int .i64 (xs.getD i ([], 0)).2])])) (hlen X) 0 0 0 2 = some [.d (.str (xs.getD i ([], 0)).1), .d (.int .i64 (xs.getD i ([], 0)).2)] := by simp [hload, rowOf_self, V.cells, D.cells]
    have tk : htake (hpush X (.row 0 2 [.d (.agg [.str (xs.getD i ([], 0)).1, .int .i64 (xs.getD i ([], 0)).2])])) (hlen H) = H := by rw [htake_lt _ hx2]; exact hx1
    have lk : hlen H ≤ hlen (hpush X (.row 0 2 [.d (.agg [.str (xs.getD i ([], 0)).1, .int .i64 (xs.getD i ([], 0)).2])])) := by rw [hlen_hpush]; omega
    have ih := l_67 n0 xs hx H n (i + 1) (hpush X (.row 0 2 [.d (.agg [.str (xs.getD i ([], 0)).1, .int .i64 (xs.getD i ([], 0)).2])]))
    generalize hpush X (.row 0 2 [.d (.agg [.str (xs.getD i ([], 0)).1, .int .i64 (xs.getD i ([], 0)).2])]) = Y at *
    rw [hI] at g3 sn
    rw [hI2] at ih
    simp only [anyF]
    generalize badSc xs i = b at *
    generalize anyF (badSc xs) n (i + 1) = S at *
    generalize anyF (sameT xs (xs.getD i ([], 0)).1) i 0 = tw at *
    generalize xs.getD i ([], 0) = x at *
    generalize xs.getD (i - 1) ([], 0) = y at *
    obtain ⟨x1, x2⟩ := x
    obtain ⟨y1, y2⟩ := y
    simp only at *
    generalize aheadV y1 x1 y2 x2 = ah at *
    generalize orV (cmpI y2 x2) (cmpS y1 x1) = od at *
    generalize scAt xs x1 = sa at *
    rw [evLoop_eq]
    generalize evLoop (evCode (ev R) R.glob n0 evLoop f67l0) [0, 5, 6, 7] = F at ih ⊢
    by_cases k1 : 40 < x1.length
    · have k1' : (40 : Int) < (x1.length : Int) := by omega
      simp only [k1, decide_true, Bool.true_or] at hp
      subst hp
      simp only [Bool.true_or, cond_true]
      refine ⟨?_, Y, ?_, ?_, ?_, ?_⟩
      rotate_left
      · simp [evH, -List.getD_eq_getElem?_getD, -List.map_map, f67l0, g0, g5, g6, g3, scs, c, cj, p0, pj, t0, tj, ga, gb, st, ld0, ld1, ld2, q30, q99, q98, q100, q101, k1, k1']
        try rfl
      · intro _; simp [evH, -List.getD_eq_getElem?_getD, -List.map_map]
      · intro h; simp at h
      · exact tk
    · have k1' : ¬ (40 : Int) < (x1.length : Int) := by omega
      cases k2 : (decide (x2 ≥ -1000000000) && decide (x2 ≤ 1000000000)) with
      | false =>
        rw [k2] at q30 q99
        simp only [k1, k2, decide_false, Bool.false_or, Bool.not_false, Bool.true_or] at hp
        subst hp
        simp only [Bool.true_or, cond_true]
        refine ⟨?_, Y, ?_, ?_, ?_, ?_⟩
        rotate_left
        · simp [evH, -List.getD_eq_getElem?_getD, -List.map_map, f67l0, g0, g5, g6, g3, scs, c, cj, p0, pj, t0, tj, ga, gb, st, ld0, ld1, ld2, q30, q99, q98, q100, q101, k1, k1']
          try rfl
        · intro _; simp [evH, -List.getD_eq_getElem?_getD, -List.map_map]
        · intro h; simp at h
        · exact tk
      | true =>
        rw [k2] at q30 q99
        by_cases k3 : 0 < i
        · have w0 := w0 k3
          have z0 := z0 k3
          cases ah with
          | false =>
            have od1 : 0 ≤ od := by simpa using oa
            have od2 : ¬ od < 0 := by omega
            simp only [k1, k2, k3, decide_true, decide_false, Bool.false_or, Bool.not_true, Bool.not_false, Bool.true_and, Bool.true_or] at hp
            subst hp
            simp only [Bool.true_or, cond_true]
            refine ⟨?_, Y, ?_, ?_, ?_, ?_⟩
            rotate_left
            · simp [evH, -List.getD_eq_getElem?_getD, -List.map_map, f67l0, g0, g5, g6, g3, scs, c, cj, p0, pj, t0, tj, ga, gb, st, ld0, ld1, ld2, q30, q99, q98, q100, q101, k1, k1', z0, w0, od1, od2]
              try rfl
            · intro _; simp [evH, -List.getD_eq_getElem?_getD, -List.map_map]
            · intro h; simp at h
            · exact tk
          | true =>
            have od1 : ¬ 0 ≤ od := by simpa using oa
            have od2 : od < 0 := by omega
            cases tw with
            | true =>
              have sn : ¬ sa = I := by simpa using sn
              simp only [k1, k2, k3, decide_true, decide_false, Bool.false_or, Bool.not_true, Bool.true_and, Bool.or_true] at hp
              subst hp
              simp only [Bool.true_or, cond_true]
              refine ⟨?_, Y, ?_, ?_, ?_, ?_⟩
              rotate_left
              · simp [evH, -List.getD_eq_getElem?_getD, -List.map_map, f67l0, g0, g5, g6, g3, scs, c, cj, p0, pj, t0, tj, ga, gb, st, ld0, ld1, ld2, q30, q99, q98, q100, q101, k1, k1', z0, w0, od1, od2, sn]
                try rfl
              · intro _; simp [evH, -List.getD_eq_getElem?_getD, -List.map_map]
              · intro h; simp at h
              · exact tk
            | false =>
              have sn : sa = I := by simpa using sn
              simp only [k1, k2, k3, decide_true, decide_false, Bool.false_or, Bool.not_true, Bool.true_and, Bool.or_false] at hp
              subst hp
              simp only [Bool.false_or]
              simp [evH, -List.getD_eq_getElem?_getD, -List.map_map, f67l0, g0, g5, g6, g3, scs, c, cj, p0, pj, t0, tj, ga, gb, st, ld0, ld1, ld2, q30, q99, q98, q100, q101, w1, k1, k1', z0, w0, od1, od2, sn]
              refine ih _ hk tk lk ?_ ?_ ?_ ?_ <;> (first | rfl | exact g6)
        · have z1 := z1 k3
          cases tw with
          | true =>
            have sn : ¬ sa = I := by simpa using sn
            simp only [k1, k2, k3, decide_false, Bool.false_or, Bool.not_true, Bool.false_and, Bool.or_true] at hp
            subst hp
            simp only [Bool.true_or, cond_true]
            refine ⟨?_, Y, ?_, ?_, ?_, ?_⟩
            rotate_left
            · simp [evH, -List.getD_eq_getElem?_getD, -List.map_map, f67l0, g0, g5, g6, g3, scs, c, cj, p0, pj, t0, tj, ga, gb, st, ld0, ld1, ld2, q30, q99, q98, q100, q101, k1, k1', z1, sn]
              try rfl
            · intro _; simp [evH, -List.getD_eq_getElem?_getD, -List.map_map]
            · intro h; simp at h
            · exact tk
          | false =>
            have sn : sa = I := by simpa using sn
            simp only [k1, k2, k3, decide_false, Bool.false_or, Bool.not_true, Bool.false_and, Bool.or_false] at hp
            subst hp
            simp only [Bool.false_or]
            simp [evH, -List.getD_eq_getElem?_getD, -List.map_map, f67l0, g0, g5, g6, g3, scs, c, cj, p0, pj, t0, tj, ga, gb, st, ld0, ld1, ld2, q30, q99, q98, q100, q101, w1, k1, k1', z1, sn]
            refine ih _ hk tk lk ?_ ?_ ?_ ?_ <;> (first | rfl | exact g6)
theorem e_67 (H : Hp) (xs : List Sc) (hx : xs.length ≤ 9223372036854775807) : ev R 67 [.d (scs xs)] H = some (.d (.bool (scoresV xs)), H) := by
  refine ev_fn (fn := f67) rfl rfl ?_
  obtain ⟨e', X', he, h1, h2, tk⟩ := l_67 (hlen H) xs hx H xs.length 0 H [(0, .d (scs xs)), (5, .d (scs xs)), (6, .d (.int .i64 xs.length)), (7, .d (.int .i64 0))] (by omega) (htake_self H) (Nat.le_refl _) rfl rfl rfl rfl
  unfold scoresV
  simp only [scs] at he h2
  cases hb : anyF (badSc xs) xs.length 0 with
  | true =>
    have h1 := h1 hb
    simp only [hb, cond_true] at he
    simp [evH, -List.getD_eq_getElem?_getD, -List.map_map, f67, scs, he, h1, tk]
  | false =>
    have h2 := h2 hb
    simp only [hb, cond_false] at he
    by_cases hl : xs.length ≤ 16
    · have hl' : (xs.length : Int) ≤ 16 := by omega
      simp [evH, -List.getD_eq_getElem?_getD, -List.map_map, f67, scs, he, h2, hl, hl', tk]
    · have hl' : ¬ (xs.length : Int) ≤ 16 := by omega
      simp [evH, -List.getD_eq_getElem?_getD, -List.map_map, f67, scs, he, h2, hl, hl', tk]
end Go.Proofs.YtjdmiodinhlchaaGreat.Code
/- Which entries may be: what the reference says, and what the code under test says. -/
namespace Go.Proofs.YtjdmiodinhlchaaGreat.Code
open Go Go.Ev Go.Proofs
set_option maxRecDepth 100000
set_option maxHeartbeats 2000000
set_option linter.unusedSimpArgs false
set_option linter.unusedVariables false
def keyV (s : Txt) : Bool := decide ((s.length : Int) ≥ 1) && decide ((s.length : Int) ≤ 12)
def tillV (n : Int) : Bool := decide (n ≥ 0) && decide (n ≤ 2000000)
def kindV (e : En) : Bool :=
  if e.kind = 1 then decide (e.text.length ≤ 40) && e.list.isEmpty && e.scores.isEmpty && e.fields.isEmpty
  else if e.kind = 2 then e.text.isEmpty && !e.list.isEmpty && okTexts e.list && e.scores.isEmpty && e.fields.isEmpty
  else if e.kind = 3 then e.text.isEmpty && !e.list.isEmpty && setV e.list && e.scores.isEmpty && e.fields.isEmpty
  else if e.kind = 4 then e.text.isEmpty && e.list.isEmpty && !e.scores.isEmpty && scoresV e.scores && e.fields.isEmpty
  else if e.kind = 5 then e.text.isEmpty && e.list.isEmpty && e.scores.isEmpty && !e.fields.isEmpty && fieldsV e.fields
  else false
def enOk (e : En) : Bool := keyV e.key && tillV e.till && kindV e
theorem e_31_no (H : Hp) (e : En) (hf : EnFit e) (hk : keyV e.key = false ∨ tillV e.till = false) : ev R 31 [.d (enD e)] H = some (.d (.bool (enOk e)), H) := by
  refine ev_fn (fn := f31) rfl rfl ?_
  have pk : pureCall (ev R) 55 [.d (.str e.key)] = some (.d (.bool (keyV e.key))) := pureCall_eq (cl := ev R) fun H => e_55 H e.key
  have pt : pureCall (ev R) 32 [.d (.int .i64 e.till), .d (.int .i64 0), .d (.int .i64 2000000)] = some (.d (.bool (tillV e.till))) := p_32 e.till 0 2000000
  have p80 := pureCall_eq (cl := ev R) fun H => e_56 H e.list hf.list
  have p81 := pureCall_eq (cl := ev R) fun H => e_57 H e.list hf.list
  have p82 := pureCall_eq (cl := ev R) fun H => e_58 H e.scores hf.scores
  have p83 := pureCall_eq (cl := ev R) fun H => e_59 H e.fields hf.fields
  have x0 : (e.text = []) = (e.text.isEmpty = true) := by simp
  have y1 : ((e.list.length : Int) = 0) = (e.list.isEmpty = true) := by cases e.list <;> simp <;> try omega
  have z1 : (0 < (e.list.length : Int)) = (e.list.isEmpty = false) := by cases e.list <;> simp <;> try omega
  have y2 : ((e.scores.length : Int) = 0) = (e.scores.isEmpty = true) := by cases e.scores <;> simp <;> try omega
  have z2 : (0 < (e.scores.length : Int)) = (e.scores.isEmpty = false) := by cases e.scores <;> simp <;> try omega
  have y3 : ((e.fields.length : Int) = 0) = (e.fields.isEmpty = true) := by cases e.fields <;> simp <;> try omega
  have z3 : (0 < (e.fields.length : Int)) = (e.fields.isEmpty = false) := by cases e.fields <;> simp <;> try omega
  have l1 : ((e.list.map D.str).length : Int) = (e.list.length : Int) := by simp
  have l2 : ((e.scores.map scD).length : Int) = (e.scores.length : Int) := by simp
  have l3 : ((e.fields.map prD).length : Int) = (e.fields.length : Int) := by simp
  have xl : ((e.text.length : Int) ≤ 40) = (decide (e.text.length ≤ 40) = true) := by simp; omega
  have ld : ∀ j n, hload (hpush H (.row 0 7 [.d (.agg [.str e.key, .int .i64 e.till, .int .i64 e.kind, .str e.text, txts e.list, scs e.scores, prs e.fields])])) (hlen H) 0 0 j n = if j + n ≤ 7 then some ((([.d (.str e.key), .d (.int .i64 e.till), .d (.int .i64 e.kind), .d (.str e.text), .d (txts e.list), .d (scs e.scores), .d (prs e.fields)] : List V).drop j).take n) else none := fun j n => by
    simp [hload, rowOf_self, V.cells, D.cells]
  have tk := htake_push H (.row 0 7 [.d (.agg [.str e.key, .int .i64 e.till, .int .i64 e.kind, .str e.text, txts e.list, scs e.scores, prs e.fields])])
  unfold enOk kindV
  unfold enD
  simp only [txts, scs, prs] at *
  obtain ⟨key, till, kind, text, list, scores, fields⟩ := e
  simp only at *
  generalize keyV key = KV at *
  generalize tillV till = TV at *
  obtain ⟨Y, eY⟩ : ∃ Y, hpush H (.row 0 7 [.d (.agg [.str key, .int .i64 till, .int .i64 kind, .str text, .vals 1 (list.map D.str), .vals 2 (scores.map scD), .vals 2 (fields.map prD)])]) = Y := ⟨_, rfl⟩
  rw [eY] at ld tk
  generalize list.map D.str = d1 at *
  generalize scores.map scD = d2 at *
  generalize fields.map prD = d3 at *
  generalize (list.length : Int) = n1 at *
  generalize (scores.length : Int) = n2 at *
  generalize (fields.length : Int) = n3 at *
  generalize okTexts list = P80 at *
  generalize setV list = P81 at *
  generalize scoresV scores = P82 at *
  generalize fieldsV fields = P83 at *
  generalize text.isEmpty = B0 at *
  generalize list.isEmpty = B1 at *
  generalize scores.isEmpty = B2 at *
  generalize fields.isEmpty = B3 at *
  generalize decide (text.length ≤ 40) = C at *
  cases KV with
  | false => simp [evH, -List.getD_eq_getElem?_getD, -List.map_map, f31, eY, pk, pt, ld, tk, l1, l2, l3, xl]
  | true =>
    cases TV with
    | false => simp [evH, -List.getD_eq_getElem?_getD, -List.map_map, f31, eY, pk, pt, ld, tk, l1, l2, l3, xl]
    | true => simp at hk
theorem e_31_k1 (H : Hp) (e : En) (hf : EnFit e) (hk : keyV e.key = true) (ht : tillV e.till = true) (hd : e.kind = 1) : ev R 31 [.d (enD e)] H = some (.d (.bool (enOk e)), H) := by
  refine ev_fn (fn := f31) rfl rfl ?_
  have pk : pureCall (ev R) 55 [.d (.str e.key)] = some (.d (.bool (keyV e.key))) := pureCall_eq (cl := ev R) fun H => e_55 H e.key
  have pt : pureCall (ev R) 32 [.d (.int .i64 e.till), .d (.int .i64 0), .d (.int .i64 2000000)] = some (.d (.bool (tillV e.till))) := p_32 e.till 0 2000000
  have p80 := pureCall_eq (cl := ev R) fun H => e_56 H e.list hf.list
  have p81 := pureCall_eq (cl := ev R) fun H => e_57 H e.list hf.list
  have p82 := pureCall_eq (cl := ev R) fun H => e_58 H e.scores hf.scores
  have p83 := pureCall_eq (cl := ev R) fun H => e_59 H e.fields hf.fields
  have x0 : (e.text = []) = (e.text.isEmpty = true) := by simp
  have y1 : ((e.list.length : Int) = 0) = (e.list.isEmpty = true) := by cases e.list <;> simp <;> try omega
  have z1 : (0 < (e.list.length : Int)) = (e.list.isEmpty = false) := by cases e.list <;> simp <;> try omega
  have y2 : ((e.scores.length : Int) = 0) = (e.scores.isEmpty = true) := by cases e.scores <;> simp <;> try omega
  have z2 : (0 < (e.scores.length : Int)) = (e.scores.isEmpty = false) := by cases e.scores <;> simp <;> try omega
  have y3 : ((e.fields.length : Int) = 0) = (e.fields.isEmpty = true) := by cases e.fields <;> simp <;> try omega
  have z3 : (0 < (e.fields.length : Int)) = (e.fields.isEmpty = false) := by cases e.fields <;> simp <;> try omega
  have l1 : ((e.list.map D.str).length : Int) = (e.list.length : Int) := by simp
  have l2 : ((e.scores.map scD).length : Int) = (e.scores.length : Int) := by simp
  have l3 : ((e.fields.map prD).length : Int) = (e.fields.length : Int) := by simp
  have xl : ((e.text.length : Int) ≤ 40) = (decide (e.text.length ≤ 40) = true) := by simp; omega
  have ld : ∀ j n, hload (hpush H (.row 0 7 [.d (.agg [.str e.key, .int .i64 e.till, .int .i64 e.kind, .str e.text, txts e.list, scs e.scores, prs e.fields])])) (hlen H) 0 0 j n = if j + n ≤ 7 then some ((([.d (.str e.key), .d (.int .i64 e.till), .d (.int .i64 e.kind), .d (.str e.text), .d (txts e.list), .d (scs e.scores), .d (prs e.fields)] : List V).drop j).take n) else none := fun j n => by
    simp [hload, rowOf_self, V.cells, D.cells]
  have tk := htake_push H (.row 0 7 [.d (.agg [.str e.key, .int .i64 e.till, .int .i64 e.kind, .str e.text, txts e.list, scs e.scores, prs e.fields])])
  unfold enOk kindV
  unfold enD
  simp only [txts, scs, prs] at *
  obtain ⟨key, till, kind, text, list, scores, fields⟩ := e
  simp only at *
  generalize keyV key = KV at *
  generalize tillV till = TV at *
  obtain ⟨Y, eY⟩ : ∃ Y, hpush H (.row 0 7 [.d (.agg [.str key, .int .i64 till, .int .i64 kind, .str text, .vals 1 (list.map D.str), .vals 2 (scores.map scD), .vals 2 (fields.map prD)])]) = Y := ⟨_, rfl⟩
  rw [eY] at ld tk
  generalize list.map D.str = d1 at *
  generalize scores.map scD = d2 at *
  generalize fields.map prD = d3 at *
  generalize (list.length : Int) = n1 at *
  generalize (scores.length : Int) = n2 at *
  generalize (fields.length : Int) = n3 at *
  generalize okTexts list = P80 at *
  generalize setV list = P81 at *
  generalize scoresV scores = P82 at *
  generalize fieldsV fields = P83 at *
  generalize text.isEmpty = B0 at *
  generalize list.isEmpty = B1 at *
  generalize scores.isEmpty = B2 at *
  generalize fields.isEmpty = B3 at *
  generalize decide (text.length ≤ 40) = C at *
  subst hk ht hd
  cases C with
  | false => simp [evH, -List.getD_eq_getElem?_getD, -List.map_map, f31, eY, pk, pt, ld, tk, l1, l2, l3, xl, x0, y1, z1, y2, z2, y3, z3, p80, p81, p82, p83]
  | true =>
    cases B1 with
    | false => simp [evH, -List.getD_eq_getElem?_getD, -List.map_map, f31, eY, pk, pt, ld, tk, l1, l2, l3, xl, x0, y1, z1, y2, z2, y3, z3, p80, p81, p82, p83]
    | true =>
      cases B2 with
      | false => simp [evH, -List.getD_eq_getElem?_getD, -List.map_map, f31, eY, pk, pt, ld, tk, l1, l2, l3, xl, x0, y1, z1, y2, z2, y3, z3, p80, p81, p82, p83]
      | true =>
        cases B3 with
        | false => simp [evH, -List.getD_eq_getElem?_getD, -List.map_map, f31, eY, pk, pt, ld, tk, l1, l2, l3, xl, x0, y1, z1, y2, z2, y3, z3, p80, p81, p82, p83]
        | true =>
          simp [evH, -List.getD_eq_getElem?_getD, -List.map_map, f31, eY, pk, pt, ld, tk, l1, l2, l3, xl, x0, y1, z1, y2, z2, y3, z3, p80, p81, p82, p83]
theorem e_31_k2 (H : Hp) (e : En) (hf : EnFit e) (hk : keyV e.key = true) (ht : tillV e.till = true) (hd : e.kind = 2) : ev R 31 [.d (enD e)] H = some (.d (.bool (enOk e)), H) := by
  refine ev_fn (fn := f31) rfl rfl ?_
  have pk : pureCall (ev R) 55 [.d (.str e.key)] = some (.d (.bool (keyV e.key))) := pureCall_eq (cl := ev R) fun H => e_55 H e.key
  have pt : pureCall (ev R) 32 [.d (.int .i64 e.till), .d (.int .i64 0), .d (.int .i64 2000000)] = some (.d (.bool (tillV e.till))) := p_32 e.till 0 2000000
  have p80 := pureCall_eq (cl := ev R) fun H => e_56 H e.list hf.list
  have p81 := pureCall_eq (cl := ev R) fun H => e_57 H e.list hf.list
  have p82 := pureCall_eq (cl := ev R) fun H => e_58 H e.scores hf.scores
  have p83 := pureCall_eq (cl := ev R) fun H => e_59 H e.fields hf.fields
  have x0 : (e.text = []) = (e.text.isEmpty = true) := by simp
  have y1 : ((e.list.length : Int) = 0) = (e.list.isEmpty = true) := by cases e.list <;> simp <;> try omega
  have z1 : (0 < (e.list.length : Int)) = (e.list.isEmpty = false) := by cases e.list <;> simp <;> try omega
  have y2 : ((e.scores.length : Int) = 0) = (e.scores.isEmpty = true) := by cases e.scores <;> simp <;> try omega
  have z2 : (0 < (e.scores.length : Int)) = (e.scores.isEmpty = false) := by cases e.scores <;> simp <;> try omega
  have y3 : ((e.fields.length : Int) = 0) = (e.fields.isEmpty = true) := by cases e.fields <;> simp <;> try omega
  have z3 : (0 < (e.fields.length : Int)) = (e.fields.isEmpty = false) := by cases e.fields <;> simp <;> try omega
  have l1 : ((e.list.map D.str).length : Int) = (e.list.length : Int) := by simp
  have l2 : ((e.scores.map scD).length : Int) = (e.scores.length : Int) := by simp
  have l3 : ((e.fields.map prD).length : Int) = (e.fields.length : Int) := by simp
  have xl : ((e.text.length : Int) ≤ 40) = (decide (e.text.length ≤ 40) = true) := by simp; omega
  have ld : ∀ j n, hload (hpush H (.row 0 7 [.d (.agg [.str e.key, .int .i64 e.till, .int .i64 e.kind, .str e.text, txts e.list, scs e.scores, prs e.fields])])) (hlen H) 0 0 j n = if j + n ≤ 7 then some ((([.d (.str e.key), .d (.int .i64 e.till), .d (.int .i64 e.kind), .d (.str e.text), .d (txts e.list), .d (scs e.scores), .d (prs e.fields)] : List V).drop j).take n) else none := fun j n => by
    simp [hload, rowOf_self, V.cells, D.cells]
  have tk := htake_push H (.row 0 7 [.d (.agg [.str e.key, .int .i64 e.till, .int .i64 e.kind, .str e.text, txts e.list, scs e.scores, prs e.fields])])
  unfold enOk kindV
  unfold enD
  simp only [txts, scs, prs] at *
  obtain ⟨key, till, kind, text, list, scores, fields⟩ := e
  simp only at *
  generalize keyV key = KV at *
  generalize tillV till = TV at *
  obtain ⟨Y, eY⟩ : ∃ Y, hpush H (.row 0 7 [.d (.agg [.str key, .int .i64 till, .int .i64 kind, .str text, .vals 1 (list.map D.str), .vals 2 (scores.map scD), .vals 2 (fields.map prD)])]) = Y := ⟨_, rfl⟩
  rw [eY] at ld tk
  generalize list.map D.str = d1 at *
  generalize scores.map scD = d2 at *
  generalize fields.map prD = d3 at *
  generalize (list.length : Int) = n1 at *
  generalize (scores.length : Int) = n2 at *
  generalize (fields.length : Int) = n3 at *
  generalize okTexts list = P80 at *
  generalize setV list = P81 at *
  generalize scoresV scores = P82 at *
  generalize fieldsV fields = P83 at *
  generalize text.isEmpty = B0 at *
  generalize list.isEmpty = B1 at *
  generalize scores.isEmpty = B2 at *
  generalize fields.isEmpty = B3 at *
  generalize decide (text.length ≤ 40) = C at *
  subst hk ht hd
  cases B0 with
  | false => simp [evH, -List.getD_eq_getElem?_getD, -List.map_map, f31, eY, pk, pt, ld, tk, l1, l2, l3, xl, x0, y1, z1, y2, z2, y3, z3, p80, p81, p82, p83]
  | true =>
    cases B1 with
    | true => simp [evH, -List.getD_eq_getElem?_getD, -List.map_map, f31, eY, pk, pt, ld, tk, l1, l2, l3, xl, x0, y1, z1, y2, z2, y3, z3, p80, p81, p82, p83]
    | false =>
      cases P80 with
      | false => simp [evH, -List.getD_eq_getElem?_getD, -List.map_map, f31, eY, pk, pt, ld, tk, l1, l2, l3, xl, x0, y1, z1, y2, z2, y3, z3, p80, p81, p82, p83]
      | true =>
        cases B2 with
        | false => simp [evH, -List.getD_eq_getElem?_getD, -List.map_map, f31, eY, pk, pt, ld, tk, l1, l2, l3, xl, x0, y1, z1, y2, z2, y3, z3, p80, p81, p82, p83]
        | true =>
          cases B3 with
          | false => simp [evH, -List.getD_eq_getElem?_getD, -List.map_map, f31, eY, pk, pt, ld, tk, l1, l2, l3, xl, x0, y1, z1, y2, z2, y3, z3, p80, p81, p82, p83]
          | true =>
            simp [evH, -List.getD_eq_getElem?_getD, -List.map_map, f31, eY, pk, pt, ld, tk, l1, l2, l3, xl, x0, y1, z1, y2, z2, y3, z3, p80, p81, p82, p83]
theorem e_31_k3 (H : Hp) (e : En) (hf : EnFit e) (hk : keyV e.key = true) (ht : tillV e.till = true) (hd : e.kind = 3) : ev R 31 [.d (enD e)] H = some (.d (.bool (enOk e)), H) := by
  refine ev_fn (fn := f31) rfl rfl ?_
  have pk : pureCall (ev R) 55 [.d (.str e.key)] = some (.d (.bool (keyV e.key))) := pureCall_eq (cl := ev R) fun H => e_55 H e.key
  have pt : pureCall (ev R) 32 [.d (.int .i64 e.till), .d (.int .i64 0), .d (.int .i64 2000000)] = some (.d (.bool (tillV e.till))) := p_32 e.till 0 2000000
  have p80 := pureCall_eq (cl := ev R) fun H => e_56 H e.list hf.list
  have p81 := pureCall_eq (cl := ev R) fun H => e_57 H e.list hf.list
  have p82 := pureCall_eq (cl := ev R) fun H => e_58 H e.scores hf.scores
  have p83 := pureCall_eq (cl := ev R) fun H => e_59 H e.fields hf.fields
  have x0 : (e.text = []) = (e.text.isEmpty = true) := by simp
  have y1 : ((e.list.length : Int) = 0) = (e.list.isEmpty = true) := by cases e.list <;> simp <;> try omega
  have z1 : (0 < (e.list.length : Int)) = (e.list.isEmpty = false) := by cases e.list <;> simp <;> try omega
  have y2 : ((e.scores.length : Int) = 0) = (e.scores.isEmpty = true) := by cases e.scores <;> simp <;> try omega
  have z2 : (0 < (e.scores.length : Int)) = (e.scores.isEmpty = false) := by cases e.scores <;> simp <;> try omega
  have y3 : ((e.fields.length : Int) = 0) = (e.fields.isEmpty = true) := by cases e.fields <;> simp <;> try omega
  have z3 : (0 < (e.fields.length : Int)) = (e.fields.isEmpty = false) := by cases e.fields <;> simp <;> try omega
  have l1 : ((e.list.map D.str).length : Int) = (e.list.length : Int) := by simp
  have l2 : ((e.scores.map scD).length : Int) = (e.scores.length : Int) := by simp
  have l3 : ((e.fields.map prD).length : Int) = (e.fields.length : Int) := by simp
  have xl : ((e.text.length : Int) ≤ 40) = (decide (e.text.length ≤ 40) = true) := by simp; omega
  have ld : ∀ j n, hload (hpush H (.row 0 7 [.d (.agg [.str e.key, .int .i64 e.till, .int .i64 e.kind, .str e.text, txts e.list, scs e.scores, prs e.fields])])) (hlen H) 0 0 j n = if j + n ≤ 7 then some ((([.d (.str e.key), .d (.int .i64 e.till), .d (.int .i64 e.kind), .d (.str e.text), .d (txts e.list), .d (scs e.scores), .d (prs e.fields)] : List V).drop j).take n) else none := fun j n => by
    simp [hload, rowOf_self, V.cells, D.cells]
  have tk := htake_push H (.row 0 7 [.d (.agg [.str e.key, .int .i64 e.till, .int .i64 e.kind, .str e.text, txts e.list, scs e.scores, prs e.fields])])
  unfold enOk kindV
  unfold enD
  simp only [txts, scs, prs] at *
  obtain ⟨key, till, kind, text, list, scores, fields⟩ := e
  simp only at *
  generalize keyV key = KV at *
  generalize tillV till = TV at *
  obtain ⟨Y, eY⟩ : ∃ Y, hpush H (.row 0 7 [.d (.agg [.str key, .int .i64 till, .int .i64 kind, .str text, .vals 1 (list.map D.str), .vals 2 (scores.map scD), .vals 2 (fields.map prD)])]) = Y := ⟨_, rfl⟩
  rw [eY] at ld tk
  generalize list.map D.str = d1 at *
  generalize scores.map scD = d2 at *
  generalize fields.map prD = d3 at *
  generalize (list.length : Int) = n1 at *
  generalize (scores.length : Int) = n2 at *
  generalize (fields.length : Int) = n3 at *
  generalize okTexts list = P80 at *
  generalize setV list = P81 at *
  generalize scoresV scores = P82 at *
  generalize fieldsV fields = P83 at *
  generalize text.isEmpty = B0 at *
  generalize list.isEmpty = B1 at *
  generalize scores.isEmpty = B2 at *
  generalize fields.isEmpty = B3 at *
  generalize decide (text.length ≤ 40) = C at *
  subst hk ht hd
  cases B0 with
  | false => simp [evH, -List.getD_eq_getElem?_getD, -List.map_map, f31, eY, pk, pt, ld, tk, l1, l2, l3, xl, x0, y1, z1, y2, z2, y3, z3, p80, p81, p82, p83]
  | true =>
    cases B1 with
    | true => simp [evH, -List.getD_eq_getElem?_getD, -List.map_map, f31, eY, pk, pt, ld, tk, l1, l2, l3, xl, x0, y1, z1, y2, z2, y3, z3, p80, p81, p82, p83]
    | false =>
      cases P81 with
      | false => simp [evH, -List.getD_eq_getElem?_getD, -List.map_map, f31, eY, pk, pt, ld, tk, l1, l2, l3, xl, x0, y1, z1, y2, z2, y3, z3, p80, p81, p82, p83]
      | true =>
        cases B2 with
        | false => simp [evH, -List.getD_eq_getElem?_getD, -List.map_map, f31, eY, pk, pt, ld, tk, l1, l2, l3, xl, x0, y1, z1, y2, z2, y3, z3, p80, p81, p82, p83]
        | true =>
          cases B3 with
          | false => simp [evH, -List.getD_eq_getElem?_getD, -List.map_map, f31, eY, pk, pt, ld, tk, l1, l2, l3, xl, x0, y1, z1, y2, z2, y3, z3, p80, p81, p82, p83]
          | true =>
            simp [evH, -List.getD_eq_getElem?_getD, -List.map_map, f31, eY, pk, pt, ld, tk, l1, l2, l3, xl, x0, y1, z1, y2, z2, y3, z3, p80, p81, p82, p83]
theorem e_31_k4 (H : Hp) (e : En) (hf : EnFit e) (hk : keyV e.key = true) (ht : tillV e.till = true) (hd : e.kind = 4) : ev R 31 [.d (enD e)] H = some (.d (.bool (enOk e)), H) := by
  refine ev_fn (fn := f31) rfl rfl ?_
  have pk : pureCall (ev R) 55 [.d (.str e.key)] = some (.d (.bool (keyV e.key))) := pureCall_eq (cl := ev R) fun H => e_55 H e.key
  have pt : pureCall (ev R) 32 [.d (.int .i64 e.till), .d (.int .i64 0), .d (.int .i64 2000000)] = some (.d (.bool (tillV e.till))) := p_32 e.till 0 2000000
  have p80 := pureCall_eq (cl := ev R) fun H => e_56 H e.list hf.list
  have p81 := pureCall_eq (cl := ev R) fun H => e_57 H e.list hf.list
  have p82 := pureCall_eq (cl := ev R) fun H => e_58 H e.scores hf.scores
  have p83 := pureCall_eq (cl := ev R) fun H => e_59 H e.fields hf.fields
  have x0 : (e.text = []) = (e.text.isEmpty = true) := by simp
  have y1 : ((e.list.length : Int) = 0) = (e.list.isEmpty = true) := by cases e.list <;> simp <;> try omega
  have z1 : (0 < (e.list.length : Int)) = (e.list.isEmpty = false) := by cases e.list <;> simp <;> try omega
  have y2 : ((e.scores.length : Int) = 0) = (e.scores.isEmpty = true) := by cases e.scores <;> simp <;> try omega
  have z2 : (0 < (e.scores.length : Int)) = (e.scores.isEmpty = false) := by cases e.scores <;> simp <;> try omega
  have y3 : ((e.fields.length : Int) = 0) = (e.fields.isEmpty = true) := by cases e.fields <;> simp <;> try omega
  have z3 : (0 < (e.fields.length : Int)) = (e.fields.isEmpty = false) := by cases e.fields <;> simp <;> try omega
  have l1 : ((e.list.map D.str).length : Int) = (e.list.length : Int) := by simp
  have l2 : ((e.scores.map scD).length : Int) = (e.scores.length : Int) := by simp
  have l3 : ((e.fields.map prD).length : Int) = (e.fields.length : Int) := by simp
  have xl : ((e.text.length : Int) ≤ 40) = (decide (e.text.length ≤ 40) = true) := by simp; omega
  have ld : ∀ j n, hload (hpush H (.row 0 7 [.d (.agg [.str e.key, .int .i64 e.till, .int .i64 e.kind, .str e.text, txts e.list, scs e.scores, prs e.fields])])) (hlen H) 0 0 j n = if j + n ≤ 7 then some ((([.d (.str e.key), .d (.int .i64 e.till), .d (.int .i64 e.kind), .d (.str e.text), .d (txts e.list), .d (scs e.scores), .d (prs e.fields)] : List V).drop j).take n) else none := fun j n => by
    simp [hload, rowOf_self, V.cells, D.cells]
  have tk := htake_push H (.row 0 7 [.d (.agg [.str e.key, .int .i64 e.till, .int .i64 e.kind, .str e.text, txts e.list, scs e.scores, prs e.fields])])
  unfold enOk kindV
  unfold enD
  simp only [txts, scs, prs] at *
  obtain ⟨key, till, kind, text, list, scores, fields⟩ := e
  simp only at *
  generalize keyV key = KV at *
  generalize tillV till = TV at *
  obtain ⟨Y, eY⟩ : ∃ Y, hpush H (.row 0 7 [.d (.agg [.str key, .int .i64 till, .int .i64 kind, .str text, .vals 1 (list.map D.str), .vals 2 (scores.map scD), .vals 2 (fields.map prD)])]) = Y := ⟨_, rfl⟩
  rw [eY] at ld tk
  generalize list.map D.str = d1 at *
  generalize scores.map scD = d2 at *
  generalize fields.map prD = d3 at *
  generalize (list.length : Int) = n1 at *
  generalize (scores.length : Int) = n2 at *
  generalize (fields.length : Int) = n3 at *
  generalize okTexts list = P80 at *
  generalize setV list = P81 at *
  generalize scoresV scores = P82 at *
  generalize fieldsV fields = P83 at *
  generalize text.isEmpty = B0 at *
  generalize list.isEmpty = B1 at *
  generalize scores.isEmpty = B2 at *
  generalize fields.isEmpty = B3 at *
  generalize decide (text.length ≤ 40) = C at *
  subst hk ht hd
  cases B0 with
  | false => simp [evH, -List.getD_eq_getElem?_getD, -List.map_map, f31, eY, pk, pt, ld, tk, l1, l2, l3, xl, x0, y1, z1, y2, z2, y3, z3, p80, p81, p82, p83]
  | true =>
    cases B1 with
    | false => simp [evH, -List.getD_eq_getElem?_getD, -List.map_map, f31, eY, pk, pt, ld, tk, l1, l2, l3, xl, x0, y1, z1, y2, z2, y3, z3, p80, p81, p82, p83]
    | true =>
      cases B2 with
      | true => simp [evH, -List.getD_eq_getElem?_getD, -List.map_map, f31, eY, pk, pt, ld, tk, l1, l2, l3, xl, x0, y1, z1, y2, z2, y3, z3, p80, p81, p82, p83]
      | false =>
        cases P82 with
        | false => simp [evH, -List.getD_eq_getElem?_getD, -List.map_map, f31, eY, pk, pt, ld, tk, l1, l2, l3, xl, x0, y1, z1, y2, z2, y3, z3, p80, p81, p82, p83]
        | true =>
          cases B3 with
          | false => simp [evH, -List.getD_eq_getElem?_getD, -List.map_map, f31, eY, pk, pt, ld, tk, l1, l2, l3, xl, x0, y1, z1, y2, z2, y3, z3, p80, p81, p82, p83]
          | true =>
            simp [evH, -List.getD_eq_getElem?_getD, -List.map_map, f31, eY, pk, pt, ld, tk, l1, l2, l3, xl, x0, y1, z1, y2, z2, y3, z3, p80, p81, p82, p83]
theorem e_31_k5 (H : Hp) (e : En) (hf : EnFit e) (hk : keyV e.key = true) (ht : tillV e.till = true) (hd : e.kind = 5) : ev R 31 [.d (enD e)] H = some (.d (.bool (enOk e)), H) := by
  refine ev_fn (fn := f31) rfl rfl ?_
  have pk : pureCall (ev R) 55 [.d (.str e.key)] = some (.d (.bool (keyV e.key))) := pureCall_eq (cl := ev R) fun H => e_55 H e.key
  have pt : pureCall (ev R) 32 [.d (.int .i64 e.till), .d (.int .i64 0), .d (.int .i64 2000000)] = some (.d (.bool (tillV e.till))) := p_32 e.till 0 2000000
  have p80 := pureCall_eq (cl := ev R) fun H => e_56 H e.list hf.list
  have p81 := pureCall_eq (cl := ev R) fun H => e_57 H e.list hf.list
  have p82 := pureCall_eq (cl := ev R) fun H => e_58 H e.scores hf.scores
  have p83 := pureCall_eq (cl := ev R) fun H => e_59 H e.fields hf.fields
  have x0 : (e.text = []) = (e.text.isEmpty = true) := by simp
  have y1 : ((e.list.length : Int) = 0) = (e.list.isEmpty = true) := by cases e.list <;> simp <;> try omega
  have z1 : (0 < (e.list.length : Int)) = (e.list.isEmpty = false) := by cases e.list <;> simp <;> try omega
  have y2 : ((e.scores.length : Int) = 0) = (e.scores.isEmpty = true) := by cases e.scores <;> simp <;> try omega
  have z2 : (0 < (e.scores.length : Int)) = (e.scores.isEmpty = false) := by cases e.scores <;> simp <;> try omega
  have y3 : ((e.fields.length : Int) = 0) = (e.fields.isEmpty = true) := by cases e.fields <;> simp <;> try omega
  have z3 : (0 < (e.fields.length : Int)) = (e.fields.isEmpty = false) := by cases e.fields <;> simp <;> try omega
  have l1 : ((e.list.map D.str).length : Int) = (e.list.length : Int) := by simp
  have l2 : ((e.scores.map scD).length : Int) = (e.scores.length : Int) := by simp
  have l3 : ((e.fields.map prD).length : Int) = (e.fields.length : Int) := by simp
  have xl : ((e.text.length : Int) ≤ 40) = (decide (e.text.length ≤ 40) = true) := by simp; omega
  have ld : ∀ j n, hload (hpush H (.row 0 7 [.d (.agg [.str e.key, .int .i64 e.till, .int .i64 e.kind, .str e.text, txts e.list, scs e.scores, prs e.fields])])) (hlen H) 0 0 j n = if j + n ≤ 7 then some ((([.d (.str e.key), .d (.int .i64 e.till), .d (.int .i64 e.kind), .d (.str e.text), .d (txts e.list), .d (scs e.scores), .d (prs e.fields)] : List V).drop j).take n) else none := fun j n => by
    simp [hload, rowOf_self, V.cells, D.cells]
  have tk := htake_push H (.row 0 7 [.d (.agg [.str e.key, .int .i64 e.till, .int .i64 e.kind, .str e.text, txts e.list, scs e.scores, prs e.fields])])
  unfold enOk kindV
  unfold enD
  simp only [txts, scs, prs] at *
  obtain ⟨key, till, kind, text, list, scores, fields⟩ := e
  simp only at *
  generalize keyV key = KV at *
  generalize tillV till = TV at *
  obtain ⟨Y, eY⟩ : ∃ Y, hpush H (.row 0 7 [.d (.agg [.str key, .int .i64 till, .int .i64 kind, .str text, .vals 1 (list.map D.str), .vals 2 (scores.map scD), .vals 2 (fields.map prD)])]) = Y := ⟨_, rfl⟩
  rw [eY] at ld tk
  generalize list.map D.str = d1 at *
  generalize scores.map scD = d2 at *
  generalize fields.map prD = d3 at *
  generalize (list.length : Int) = n1 at *
  generalize (scores.length : Int) = n2 at *
  generalize (fields.length : Int) = n3 at *
  generalize okTexts list = P80 at *
  generalize setV list = P81 at *
  generalize scoresV scores = P82 at *
  generalize fieldsV fields = P83 at *
  generalize text.isEmpty = B0 at *
  generalize list.isEmpty = B1 at *
  generalize scores.isEmpty = B2 at *
  generalize fields.isEmpty = B3 at *
  generalize decide (text.length ≤ 40) = C at *
  subst hk ht hd
  cases B0 with
  | false => simp [evH, -List.getD_eq_getElem?_getD, -List.map_map, f31, eY, pk, pt, ld, tk, l1, l2, l3, xl, x0, y1, z1, y2, z2, y3, z3, p80, p81, p82, p83]
  | true =>
    cases B1 with
    | false => simp [evH, -List.getD_eq_getElem?_getD, -List.map_map, f31, eY, pk, pt, ld, tk, l1, l2, l3, xl, x0, y1, z1, y2, z2, y3, z3, p80, p81, p82, p83]
    | true =>
      cases B2 with
      | false => simp [evH, -List.getD_eq_getElem?_getD, -List.map_map, f31, eY, pk, pt, ld, tk, l1, l2, l3, xl, x0, y1, z1, y2, z2, y3, z3, p80, p81, p82, p83]
      | true =>
        cases B3 with
        | true => simp [evH, -List.getD_eq_getElem?_getD, -List.map_map, f31, eY, pk, pt, ld, tk, l1, l2, l3, xl, x0, y1, z1, y2, z2, y3, z3, p80, p81, p82, p83]
        | false =>
          cases P83 with
          | false => simp [evH, -List.getD_eq_getElem?_getD, -List.map_map, f31, eY, pk, pt, ld, tk, l1, l2, l3, xl, x0, y1, z1, y2, z2, y3, z3, p80, p81, p82, p83]
          | true =>
            simp [evH, -List.getD_eq_getElem?_getD, -List.map_map, f31, eY, pk, pt, ld, tk, l1, l2, l3, xl, x0, y1, z1, y2, z2, y3, z3, p80, p81, p82, p83]
theorem e_31_k0 (H : Hp) (e : En) (hf : EnFit e) (hk : keyV e.key = true) (ht : tillV e.till = true) (a1 : ¬ e.kind = 1) (a2 : ¬ e.kind = 2) (a3 : ¬ e.kind = 3) (a4 : ¬ e.kind = 4) (a5 : ¬ e.kind = 5) : ev R 31 [.d (enD e)] H = some (.d (.bool (enOk e)), H) := by
  refine ev_fn (fn := f31) rfl rfl ?_
  have pk : pureCall (ev R) 55 [.d (.str e.key)] = some (.d (.bool (keyV e.key))) := pureCall_eq (cl := ev R) fun H => e_55 H e.key
  have pt : pureCall (ev R) 32 [.d (.int .i64 e.till), .d (.int .i64 0), .d (.int .i64 2000000)] = some (.d (.bool (tillV e.till))) := p_32 e.till 0 2000000
  have p80 := pureCall_eq (cl := ev R) fun H => e_56 H e.list hf.list
  have p81 := pureCall_eq (cl := ev R) fun H => e_57 H e.list hf.list
  have p82 := pureCall_eq (cl := ev R) fun H => e_58 H e.scores hf.scores
  have p83 := pureCall_eq (cl := ev R) fun H => e_59 H e.fields hf.fields
  have x0 : (e.text = []) = (e.text.isEmpty = true) := by simp
  have y1 : ((e.list.length : Int) = 0) = (e.list.isEmpty = true) := by cases e.list <;> simp <;> try omega
  have z1 : (0 < (e.list.length : Int)) = (e.list.isEmpty = false) := by cases e.list <;> simp <;> try omega
  have y2 : ((e.scores.length : Int) = 0) = (e.scores.isEmpty = true) := by cases e.scores <;> simp <;> try omega
  have z2 : (0 < (e.scores.length : Int)) = (e.scores.isEmpty = false) := by cases e.scores <;> simp <;> try omega
  have y3 : ((e.fields.length : Int) = 0) = (e.fields.isEmpty = true) := by cases e.fields <;> simp <;> try omega
  have z3 : (0 < (e.fields.length : Int)) = (e.fields.isEmpty = false) := by cases e.fields <;> simp <;> try omega
  have l1 : ((e.list.map D.str).length : Int) = (e.list.length : Int) := by simp
  have l2 : ((e.scores.map scD).length : Int) = (e.scores.length : Int) := by simp
  have l3 : ((e.fields.map prD).length : Int) = (e.fields.length : Int) := by simp
  have xl : ((e.text.length : Int) ≤ 40) = (decide (e.text.length ≤ 40) = true) := by simp; omega
  have ld : ∀ j n, hload (hpush H (.row 0 7 [.d (.agg [.str e.key, .int .i64 e.till, .int .i64 e.kind, .str e.text, txts e.list, scs e.scores, prs e.fields])])) (hlen H) 0 0 j n = if j + n ≤ 7 then some ((([.d (.str e.key), .d (.int .i64 e.till), .d (.int .i64 e.kind), .d (.str e.text), .d (txts e.list), .d (scs e.scores), .d (prs e.fields)] : List V).drop j).take n) else none := fun j n => by
    simp [hload, rowOf_self, V.cells, D.cells]
  have tk := htake_push H (.row 0 7 [.d (.agg [.str e.key, .int .i64 e.till, .int .i64 e.kind, .str e.text, txts e.list, scs e.scores, prs e.fields])])
  unfold enOk kindV
  unfold enD
  simp only [txts, scs, prs] at *
  obtain ⟨key, till, kind, text, list, scores, fields⟩ := e
  simp only at *
  generalize keyV key = KV at *
  generalize tillV till = TV at *
  obtain ⟨Y, eY⟩ : ∃ Y, hpush H (.row 0 7 [.d (.agg [.str key, .int .i64 till, .int .i64 kind, .str text, .vals 1 (list.map D.str), .vals 2 (scores.map scD), .vals 2 (fields.map prD)])]) = Y := ⟨_, rfl⟩
  rw [eY] at ld tk
  generalize list.map D.str = d1 at *
  generalize scores.map scD = d2 at *
  generalize fields.map prD = d3 at *
  generalize (list.length : Int) = n1 at *
  generalize (scores.length : Int) = n2 at *
  generalize (fields.length : Int) = n3 at *
  generalize okTexts list = P80 at *
  generalize setV list = P81 at *
  generalize scoresV scores = P82 at *
  generalize fieldsV fields = P83 at *
  generalize text.isEmpty = B0 at *
  generalize list.isEmpty = B1 at *
  generalize scores.isEmpty = B2 at *
  generalize fields.isEmpty = B3 at *
  generalize decide (text.length ≤ 40) = C at *
  subst hk ht
  simp [evH, -List.getD_eq_getElem?_getD, -List.map_map, f31, eY, pk, pt, ld, tk, l1, l2, l3, xl, x0, y1, z1, y2, z2, y3, z3, a1, a2, a3, a4, a5]
theorem e_31 (H : Hp) (e : En) (hf : EnFit e) : ev R 31 [.d (enD e)] H = some (.d (.bool (enOk e)), H) := by
  cases hk : keyV e.key with
  | false => exact e_31_no H e hf (.inl hk)
  | true =>
    cases ht : tillV e.till with
    | false => exact e_31_no H e hf (.inr ht)
    | true =>
      by_cases a1 : e.kind = 1
      · exact e_31_k1 H e hf hk ht a1
      by_cases a2 : e.kind = 2
      · exact e_31_k2 H e hf hk ht a2
      by_cases a3 : e.kind = 3
      · exact e_31_k3 H e hf hk ht a3
      by_cases a4 : e.kind = 4
      · exact e_31_k4 H e hf hk ht a4
      by_cases a5 : e.kind = 5
      · exact e_31_k5 H e hf hk ht a5
      exact e_31_k0 H e hf hk ht a1 a2 a3 a4 a5
end Go.Proofs.YtjdmiodinhlchaaGreat.Code
/- Which entries may be: what the code under test says. -/
namespace Go.Proofs.YtjdmiodinhlchaaGreat.Code
open Go Go.Ev Go.Proofs
set_option maxRecDepth 100000
set_option linter.unusedSimpArgs false
set_option linter.unusedVariables false
theorem e_41_no (H : Hp) (e : En) (hf : EnFit e) (hk : keyV e.key = false ∨ tillV e.till = false) : ev R 41 [.d (enD e)] H = some (.d (.bool (enOk e)), H) := by
  refine ev_fn (fn := f41) rfl rfl ?_
  have pk : pureCall (ev R) 64 [.d (.str e.key)] = some (.d (.bool (keyV e.key))) := pureCall_eq (cl := ev R) fun H => e_64 H e.key
  have pt : pureCall (ev R) 40 [.d (.int .i64 e.till), .d (.int .i64 0), .d (.int .i64 2000000)] = some (.d (.bool (tillV e.till))) := p_40 e.till 0 2000000
  have p80 := pureCall_eq (cl := ev R) fun H => e_65 H e.list hf.list
  have p81 := pureCall_eq (cl := ev R) fun H => e_66 H e.list hf.list
  have p82 := pureCall_eq (cl := ev R) fun H => e_67 H e.scores hf.scores
  have p83 := pureCall_eq (cl := ev R) fun H => e_68 H e.fields hf.fields
  have x0 : (e.text = []) = (e.text.isEmpty = true) := by simp
  have y1 : ((e.list.length : Int) = 0) = (e.list.isEmpty = true) := by cases e.list <;> simp <;> try omega
  have z1 : (0 < (e.list.length : Int)) = (e.list.isEmpty = false) := by cases e.list <;> simp <;> try omega
  have y2 : ((e.scores.length : Int) = 0) = (e.scores.isEmpty = true) := by cases e.scores <;> simp <;> try omega
  have z2 : (0 < (e.scores.length : Int)) = (e.scores.isEmpty = false) := by cases e.scores <;> simp <;> try omega
  have y3 : ((e.fields.length : Int) = 0) = (e.fields.isEmpty = true) := by cases e.fields <;> simp <;> try omega
  have z3 : (0 < (e.fields.length : Int)) = (e.fields.isEmpty = false) := by cases e.fields <;> simp <;> try omega
  have l1 : ((e.list.map D.str).length : Int) = (e.list.length : Int) := by simp
  have l2 : ((e.scores.map scD).length : Int) = (e.scores.length : Int) := by simp
  have l3 : ((e.fields.map prD).length : Int) = (e.fields.length : Int) := by simp
  have xl : ((e.text.length : Int) ≤ 40) = (decide (e.text.length ≤ 40) = true) := by simp; omega
  have ld : ∀ j n, hload (hpush H (.row 0 7 [.d (.agg [.str e.key, .int .i64 e.till, .int .i64 e.kind, .str e.text, txts e.list, scs e.scores, prs e.fields])])) (hlen H) 0 0 j n = if j + n ≤ 7 then some ((([.d (.str e.key), .d (.int .i64 e.till), .d (.int .i64 e.kind), .d (.str e.text), .d (txts e.list), .d (scs e.scores), .d (prs e.fields)] : List V).drop j).take n) else none := fun j n => by
    simp [hload, rowOf_self, V.cells, D.cells]
  have tk := htake_push H (.row 0 7 [.d (.agg [.str e.key, .int .i64 e.till, .int .i64 e.kind, .str e.text, txts e.list, scs e.scores, prs e.fields])])
  unfold enOk kindV
  unfold enD
  simp only [txts, scs, prs] at *
  obtain ⟨key, till, kind, text, list, scores, fields⟩ := e
  simp only at *
  generalize keyV key = KV at *
  generalize tillV till = TV at *
  obtain ⟨Y, eY⟩ : ∃ Y, hpush H (.row 0 7 [.d (.agg [.str key, .int .i64 till, .int .i64 kind, .str text, .vals 1 (list.map D.str), .vals 2 (scores.map scD), .vals 2 (fields.map prD)])]) = Y := ⟨_, rfl⟩
  rw [eY] at ld tk
  generalize list.map D.str = d1 at *
  generalize scores.map scD = d2 at *
  generalize fields.map prD = d3 at *
  generalize (list.length : Int) = n1 at *
  generalize (scores.length : Int) = n2 at *
  generalize (fields.length : Int) = n3 at *
  generalize okTexts list = P80 at *
  generalize setV list = P81 at *
  generalize scoresV scores = P82 at *
  generalize fieldsV fields = P83 at *
  generalize text.isEmpty = B0 at *
  generalize list.isEmpty = B1 at *
  generalize scores.isEmpty = B2 at *
  generalize fields.isEmpty = B3 at *
  generalize decide (text.length ≤ 40) = C at *
  cases KV with
  | false => simp [evH, -List.getD_eq_getElem?_getD, -List.map_map, f41, eY, pk, pt, ld, tk, l1, l2, l3, xl]
  | true =>
    cases TV with
    | false => simp [evH, -List.getD_eq_getElem?_getD, -List.map_map, f41, eY, pk, pt, ld, tk, l1, l2, l3, xl]
    | true => simp at hk
set_option maxHeartbeats 800000 in
theorem e_41_k1 (H : Hp) (e : En) (hf : EnFit e) (hk : keyV e.key = true) (ht : tillV e.till = true) (hd : e.kind = 1) : ev R 41 [.d (enD e)] H = some (.d (.bool (enOk e)), H) := by
  refine ev_fn (fn := f41) rfl rfl ?_
  have pk : pureCall (ev R) 64 [.d (.str e.key)] = some (.d (.bool (keyV e.key))) := pureCall_eq (cl := ev R) fun H => e_64 H e.key
  have pt : pureCall (ev R) 40 [.d (.int .i64 e.till), .d (.int .i64 0), .d (.int .i64 2000000)] = some (.d (.bool (tillV e.till))) := p_40 e.till 0 2000000
  have p80 := pureCall_eq (cl := ev R) fun H => e_65 H e.list hf.list
  have p81 := pureCall_eq (cl := ev R) fun H => e_66 H e.list hf.list
  have p82 := pureCall_eq (cl := ev R) fun H => e_67 H e.scores hf.scores
  have p83 := pureCall_eq (cl := ev R) fun H => e_68 H e.fields hf.fields
  have x0 : (e.text = []) = (e.text.isEmpty = true) := by simp
  have y1 : ((e.list.length : Int) = 0) = (e.list.isEmpty = true) := by cases e.list <;> simp <;> try omega
  have z1 : (0 < (e.list.length : Int)) = (e.list.isEmpty = false) := by cases e.list <;> simp <;> try omega
  have y2 : ((e.scores.length : Int) = 0) = (e.scores.isEmpty = true) := by cases e.scores <;> simp <;> try omega
  have z2 : (0 < (e.scores.length : Int)) = (e.scores.isEmpty = false) := by cases e.scores <;> simp <;> try omega
  have y3 : ((e.fields.length : Int) = 0) = (e.fields.isEmpty = true) := by cases e.fields <;> simp <;> try omega
  have z3 : (0 < (e.fields.length : Int)) = (e.fields.isEmpty = false) := by cases e.fields <;> simp <;> try omega
  have l1 : ((e.list.map D.str).length : Int) = (e.list.length : Int) := by simp
  have l2 : ((e.scores.map scD).length : Int) = (e.scores.length : Int) := by simp
  have l3 : ((e.fields.map prD).length : Int) = (e.fields.length : Int) := by simp
  have xl : ((e.text.length : Int) ≤ 40) = (decide (e.text.length ≤ 40) = true) := by simp; omega
  have ld : ∀ j n, hload (hpush H (.row 0 7 [.d (.agg [.str e.key, .int .i64 e.till, .int .i64 e.kind, .str e.text, txts e.list, scs e.scores, prs e.fields])])) (hlen H) 0 0 j n = if j + n ≤ 7 then some ((([.d (.str e.key), .d (.int .i64 e.till), .d (.int .i64 e.kind), .d (.str e.text), .d (txts e.list), .d (scs e.scores), .d (prs e.fields)] : List V).drop j).take n) else none := fun j n => by
    simp [hload, rowOf_self, V.cells, D.cells]
  have tk := htake_push H (.row 0 7 [.d (.agg [.str e.key, .int .i64 e.till, .int .i64 e.kind, .str e.text, txts e.list, scs e.scores, prs e.fields])])
  unfold enOk kindV
  unfold enD
  simp only [txts, scs, prs] at *
  obtain ⟨key, till, kind, text, list, scores, fields⟩ := e
  simp only at *
  generalize keyV key = KV at *
  generalize tillV till = TV at *
  obtain ⟨Y, eY⟩ : ∃ Y, hpush H (.row 0 7 [.d (.agg [.str key, .int .i64 till, .int .i64 kind, .str text, .vals 1 (list.map D.str), .vals 2 (scores.map scD), .vals 2 (fields.map prD)])]) = Y := ⟨_, rfl⟩
  rw [eY] at ld tk
  generalize list.map D.str = d1 at *
  generalize scores.map scD = d2 at *
  generalize fields.map prD = d3 at *
  generalize (list.length : Int) = n1 at *
  generalize (scores.length : Int) = n2 at *
  generalize (fields.length : Int) = n3 at *
  generalize okTexts list = P80 at *
  generalize setV list = P81 at *
  generalize scoresV scores = P82 at *
  generalize fieldsV fields = P83 at *
  generalize text.isEmpty = B0 at *
  generalize list.isEmpty = B1 at *
  generalize scores.isEmpty = B2 at *
  generalize fields.isEmpty = B3 at *
  generalize decide (text.length ≤ 40) = C at *
  subst hk ht hd
  cases C with
  | false => simp [evH, -List.getD_eq_getElem?_getD, -List.map_map, f41, eY, pk, pt, ld, tk, l1, l2, l3, xl, x0, y1, z1, y2, z2, y3, z3]
  | true =>
    cases B1 with
    | false => simp [evH, -List.getD_eq_getElem?_getD, -List.map_map, f41, eY, pk, pt, ld, tk, l1, l2, l3, xl, x0, y1, z1, y2, z2, y3, z3]
    | true =>
      cases B2 with
      | false => simp [evH, -List.getD_eq_getElem?_getD, -List.map_map, f41, eY, pk, pt, ld, tk, l1, l2, l3, xl, x0, y1, z1, y2, z2, y3, z3]
      | true =>
        cases B3 with
        | false => simp [evH, -List.getD_eq_getElem?_getD, -List.map_map, f41, eY, pk, pt, ld, tk, l1, l2, l3, xl, x0, y1, z1, y2, z2, y3, z3]
        | true =>
          simp [evH, -List.getD_eq_getElem?_getD, -List.map_map, f41, eY, pk, pt, ld, tk, l1, l2, l3, xl, x0, y1, z1, y2, z2, y3, z3]
set_option maxHeartbeats 800000 in
theorem e_41_k2 (H : Hp) (e : En) (hf : EnFit e) (hk : keyV e.key = true) (ht : tillV e.till = true) (hd : e.kind = 2) : ev R 41 [.d (enD e)] H = some (.d (.bool (enOk e)), H) := by
  refine ev_fn (fn := f41) rfl rfl ?_
  have pk : pureCall (ev R) 64 [.d (.str e.key)] = some (.d (.bool (keyV e.key))) := pureCall_eq (cl := ev R) fun H => e_64 H e.key
  have pt : pureCall (ev R) 40 [.d (.int .i64 e.till), .d (.int .i64 0), .d (.int .i64 2000000)] = some (.d (.bool (tillV e.till))) := p_40 e.till 0 2000000
  have p80 := pureCall_eq (cl := ev R) fun H => e_65 H e.list hf.list
  have p81 := pureCall_eq (cl := ev R) fun H => e_66 H e.list hf.list
  have p82 := pureCall_eq (cl := ev R) fun H => e_67 H e.scores hf.scores
  have p83 := pureCall_eq (cl := ev R) fun H => e_68 H e.fields hf.fields
  have x0 : (e.text = []) = (e.text.isEmpty = true) := by simp
  have y1 : ((e.list.length : Int) = 0) = (e.list.isEmpty = true) := by cases e.list <;> simp <;> try omega
  have z1 : (0 < (e.list.length : Int)) = (e.list.isEmpty = false) := by cases e.list <;> simp <;> try omega
  have y2 : ((e.scores.length : Int) = 0) = (e.scores.isEmpty = true) := by cases e.scores <;> simp <;> try omega
  have z2 : (0 < (e.scores.length : Int)) = (e.scores.isEmpty = false) := by cases e.scores <;> simp <;> try omega
  have y3 : ((e.fields.length : Int) = 0) = (e.fields.isEmpty = true) := by cases e.fields <;> simp <;> try omega
  have z3 : (0 < (e.fields.length : Int)) = (e.fields.isEmpty = false) := by cases e.fields <;> simp <;> try omega
  have l1 : ((e.list.map D.str).length : Int) = (e.list.length : Int) := by simp
  have l2 : ((e.scores.map scD).length : Int) = (e.scores.length : Int) := by simp
  have l3 : ((e.fields.map prD).length : Int) = (e.fields.length : Int) := by simp
  have xl : ((e.text.length : Int) ≤ 40) = (decide (e.text.length ≤ 40) = true) := by simp; omega
  have ld : ∀ j n, hload (hpush H (.row 0 7 [.d (.agg [.str e.key, .int .i64 e.till, .int .i64 e.kind, .str e.text, txts e.list, scs e.scores, prs e.fields])])) (hlen H) 0 0 j n = if j + n ≤ 7 then some ((([.d (.str e.key), .d (.int .i64 e.till), .d (.int .i64 e.kind), .d (.str e.text), .d (txts e.list), .d (scs e.scores), .d (prs e.fields)] : List V).drop j).take n) else none := fun j n => by
    simp [hload, rowOf_self, V.cells, D.cells]
  have tk := htake_push H (.row 0 7 [.d (.agg [.str e.key, .int .i64 e.till, .int .i64 e.kind, .str e.text, txts e.list, scs e.scores, prs e.fields])])
  unfold enOk kindV
  unfold enD
  simp only [txts, scs, prs] at *
  obtain ⟨key, till, kind, text, list, scores, fields⟩ := e
  simp only at *
  generalize keyV key = KV at *
  generalize tillV till = TV at *
  obtain ⟨Y, eY⟩ : ∃ Y, hpush H (.row 0 7 [.d (.agg [.str key, .int .i64 till, .int .i64 kind, .str text, .vals 1 (list.map D.str), .vals 2 (scores.map scD), .vals 2 (fields.map prD)])]) = Y := ⟨_, rfl⟩
  rw [eY] at ld tk
  generalize list.map D.str = d1 at *
  generalize scores.map scD = d2 at *
  generalize fields.map prD = d3 at *
  generalize (list.length : Int) = n1 at *
  generalize (scores.length : Int) = n2 at *
  generalize (fields.length : Int) = n3 at *
  generalize okTexts list = P80 at *
  generalize setV list = P81 at *
  generalize scoresV scores = P82 at *
  generalize fieldsV fields = P83 at *
  generalize text.isEmpty = B0 at *
  generalize list.isEmpty = B1 at *
  generalize scores.isEmpty = B2 at *
  generalize fields.isEmpty = B3 at *
  generalize decide (text.length ≤ 40) = C at *
  subst hk ht hd
  cases B1 with
  | true => simp [evH, -List.getD_eq_getElem?_getD, -List.map_map, f41, eY, pk, pt, ld, tk, l1, l2, l3, xl, x0, y1, z1, y2, z2, y3, z3, p80]
  | false =>
    cases P80 with
    | false => simp [evH, -List.getD_eq_getElem?_getD, -List.map_map, f41, eY, pk, pt, ld, tk, l1, l2, l3, xl, x0, y1, z1, y2, z2, y3, z3, p80]
    | true =>
      cases B0 with
      | false => simp [evH, -List.getD_eq_getElem?_getD, -List.map_map, f41, eY, pk, pt, ld, tk, l1, l2, l3, xl, x0, y1, z1, y2, z2, y3, z3, p80]
      | true =>
        cases B2 with
        | false => simp [evH, -List.getD_eq_getElem?_getD, -List.map_map, f41, eY, pk, pt, ld, tk, l1, l2, l3, xl, x0, y1, z1, y2, z2, y3, z3, p80]
        | true =>
          cases B3 with
          | false => simp [evH, -List.getD_eq_getElem?_getD, -List.map_map, f41, eY, pk, pt, ld, tk, l1, l2, l3, xl, x0, y1, z1, y2, z2, y3, z3, p80]
          | true =>
            simp [evH, -List.getD_eq_getElem?_getD, -List.map_map, f41, eY, pk, pt, ld, tk, l1, l2, l3, xl, x0, y1, z1, y2, z2, y3, z3, p80]
set_option maxHeartbeats 800000 in
theorem e_41_k3 (H : Hp) (e : En) (hf : EnFit e) (hk : keyV e.key = true) (ht : tillV e.till = true) (hd : e.kind = 3) : ev R 41 [.d (enD e)] H = some (.d (.bool (enOk e)), H) := by
  refine ev_fn (fn := f41) rfl rfl ?_
  have pk : pureCall (ev R) 64 [.d (.str e.key)] = some (.d (.bool (keyV e.key))) := pureCall_eq (cl := ev R) fun H => e_64 H e.key
  have pt : pureCall (ev R) 40 [.d (.int .i64 e.till), .d (.int .i64 0), .d (.int .i64 2000000)] = some (.d (.bool (tillV e.till))) := p_40 e.till 0 2000000
  have p80 := pureCall_eq (cl := ev R) fun H => e_65 H e.list hf.list
  have p81 := pureCall_eq (cl := ev R) fun H => e_66 H e.list hf.list
  have p82 := pureCall_eq (cl := ev R) fun H => e_67 H e.scores hf.scores
  have p83 := pureCall_eq (cl := ev R) fun H => e_68 H e.fields hf.fields
  have x0 : (e.text = []) = (e.text.isEmpty = true) := by simp
  have y1 : ((e.list.length : Int) = 0) = (e.list.isEmpty = true) := by cases e.list <;> simp <;> try omega
  have z1 : (0 < (e.list.length : Int)) = (e.list.isEmpty = false) := by cases e.list <;> simp <;> try omega
  have y2 : ((e.scores.length : Int) = 0) = (e.scores.isEmpty = true) := by cases e.scores <;> simp <;> try omega
  have z2 : (0 < (e.scores.length : Int)) = (e.scores.isEmpty = false) := by cases e.scores <;> simp <;> try omega
  have y3 : ((e.fields.length : Int) = 0) = (e.fields.isEmpty = true) := by cases e.fields <;> simp <;> try omega
  have z3 : (0 < (e.fields.length : Int)) = (e.fields.isEmpty = false) := by cases e.fields <;> simp <;> try omega
  have l1 : ((e.list.map D.str).length : Int) = (e.list.length : Int) := by simp
  have l2 : ((e.scores.map scD).length : Int) = (e.scores.length : Int) := by simp
  have l3 : ((e.fields.map prD).length : Int) = (e.fields.length : Int) := by simp
  have xl : ((e.text.length : Int) ≤ 40) = (decide (e.text.length ≤ 40) = true) := by simp; omega
  have ld : ∀ j n, hload (hpush H (.row 0 7 [.d (.agg [.str e.key, .int .i64 e.till, .int .i64 e.kind, .str e.text, txts e.list, scs e.scores, prs e.fields])])) (hlen H) 0 0 j n = if j + n ≤ 7 then some ((([.d (.str e.key), .d (.int .i64 e.till), .d (.int .i64 e.kind), .d (.str e.text), .d (txts e.list), .d (scs e.scores), .d (prs e.fields)] : List V).drop j).take n) else none := fun j n => by
    simp [hload, rowOf_self, V.cells, D.cells]
  have tk := htake_push H (.row 0 7 [.d (.agg [.str e.key, .int .i64 e.till, .int .i64 e.kind, .str e.text, txts e.list, scs e.scores, prs e.fields])])
  unfold enOk kindV
  unfold enD
  simp only [txts, scs, prs] at *
  obtain ⟨key, till, kind, text, list, scores, fields⟩ := e
  simp only at *
  generalize keyV key = KV at *
  generalize tillV till = TV at *
  obtain ⟨Y, eY⟩ : ∃ Y, hpush H (.row 0 7 [.d (.agg [.str key, .int .i64 till, .int .i64 kind, .str text, .vals 1 (list.map D.str), .vals 2 (scores.map scD), .vals 2 (fields.map prD)])]) = Y := ⟨_, rfl⟩
  rw [eY] at ld tk
  generalize list.map D.str = d1 at *
  generalize scores.map scD = d2 at *
  generalize fields.map prD = d3 at *
  generalize (list.length : Int) = n1 at *
  generalize (scores.length : Int) = n2 at *
  generalize (fields.length : Int) = n3 at *
  generalize okTexts list = P80 at *
  generalize setV list = P81 at *
  generalize scoresV scores = P82 at *
  generalize fieldsV fields = P83 at *
  generalize text.isEmpty = B0 at *
  generalize list.isEmpty = B1 at *
  generalize scores.isEmpty = B2 at *
  generalize fields.isEmpty = B3 at *
  generalize decide (text.length ≤ 40) = C at *
  subst hk ht hd
  cases B1 with
  | true => simp [evH, -List.getD_eq_getElem?_getD, -List.map_map, f41, eY, pk, pt, ld, tk, l1, l2, l3, xl, x0, y1, z1, y2, z2, y3, z3, p81]
  | false =>
    cases P81 with
    | false => simp [evH, -List.getD_eq_getElem?_getD, -List.map_map, f41, eY, pk, pt, ld, tk, l1, l2, l3, xl, x0, y1, z1, y2, z2, y3, z3, p81]
    | true =>
      cases B0 with
      | false => simp [evH, -List.getD_eq_getElem?_getD, -List.map_map, f41, eY, pk, pt, ld, tk, l1, l2, l3, xl, x0, y1, z1, y2, z2, y3, z3, p81]
      | true =>
        cases B2 with
        | false => simp [evH, -List.getD_eq_getElem?_getD, -List.map_map, f41, eY, pk, pt, ld, tk, l1, l2, l3, xl, x0, y1, z1, y2, z2, y3, z3, p81]
        | true =>
          cases B3 with
          | false => simp [evH, -List.getD_eq_getElem?_getD, -List.map_map, f41, eY, pk, pt, ld, tk, l1, l2, l3, xl, x0, y1, z1, y2, z2, y3, z3, p81]
          | true =>
            simp [evH, -List.getD_eq_getElem?_getD, -List.map_map, f41, eY, pk, pt, ld, tk, l1, l2, l3, xl, x0, y1, z1, y2, z2, y3, z3, p81]
set_option maxHeartbeats 800000 in
theorem e_41_k4 (H : Hp) (e : En) (hf : EnFit e) (hk : keyV e.key = true) (ht : tillV e.till = true) (hd : e.kind = 4) : ev R 41 [.d (enD e)] H = some (.d (.bool (enOk e)), H) := by
  refine ev_fn (fn := f41) rfl rfl ?_
  have pk : pureCall (ev R) 64 [.d (.str e.key)] = some (.d (.bool (keyV e.key))) := pureCall_eq (cl := ev R) fun H => e_64 H e.key
  have pt : pureCall (ev R) 40 [.d (.int .i64 e.till), .d (.int .i64 0), .d (.int .i64 2000000)] = some (.d (.bool (tillV e.till))) := p_40 e.till 0 2000000
  have p80 := pureCall_eq (cl := ev R) fun H => e_65 H e.list hf.list
  have p81 := pureCall_eq (cl := ev R) fun H => e_66 H e.list hf.list
  have p82 := pureCall_eq (cl := ev R) fun H => e_67 H e.scores hf.scores
  have p83 := pureCall_eq (cl := ev R) fun H => e_68 H e.fields hf.fields
  have x0 : (e.text = []) = (e.text.isEmpty = true) := by simp
  have y1 : ((e.list.length : Int) = 0) = (e.list.isEmpty = true) := by cases e.list <;> simp <;> try omega
  have z1 : (0 < (e.list.length : Int)) = (e.list.isEmpty = false) := by cases e.list <;> simp <;> try omega
  have y2 : ((e.scores.length : Int) = 0) = (e.scores.isEmpty = true) := by cases e.scores <;> simp <;> try omega
  have z2 : (0 < (e.scores.length : Int)) = (e.scores.isEmpty = false) := by cases e.scores <;> simp <;> try omega
  have y3 : ((e.fields.length : Int) = 0) = (e.fields.isEmpty = true) := by cases e.fields <;> simp <;> try omega
  have z3 : (0 < (e.fields.length : Int)) = (e.fields.isEmpty = false) := by cases e.fields <;> simp <;> try omega
  have l1 : ((e.list.map D.str).length : Int) = (e.list.length : Int) := by simp
  have l2 : ((e.scores.map scD).length : Int) = (e.scores.length : Int) := by simp
  have l3 : ((e.fields.map prD).length : Int) = (e.fields.length : Int) := by simp
  have xl : ((e.text.length : Int) ≤ 40) = (decide (e.text.length ≤ 40) = true) := by simp; omega
  have ld : ∀ j n, hload (hpush H (.row 0 7 [.d (.agg [.str e.key, .int .i64 e.till, .int .i64 e.kind, .str e.text, txts e.list, scs e.scores, prs e.fields])])) (hlen H) 0 0 j n = if j + n ≤ 7 then some ((([.d (.str e.key), .d (.int .i64 e.till), .d (.int .i64 e.kind), .d (.str e.text), .d (txts e.list), .d (scs e.scores), .d (prs e.fields)] : List V).drop j).take n) else none := fun j n => by
    simp [hload, rowOf_self, V.cells, D.cells]
  have tk := htake_push H (.row 0 7 [.d (.agg [.str e.key, .int .i64 e.till, .int .i64 e.kind, .str e.text, txts e.list, scs e.scores, prs e.fields])])
  unfold enOk kindV
  unfold enD
  simp only [txts, scs, prs] at *
  obtain ⟨key, till, kind, text, list, scores, fields⟩ := e
  simp only at *
  generalize keyV key = KV at *
  generalize tillV till = TV at *
  obtain ⟨Y, eY⟩ : ∃ Y, hpush H (.row 0 7 [.d (.agg [.str key, .int .i64 till, .int .i64 kind, .str text, .vals 1 (list.map D.str), .vals 2 (scores.map scD), .vals 2 (fields.map prD)])]) = Y := ⟨_, rfl⟩
  rw [eY] at ld tk
  generalize list.map D.str = d1 at *
  generalize scores.map scD = d2 at *
  generalize fields.map prD = d3 at *
  generalize (list.length : Int) = n1 at *
  generalize (scores.length : Int) = n2 at *
  generalize (fields.length : Int) = n3 at *
  generalize okTexts list = P80 at *
  generalize setV list = P81 at *
  generalize scoresV scores = P82 at *
  generalize fieldsV fields = P83 at *
  generalize text.isEmpty = B0 at *
  generalize list.isEmpty = B1 at *
  generalize scores.isEmpty = B2 at *
  generalize fields.isEmpty = B3 at *
  generalize decide (text.length ≤ 40) = C at *
  subst hk ht hd
  cases B2 with
  | true => simp [evH, -List.getD_eq_getElem?_getD, -List.map_map, f41, eY, pk, pt, ld, tk, l1, l2, l3, xl, x0, y1, z1, y2, z2, y3, z3, p82]
  | false =>
    cases P82 with
    | false => simp [evH, -List.getD_eq_getElem?_getD, -List.map_map, f41, eY, pk, pt, ld, tk, l1, l2, l3, xl, x0, y1, z1, y2, z2, y3, z3, p82]
    | true =>
      cases B0 with
      | false => simp [evH, -List.getD_eq_getElem?_getD, -List.map_map, f41, eY, pk, pt, ld, tk, l1, l2, l3, xl, x0, y1, z1, y2, z2, y3, z3, p82]
      | true =>
        cases B1 with
        | false => simp [evH, -List.getD_eq_getElem?_getD, -List.map_map, f41, eY, pk, pt, ld, tk, l1, l2, l3, xl, x0, y1, z1, y2, z2, y3, z3, p82]
        | true =>
          cases B3 with
          | false => simp [evH, -List.getD_eq_getElem?_getD, -List.map_map, f41, eY, pk, pt, ld, tk, l1, l2, l3, xl, x0, y1, z1, y2, z2, y3, z3, p82]
          | true =>
            simp [evH, -List.getD_eq_getElem?_getD, -List.map_map, f41, eY, pk, pt, ld, tk, l1, l2, l3, xl, x0, y1, z1, y2, z2, y3, z3, p82]
set_option maxHeartbeats 800000 in
theorem e_41_k5 (H : Hp) (e : En) (hf : EnFit e) (hk : keyV e.key = true) (ht : tillV e.till = true) (hd : e.kind = 5) : ev R 41 [.d (enD e)] H = some (.d (.bool (enOk e)), H) := by
  refine ev_fn (fn := f41) rfl rfl ?_
  have pk : pureCall (ev R) 64 [.d (.str e.key)] = some (.d (.bool (keyV e.key))) := pureCall_eq (cl := ev R) fun H => e_64 H e.key
  have pt : pureCall (ev R) 40 [.d (.int .i64 e.till), .d (.int .i64 0), .d (.int .i64 2000000)] = some (.d (.bool (tillV e.till))) := p_40 e.till 0 2000000
  have p80 := pureCall_eq (cl := ev R) fun H => e_65 H e.list hf.list
  have p81 := pureCall_eq (cl := ev R) fun H => e_66 H e.list hf.list
  have p82 := pureCall_eq (cl := ev R) fun H => e_67 H e.scores hf.scores
  have p83 := pureCall_eq (cl := ev R) fun H => e_68 H e.fields hf.fields
  have x0 : (e.text = []) = (e.text.isEmpty = true) := by simp
  have y1 : ((e.list.length : Int) = 0) = (e.list.isEmpty = true) := by cases e.list <;> simp <;> try omega
  have z1 : (0 < (e.list.length : Int)) = (e.list.isEmpty = false) := by cases e.list <;> simp <;> try omega
  have y2 : ((e.scores.length : Int) = 0) = (e.scores.isEmpty = true) := by cases e.scores <;> simp <;> try omega
  have z2 : (0 < (e.scores.length : Int)) = (e.scores.isEmpty = false) := by cases e.scores <;> simp <;> try omega
  have y3 : ((e.fields.length : Int) = 0) = (e.fields.isEmpty = true) := by cases e.fields <;> simp <;> try omega
  have z3 : (0 < (e.fields.length : Int)) = (e.fields.isEmpty = false) := by cases e.fields <;> simp <;> try omega
  have l1 : ((e.list.map D.str).length : Int) = (e.list.length : Int) := by simp
  have l2 : ((e.scores.map scD).length : Int) = (e.scores.length : Int) := by simp
  have l3 : ((e.fields.map prD).length : Int) = (e.fields.length : Int) := by simp
  have xl : ((e.text.length : Int) ≤ 40) = (decide (e.text.length ≤ 40) = true) := by simp; omega
  have ld : ∀ j n, hload (hpush H (.row 0 7 [.d (.agg [.str e.key, .int .i64 e.till, .int .i64 e.kind, .str e.text, txts e.list, scs e.scores, prs e.fields])])) (hlen H) 0 0 j n = if j + n ≤ 7 then some ((([.d (.str e.key), .d (.int .i64 e.till), .d (.int .i64 e.kind), .d (.str e.text), .d (txts e.list), .d (scs e.scores), .d (prs e.fields)] : List V).drop j).take n) else none := fun j n => by
    simp [hload, rowOf_self, V.cells, D.cells]
  have tk := htake_push H (.row 0 7 [.d (.agg [.str e.key, .int .i64 e.till, .int .i64 e.kind, .str e.text, txts e.list, scs e.scores, prs e.fields])])
  unfold enOk kindV
  unfold enD
  simp only [txts, scs, prs] at *
  obtain ⟨key, till, kind, text, list, scores, fields⟩ := e
  simp only at *
  generalize keyV key = KV at *
  generalize tillV till = TV at *
  obtain ⟨Y, eY⟩ : ∃ Y, hpush H (.row 0 7 [.d (.agg [.str key, .int .i64 till, .int .i64 kind, .str text, .vals 1 (list.map D.str), .vals 2 (scores.map scD), .vals 2 (fields.map prD)])]) = Y := ⟨_, rfl⟩
  rw [eY] at ld tk
  generalize list.map D.str = d1 at *
  generalize scores.map scD = d2 at *
  generalize fields.map prD = d3 at *
  generalize (list.length : Int) = n1 at *
  generalize (scores.length : Int) = n2 at *
  generalize (fields.length : Int) = n3 at *
  generalize okTexts list = P80 at *
  generalize setV list = P81 at *
  generalize scoresV scores = P82 at *
  generalize fieldsV fields = P83 at *
  generalize text.isEmpty = B0 at *
  generalize list.isEmpty = B1 at *
  generalize scores.isEmpty = B2 at *
  generalize fields.isEmpty = B3 at *
  generalize decide (text.length ≤ 40) = C at *
  subst hk ht hd
  cases B3 with
  | true => simp [evH, -List.getD_eq_getElem?_getD, -List.map_map, f41, eY, pk, pt, ld, tk, l1, l2, l3, xl, x0, y1, z1, y2, z2, y3, z3, p83]
  | false =>
    cases P83 with
    | false => simp [evH, -List.getD_eq_getElem?_getD, -List.map_map, f41, eY, pk, pt, ld, tk, l1, l2, l3, xl, x0, y1, z1, y2, z2, y3, z3, p83]
    | true =>
      cases B0 with
      | false => simp [evH, -List.getD_eq_getElem?_getD, -List.map_map, f41, eY, pk, pt, ld, tk, l1, l2, l3, xl, x0, y1, z1, y2, z2, y3, z3, p83]
      | true =>
        cases B1 with
        | false => simp [evH, -List.getD_eq_getElem?_getD, -List.map_map, f41, eY, pk, pt, ld, tk, l1, l2, l3, xl, x0, y1, z1, y2, z2, y3, z3, p83]
        | true =>
          cases B2 with
          | false => simp [evH, -List.getD_eq_getElem?_getD, -List.map_map, f41, eY, pk, pt, ld, tk, l1, l2, l3, xl, x0, y1, z1, y2, z2, y3, z3, p83]
          | true =>
            simp [evH, -List.getD_eq_getElem?_getD, -List.map_map, f41, eY, pk, pt, ld, tk, l1, l2, l3, xl, x0, y1, z1, y2, z2, y3, z3, p83]
theorem e_41_k0 (H : Hp) (e : En) (hf : EnFit e) (hk : keyV e.key = true) (ht : tillV e.till = true) (a1 : ¬ e.kind = 1) (a2 : ¬ e.kind = 2) (a3 : ¬ e.kind = 3) (a4 : ¬ e.kind = 4) (a5 : ¬ e.kind = 5) : ev R 41 [.d (enD e)] H = some (.d (.bool (enOk e)), H) := by
  refine ev_fn (fn := f41) rfl rfl ?_
  have pk : pureCall (ev R) 64 [.d (.str e.key)] = some (.d (.bool (keyV e.key))) := pureCall_eq (cl := ev R) fun H => e_64 H e.key
  have pt : pureCall (ev R) 40 [.d (.int .i64 e.till), .d (.int .i64 0), .d (.int .i64 2000000)] = some (.d (.bool (tillV e.till))) := p_40 e.till 0 2000000
  have p80 := pureCall_eq (cl := ev R) fun H => e_65 H e.list hf.list
  have p81 := pureCall_eq (cl := ev R) fun H => e_66 H e.list hf.list
  have p82 := pureCall_eq (cl := ev R) fun H => e_67 H e.scores hf.scores
  have p83 := pureCall_eq (cl := ev R) fun H => e_68 H e.fields hf.fields
  have x0 : (e.text = []) = (e.text.isEmpty = true) := by simp
  have y1 : ((e.list.length : Int) = 0) = (e.list.isEmpty = true) := by cases e.list <;> simp <;> try omega
  have z1 : (0 < (e.list.length : Int)) = (e.list.isEmpty = false) := by cases e.list <;> simp <;> try omega
  have y2 : ((e.scores.length : Int) = 0) = (e.scores.isEmpty = true) := by cases e.scores <;> simp <;> try omega
  have z2 : (0 < (e.scores.length : Int)) = (e.scores.isEmpty = false) := by cases e.scores <;> simp <;> try omega
  have y3 : ((e.fields.length : Int) = 0) = (e.fields.isEmpty = true) := by cases e.fields <;> simp <;> try omega
  have z3 : (0 < (e.fields.length : Int)) = (e.fields.isEmpty = false) := by cases e.fields <;> simp <;> try omega
  have l1 : ((e.list.map D.str).length : Int) = (e.list.length : Int) := by simp
  have l2 : ((e.scores.map scD).length : Int) = (e.scores.length : Int) := by simp
  have l3 : ((e.fields.map prD).length : Int) = (e.fields.length : Int) := by simp
  have xl : ((e.text.length : Int) ≤ 40) = (decide (e.text.length ≤ 40) = true) := by simp; omega
  have ld : ∀ j n, hload (hpush H (.row 0 7 [.d (.agg [.str e.key, .int .i64 e.till, .int .i64 e.kind, .str e.text, txts e.list, scs e.scores, prs e.fields])])) (hlen H) 0 0 j n = if j + n ≤ 7 then some ((([.d (.str e.key), .d (.int .i64 e.till), .d (.int .i64 e.kind), .d (.str e.text), .d (txts e.list), .d (scs e.scores), .d (prs e.fields)] : List V).drop j).take n) else none := fun j n => by
    simp [hload, rowOf_self, V.cells, D.cells]
  have tk := htake_push H (.row 0 7 [.d (.agg [.str e.key, .int .i64 e.till, .int .i64 e.kind, .str e.text, txts e.list, scs e.scores, prs e.fields])])
  unfold enOk kindV
  unfold enD
  simp only [txts, scs, prs] at *
  obtain ⟨key, till, kind, text, list, scores, fields⟩ := e
  simp only at *
  generalize keyV key = KV at *
  generalize tillV till = TV at *
  obtain ⟨Y, eY⟩ : ∃ Y, hpush H (.row 0 7 [.d (.agg [.str key, .int .i64 till, .int .i64 kind, .str text, .vals 1 (list.map D.str), .vals 2 (scores.map scD), .vals 2 (fields.map prD)])]) = Y := ⟨_, rfl⟩
  rw [eY] at ld tk
  generalize list.map D.str = d1 at *
  generalize scores.map scD = d2 at *
  generalize fields.map prD = d3 at *
  generalize (list.length : Int) = n1 at *
  generalize (scores.length : Int) = n2 at *
  generalize (fields.length : Int) = n3 at *
  generalize okTexts list = P80 at *
  generalize setV list = P81 at *
  generalize scoresV scores = P82 at *
  generalize fieldsV fields = P83 at *
  generalize text.isEmpty = B0 at *
  generalize list.isEmpty = B1 at *
  generalize scores.isEmpty = B2 at *
  generalize fields.isEmpty = B3 at *
  generalize decide (text.length ≤ 40) = C at *
  subst hk ht
  simp [evH, -List.getD_eq_getElem?_getD, -List.map_map, f41, eY, pk, pt, ld, tk, l1, l2, l3, xl, x0, y1, z1, y2, z2, y3, z3, a1, a2, a3, a4, a5]
theorem e_41 (H : Hp) (e : En) (hf : EnFit e) : ev R 41 [.d (enD e)] H = some (.d (.bool (enOk e)), H) := by
  cases hk : keyV e.key with
  | false => exact e_41_no H e hf (.inl hk)
  | true =>
    cases ht : tillV e.till with
    | false => exact e_41_no H e hf (.inr ht)
    | true =>
      by_cases a1 : e.kind = 1
      · exact e_41_k1 H e hf hk ht a1
      by_cases a2 : e.kind = 2
      · exact e_41_k2 H e hf hk ht a2
      by_cases a3 : e.kind = 3
      · exact e_41_k3 H e hf hk ht a3
      by_cases a4 : e.kind = 4
      · exact e_41_k4 H e hf hk ht a4
      by_cases a5 : e.kind = 5
      · exact e_41_k5 H e hf hk ht a5
      exact e_41_k0 H e hf hk ht a1 a2 a3 a4 a5
end Go.Proofs.YtjdmiodinhlchaaGreat.Code
/- The reference's sets and lists: what is kept of one. -/
namespace Go.Proofs.YtjdmiodinhlchaaGreat.Code
open Go Go.Ev Go.Proofs
set_option maxRecDepth 100000
set_option linter.unusedSimpArgs false
set_option linter.unusedVariables false
theorem take_snoc' {α : Type} (xs : List α) (i : Nat) (d : α) (h : i < xs.length) : xs.take (i + 1) = xs.take i ++ [xs.getD i d] := by
  rw [List.take_add_one, List.getElem?_eq_getElem h]
  simp [List.getD_eq_getElem?_getD, h]
theorem p_57 (xs : List Txt) (hx : xs.length ≤ 9223372036854775807) : pureCall (ev R) 57 [.d (txts xs)] = some (.d (.bool (setV xs))) := pureCall_eq fun H => e_57 H xs hx
theorem take_fil {α : Type} (p : α → Bool) (xs : List α) (i : Nat) (d : α) (hi : i < xs.length) : (xs.take (i + 1)).filter p = (xs.take i).filter p ++ (if p (xs.getD i d) then [xs.getD i d] else []) := by
  rw [List.take_add_one, List.getElem?_eq_getElem hi, Option.toList_some, List.filter_append]
  have : xs.getD i d = xs[i] := by simp [List.getD_eq_getElem?_getD, hi]
  rw [this]
  cases h : p xs[i] <;> simp [h]
theorem fil_len {α : Type} (p : α → Bool) (xs : List α) (i : Nat) (hi : i < xs.length) : ((xs.take i).filter p).length ≤ i := by
  have := List.length_filter_le p (xs.take i)
  rw [List.length_take] at this
  omega
theorem p_145 (xs : List Txt) (s : Txt) (hx : xs.length ≤ 9223372036854775807) : pureCall (ev R) 145 [.d (txts xs), .d (.str s)] = some (.d (.bool (decide (s ∈ xs)))) := pureCall_eq fun H => by
  refine ev_fn (fn := f145) rfl rfl ?_
  obtain ⟨o, e', X', he, rfl, g⟩ := (loop_keep (F := evCode (ev R) R.glob (hlen H) evLoop f145l0) (lv := [0, 1, 5]) xs.length
    (fun i e X => X = H ∧ e.get 0 = .d (txts xs) ∧ e.get 1 = .d (.str s) ∧ e.get 5 = .d (.int .i64 i) ∧ s ∉ xs.take i)
    (fun o e X => X = H ∧ (o = .exit 0 ∧ s ∉ xs ∨ o = .ret ∧ e.get 4 = .d (.bool true) ∧ s ∈ xs))
    (by
      rintro e X ⟨rfl, g0, g1, g5, hn⟩
      rw [List.take_length] at hn
      simp [evC, -List.getD_eq_getElem?_getD, -List.map_map, f145l0, g0, g1, g5, hn, txts])
    (by
      rintro i e X hi ⟨rfl, g0, g1, g5, hn⟩
      have c : (i : Int) < (xs.length : Int) := by omega
      have g := txts_get xs i hi
      have w1 : IntKind.i64.wrap ((i : Int) + 1) = ((i + 1 : Nat) : Int) := by rw [IntWalk.i64_in _ (by omega)]; rfl
      have hsn := take_snoc' xs i [] hi
      by_cases h : xs.getD i [] = s
      · have hm : s ∈ xs := by rw [← h]; exact getD_in hi
        simp [evC, -List.getD_eq_getElem?_getD, -List.map_map, f145l0, g0, g1, g5, c, g, hi, eq_true h, hm, w1, txts]
      · have hm : s ∉ xs.take (i + 1) := by
          rw [hsn]; simp only [List.mem_append, List.mem_singleton, not_or]; exact ⟨hn, fun hc => h hc.symm⟩
        simp [evC, -List.getD_eq_getElem?_getD, -List.map_map, f145l0, g0, g1, g5, c, g, hi, eq_false h, hm, w1, txts])
    xs.length 0 [(0, .d (txts xs)), (1, .d (.str s)), (5, .d (.int .i64 0))] H (by omega) ⟨rfl, rfl, rfl, rfl, by simp⟩).out
  rcases g with ⟨rfl, g⟩ | ⟨rfl, g4, g⟩
  · simp [evC, -List.getD_eq_getElem?_getD, -List.map_map, f145, he, g]
  · simp [evC, -List.getD_eq_getElem?_getD, -List.map_map, f145, he, g4, g]
def rLess (xs ys : List Txt) : List Txt := xs.filter fun s => !decide (s ∈ ys)
theorem p_143 (xs ys : List Txt) (hx : xs.length ≤ 1000000) (hy : ys.length ≤ 1000000) : pureCall (ev R) 143 [.d (txts xs), .d (txts ys)] =
    some (if setV xs = true then .tup [.d (txts (rLess xs ys)), .d (.int .i64 (xs.length - (rLess xs ys).length))] else .tup [.d (txts []), .d (.int .i64 0)]) := pureCall_eq fun H => by
  refine ev_fn (fn := f143) rfl rfl ?_
  have p1 := p_57 xs (by omega)
  by_cases hs : setV xs = true
  · rw [if_pos hs]
    rw [hs] at p1
    obtain ⟨o, e', X', he, rfl, rfl, g6, g0⟩ := (loop_keep (F := evCode (ev R) R.glob (hlen H) evLoop f143l0) (lv := [0, 1, 6, 7]) xs.length
      (fun i e X => ∃ zs, zs = rLess (xs.take i) ys ∧ X = ap H [.row zs.length 1 ((zs.map D.str).map V.d)] ∧ e.get 0 = .d (txts xs) ∧ e.get 1 = .d (txts ys) ∧ e.get 6 = .slc (hlen H) zs.length 0 zs.length ∧ e.get 7 = .d (.int .i64 i))
      (fun o e X => o = .exit 0 ∧ X = ap H [.row (rLess xs ys).length 1 (((rLess xs ys).map D.str).map V.d)] ∧ e.get 6 = .slc (hlen H) (rLess xs ys).length 0 (rLess xs ys).length ∧ e.get 0 = .d (txts xs))
      (by
        rintro e X ⟨zs, rfl, rfl, g0, g1, g6, g7⟩
        rw [List.take_length] at *
        simp [evC, -List.getD_eq_getElem?_getD, -List.map_map, f143l0, g0, g1, g6, g7, txts])
      (by
        rintro i e X hi ⟨zs, hz, rfl, g0, g1, g6, g7⟩
        have c : (i : Int) < (xs.length : Int) := by omega
        have g := txts_get xs i hi
        have w1 : IntKind.i64.wrap ((i : Int) + 1) = ((i + 1 : Nat) : Int) := by rw [IntWalk.i64_in _ (by omega)]; rfl
        have hf := take_fil (fun s => !decide (s ∈ ys)) xs i [] hi
        have hl := fil_len (fun s => !decide (s ∈ ys)) xs i hi
        have p2 := p_145 ys (xs.getD i []) (by omega)
        have hz' : (xs.take i).filter (fun s => !decide (s ∈ ys)) = zs := hz.symm
        rw [hz'] at hf hl
        have hz2 : rLess (xs.take (i + 1)) ys = (xs.take (i + 1)).filter fun s => !decide (s ∈ ys) := rfl
        by_cases h : xs.getD i [] ∈ ys
        · rw [decide_eq_true h] at p2
          simp only [decide_eq_true h, Bool.not_true, Bool.false_eq_true, if_false, List.append_nil] at hf
          simp [evC, -List.getD_eq_getElem?_getD, -List.map_map, f143l0, g0, g1, g6, g7, c, g, hi, p2, w1, hz2, hf, txts]
        · rw [decide_eq_false h] at p2
          simp only [decide_eq_false h, Bool.not_false, if_true] at hf
          have r : (zs.length + 1) * 16 ≤ room := by unfold room; omega
          simp [evC, -List.getD_eq_getElem?_getD, -List.map_map, f143l0, g0, g1, g6, g7, c, g, hi, p2, w1, hz2, hf, r, txts])
      xs.length 0 [(0, .d (txts xs)), (1, .d (txts ys)), (6, .slc (hlen H) 0 0 0), (7, .d (.int .i64 0))] (ap H [.row 0 1 []]) (by omega) ⟨[], by simp [rLess], rfl, rfl, rfl, rfl, rfl⟩).out
    have hl : (rLess xs ys).length ≤ xs.length := List.length_filter_le _ _
    have w2 : IntKind.i64.wrap ((xs.length : Int) - ((rLess xs ys).length : Int)) = (xs.length : Int) - ((rLess xs ys).length : Int) := IntWalk.i64_in _ (by omega)
    simp [evC, -List.getD_eq_getElem?_getD, -List.map_map, f143, p1, he, g6, g0, w2, txts]
  · rw [if_neg hs]
    rw [Bool.not_eq_true] at hs
    rw [hs] at p1
    simp [evC, -List.getD_eq_getElem?_getD, -List.map_map, f143, p1, txts]
end Go.Proofs.YtjdmiodinhlchaaGreat.Code
/- Sets, scores: what the reference keeps of them. -/
namespace Go.Proofs.YtjdmiodinhlchaaGreat.Code
open Go Go.Ev Go.Proofs
set_option maxRecDepth 100000
set_option linter.unusedSimpArgs false
set_option linter.unusedVariables false
def rBoth (xs ys : List Txt) : List Txt := xs.filter fun s => decide (s ∈ ys)
theorem p_146 (xs ys : List Txt) (hx : xs.length ≤ 1000000) (hy : ys.length ≤ 1000000) : pureCall (ev R) 146 [.d (txts xs), .d (txts ys)] =
    some (.d (txts (if setV xs = true ∧ setV ys = true then rBoth xs ys else []))) := pureCall_eq fun H => by
  refine ev_fn (fn := f146) rfl rfl ?_
  have p1 := p_57 xs (by omega)
  have p3 := p_57 ys (by omega)
  by_cases hs : setV xs = true ∧ setV ys = true
  · rw [if_pos hs]
    obtain ⟨h1, h2⟩ := hs
    rw [h1] at p1
    rw [h2] at p3
    obtain ⟨o, e', X', he, rfl, rfl, g5⟩ := (loop_keep (F := evCode (ev R) R.glob (hlen H) evLoop f146l0) (lv := [0, 1, 5, 6]) xs.length
      (fun i e X => ∃ zs, zs = (xs.take i).filter (fun s => decide (s ∈ ys)) ∧ X = ap H [.row zs.length 1 ((zs.map D.str).map V.d)] ∧ e.get 0 = .d (txts xs) ∧ e.get 1 = .d (txts ys) ∧ e.get 5 = .slc (hlen H) zs.length 0 zs.length ∧ e.get 6 = .d (.int .i64 i))
      (fun o e X => o = .exit 0 ∧ X = ap H [.row (xs.filter (fun s => decide (s ∈ ys))).length 1 (((xs.filter (fun s => decide (s ∈ ys))).map D.str).map V.d)] ∧ e.get 5 = .slc (hlen H) (xs.filter (fun s => decide (s ∈ ys))).length 0 (xs.filter (fun s => decide (s ∈ ys))).length)
      (by
        rintro e X ⟨zs, rfl, rfl, g0, g1, g5, g6⟩
        rw [List.take_length] at *
        simp [evC, -List.getD_eq_getElem?_getD, -List.map_map, f146l0, g0, g1, g5, g6, p1, p3, txts])
      (by
        rintro i e X hi ⟨zs, hz, rfl, g0, g1, g5, g6⟩
        have c : (i : Int) < (xs.length : Int) := by omega
        have g := txts_get xs i hi
        have w1 : IntKind.i64.wrap ((i : Int) + 1) = ((i + 1 : Nat) : Int) := by rw [IntWalk.i64_in _ (by omega)]; rfl
        have hf := take_fil (fun s => decide (s ∈ ys)) xs i [] hi
        have hl := fil_len (fun s => decide (s ∈ ys)) xs i hi
        rw [← hz] at hf hl
        have p2 := p_145 ys (xs.getD i []) (by omega)
        have r : (zs.length + 1) * 16 ≤ room := by unfold room; omega
        by_cases h : xs.getD i [] ∈ ys
        · simp only [decide_eq_true h, Bool.not_true, if_true] at hf
          rw [decide_eq_true h] at p2
          simp [evC, -List.getD_eq_getElem?_getD, -List.map_map, f146l0, g0, g1, g5, g6, p1, p3, c, g, hi, w1, hf, r, p2, p1, p3, txts]
        · simp only [decide_eq_false h, Bool.not_false, Bool.false_eq_true, if_false, List.append_nil] at hf
          rw [decide_eq_false h] at p2
          simp [evC, -List.getD_eq_getElem?_getD, -List.map_map, f146l0, g0, g1, g5, g6, p1, p3, c, g, hi, w1, hf, p2, p1, p3, txts])
      xs.length 0 [(0, .d (txts xs)), (1, .d (txts ys)), (5, .slc (hlen H) 0 0 0), (6, .d (.int .i64 0))] (ap H [.row 0 1 []]) (by omega) ⟨[], by simp, rfl, rfl, rfl, rfl, rfl⟩).out
    simp [evC, -List.getD_eq_getElem?_getD, -List.map_map, f146, p1, p3, he, g5, rBoth, txts]
  · rw [if_neg hs]
    have hb : (setV xs && setV ys) = false := by
      cases a : setV xs <;> cases b : setV ys <;> simp_all
    obtain ⟨o, e', X', he, rfl, rfl, g5⟩ : ∃ o e' X', evLoop (evCode (ev R) R.glob (hlen H) evLoop f146l0) [0, 1, 5, 6] ⟨[(0, .d (txts xs)), (1, .d (txts ys)), (5, .slc (hlen H) 0 0 0), (6, .d (.int .i64 0))], ap H [.row 0 1 []]⟩ = some (o, ⟨e', X'⟩) ∧ o = .exit 0 ∧ X' = ap H [.row 0 1 []] ∧ e'.get 5 = .slc (hlen H) 0 0 0 := by
      have key : ∀ e : Env, e.get 0 = .d (txts xs) → e.get 1 = .d (txts ys) → e.get 5 = .slc (hlen H) 0 0 0 → e.get 6 = .d (.int .i64 0) → Gives (fun o e X => o ≠ .normal ∧ o = .exit 0 ∧ X = ap H [.row 0 1 []] ∧ e.get 5 = .slc (hlen H) 0 0 0) (evCode (ev R) R.glob (hlen H) evLoop f146l0 ⟨e.keep [0, 1, 5, 6], ap H [.row 0 1 []]⟩) := by
        intro e g0 g1 g5 g6
        by_cases hz : 0 < xs.length
        · have c : (0 : Int) < (xs.length : Int) := by omega
          cases a : setV xs with
          | true =>
            rw [a, Bool.true_and] at hb
            rw [a] at p1; rw [hb] at p3
            simp [evC, -List.getD_eq_getElem?_getD, -List.map_map, f146l0, g0, g1, g5, g6, c, hz, p1, p3, txts]
          | false =>
            rw [a] at p1
            simp [evC, -List.getD_eq_getElem?_getD, -List.map_map, f146l0, g0, g1, g5, g6, c, hz, p1, txts]
        · have c : ¬ (0 : Int) < (xs.length : Int) := by omega
          simp [evC, -List.getD_eq_getElem?_getD, -List.map_map, f146l0, g0, g1, g5, g6, c, hz, txts]
      obtain ⟨o, e', X', h1, h2, h3⟩ := (key [(0, .d (txts xs)), (1, .d (txts ys)), (5, .slc (hlen H) 0 0 0), (6, .d (.int .i64 0))] rfl rfl rfl rfl).out
      exact ⟨o, e', X', evLoop_stop h1 h2, h3⟩
    simp [evC, -List.getD_eq_getElem?_getD, -List.map_map, f146, he, g5, txts]
theorem p_148 (xs ys : List Txt) (hx : xs.length ≤ 1000000) (hy : ys.length ≤ 1000000) : pureCall (ev R) 148 [.d (txts xs), .d (txts ys)] =
    some (.d (txts (if setV xs = true ∧ setV ys = true then rLess xs ys else []))) := pureCall_eq fun H => by
  refine ev_fn (fn := f148) rfl rfl ?_
  have p1 := p_57 xs (by omega)
  have p3 := p_57 ys (by omega)
  by_cases hs : setV xs = true ∧ setV ys = true
  · rw [if_pos hs]
    obtain ⟨h1, h2⟩ := hs
    rw [h1] at p1
    rw [h2] at p3
    obtain ⟨o, e', X', he, rfl, rfl, g5⟩ := (loop_keep (F := evCode (ev R) R.glob (hlen H) evLoop f148l0) (lv := [0, 1, 5, 6]) xs.length
      (fun i e X => ∃ zs, zs = (xs.take i).filter (fun s => !decide (s ∈ ys)) ∧ X = ap H [.row zs.length 1 ((zs.map D.str).map V.d)] ∧ e.get 0 = .d (txts xs) ∧ e.get 1 = .d (txts ys) ∧ e.get 5 = .slc (hlen H) zs.length 0 zs.length ∧ e.get 6 = .d (.int .i64 i))
      (fun o e X => o = .exit 0 ∧ X = ap H [.row (xs.filter (fun s => !decide (s ∈ ys))).length 1 (((xs.filter (fun s => !decide (s ∈ ys))).map D.str).map V.d)] ∧ e.get 5 = .slc (hlen H) (xs.filter (fun s => !decide (s ∈ ys))).length 0 (xs.filter (fun s => !decide (s ∈ ys))).length)
      (by
        rintro e X ⟨zs, rfl, rfl, g0, g1, g5, g6⟩
        rw [List.take_length] at *
        simp [evC, -List.getD_eq_getElem?_getD, -List.map_map, f148l0, g0, g1, g5, g6, p1, p3, txts])
      (by
        rintro i e X hi ⟨zs, hz, rfl, g0, g1, g5, g6⟩
        have c : (i : Int) < (xs.length : Int) := by omega
        have g := txts_get xs i hi
        have w1 : IntKind.i64.wrap ((i : Int) + 1) = ((i + 1 : Nat) : Int) := by rw [IntWalk.i64_in _ (by omega)]; rfl
        have hf := take_fil (fun s => !decide (s ∈ ys)) xs i [] hi
        have hl := fil_len (fun s => !decide (s ∈ ys)) xs i hi
        rw [← hz] at hf hl
        have p2 := p_145 ys (xs.getD i []) (by omega)
        have r : (zs.length + 1) * 16 ≤ room := by unfold room; omega
        by_cases h : ¬ xs.getD i [] ∈ ys
        · simp only [decide_eq_false h, Bool.not_false, if_true] at hf
          rw [decide_eq_false h] at p2
          simp [evC, -List.getD_eq_getElem?_getD, -List.map_map, f148l0, g0, g1, g5, g6, p1, p3, c, g, hi, w1, hf, r, p2, p1, p3, txts]
        · simp only [decide_eq_true (Classical.not_not.1 h), Bool.not_true, Bool.false_eq_true, if_false, List.append_nil] at hf
          rw [decide_eq_true (Classical.not_not.1 h)] at p2
          simp [evC, -List.getD_eq_getElem?_getD, -List.map_map, f148l0, g0, g1, g5, g6, p1, p3, c, g, hi, w1, hf, p2, p1, p3, txts])
      xs.length 0 [(0, .d (txts xs)), (1, .d (txts ys)), (5, .slc (hlen H) 0 0 0), (6, .d (.int .i64 0))] (ap H [.row 0 1 []]) (by omega) ⟨[], by simp, rfl, rfl, rfl, rfl, rfl⟩).out
    simp [evC, -List.getD_eq_getElem?_getD, -List.map_map, f148, p1, p3, he, g5, rLess, txts]
  · rw [if_neg hs]
    have hb : (setV xs && setV ys) = false := by
      cases a : setV xs <;> cases b : setV ys <;> simp_all
    obtain ⟨o, e', X', he, rfl, rfl, g5⟩ : ∃ o e' X', evLoop (evCode (ev R) R.glob (hlen H) evLoop f148l0) [0, 1, 5, 6] ⟨[(0, .d (txts xs)), (1, .d (txts ys)), (5, .slc (hlen H) 0 0 0), (6, .d (.int .i64 0))], ap H [.row 0 1 []]⟩ = some (o, ⟨e', X'⟩) ∧ o = .exit 0 ∧ X' = ap H [.row 0 1 []] ∧ e'.get 5 = .slc (hlen H) 0 0 0 := by
      have key : ∀ e : Env, e.get 0 = .d (txts xs) → e.get 1 = .d (txts ys) → e.get 5 = .slc (hlen H) 0 0 0 → e.get 6 = .d (.int .i64 0) → Gives (fun o e X => o ≠ .normal ∧ o = .exit 0 ∧ X = ap H [.row 0 1 []] ∧ e.get 5 = .slc (hlen H) 0 0 0) (evCode (ev R) R.glob (hlen H) evLoop f148l0 ⟨e.keep [0, 1, 5, 6], ap H [.row 0 1 []]⟩) := by
        intro e g0 g1 g5 g6
        by_cases hz : 0 < xs.length
        · have c : (0 : Int) < (xs.length : Int) := by omega
          cases a : setV xs with
          | true =>
            rw [a, Bool.true_and] at hb
            rw [a] at p1; rw [hb] at p3
            simp [evC, -List.getD_eq_getElem?_getD, -List.map_map, f148l0, g0, g1, g5, g6, c, hz, p1, p3, txts]
          | false =>
            rw [a] at p1
            simp [evC, -List.getD_eq_getElem?_getD, -List.map_map, f148l0, g0, g1, g5, g6, c, hz, p1, txts]
        · have c : ¬ (0 : Int) < (xs.length : Int) := by omega
          simp [evC, -List.getD_eq_getElem?_getD, -List.map_map, f148l0, g0, g1, g5, g6, c, hz, txts]
      obtain ⟨o, e', X', h1, h2, h3⟩ := (key [(0, .d (txts xs)), (1, .d (txts ys)), (5, .slc (hlen H) 0 0 0), (6, .d (.int .i64 0))] rfl rfl rfl rfl).out
      exact ⟨o, e', X', evLoop_stop h1 h2, h3⟩
    simp [evC, -List.getD_eq_getElem?_getD, -List.map_map, f148, he, g5, txts]
def rWithout (xs : List Sc) (t : Txt) : List Sc := xs.filter fun x => !decide (x.1 = t)
theorem p_159 (xs : List Sc) (t : Txt) (hx : xs.length ≤ 1000000) : pureCall (ev R) 159 [.d (scs xs), .d (.str t)] = some (.d (scs (rWithout xs t))) := pureCall_eq fun H => by
  refine ev_fn (fn := f159) rfl rfl ?_
  obtain ⟨o, e', X', he, rfl, rfl, g5⟩ := (loop_keep (F := evCode (ev R) R.glob (hlen H) evLoop f159l0) (lv := [0, 1, 5, 6]) xs.length
    (fun i e X => ∃ zs, zs = (xs.take i).filter (fun x => !decide (x.1 = t)) ∧ X = ap H [.row zs.length 2 ((zs.map scD).map V.d)] ∧ e.get 0 = .d (scs xs) ∧ e.get 1 = .d (.str t) ∧ e.get 5 = .slc (hlen H) zs.length 0 zs.length ∧ e.get 6 = .d (.int .i64 i))
    (fun o e X => o = .exit 0 ∧ X = ap H [.row (xs.filter (fun x => !decide (x.1 = t))).length 2 (((xs.filter (fun x => !decide (x.1 = t))).map scD).map V.d)] ∧ e.get 5 = .slc (hlen H) (xs.filter (fun x => !decide (x.1 = t))).length 0 (xs.filter (fun x => !decide (x.1 = t))).length)
    (by
      rintro e X ⟨zs, rfl, rfl, g0, g1, g5, g6⟩
      rw [List.take_length] at *
      simp [evC, -List.getD_eq_getElem?_getD, -List.map_map, f159l0, g0, g1, g5, g6, scs])
    (by
      rintro i e X hi ⟨zs, hz, rfl, g0, g1, g5, g6⟩
      have c : (i : Int) < (xs.length : Int) := by omega
      have g := scs_get' xs i hi
      have w1 : IntKind.i64.wrap ((i : Int) + 1) = ((i + 1 : Nat) : Int) := by rw [IntWalk.i64_in _ (by omega)]; rfl
      have hf := take_fil (fun x => !decide (x.1 = t)) xs i ([], 0) hi
      have hl := fil_len (fun x => !decide (x.1 = t)) xs i hi
      rw [← hz] at hf hl
      have r : (zs.length + 1) * 24 ≤ room := by unfold room; omega
      by_cases h : ¬ (xs.getD i ([], 0)).1 = t
      · simp only [decide_eq_false h, Bool.not_false, if_true] at hf
        simp [evC, -List.getD_eq_getElem?_getD, -List.map_map, f159l0, g0, g1, g5, g6, c, g, hi, w1, hf, r, eq_false h, scs]
      · simp only [decide_eq_true (Classical.not_not.1 h), Bool.not_true, Bool.false_eq_true, if_false, List.append_nil] at hf
        have h := Classical.not_not.1 h
        simp [evC, -List.getD_eq_getElem?_getD, -List.map_map, f159l0, g0, g1, g5, g6, c, g, hi, w1, hf, eq_true h, scs])
    xs.length 0 [(0, .d (scs xs)), (1, .d (.str t)), (5, .slc (hlen H) 0 0 0), (6, .d (.int .i64 0))] (ap H [.row 0 2 []]) (by omega) ⟨[], by simp, rfl, rfl, rfl, rfl, rfl⟩).out
  simp [evC, -List.getD_eq_getElem?_getD, -List.map_map, f159, he, g5, rWithout, scs]
theorem p_58 (xs : List Sc) (hx : xs.length ≤ 9223372036854775807) : pureCall (ev R) 58 [.d (scs xs)] = some (.d (.bool (scoresV xs))) := pureCall_eq fun H => e_58 H xs hx
theorem p_59 (xs : List Pr) (hx : xs.length ≤ 9223372036854775807) : pureCall (ev R) 59 [.d (prs xs)] = some (.d (.bool (fieldsV xs))) := pureCall_eq fun H => e_59 H xs hx
end Go.Proofs.YtjdmiodinhlchaaGreat.Code
/- Places in order: of a field, of a key. -/
namespace Go.Proofs.YtjdmiodinhlchaaGreat.Code
open Go Go.Ev Go.Proofs
set_option maxRecDepth 100000
set_option linter.unusedSimpArgs false
set_option linter.unusedVariables false
theorem tw_le {α : Type} (p : α → Bool) (xs : List α) : (xs.takeWhile p).length ≤ xs.length := (List.takeWhile_prefix p).length_le
theorem tw_next {α : Type} (p : α → Bool) (d : α) : ∀ (xs : List α) (i : Nat), i ≤ (xs.takeWhile p).length → i < xs.length → p (xs.getD i d) = true → i + 1 ≤ (xs.takeWhile p).length
  | [], i, _, h, _ => by simp at h
  | x :: xs, 0, _, _, h => by
    simp only [List.getD_cons_zero] at h
    simp [List.takeWhile, h]
  | x :: xs, i + 1, h1, h2, h => by
    cases hp : p x with
    | false => simp [List.takeWhile, hp] at h1
    | true =>
      simp only [List.takeWhile, hp, List.length_cons] at h1 ⊢
      have := tw_next p d xs i (by omega) (by simpa using h2) (by simpa using h)
      omega
theorem tw_stop {α : Type} (p : α → Bool) (d : α) : ∀ (xs : List α) (i : Nat), i ≤ (xs.takeWhile p).length → i < xs.length → p (xs.getD i d) = false → i = (xs.takeWhile p).length
  | [], i, _, h, _ => by simp at h
  | x :: xs, 0, _, _, h => by
    simp only [List.getD_cons_zero] at h
    simp [List.takeWhile, h]
  | x :: xs, i + 1, h1, h2, h => by
    cases hp : p x with
    | false => simp [List.takeWhile, hp] at h1
    | true =>
      simp only [List.takeWhile, hp, List.length_cons] at h1 ⊢
      have := tw_stop p d xs i (by omega) (by simpa using h2) (by simpa using h)
      omega
def fAt (xs : List Pr) (t : Txt) : Nat := (xs.takeWhile fun x => Op.bytesLess x.1 t).length
def fHas (xs : List Pr) (t : Txt) : Bool := decide (fAt xs t < xs.length) && decide ((xs.getD (fAt xs t) ([], [])).1 = t)
theorem fAt_le (xs : List Pr) (t : Txt) : fAt xs t ≤ xs.length := tw_le _ _
theorem p_127 (xs : List Pr) (t : Txt) (hx : xs.length ≤ 1000000) : pureCall (ev R) 127 [.d (prs xs), .d (.str t)] = some (.tup [.d (.int .i64 (fAt xs t)), .d (.bool (fHas xs t))]) := pureCall_eq fun H => by
  refine ev_fn (fn := f127) rfl rfl ?_
  obtain ⟨o, e', X', he, rfl, rfl, g0, g1, g6⟩ := (loop_keep (F := evCode (ev R) R.glob (hlen H) evLoop f127l0) (lv := [0, 1, 6]) xs.length
    (fun i e X => X = H ∧ e.get 0 = .d (prs xs) ∧ e.get 1 = .d (.str t) ∧ e.get 6 = .d (.int .i64 i) ∧ i ≤ fAt xs t)
    (fun o e X => o = .exit 0 ∧ X = H ∧ e.get 0 = .d (prs xs) ∧ e.get 1 = .d (.str t) ∧ e.get 6 = .d (.int .i64 (fAt xs t)))
    (by
      rintro e X ⟨rfl, g0, g1, g6, hi⟩
      have hn : fAt xs t = xs.length := Nat.le_antisymm (fAt_le xs t) hi
      simp [evC, -List.getD_eq_getElem?_getD, -List.map_map, f127l0, g0, g1, g6, hn, prs])
    (by
      rintro i e X hi ⟨rfl, g0, g1, g6, hk⟩
      have c : (i : Int) < (xs.length : Int) := by omega
      have g := prs_get' xs i hi
      have w1 : IntKind.i64.wrap ((i : Int) + 1) = ((i + 1 : Nat) : Int) := by rw [IntWalk.i64_in _ (by omega)]; rfl
      cases h : Op.bytesLess (xs.getD i ([], [])).1 t with
      | true =>
        have hn := tw_next (fun x : Pr => Op.bytesLess x.1 t) ([], []) xs i hk hi h
        have hn' : i + 1 ≤ fAt xs t := hn
        simp [evC, -List.getD_eq_getElem?_getD, -List.map_map, f127l0, g0, g1, g6, c, hi, g, w1, h, hn', prs]
      | false =>
        have hn : i = fAt xs t := tw_stop (fun x : Pr => Op.bytesLess x.1 t) ([], []) xs i hk hi h
        simp [evC, -List.getD_eq_getElem?_getD, -List.map_map, f127l0, g0, g1, g6, c, hi, g, w1, h, ← hn, prs])
    xs.length 0 [(0, .d (prs xs)), (1, .d (.str t)), (6, .d (.int .i64 0))] H (by omega) ⟨rfl, rfl, rfl, rfl, Nat.zero_le _⟩).out
  by_cases hl : fAt xs t < xs.length
  · have c : (fAt xs t : Int) < (xs.length : Int) := by omega
    have g := prs_get' xs (fAt xs t) hl
    simp [evC, -List.getD_eq_getElem?_getD, -List.map_map, f127, he, g0, g1, g6, hl, c, g, fHas, prs]
  · have c : ¬ (fAt xs t : Int) < (xs.length : Int) := by omega
    simp [evC, -List.getD_eq_getElem?_getD, -List.map_map, f127, he, g0, g1, g6, hl, c, fHas, prs]
def kAt (es : List En) (t : Txt) : Nat := (es.takeWhile fun e => Op.bytesLess e.key t).length
def kHas (es : List En) (t : Txt) : Bool := decide (kAt es t < es.length) && decide ((es.getD (kAt es t) default).key = t)
theorem kAt_le (es : List En) (t : Txt) : kAt es t ≤ es.length := tw_le _ _
theorem p_45 (b : Ba) (t : Txt) (hx : b.ents.length ≤ 1000000) : pureCall (ev R) 45 [.d (baD b), .d (.str t)] = some (.tup [.d (.int .i64 (kAt b.ents t)), .d (.bool (kHas b.ents t))]) := pureCall_eq fun H => by
  refine ev_fn (fn := f45) rfl rfl ?_
  obtain ⟨o, e', X', he, rfl, rfl, g2, g1, g6⟩ := (loop_keep (F := evCode (ev R) R.glob (hlen H) evLoop f45l0) (lv := [1, 2, 6]) b.ents.length
    (fun i e X => X = ap H [.row 0 2 [.d (baD b)]] ∧ e.get 2 = .ptr (hlen H) 0 0 0 ∧ e.get 1 = .d (.str t) ∧ e.get 6 = .d (.int .i64 i) ∧ i ≤ kAt b.ents t)
    (fun o e X => o = .exit 0 ∧ X = ap H [.row 0 2 [.d (baD b)]] ∧ e.get 2 = .ptr (hlen H) 0 0 0 ∧ e.get 1 = .d (.str t) ∧ e.get 6 = .d (.int .i64 (kAt b.ents t)))
    (by
      rintro e X ⟨rfl, g2, g1, g6, hi⟩
      have hn : kAt b.ents t = b.ents.length := Nat.le_antisymm (kAt_le b.ents t) hi
      simp [evC, -List.getD_eq_getElem?_getD, -List.map_map, f45l0, g2, g1, g6, hn])
    (by
      rintro i e X hi ⟨rfl, g2, g1, g6, hk⟩
      have c : (i : Int) < (b.ents.length : Int) := by omega
      have g := ents_get b.ents i hi
      have w1 : IntKind.i64.wrap ((i : Int) + 1) = ((i + 1 : Nat) : Int) := by rw [IntWalk.i64_in _ (by omega)]; rfl
      cases h : Op.bytesLess (b.ents.getD i default).key t with
      | true =>
        have hn := tw_next (fun e : En => Op.bytesLess e.key t) default b.ents i hk hi h
        have hn' : i + 1 ≤ kAt b.ents t := hn
        simp [evC, -List.getD_eq_getElem?_getD, -List.map_map, f45l0, g2, g1, g6, c, hi, g, w1, h, hn']
      | false =>
        have hn : i = kAt b.ents t := tw_stop (fun e : En => Op.bytesLess e.key t) default b.ents i hk hi h
        simp [evC, -List.getD_eq_getElem?_getD, -List.map_map, f45l0, g2, g1, g6, c, hi, g, w1, h, ← hn])
    b.ents.length 0 [(1, .d (.str t)), (2, .ptr (hlen H) 0 0 0), (6, .d (.int .i64 0))] (ap H [.row 0 2 [.d (baD b)]]) (by omega) ⟨rfl, rfl, rfl, rfl, Nat.zero_le _⟩).out
  by_cases hl : kAt b.ents t < b.ents.length
  · have c : (kAt b.ents t : Int) < (b.ents.length : Int) := by omega
    have g := ents_get b.ents (kAt b.ents t) hl
    simp [evC, -List.getD_eq_getElem?_getD, -List.map_map, f45, he, g2, g1, g6, hl, c, g, kHas]
  · have c : ¬ (kAt b.ents t : Int) < (b.ents.length : Int) := by omega
    simp [evC, -List.getD_eq_getElem?_getD, -List.map_map, f45, he, g2, g1, g6, hl, c, kHas]
end Go.Proofs.YtjdmiodinhlchaaGreat.Code
/- Texts, scores and fields put in their places. -/
namespace Go.Proofs.YtjdmiodinhlchaaGreat.Code
open Go Go.Ev Go.Proofs
set_option maxRecDepth 100000
set_option linter.unusedSimpArgs false
set_option linter.unusedVariables false
def insAt {α : Type} (xs : List α) (k : Nat) (x : α) : List α := xs.take k ++ (x :: xs.drop k)
theorem insAt_len {α : Type} (xs : List α) (k : Nat) (x : α) : (insAt xs k x).length = xs.length + 1 := by
  simp only [insAt, List.length_append, List.length_take, List.length_cons, List.length_drop]; omega
theorem ins_fold {α : Type} (f : α → D) (xs : List α) (k : Nat) (x : α) : List.take k (List.map V.d (List.map f xs)) ++ V.d (f x) :: List.drop k (List.map V.d (List.map f xs)) = List.map V.d (List.map f (insAt xs k x)) := by
  simp only [insAt, List.map_append, List.map_cons, List.map_take, List.map_drop]
theorem ins_take {α : Type} (f : α → D) (xs : List α) (k : Nat) (x : α) (h : k ≤ xs.length) : List.take (k + 1 + (xs.length - k)) (List.map V.d (List.map f (insAt xs k x))) = List.map V.d (List.map f (insAt xs k x)) := by
  refine List.take_of_length_le ?_
  simp only [List.length_map, insAt_len]; omega
theorem ins_le {α : Type} (xs : List α) (k : Nat) (x : α) (h : k ≤ xs.length) : (k + 1 + (xs.length - k) ≤ (insAt xs k x).length) = True := eq_true (by rw [insAt_len]; omega)
def tAt (xs : List Txt) (t : Txt) : Nat := (xs.takeWhile fun x => Op.bytesLess x t).length
def tHas (xs : List Txt) (t : Txt) : Bool := decide (tAt xs t < xs.length) && decide (xs.getD (tAt xs t) [] = t)
theorem tAt_le (xs : List Txt) (t : Txt) : tAt xs t ≤ xs.length := tw_le _ _
def rPut (xs : List Txt) (t : Txt) : List Txt := if tHas xs t = true then xs else insAt xs (tAt xs t) t
theorem p_125 (xs : List Txt) (t : Txt) (hx : xs.length ≤ 1000000) : pureCall (ev R) 125 [.d (txts xs), .d (.str t)] = some (.d (txts (rPut xs t))) := pureCall_eq fun H => by
  refine ev_fn (fn := f125) rfl rfl ?_
  obtain ⟨o, e', X', he, rfl, rfl, g0, g1, g5⟩ := (loop_keep (F := evCode (ev R) R.glob (hlen H) evLoop f125l0) (lv := [0, 1, 5]) xs.length
    (fun i e X => X = H ∧ e.get 0 = .d (txts xs) ∧ e.get 1 = .d (.str t) ∧ e.get 5 = .d (.int .i64 i) ∧ i ≤ tAt xs t)
    (fun o e X => o = .exit 0 ∧ X = H ∧ e.get 0 = .d (txts xs) ∧ e.get 1 = .d (.str t) ∧ e.get 5 = .d (.int .i64 (tAt xs t)))
    (by
      rintro e X ⟨rfl, g0, g1, g5, hi⟩
      have hn : tAt xs t = xs.length := Nat.le_antisymm (tAt_le xs t) hi
      simp [evC, -List.getD_eq_getElem?_getD, -List.map_map, f125l0, g0, g1, g5, hn, txts])
    (by
      rintro i e X hi ⟨rfl, g0, g1, g5, hk⟩
      have c : (i : Int) < (xs.length : Int) := by omega
      have g := txts_get xs i hi
      have w1 : IntKind.i64.wrap ((i : Int) + 1) = ((i + 1 : Nat) : Int) := by rw [IntWalk.i64_in _ (by omega)]; rfl
      cases h : Op.bytesLess (xs.getD i []) t with
      | true =>
        have hn := tw_next (fun x : Txt => Op.bytesLess x t) [] xs i hk hi h
        have hn' : i + 1 ≤ tAt xs t := hn
        simp [evC, -List.getD_eq_getElem?_getD, -List.map_map, f125l0, g0, g1, g5, c, hi, g, w1, h, hn', txts]
      | false =>
        have hn : i = tAt xs t := tw_stop (fun x : Txt => Op.bytesLess x t) [] xs i hk hi h
        simp [evC, -List.getD_eq_getElem?_getD, -List.map_map, f125l0, g0, g1, g5, c, hi, g, w1, h, ← hn, txts])
    xs.length 0 [(0, .d (txts xs)), (1, .d (.str t)), (5, .d (.int .i64 0))] H (by omega) ⟨rfl, rfl, rfl, rfl, Nat.zero_le _⟩).out
  have hk := tAt_le xs t
  have hk' : (tAt xs t : Int) ≤ (xs.length : Int) := by omega
  have hk0 : (0 : Int) ≤ (tAt xs t : Int) := by omega
  have r1 : tAt xs t * 16 ≤ room := by unfold room; omega
  have r2 : (tAt xs t + 1) * 16 ≤ room := by unfold room; omega
  have r3 : (tAt xs t + 1 + (xs.length - tAt xs t)) * 16 ≤ room := by unfold room; omega
  have mn : min (tAt xs t) xs.length = tAt xs t := by omega
  have f1 := ins_fold D.str xs (tAt xs t) t
  have f2 := ins_take D.str xs (tAt xs t) t hk
  have f3 := ins_le xs (tAt xs t) t hk
  unfold rPut
  cases h : tHas xs t with
  | true =>
    unfold tHas at h
    rw [Bool.and_eq_true, decide_eq_true_eq, decide_eq_true_eq] at h
    obtain ⟨hl, h2⟩ := h
    have c : (tAt xs t : Int) < (xs.length : Int) := by omega
    have g := txts_get xs (tAt xs t) hl
    simp [evC, -List.getD_eq_getElem?_getD, -List.map_map, f125, he, g0, g1, g5, hl, c, g, eq_true h2, txts]
  | false =>
    unfold tHas at h
    by_cases hl : tAt xs t < xs.length
    · rw [decide_eq_true hl, Bool.true_and, decide_eq_false_iff_not] at h
      have c : (tAt xs t : Int) < (xs.length : Int) := by omega
      have g := txts_get xs (tAt xs t) hl
      simp [evC, -List.getD_eq_getElem?_getD, -List.map_map, f125, he, g0, g1, g5, hl, c, g, eq_false h, txts, bound, hk, hk', hk0, r1, r2, r3, mn, f1, f2, f3]
    · have c : ¬ (tAt xs t : Int) < (xs.length : Int) := by omega
      simp [evC, -List.getD_eq_getElem?_getD, -List.map_map, f125, he, g0, g1, g5, hl, c, txts, bound, hk, hk', hk0, r1, r2, r3, mn, f1, f2, f3]
def sAt (xs : List Sc) (x : Sc) : Nat := (xs.takeWhile fun y => aheadV y.1 x.1 y.2 x.2).length
theorem sAt_le (xs : List Sc) (x : Sc) : sAt xs x ≤ xs.length := tw_le _ _
def rSPut (xs : List Sc) (x : Sc) : List Sc := insAt (rWithout xs x.1) (sAt (rWithout xs x.1) x) x
theorem rWithout_le (xs : List Sc) (t : Txt) : (rWithout xs t).length ≤ xs.length := List.length_filter_le _ _
theorem p_84 (x y : Sc) : pureCall (ev R) 84 [.d (scD x), .d (scD y)] = some (.d (.bool (aheadV x.1 y.1 x.2 y.2))) := pureCall_eq fun H => e_84 H x.1 y.1 x.2 y.2
theorem p_126 (xs : List Sc) (x : Sc) (hx : xs.length ≤ 1000000) : pureCall (ev R) 126 [.d (scs xs), .d (scD x)] =
    some (if scoresV xs = true then (if scoresV (rSPut xs x) = true then .tup [.d (scs (rSPut xs x)), .d (.bool (decide ((rWithout xs x.1).length = xs.length))), .d (.bool true)] else .tup [.d (scs xs), .d (.bool false), .d (.bool false)]) else .tup [.d (scs []), .d (.bool false), .d (.bool false)]) := pureCall_eq fun H => by
  refine ev_fn (fn := f126) rfl rfl ?_
  have p1 := p_58 xs (by omega)
  cases h1 : scoresV xs with
  | false =>
    rw [h1] at p1
    simp [evC, -List.getD_eq_getElem?_getD, -List.map_map, f126, p1, scs]
  | true =>
    rw [h1] at p1
    have hw := rWithout_le xs x.1
    have p2 := p_159 xs x.1 hx
    have hr : rSPut xs x = insAt (rWithout xs x.1) (sAt (rWithout xs x.1) x) x := rfl
    generalize rWithout xs x.1 = ys at *
    obtain ⟨o, e', X', he, rfl, rfl, g0, g3, g7, g8⟩ := (loop_keep (F := evCode (ev R) R.glob (hlen H) evLoop f126l0) (lv := [0, 3, 7, 8]) ys.length
      (fun i e X => X = ap H [.row 0 2 [.d (scD x)]] ∧ e.get 0 = .d (scs xs) ∧ e.get 3 = .ptr (hlen H) 0 0 0 ∧ e.get 7 = .d (scs ys) ∧ e.get 8 = .d (.int .i64 i) ∧ i ≤ sAt ys x)
      (fun o e X => o = .exit 0 ∧ X = ap H [.row 0 2 [.d (scD x)]] ∧ e.get 0 = .d (scs xs) ∧ e.get 3 = .ptr (hlen H) 0 0 0 ∧ e.get 7 = .d (scs ys) ∧ e.get 8 = .d (.int .i64 (sAt ys x)))
      (by
        rintro e X ⟨rfl, g0, g3, g7, g8, hi⟩
        have hn : sAt ys x = ys.length := Nat.le_antisymm (sAt_le ys x) hi
        simp [evC, -List.getD_eq_getElem?_getD, -List.map_map, f126l0, g0, g3, g7, g8, hn, scs])
      (by
        rintro i e X hi ⟨rfl, g0, g3, g7, g8, hk⟩
        have c : (i : Int) < (ys.length : Int) := by omega
        have g := scs_get' ys i hi
        have p3 := p_84 (ys.getD i ([], 0)) x
        have w1 : IntKind.i64.wrap ((i : Int) + 1) = ((i + 1 : Nat) : Int) := by rw [IntWalk.i64_in _ (by omega)]; rfl
        cases h : aheadV (ys.getD i ([], 0)).1 x.1 (ys.getD i ([], 0)).2 x.2 with
        | true =>
          rw [h] at p3
          have hn := tw_next (fun y : Sc => aheadV y.1 x.1 y.2 x.2) ([], 0) ys i hk hi h
          have hn' : i + 1 ≤ sAt ys x := hn
          simp [evC, -List.getD_eq_getElem?_getD, -List.map_map, f126l0, g0, g3, g7, g8, c, hi, g, w1, p3, hn', scs]
        | false =>
          rw [h] at p3
          have hn : i = sAt ys x := tw_stop (fun y : Sc => aheadV y.1 x.1 y.2 x.2) ([], 0) ys i hk hi h
          simp [evC, -List.getD_eq_getElem?_getD, -List.map_map, f126l0, g0, g3, g7, g8, c, hi, g, w1, p3, ← hn, scs])
      ys.length 0 [(0, .d (scs xs)), (3, .ptr (hlen H) 0 0 0), (7, .d (scs ys)), (8, .d (.int .i64 0))] (ap H [.row 0 2 [.d (scD x)]]) (by omega) ⟨rfl, rfl, rfl, rfl, rfl, Nat.zero_le _⟩).out
    have hk := sAt_le ys x
    rw [hr]
    generalize sAt ys x = k at *
    have hk' : (k : Int) ≤ (ys.length : Int) := by omega
    have hk0 : (0 : Int) ≤ (k : Int) := by omega
    have r1 : k * 24 ≤ room := by unfold room; omega
    have r2 : (k + 1) * 24 ≤ room := by unfold room; omega
    have r3 : (k + 1 + (ys.length - k)) * 24 ≤ room := by unfold room; omega
    have r4 : xs.length * 24 ≤ room := by unfold room; omega
    have mn : min k ys.length = k := by omega
    have f1 := ins_fold scD ys k x
    have f2 := ins_take scD ys k x hk
    have f3 := ins_le ys k x hk
    have p4 := p_58 (insAt ys k x) (by rw [insAt_len]; omega)
    have vw : allD (List.map V.d (List.map scD (insAt ys k x))) = some (List.map scD (insAt ys k x)) := allD_d' _
    have f2' : List.take (k + 1 + (ys.length - k)) (List.map scD (insAt ys k x)) = List.map scD (insAt ys k x) := by
      refine List.take_of_length_le ?_
      simp only [List.length_map, insAt_len]; omega
    cases h2 : scoresV (insAt ys k x) with
    | true =>
      rw [h2] at p4
      by_cases hl : ys.length = xs.length
      · have hl' : (ys.length : Int) = (xs.length : Int) := by omega
        simp [evC, -List.getD_eq_getElem?_getD, -List.map_map, f126, p1, p2, he, g0, g3, g7, g8, bound, hk, hk', hk0, r1, r2, r3, r4, mn, f1, f2, f2', f3, p4, eq_true hl, eq_true hl', scs]
      · have hl' : ¬ (ys.length : Int) = (xs.length : Int) := by omega
        simp [evC, -List.getD_eq_getElem?_getD, -List.map_map, f126, p1, p2, he, g0, g3, g7, g8, bound, hk, hk', hk0, r1, r2, r3, r4, mn, f1, f2, f2', f3, p4, eq_false hl, eq_false hl', scs]
    | false =>
      rw [h2] at p4
      simp [evC, -List.getD_eq_getElem?_getD, -List.map_map, f126, p1, p2, he, g0, g3, g7, g8, bound, hk, hk', hk0, r1, r2, r3, r4, mn, f1, f2, f2', f3, p4, scs]
end Go.Proofs.YtjdmiodinhlchaaGreat.Code
/- Fields put, dropped, found; scores dropped, ranked. -/
namespace Go.Proofs.YtjdmiodinhlchaaGreat.Code
open Go Go.Ev Go.Proofs
set_option maxRecDepth 100000
set_option linter.unusedSimpArgs false
set_option linter.unusedVariables false
def delAt {α : Type} (xs : List α) (k : Nat) : List α := xs.take k ++ xs.drop (k + 1)
theorem delAt_len {α : Type} (xs : List α) (k : Nat) (h : k < xs.length) : (delAt xs k).length = xs.length - 1 := by
  simp only [delAt, List.length_append, List.length_take, List.length_drop]; omega
theorem del_fold {α : Type} (f : α → D) (xs : List α) (k : Nat) : List.take k (List.map V.d (List.map f xs)) ++ List.drop (k + 1) (List.map V.d (List.map f xs)) = List.map V.d (List.map f (delAt xs k)) := by
  simp only [delAt, List.map_append, List.map_take, List.map_drop]
theorem del_take {α : Type} (f : α → D) (xs : List α) (k : Nat) (h : k < xs.length) : List.take (k + (xs.length - (k + 1))) (List.map V.d (List.map f (delAt xs k))) = List.map V.d (List.map f (delAt xs k)) := by
  refine List.take_of_length_le ?_
  simp only [List.length_map, delAt_len _ _ h]; omega
theorem del_le {α : Type} (xs : List α) (k : Nat) (h : k < xs.length) : (k + (xs.length - (k + 1)) ≤ (delAt xs k).length) = True := eq_true (by rw [delAt_len _ _ h]; omega)
def rFPut (xs : List Pr) (x : Pr) : List Pr := if fHas xs x.1 = true then xs.set (fAt xs x.1) x else insAt xs (fAt xs x.1) x
theorem set_fold {α : Type} (f : α → D) (xs : List α) (k : Nat) (x : α) : (List.map V.d (List.map f xs)).set k (V.d (f x)) = List.map V.d (List.map f (xs.set k x)) := by
  simp only [List.map_set]
theorem rFPut_len (xs : List Pr) (x : Pr) : (rFPut xs x).length ≤ xs.length + 1 := by
  unfold rFPut
  split
  · rw [List.length_set]; omega
  · rw [insAt_len]; omega
theorem p_105 (xs : List Pr) (x : Pr) (hx : xs.length ≤ 1000000) : pureCall (ev R) 105 [.d (prs xs), .d (prD x)] =
    some (if fieldsV xs = true then (if fieldsV (rFPut xs x) = true then .tup [.d (prs (rFPut xs x)), .d (.bool (!fHas xs x.1)), .d (.bool true)] else .tup [.d (prs xs), .d (.bool false), .d (.bool false)]) else .tup [.d (prs []), .d (.bool false), .d (.bool false)]) := pureCall_eq fun H => by
  refine ev_fn (fn := f105) rfl rfl ?_
  have p1 := p_59 xs (by omega)
  cases h1 : fieldsV xs with
  | false =>
    rw [h1] at p1
    simp [evC, -List.getD_eq_getElem?_getD, -List.map_map, f105, p1, prs]
  | true =>
    rw [h1] at p1
    have p2 := p_127 xs x.1 hx
    have hk := fAt_le xs x.1
    have hx1 := rFPut_len xs x
    have p4 := p_59 (rFPut xs x) (by omega)
    have hr : rFPut xs x = if fHas xs x.1 = true then xs.set (fAt xs x.1) x else insAt xs (fAt xs x.1) x := rfl
    have hl : fHas xs x.1 = true → fAt xs x.1 < xs.length := fun h => by
      unfold fHas at h
      rw [Bool.and_eq_true, decide_eq_true_eq] at h
      exact h.1
    generalize fAt xs x.1 = k at *
    have hk' : (k : Int) ≤ (xs.length : Int) := by omega
    have hk0 : (0 : Int) ≤ (k : Int) := by omega
    have r1 : k * 32 ≤ room := by unfold room; omega
    have r2 : (k + 1) * 32 ≤ room := by unfold room; omega
    have r3 : (k + 1 + (xs.length - k)) * 32 ≤ room := by unfold room; omega
    have r4 : xs.length * 32 ≤ room := by unfold room; omega
    have mn : min k xs.length = k := by omega
    cases h3 : fHas xs x.1 with
    | true =>
      have hl := hl h3
      have hl' : (k : Int) < (xs.length : Int) := by omega
      rw [h3] at p2
      rw [h3, if_pos rfl] at hr
      have f1 := set_fold prD xs k x
      rw [hr] at p4 ⊢
      have f4 : List.take xs.length (List.map V.d (List.map prD (xs.set k x))) = List.map V.d (List.map prD (xs.set k x)) := List.take_of_length_le (by simp)
      have f5 : List.take xs.length (List.map prD (xs.set k x)) = List.map prD (xs.set k x) := List.take_of_length_le (by simp)
      have f6 : (xs.set k x).length = xs.length := List.length_set
      generalize xs.set k x = zs at *
      cases h2 : fieldsV zs with
      | true =>
        rw [h2] at p4
        simp [evC, -List.getD_eq_getElem?_getD, -List.map_map, f105, p1, p2, r4, hl, hl', hk0, f1, f4, f5, f6, p4, prs]
      | false =>
        rw [h2] at p4
        simp [evC, -List.getD_eq_getElem?_getD, -List.map_map, f105, p1, p2, r4, hl, hl', hk0, f1, f4, f5, f6, p4, prs]
    | false =>
      rw [h3] at p2
      rw [h3, if_neg (by simp)] at hr
      rw [hr] at p4 ⊢
      have f1 := ins_fold prD xs k x
      have f2 := ins_take prD xs k x hk
      have f3 := ins_le xs k x hk
      have f2' : List.take (k + 1 + (xs.length - k)) (List.map prD (insAt xs k x)) = List.map prD (insAt xs k x) := by
        refine List.take_of_length_le ?_
        simp only [List.length_map, insAt_len]; omega
      cases h2 : fieldsV (insAt xs k x) with
      | true =>
        rw [h2] at p4
        simp [evC, -List.getD_eq_getElem?_getD, -List.map_map, f105, p1, p2, bound, hk, hk', hk0, r1, r2, r3, r4, mn, f1, f2, f2', f3, p4, prs]
      | false =>
        rw [h2] at p4
        simp [evC, -List.getD_eq_getElem?_getD, -List.map_map, f105, p1, p2, bound, hk, hk', hk0, r1, r2, r3, r4, mn, f1, f2, f2', f3, p4, prs]
theorem p_155 (xs : List Pr) (t : Txt) (hx : xs.length ≤ 1000000) : pureCall (ev R) 155 [.d (prs xs), .d (.str t)] =
    some (if fieldsV xs = true then .tup [.d (prs (if fHas xs t = true then delAt xs (fAt xs t) else xs)), .d (.bool (fHas xs t))] else .tup [.d (prs []), .d (.bool false)]) := pureCall_eq fun H => by
  refine ev_fn (fn := f155) rfl rfl ?_
  have p1 := p_59 xs (by omega)
  cases h1 : fieldsV xs with
  | false =>
    rw [h1] at p1
    simp [evC, -List.getD_eq_getElem?_getD, -List.map_map, f155, p1, prs]
  | true =>
    rw [h1] at p1
    have p2 := p_127 xs t hx
    have hl : fHas xs t = true → fAt xs t < xs.length := fun h => by
      unfold fHas at h
      rw [Bool.and_eq_true, decide_eq_true_eq] at h
      exact h.1
    generalize fAt xs t = k at *
    have r4 : xs.length * 32 ≤ room := by unfold room; omega
    cases h3 : fHas xs t with
    | false =>
      rw [h3] at p2
      simp [evC, -List.getD_eq_getElem?_getD, -List.map_map, f155, p1, p2, r4, prs]
    | true =>
      rw [h3] at p2
      have hl := hl h3
      have hk : k ≤ xs.length := by omega
      have hk' : (k : Int) ≤ (xs.length : Int) := by omega
      have hk0 : (0 : Int) ≤ (k : Int) := by omega
      have w1 : IntKind.i64.wrap ((k : Int) + 1) = ((k + 1 : Nat) : Int) := by rw [IntWalk.i64_in _ (by omega)]; rfl
      have hk1 : (k : Int) + 1 ≤ (xs.length : Int) := by omega
      have hk4 : ((k : Int) + 1).toNat = k + 1 := by omega
      have hk2 : k + 1 ≤ xs.length := by omega
      have hk3 : (0 : Int) ≤ (k : Int) + 1 := by omega
      have r1 : k * 32 ≤ room := by unfold room; omega
      have r3 : (k + (xs.length - (k + 1))) * 32 ≤ room := by unfold room; omega
      have mn : min k xs.length = k := by omega
      have f1 := del_fold prD xs k
      have f2 := del_take prD xs k hl
      have f3 := del_le xs k hl
      simp [evC, -List.getD_eq_getElem?_getD, -List.map_map, f155, p1, p2, bound, hl, hk, hk', hk0, w1, hk1, hk2, hk3, hk4, r1, r3, mn, f1, f2, f3, prs]
theorem p_154 (xs : List Pr) (t : Txt) (hx : xs.length ≤ 1000000) : pureCall (ev R) 154 [.d (prs xs), .d (.str t)] =
    some (if fieldsV xs = true ∧ fHas xs t = true then .tup [.d (.str (xs.getD (fAt xs t) ([], [])).2), .d (.bool true)] else .tup [.d (.str []), .d (.bool false)]) := pureCall_eq fun H => by
  refine ev_fn (fn := f154) rfl rfl ?_
  have p1 := p_59 xs (by omega)
  have p2 := p_127 xs t hx
  cases h1 : fieldsV xs with
  | false =>
    rw [h1] at p1
    simp [evC, -List.getD_eq_getElem?_getD, -List.map_map, f154, p1, p2, prs]
  | true =>
    rw [h1] at p1
    have hl : fHas xs t = true → fAt xs t < xs.length := fun h => by
      unfold fHas at h
      rw [Bool.and_eq_true, decide_eq_true_eq] at h
      exact h.1
    generalize fAt xs t = k at *
    cases h3 : fHas xs t with
    | false =>
      rw [h3] at p2
      simp [evC, -List.getD_eq_getElem?_getD, -List.map_map, f154, p1, p2, prs]
    | true =>
      rw [h3] at p2
      have hl := hl h3
      have hl' : (k : Int) < (xs.length : Int) := by omega
      have hk0 : (0 : Int) ≤ (k : Int) := by omega
      have g := prs_get' xs k hl
      simp [evC, -List.getD_eq_getElem?_getD, -List.map_map, f154, p1, p2, g, hl, hl', hk0, prs]
theorem p_149 (xs : List Sc) (t : Txt) (hx : xs.length ≤ 1000000) : pureCall (ev R) 149 [.d (scs xs), .d (.str t)] =
    some (if scoresV xs = true then .tup [.d (scs (rWithout xs t)), .d (.bool (decide ((rWithout xs t).length < xs.length)))] else .tup [.d (scs []), .d (.bool false)]) := pureCall_eq fun H => by
  refine ev_fn (fn := f149) rfl rfl ?_
  have p1 := p_58 xs (by omega)
  have p2 := p_159 xs t hx
  cases h1 : scoresV xs with
  | false =>
    rw [h1] at p1
    simp [evC, -List.getD_eq_getElem?_getD, -List.map_map, f149, p1, scs]
  | true =>
    rw [h1] at p1
    generalize rWithout xs t = ys at *
    simp [evC, -List.getD_eq_getElem?_getD, -List.map_map, f149, p1, p2, scs]
def rRank (xs : List Sc) (t : Txt) : Int := if scoresV xs = true then (if (xs.takeWhile fun x => !decide (x.1 = t)).length < xs.length then ((xs.takeWhile fun x => !decide (x.1 = t)).length : Int) else -1) else -1
theorem p_150 (xs : List Sc) (t : Txt) (hx : xs.length ≤ 1000000) : pureCall (ev R) 150 [.d (scs xs), .d (.str t)] = some (.d (.int .i64 (rRank xs t))) := pureCall_eq fun H => by
  refine ev_fn (fn := f150) rfl rfl ?_
  have p1 := p_58 xs (by omega)
  have key : Gives (fun o e X => X = H ∧ (o = .exit 0 ∧ rRank xs t = -1 ∨ o = .ret ∧ e.get 4 = .d (.int .i64 (rRank xs t)))) (evLoop (evCode (ev R) R.glob (hlen H) evLoop f150l0) [0, 1, 5] ⟨[(0, .d (scs xs)), (1, .d (.str t)), (5, .d (.int .i64 0))], H⟩) := by
    refine loop_keep (F := evCode (ev R) R.glob (hlen H) evLoop f150l0) (lv := [0, 1, 5]) xs.length
      (fun i e X => X = H ∧ e.get 0 = .d (scs xs) ∧ e.get 1 = .d (.str t) ∧ e.get 5 = .d (.int .i64 i) ∧ i ≤ (xs.takeWhile fun x => !decide (x.1 = t)).length) _ ?_ ?_ xs.length 0 _ _ (by omega) ⟨rfl, rfl, rfl, rfl, Nat.zero_le _⟩
    · rintro e X ⟨rfl, g0, g1, g5, hi⟩
      have hn : ¬ (xs.takeWhile fun x => !decide (x.1 = t)).length < xs.length := by omega
      have hr : rRank xs t = -1 := by unfold rRank; rw [if_neg hn]; split <;> rfl
      simp [evC, -List.getD_eq_getElem?_getD, -List.map_map, f150l0, g0, g1, g5, hr, scs]
    · rintro i e X hi ⟨rfl, g0, g1, g5, hk⟩
      have c : (i : Int) < (xs.length : Int) := by omega
      have g := scs_get' xs i hi
      have w1 : IntKind.i64.wrap ((i : Int) + 1) = ((i + 1 : Nat) : Int) := by rw [IntWalk.i64_in _ (by omega)]; rfl
      cases h1 : scoresV xs with
      | false =>
        rw [h1] at p1
        have hr : rRank xs t = -1 := by unfold rRank; rw [h1]; simp
        simp [evC, -List.getD_eq_getElem?_getD, -List.map_map, f150l0, g0, g1, g5, c, hi, p1, hr, scs]
      | true =>
        rw [h1] at p1
        by_cases h : (xs.getD i ([], 0)).1 = t
        · have hn := tw_stop (fun x : Sc => !decide (x.1 = t)) ([], 0) xs i hk hi (by simp only [decide_eq_true h, Bool.not_true])
          have hr : rRank xs t = (i : Int) := by unfold rRank; rw [h1, if_pos rfl, ← hn, if_pos hi]
          simp [evC, -List.getD_eq_getElem?_getD, -List.map_map, f150l0, g0, g1, g5, c, hi, g, p1, w1, eq_true h, hr, scs]
        · have hn := tw_next (fun x : Sc => !decide (x.1 = t)) ([], 0) xs i hk hi (by simp only [decide_eq_false h, Bool.not_false])
          simp [evC, -List.getD_eq_getElem?_getD, -List.map_map, f150l0, g0, g1, g5, c, hi, g, p1, w1, eq_false h, hn, scs]
  obtain ⟨o, e', X', he, rfl, g⟩ := key.out
  rcases g with ⟨rfl, g⟩ | ⟨rfl, g4⟩
  · simp [evC, -List.getD_eq_getElem?_getD, -List.map_map, f150, he, g]
  · simp [evC, -List.getD_eq_getElem?_getD, -List.map_map, f150, he, g4]
end Go.Proofs.YtjdmiodinhlchaaGreat.Code
