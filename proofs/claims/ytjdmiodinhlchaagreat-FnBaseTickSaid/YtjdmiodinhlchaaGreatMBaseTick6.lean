/- Lemmas (several texts in one). -/
import Derived.Test.YtjdmiodinhlchaaGreatMBaseTick5
/- The reference's lists. -/
namespace Go.Proofs.YtjdmiodinhlchaaGreat.Code
open Go Go.Ev Go.Proofs
set_option maxRecDepth 100000
set_option linter.unusedSimpArgs false
set_option linter.unusedVariables false
theorem p_56 (xs : List Txt) (hx : xs.length ≤ 9223372036854775807) : pureCall (ev R) 56 [.d (txts xs)] = some (.d (.bool (okTexts xs))) := pureCall_eq fun H => e_56 H xs hx
theorem p_164 (xs : List Txt) (hx : xs.length ≤ 1000000) : pureCall (ev R) 164 [.d (txts xs)] = some (.d (txts xs.reverse)) := pureCall_eq fun H => by
  refine ev_fn (fn := f164) rfl rfl ?_
  have hyl : xs.reverse.length = xs.length := List.length_reverse
  have hyg : ∀ i, i < xs.length → xs.reverse.getD i [] = xs.getD (xs.length - 1 - i) [] := fun i hi => by
    rw [List.getD_eq_getElem?_getD, List.getElem?_reverse (by omega), ← List.getD_eq_getElem?_getD]
  generalize xs.reverse = ys at *
  obtain ⟨o, e', X', he, rfl, rfl, g3⟩ := (loop_keep (F := evCode (ev R) R.glob (hlen H) evLoop f164l0) (lv := [0, 3, 4]) xs.length
    (fun i e X => ∃ zs, zs = ys.take i ∧ zs.length = i ∧ X = ap H [.row zs.length 1 ((zs.map D.str).map V.d)] ∧ e.get 0 = .d (txts xs) ∧ e.get 3 = .slc (hlen H) zs.length 0 zs.length ∧ e.get 4 = .d (.int .i64 ((xs.length : Int) - 1 - i)))
    (fun o e X => o = .exit 0 ∧ X = ap H [.row xs.length 1 ((ys.map D.str).map V.d)] ∧ e.get 3 = .slc (hlen H) xs.length 0 xs.length)
    (by
      rintro e X ⟨zs, hz, hl, rfl, g0, g3, g4⟩
      have h1 : zs = ys := by rw [hz]; exact List.take_of_length_le (by omega)
      subst h1
      have c : ¬ (xs.length : Int) ≤ (xs.length : Int) - 1 := by omega
      rw [hyl] at g3
      simp [evC, -List.getD_eq_getElem?_getD, -List.map_map, f164l0, g0, g3, g4, c, hyl, txts])
    (by
      rintro i e X hi ⟨zs, hz, hl, rfl, g0, g3, g4⟩
      have c : (0 : Int) ≤ (xs.length : Int) - 1 - (i : Int) := by omega
      obtain ⟨k, hk⟩ : ∃ k : Nat, (k : Int) = (xs.length : Int) - 1 - (i : Int) := ⟨xs.length - 1 - i, by omega⟩
      have hkl : k < xs.length := by omega
      have c0 : (0 : Int) ≤ (k : Int) := by omega
      have c1 : (k : Int) < (xs.length : Int) := by omega
      have g := txts_get xs k hkl
      have w1 : IntKind.i64.wrap ((k : Int) - 1) = (xs.length : Int) - 1 - ((i : Int) + 1) := by rw [IntWalk.i64_in _ (by omega)]; omega
      rw [← hk] at g4
      have r : (i + 1) * 16 ≤ room := by unfold room; omega
      have hn : ys.take (i + 1) = zs ++ [xs.getD k []] := by
        have : xs.length - 1 - i = k := by omega
        rw [take_snoc' ys i [] (by omega), ← hz, hyg i hi, this]
      simp [evC, -List.getD_eq_getElem?_getD, -List.map_map, f164l0, g0, g3, g4, c0, c1, hkl, g, w1, r, hn, hl, txts])
    xs.length 0 [(0, .d (txts xs)), (3, .slc (hlen H) 0 0 0), (4, .d (.int .i64 ((xs.length : Int) - 1)))] (ap H [.row 0 1 []]) (by omega) ⟨[], by simp, rfl, rfl, rfl, rfl, by show V.d (D.int IntKind.i64 ((xs.length : Int) - 1)) = _; simp⟩).out
  have w : IntKind.i64.wrap ((xs.length : Int) - 1) = (xs.length : Int) - 1 := IntWalk.i64_in _ (by omega)
  have ft : List.take xs.length ((ys.map D.str).map V.d) = (ys.map D.str).map V.d := List.take_of_length_le (by simp; omega)
  simp [evC, -List.getD_eq_getElem?_getD, -List.map_map, f164, he, g3, w, ft, hyl, txts]
def rRange (xs : List Txt) (f t : Int) : List Txt := ((xs.take (endsV xs.length f t).2.toNat).drop (endsV xs.length f t).1.toNat)
def place (n : Int) : Bool := decide (-1000000000 ≤ n) && decide (n ≤ 1000000000)
theorem endsV_in (n : Nat) (f t : Int) : 0 ≤ (endsV n f t).1 ∧ (endsV n f t).1 ≤ (endsV n f t).2 ∧ (endsV n f t).2 ≤ n := by
  unfold endsV
  dsimp only
  repeat' split
  all_goals dsimp only
  all_goals omega
theorem p_140 (xs : List Txt) (f t : Int) (hx : xs.length ≤ 1000000) : pureCall (ev R) 140 [.d (txts xs), .d (.int .i64 f), .d (.int .i64 t)] =
    some (.d (txts (if okTexts xs = true ∧ place f = true ∧ place t = true then rRange xs f t else []))) := pureCall_eq fun H => by
  refine ev_fn (fn := f140) rfl rfl ?_
  have p1 := p_56 xs (by omega)
  have p2 : pureCall (ev R) 163 [.d (.int .i64 f)] = some (.d (.bool (place f))) := p_163 f
  have p3 : pureCall (ev R) 163 [.d (.int .i64 t)] = some (.d (.bool (place t))) := p_163 t
  cases h1 : okTexts xs with
  | false => rw [h1] at p1; simp [evC, -List.getD_eq_getElem?_getD, -List.map_map, f140, p1, txts]
  | true =>
    cases h2 : place f with
    | false => rw [h1] at p1; rw [h2] at p2; simp [evC, -List.getD_eq_getElem?_getD, -List.map_map, f140, p1, p2, txts]
    | true =>
      cases h3 : place t with
      | false => rw [h1] at p1; rw [h2] at p2; rw [h3] at p3; simp [evC, -List.getD_eq_getElem?_getD, -List.map_map, f140, p1, p2, p3, txts]
      | true =>
        rw [h1] at p1; rw [h2] at p2; rw [h3] at p3
        unfold place at h2 h3
        simp only [Bool.and_eq_true, decide_eq_true_eq] at h2 h3
        have p4 := p_134 xs.length f t (by omega) h2 h3
        obtain ⟨b1, b2, b3⟩ := endsV_in xs.length f t
        have hr : rRange xs f t = ((xs.take (endsV xs.length f t).2.toNat).drop (endsV xs.length f t).1.toNat) := rfl
        generalize (endsV xs.length f t).1 = a at *
        generalize (endsV xs.length f t).2 = b at *
        obtain ⟨A, rfl⟩ : ∃ A : Nat, a = (A : Int) := ⟨a.toNat, by omega⟩
        obtain ⟨B, rfl⟩ : ∃ B : Nat, b = (B : Int) := ⟨b.toNat, by omega⟩
        simp only [Int.toNat_natCast] at hr
        have b5 : A ≤ B := by omega
        have b6 : B ≤ xs.length := by omega
        have hd : List.drop A (List.take B (List.map D.str xs)) = (rRange xs f t).map D.str := by rw [hr]; simp only [List.map_drop, List.map_take]
        have hl : (rRange xs f t).length ≤ 1000000 := by rw [hr]; simp only [List.length_drop, List.length_take]; omega
        have p5 := p_85 (rRange xs f t) hl
        have p6 := p_85n (rRange xs f t) hl
        simp [evC, -List.getD_eq_getElem?_getD, -List.map_map, f140, p1, p2, p3, p4, bound, b1, b2, b3, b5, b6, hd, p5, p6, txts]
theorem p_137 (xs : List Txt) (f : Bool) (hx : xs.length ≤ 1000000) : pureCall (ev R) 137 [.d (txts xs), .d (.bool f)] =
    some (if okTexts xs = true ∧ 0 < xs.length then (if f = true then .tup [.d (txts xs.tail), .d (.str (xs.getD 0 [])), .d (.bool true)] else .tup [.d (txts (xs.take (xs.length - 1))), .d (.str (xs.getD (xs.length - 1) [])), .d (.bool true)]) else .tup [.d (txts []), .d (.str []), .d (.bool false)]) := pureCall_eq fun H => by
  refine ev_fn (fn := f137) rfl rfl ?_
  have p1 := p_56 xs (by omega)
  cases h1 : okTexts xs with
  | false => rw [h1] at p1; simp [evC, -List.getD_eq_getElem?_getD, -List.map_map, f137, p1, txts]
  | true =>
    rw [h1] at p1
    by_cases h0 : 0 < xs.length
    · have h0' : ¬ (xs.length : Int) = 0 := by omega
      have h0'' : (0 : Int) < (xs.length : Int) := by omega
      have h1' : (1 : Int) ≤ (xs.length : Int) := by omega
      have h1'' : 1 ≤ xs.length := by omega
      have hne : ¬ xs.length = 0 := by omega
      cases f with
      | true =>
        have p5 := p_85 xs.tail (by simp; omega)
        have p6 := p_85n xs.tail (by simp; omega)
        simp only [txts, List.map_tail] at p5 p6
        have g := txts_get xs 0 h0
        simp [evC, -List.getD_eq_getElem?_getD, -List.map_map, f137, p1, h0, h0', h0'', h1', h1'', eq_false hne, g, bound, p5, p6, txts]
      | false =>
        obtain ⟨k, hk⟩ : ∃ k : Nat, xs.length = k + 1 := ⟨xs.length - 1, by omega⟩
        have w : IntKind.i64.wrap ((xs.length : Int) - 1) = (k : Int) := by rw [IntWalk.i64_in _ (by omega)]; omega
        have hk1 : xs.length - 1 = k := by omega
        have c1 : (k : Int) ≤ (xs.length : Int) := by omega
        have c2 : (k : Int) < (xs.length : Int) := by omega
        have c3 : k ≤ xs.length := by omega
        have c4 : (0 : Int) ≤ (k : Int) := by omega
        have c5 : k < xs.length := by omega
        have p5 := p_85 (xs.take k) (by simp; omega)
        have p6 := p_85n (xs.take k) (by simp; omega)
        simp only [txts, List.map_take] at p5 p6
        have g := txts_get xs k (by omega)
        rw [hk1]
        simp [evC, -List.getD_eq_getElem?_getD, -List.map_map, f137, p1, h0, h0', h0'', h1', h1'', eq_false hne, g, w, c1, c2, c3, c4, c5, bound, p5, p6, txts]
    · have h0' : (xs.length : Int) = 0 := by omega
      have h00 : xs.length = 0 := by omega
      simp [evC, -List.getD_eq_getElem?_getD, -List.map_map, f137, p1, eq_true h0', eq_true h00, h0, txts]
end Go.Proofs.YtjdmiodinhlchaaGreat.Code
/- The reference's lists and sets that grow. -/
namespace Go.Proofs.YtjdmiodinhlchaaGreat.Code
open Go Go.Ev Go.Proofs
set_option maxRecDepth 100000
set_option linter.unusedSimpArgs false
set_option linter.unusedVariables false
theorem ap_take_le {Y l H : Hp} (h : htake Y (hlen H) = H) (hle : hlen H ≤ hlen Y) : htake (ap Y l) (hlen H) = H := by
  have : htake (ap Y l) (hlen H) = htake Y (hlen H) := by
    simp only [ap, htake, hlen] at *
    exact List.take_append_of_le_length hle
  rw [this, h]
theorem fzC_up {H X : Hp} {r g e : Nat} {ds : List D} {k : Nat} (hr : rowOf X r g = some (e, ds.map V.d)) (hk : k = ds.length) (hle : hlen H ≤ r) : fzC (hlen H) X (.slc r g 0 k) = some (.d (.vals e ds)) := by
  subst hk
  have h : ((ds.map V.d).drop 0).take ds.length = ds.map V.d := by rw [List.drop_zero, List.take_of_length_le (by simp)]
  have := fz_row (H := X) (n := hlen H) (d := 7) (r := r) (g := g) (i := 0) (k := ds.length) (by omega) hr (by simp) (by rw [h]; exact mapO_d _)
  show (if r < hlen H then _ else (match fz (hlen H) deep _ (.slc r g 0 ds.length) with | some x => some (V.d x) | none => none)) = _
  rw [if_neg (by omega)]
  show (match fz (hlen H) (7 + 1) _ (.slc r g 0 ds.length) with | some x => some (V.d x) | none => none) = _
  rw [this]
def rPush (xs : List Txt) (f : Bool) (ts : List Txt) : List Txt := if f = true then ts.reverse ++ xs else xs ++ ts
theorem p_1620 (xs ts : List Txt) (hx : xs.length ≤ 1000000) (ht : ts.length ≤ 1000000) : pureCall (ev R) 162 [.d (txts xs), .d (.bool false), .d (txts ts)] = some (.d (txts (xs ++ ts))) := pureCall_eq fun H => by
  refine ev_fn (fn := f162) rfl rfl ?_
  have q := fun H => e_85 H xs hx
  obtain ⟨o, e', X', he, zs, hz, rfl, rfl, g7⟩ := (loop_keep (F := evCode (ev R) R.glob (hlen H) evLoop f162l0) (lv := [1, 2, 7, 8]) ts.length
    (fun i e X => ∃ zs, zs = xs ++ ts.take i ∧ zs.length = xs.length + i ∧ X = ap H [.row i 1 ((zs.map D.str).map V.d)] ∧ e.get 1 = .d (.bool false) ∧ e.get 2 = .d (txts ts) ∧ e.get 7 = .slc (hlen H) i 0 zs.length ∧ e.get 8 = .d (.int .i64 i))
    (fun o e X => ∃ zs, zs = xs ++ ts ∧ o = .exit 0 ∧ X = ap H [.row ts.length 1 ((zs.map D.str).map V.d)] ∧ e.get 7 = .slc (hlen H) ts.length 0 zs.length)
    (by
      rintro e X ⟨zs, hz, hl, rfl, g1, g2, g7, g8⟩
      rw [List.take_length] at hz
      simp [evC, -List.getD_eq_getElem?_getD, -List.map_map, f162l0, g1, g2, g7, g8, txts]
      subst hz
      simp)
    (by
      rintro i e X hi ⟨zs, hz, hl, rfl, g1, g2, g7, g8⟩
      have c : (i : Int) < (ts.length : Int) := by omega
      have g := txts_get ts i hi
      have w1 : IntKind.i64.wrap ((i : Int) + 1) = ((i + 1 : Nat) : Int) := by rw [IntWalk.i64_in _ (by omega)]; rfl
      have r : (zs.length + 1) * 16 ≤ room := by unfold room; omega
      have hn : zs ++ [ts.getD i []] = xs ++ ts.take (i + 1) := by rw [take_snoc' ts i [] hi, hz, List.append_assoc]
      have hl' : zs.length + 1 = xs.length + (i + 1) := by omega
      have key : evCode (ev R) R.glob (hlen H) evLoop f162l0 ⟨e.keep [1, 2, 7, 8], ap H [.row i 1 ((zs.map D.str).map V.d)]⟩ = some (.normal, ⟨[(8, .d (.int .i64 ((i + 1 : Nat) : Int))), (16, .d (.int .i64 ((i + 1 : Nat) : Int))), (15, .d (.int .i64 i)), (1, .d (.bool false)), (2, .d (txts ts)), (7, .slc (hlen H) (i + 1) 0 (zs.length + 1)), (8, .d (.int .i64 i))], ap H [.row (i + 1) 1 (((zs ++ [ts.getD i []]).map D.str).map V.d)]⟩) := by
        simp [evC, -List.getD_eq_getElem?_getD, -List.map_map, f162l0, g1, g2, g7, g8, c, hi, g, w1, r, txts]
      rw [key]
      exact ⟨_, hn, by simp [hl]; omega, rfl, rfl, rfl, by simp [Env.get]; rfl, rfl⟩)
    ts.length 0 [(1, .d (.bool false)), (2, .d (txts ts)), (7, .slc (hlen H) 0 0 xs.length), (8, .d (.int .i64 0))] (ap H [.row 0 1 ((xs.map D.str).map V.d)]) (by omega) ⟨xs, by simp, rfl, rfl, rfl, rfl, rfl, rfl⟩).out
  have ft : List.take zs.length ((zs.map D.str).map V.d) = (zs.map D.str).map V.d := List.take_of_length_le (by simp)
  rw [← hz]
  simp [evC, -List.getD_eq_getElem?_getD, -List.map_map, f162, q, he, g7, ft, txts]
theorem p_1621 (xs ts : List Txt) (hx : xs.length ≤ 1000000) (ht : ts.length ≤ 1000000) : pureCall (ev R) 162 [.d (txts xs), .d (.bool true), .d (txts ts)] = some (.d (txts (ts.reverse ++ xs))) := pureCall_eq fun H => by
  refine ev_fn (fn := f162) rfl rfl ?_
  have q := fun H => e_85 H xs hx
  obtain ⟨o, e', X', he, zs, Y, g, hz, rfl, rfl, tk, hle, g7⟩ := (loop_keep (F := evCode (ev R) R.glob (hlen H) evLoop f162l0) (lv := [1, 2, 7, 8]) ts.length
    (fun i e X => ∃ zs Y g, zs = (ts.take i).reverse ++ xs ∧ zs.length = xs.length + i ∧ X = ap Y [.row g 1 ((zs.map D.str).map V.d)] ∧ htake Y (hlen H) = H ∧ hlen H ≤ hlen Y ∧ e.get 1 = .d (.bool true) ∧ e.get 2 = .d (txts ts) ∧ e.get 7 = .slc (hlen Y) g 0 zs.length ∧ e.get 8 = .d (.int .i64 i))
    (fun o e X => ∃ zs Y g, zs = ts.reverse ++ xs ∧ o = .exit 0 ∧ X = ap Y [.row g 1 ((zs.map D.str).map V.d)] ∧ htake Y (hlen H) = H ∧ hlen H ≤ hlen Y ∧ e.get 7 = .slc (hlen Y) g 0 zs.length)
    (by
      rintro e X ⟨zs, Y, g, hz, hl, rfl, tk, hle, g1, g2, g7, g8⟩
      rw [List.take_length] at hz
      have key : evCode (ev R) R.glob (hlen H) evLoop f162l0 ⟨e.keep [1, 2, 7, 8], ap Y [.row g 1 ((zs.map D.str).map V.d)]⟩ = some (.exit 0, ⟨[(1, .d (.bool true)), (2, .d (txts ts)), (7, .slc (hlen Y) g 0 zs.length), (8, .d (.int .i64 ts.length)), (14, .d (.bool false))], ap Y [.row g 1 ((zs.map D.str).map V.d)]⟩) := by
        simp [evC, -List.getD_eq_getElem?_getD, -List.map_map, f162l0, g1, g2, g7, g8, txts]
      rw [key]
      exact ⟨by simp, zs, Y, g, hz, rfl, rfl, tk, hle, rfl⟩)
    (by
      rintro i e X hi ⟨zs, Y, g0, hz, hl, rfl, tk, hle, g1, g2, g7, g8⟩
      have c : (i : Int) < (ts.length : Int) := by omega
      have g := txts_get ts i hi
      have w1 : IntKind.i64.wrap ((i : Int) + 1) = ((i + 1 : Nat) : Int) := by rw [IntWalk.i64_in _ (by omega)]; rfl
      have r : (1 + zs.length) * 16 ≤ room := by unfold room; omega
      have hn : ts.getD i [] :: zs = (ts.take (i + 1)).reverse ++ xs := by rw [take_snoc' ts i [] hi, hz, List.reverse_append]; rfl
      have ft : List.take zs.length ((zs.map D.str).map V.d) = (zs.map D.str).map V.d := List.take_of_length_le (by simp)
      have ft' : List.take zs.length (zs.map D.str) = zs.map D.str := List.take_of_length_le (by simp)
      have key : evCode (ev R) R.glob (hlen H) evLoop f162l0 ⟨e.keep [1, 2, 7, 8], ap Y [.row g0 1 ((zs.map D.str).map V.d)]⟩ = some (.normal, ⟨[(8, .d (.int .i64 ((i + 1 : Nat) : Int))), (16, .d (.int .i64 ((i + 1 : Nat) : Int))), (15, .d (.int .i64 i)), (1, .d (.bool true)), (2, .d (txts ts)), (7, .slc (hlen Y + 1) 1 0 (1 + zs.length)), (8, .d (.int .i64 i))], ap Y [.row g0 1 ((zs.map D.str).map V.d), .row 1 1 (((ts.getD i [] :: zs).map D.str).map V.d)]⟩) := by
        simp [evC, -List.getD_eq_getElem?_getD, -List.map_map, f162l0, g1, g2, g7, g8, c, hi, g, w1, r, ft, ft', txts]
      rw [key]
      refine ⟨_, ap Y [.row g0 1 ((zs.map D.str).map V.d)], 1, hn, by simp; omega, by rw [ap_ap]; rfl, ?_, ?_, rfl, rfl, ?_, rfl⟩
      · exact ap_take_le tk hle
      · rw [ap_len]; omega
      · rw [ap_len, List.length_cons (a := ts.getD i []), Nat.add_comm zs.length 1]; rfl)
    ts.length 0 [(1, .d (.bool true)), (2, .d (txts ts)), (7, .slc (hlen H) 0 0 xs.length), (8, .d (.int .i64 0))] (ap H [.row 0 1 ((xs.map D.str).map V.d)]) (by omega) ⟨xs, H, 0, by simp, rfl, rfl, htake_self H, Nat.le_refl _, rfl, rfl, rfl, rfl⟩).out
  have ft : List.take zs.length ((zs.map D.str).map V.d) = (zs.map D.str).map V.d := List.take_of_length_le (by simp)
  have tk2 : ∀ l, htake (ap Y l) (hlen H) = H := fun l => ap_take_le tk hle
  have b1 : Nat.blt (hlen Y) (hlen H) = false := by
    cases h : Nat.blt (hlen Y) (hlen H) with
    | false => rfl
    | true => simp at h; omega
  have b2 : ¬ hlen Y < hlen H := by omega
  have fz := fzC_up (H := H) (X := ap Y [.row g 1 ((zs.map D.str).map V.d)]) (r := hlen Y) (g := g) (e := 1) (ds := zs.map D.str) (k := zs.length) (by simp [rowOf, ap_get0, hget]) (by simp) hle
  rw [← hz]
  simp [evC, -List.getD_eq_getElem?_getD, -List.map_map, f162, q, he, g7, ft, tk2, b1, b2, fz, txts]
theorem p_162 (xs : List Txt) (f : Bool) (ts : List Txt) (hx : xs.length ≤ 1000000) (ht : ts.length ≤ 1000000) : pureCall (ev R) 162 [.d (txts xs), .d (.bool f), .d (txts ts)] = some (.d (txts (rPush xs f ts))) := by
  cases f with
  | false => exact p_1620 xs ts hx ht
  | true => exact p_1621 xs ts hx ht
theorem okTexts_le {xs : List Txt} (h : okTexts xs = true) : xs.length ≤ 16 := by
  unfold okTexts at h
  rw [Bool.and_eq_true, decide_eq_true_eq] at h
  exact h.2
theorem p_136 (xs : List Txt) (f : Bool) (ts : List Txt) (hx : xs.length ≤ 1000000) (ht : ts.length ≤ 1000000) : pureCall (ev R) 136 [.d (txts xs), .d (.bool f), .d (txts ts)] =
    some (if okTexts xs = true then (if okTexts ts = true ∧ xs.length + ts.length ≤ 16 then .tup [.d (txts (rPush xs f ts)), .d (.bool true)] else .tup [.d (txts xs), .d (.bool false)]) else .tup [.d (txts []), .d (.bool false)]) := pureCall_eq fun H => by
  refine ev_fn (fn := f136) rfl rfl ?_
  have p1 := p_56 xs (by omega)
  have p2 := p_56 ts (by omega)
  have p3 := p_162 xs f ts hx ht
  have p5 := p_85 xs hx
  have p6 := p_85n xs hx
  have w : IntKind.i64.wrap ((xs.length : Int) + (ts.length : Int)) = (xs.length : Int) + (ts.length : Int) := IntWalk.i64_in _ (by omega)
  cases h1 : okTexts xs with
  | false => rw [h1] at p1; simp [evC, -List.getD_eq_getElem?_getD, -List.map_map, f136, p1, txts]
  | true =>
    rw [h1] at p1
    cases h2 : okTexts ts with
    | false => rw [h2] at p2; simp [evC, -List.getD_eq_getElem?_getD, -List.map_map, f136, p1, p2, p5, p6, txts]
    | true =>
      rw [h2] at p2
      by_cases hl : xs.length + ts.length ≤ 16
      · have hl' : ¬ (16 : Int) < (xs.length : Int) + (ts.length : Int) := by omega
        simp [evC, -List.getD_eq_getElem?_getD, -List.map_map, f136, p1, p2, p3, w, hl, hl', txts]
      · have hl' : (16 : Int) < (xs.length : Int) + (ts.length : Int) := by omega
        simp [evC, -List.getD_eq_getElem?_getD, -List.map_map, f136, p1, p2, p5, p6, w, hl, hl', txts]
end Go.Proofs.YtjdmiodinhlchaaGreat.Code
/- The reference's lists changed in place, and sets made greater. -/
namespace Go.Proofs.YtjdmiodinhlchaaGreat.Code
open Go Go.Ev Go.Proofs
set_option maxRecDepth 100000
set_option linter.unusedSimpArgs false
set_option linter.unusedVariables false
def fromEnd (n : Nat) (k : Int) : Int := if k < 0 then k + n else k
def rSet (xs : List Txt) (at' : Int) (t : Txt) : Option (List Txt) :=
  if place at' = true ∧ t.length ≤ 40 ∧ 0 ≤ fromEnd xs.length at' ∧ fromEnd xs.length at' ≤ (xs.length : Int) - 1 then some (xs.set (fromEnd xs.length at').toNat t) else none
theorem p_138 (xs : List Txt) (k : Int) (t : Txt) (hx : xs.length ≤ 1000000) (hk : In64 k) : pureCall (ev R) 138 [.d (txts xs), .d (.int .i64 k), .d (.str t)] =
    some (if okTexts xs = true then (match rSet xs k t with | some ys => .tup [.d (txts ys), .d (.bool true)] | none => .tup [.d (txts xs), .d (.bool false)]) else .tup [.d (txts []), .d (.bool false)]) := pureCall_eq fun H => by
  refine ev_fn (fn := f138) rfl rfl ?_
  have p1 := p_56 xs (by omega)
  have q := fun H => e_85 H xs hx
  have p2 : pureCall (ev R) 163 [.d (.int .i64 k)] = some (.d (.bool (place k))) := p_163 k
  have ft : List.take xs.length ((xs.map D.str).map V.d) = (xs.map D.str).map V.d := List.take_of_length_le (by simp)
  cases h1 : okTexts xs with
  | false => rw [h1] at p1; simp [evC, -List.getD_eq_getElem?_getD, -List.map_map, f138, p1, txts]
  | true =>
    rw [h1] at p1
    cases h2 : place k with
    | false =>
      rw [h2] at p2
      have hr : rSet xs k t = none := by unfold rSet; rw [h2]; simp
      simp [evC, -List.getD_eq_getElem?_getD, -List.map_map, f138, p1, p2, q, hr, ft, txts]
    | true =>
      rw [h2] at p2
      by_cases ht : t.length ≤ 40
      · have ht' : ¬ (40 : Int) < (t.length : Int) := by omega
        have h2' := h2
        unfold place at h2'
        simp only [Bool.and_eq_true, decide_eq_true_eq] at h2'
        have w1 : IntKind.i64.wrap (k + (xs.length : Int)) = k + (xs.length : Int) := IntWalk.i64_in _ (by omega)
        have w2 : IntKind.i64.wrap ((xs.length : Int) - 1) = (xs.length : Int) - 1 := IntWalk.i64_in _ (by omega)
        have p3 := p_32 (fromEnd xs.length k) 0 ((xs.length : Int) - 1)
        have fe : fromEnd xs.length k = if k < 0 then k + xs.length else k := rfl
        by_cases hin : 0 ≤ fromEnd xs.length k ∧ fromEnd xs.length k ≤ (xs.length : Int) - 1
        · obtain ⟨j, hj⟩ : ∃ j : Nat, fromEnd xs.length k = (j : Int) := ⟨(fromEnd xs.length k).toNat, by omega⟩
          have hr : rSet xs k t = some (xs.set j t) := by unfold rSet; rw [if_pos ⟨h2, ht, hin.1, hin.2⟩, hj]; rfl
          rw [hj] at p3 fe hin
          have hjl : j < xs.length := by omega
          have hjl' : (j : Int) < (xs.length : Int) := by omega
          have hj0 : (0 : Int) ≤ (j : Int) := by omega
          have hj1 : (j : Int) ≤ (xs.length : Int) - 1 := by omega
          have w3 : IntKind.i64.wrap (j : Int) = (j : Int) := IntWalk.i64_in _ (by omega)
          have hb : (decide ((j : Int) ≥ 0) && decide ((j : Int) ≤ (xs.length : Int) - 1)) = true := by rw [Bool.and_eq_true, decide_eq_true_eq, decide_eq_true_eq]; exact hin
          rw [hb] at p3
          have hneg : ¬ (j : Int) < 0 := by omega
          have sf := set_fold D.str xs j t
          have f6 : (xs.set j t).length = xs.length := List.length_set
          have f4 : List.take xs.length (List.map V.d (List.map D.str (xs.set j t))) = List.map V.d (List.map D.str (xs.set j t)) := List.take_of_length_le (by simp)
          rw [hr]
          dsimp only
          generalize xs.set j t = zs at *
          by_cases hn : k < 0
          · rw [if_pos hn] at fe
            simp [evC, -List.getD_eq_getElem?_getD, -List.map_map, f138, p1, p2, q, ht', hn, w1, w2, w3, ← fe, p3, hjl, hjl', hj0, hj1, sf, f6, f4, ft, txts]
          · rw [if_neg hn] at fe
            subst fe
            simp [evC, -List.getD_eq_getElem?_getD, -List.map_map, f138, p1, p2, q, ht', hneg, w1, w2, w3, p3, hjl, hjl', hj0, hj1, sf, f6, f4, ft, txts]
        · have hr : rSet xs k t = none := by unfold rSet; rw [if_neg (fun h => hin ⟨h.2.2.1, h.2.2.2⟩)]
          have hb : (decide (fromEnd xs.length k ≥ 0) && decide (fromEnd xs.length k ≤ (xs.length : Int) - 1)) = false := by
            rw [← Bool.not_eq_true, Bool.and_eq_true, decide_eq_true_eq, decide_eq_true_eq]; exact hin
          rw [hb] at p3
          by_cases hn : k < 0
          · rw [fe, if_pos hn] at p3
            simp [evC, -List.getD_eq_getElem?_getD, -List.map_map, f138, p1, p2, q, ht', hn, w1, w2, p3, hr, ft, txts]
          · rw [fe, if_neg hn] at p3
            simp [evC, -List.getD_eq_getElem?_getD, -List.map_map, f138, p1, p2, q, ht', hn, w1, w2, p3, hr, ft, txts]
      · have ht' : (40 : Int) < (t.length : Int) := by omega
        have hr : rSet xs k t = none := by unfold rSet; rw [if_neg (fun h => ht h.2.1)]
        simp [evC, -List.getD_eq_getElem?_getD, -List.map_map, f138, p1, p2, q, ht', hr, ft, txts]
def rAll (xs ts : List Txt) : List Txt := ts.foldl rPut xs
theorem rPut_len (xs : List Txt) (t : Txt) : (rPut xs t).length ≤ xs.length + 1 := by
  unfold rPut
  split
  · omega
  · rw [insAt_len]; omega
theorem rAll_len (xs ts : List Txt) : (rAll xs ts).length ≤ xs.length + ts.length := by
  unfold rAll
  induction ts generalizing xs with
  | nil => simp
  | cons t ts ih =>
    have h1 := ih (rPut xs t)
    have h2 := rPut_len xs t
    simp only [List.foldl_cons, List.length_cons]
    omega
theorem rAll_snoc (xs ts : List Txt) (i : Nat) (hi : i < ts.length) : rPut (rAll xs (ts.take i)) (ts.getD i []) = rAll xs (ts.take (i + 1)) := by
  rw [take_snoc' ts i [] hi]; simp only [rAll, List.foldl_append, List.foldl_cons, List.foldl_nil]
theorem p_147 (xs ts : List Txt) (hx : xs.length ≤ 500000) (ht : ts.length ≤ 500000) : pureCall (ev R) 147 [.d (txts xs), .d (txts ts)] =
    some (.d (txts (if setV xs = true ∧ setV ts = true then rAll xs ts else []))) := pureCall_eq fun H => by
  refine ev_fn (fn := f147) rfl rfl ?_
  have p1 := p_57 xs (by omega)
  have p2 := p_57 ts (by omega)
  have p5 := p_85 xs (by omega)
  have p6 := p_85n xs (by omega)
  cases h1 : setV xs with
  | false => rw [h1] at p1; simp [evC, -List.getD_eq_getElem?_getD, -List.map_map, f147, p1, p2, txts]
  | true =>
    rw [h1] at p1
    cases h2 : setV ts with
    | false => rw [h2] at p2; simp [evC, -List.getD_eq_getElem?_getD, -List.map_map, f147, p1, p2, txts]
    | true =>
      rw [h2] at p2
      obtain ⟨o, e', X', he, rfl, rfl, g5⟩ := (loop_keep (F := evCode (ev R) R.glob (hlen H) evLoop f147l0) (lv := [1, 5, 6]) ts.length
        (fun i e X => X = H ∧ e.get 1 = .d (txts ts) ∧ e.get 5 = .d (txts (rAll xs (ts.take i))) ∧ e.get 6 = .d (.int .i64 i))
        (fun o e X => o = .exit 0 ∧ X = H ∧ e.get 5 = .d (txts (rAll xs ts)))
        (by
          rintro e X ⟨rfl, g1, g5, g6⟩
          rw [List.take_length] at g5
          simp [evC, -List.getD_eq_getElem?_getD, -List.map_map, f147l0, g1, g5, g6, txts])
        (by
          rintro i e X hi ⟨rfl, g1, g5, g6⟩
          have c : (i : Int) < (ts.length : Int) := by omega
          have g := txts_get ts i hi
          have w1 : IntKind.i64.wrap ((i : Int) + 1) = ((i + 1 : Nat) : Int) := by rw [IntWalk.i64_in _ (by omega)]; rfl
          have hl := rAll_len xs (ts.take i)
          have hl2 : (ts.take i).length ≤ ts.length := by rw [List.length_take]; omega
          have p3 := p_125 (rAll xs (ts.take i)) (ts.getD i []) (by omega)
          rw [rAll_snoc xs ts i hi] at p3
          generalize rAll xs (ts.take i) = A at *
          generalize rAll xs (ts.take (i + 1)) = B at *
          simp [evC, -List.getD_eq_getElem?_getD, -List.map_map, f147l0, g1, g5, g6, c, hi, g, w1, p3, txts])
        ts.length 0 [(1, .d (txts ts)), (5, .d (txts xs)), (6, .d (.int .i64 0))] H (by omega) ⟨rfl, rfl, rfl, rfl⟩).out
      simp [evC, -List.getD_eq_getElem?_getD, -List.map_map, f147, p1, p2, p5, p6, he, g5, txts]
theorem p_142 (xs ts : List Txt) (hx : xs.length ≤ 500000) (ht : ts.length ≤ 500000) : pureCall (ev R) 142 [.d (txts xs), .d (txts ts)] =
    some (if setV xs = true then (if okTexts ts = true ∧ (rAll xs ts).length ≤ 16 then .tup [.d (txts (rAll xs ts)), .d (.int .i64 ((rAll xs ts).length - xs.length)), .d (.bool true)] else .tup [.d (txts xs), .d (.int .i64 0), .d (.bool false)]) else .tup [.d (txts []), .d (.int .i64 0), .d (.bool false)]) := pureCall_eq fun H => by
  refine ev_fn (fn := f142) rfl rfl ?_
  have p1 := p_57 xs (by omega)
  have p2 := p_56 ts (by omega)
  have p5 := p_85 xs (by omega)
  have p6 := p_85n xs (by omega)
  cases h1 : setV xs with
  | false => rw [h1] at p1; simp [evC, -List.getD_eq_getElem?_getD, -List.map_map, f142, p1, p2, txts]
  | true =>
    rw [h1] at p1
    cases h2 : okTexts ts with
    | false => rw [h2] at p2; simp [evC, -List.getD_eq_getElem?_getD, -List.map_map, f142, p1, p2, p5, p6, txts]
    | true =>
      rw [h2] at p2
      obtain ⟨o, e', X', he, rfl, rfl, g0, g7⟩ := (loop_keep (F := evCode (ev R) R.glob (hlen H) evLoop f142l0) (lv := [0, 1, 7, 8]) ts.length
        (fun i e X => X = H ∧ e.get 0 = .d (txts xs) ∧ e.get 1 = .d (txts ts) ∧ e.get 7 = .d (txts (rAll xs (ts.take i))) ∧ e.get 8 = .d (.int .i64 i))
        (fun o e X => o = .exit 0 ∧ X = H ∧ e.get 0 = .d (txts xs) ∧ e.get 7 = .d (txts (rAll xs ts)))
        (by
          rintro e X ⟨rfl, g0, g1, g5, g6⟩
          rw [List.take_length] at g5
          simp [evC, -List.getD_eq_getElem?_getD, -List.map_map, f142l0, g0, g1, g5, g6, txts])
        (by
          rintro i e X hi ⟨rfl, g0, g1, g5, g6⟩
          have c : (i : Int) < (ts.length : Int) := by omega
          have g := txts_get ts i hi
          have w1 : IntKind.i64.wrap ((i : Int) + 1) = ((i + 1 : Nat) : Int) := by rw [IntWalk.i64_in _ (by omega)]; rfl
          have hl := rAll_len xs (ts.take i)
          have hl2 : (ts.take i).length ≤ ts.length := by rw [List.length_take]; omega
          have p3 := p_125 (rAll xs (ts.take i)) (ts.getD i []) (by omega)
          rw [rAll_snoc xs ts i hi] at p3
          generalize rAll xs (ts.take i) = A at *
          generalize rAll xs (ts.take (i + 1)) = B at *
          simp [evC, -List.getD_eq_getElem?_getD, -List.map_map, f142l0, g0, g1, g5, g6, c, hi, g, w1, p3, txts])
        ts.length 0 [(0, .d (txts xs)), (1, .d (txts ts)), (7, .d (txts xs)), (8, .d (.int .i64 0))] H (by omega) ⟨rfl, rfl, rfl, rfl, rfl⟩).out
      have hal := rAll_len xs ts
      generalize rAll xs ts = A at *
      have w : IntKind.i64.wrap ((A.length : Int) - (xs.length : Int)) = (A.length : Int) - (xs.length : Int) := IntWalk.i64_in _ (by omega)
      by_cases hl : A.length ≤ 16
      · have hl' : ¬ (16 : Int) < (A.length : Int) := by omega
        simp [evC, -List.getD_eq_getElem?_getD, -List.map_map, f142, p1, p2, p5, p6, he, g0, g7, w, hl, hl', txts]
      · have hl' : (16 : Int) < (A.length : Int) := by omega
        simp [evC, -List.getD_eq_getElem?_getD, -List.map_map, f142, p1, p2, p5, p6, he, g0, g7, w, hl, hl', txts]
end Go.Proofs.YtjdmiodinhlchaaGreat.Code
/- The reference's bases: copied, looked up, changed. -/
namespace Go.Proofs.YtjdmiodinhlchaaGreat.Code
open Go Go.Ev Go.Proofs
set_option maxRecDepth 100000
set_option linter.unusedSimpArgs false
set_option linter.unusedVariables false
structure EnSm (e : En) : Prop where
  list : e.list.length ≤ 1000000
  scores : e.scores.length ≤ 1000000
  fields : e.fields.length ≤ 1000000
theorem p_63 (e : En) (h : EnSm e) : pureCall (ev R) 63 [.d (enD e)] = some (.d (enD e)) := pureCall_eq fun H => by
  refine ev_fn (fn := f63) rfl rfl ?_
  obtain ⟨key, till, kind, text, list, scores, fields⟩ := e
  obtain ⟨h1, h2, h3⟩ := h
  dsimp only at h1 h2 h3
  have p5 := p_85 list h1
  have p6 := p_85n list h1
  have r2 : scores.length * 24 ≤ room := by unfold room; omega
  have r3 : fields.length * 32 ≤ room := by unfold room; omega
  simp [evC, -List.getD_eq_getElem?_getD, -List.map_map, f63, p5, p6, r2, r3, txts]
theorem p_80 (e : En) (h : EnSm e) : pureCall (ev R) 80 [.d (enD e)] = some (.d (.bool (decide (e.kind ≠ 1) && decide (e.text = []) && decide (e.list.length + e.scores.length + e.fields.length = 0)))) := pureCall_eq fun H => by
  refine ev_fn (fn := f80) rfl rfl ?_
  obtain ⟨h1, h2, h3⟩ := h
  have w1 : IntKind.i64.wrap ((e.list.length : Int) + (e.scores.length : Int)) = (e.list.length : Int) + (e.scores.length : Int) := IntWalk.i64_in _ (by omega)
  have w2 : IntKind.i64.wrap ((e.list.length : Int) + (e.scores.length : Int) + (e.fields.length : Int)) = (e.list.length : Int) + (e.scores.length : Int) + (e.fields.length : Int) := IntWalk.i64_in _ (by omega)
  have w3 : ((e.list.length : Int) + (e.scores.length : Int) + (e.fields.length : Int) = 0) = (e.list.length + e.scores.length + e.fields.length = 0) := by
    apply propext; omega
  by_cases a : e.kind = 1
  · simp [evC, -List.getD_eq_getElem?_getD, -List.map_map, f80, eq_true a]
  · by_cases b : e.text = []
    · generalize hz : e.list.length + e.scores.length + e.fields.length = z at *
      simp [evC, -List.getD_eq_getElem?_getD, -List.map_map, f80, eq_false a, eq_true b, w1, w2, w3]
    · simp [evC, -List.getD_eq_getElem?_getD, -List.map_map, f80, eq_false a, eq_false b]
def cpH (b : Ba) (n : Int) (zs : List En) (H : Hp) : Hp :=
  match zs with
  | [] => [.row 0 2 [.d (baD b)], .row 0 2 [.agg [.d (.int .i64 0), .nils 7]], .row 0 2 [.agg [.d (.int .i64 n), .nils 7]]]
  | z :: r => [.row 0 2 [.d (baD b)], .row 0 2 [.agg [.d (.int .i64 0), .nils 7]], .row 0 2 [.agg [.d (.int .i64 n), .slc (hlen H + 3) r.length 0 (r.length + 1)]], .row r.length 7 (((z :: r).map enD).map V.d)]
def cpV (b : Ba) (H : Hp) : V := match b.ents with
  | [] => .agg [.d (.int .i64 b.now), .nils 7]
  | z :: r => .agg [.d (.int .i64 b.now), .slc (hlen H) 0 0 (r.length + 1)]
def cpB (b : Ba) (H : Hp) : Hp := match b.ents with
  | [] => H
  | z :: r => ap H [.row 0 7 (((z :: r).map enD).map V.d)]
theorem e_36 (b : Ba) (hb : b.ents.length ≤ 1000000) (h : ∀ e ∈ b.ents, EnSm e) (H : Hp) : ev R 36 [.d (baD b)] H = some (cpV b H, cpB b H) := by
  refine ev_fn (fn := f36) rfl rfl ?_
  obtain ⟨o, e', X', he, rfl, rfl, g2, g3⟩ := (loop_keep (F := evCode (ev R) R.glob (hlen H) evLoop f36l0) (lv := [1, 2, 3, 4]) b.ents.length
    (fun i e X => X = ap H (cpH b b.now (b.ents.take i) H) ∧ e.get 1 = .ptr (hlen H) 0 0 0 ∧ e.get 2 = .ptr (hlen H + 1) 0 0 0 ∧ e.get 3 = .ptr (hlen H + 2) 0 0 0 ∧ e.get 4 = .d (.int .i64 i))
    (fun o e X => o = .exit 0 ∧ X = ap H (cpH b b.now b.ents H) ∧ e.get 2 = .ptr (hlen H + 1) 0 0 0 ∧ e.get 3 = .ptr (hlen H + 2) 0 0 0)
    (by
      rintro e X ⟨rfl, g1, g2, g3, g4⟩
      rw [List.take_length]
      cases hz : b.ents with
      | nil =>
        have hl : b.ents.length = 0 := by rw [hz]; rfl
        rw [hl] at g4
        simp [evC, -List.getD_eq_getElem?_getD, -List.map_map, f36l0, g1, g2, g3, g4, cpH, hl]
      | cons z r =>
        have hl : b.ents.length = r.length + 1 := by rw [hz]; rfl
        rw [hl] at g4
        simp [evC, -List.getD_eq_getElem?_getD, -List.map_map, f36l0, g1, g2, g3, g4, cpH, hl])
    (by
      rintro i e X hi ⟨rfl, g1, g2, g3, g4⟩
      have c : (i : Int) < (b.ents.length : Int) := by omega
      have g := ents_get b.ents i hi
      have p := p_63 (b.ents.getD i default) (h _ (getD_in hi))
      have w1 : IntKind.i64.wrap ((i : Int) + 1) = ((i + 1 : Nat) : Int) := by rw [IntWalk.i64_in _ (by omega)]; rfl
      rw [take_snoc' b.ents i default hi]
      have hl : (b.ents.take i).length = i := by rw [List.length_take]; omega
      generalize b.ents.getD i default = x at *
      generalize b.ents.take i = zs at *
      cases zs with
      | nil =>
        obtain rfl : i = 0 := by simpa using hl.symm
        have w0 : IntKind.i64.wrap 1 = 1 := by rw [IntWalk.i64_in _ (by omega)]
        simp [evC, -List.getD_eq_getElem?_getD, -List.map_map, f36l0, g1, g2, g3, g4, c, hi, g, p, w0, cpH, room]
      | cons z r =>
        obtain rfl : i = r.length + 1 := by simpa using hl.symm
        have rm : (r.length + 1 + 1) * 120 ≤ room := by unfold room; omega
        have c' : (r.length : Int) + 1 < (b.ents.length : Int) := by omega
        have w0 : IntKind.i64.wrap ((r.length : Int) + 1 + 1) = (r.length : Int) + 1 + 1 := IntWalk.i64_in _ (by omega)
        have c0 : (0 : Int) ≤ (r.length : Int) + 1 := by omega
        have c1 : ((r.length : Int) + 1).toNat = r.length + 1 := by omega
        simp [evC, -List.getD_eq_getElem?_getD, -List.map_map, f36l0, g1, g2, g3, g4, c', c0, c1, hi, g, p, w0, cpH, rm])
    b.ents.length 0 [(1, .ptr (hlen H) 0 0 0), (2, .ptr (hlen H + 1) 0 0 0), (3, .ptr (hlen H + 2) 0 0 0), (4, .d (.int .i64 0))] (ap H (cpH b b.now [] H)) (by omega) ⟨rfl, rfl, rfl, rfl, rfl⟩).out
  obtain ⟨now, ents⟩ := b
  cases ents with
  | nil =>
    simp only [cpH] at he
    simp [evC, -List.getD_eq_getElem?_getD, -List.map_map, f36, he, g2, g3, cpV, cpB, evO]
  | cons z r =>
    simp only [cpH] at he
    simp [evC, -List.getD_eq_getElem?_getD, -List.map_map, f36, he, g2, g3, cpV, cpB, evO]
theorem z_36 (b : Ba) (H : Hp) : fzV (hlen H) (cpB b H) (cpV b H) = some (.d (baD b)) := by
  obtain ⟨now, ents⟩ := b
  cases ents with
  | nil => simp [evC, -List.getD_eq_getElem?_getD, -List.map_map, cpV, cpB, baD_fold0]
  | cons z r =>
    simp [evC, -List.getD_eq_getElem?_getD, -List.map_map, cpV, cpB]
    rfl
theorem t_36 (b : Ba) (H : Hp) : htake (cpB b H) (hlen H) = H := by
  obtain ⟨now, ents⟩ := b
  cases ents with
  | nil => simp [evC, -List.getD_eq_getElem?_getD, -List.map_map, cpB]
  | cons z r => simp [evC, -List.getD_eq_getElem?_getD, -List.map_map, cpB]
end Go.Proofs.YtjdmiodinhlchaaGreat.Code
/- The reference's bases: what stands under a key, and taking it away. -/
namespace Go.Proofs.YtjdmiodinhlchaaGreat.Code
open Go Go.Ev Go.Proofs
set_option maxRecDepth 100000
set_option linter.unusedSimpArgs false
set_option linter.unusedVariables false
structure BaSm (b : Ba) : Prop where
  len : b.ents.length ≤ 1000000
  each : ∀ e ∈ b.ents, EnSm e
theorem kHas_lt {es : List En} {t : Txt} (h : kHas es t = true) : kAt es t < es.length := by
  unfold kHas at h
  rw [Bool.and_eq_true, decide_eq_true_eq] at h
  exact h.1
def rGet (b : Ba) (t : Txt) : En := if kHas b.ents t = true then b.ents.getD (kAt b.ents t) default else ⟨t, 0, 0, [], [], [], []⟩
theorem p_47 (b : Ba) (t : Txt) (hb : BaSm b) : pureCall (ev R) 47 [.d (baD b), .d (.str t)] = some (.d (enD (rGet b t))) := pureCall_eq fun H => by
  refine ev_fn (fn := f47) rfl rfl ?_
  have p1 := p_45 b t hb.len
  have hl := kHas_lt (es := b.ents) (t := t)
  unfold rGet
  cases h : kHas b.ents t with
  | false =>
    rw [h] at p1
    simp [evC, -List.getD_eq_getElem?_getD, -List.map_map, f47, p1]
  | true =>
    rw [h] at p1
    have hl := hl h
    have c : (kAt b.ents t : Int) < (b.ents.length : Int) := by omega
    have c0 : (0 : Int) ≤ (kAt b.ents t : Int) := by omega
    have g := ents_get b.ents (kAt b.ents t) hl
    have p2 := p_63 (b.ents.getD (kAt b.ents t) default) (hb.each _ (getD_in hl))
    simp [evC, -List.getD_eq_getElem?_getD, -List.map_map, f47, p1, hl, c, c0, g, p2]
def rDel (b : Ba) (t : Txt) : Ba := if kHas b.ents t = true then ⟨b.now, delAt b.ents (kAt b.ents t)⟩ else b
theorem p_46 (b : Ba) (t : Txt) (hb : BaSm b) : pureCall (ev R) 46 [.d (baD b), .d (.str t)] = some (.d (baD (rDel b t))) := pureCall_eq fun H => by
  refine ev_fn (fn := f46) rfl rfl ?_
  have p0 := e_36 b hb.len hb.each
  have z0 := z_36 b
  have t0 := t_36 b
  have p1 := p_45 b t hb.len
  have hl := kHas_lt (es := b.ents) (t := t)
  have hbl := hb.len
  unfold rDel
  cases h : kHas b.ents t with
  | false =>
    rw [h] at p1
    simp [evC, -List.getD_eq_getElem?_getD, -List.map_map, f46, p0, ↓z0, ↓t0, p1]
  | true =>
    rw [h] at p1
    have hl := hl h
    obtain ⟨now, ents⟩ := b
    dsimp only at *
    generalize kAt ents t = k at *
    have hk : k ≤ ents.length := by omega
    have hk' : (k : Int) ≤ (ents.length : Int) := by omega
    have hk0 : (0 : Int) ≤ (k : Int) := by omega
    have w1 : IntKind.i64.wrap ((k : Int) + 1) = ((k + 1 : Nat) : Int) := by rw [IntWalk.i64_in _ (by omega)]; rfl
    have hk1 : (k : Int) + 1 ≤ (ents.length : Int) := by omega
    have hk2 : k + 1 ≤ ents.length := by omega
    have hk3 : (0 : Int) ≤ (k : Int) + 1 := by omega
    have hk4 : ((k : Int) + 1).toNat = k + 1 := by omega
    have r1 : k * 120 ≤ room := by unfold room; omega
    have r3 : (k + (ents.length - (k + 1))) * 120 ≤ room := by unfold room; omega
    have mn : min k ents.length = k := by omega
    have f1 := del_fold enD ents k
    have f2 := del_take enD ents k hl
    have f3 := del_le ents k hl
    simp [evC, -List.getD_eq_getElem?_getD, -List.map_map, f46, p0, ↓z0, ↓t0, p1, bound, hl, hk, hk', hk0, w1, hk1, hk2, hk3, hk4, r1, r3, mn, f1, f2, f3]
end Go.Proofs.YtjdmiodinhlchaaGreat.Code
/- The reference's bases: putting an entry. -/
namespace Go.Proofs.YtjdmiodinhlchaaGreat.Code
open Go Go.Ev Go.Proofs
set_option maxRecDepth 100000
set_option linter.unusedSimpArgs false
set_option linter.unusedVariables false
def emptyE (e : En) : Bool := decide (e.kind ≠ 1) && decide (e.text = []) && decide (e.list.length + e.scores.length + e.fields.length = 0)
def mayPut (b : Ba) (e : En) : Bool := enOk e && !(decide (e.till ≠ 0) && decide (e.till ≤ b.now)) && decide ((rDel b e.key).ents.length < 12)
def rPutB (b : Ba) (e : En) : Ba × Bool :=
  if emptyE e = true then (rDel b e.key, true)
  else if mayPut b e = true then (⟨b.now, insAt (rDel b e.key).ents (kAt (rDel b e.key).ents e.key) e⟩, true)
  else (b, false)
theorem rDel_now (b : Ba) (t : Txt) : (rDel b t).now = b.now := by unfold rDel; split <;> rfl
theorem rDel_mem {b : Ba} {t : Txt} {e : En} (h : e ∈ (rDel b t).ents) : e ∈ b.ents := by
  unfold rDel at h
  split at h
  · simp only [delAt, List.mem_append] at h
    rcases h with h | h
    · exact List.mem_of_mem_take h
    · exact List.mem_of_mem_drop h
  · exact h
theorem rDel_len (b : Ba) (t : Txt) : (rDel b t).ents.length ≤ b.ents.length := by
  unfold rDel
  split
  · rename_i h
    have := kHas_lt h
    simp only [delAt_len _ _ this]; omega
  · exact Nat.le_refl _
theorem rDel_sm {b : Ba} (hb : BaSm b) (t : Txt) : BaSm (rDel b t) := ⟨Nat.le_trans (rDel_len b t) hb.len, fun e he => hb.each e (rDel_mem he)⟩
theorem p_52 (b : Ba) (e : En) (hb : BaSm b) (he : EnSm e) (hf : EnFit e) : pureCall (ev R) 52 [.d (baD b), .d (enD e)] = some (.tup [.d (baD (rPutB b e).1), .d (.bool (rPutB b e).2)]) := pureCall_eq fun H => by
  refine ev_fn (fn := f52) rfl rfl ?_
  have p0 := e_36 b hb.len hb.each
  have z0 := z_36 b
  have t0 := t_36 b
  have p1 := p_46 b e.key hb
  have p2 : pureCall (ev R) 80 [.d (enD e)] = some (.d (.bool (emptyE e))) := p_80 e he
  have p3 := pureCall_eq (cl := ev R) fun H => e_31 H e hf
  have p4 := p_45 (rDel b e.key) e.key (rDel_sm hb e.key).len
  have p5 := p_63 e he
  have hn := rDel_now b e.key
  have hdl := rDel_len b e.key
  have hbl := hb.len
  unfold rPutB
  cases h1 : emptyE e with
  | true =>
    rw [h1] at p2
    simp [evC, -List.getD_eq_getElem?_getD, -List.map_map, f52, p1, p2]
  | false =>
    rw [h1] at p2
    unfold mayPut
    cases h2 : enOk e with
    | false =>
      rw [h2] at p3
      simp [evC, -List.getD_eq_getElem?_getD, -List.map_map, f52, p0, ↓z0, ↓t0, p1, p2, p3]
    | true =>
      rw [h2] at p3
      by_cases h3 : e.till ≠ 0 ∧ e.till ≤ b.now
      · have h30 : (e.till = 0) = False := eq_false h3.1
        have h31 : (e.till ≤ b.now) = True := eq_true h3.2
        simp [evC, -List.getD_eq_getElem?_getD, -List.map_map, f52, p0, ↓z0, ↓t0, p1, p2, p3, h30, h31]
      · by_cases h4 : (rDel b e.key).ents.length < 12
        · have h4' : ((rDel b e.key).ents.length : Int) < 12 := by omega
          have h4'' : ¬ (12 : Int) ≤ ((rDel b e.key).ents.length : Int) := by omega
          have hk := kAt_le (rDel b e.key).ents e.key
          generalize rDel b e.key = C at *
          obtain ⟨now, ents⟩ := C
          dsimp only at *
          subst hn
          generalize kAt ents e.key = k at *
          have hk' : (k : Int) ≤ (ents.length : Int) := by omega
          have hk0 : (0 : Int) ≤ (k : Int) := by omega
          have r1 : k * 120 ≤ room := by unfold room; omega
          have r2 : (k + 1) * 120 ≤ room := by unfold room; omega
          have r3 : (k + 1 + (ents.length - k)) * 120 ≤ room := by unfold room; omega
          have mn : min k ents.length = k := by omega
          have f1 := ins_fold enD ents k e
          have f2 := ins_take enD ents k e hk
          have f3 := ins_le ents k e hk
          by_cases h5 : e.till = 0
          · simp [evC, -List.getD_eq_getElem?_getD, -List.map_map, f52, p0, ↓z0, ↓t0, p1, p2, p3, p4, p5, eq_true h5, h4, h4', h4'', bound, hk, hk', hk0, r1, r2, r3, mn, f1, f2, f3]
          · have h6 : (e.till ≤ b.now) = False := eq_false (fun h => h3 ⟨h5, h⟩)
            simp [evC, -List.getD_eq_getElem?_getD, -List.map_map, f52, p0, ↓z0, ↓t0, p1, p2, p3, p4, p5, eq_false h5, h6, h4, h4', h4'', bound, hk, hk', hk0, r1, r2, r3, mn, f1, f2, f3]
        · have h4' : ¬ ((rDel b e.key).ents.length : Int) < 12 := by omega
          have h4'' : (12 : Int) ≤ ((rDel b e.key).ents.length : Int) := by omega
          by_cases h5 : e.till = 0
          · simp [evC, -List.getD_eq_getElem?_getD, -List.map_map, f52, p0, ↓z0, ↓t0, p1, p2, p3, eq_true h5, h4, h4', h4'']
          · have h6 : (e.till ≤ b.now) = False := eq_false (fun h => h3 ⟨h5, h⟩)
            simp [evC, -List.getD_eq_getElem?_getD, -List.map_map, f52, p0, ↓z0, ↓t0, p1, p2, p3, eq_false h5, h6, h4, h4', h4'']
end Go.Proofs.YtjdmiodinhlchaaGreat.Code
/- The reference: keeping an entry, adding numbers, names of scores. -/
namespace Go.Proofs.YtjdmiodinhlchaaGreat.Code
open Go Go.Ev Go.Proofs
set_option maxRecDepth 100000
set_option linter.unusedSimpArgs false
set_option linter.unusedVariables false
def errRe (s : Txt) : Re := .mk 1 0 s [] []
def rKeep (b : Ba) (e : En) (r : Re) : Ba × Re := if (rPutB b e).2 = true then ((rPutB b e).1, r) else (b, errRe [102, 117, 108, 108])
theorem p_132 (b : Ba) (e : En) (r : Re) (hb : BaSm b) (he : EnSm e) (hf : EnFit e) : pureCall (ev R) 132 [.d (baD b), .d (enD e), .d (reD r)] = some (.tup [.d (baD (rKeep b e r).1), .d (reD (rKeep b e r).2)]) := pureCall_eq fun H => by
  refine ev_fn (fn := f132) rfl rfl ?_
  have p0 := e_36 b hb.len hb.each
  have z0 := z_36 b
  have t0 := t_36 b
  have p1 := p_52 b e hb he hf
  have p2 := p_108 [102, 117, 108, 108]
  unfold rKeep
  generalize rPutB b e = P at *
  obtain ⟨P1, P2⟩ := P
  cases P2 with
  | true => simp [evC, -List.getD_eq_getElem?_getD, -List.map_map, f132, p0, ↓z0, ↓t0, p1, p2]
  | false => simp [evC, -List.getD_eq_getElem?_getD, -List.map_map, f132, p0, ↓z0, ↓t0, p1, p2, errRe]
def rNames (xs : List Sc) : List Txt := xs.map (·.1)
theorem p_151 (xs : List Sc) (hx : xs.length ≤ 1000000) : pureCall (ev R) 151 [.d (scs xs)] = some (.d (txts (rNames xs))) := pureCall_eq fun H => by
  refine ev_fn (fn := f151) rfl rfl ?_
  obtain ⟨o, e', X', he, zs, hz, rfl, rfl, g3⟩ := (loop_keep (F := evCode (ev R) R.glob (hlen H) evLoop f151l0) (lv := [0, 3, 4]) xs.length
    (fun i e X => ∃ zs : List Txt, zs = rNames (xs.take i) ∧ X = ap H [.row zs.length 1 ((zs.map D.str).map V.d)] ∧ e.get 0 = .d (scs xs) ∧ e.get 3 = .slc (hlen H) zs.length 0 zs.length ∧ e.get 4 = .d (.int .i64 i))
    (fun o e X => ∃ zs : List Txt, zs = rNames xs ∧ o = .exit 0 ∧ X = ap H [.row zs.length 1 ((zs.map D.str).map V.d)] ∧ e.get 3 = .slc (hlen H) zs.length 0 zs.length)
    (by
      rintro e X ⟨zs, hz, rfl, g0, g3, g4⟩
      rw [List.take_length] at hz
      have key : evCode (ev R) R.glob (hlen H) evLoop f151l0 ⟨e.keep [0, 3, 4], ap H [.row zs.length 1 ((zs.map D.str).map V.d)]⟩ = some (.exit 0, ⟨[(0, .d (scs xs)), (3, .slc (hlen H) zs.length 0 zs.length), (4, .d (.int .i64 xs.length)), (9, .d (.bool false))], ap H [.row zs.length 1 ((zs.map D.str).map V.d)]⟩) := by
        simp [evC, -List.getD_eq_getElem?_getD, -List.map_map, f151l0, g0, g3, g4, scs]
      rw [key]
      exact ⟨by simp, zs, hz, rfl, rfl, rfl⟩)
    (by
      rintro i e X hi ⟨zs, hz, rfl, g0, g3, g4⟩
      have c : (i : Int) < (xs.length : Int) := by omega
      have g := scs_get' xs i hi
      have w1 : IntKind.i64.wrap ((i : Int) + 1) = ((i + 1 : Nat) : Int) := by rw [IntWalk.i64_in _ (by omega)]; rfl
      have hl : zs.length = i := by rw [hz]; simp only [rNames, List.length_map, List.length_take]; omega
      have r : (i + 1) * 16 ≤ room := by unfold room; omega
      have hn : rNames (xs.take (i + 1)) = zs ++ [(xs.getD i ([], 0)).1] := by rw [take_snoc' xs i ([], 0) hi, hz]; simp only [rNames, List.map_append, List.map_cons, List.map_nil]
      simp [evC, -List.getD_eq_getElem?_getD, -List.map_map, f151l0, g0, g3, g4, c, hi, g, w1, r, hn, hl, scs])
    xs.length 0 [(0, .d (scs xs)), (3, .slc (hlen H) 0 0 0), (4, .d (.int .i64 0))] (ap H [.row 0 1 []]) (by omega) ⟨[], by simp [rNames], rfl, rfl, rfl, rfl⟩).out
  have ft : List.take zs.length ((zs.map D.str).map V.d) = (zs.map D.str).map V.d := List.take_of_length_le (by simp)
  rw [← hz]
  simp [evC, -List.getD_eq_getElem?_getD, -List.map_map, f151, he, g3, ft, txts]
def rScAt (xs : List Sc) (f t : Int) : List Sc := ((xs.take (endsV xs.length f t).2.toNat).drop (endsV xs.length f t).1.toNat)
theorem p_152 (xs : List Sc) (f t : Int) (hx : xs.length ≤ 1000000) : pureCall (ev R) 152 [.d (scs xs), .d (.int .i64 f), .d (.int .i64 t)] =
    some (.d (scs (if scoresV xs = true ∧ place f = true ∧ place t = true then rScAt xs f t else []))) := pureCall_eq fun H => by
  refine ev_fn (fn := f152) rfl rfl ?_
  have p1 := p_58 xs (by omega)
  have p2 : pureCall (ev R) 163 [.d (.int .i64 f)] = some (.d (.bool (place f))) := p_163 f
  have p3 : pureCall (ev R) 163 [.d (.int .i64 t)] = some (.d (.bool (place t))) := p_163 t
  cases h1 : scoresV xs with
  | false => rw [h1] at p1; simp [evC, -List.getD_eq_getElem?_getD, -List.map_map, f152, p1, scs]
  | true =>
    cases h2 : place f with
    | false => rw [h1] at p1; rw [h2] at p2; simp [evC, -List.getD_eq_getElem?_getD, -List.map_map, f152, p1, p2, scs]
    | true =>
      cases h3 : place t with
      | false => rw [h1] at p1; rw [h2] at p2; rw [h3] at p3; simp [evC, -List.getD_eq_getElem?_getD, -List.map_map, f152, p1, p2, p3, scs]
      | true =>
        rw [h1] at p1; rw [h2] at p2; rw [h3] at p3
        unfold place at h2 h3
        simp only [Bool.and_eq_true, decide_eq_true_eq] at h2 h3
        have p4 := p_134 xs.length f t (by omega) h2 h3
        obtain ⟨b1, b2, b3⟩ := endsV_in xs.length f t
        have hr : rScAt xs f t = ((xs.take (endsV xs.length f t).2.toNat).drop (endsV xs.length f t).1.toNat) := rfl
        generalize (endsV xs.length f t).1 = a at *
        generalize (endsV xs.length f t).2 = b at *
        obtain ⟨A, rfl⟩ : ∃ A : Nat, a = (A : Int) := ⟨a.toNat, by omega⟩
        obtain ⟨B, rfl⟩ : ∃ B : Nat, b = (B : Int) := ⟨b.toNat, by omega⟩
        simp only [Int.toNat_natCast] at hr
        have b5 : A ≤ B := by omega
        have b6 : B ≤ xs.length := by omega
        have hd : List.drop A (List.take B (List.map scD xs)) = (rScAt xs f t).map scD := by rw [hr]; simp only [List.map_drop, List.map_take]
        have hl : (rScAt xs f t).length ≤ 1000000 := by rw [hr]; simp only [List.length_drop, List.length_take]; omega
        generalize rScAt xs f t = ys at *
        have r : ys.length * 24 ≤ room := by unfold room; omega
        have ft : List.take ys.length ((ys.map scD).map V.d) = (ys.map scD).map V.d := List.take_of_length_le (by simp)
        simp [evC, -List.getD_eq_getElem?_getD, -List.map_map, f152, p1, p2, p3, p4, bound, b1, b2, b3, b5, b6, hd, r, ft, scs]
end Go.Proofs.YtjdmiodinhlchaaGreat.Code
/- Scores within bounds; entries of a list dropped. -/
namespace Go.Proofs.YtjdmiodinhlchaaGreat.Code
open Go Go.Ev Go.Proofs
set_option maxRecDepth 100000
set_option linter.unusedSimpArgs false
set_option linter.unusedVariables false
def inV (lo hi n : Int) : Bool := decide (n ≥ lo) && decide (n ≤ hi)
def rBy (xs : List Sc) (lo hi : Int) : List Sc := if scoresV xs = true then xs.filter fun x => inV lo hi x.2 else []
theorem p_153 (xs : List Sc) (lo up : Int) (hx : xs.length ≤ 1000000) : pureCall (ev R) 153 [.d (scs xs), .d (.int .i64 lo), .d (.int .i64 up)] = some (.d (scs (rBy xs lo up))) := pureCall_eq fun H => by
  refine ev_fn (fn := f153) rfl rfl ?_
  have p1 := p_58 xs (by omega)
  unfold rBy
  cases h1 : scoresV xs with
  | true =>
    rw [h1] at p1
    obtain ⟨o, e', X', he, rfl, rfl, g7⟩ := (loop_keep (F := evCode (ev R) R.glob (hlen H) evLoop f153l0) (lv := [0, 1, 2, 7, 8]) xs.length
      (fun i e X => ∃ zs, zs = (xs.take i).filter (fun x => inV lo up x.2) ∧ X = ap H [.row zs.length 2 ((zs.map scD).map V.d)] ∧ e.get 0 = .d (scs xs) ∧ e.get 1 = .d (.int .i64 lo) ∧ e.get 2 = .d (.int .i64 up) ∧ e.get 7 = .slc (hlen H) zs.length 0 zs.length ∧ e.get 8 = .d (.int .i64 i))
      (fun o e X => o = .exit 0 ∧ X = ap H [.row (xs.filter (fun x => inV lo up x.2)).length 2 (((xs.filter (fun x => inV lo up x.2)).map scD).map V.d)] ∧ e.get 7 = .slc (hlen H) (xs.filter (fun x => inV lo up x.2)).length 0 (xs.filter (fun x => inV lo up x.2)).length)
      (by
        rintro e X ⟨zs, rfl, rfl, g0, g1, g2, g7, g8⟩
        rw [List.take_length] at *
        simp [evC, -List.getD_eq_getElem?_getD, -List.map_map, f153l0, g0, g1, g2, g7, g8, p1, scs])
      (by
        rintro i e X hi ⟨zs, hz, rfl, g0, g1, g2, g7, g8⟩
        have c : (i : Int) < (xs.length : Int) := by omega
        have g := scs_get' xs i hi
        have w1 : IntKind.i64.wrap ((i : Int) + 1) = ((i + 1 : Nat) : Int) := by rw [IntWalk.i64_in _ (by omega)]; rfl
        have hf := take_fil (fun x => inV lo up x.2) xs i ([], 0) hi
        have hl := fil_len (fun x => inV lo up x.2) xs i hi
        rw [← hz] at hf hl
        have p2 : pureCall (ev R) 32 [.d (.int .i64 (xs.getD i ([], 0)).2), .d (.int .i64 lo), .d (.int .i64 up)] = some (.d (.bool (inV lo up (xs.getD i ([], 0)).2))) := p_32 (xs.getD i ([], 0)).2 lo up
        have r : (zs.length + 1) * 24 ≤ room := by unfold room; omega
        by_cases h : inV lo up (xs.getD i ([], 0)).2 = true
        · simp only [h, if_true] at hf
          rw [h] at p2
          simp [evC, -List.getD_eq_getElem?_getD, -List.map_map, f153l0, g0, g1, g2, g7, g8, p1, c, g, hi, w1, hf, r, p1, p2, scs]
        · simp only [h, Bool.false_eq_true, if_false, List.append_nil] at hf
          rw [Bool.not_eq_true] at h
          rw [h] at p2
          simp [evC, -List.getD_eq_getElem?_getD, -List.map_map, f153l0, g0, g1, g2, g7, g8, p1, c, g, hi, w1, hf, p1, p2, scs])
      xs.length 0 [(0, .d (scs xs)), (1, .d (.int .i64 lo)), (2, .d (.int .i64 up)), (7, .slc (hlen H) 0 0 0), (8, .d (.int .i64 0))] (ap H [.row 0 2 []]) (by omega) ⟨[], by simp, rfl, rfl, rfl, rfl, rfl, rfl⟩).out
    simp [evC, -List.getD_eq_getElem?_getD, -List.map_map, f153, p1, he, g7, scs]
  | false =>
    rw [h1] at p1
    obtain ⟨o, e', X', he, rfl, rfl, g7⟩ : ∃ o e' X', evLoop (evCode (ev R) R.glob (hlen H) evLoop f153l0) [0, 1, 2, 7, 8] ⟨[(0, .d (scs xs)), (1, .d (.int .i64 lo)), (2, .d (.int .i64 up)), (7, .slc (hlen H) 0 0 0), (8, .d (.int .i64 0))], ap H [.row 0 2 []]⟩ = some (o, ⟨e', X'⟩) ∧ o = .exit 0 ∧ X' = ap H [.row 0 2 []] ∧ e'.get 7 = .slc (hlen H) 0 0 0 := by
      have key : ∀ e : Env, e.get 0 = .d (scs xs) → e.get 7 = .slc (hlen H) 0 0 0 → e.get 8 = .d (.int .i64 0) → Gives (fun o e X => o ≠ .normal ∧ o = .exit 0 ∧ X = ap H [.row 0 2 []] ∧ e.get 7 = .slc (hlen H) 0 0 0) (evCode (ev R) R.glob (hlen H) evLoop f153l0 ⟨e.keep [0, 1, 2, 7, 8], ap H [.row 0 2 []]⟩) := by
        intro e g0 g7 g8
        by_cases hz : 0 < xs.length
        · have c : (0 : Int) < (xs.length : Int) := by omega
          simp [evC, -List.getD_eq_getElem?_getD, -List.map_map, f153l0, g0, g7, g8, c, hz, p1, scs]
        · have c : ¬ (0 : Int) < (xs.length : Int) := by omega
          simp [evC, -List.getD_eq_getElem?_getD, -List.map_map, f153l0, g0, g7, g8, c, hz, scs]
      obtain ⟨o, e', X', h1, h2, h3⟩ := (key [(0, .d (scs xs)), (1, .d (.int .i64 lo)), (2, .d (.int .i64 up)), (7, .slc (hlen H) 0 0 0), (8, .d (.int .i64 0))] rfl rfl rfl).out
      exact ⟨o, e', X', evLoop_stop h1 h2, h3⟩
    simp [evC, -List.getD_eq_getElem?_getD, -List.map_map, f153, he, g7, scs]
def typeV (k : Nat) : Txt := [[110, 111, 110, 101], [115, 116, 114, 105, 110, 103], [108, 105, 115, 116], [115, 101, 116], [122, 115, 101, 116], [104, 97, 115, 104]].getD k []
theorem p_156 (k : Int) (hk : 0 ≤ k ∧ k ≤ 5) : pureCall (ev R) 156 [.d (.int .i64 k)] = some (.d (.str (typeV k.toNat))) := pureCall_eq fun H => by
  refine ev_fn (fn := f156) rfl rfl ?_
  obtain rfl | rfl | rfl | rfl | rfl | rfl : k = 0 ∨ k = 1 ∨ k = 2 ∨ k = 3 ∨ k = 4 ∨ k = 5 := by omega
  all_goals simp [evC, -List.getD_eq_getElem?_getD, -List.map_map, f156, typeV, List.getD_cons_zero, List.getD_cons_succ]
end Go.Proofs.YtjdmiodinhlchaaGreat.Code
/- Entries of a list dropped. -/
namespace Go.Proofs.YtjdmiodinhlchaaGreat.Code
open Go Go.Ev Go.Proofs
set_option maxRecDepth 100000
set_option linter.unusedSimpArgs false
set_option linter.unusedVariables false
def dropStep (xs : List Txt) (t : Txt) (c most : Int) (i : Nat) (s : List Txt × Nat) : List Txt × Nat :=
  if xs.getD i [] = t ∧ (c = 0 ∨ (s.2 : Int) < most) then (s.1, s.2 + 1) else (s.1 ++ [xs.getD i []], s.2)
def dropAll (xs : List Txt) (t : Txt) (c most : Int) : List Txt × Nat := (List.range' 0 xs.length).foldl (fun s i => dropStep xs t c most i s) ([], 0)
theorem l_139 (H : Hp) (xs : List Txt) (t : Txt) (c most : Int) (hx : xs.length ≤ 1000000) : ∃ e', evLoop (evCode (ev R) R.glob (hlen H) evLoop f139l0) [1, 2, 8, 9, 10, 11, 12] ⟨[(1, .d (.int .i64 c)), (2, .d (.str t)), (8, .d (txts xs)), (9, .d (.int .i64 most)), (10, .slc (hlen H) 0 0 0), (11, .d (.int .i64 0)), (12, .d (.int .i64 0))], ap H [.row 0 1 []]⟩ =
    some (.exit 0, ⟨e', ap H [.row (dropAll xs t c most).1.length 1 (((dropAll xs t c most).1.map D.str).map V.d)]⟩) ∧ e'.get 1 = .d (.int .i64 c) ∧ e'.get 10 = .slc (hlen H) (dropAll xs t c most).1.length 0 (dropAll xs t c most).1.length ∧ e'.get 11 = .d (.int .i64 (dropAll xs t c most).2) ∧ (dropAll xs t c most).1.length + (dropAll xs t c most).2 = xs.length := by
  have key := loop_all (F := evCode (ev R) R.glob (hlen H) evLoop f139l0) (lv := [1, 2, 8, 9, 10, 11, 12]) (dropStep xs t c most) xs.length
    (fun i s e X => s.1.length + s.2 = i ∧ X = ap H [.row s.1.length 1 ((s.1.map D.str).map V.d)] ∧ e.get 1 = .d (.int .i64 c) ∧ e.get 2 = .d (.str t) ∧ e.get 8 = .d (txts xs) ∧ e.get 9 = .d (.int .i64 most) ∧ e.get 10 = .slc (hlen H) s.1.length 0 s.1.length ∧ e.get 11 = .d (.int .i64 s.2) ∧ e.get 12 = .d (.int .i64 i))
    (fun s o e X => o = .exit 0 ∧ s.1.length + s.2 = xs.length ∧ X = ap H [.row s.1.length 1 ((s.1.map D.str).map V.d)] ∧ e.get 1 = .d (.int .i64 c) ∧ e.get 10 = .slc (hlen H) s.1.length 0 s.1.length ∧ e.get 11 = .d (.int .i64 s.2))
    (by
      rintro ⟨zs, n⟩ e X ⟨hl, rfl, g1, g2, g8, g9, g10, g11, g12⟩
      dsimp only at *
      simp [evC, -List.getD_eq_getElem?_getD, -List.map_map, f139l0, g1, g2, g8, g9, g10, g11, g12, eq_true hl, txts])
    (by
      rintro i ⟨zs, n⟩ e X hi ⟨hl, rfl, g1, g2, g8, g9, g10, g11, g12⟩
      dsimp only at *
      have cc : (i : Int) < (xs.length : Int) := by omega
      have g := txts_get xs i hi
      have w1 : IntKind.i64.wrap ((i : Int) + 1) = (i : Int) + 1 := IntWalk.i64_in _ (by omega)
      have w2 : IntKind.i64.wrap ((n : Int) + 1) = (n : Int) + 1 := IntWalk.i64_in _ (by omega)
      have r : (zs.length + 1) * 16 ≤ room := by unfold room; omega
      have hl1 : (zs.length + (n + 1) = i + 1) = True := eq_true (by omega)
      have hl2 : (zs.length + 1 + n = i + 1) = True := eq_true (by omega)
      by_cases a : xs.getD i [] = t
      · by_cases b : c = 0
        · simp [evC, -List.getD_eq_getElem?_getD, -List.map_map, f139l0, g1, g2, g8, g9, g10, g11, g12, cc, hi, g, w1, w2, hl1, hl2, dropStep, eq_true a, eq_true b, txts]
        · by_cases d : (n : Int) < most
          · simp [evC, -List.getD_eq_getElem?_getD, -List.map_map, f139l0, g1, g2, g8, g9, g10, g11, g12, cc, hi, g, w1, w2, hl1, hl2, dropStep, eq_true a, eq_false b, eq_true d, txts]
          · simp [evC, -List.getD_eq_getElem?_getD, -List.map_map, f139l0, g1, g2, g8, g9, g10, g11, g12, cc, hi, g, w1, w2, r, hl1, hl2, dropStep, eq_true a, eq_false b, eq_false d, txts]
      · simp [evC, -List.getD_eq_getElem?_getD, -List.map_map, f139l0, g1, g2, g8, g9, g10, g11, g12, cc, hi, g, w1, w2, r, hl1, hl2, dropStep, eq_false a, txts])
    xs.length 0 ([], 0) [(1, .d (.int .i64 c)), (2, .d (.str t)), (8, .d (txts xs)), (9, .d (.int .i64 most)), (10, .slc (hlen H) 0 0 0), (11, .d (.int .i64 0)), (12, .d (.int .i64 0))] (ap H [.row 0 1 []]) (by omega) ⟨rfl, rfl, rfl, rfl, rfl, rfl, rfl, rfl, rfl⟩
  obtain ⟨o, e', X', he, rfl, hl, rfl, g1, g10, g11⟩ := key.out
  exact ⟨e', he, g1, g10, g11, hl⟩
def rLDrop (xs : List Txt) (c : Int) (t : Txt) : List Txt × Nat :=
  if c < 0 then ((dropAll xs.reverse t c (-c)).1.reverse, (dropAll xs.reverse t c (-c)).2) else dropAll xs t c c
theorem p_139 (xs : List Txt) (c : Int) (t : Txt) (hx : xs.length ≤ 1000000) : pureCall (ev R) 139 [.d (txts xs), .d (.int .i64 c), .d (.str t)] =
    some (if okTexts xs = true ∧ place c = true then .tup [.d (txts (rLDrop xs c t).1), .d (.int .i64 (rLDrop xs c t).2)] else .tup [.d (txts []), .d (.int .i64 0)]) := pureCall_eq fun H => by
  refine ev_fn (fn := f139) rfl rfl ?_
  have p1 := p_56 xs (by omega)
  have p2 : pureCall (ev R) 163 [.d (.int .i64 c)] = some (.d (.bool (place c))) := p_163 c
  have p5 := p_85 xs hx
  have p6 := p_85n xs hx
  have p7 := fun H => pureCall_some (p_164 xs hx) H
  cases h1 : okTexts xs with
  | false => rw [h1] at p1; simp [evC, -List.getD_eq_getElem?_getD, -List.map_map, f139, p1, p2, txts]
  | true =>
    rw [h1] at p1
    cases h2 : place c with
    | false => rw [h2] at p2; simp [evC, -List.getD_eq_getElem?_getD, -List.map_map, f139, p1, p2, txts]
    | true =>
      rw [h2] at p2
      unfold place at h2
      simp only [Bool.and_eq_true, decide_eq_true_eq] at h2
      unfold rLDrop
      by_cases hc : c < 0
      · have w : IntKind.i64.wrap (-c) = -c := IntWalk.i64_in _ (by omega)
        obtain ⟨e', he, g1, g10, g11, hl⟩ := l_139 H xs.reverse t c (-c) (by rw [List.length_reverse]; exact hx)
        have hrl : xs.reverse.length = xs.length := List.length_reverse
        simp only [if_pos hc]
        generalize xs.reverse = ys at *
        generalize dropAll ys t c (-c) = A at *
        obtain ⟨zs, n⟩ := A
        dsimp only at *
        have p8 := fun H => pureCall_some (p_164 zs (by omega)) H
        generalize zs.reverse = us at *
        have ft : List.take zs.length (zs.map D.str) = zs.map D.str := List.take_of_length_le (by simp)
        simp [evC, -List.getD_eq_getElem?_getD, -List.map_map, f139, p1, p2, p5, p6, p7, p8, eq_true hc, w, he, g1, g10, g11, ft, txts]
      · obtain ⟨e', he, g1, g10, g11, hl⟩ := l_139 H xs t c c hx
        simp only [if_neg hc]
        generalize dropAll xs t c c = A at *
        obtain ⟨zs, n⟩ := A
        dsimp only at *
        have ft : List.take zs.length ((zs.map D.str).map V.d) = (zs.map D.str).map V.d := List.take_of_length_le (by simp)
        simp [evC, -List.getD_eq_getElem?_getD, -List.map_map, f139, p1, p2, p5, p6, p7, eq_false hc, he, g1, g10, g11, ft, txts]
end Go.Proofs.YtjdmiodinhlchaaGreat.Code
/- What an order is: its words, its kind. -/
namespace Go.Proofs.YtjdmiodinhlchaaGreat.Code
open Go Go.Ev Go.Proofs
set_option maxRecDepth 100000
set_option linter.unusedSimpArgs false
set_option linter.unusedVariables false
def wordV (w : Txt) : Int × Int × Int :=
  if w = [71, 69, 84] then (2, 2, 1) else
  if w = [83, 84, 82, 76, 69, 78] then (2, 2, 1) else
  if w = [73, 78, 67, 82] then (2, 2, 1) else
  if w = [83, 69, 84] then (3, 3, 0) else
  if w = [65, 80, 80, 69, 78, 68] then (3, 3, 1) else
  if w = [73, 78, 67, 82, 66, 89] then (3, 3, 1) else
  if w = [71, 69, 84, 82, 65, 78, 71, 69] then (4, 4, 1) else
  if w = [76, 80, 85, 83, 72] then (3, 8, 2) else
  if w = [82, 80, 85, 83, 72] then (3, 8, 2) else
  if w = [76, 80, 79, 80] then (2, 2, 2) else
  if w = [82, 80, 79, 80] then (2, 2, 2) else
  if w = [76, 76, 69, 78] then (2, 2, 2) else
  if w = [76, 82, 65, 78, 71, 69] then (4, 4, 2) else
  if w = [76, 84, 82, 73, 77] then (4, 4, 2) else
  if w = [76, 83, 69, 84] then (4, 4, 2) else
  if w = [76, 82, 69, 77] then (4, 4, 2) else
  if w = [83, 65, 68, 68] then (3, 8, 3) else
  if w = [83, 82, 69, 77] then (3, 8, 3) else
  if w = [83, 77, 69, 77, 66, 69, 82, 83] then (2, 2, 3) else
  if w = [83, 67, 65, 82, 68] then (2, 2, 3) else
  if w = [83, 73, 83, 77, 69, 77, 66, 69, 82] then (3, 3, 3) else
  if w = [83, 73, 78, 84, 69, 82] then (3, 3, 3) else
  if w = [83, 85, 78, 73, 79, 78] then (3, 3, 3) else
  if w = [83, 68, 73, 70, 70] then (3, 3, 3) else
  if w = [90, 65, 68, 68] then (4, 4, 4) else
  if w = [90, 73, 78, 67, 82, 66, 89] then (4, 4, 4) else
  if w = [90, 82, 65, 78, 71, 69] then (4, 4, 4) else
  if w = [90, 82, 65, 78, 71, 69, 66, 89, 83, 67, 79, 82, 69] then (4, 4, 4) else
  if w = [90, 82, 69, 77] then (3, 3, 4) else
  if w = [90, 83, 67, 79, 82, 69] then (3, 3, 4) else
  if w = [90, 82, 65, 78, 75] then (3, 3, 4) else
  if w = [90, 67, 65, 82, 68] then (2, 2, 4) else
  if w = [72, 83, 69, 84] then (4, 4, 5) else
  if w = [72, 71, 69, 84] then (3, 3, 5) else
  if w = [72, 68, 69, 76] then (3, 3, 5) else
  if w = [72, 71, 69, 84, 65, 76, 76] then (2, 2, 5) else
  if w = [72, 76, 69, 78] then (2, 2, 5) else
  if w = [72, 73, 78, 67, 82, 66, 89] then (4, 4, 5) else
  if w = [68, 69, 76] then (2, 8, 0) else
  if w = [69, 88, 73, 83, 84, 83] then (2, 8, 0) else
  if w = [84, 89, 80, 69] then (2, 2, 0) else
  if w = [84, 84, 76] then (2, 2, 0) else
  if w = [80, 69, 82, 83, 73, 83, 84] then (2, 2, 0) else
  if w = [69, 88, 80, 73, 82, 69] then (3, 3, 0) else
  if w = [69, 88, 80, 73, 82, 69, 65, 84] then (3, 3, 0) else
  if w = [82, 69, 78, 65, 77, 69] then (3, 3, 0) else
  if w = [75, 69, 89, 83] then (2, 2, 0) else
  if w = [68, 66, 83, 73, 90, 69] then (1, 1, 0) else
  if w = [70, 76, 85, 83, 72] then (1, 1, 0) else
  (0, 0, 0)
theorem w_109_0 (H : Hp) : evBody (ev R) R.glob evLoop f109 [.d (.str [71, 69, 84])] H = some (.tup [.d (.int .i64 (wordV [71, 69, 84]).1), .d (.int .i64 (wordV [71, 69, 84]).2.1), .d (.int .i64 (wordV [71, 69, 84]).2.2)], H) := by
  simp [evC, -List.getD_eq_getElem?_getD, -List.map_map, f109, wordV]
theorem w_109_1 (H : Hp) : evBody (ev R) R.glob evLoop f109 [.d (.str [83, 84, 82, 76, 69, 78])] H = some (.tup [.d (.int .i64 (wordV [83, 84, 82, 76, 69, 78]).1), .d (.int .i64 (wordV [83, 84, 82, 76, 69, 78]).2.1), .d (.int .i64 (wordV [83, 84, 82, 76, 69, 78]).2.2)], H) := by
  simp [evC, -List.getD_eq_getElem?_getD, -List.map_map, f109, wordV]
theorem w_109_2 (H : Hp) : evBody (ev R) R.glob evLoop f109 [.d (.str [73, 78, 67, 82])] H = some (.tup [.d (.int .i64 (wordV [73, 78, 67, 82]).1), .d (.int .i64 (wordV [73, 78, 67, 82]).2.1), .d (.int .i64 (wordV [73, 78, 67, 82]).2.2)], H) := by
  simp [evC, -List.getD_eq_getElem?_getD, -List.map_map, f109, wordV]
theorem w_109_3 (H : Hp) : evBody (ev R) R.glob evLoop f109 [.d (.str [83, 69, 84])] H = some (.tup [.d (.int .i64 (wordV [83, 69, 84]).1), .d (.int .i64 (wordV [83, 69, 84]).2.1), .d (.int .i64 (wordV [83, 69, 84]).2.2)], H) := by
  simp [evC, -List.getD_eq_getElem?_getD, -List.map_map, f109, wordV]
theorem w_109_4 (H : Hp) : evBody (ev R) R.glob evLoop f109 [.d (.str [65, 80, 80, 69, 78, 68])] H = some (.tup [.d (.int .i64 (wordV [65, 80, 80, 69, 78, 68]).1), .d (.int .i64 (wordV [65, 80, 80, 69, 78, 68]).2.1), .d (.int .i64 (wordV [65, 80, 80, 69, 78, 68]).2.2)], H) := by
  simp [evC, -List.getD_eq_getElem?_getD, -List.map_map, f109, wordV]
theorem w_109_5 (H : Hp) : evBody (ev R) R.glob evLoop f109 [.d (.str [73, 78, 67, 82, 66, 89])] H = some (.tup [.d (.int .i64 (wordV [73, 78, 67, 82, 66, 89]).1), .d (.int .i64 (wordV [73, 78, 67, 82, 66, 89]).2.1), .d (.int .i64 (wordV [73, 78, 67, 82, 66, 89]).2.2)], H) := by
  simp [evC, -List.getD_eq_getElem?_getD, -List.map_map, f109, wordV]
theorem w_109_6 (H : Hp) : evBody (ev R) R.glob evLoop f109 [.d (.str [71, 69, 84, 82, 65, 78, 71, 69])] H = some (.tup [.d (.int .i64 (wordV [71, 69, 84, 82, 65, 78, 71, 69]).1), .d (.int .i64 (wordV [71, 69, 84, 82, 65, 78, 71, 69]).2.1), .d (.int .i64 (wordV [71, 69, 84, 82, 65, 78, 71, 69]).2.2)], H) := by
  simp [evC, -List.getD_eq_getElem?_getD, -List.map_map, f109, wordV]
theorem w_109_7 (H : Hp) : evBody (ev R) R.glob evLoop f109 [.d (.str [76, 80, 85, 83, 72])] H = some (.tup [.d (.int .i64 (wordV [76, 80, 85, 83, 72]).1), .d (.int .i64 (wordV [76, 80, 85, 83, 72]).2.1), .d (.int .i64 (wordV [76, 80, 85, 83, 72]).2.2)], H) := by
  simp [evC, -List.getD_eq_getElem?_getD, -List.map_map, f109, wordV]
theorem w_109_8 (H : Hp) : evBody (ev R) R.glob evLoop f109 [.d (.str [82, 80, 85, 83, 72])] H = some (.tup [.d (.int .i64 (wordV [82, 80, 85, 83, 72]).1), .d (.int .i64 (wordV [82, 80, 85, 83, 72]).2.1), .d (.int .i64 (wordV [82, 80, 85, 83, 72]).2.2)], H) := by
  simp [evC, -List.getD_eq_getElem?_getD, -List.map_map, f109, wordV]
theorem w_109_9 (H : Hp) : evBody (ev R) R.glob evLoop f109 [.d (.str [76, 80, 79, 80])] H = some (.tup [.d (.int .i64 (wordV [76, 80, 79, 80]).1), .d (.int .i64 (wordV [76, 80, 79, 80]).2.1), .d (.int .i64 (wordV [76, 80, 79, 80]).2.2)], H) := by
  simp [evC, -List.getD_eq_getElem?_getD, -List.map_map, f109, wordV]
theorem w_109_10 (H : Hp) : evBody (ev R) R.glob evLoop f109 [.d (.str [82, 80, 79, 80])] H = some (.tup [.d (.int .i64 (wordV [82, 80, 79, 80]).1), .d (.int .i64 (wordV [82, 80, 79, 80]).2.1), .d (.int .i64 (wordV [82, 80, 79, 80]).2.2)], H) := by
  simp [evC, -List.getD_eq_getElem?_getD, -List.map_map, f109, wordV]
theorem w_109_11 (H : Hp) : evBody (ev R) R.glob evLoop f109 [.d (.str [76, 76, 69, 78])] H = some (.tup [.d (.int .i64 (wordV [76, 76, 69, 78]).1), .d (.int .i64 (wordV [76, 76, 69, 78]).2.1), .d (.int .i64 (wordV [76, 76, 69, 78]).2.2)], H) := by
  simp [evC, -List.getD_eq_getElem?_getD, -List.map_map, f109, wordV]
theorem w_109_12 (H : Hp) : evBody (ev R) R.glob evLoop f109 [.d (.str [76, 82, 65, 78, 71, 69])] H = some (.tup [.d (.int .i64 (wordV [76, 82, 65, 78, 71, 69]).1), .d (.int .i64 (wordV [76, 82, 65, 78, 71, 69]).2.1), .d (.int .i64 (wordV [76, 82, 65, 78, 71, 69]).2.2)], H) := by
  simp [evC, -List.getD_eq_getElem?_getD, -List.map_map, f109, wordV]
theorem w_109_13 (H : Hp) : evBody (ev R) R.glob evLoop f109 [.d (.str [76, 84, 82, 73, 77])] H = some (.tup [.d (.int .i64 (wordV [76, 84, 82, 73, 77]).1), .d (.int .i64 (wordV [76, 84, 82, 73, 77]).2.1), .d (.int .i64 (wordV [76, 84, 82, 73, 77]).2.2)], H) := by
  simp [evC, -List.getD_eq_getElem?_getD, -List.map_map, f109, wordV]
theorem w_109_14 (H : Hp) : evBody (ev R) R.glob evLoop f109 [.d (.str [76, 83, 69, 84])] H = some (.tup [.d (.int .i64 (wordV [76, 83, 69, 84]).1), .d (.int .i64 (wordV [76, 83, 69, 84]).2.1), .d (.int .i64 (wordV [76, 83, 69, 84]).2.2)], H) := by
  simp [evC, -List.getD_eq_getElem?_getD, -List.map_map, f109, wordV]
theorem w_109_15 (H : Hp) : evBody (ev R) R.glob evLoop f109 [.d (.str [76, 82, 69, 77])] H = some (.tup [.d (.int .i64 (wordV [76, 82, 69, 77]).1), .d (.int .i64 (wordV [76, 82, 69, 77]).2.1), .d (.int .i64 (wordV [76, 82, 69, 77]).2.2)], H) := by
  simp [evC, -List.getD_eq_getElem?_getD, -List.map_map, f109, wordV]
theorem w_109_16 (H : Hp) : evBody (ev R) R.glob evLoop f109 [.d (.str [83, 65, 68, 68])] H = some (.tup [.d (.int .i64 (wordV [83, 65, 68, 68]).1), .d (.int .i64 (wordV [83, 65, 68, 68]).2.1), .d (.int .i64 (wordV [83, 65, 68, 68]).2.2)], H) := by
  simp [evC, -List.getD_eq_getElem?_getD, -List.map_map, f109, wordV]
theorem w_109_17 (H : Hp) : evBody (ev R) R.glob evLoop f109 [.d (.str [83, 82, 69, 77])] H = some (.tup [.d (.int .i64 (wordV [83, 82, 69, 77]).1), .d (.int .i64 (wordV [83, 82, 69, 77]).2.1), .d (.int .i64 (wordV [83, 82, 69, 77]).2.2)], H) := by
  simp [evC, -List.getD_eq_getElem?_getD, -List.map_map, f109, wordV]
theorem w_109_18 (H : Hp) : evBody (ev R) R.glob evLoop f109 [.d (.str [83, 77, 69, 77, 66, 69, 82, 83])] H = some (.tup [.d (.int .i64 (wordV [83, 77, 69, 77, 66, 69, 82, 83]).1), .d (.int .i64 (wordV [83, 77, 69, 77, 66, 69, 82, 83]).2.1), .d (.int .i64 (wordV [83, 77, 69, 77, 66, 69, 82, 83]).2.2)], H) := by
  simp [evC, -List.getD_eq_getElem?_getD, -List.map_map, f109, wordV]
theorem w_109_19 (H : Hp) : evBody (ev R) R.glob evLoop f109 [.d (.str [83, 67, 65, 82, 68])] H = some (.tup [.d (.int .i64 (wordV [83, 67, 65, 82, 68]).1), .d (.int .i64 (wordV [83, 67, 65, 82, 68]).2.1), .d (.int .i64 (wordV [83, 67, 65, 82, 68]).2.2)], H) := by
  simp [evC, -List.getD_eq_getElem?_getD, -List.map_map, f109, wordV]
theorem w_109_20 (H : Hp) : evBody (ev R) R.glob evLoop f109 [.d (.str [83, 73, 83, 77, 69, 77, 66, 69, 82])] H = some (.tup [.d (.int .i64 (wordV [83, 73, 83, 77, 69, 77, 66, 69, 82]).1), .d (.int .i64 (wordV [83, 73, 83, 77, 69, 77, 66, 69, 82]).2.1), .d (.int .i64 (wordV [83, 73, 83, 77, 69, 77, 66, 69, 82]).2.2)], H) := by
  simp [evC, -List.getD_eq_getElem?_getD, -List.map_map, f109, wordV]
theorem w_109_21 (H : Hp) : evBody (ev R) R.glob evLoop f109 [.d (.str [83, 73, 78, 84, 69, 82])] H = some (.tup [.d (.int .i64 (wordV [83, 73, 78, 84, 69, 82]).1), .d (.int .i64 (wordV [83, 73, 78, 84, 69, 82]).2.1), .d (.int .i64 (wordV [83, 73, 78, 84, 69, 82]).2.2)], H) := by
  simp [evC, -List.getD_eq_getElem?_getD, -List.map_map, f109, wordV]
theorem w_109_22 (H : Hp) : evBody (ev R) R.glob evLoop f109 [.d (.str [83, 85, 78, 73, 79, 78])] H = some (.tup [.d (.int .i64 (wordV [83, 85, 78, 73, 79, 78]).1), .d (.int .i64 (wordV [83, 85, 78, 73, 79, 78]).2.1), .d (.int .i64 (wordV [83, 85, 78, 73, 79, 78]).2.2)], H) := by
  simp [evC, -List.getD_eq_getElem?_getD, -List.map_map, f109, wordV]
theorem w_109_23 (H : Hp) : evBody (ev R) R.glob evLoop f109 [.d (.str [83, 68, 73, 70, 70])] H = some (.tup [.d (.int .i64 (wordV [83, 68, 73, 70, 70]).1), .d (.int .i64 (wordV [83, 68, 73, 70, 70]).2.1), .d (.int .i64 (wordV [83, 68, 73, 70, 70]).2.2)], H) := by
  simp [evC, -List.getD_eq_getElem?_getD, -List.map_map, f109, wordV]
theorem w_109_24 (H : Hp) : evBody (ev R) R.glob evLoop f109 [.d (.str [90, 65, 68, 68])] H = some (.tup [.d (.int .i64 (wordV [90, 65, 68, 68]).1), .d (.int .i64 (wordV [90, 65, 68, 68]).2.1), .d (.int .i64 (wordV [90, 65, 68, 68]).2.2)], H) := by
  simp [evC, -List.getD_eq_getElem?_getD, -List.map_map, f109, wordV]
theorem w_109_25 (H : Hp) : evBody (ev R) R.glob evLoop f109 [.d (.str [90, 73, 78, 67, 82, 66, 89])] H = some (.tup [.d (.int .i64 (wordV [90, 73, 78, 67, 82, 66, 89]).1), .d (.int .i64 (wordV [90, 73, 78, 67, 82, 66, 89]).2.1), .d (.int .i64 (wordV [90, 73, 78, 67, 82, 66, 89]).2.2)], H) := by
  simp [evC, -List.getD_eq_getElem?_getD, -List.map_map, f109, wordV]
theorem w_109_26 (H : Hp) : evBody (ev R) R.glob evLoop f109 [.d (.str [90, 82, 65, 78, 71, 69])] H = some (.tup [.d (.int .i64 (wordV [90, 82, 65, 78, 71, 69]).1), .d (.int .i64 (wordV [90, 82, 65, 78, 71, 69]).2.1), .d (.int .i64 (wordV [90, 82, 65, 78, 71, 69]).2.2)], H) := by
  simp [evC, -List.getD_eq_getElem?_getD, -List.map_map, f109, wordV]
theorem w_109_27 (H : Hp) : evBody (ev R) R.glob evLoop f109 [.d (.str [90, 82, 65, 78, 71, 69, 66, 89, 83, 67, 79, 82, 69])] H = some (.tup [.d (.int .i64 (wordV [90, 82, 65, 78, 71, 69, 66, 89, 83, 67, 79, 82, 69]).1), .d (.int .i64 (wordV [90, 82, 65, 78, 71, 69, 66, 89, 83, 67, 79, 82, 69]).2.1), .d (.int .i64 (wordV [90, 82, 65, 78, 71, 69, 66, 89, 83, 67, 79, 82, 69]).2.2)], H) := by
  simp [evC, -List.getD_eq_getElem?_getD, -List.map_map, f109, wordV]
theorem w_109_28 (H : Hp) : evBody (ev R) R.glob evLoop f109 [.d (.str [90, 82, 69, 77])] H = some (.tup [.d (.int .i64 (wordV [90, 82, 69, 77]).1), .d (.int .i64 (wordV [90, 82, 69, 77]).2.1), .d (.int .i64 (wordV [90, 82, 69, 77]).2.2)], H) := by
  simp [evC, -List.getD_eq_getElem?_getD, -List.map_map, f109, wordV]
theorem w_109_29 (H : Hp) : evBody (ev R) R.glob evLoop f109 [.d (.str [90, 83, 67, 79, 82, 69])] H = some (.tup [.d (.int .i64 (wordV [90, 83, 67, 79, 82, 69]).1), .d (.int .i64 (wordV [90, 83, 67, 79, 82, 69]).2.1), .d (.int .i64 (wordV [90, 83, 67, 79, 82, 69]).2.2)], H) := by
  simp [evC, -List.getD_eq_getElem?_getD, -List.map_map, f109, wordV]
theorem w_109_30 (H : Hp) : evBody (ev R) R.glob evLoop f109 [.d (.str [90, 82, 65, 78, 75])] H = some (.tup [.d (.int .i64 (wordV [90, 82, 65, 78, 75]).1), .d (.int .i64 (wordV [90, 82, 65, 78, 75]).2.1), .d (.int .i64 (wordV [90, 82, 65, 78, 75]).2.2)], H) := by
  simp [evC, -List.getD_eq_getElem?_getD, -List.map_map, f109, wordV]
theorem w_109_31 (H : Hp) : evBody (ev R) R.glob evLoop f109 [.d (.str [90, 67, 65, 82, 68])] H = some (.tup [.d (.int .i64 (wordV [90, 67, 65, 82, 68]).1), .d (.int .i64 (wordV [90, 67, 65, 82, 68]).2.1), .d (.int .i64 (wordV [90, 67, 65, 82, 68]).2.2)], H) := by
  simp [evC, -List.getD_eq_getElem?_getD, -List.map_map, f109, wordV]
theorem w_109_32 (H : Hp) : evBody (ev R) R.glob evLoop f109 [.d (.str [72, 83, 69, 84])] H = some (.tup [.d (.int .i64 (wordV [72, 83, 69, 84]).1), .d (.int .i64 (wordV [72, 83, 69, 84]).2.1), .d (.int .i64 (wordV [72, 83, 69, 84]).2.2)], H) := by
  simp [evC, -List.getD_eq_getElem?_getD, -List.map_map, f109, wordV]
theorem w_109_33 (H : Hp) : evBody (ev R) R.glob evLoop f109 [.d (.str [72, 71, 69, 84])] H = some (.tup [.d (.int .i64 (wordV [72, 71, 69, 84]).1), .d (.int .i64 (wordV [72, 71, 69, 84]).2.1), .d (.int .i64 (wordV [72, 71, 69, 84]).2.2)], H) := by
  simp [evC, -List.getD_eq_getElem?_getD, -List.map_map, f109, wordV]
theorem w_109_34 (H : Hp) : evBody (ev R) R.glob evLoop f109 [.d (.str [72, 68, 69, 76])] H = some (.tup [.d (.int .i64 (wordV [72, 68, 69, 76]).1), .d (.int .i64 (wordV [72, 68, 69, 76]).2.1), .d (.int .i64 (wordV [72, 68, 69, 76]).2.2)], H) := by
  simp [evC, -List.getD_eq_getElem?_getD, -List.map_map, f109, wordV]
theorem w_109_35 (H : Hp) : evBody (ev R) R.glob evLoop f109 [.d (.str [72, 71, 69, 84, 65, 76, 76])] H = some (.tup [.d (.int .i64 (wordV [72, 71, 69, 84, 65, 76, 76]).1), .d (.int .i64 (wordV [72, 71, 69, 84, 65, 76, 76]).2.1), .d (.int .i64 (wordV [72, 71, 69, 84, 65, 76, 76]).2.2)], H) := by
  simp [evC, -List.getD_eq_getElem?_getD, -List.map_map, f109, wordV]
theorem w_109_36 (H : Hp) : evBody (ev R) R.glob evLoop f109 [.d (.str [72, 76, 69, 78])] H = some (.tup [.d (.int .i64 (wordV [72, 76, 69, 78]).1), .d (.int .i64 (wordV [72, 76, 69, 78]).2.1), .d (.int .i64 (wordV [72, 76, 69, 78]).2.2)], H) := by
  simp [evC, -List.getD_eq_getElem?_getD, -List.map_map, f109, wordV]
theorem w_109_37 (H : Hp) : evBody (ev R) R.glob evLoop f109 [.d (.str [72, 73, 78, 67, 82, 66, 89])] H = some (.tup [.d (.int .i64 (wordV [72, 73, 78, 67, 82, 66, 89]).1), .d (.int .i64 (wordV [72, 73, 78, 67, 82, 66, 89]).2.1), .d (.int .i64 (wordV [72, 73, 78, 67, 82, 66, 89]).2.2)], H) := by
  simp [evC, -List.getD_eq_getElem?_getD, -List.map_map, f109, wordV]
theorem w_109_38 (H : Hp) : evBody (ev R) R.glob evLoop f109 [.d (.str [68, 69, 76])] H = some (.tup [.d (.int .i64 (wordV [68, 69, 76]).1), .d (.int .i64 (wordV [68, 69, 76]).2.1), .d (.int .i64 (wordV [68, 69, 76]).2.2)], H) := by
  simp [evC, -List.getD_eq_getElem?_getD, -List.map_map, f109, wordV]
theorem w_109_39 (H : Hp) : evBody (ev R) R.glob evLoop f109 [.d (.str [69, 88, 73, 83, 84, 83])] H = some (.tup [.d (.int .i64 (wordV [69, 88, 73, 83, 84, 83]).1), .d (.int .i64 (wordV [69, 88, 73, 83, 84, 83]).2.1), .d (.int .i64 (wordV [69, 88, 73, 83, 84, 83]).2.2)], H) := by
  simp [evC, -List.getD_eq_getElem?_getD, -List.map_map, f109, wordV]
theorem w_109_40 (H : Hp) : evBody (ev R) R.glob evLoop f109 [.d (.str [84, 89, 80, 69])] H = some (.tup [.d (.int .i64 (wordV [84, 89, 80, 69]).1), .d (.int .i64 (wordV [84, 89, 80, 69]).2.1), .d (.int .i64 (wordV [84, 89, 80, 69]).2.2)], H) := by
  simp [evC, -List.getD_eq_getElem?_getD, -List.map_map, f109, wordV]
theorem w_109_41 (H : Hp) : evBody (ev R) R.glob evLoop f109 [.d (.str [84, 84, 76])] H = some (.tup [.d (.int .i64 (wordV [84, 84, 76]).1), .d (.int .i64 (wordV [84, 84, 76]).2.1), .d (.int .i64 (wordV [84, 84, 76]).2.2)], H) := by
  simp [evC, -List.getD_eq_getElem?_getD, -List.map_map, f109, wordV]
theorem w_109_42 (H : Hp) : evBody (ev R) R.glob evLoop f109 [.d (.str [80, 69, 82, 83, 73, 83, 84])] H = some (.tup [.d (.int .i64 (wordV [80, 69, 82, 83, 73, 83, 84]).1), .d (.int .i64 (wordV [80, 69, 82, 83, 73, 83, 84]).2.1), .d (.int .i64 (wordV [80, 69, 82, 83, 73, 83, 84]).2.2)], H) := by
  simp [evC, -List.getD_eq_getElem?_getD, -List.map_map, f109, wordV]
theorem w_109_43 (H : Hp) : evBody (ev R) R.glob evLoop f109 [.d (.str [69, 88, 80, 73, 82, 69])] H = some (.tup [.d (.int .i64 (wordV [69, 88, 80, 73, 82, 69]).1), .d (.int .i64 (wordV [69, 88, 80, 73, 82, 69]).2.1), .d (.int .i64 (wordV [69, 88, 80, 73, 82, 69]).2.2)], H) := by
  simp [evC, -List.getD_eq_getElem?_getD, -List.map_map, f109, wordV]
theorem w_109_44 (H : Hp) : evBody (ev R) R.glob evLoop f109 [.d (.str [69, 88, 80, 73, 82, 69, 65, 84])] H = some (.tup [.d (.int .i64 (wordV [69, 88, 80, 73, 82, 69, 65, 84]).1), .d (.int .i64 (wordV [69, 88, 80, 73, 82, 69, 65, 84]).2.1), .d (.int .i64 (wordV [69, 88, 80, 73, 82, 69, 65, 84]).2.2)], H) := by
  simp [evC, -List.getD_eq_getElem?_getD, -List.map_map, f109, wordV]
theorem w_109_45 (H : Hp) : evBody (ev R) R.glob evLoop f109 [.d (.str [82, 69, 78, 65, 77, 69])] H = some (.tup [.d (.int .i64 (wordV [82, 69, 78, 65, 77, 69]).1), .d (.int .i64 (wordV [82, 69, 78, 65, 77, 69]).2.1), .d (.int .i64 (wordV [82, 69, 78, 65, 77, 69]).2.2)], H) := by
  simp [evC, -List.getD_eq_getElem?_getD, -List.map_map, f109, wordV]
theorem w_109_46 (H : Hp) : evBody (ev R) R.glob evLoop f109 [.d (.str [75, 69, 89, 83])] H = some (.tup [.d (.int .i64 (wordV [75, 69, 89, 83]).1), .d (.int .i64 (wordV [75, 69, 89, 83]).2.1), .d (.int .i64 (wordV [75, 69, 89, 83]).2.2)], H) := by
  simp [evC, -List.getD_eq_getElem?_getD, -List.map_map, f109, wordV]
theorem w_109_47 (H : Hp) : evBody (ev R) R.glob evLoop f109 [.d (.str [68, 66, 83, 73, 90, 69])] H = some (.tup [.d (.int .i64 (wordV [68, 66, 83, 73, 90, 69]).1), .d (.int .i64 (wordV [68, 66, 83, 73, 90, 69]).2.1), .d (.int .i64 (wordV [68, 66, 83, 73, 90, 69]).2.2)], H) := by
  simp [evC, -List.getD_eq_getElem?_getD, -List.map_map, f109, wordV]
theorem w_109_48 (H : Hp) : evBody (ev R) R.glob evLoop f109 [.d (.str [70, 76, 85, 83, 72])] H = some (.tup [.d (.int .i64 (wordV [70, 76, 85, 83, 72]).1), .d (.int .i64 (wordV [70, 76, 85, 83, 72]).2.1), .d (.int .i64 (wordV [70, 76, 85, 83, 72]).2.2)], H) := by
  simp [evC, -List.getD_eq_getElem?_getD, -List.map_map, f109, wordV]
theorem w_109_no (H : Hp) (w : Txt) (h0 : (w = [71, 69, 84]) = False) (h1 : (w = [83, 84, 82, 76, 69, 78]) = False) (h2 : (w = [73, 78, 67, 82]) = False) (h3 : (w = [83, 69, 84]) = False) (h4 : (w = [65, 80, 80, 69, 78, 68]) = False) (h5 : (w = [73, 78, 67, 82, 66, 89]) = False) (h6 : (w = [71, 69, 84, 82, 65, 78, 71, 69]) = False) (h7 : (w = [76, 80, 85, 83, 72]) = False) (h8 : (w = [82, 80, 85, 83, 72]) = False) (h9 : (w = [76, 80, 79, 80]) = False) (h10 : (w = [82, 80, 79, 80]) = False) (h11 : (w = [76, 76, 69, 78]) = False) (h12 : (w = [76, 82, 65, 78, 71, 69]) = False) (h13 : (w = [76, 84, 82, 73, 77]) = False) (h14 : (w = [76, 83, 69, 84]) = False) (h15 : (w = [76, 82, 69, 77]) = False) (h16 : (w = [83, 65, 68, 68]) = False) (h17 : (w = [83, 82, 69, 77]) = False) (h18 : (w = [83, 77, 69, 77, 66, 69, 82, 83]) = False) (h19 : (w = [83, 67, 65, 82, 68]) = False) (h20 : (w = [83, 73, 83, 77, 69, 77, 66, 69, 82]) = False) (h21 : (w = [83, 73, 78, 84, 69, 82]) = False) (h22 : (w = [83, 85, 78, 73, 79, 78]) = False) (h23 : (w = [83, 68, 73, 70, 70]) = False) (h24 : (w = [90, 65, 68, 68]) = False) (h25 : (w = [90, 73, 78, 67, 82, 66, 89]) = False) (h26 : (w = [90, 82, 65, 78, 71, 69]) = False) (h27 : (w = [90, 82, 65, 78, 71, 69, 66, 89, 83, 67, 79, 82, 69]) = False) (h28 : (w = [90, 82, 69, 77]) = False) (h29 : (w = [90, 83, 67, 79, 82, 69]) = False) (h30 : (w = [90, 82, 65, 78, 75]) = False) (h31 : (w = [90, 67, 65, 82, 68]) = False) (h32 : (w = [72, 83, 69, 84]) = False) (h33 : (w = [72, 71, 69, 84]) = False) (h34 : (w = [72, 68, 69, 76]) = False) (h35 : (w = [72, 71, 69, 84, 65, 76, 76]) = False) (h36 : (w = [72, 76, 69, 78]) = False) (h37 : (w = [72, 73, 78, 67, 82, 66, 89]) = False) (h38 : (w = [68, 69, 76]) = False) (h39 : (w = [69, 88, 73, 83, 84, 83]) = False) (h40 : (w = [84, 89, 80, 69]) = False) (h41 : (w = [84, 84, 76]) = False) (h42 : (w = [80, 69, 82, 83, 73, 83, 84]) = False) (h43 : (w = [69, 88, 80, 73, 82, 69]) = False) (h44 : (w = [69, 88, 80, 73, 82, 69, 65, 84]) = False) (h45 : (w = [82, 69, 78, 65, 77, 69]) = False) (h46 : (w = [75, 69, 89, 83]) = False) (h47 : (w = [68, 66, 83, 73, 90, 69]) = False) (h48 : (w = [70, 76, 85, 83, 72]) = False) : evBody (ev R) R.glob evLoop f109 [.d (.str w)] H = some (.tup [.d (.int .i64 0), .d (.int .i64 0), .d (.int .i64 0)], H) := by
  simp [evC, -List.getD_eq_getElem?_getD, -List.map_map, f109, h0, h1, h2, h3, h4, h5, h6, h7, h8, h9, h10, h11, h12, h13, h14, h15, h16, h17, h18, h19, h20, h21, h22, h23, h24, h25, h26, h27, h28, h29, h30, h31, h32, h33, h34, h35, h36, h37, h38, h39, h40, h41, h42, h43, h44, h45, h46, h47, h48]
theorem wordV_no (w : Txt) (h0 : (w = [71, 69, 84]) = False) (h1 : (w = [83, 84, 82, 76, 69, 78]) = False) (h2 : (w = [73, 78, 67, 82]) = False) (h3 : (w = [83, 69, 84]) = False) (h4 : (w = [65, 80, 80, 69, 78, 68]) = False) (h5 : (w = [73, 78, 67, 82, 66, 89]) = False) (h6 : (w = [71, 69, 84, 82, 65, 78, 71, 69]) = False) (h7 : (w = [76, 80, 85, 83, 72]) = False) (h8 : (w = [82, 80, 85, 83, 72]) = False) (h9 : (w = [76, 80, 79, 80]) = False) (h10 : (w = [82, 80, 79, 80]) = False) (h11 : (w = [76, 76, 69, 78]) = False) (h12 : (w = [76, 82, 65, 78, 71, 69]) = False) (h13 : (w = [76, 84, 82, 73, 77]) = False) (h14 : (w = [76, 83, 69, 84]) = False) (h15 : (w = [76, 82, 69, 77]) = False) (h16 : (w = [83, 65, 68, 68]) = False) (h17 : (w = [83, 82, 69, 77]) = False) (h18 : (w = [83, 77, 69, 77, 66, 69, 82, 83]) = False) (h19 : (w = [83, 67, 65, 82, 68]) = False) (h20 : (w = [83, 73, 83, 77, 69, 77, 66, 69, 82]) = False) (h21 : (w = [83, 73, 78, 84, 69, 82]) = False) (h22 : (w = [83, 85, 78, 73, 79, 78]) = False) (h23 : (w = [83, 68, 73, 70, 70]) = False) (h24 : (w = [90, 65, 68, 68]) = False) (h25 : (w = [90, 73, 78, 67, 82, 66, 89]) = False) (h26 : (w = [90, 82, 65, 78, 71, 69]) = False) (h27 : (w = [90, 82, 65, 78, 71, 69, 66, 89, 83, 67, 79, 82, 69]) = False) (h28 : (w = [90, 82, 69, 77]) = False) (h29 : (w = [90, 83, 67, 79, 82, 69]) = False) (h30 : (w = [90, 82, 65, 78, 75]) = False) (h31 : (w = [90, 67, 65, 82, 68]) = False) (h32 : (w = [72, 83, 69, 84]) = False) (h33 : (w = [72, 71, 69, 84]) = False) (h34 : (w = [72, 68, 69, 76]) = False) (h35 : (w = [72, 71, 69, 84, 65, 76, 76]) = False) (h36 : (w = [72, 76, 69, 78]) = False) (h37 : (w = [72, 73, 78, 67, 82, 66, 89]) = False) (h38 : (w = [68, 69, 76]) = False) (h39 : (w = [69, 88, 73, 83, 84, 83]) = False) (h40 : (w = [84, 89, 80, 69]) = False) (h41 : (w = [84, 84, 76]) = False) (h42 : (w = [80, 69, 82, 83, 73, 83, 84]) = False) (h43 : (w = [69, 88, 80, 73, 82, 69]) = False) (h44 : (w = [69, 88, 80, 73, 82, 69, 65, 84]) = False) (h45 : (w = [82, 69, 78, 65, 77, 69]) = False) (h46 : (w = [75, 69, 89, 83]) = False) (h47 : (w = [68, 66, 83, 73, 90, 69]) = False) (h48 : (w = [70, 76, 85, 83, 72]) = False) : wordV w = (0, 0, 0) := by
  unfold wordV
  simp only [h0, h1, h2, h3, h4, h5, h6, h7, h8, h9, h10, h11, h12, h13, h14, h15, h16, h17, h18, h19, h20, h21, h22, h23, h24, h25, h26, h27, h28, h29, h30, h31, h32, h33, h34, h35, h36, h37, h38, h39, h40, h41, h42, h43, h44, h45, h46, h47, h48, if_false]
theorem p_109 (w : Txt) : pureCall (ev R) 109 [.d (.str w)] = some (.tup [.d (.int .i64 (wordV w).1), .d (.int .i64 (wordV w).2.1), .d (.int .i64 (wordV w).2.2)]) := pureCall_eq fun H => by
  refine ev_fn (fn := f109) rfl rfl ?_
  by_cases h0 : w = [71, 69, 84]
  · subst h0; exact w_109_0 H
  by_cases h1 : w = [83, 84, 82, 76, 69, 78]
  · subst h1; exact w_109_1 H
  by_cases h2 : w = [73, 78, 67, 82]
  · subst h2; exact w_109_2 H
  by_cases h3 : w = [83, 69, 84]
  · subst h3; exact w_109_3 H
  by_cases h4 : w = [65, 80, 80, 69, 78, 68]
  · subst h4; exact w_109_4 H
  by_cases h5 : w = [73, 78, 67, 82, 66, 89]
  · subst h5; exact w_109_5 H
  by_cases h6 : w = [71, 69, 84, 82, 65, 78, 71, 69]
  · subst h6; exact w_109_6 H
  by_cases h7 : w = [76, 80, 85, 83, 72]
  · subst h7; exact w_109_7 H
  by_cases h8 : w = [82, 80, 85, 83, 72]
  · subst h8; exact w_109_8 H
  by_cases h9 : w = [76, 80, 79, 80]
  · subst h9; exact w_109_9 H
  by_cases h10 : w = [82, 80, 79, 80]
  · subst h10; exact w_109_10 H
  by_cases h11 : w = [76, 76, 69, 78]
  · subst h11; exact w_109_11 H
  by_cases h12 : w = [76, 82, 65, 78, 71, 69]
  · subst h12; exact w_109_12 H
  by_cases h13 : w = [76, 84, 82, 73, 77]
  · subst h13; exact w_109_13 H
  by_cases h14 : w = [76, 83, 69, 84]
  · subst h14; exact w_109_14 H
  by_cases h15 : w = [76, 82, 69, 77]
  · subst h15; exact w_109_15 H
  by_cases h16 : w = [83, 65, 68, 68]
  · subst h16; exact w_109_16 H
  by_cases h17 : w = [83, 82, 69, 77]
  · subst h17; exact w_109_17 H
  by_cases h18 : w = [83, 77, 69, 77, 66, 69, 82, 83]
  · subst h18; exact w_109_18 H
  by_cases h19 : w = [83, 67, 65, 82, 68]
  · subst h19; exact w_109_19 H
  by_cases h20 : w = [83, 73, 83, 77, 69, 77, 66, 69, 82]
  · subst h20; exact w_109_20 H
  by_cases h21 : w = [83, 73, 78, 84, 69, 82]
  · subst h21; exact w_109_21 H
  by_cases h22 : w = [83, 85, 78, 73, 79, 78]
  · subst h22; exact w_109_22 H
  by_cases h23 : w = [83, 68, 73, 70, 70]
  · subst h23; exact w_109_23 H
  by_cases h24 : w = [90, 65, 68, 68]
  · subst h24; exact w_109_24 H
  by_cases h25 : w = [90, 73, 78, 67, 82, 66, 89]
  · subst h25; exact w_109_25 H
  by_cases h26 : w = [90, 82, 65, 78, 71, 69]
  · subst h26; exact w_109_26 H
  by_cases h27 : w = [90, 82, 65, 78, 71, 69, 66, 89, 83, 67, 79, 82, 69]
  · subst h27; exact w_109_27 H
  by_cases h28 : w = [90, 82, 69, 77]
  · subst h28; exact w_109_28 H
  by_cases h29 : w = [90, 83, 67, 79, 82, 69]
  · subst h29; exact w_109_29 H
  by_cases h30 : w = [90, 82, 65, 78, 75]
  · subst h30; exact w_109_30 H
  by_cases h31 : w = [90, 67, 65, 82, 68]
  · subst h31; exact w_109_31 H
  by_cases h32 : w = [72, 83, 69, 84]
  · subst h32; exact w_109_32 H
  by_cases h33 : w = [72, 71, 69, 84]
  · subst h33; exact w_109_33 H
  by_cases h34 : w = [72, 68, 69, 76]
  · subst h34; exact w_109_34 H
  by_cases h35 : w = [72, 71, 69, 84, 65, 76, 76]
  · subst h35; exact w_109_35 H
  by_cases h36 : w = [72, 76, 69, 78]
  · subst h36; exact w_109_36 H
  by_cases h37 : w = [72, 73, 78, 67, 82, 66, 89]
  · subst h37; exact w_109_37 H
  by_cases h38 : w = [68, 69, 76]
  · subst h38; exact w_109_38 H
  by_cases h39 : w = [69, 88, 73, 83, 84, 83]
  · subst h39; exact w_109_39 H
  by_cases h40 : w = [84, 89, 80, 69]
  · subst h40; exact w_109_40 H
  by_cases h41 : w = [84, 84, 76]
  · subst h41; exact w_109_41 H
  by_cases h42 : w = [80, 69, 82, 83, 73, 83, 84]
  · subst h42; exact w_109_42 H
  by_cases h43 : w = [69, 88, 80, 73, 82, 69]
  · subst h43; exact w_109_43 H
  by_cases h44 : w = [69, 88, 80, 73, 82, 69, 65, 84]
  · subst h44; exact w_109_44 H
  by_cases h45 : w = [82, 69, 78, 65, 77, 69]
  · subst h45; exact w_109_45 H
  by_cases h46 : w = [75, 69, 89, 83]
  · subst h46; exact w_109_46 H
  by_cases h47 : w = [68, 66, 83, 73, 90, 69]
  · subst h47; exact w_109_47 H
  by_cases h48 : w = [70, 76, 85, 83, 72]
  · subst h48; exact w_109_48 H
  rw [wordV_no w (eq_false h0) (eq_false h1) (eq_false h2) (eq_false h3) (eq_false h4) (eq_false h5) (eq_false h6) (eq_false h7) (eq_false h8) (eq_false h9) (eq_false h10) (eq_false h11) (eq_false h12) (eq_false h13) (eq_false h14) (eq_false h15) (eq_false h16) (eq_false h17) (eq_false h18) (eq_false h19) (eq_false h20) (eq_false h21) (eq_false h22) (eq_false h23) (eq_false h24) (eq_false h25) (eq_false h26) (eq_false h27) (eq_false h28) (eq_false h29) (eq_false h30) (eq_false h31) (eq_false h32) (eq_false h33) (eq_false h34) (eq_false h35) (eq_false h36) (eq_false h37) (eq_false h38) (eq_false h39) (eq_false h40) (eq_false h41) (eq_false h42) (eq_false h43) (eq_false h44) (eq_false h45) (eq_false h46) (eq_false h47) (eq_false h48)]
  exact w_109_no H w (eq_false h0) (eq_false h1) (eq_false h2) (eq_false h3) (eq_false h4) (eq_false h5) (eq_false h6) (eq_false h7) (eq_false h8) (eq_false h9) (eq_false h10) (eq_false h11) (eq_false h12) (eq_false h13) (eq_false h14) (eq_false h15) (eq_false h16) (eq_false h17) (eq_false h18) (eq_false h19) (eq_false h20) (eq_false h21) (eq_false h22) (eq_false h23) (eq_false h24) (eq_false h25) (eq_false h26) (eq_false h27) (eq_false h28) (eq_false h29) (eq_false h30) (eq_false h31) (eq_false h32) (eq_false h33) (eq_false h34) (eq_false h35) (eq_false h36) (eq_false h37) (eq_false h38) (eq_false h39) (eq_false h40) (eq_false h41) (eq_false h42) (eq_false h43) (eq_false h44) (eq_false h45) (eq_false h46) (eq_false h47) (eq_false h48)
end Go.Proofs.YtjdmiodinhlchaaGreat.Code
/- Reading orders, plainly: a parser that says what it read, or that its text breaks off, or that it is none. -/
namespace Go.Proofs.YtjdmiodinhlchaaGreat.Code
open Go Go.Ev
set_option linter.unusedSimpArgs false
set_option linter.unusedVariables false
inductive Res (α : Type) where
  | ok (a : α) (r : Txt)
  | short
  | bad
def Res.bind {α β : Type} (x : Res α) (f : α → Txt → Res β) : Res β :=
  match x with
  | .ok a r => f a r
  | .short => .short
  | .bad => .bad
def pByte (b : UInt8) : Txt → Res Unit
  | [] => .short
  | c :: r => if c = b then .ok () r else .bad
def isDig (c : UInt8) : Bool := decide (48 ≤ c.toNat) && decide (c.toNat ≤ 57)
def digV (n : Int) (c : UInt8) : Int := 10 * n + ((c.toNat : Int) - 48)
def pDig (low high : Int) : Txt → Int → Bool → Res Int
  | [], _, _ => .short
  | c :: r, n, first =>
    if isDig c = true then
      if first = false ∧ n = 0 then .bad
      else if low ≤ digV n c ∧ digV n c ≤ high then pDig low high r (digV n c) false else .bad
    else if first = true then .bad
    else if c = 13 then (pByte 10 r).bind fun _ r' => .ok n r' else .bad
def pNum (mark : UInt8) (low high : Int) (t : Txt) : Res Int := (pByte mark t).bind fun _ r => pDig low high r 0 true
def pTake (n : Nat) (t : Txt) : Res Txt := if t.length < n then .short else .ok (t.take n) (t.drop n)
def pEnd {α : Type} (x : α) (t : Txt) : Res α := (pByte 13 t).bind fun _ r => (pByte 10 r).bind fun _ r' => .ok x r'
def pItem (t : Txt) : Res Txt := (pNum 36 0 40 t).bind fun n r => (pTake n.toNat r).bind fun x r' => pEnd x r'
def pItems : Nat → Txt → Res (List Txt)
  | 0, t => .ok [] t
  | n + 1, t => (pItem t).bind fun x r => (pItems n r).bind fun xs r' => .ok (x :: xs) r'
def pOrder (t : Txt) : Res (List Txt) := (pNum 42 1 8 t).bind fun n r => pItems n.toNat r

structure Good {α : Type} (P : Txt → Res α) : Prop where
  ok : ∀ t x r, P t = .ok x r → ∃ u, t = u ++ r ∧ ∀ r', P (u ++ r') = .ok x r'
  bad : ∀ t t', P t = .bad → P (t ++ t') = .bad
theorem Good.bind {α β : Type} {P : Txt → Res α} {Q : α → Txt → Res β} (h : Good P) (k : ∀ x, Good (Q x)) : Good fun t => (P t).bind Q := by
  constructor
  · intro t x r e0
    have e : (P t).bind Q = .ok x r := e0
    clear e0
    cases hp : P t with
    | short => rw [hp] at e; simp [Res.bind] at e
    | bad => rw [hp] at e; simp [Res.bind] at e
    | ok y r1 =>
      rw [hp] at e
      simp only [Res.bind] at e
      obtain ⟨u1, rfl, h1⟩ := h.ok t y r1 hp
      obtain ⟨u2, rfl, h2⟩ := (k y).ok r1 x r e
      refine ⟨u1 ++ u2, by rw [List.append_assoc], fun r' => ?_⟩
      simp only [List.append_assoc, h1, Res.bind, h2]
  · intro t t' e0
    have e : (P t).bind Q = .bad := e0
    clear e0
    show (P (t ++ t')).bind Q = .bad
    cases hp : P t with
    | short => rw [hp] at e; simp [Res.bind] at e
    | bad => rw [h.bad t t' hp]; rfl
    | ok y r1 =>
      rw [hp] at e
      simp only [Res.bind] at e
      obtain ⟨u1, rfl, h1⟩ := h.ok t y r1 hp
      rw [List.append_assoc, h1]
      exact (k y).bad r1 t' e
theorem Good.pure {α : Type} (x : α) : Good fun t => Res.ok x t :=
  ⟨fun t y r e => (by cases e; exact ⟨[], rfl, fun _ => rfl⟩), fun t t' e => (by cases e)⟩
def ordX (t : Txt) : List Txt :=
  match pOrder t with
  | .ok x _ => x
  | .short => []
  | .bad => []
end Go.Proofs.YtjdmiodinhlchaaGreat.Code
/- The head of a text, as the reference reads it, and that it is the parser's. -/
namespace Go.Proofs.YtjdmiodinhlchaaGreat.Code
open Go Go.Ev
set_option linter.unusedSimpArgs false
set_option linter.unusedVariables false
def figL : Txt → Nat → Int → Option Int
  | [], _, n => some n
  | c :: r, i, n => if isDig c = true then figL r (i + 1) (if i < 10 then n * 10 + ((c.toNat : Int) - 48) else n) else none
def figV (s : Txt) : Int :=
  match figL s 0 0 with
  | none => -1
  | some n => if s.length < 1 ∨ 10 < s.length ∨ (1 < s.length ∧ s.getD 0 0 = 48) then -1 else n
theorem dig_in {c : UInt8} (h : isDig c = true) : 48 ≤ c.toNat ∧ c.toNat ≤ 57 := by
  simpa [isDig] using h
end Go.Proofs.YtjdmiodinhlchaaGreat.Code
/- Orders written out, and that the parser reads just these. -/
namespace Go.Proofs.YtjdmiodinhlchaaGreat.Code
open Go Go.Ev
set_option linter.unusedSimpArgs false
set_option linter.unusedVariables false
def okOrder (xs : List Txt) : Prop := (∀ x ∈ xs, x.length ≤ 40) ∧ 1 ≤ xs.length ∧ xs.length ≤ 8
end Go.Proofs.YtjdmiodinhlchaaGreat.Code
/- Whether texts are an order. -/
namespace Go.Proofs.YtjdmiodinhlchaaGreat.Code
open Go Go.Ev Go.Proofs
set_option maxRecDepth 100000
set_option linter.unusedSimpArgs false
set_option linter.unusedVariables false
theorem l_160 (n0 : Nat) (xs : List Txt) (hx : xs.length ≤ 9223372036854775807)  (H : Hp) : ∀ (n i : Nat) (e : Env), i + n = xs.length → e.get 0 = .d (txts xs) → e.get 3 = .d (.int .i64 i) →
    ∃ e', evLoop (evCode (ev R) R.glob n0 evLoop f160l0) [0, 3] ⟨e, H⟩ = some ((match seek (long xs) n i with | some _ => .ret | none => .exit 0), ⟨e', H⟩) ∧
      (∀ j, seek (long xs) n i = some j → e'.get 2 = .d (.bool false)) ∧ (seek (long xs) n i = none → e'.get 0 = .d (txts xs))
  | 0, i, e, hn, h0, h3 => by
    have c : ¬ (i : Int) < (xs.length : Int) := by omega
    have c' : ¬ i < xs.length := by omega
    
    rw [evLoop_eq]
    refine ⟨?_, ?_, ?_, ?_⟩
    rotate_left
    · simp [evH, -List.getD_eq_getElem?_getD, -List.map_map, f160l0, h0, h3, txts, c, c', seek]
      rfl
    · intro j hj; simp [seek] at hj
    · intro _
      try refine ⟨?_, ?_⟩
      all_goals (first | trivial | simp [evH, -List.getD_eq_getElem?_getD, -List.map_map, h0, h3, txts])
  | n + 1, i, e, hn, h0, h3 => by
    have c : (i : Int) < (xs.length : Int) := by omega
    have c' : i < xs.length := by omega
    have g := txts_get xs i c'
    have w1 : IntKind.i64.wrap ((i : Int) + 1) = ((i + 1 : Nat) : Int) := by rw [IntWalk.i64_in _ (by omega)]; rfl
    
    have ih := l_160 n0 xs hx  H n (i + 1)
    rw [evLoop_eq]
    generalize evLoop (evCode (ev R) R.glob n0 evLoop f160l0) [0, 3] = F at ih ⊢
    by_cases hb : 40 < (xs.getD i []).length
    · have hb' : (40 : Int) < ((xs.getD i []).length : Int) := by omega
      refine ⟨?_, ?_, ?_, ?_⟩
      rotate_left
      · simp [evH, -List.getD_eq_getElem?_getD, -List.map_map, f160l0, h0, h3, txts, c, c', g, seek, long, hb, hb']
        rfl
      · intro j hj
        simp [seek, long, hb, hb', -List.getD_eq_getElem?_getD] at hj
        try subst hj
        simp [evH, -List.getD_eq_getElem?_getD, -List.map_map]
      · intro hj; simp [seek, long, hb, hb', -List.getD_eq_getElem?_getD] at hj
    · have hb' : ¬ (40 : Int) < ((xs.getD i []).length : Int) := by omega
      have hs : seek (long xs) (n + 1) i = seek (long xs) n (i + 1) := by simp [seek, long, hb, -List.getD_eq_getElem?_getD]
      rw [hs]
      simp [evH, -List.getD_eq_getElem?_getD, -List.map_map, f160l0, h0, h3, txts, c, c', g, w1, hb, hb']
      refine ih _ (by omega) ?_ ?_ <;> rfl

def okArgs (xs : List Txt) : Bool := (seek (long xs) xs.length 0).isNone && (decide (1 ≤ xs.length) && decide (xs.length ≤ 8))
theorem okArgs_iff (xs : List Txt) : okArgs xs = true ↔ okOrder xs := by
  unfold okArgs okOrder
  constructor
  · intro h
    simp only [Bool.and_eq_true, decide_eq_true_eq, Option.isNone_iff_eq_none] at h
    obtain ⟨h1, h2, h3⟩ := h
    refine ⟨fun x hx => ?_, h2, h3⟩
    obtain ⟨i, hi, rfl⟩ := List.getElem_of_mem hx
    have := seek_none h1 i (by omega) (by omega)
    simp only [long, decide_eq_false_iff_not, List.getD_eq_getElem?_getD, List.getElem?_eq_getElem hi, Option.getD_some] at this
    omega
  · rintro ⟨h1, h2, h3⟩
    simp only [Bool.and_eq_true, decide_eq_true_eq, Option.isNone_iff_eq_none]
    refine ⟨?_, h2, h3⟩
    cases hr : seek (long xs) xs.length 0 with
    | none => rfl
    | some j =>
      obtain ⟨_, hj, hp, _⟩ := seek_some hr
      have hj' : j < xs.length := by omega
      simp only [long, decide_eq_true_eq, List.getD_eq_getElem?_getD, List.getElem?_eq_getElem hj', Option.getD_some] at hp
      have := h1 _ (List.getElem_mem hj')
      omega
theorem e_160 (H : Hp) (xs : List Txt) (hx : xs.length ≤ 9223372036854775807) : ev R 160 [.d (txts xs)] H = some (.d (.bool (okArgs xs)), H) := by
  refine ev_fn (fn := f160) rfl rfl ?_
  obtain ⟨e', he, h1, h2⟩ := l_160 (hlen H) xs hx H xs.length 0 [(0, .d (txts xs)), (3, .d (.int .i64 0))] (by omega) rfl rfl
  have p := p_32 (xs.length : Int) 1 8
  unfold okArgs
  cases hr : seek (long xs) xs.length 0 with
  | some j =>
    simp only [hr] at he
    simp [evH, -List.getD_eq_getElem?_getD, -List.map_map, f160, he, h1 j hr, hr]
  | none =>
    simp only [hr] at he
    have h3 := h2 hr
    have q : (decide ((xs.length : Int) ≥ 1) && decide ((xs.length : Int) ≤ 8)) = (decide (1 ≤ xs.length) && decide (xs.length ≤ 8)) := by
      congr 1 <;> exact decide_eq_decide.2 (by omega)
    rw [q] at p
    simp [evH, -List.getD_eq_getElem?_getD, -List.map_map, f160, he, h3, hr, txts, p]
end Go.Proofs.YtjdmiodinhlchaaGreat.Code
/- The reader of orders under test. -/
namespace Go.Proofs.YtjdmiodinhlchaaGreat.Code
open Go Go.Ev Go.Proofs
set_option maxRecDepth 100000
set_option linter.unusedSimpArgs false
set_option linter.unusedVariables false
theorem u8_eq (a b : UInt8) : ((a.toNat : Int) = (b.toNat : Int)) ↔ a = b := by
  constructor
  · intro h; exact UInt8.toNat_inj.1 (by omega)
  · rintro rfl; rfl
structure Stop (low high : Int) (s : Txt) (k n0 : Nat) (n : Int) (k1 : Nat) (n1 : Int) (sh bd : Bool) : Prop where
  le : k1 ≤ s.length
  ge : n0 ≤ k1
  say : (sh = false ∧ bd = false ∧ (∃ c t, s.drop k1 = c :: t ∧ isDig c = false) ∧ pDig low high (s.drop k) n (decide (k = n0)) = pDig low high (s.drop k1) n1 (decide (k1 = n0))) ∨ (sh = true ∧ bd = false ∧ pDig low high (s.drop k) n (decide (k = n0)) = .short) ∨ (sh = false ∧ bd = true ∧ pDig low high (s.drop k) n (decide (k = n0)) = .bad)
theorem drop_cons {s : Txt} {k : Nat} (hk : k < s.length) : s.drop k = s.getD k 0 :: s.drop (k + 1) := by
  rw [List.getD_eq_getElem?_getD, List.getElem?_eq_getElem hk]
  exact List.drop_eq_getElem_cons hk
end Go.Proofs.YtjdmiodinhlchaaGreat.Code
/- The reader of orders that the code is held against. -/
namespace Go.Proofs.YtjdmiodinhlchaaGreat.Code
open Go Go.Ev Go.Proofs
set_option maxRecDepth 100000
set_option linter.unusedSimpArgs false
set_option linter.unusedVariables false
theorem l_161 (n0 : Nat) (s : Txt) (hs : s.length ≤ 1000000000000) (H : Hp) : ∀ (m i : Nat) (n : Int) (e : Env), i + m = s.length → 0 ≤ n → n < 10 ^ (min i 10) → e.get 0 = .d (.str s) → e.get 3 = .d (.int .i64 n) → e.get 4 = .d (.int .i64 i) →
    ∃ e', evLoop (evCode (ev R) R.glob n0 evLoop f161l0) [0, 3, 4] ⟨e, H⟩ = some ((match figL (s.drop i) i n with | none => .ret | some _ => .exit 0), ⟨e', H⟩) ∧
      (figL (s.drop i) i n = none → e'.get 2 = .d (.int .i64 (-1))) ∧ (∀ v, figL (s.drop i) i n = some v → e'.get 0 = .d (.str s) ∧ e'.get 3 = .d (.int .i64 v))
  | 0, i, n, e, hi, hn, hn2, h0, h3, h4 => by
    have c : ¬ (i : Int) < (s.length : Int) := by omega
    have c' : ¬ i < s.length := by omega
    rw [List.drop_of_length_le (by omega), evLoop_eq]
    refine ⟨?_, ?_, ?_, ?_⟩
    rotate_left
    · simp [evH, -List.getD_eq_getElem?_getD, -List.map_map, f161l0, h0, h3, h4, c, c', figL]
      try rfl
    · intro h; simp [figL] at h
    · intro v h
      simp only [figL, Option.some.injEq] at h
      subst h
      constructor
      · simp [evH, -List.getD_eq_getElem?_getD, -List.map_map, h0]
      · simp [evH, -List.getD_eq_getElem?_getD, -List.map_map, h3]
  | m + 1, i, n, e, hi, hn, hn2, h0, h3, h4 => by
    have hil : i < s.length := by omega
    have c : (i : Int) < (s.length : Int) := by omega
    have hd := drop_cons hil
    obtain ⟨b, hb⟩ : ∃ b, s.getD i 0 = b := ⟨_, rfl⟩
    rw [hb] at hd
    have b255 := b.toNat_lt
    have w1 : IntKind.i64.wrap ((i : Int) + 1) = ((i + 1 : Nat) : Int) := by rw [IntWalk.i64_in _ (by omega)]; rfl
    rw [hd]
    simp only [figL]
    cases g : isDig b with
    | false =>
      simp only [Bool.false_eq_true, if_false]
      rw [evLoop_eq]
      refine ⟨?_, ?_, ?_, ?_⟩
      rotate_left
      · by_cases d1 : (b.toNat : Int) < 48
        · simp [evH, -List.getD_eq_getElem?_getD, -List.map_map, f161l0, h0, h3, h4, c, hil, hb, d1]
          try rfl
        · have d2 : 57 < (b.toNat : Int) := by
            simp only [isDig, Bool.and_eq_false_iff, decide_eq_false_iff_not] at g
            omega
          simp [evH, -List.getD_eq_getElem?_getD, -List.map_map, f161l0, h0, h3, h4, c, hil, hb, d1, d2]
          try rfl
      · intro _; simp [evH, -List.getD_eq_getElem?_getD, -List.map_map]
      · intro v h; simp at h
    | true =>
      have bb := dig_in g
      have d1 : ¬ (b.toNat : Int) < 48 := by omega
      have d2 : ¬ 57 < (b.toNat : Int) := by omega
      simp only [if_true]
      by_cases ten : i < 10
      · have ten' : (i : Int) < 10 := by omega
        have m1 : min i 10 = i := by omega
        have m2 : min (i + 1) 10 = i + 1 := by omega
        rw [m1] at hn2
        have pw : (10 : Int) ^ (i + 1) = 10 ^ i * 10 := Int.pow_succ ..
        have p9 : (10 : Int) ^ i ≤ 1000000000 := by
          have : (10 : Nat) ^ i ≤ 10 ^ 9 := Nat.pow_le_pow_right (by omega) (by omega)
          have e : ((10 ^ i : Nat) : Int) = (10 : Int) ^ i := by simp
          omega
        have w2 : IntKind.i64.wrap (n * 10) = n * 10 := IntWalk.i64_in _ (by omega)
        have w3 : IntKind.u8.wrap ((b.toNat : Int) - 48) = (b.toNat : Int) - 48 := IntWalk.u8_in _ (by omega)
        have w4 : IntKind.i64.wrap ((b.toNat : Int) - 48) = (b.toNat : Int) - 48 := IntWalk.i64_in _ (by omega)
        have w5 : IntKind.i64.wrap (n * 10 + ((b.toNat : Int) - 48)) = n * 10 + ((b.toNat : Int) - 48) := IntWalk.i64_in _ (by omega)
        have ih := l_161 n0 s hs H m (i + 1) (n * 10 + ((b.toNat : Int) - 48))
        rw [m2, pw] at ih
        rw [if_pos ten]
        generalize figL (s.drop (i + 1)) (i + 1) (n * 10 + ((b.toNat : Int) - 48)) = FL at ih ⊢
        obtain ⟨x, hx⟩ : ∃ x, n * 10 + ((b.toNat : Int) - 48) = x := ⟨_, rfl⟩
        rw [hx] at ih
        have w5 := w5.trans hx
        rw [evLoop_eq]
        generalize evLoop (evCode (ev R) R.glob n0 evLoop f161l0) [0, 3, 4] = F at ih ⊢
        simp [evH, -List.getD_eq_getElem?_getD, -List.map_map, f161l0, h0, h3, h4, c, hil, hb, d1, d2, ten, ten', w1, w2, w3, w4, w5]
        refine ih _ (by omega) (by omega) (by omega) ?_ ?_ ?_ <;> rfl
      · have ten' : ¬ (i : Int) < 10 := by omega
        have m1 : min i 10 = 10 := by omega
        have m2 : min (i + 1) 10 = 10 := by omega
        rw [m1] at hn2
        have ih := l_161 n0 s hs H m (i + 1) n
        rw [m2] at ih
        rw [if_neg ten]
        generalize figL (s.drop (i + 1)) (i + 1) n = FL at ih ⊢
        rw [evLoop_eq]
        generalize evLoop (evCode (ev R) R.glob n0 evLoop f161l0) [0, 3, 4] = F at ih ⊢
        simp [evH, -List.getD_eq_getElem?_getD, -List.map_map, f161l0, h0, h3, h4, c, hil, hb, d1, d2, ten, ten', w1]
        refine ih _ (by omega) (by omega) (by omega) ?_ ?_ ?_ <;> rfl
theorem e_161 (H : Hp) (s : Txt) (hs : s.length ≤ 1000000000000) : ev R 161 [.d (.str s)] H = some (.d (.int .i64 (figV s)), H) := by
  refine ev_fn (fn := f161) rfl rfl ?_
  obtain ⟨e', he, h1, h2⟩ := l_161 (hlen H) s hs H s.length 0 0 [(0, .d (.str s)), (3, .d (.int .i64 0)), (4, .d (.int .i64 0))] (by omega) (by omega) (by simp) rfl rfl rfl
  simp only [List.drop_zero] at he h1 h2
  unfold figV
  cases hr : figL s 0 0 with
  | none =>
    simp only [hr] at he
    simp [evH, -List.getD_eq_getElem?_getD, -List.map_map, f161, he, h1 hr]
  | some v =>
    simp only [hr] at he
    obtain ⟨g0, g3⟩ := h2 v hr
    have p := p_32 (s.length : Int) 1 10
    by_cases c1 : s.length < 1
    · have q : (decide ((s.length : Int) ≥ 1) && decide ((s.length : Int) ≤ 10)) = false := by simp; omega
      rw [q] at p
      simp [evH, -List.getD_eq_getElem?_getD, -List.map_map, f161, he, g0, g3, p, c1]
    · by_cases c2 : 10 < s.length
      · have q : (decide ((s.length : Int) ≥ 1) && decide ((s.length : Int) ≤ 10)) = false := by simp; omega
        rw [q] at p
        simp [evH, -List.getD_eq_getElem?_getD, -List.map_map, f161, he, g0, g3, p, c1, c2]
      · have q : (decide ((s.length : Int) ≥ 1) && decide ((s.length : Int) ≤ 10)) = true := by simp; omega
        rw [q] at p
        have k0 : 0 < s.length := by omega
        have k0' : (0 : Int) < (s.length : Int) := by omega
        by_cases c3 : 1 < s.length
        · have c3' : (1 : Int) < (s.length : Int) := by omega
          have u : ((s.getD 0 0).toNat : Int) = 48 ↔ s.getD 0 0 = 48 := u8_eq _ 48
          by_cases c4 : s.getD 0 0 = 48
          · simp [evH, -List.getD_eq_getElem?_getD, -List.map_map, f161, he, g0, g3, p, c1, c2, c3, c3', k0, k0', c4]
          · have c4' : ¬ ((s.getD 0 0).toNat : Int) = 48 := fun h => c4 (u.1 h)
            simp [evH, -List.getD_eq_getElem?_getD, -List.map_map, f161, he, g0, g3, p, c1, c2, c3, c3', k0, k0', c4, c4']
        · have c3' : ¬ (1 : Int) < (s.length : Int) := by omega
          simp [evH, -List.getD_eq_getElem?_getD, -List.map_map, f161, he, g0, g3, p, c1, c2, c3, c3', k0, k0']
end Go.Proofs.YtjdmiodinhlchaaGreat.Code
/- Numbers read from texts: the reference's reader. -/
namespace Go.Proofs.YtjdmiodinhlchaaGreat.Code
open Go Go.Ev Go.Proofs
set_option maxRecDepth 100000
set_option linter.unusedSimpArgs false
set_option linter.unusedVariables false
def intV (s : Txt) : Int × Bool :=
  if 1 < s.length ∧ s.getD 0 0 = 45 then (if 1 ≤ figV (s.drop 1) ∧ figV (s.drop 1) ≤ 1000000000 then (-figV (s.drop 1), true) else (0, false))
  else (if 0 ≤ figV s ∧ figV s ≤ 1000000000 then (figV s, true) else (0, false))
theorem e_133 (H : Hp) (s : Txt) (hs : s.length ≤ 1000000000000) : ev R 133 [.d (.str s)] H = some (.tup [.d (.int .i64 (intV s).1), .d (.bool (intV s).2)], H) := by
  refine ev_fn (fn := f133) rfl rfl ?_
  have q := p_32 (figV s) 0 1000000000
  have q1 := p_32 (figV (s.drop 1)) 1 1000000000
  have p := pureCall_eq (cl := ev R) fun H => e_161 H s hs
  have p1 := pureCall_eq (cl := ev R) fun H => e_161 H (s.drop 1) (by simp; omega)
  rw [List.drop_one] at p1 q1
  unfold intV
  rw [List.drop_one]
  generalize figV s.tail = f1 at q1 p1 ⊢
  generalize figV s = f at q p ⊢
  have tl : s.take s.length = s := List.take_length
  obtain ⟨b, hb⟩ : ∃ b, s.getD 0 0 = b := ⟨_, rfl⟩
  by_cases c : 1 < s.length
  · have c' : (1 : Int) < (s.length : Int) := by omega
    have c0 : (0 : Int) < (s.length : Int) := by omega
    have c1 : (1 : Int) ≤ (s.length : Int) := by omega
    have c2 : 0 < s.length := by omega
    have c3 : 1 ≤ s.length := by omega
    have c4 : s ≠ [] := by rintro rfl; simp at c
    by_cases d : b = 45
    · subst d
      by_cases e1 : 1 ≤ f1
      · by_cases e2 : f1 ≤ 1000000000
        · have w : IntKind.i64.wrap (-f1) = -f1 := IntWalk.i64_in _ (by omega)
          simp [evH, -List.getD_eq_getElem?_getD, -List.map_map, f133, c, c', c0, c1, c2, c3, c4, hb, bound, q1, p1, e1, e2, w]
        · simp [evH, -List.getD_eq_getElem?_getD, -List.map_map, f133, c, c', c0, c1, c2, c3, c4, hb, bound, q1, p1, e1, e2]
      · simp [evH, -List.getD_eq_getElem?_getD, -List.map_map, f133, c, c', c0, c1, c2, c3, c4, hb, bound, q1, p1, e1]
    · have d' : ¬ ((b.toNat : Nat) : Int) = 45 := fun h => d (UInt8.toNat_inj.1 (by rw [show (45 : UInt8).toNat = 45 from rfl]; omega))
      have d'' : ¬ b.toNat = 45 := fun h => d' (by omega)
      by_cases e1 : 0 ≤ f
      · by_cases e2 : f ≤ 1000000000
        · simp [evH, -List.getD_eq_getElem?_getD, -List.map_map, f133, c, c', c0, c1, c2, c3, c4, hb, bound, q, p, e1, e2, d, d', d'']
        · simp [evH, -List.getD_eq_getElem?_getD, -List.map_map, f133, c, c', c0, c1, c2, c3, c4, hb, bound, q, p, e1, e2, d, d', d'']
      · simp [evH, -List.getD_eq_getElem?_getD, -List.map_map, f133, c, c', c0, c1, c2, c3, c4, hb, bound, q, p, e1, d, d', d'']
  · have c' : ¬ (1 : Int) < (s.length : Int) := by omega
    by_cases e1 : 0 ≤ f
    · by_cases e2 : f ≤ 1000000000
      · simp [evH, -List.getD_eq_getElem?_getD, -List.map_map, f133, c, c', q, p, e1, e2]
      · simp [evH, -List.getD_eq_getElem?_getD, -List.map_map, f133, c, c', q, p, e1, e2]
    · simp [evH, -List.getD_eq_getElem?_getD, -List.map_map, f133, c, c', q, p, e1]
end Go.Proofs.YtjdmiodinhlchaaGreat.Code
/- Numbers written out, below zero too. -/
namespace Go.Proofs.YtjdmiodinhlchaaGreat.Code
open Go Go.Ev Go.Proofs
set_option maxRecDepth 100000
set_option linter.unusedSimpArgs false
set_option linter.unusedVariables false
def decZ (z : Int) : Txt := if z < 0 then 45 :: decV z.natAbs else decV z.toNat
theorem e_83z (H : Hp) (z : Int) (h : -1000000000 ≤ z ∧ z ≤ 1000000000) : ev R 83 [.d (.int .i64 z)] H = some (.d (.str (decZ z)), H) := by
  unfold decZ
  by_cases c : z < 0
  · rw [if_pos c]
    refine ev_fn (fn := f83) rfl rfl ?_
    obtain ⟨n, hn⟩ : ∃ n : Nat, z.natAbs = n := ⟨_, rfl⟩
    have hz : -z = (n : Int) := by omega
    have c1 : ¬ z < -9223372036854775807 := by omega
    have w : IntKind.i64.wrap (-z) = (n : Int) := by rw [IntWalk.i64_in _ (by omega)]; exact hz
    have p := pureCall_eq (cl := ev R) fun H => e_83 n H (by omega)
    have dl := decV_len n
    have l : 1 + (decV n).length ≤ strRoom := by unfold strRoom; omega
    rw [hn]
    generalize decV n = x at *
    generalize (n : Int) = N at *
    simp [evH, -List.getD_eq_getElem?_getD, -List.map_map, f83, c, c1, w, p, l]
  · rw [if_neg c]
    obtain ⟨n, rfl⟩ := Int.eq_ofNat_of_zero_le (show 0 ≤ z by omega)
    exact e_83 n H (by omega)
end Go.Proofs.YtjdmiodinhlchaaGreat.Code
/- The reference: the keys of an order, what is wrong with one, numbers added. -/
namespace Go.Proofs.YtjdmiodinhlchaaGreat.Code
open Go Go.Ev Go.Proofs
set_option maxRecDepth 100000
set_option maxHeartbeats 2000000
set_option linter.unusedSimpArgs false
set_option linter.unusedVariables false
theorem okArgs_len {xs : List Txt} (h : okArgs xs = true) : 1 ≤ xs.length ∧ xs.length ≤ 8 := by
  have := (okArgs_iff xs).1 h
  exact this.2
theorem okArgs_each {xs : List Txt} (h : okArgs xs = true) : ∀ x ∈ xs, x.length ≤ 40 := ((okArgs_iff xs).1 h).1
theorem p_160 (xs : List Txt) (hx : xs.length ≤ 9223372036854775807) : pureCall (ev R) 160 [.d (txts xs)] = some (.d (.bool (okArgs xs))) := pureCall_eq fun H => e_160 H xs hx
theorem p_55 (s : Txt) : pureCall (ev R) 55 [.d (.str s)] = some (.d (.bool (keyV s))) := pureCall_eq fun H => e_55 H s
theorem ite_all {α : Type} {P : α → Prop} {c : Prop} [Decidable c] {a b : α} (ha : P a) (hb : P b) : P (if c then a else b) := by split <;> assumption
def WordOk (x : Int × Int × Int) : Prop := 0 ≤ x.1 ∧ x.1 ≤ 4 ∧ x.2.1 ≤ 8 ∧ 0 ≤ x.2.2 ∧ x.2.2 ≤ 5
theorem wordV_in (w : Txt) : WordOk (wordV w) := by
  unfold wordV
  repeat (refine ite_all (P := WordOk) ⟨by decide, by decide, by decide, by decide, by decide⟩ ?_)
  exact ⟨by decide, by decide, by decide, by decide, by decide⟩
def twoKeys : List Txt := [[83, 73, 78, 84, 69, 82], [83, 85, 78, 73, 79, 78], [83, 68, 73, 70, 70], [82, 69, 78, 65, 77, 69]]
theorem two_lo {w : Txt} (h : w ∈ twoKeys) : (wordV w).1 = 3 := by
  simp only [twoKeys, List.mem_cons, List.not_mem_nil, or_false] at h
  rcases h with rfl | rfl | rfl | rfl <;> rfl
def keysV (args : List Txt) : List Txt :=
  if okArgs args = true then
    if (wordV (args.getD 0 [])).1 = 0 ∨ ¬ ((wordV (args.getD 0 [])).1 ≤ (args.length : Int) ∧ (args.length : Int) ≤ (wordV (args.getD 0 [])).2.1) ∨ (wordV (args.getD 0 [])).1 = 1 ∨ args.getD 0 [] = [75, 69, 89, 83] then [] else
    if args.getD 0 [] = [68, 69, 76] ∨ args.getD 0 [] = [69, 88, 73, 83, 84, 83] then args.drop 1 else
    if args.getD 0 [] ∈ twoKeys then [args.getD 1 [], args.getD 2 []] else [args.getD 1 []]
  else []
theorem p_128 (args : List Txt) (hx : args.length ≤ 1000000) : pureCall (ev R) 128 [.d (txts args)] = some (.d (txts (keysV args))) := pureCall_eq fun H => by
  refine ev_fn (fn := f128) rfl rfl ?_
  have p0 := p_160 args (by omega)
  unfold keysV
  cases h0 : okArgs args with
  | false => rw [h0] at p0; simp [evC, -List.getD_eq_getElem?_getD, -List.map_map, f128, p0, txts]
  | true =>
    rw [h0] at p0
    have hl := okArgs_len h0
    clear h0
    obtain ⟨w, r, rfl⟩ : ∃ w r, args = w :: r := by
      cases args with
      | nil => simp at hl
      | cons w r => exact ⟨w, r, rfl⟩
    have e0 : (w :: r).getD 0 [] = w := rfl
    have e1 : (w :: r).length = r.length + 1 := rfl
    have e2 : ((w :: r).length : Int) = (r.length : Int) + 1 := by rw [e1]; omega
    rw [e0, e2]
    rw [e1] at hl
    simp only [txts, List.map_cons] at p0
    have p1 := p_109 w
    have wi := wordV_in w
    have wt := fun h : w ∈ twoKeys => two_lo h
    have p3 := p_145 twoKeys w (by decide)
    have hge : ∀ lo : Int, 0 ≤ lo → ¬ lo = 0 → ¬ lo = 1 → lo ≤ (r.length : Int) + 1 → 1 ≤ r.length := fun lo a b c d => by omega
    generalize wordV w = W at *
    obtain ⟨lo, hi, kd⟩ := W
    have p2 := p_32 ((r.length : Int) + 1) lo hi
    dsimp only at *
    by_cases a0 : lo = 0
    · simp (maxSteps := 1000000) [evL, -List.getD_eq_getElem?_getD, -List.map_map, f128, p0, p1, eq_true a0, txts]
    by_cases a1 : lo ≤ (r.length : Int) + 1
    rotate_left
    · simp (maxSteps := 1000000) [evL, -List.getD_eq_getElem?_getD, -List.map_map, f128, p0, p1, p2, eq_false a0, eq_false a1, txts]
    by_cases a2 : (r.length : Int) + 1 ≤ hi
    rotate_left
    · simp (maxSteps := 1000000) [evL, -List.getD_eq_getElem?_getD, -List.map_map, f128, p0, p1, p2, eq_false a0, eq_true a1, eq_false a2, txts]
    by_cases a3 : lo = 1
    · simp (maxSteps := 1000000) [evL, -List.getD_eq_getElem?_getD, -List.map_map, f128, p0, p1, p2, eq_false a0, eq_true a1, eq_true a2, eq_true a3, txts]
    have hr := hge lo wi.1 a0 a3 a1
    obtain ⟨k, r', rfl⟩ : ∃ k r', r = k :: r' := by
      cases r with
      | nil => simp at hr
      | cons w r => exact ⟨w, r, rfl⟩
    have f2 : (((k :: r').length : Nat) : Int) = (r'.length : Int) + 1 := by rw [List.length_cons]; omega
    have f1 : (k :: r').length = r'.length + 1 := rfl
    rw [f2] at a1 a2 p2
    rw [f1] at hl
    clear hge
    have q1 := p_85 (k :: r') (by rw [f1]; omega)
    have q1n := p_85n (k :: r') (by rw [f1]; omega)
    simp only [txts, List.map_cons] at p0 q1 q1n
    have b1 : (1 : Int) ≤ (r'.length : Int) + 1 + 1 := by omega
    have b0 : (0 : Int) ≤ (r'.length : Int) + 1 + 1 := by omega
    have b00 : (0 : Int) < (r'.length : Int) + 1 + 1 := by omega
    have b2 : (1 : Int) < (r'.length : Int) + 1 + 1 := by omega
    by_cases a4 : w = [75, 69, 89, 83]
    · simp (maxSteps := 1000000) [evL, -List.getD_eq_getElem?_getD, -List.map_map, f128, p0, p1, p2, eq_false a0, eq_true a1, eq_true a2, eq_false a3, eq_true a4, b0, b00, b1, b2, txts]
    by_cases a5 : w = [68, 69, 76]
    · simp (maxSteps := 1000000) [evL, -List.getD_eq_getElem?_getD, -List.map_map, f128, p0, p1, p2, q1, q1n, eq_false a0, eq_true a1, eq_true a2, eq_false a3, eq_false a4, eq_true a5, b0, b00, b1, b2, txts]
    by_cases a6 : w = [69, 88, 73, 83, 84, 83]
    · simp (maxSteps := 1000000) [evL, -List.getD_eq_getElem?_getD, -List.map_map, f128, p0, p1, p2, q1, q1n, eq_false a0, eq_true a1, eq_true a2, eq_false a3, eq_false a4, eq_false a5, eq_true a6, b0, b00, b1, b2, txts]
    by_cases a7 : w ∈ twoKeys
    · have := wt a7
      subst this
      obtain ⟨k2, r2, rfl⟩ : ∃ k2 r2, r' = k2 :: r2 := by
        cases r' with
        | nil => simp at a1
        | cons w r => exact ⟨w, r, rfl⟩
      have q2 := p_85 [k, k2] (by simp)
      have q2n := p_85n [k, k2] (by simp)
      rw [decide_eq_true a7] at p3
      simp only [twoKeys, txts, List.map_cons, List.map_nil] at p0 p3 q2 q2n
      have g2 : (((k2 :: r2).length : Nat) : Int) = (r2.length : Int) + 1 := by rw [List.length_cons]; omega
      rw [g2] at a1 a2 p2 b0 b00 b1 b2
      have b3 : (3 : Int) ≤ (r2.length : Int) + 1 + 1 + 1 := by omega
      simp (maxSteps := 1000000) [evL, -List.getD_eq_getElem?_getD, -List.map_map, f128, p0, p1, p2, p3, q2, q2n, eq_false a0, eq_true a1, eq_true a2, eq_false a3, eq_false a4, eq_false a5, eq_false a6, eq_true a7, b0, b00, b1, b2, b3, txts]
    · rw [decide_eq_false a7] at p3
      simp only [twoKeys, txts, List.map_cons, List.map_nil] at p3
      simp (maxSteps := 1000000) [evL, -List.getD_eq_getElem?_getD, -List.map_map, f128, p0, p1, p2, p3, eq_false a0, eq_true a1, eq_true a2, eq_false a3, eq_false a4, eq_false a5, eq_false a6, eq_false a7, b0, b00, b1, b2, txts]
def addV (t : Txt) (there : Bool) (by' : Txt) : Int × Bool :=
  if there = true ∧ (intV t).2 = false then (0, false) else
  if (intV by').2 = true ∧ -1000000000 ≤ (if there = true then (intV t).1 else 0) + (intV by').1 ∧ (if there = true then (intV t).1 else 0) + (intV by').1 ≤ 1000000000 then ((if there = true then (intV t).1 else 0) + (intV by').1, true) else (0, false)
theorem intV_in (t : Txt) : -1000000000 ≤ (intV t).1 ∧ (intV t).1 ≤ 1000000000 := by
  unfold intV
  repeat' split
  all_goals (dsimp only; omega)
theorem p_133 (s : Txt) (hs : s.length ≤ 1000000) : pureCall (ev R) 133 [.d (.str s)] = some (.tup [.d (.int .i64 (intV s).1), .d (.bool (intV s).2)]) := pureCall_eq fun H => e_133 H s (by omega)
theorem p_135 (t : Txt) (there : Bool) (y : Txt) (ht : t.length ≤ 1000000) (hy : y.length ≤ 1000000) : pureCall (ev R) 135 [.d (.str t), .d (.bool there), .d (.str y)] = some (.tup [.d (.int .i64 (addV t there y).1), .d (.bool (addV t there y).2)]) := pureCall_eq fun H => by
  refine ev_fn (fn := f135) rfl rfl ?_
  have p1 := p_133 t ht
  have p2 := p_133 y hy
  have i1 := intV_in t
  have i2 := intV_in y
  unfold addV
  generalize intV t = T at *
  generalize intV y = Y at *
  obtain ⟨m, mo⟩ := T
  obtain ⟨n, no⟩ := Y
  dsimp only at *
  have w : IntKind.i64.wrap (m + n) = m + n := IntWalk.i64_in _ (by omega)
  have w0 : IntKind.i64.wrap (0 + n) = n := by rw [IntWalk.i64_in _ (by omega)]; omega
  have w1 : IntKind.i64.wrap n = n := IntWalk.i64_in _ (by omega)
  have p3 := p_32 (m + n) (-1000000000) 1000000000
  have p4 := p_32 n (-1000000000) 1000000000
  cases there <;> cases mo <;> cases no
  all_goals try (simp [evC, -List.getD_eq_getElem?_getD, -List.map_map, f135, p1, p2]; done)
  · have a : -1000000000 ≤ n := by omega
    have b : n ≤ 1000000000 := by omega
    simp [evC, -List.getD_eq_getElem?_getD, -List.map_map, f135, p1, p2, p4, w, w0, w1, a, b]
  · have a : -1000000000 ≤ n := by omega
    have b : n ≤ 1000000000 := by omega
    simp [evC, -List.getD_eq_getElem?_getD, -List.map_map, f135, p1, p2, p4, w, w0, w1, a, b]
  · by_cases a : -1000000000 ≤ m + n
    · by_cases b : m + n ≤ 1000000000
      · simp [evC, -List.getD_eq_getElem?_getD, -List.map_map, f135, p1, p2, p3, w, w0, w1, eq_true a, eq_true b]
      · simp [evC, -List.getD_eq_getElem?_getD, -List.map_map, f135, p1, p2, p3, w, w0, w1, eq_true a, eq_false b]
    · simp [evC, -List.getD_eq_getElem?_getD, -List.map_map, f135, p1, p2, p3, w, w0, w1, eq_false a]
def badKey (b : Ba) (kind : Int) (k : Txt) : Txt := if keyV k = false then [107, 101, 121] else if kind ≠ 0 ∧ (rGet b k).kind ≠ 0 ∧ (rGet b k).kind ≠ kind then [107, 105, 110, 100] else []
def readyL (b : Ba) (kind : Int) : List Txt → Txt
  | [] => []
  | k :: r => if badKey b kind k = [] then readyL b kind r else badKey b kind k
def readyV (b : Ba) (args : List Txt) : Txt :=
  if (wordV (args.getD 0 [])).1 = 0 then [117, 110, 107, 110, 111, 119, 110] else
  if ¬ ((wordV (args.getD 0 [])).1 ≤ (args.length : Int) ∧ (args.length : Int) ≤ (wordV (args.getD 0 [])).2.1) then [119, 111, 114, 100, 115] else
  readyL b (wordV (args.getD 0 [])).2.2 (keysV args)
theorem keysV_len (args : List Txt) : (keysV args).length ≤ args.length + 2 := by
  unfold keysV
  repeat' split
  all_goals (simp only [List.length_nil, List.length_cons, List.length_drop]; omega)
theorem drop_get {α : Type} (xs : List α) (i : Nat) (d : α) (h : i < xs.length) : xs.drop i = xs.getD i d :: xs.drop (i + 1) := by
  rw [List.drop_eq_getElem_cons h]
  simp [List.getD_eq_getElem?_getD, h]
theorem l_107 (H : Hp) (b : Ba) (kd : Int) (ks : List Txt) (hk : ks.length ≤ 1000000) (hb : BaSm b) :
    Gives (fun o e X => (o = .exit 1 ∧ readyL b kd ks = [] ∧ X = ap H [.row 0 2 [.d (baD b)]]) ∨ (o = .ret ∧ e.get 4 = .d (.str (readyL b kd ks)) ∧ htake X (hlen H) = H)) (evLoop (evCode (ev R) R.glob (hlen H) evLoop f107l0) [2, 7, 8, 9] ⟨[(2, .ptr (hlen H) 0 0 0), (7, .d (.int .i64 kd)), (8, .d (txts ks)), (9, .d (.int .i64 0))], ap H [.row 0 2 [.d (baD b)]]⟩) := by
  refine loop_keep (F := evCode (ev R) R.glob (hlen H) evLoop f107l0) (lv := [2, 7, 8, 9]) ks.length
    (fun i e X => X = ap H [.row 0 2 [.d (baD b)]] ∧ e.get 2 = .ptr (hlen H) 0 0 0 ∧ e.get 7 = .d (.int .i64 kd) ∧ e.get 8 = .d (txts ks) ∧ e.get 9 = .d (.int .i64 i) ∧ readyL b kd ks = readyL b kd (ks.drop i))
    _ ?_ ?_ ks.length 0 _ _ (by omega) ⟨rfl, rfl, rfl, rfl, rfl, rfl⟩
  · rintro e X ⟨rfl, g2, g7, g8, g9, hr⟩
    rw [List.drop_length] at hr
    have hr : readyL b kd ks = [] := hr
    simp [evC, -List.getD_eq_getElem?_getD, -List.map_map, f107l0, g2, g7, g8, g9, hr, txts]
  · rintro i e X hi ⟨rfl, g2, g7, g8, g9, hr⟩
    have c : (i : Int) < (ks.length : Int) := by omega
    have g := txts_get ks i hi
    rw [drop_get ks i [] hi] at hr
    simp only [readyL] at hr
    have p1 := p_55 (ks.getD i [])
    have p2 := p_47 b (ks.getD i []) hb
    have w1 : IntKind.i64.wrap ((i : Int) + 1) = ((i + 1 : Nat) : Int) := by rw [IntWalk.i64_in _ (by omega)]; rfl
    unfold badKey at hr
    generalize ks.getD i [] = k at *
    cases h1 : keyV k with
    | false =>
      rw [h1] at p1 hr
      have hr : readyL b kd ks = [107, 101, 121] := hr
      simp [evC, -List.getD_eq_getElem?_getD, -List.map_map, f107l0, g2, g7, g8, g9, c, g, hi, p1, hr, txts]
    | true =>
      rw [h1] at p1 hr
      generalize rGet b k = E at *
      by_cases a1 : kd = 0
      · have hr : readyL b kd ks = readyL b kd (ks.drop (i + 1)) := by simpa [a1] using hr
        simp [evC, -List.getD_eq_getElem?_getD, -List.map_map, f107l0, g2, g7, g8, g9, c, g, hi, p1, p2, eq_true a1, w1, eq_true hr, txts]
      · by_cases a2 : E.kind = 0
        · have hr : readyL b kd ks = readyL b kd (ks.drop (i + 1)) := by simpa [a1, a2] using hr
          simp [evC, -List.getD_eq_getElem?_getD, -List.map_map, f107l0, g2, g7, g8, g9, c, g, hi, p1, p2, eq_false a1, eq_true a2, w1, eq_true hr, txts]
        · by_cases a3 : E.kind = kd
          · have hr : readyL b kd ks = readyL b kd (ks.drop (i + 1)) := by simpa [a1, a2, a3] using hr
            simp [evC, -List.getD_eq_getElem?_getD, -List.map_map, f107l0, g2, g7, g8, g9, c, g, hi, p1, p2, eq_false a1, eq_false a2, eq_true a3, w1, eq_true hr, txts]
          · have hr : readyL b kd ks = [107, 105, 110, 100] := by simpa [a1, a2, a3] using hr
            simp [evC, -List.getD_eq_getElem?_getD, -List.map_map, f107l0, g2, g7, g8, g9, c, g, hi, p1, p2, eq_false a1, eq_false a2, eq_false a3, w1, hr, txts]
theorem p_107 (b : Ba) (args : List Txt) (hb : BaSm b) (hx : args.length ≤ 1000) (h1 : 1 ≤ args.length) : pureCall (ev R) 107 [.d (baD b), .d (txts args)] = some (.d (.str (readyV b args))) := pureCall_eq fun H => by
  refine ev_fn (fn := f107) rfl rfl ?_
  have hkl := keysV_len args
  have p1 := p_109 (args.getD 0 [])
  have p3 := p_128 args (by omega)
  have g0 := txts_get args 0 (by omega)
  have c0 : (0 : Int) < (args.length : Int) := by omega
  have c0' : 0 < args.length := by omega
  have lp := l_107 H b (wordV (args.getD 0 [])).2.2 (keysV args) (by omega) hb
  have p2 := p_32 (args.length : Int) (wordV (args.getD 0 [])).1 (wordV (args.getD 0 [])).2.1
  unfold readyV
  generalize keysV args = ks at *
  generalize args.getD 0 [] = w at *
  generalize wordV w = W at *
  obtain ⟨lo, hi, kd⟩ := W
  dsimp only at *
  by_cases a0 : lo = 0
  · simp [evC, -List.getD_eq_getElem?_getD, -List.map_map, f107, p1, g0, c0, c0', eq_true a0, txts]
  by_cases a1 : lo ≤ (args.length : Int)
  rotate_left
  · simp [evC, -List.getD_eq_getElem?_getD, -List.map_map, f107, p1, p2, g0, c0, c0', eq_false a0, eq_false a1, txts]
  by_cases a2 : (args.length : Int) ≤ hi
  rotate_left
  · simp [evC, -List.getD_eq_getElem?_getD, -List.map_map, f107, p1, p2, g0, c0, c0', eq_false a0, eq_true a1, eq_false a2, txts]
  obtain ⟨o, e', X', he, hq⟩ := lp.out
  rcases hq with ⟨rfl, hq, rfl⟩ | ⟨rfl, g4, ht⟩
  · simp [evC, -List.getD_eq_getElem?_getD, -List.map_map, f107, p1, p2, p3, g0, c0, c0', eq_false a0, eq_true a1, eq_true a2, he, hq, txts]
  · simp [evC, -List.getD_eq_getElem?_getD, -List.map_map, f107, p1, p2, p3, g0, c0, c0', eq_false a0, eq_true a1, eq_true a2, he, g4, ht, txts]
end Go.Proofs.YtjdmiodinhlchaaGreat.Code
/- Bases that are as they should be, and entries that are small. -/
namespace Go.Proofs.YtjdmiodinhlchaaGreat.Code
open Go Go.Ev Go.Proofs
set_option maxRecDepth 100000
set_option maxHeartbeats 2000000
set_option linter.unusedSimpArgs false
set_option linter.unusedVariables false
structure EnQ (e : En) : Prop where
  key : e.key.length ≤ 1000000
  text : e.text.length ≤ 1000000
  list : e.list.length ≤ 1000
  lists : ∀ x ∈ e.list, x.length ≤ 1000000
  scores : e.scores.length ≤ 1000
  scoress : ∀ x ∈ e.scores, x.1.length ≤ 1000000 ∧ -2000000000 ≤ x.2 ∧ x.2 ≤ 2000000000
  fields : e.fields.length ≤ 1000
  fieldss : ∀ x ∈ e.fields, x.1.length ≤ 1000000 ∧ x.2.length ≤ 1000000
  till : 0 ≤ e.till ∧ e.till ≤ 10000000
  kind : 0 ≤ e.kind ∧ e.kind ≤ 10
theorem EnQ.sm {e : En} (h : EnQ e) : EnSm e := ⟨by have := h.list; omega, by have := h.scores; omega, by have := h.fields; omega⟩
theorem getD_all {α : Type} {P : α → Prop} {xs : List α} {d : α} (h : ∀ x ∈ xs, P x) (hd : P d) (i : Nat) : P (xs.getD i d) := by
  by_cases hi : i < xs.length
  · exact h _ (getD_in hi)
  · rw [List.getD_eq_getElem?_getD, List.getElem?_eq_none (by omega)]; exact hd
theorem EnQ.fit {e : En} (h : EnQ e) : EnFit e := by
  obtain ⟨h1, h2, h3, h4, h5, h6, h7, h8, h9, h10⟩ := h
  refine ⟨by omega, by omega, by omega, ?_, by omega, ?_, by omega, ?_, ⟨by omega, by omega⟩, ⟨by omega, by omega⟩⟩
  · intro i
    have := getD_all (P := fun x : Txt => x.length ≤ 1000000) h4 (d := []) (by simp) i
    omega
  · intro i
    have := getD_all (P := fun x : Sc => x.1.length ≤ 1000000 ∧ -2000000000 ≤ x.2 ∧ x.2 ≤ 2000000000) h6 (d := ([], 0)) (by simp) i
    omega
  · intro i
    have := getD_all (P := fun x : Pr => x.1.length ≤ 1000000 ∧ x.2.length ≤ 1000000) h8 (d := ([], [])) (by simp) i
    omega
structure BaG (b : Ba) : Prop where
  len : b.ents.length ≤ 12
  each : ∀ e ∈ b.ents, enOk e = true
  now : 0 ≤ b.now ∧ b.now ≤ 2000000
theorem okTexts_each {xs : List Txt} (h : okTexts xs = true) : ∀ x ∈ xs, x.length ≤ 40 := by
  unfold okTexts at h
  simp only [Bool.and_eq_true, decide_eq_true_eq, Option.isNone_iff_eq_none] at h
  obtain ⟨h1, h2⟩ := h
  intro x hx
  obtain ⟨i, hi, rfl⟩ := List.getElem_of_mem hx
  have := seek_none h1 i (by omega) (by omega)
  simp only [long, decide_eq_false_iff_not, List.getD_eq_getElem?_getD, List.getElem?_eq_getElem hi, Option.getD_some] at this
  omega
theorem anyF_none {p : Nat → Bool} : ∀ {n i : Nat}, anyF p n i = false → ∀ j, i ≤ j → j < i + n → p j = false
  | 0, i, _, j, h1, h2 => by omega
  | n + 1, i, h, j, h1, h2 => by
    simp only [anyF, Bool.or_eq_false_iff] at h
    by_cases hj : j = i
    · subst hj; exact h.1
    · exact anyF_none h.2 j (by omega) (by omega)
theorem anyF_mk {p : Nat → Bool} : ∀ {n i : Nat}, (∀ j, i ≤ j → j < i + n → p j = false) → anyF p n i = false
  | 0, i, _ => rfl
  | n + 1, i, h => by
    simp only [anyF, Bool.or_eq_false_iff]
    exact ⟨h i (by omega) (by omega), anyF_mk fun j h1 h2 => h j (by omega) (by omega)⟩
theorem getD_mem_iff {α : Type} {P : α → Prop} {xs : List α} (d : α) (h : ∀ i, i < xs.length → P (xs.getD i d)) : ∀ x ∈ xs, P x := by
  intro x hx
  obtain ⟨i, hi, rfl⟩ := List.getElem_of_mem hx
  have := h i hi
  rwa [List.getD_eq_getElem?_getD, List.getElem?_eq_getElem hi, Option.getD_some] at this
theorem scoresV_in {xs : List Sc} (h : scoresV xs = true) : xs.length ≤ 16 ∧ ∀ x ∈ xs, x.1.length ≤ 40 ∧ -1000000000 ≤ x.2 ∧ x.2 ≤ 1000000000 := by
  unfold scoresV at h
  simp only [Bool.and_eq_true, decide_eq_true_eq, Bool.not_eq_true'] at h
  refine ⟨h.2, getD_mem_iff ([], 0) fun i hi => ?_⟩
  have := anyF_none h.1 i (by omega) (by omega)
  unfold badSc at this
  simp only [Bool.or_eq_false_iff, decide_eq_false_iff_not, Bool.not_eq_false', Bool.and_eq_true, decide_eq_true_eq] at this
  obtain ⟨⟨⟨a, b⟩, _⟩, _⟩ := this
  omega
theorem fieldsV_in {xs : List Pr} (h : fieldsV xs = true) : xs.length ≤ 16 ∧ ∀ x ∈ xs, x.1.length ≤ 40 ∧ x.2.length ≤ 40 := by
  unfold fieldsV at h
  simp only [Bool.and_eq_true, decide_eq_true_eq, Bool.not_eq_true'] at h
  refine ⟨h.2, getD_mem_iff ([], []) fun i hi => ?_⟩
  have := anyF_none h.1 i (by omega) (by omega)
  unfold badPr at this
  simp only [Bool.or_eq_false_iff, decide_eq_false_iff_not] at this
  obtain ⟨⟨a, b⟩, _⟩ := this
  omega
theorem setV_ok {xs : List Txt} (h : setV xs = true) : okTexts xs = true := by
  unfold setV at h
  simp only [Bool.and_eq_true] at h
  exact h.2
structure EnOkS (e : En) : Prop where
  key : 1 ≤ e.key.length ∧ e.key.length ≤ 12
  text : e.text.length ≤ 40
  list : okTexts e.list = true
  scores : scoresV e.scores = true
  fields : fieldsV e.fields = true
  till : 0 ≤ e.till ∧ e.till ≤ 2000000
  kind : 1 ≤ e.kind ∧ e.kind ≤ 5
  set : e.kind = 3 → setV e.list = true
  t1 : e.kind ≠ 1 → e.text = []
  t2 : e.kind ≠ 2 → e.kind ≠ 3 → e.list = []
  t4 : e.kind ≠ 4 → e.scores = []
  t5 : e.kind ≠ 5 → e.fields = []
  n2 : e.kind = 2 ∨ e.kind = 3 → e.list ≠ []
  n4 : e.kind = 4 → e.scores ≠ []
  n5 : e.kind = 5 → e.fields ≠ []
theorem okTexts_nil : okTexts [] = true := by decide
theorem scoresV_nil : scoresV [] = true := by decide
theorem fieldsV_nil : fieldsV [] = true := by decide
theorem enOk_is {e : En} (h : enOk e = true) : EnOkS e := by
  unfold enOk at h
  simp only [Bool.and_eq_true] at h
  obtain ⟨⟨hk, ht⟩, hd⟩ := h
  unfold keyV at hk
  unfold tillV at ht
  simp only [Bool.and_eq_true, decide_eq_true_eq] at hk ht
  have hk1 : 1 ≤ e.key.length ∧ e.key.length ≤ 12 := by omega
  obtain ⟨key, till, kind, text, list, scores, fields⟩ := e
  dsimp only at *
  unfold kindV at hd
  dsimp only at hd
  split at hd
  · rename_i k
    simp only [Bool.and_eq_true, decide_eq_true_eq, List.isEmpty_iff] at hd
    obtain ⟨⟨⟨a, rfl⟩, rfl⟩, rfl⟩ := hd
    subst k
    exact ⟨hk1, a, okTexts_nil, scoresV_nil, fieldsV_nil, ht, by simp, by simp, by simp, by simp, by simp, by simp, by simp, by simp, by simp⟩
  split at hd
  · rename_i k
    simp only [Bool.and_eq_true, Bool.not_eq_true', List.isEmpty_iff, List.isEmpty_eq_false_iff] at hd
    obtain ⟨⟨⟨⟨rfl, a⟩, b⟩, rfl⟩, rfl⟩ := hd
    subst k
    exact ⟨hk1, by simp, b, scoresV_nil, fieldsV_nil, ht, by simp, by simp, by simp, by simp, by simp, by simp, fun _ => a, by simp, by simp⟩
  split at hd
  · rename_i k
    simp only [Bool.and_eq_true, Bool.not_eq_true', List.isEmpty_iff, List.isEmpty_eq_false_iff] at hd
    obtain ⟨⟨⟨⟨rfl, a⟩, b⟩, rfl⟩, rfl⟩ := hd
    subst k
    exact ⟨hk1, by simp, setV_ok b, scoresV_nil, fieldsV_nil, ht, by simp, fun _ => b, by simp, by simp, by simp, by simp, fun _ => a, by simp, by simp⟩
  split at hd
  · rename_i k
    simp only [Bool.and_eq_true, Bool.not_eq_true', List.isEmpty_iff, List.isEmpty_eq_false_iff] at hd
    obtain ⟨⟨⟨⟨rfl, rfl⟩, a⟩, b⟩, rfl⟩ := hd
    subst k
    exact ⟨hk1, by simp, okTexts_nil, b, fieldsV_nil, ht, by simp, by simp, by simp, by simp, by simp, by simp, by simp, fun _ => a, by simp⟩
  split at hd
  · rename_i k
    simp only [Bool.and_eq_true, Bool.not_eq_true', List.isEmpty_iff, List.isEmpty_eq_false_iff] at hd
    obtain ⟨⟨⟨⟨rfl, rfl⟩, rfl⟩, a⟩, b⟩ := hd
    subst k
    exact ⟨hk1, by simp, okTexts_nil, scoresV_nil, b, ht, by simp, by simp, by simp, by simp, by simp, by simp, by simp, by simp, fun _ => a⟩
  · simp at hd
theorem okTexts_le16 {xs : List Txt} (h : okTexts xs = true) : xs.length ≤ 16 := okTexts_le h
theorem EnOkS.q {e : En} (h : EnOkS e) : EnQ e := by
  obtain ⟨h1, h2, h3, h4, h5, h6, h7, _, _, _, _, _, _, _, _⟩ := h
  have a := okTexts_each h3
  have b := okTexts_le16 h3
  have c := scoresV_in h4
  have d := fieldsV_in h5
  refine ⟨by omega, by omega, by omega, fun x hx => ?_, by omega, fun x hx => ?_, by omega, fun x hx => ?_, by omega, by omega⟩
  · have := a x hx; omega
  · have := c.2 x hx; omega
  · have := d.2 x hx; omega
theorem enOk_q {e : En} (h : enOk e = true) : EnQ e := (enOk_is h).q
theorem BaG.sm {b : Ba} (h : BaG b) : BaSm b := ⟨by have := h.len; omega, fun e he => (enOk_q (h.each e he)).sm⟩
theorem BaG.fit {b : Ba} (h : BaG b) : BaFit b := ⟨by have := h.now; exact ⟨by omega, by omega⟩, by have := h.len; omega, fun e he => (enOk_q (h.each e he)).fit⟩
theorem rGet_ok {b : Ba} (h : BaG b) (t : Txt) : enOk (rGet b t) = true ∨ rGet b t = ⟨t, 0, 0, [], [], [], []⟩ := by
  unfold rGet
  split
  · rename_i hh
    exact .inl (h.each _ (getD_in (kHas_lt hh)))
  · exact .inr rfl
theorem rGet_q {b : Ba} (h : BaG b) {t : Txt} (ht : t.length ≤ 1000000) : EnQ (rGet b t) := by
  rcases rGet_ok h t with a | a
  · exact enOk_q a
  · rw [a]
    exact ⟨ht, by simp, by simp, by simp, by simp, by simp, by simp, by simp, by simp, by simp⟩
theorem rDel_g {b : Ba} (h : BaG b) (t : Txt) : BaG (rDel b t) := ⟨Nat.le_trans (rDel_len b t) h.len, fun e he => h.each e (rDel_mem he), by rw [rDel_now]; exact h.now⟩
theorem insAt_mem {α : Type} {xs : List α} {k : Nat} {x y : α} (h : y ∈ insAt xs k x) : y = x ∨ y ∈ xs := by
  unfold insAt at h
  rw [List.mem_append, List.mem_cons] at h
  rcases h with h | h | h
  · exact .inr (List.mem_of_mem_take h)
  · exact .inl h
  · exact .inr (List.mem_of_mem_drop h)
theorem rPutB_g {b : Ba} (h : BaG b) (e : En) : BaG (rPutB b e).1 := by
  unfold rPutB
  split
  · exact rDel_g h e.key
  · split
    · rename_i h1
      unfold mayPut at h1
      simp only [Bool.and_eq_true, decide_eq_true_eq] at h1
      obtain ⟨⟨h1, _⟩, h2⟩ := h1
      refine ⟨?_, fun x hx => ?_, h.now⟩
      · rw [insAt_len]; omega
      · rcases insAt_mem hx with rfl | hx
        · exact h1
        · exact (rDel_g h e.key).each x hx
    · exact h
theorem rKeep_g {b : Ba} (h : BaG b) (e : En) (r : Re) : BaG (rKeep b e r).1 := by
  unfold rKeep
  split
  · exact rPutB_g h e
  · exact h
end Go.Proofs.YtjdmiodinhlchaaGreat.Code
/- Which bases may be: what the reference says, and what the code under test says. -/
namespace Go.Proofs.YtjdmiodinhlchaaGreat.Code
open Go Go.Ev Go.Proofs
set_option maxRecDepth 100000
set_option maxHeartbeats 1000000
set_option linter.unusedSimpArgs false
set_option linter.unusedVariables false
def badE (now : Int) (i : Nat) (p e : En) : Bool := !enOk e || (decide (e.till ≠ 0) && decide (e.till ≤ now)) || (decide (0 < i) && !Op.bytesLess p.key e.key)
def badEn (b : Ba) (i : Nat) : Bool := badE b.now i (b.ents.getD (i - 1) default) (b.ents.getD i default)
def baseOk (b : Ba) : Bool := !anyF (badEn b) b.ents.length 0 && (decide (0 ≤ b.now) && decide (b.now ≤ 1000000) && decide (b.ents.length ≤ 12))
theorem runI_any (p : Nat → Bool) : ∀ (n i : Nat), runI (fun i (_ : Unit) => if p i = true then (.inr () : Unit ⊕ Unit) else .inl ()) n i () = if anyF p n i = true then .inr () else .inl ()
  | 0, i => rfl
  | n + 1, i => by
    simp only [runI, anyF]
    by_cases h : p i = true
    · simp [h]
    · simp only [h, if_false, Bool.false_or]
      exact runI_any p n (i + 1)
theorem badE_ways (now : Int) (i : Nat) (p e : En) {C : Prop} (k1 : enOk e = false → badE now i p e = true → C)
    (k2 : enOk e = true → e.till ≠ 0 → e.till ≤ now → badE now i p e = true → C)
    (k3 : enOk e = true → (e.till = 0 ∨ (e.till ≠ 0 ∧ ¬ e.till ≤ now)) → i = 0 → badE now i p e = false → C)
    (k4 : enOk e = true → (e.till = 0 ∨ (e.till ≠ 0 ∧ ¬ e.till ≤ now)) → 0 < i → (∃ x, Op.bytesLess p.key e.key = x ∧ badE now i p e = !x) → C) : C := by
  unfold badE at *
  by_cases h1 : enOk e = true
  · by_cases h2 : e.till = 0
    · by_cases h4 : i = 0
      · exact k3 h1 (.inl h2) h4 (by simp [h1, h2, h4])
      · exact k4 h1 (.inl h2) (by omega) ⟨_, rfl, by simp [h1, h2, show 0 < i by omega]⟩
    · by_cases h3 : e.till ≤ now
      · exact k2 h1 h2 h3 (by simp [h1, h2, h3])
      · by_cases h4 : i = 0
        · exact k3 h1 (.inr ⟨h2, h3⟩) h4 (by simp [h1, h2, h3, h4])
        · exact k4 h1 (.inr ⟨h2, h3⟩) (by omega) ⟨_, rfl, by simp [h1, h2, h3, show 0 < i by omega]⟩
  · exact k1 (by simpa using h1) (by simp [h1])
theorem badEn_ways (b : Ba) (i : Nat) {C : Prop} (k1 : enOk (b.ents.getD i default) = false → badEn b i = true → C)
    (k2 : enOk (b.ents.getD i default) = true → (b.ents.getD i default).till ≠ 0 → (b.ents.getD i default).till ≤ b.now → badEn b i = true → C)
    (k3 : enOk (b.ents.getD i default) = true → ((b.ents.getD i default).till = 0 ∨ ((b.ents.getD i default).till ≠ 0 ∧ ¬ (b.ents.getD i default).till ≤ b.now)) → i = 0 → badEn b i = false → C)
    (k4 : enOk (b.ents.getD i default) = true → ((b.ents.getD i default).till = 0 ∨ ((b.ents.getD i default).till ≠ 0 ∧ ¬ (b.ents.getD i default).till ≤ b.now)) → 0 < i → (∃ x, Op.bytesLess (b.ents.getD (i - 1) default).key (b.ents.getD i default).key = x ∧ badEn b i = !x) → C) : C :=
  badE_ways _ _ _ _ k1 k2 k3 k4
theorem p_11 (b : Ba) (hf : BaFit b) : pureCall (ev R) 11 [.d (baD b)] = some (.d (.bool (baseOk b))) := pureCall_eq fun H => by
  refine ev_fn (fn := f11) rfl rfl ?_
  have bx : 1 ≤ b.ents.length → 0 ≤ b.ents.length := fun _ => Nat.zero_le _
  have key := loop_run (F := evCode (ev R) R.glob (hlen H) evLoop f11l0) (lv := [1, 3]) (fun i (_ : Unit) => if badEn b i = true then (.inr () : Unit ⊕ Unit) else .inl ()) b.ents.length
    (fun i _ e X => X = ap H [.row 0 2 [.d (baD b)]] ∧ e.get 1 = .ptr (hlen H) 0 0 0 ∧ e.get 3 = .d (.int .i64 i))
    (fun _ o e X => o = .exit 0 ∧ X = ap H [.row 0 2 [.d (baD b)]] ∧ e.get 1 = .ptr (hlen H) 0 0 0) (fun _ o e X => o = .ret ∧ htake X (hlen H) = H ∧ e.get 2 = .d (.bool false))
    (by
      rintro s e X ⟨rfl, g1, g3⟩
      simp [evB, -List.getD_eq_getElem?_getD, -List.map_map, f11l0, g1, g3])
    (by
      rintro i s e X hi ⟨rfl, g1, g3⟩
      have c : (i : Int) < (b.ents.length : Int) := by have := hi; omega
      have g := ents_get b.ents i hi
      have p := pureCall_eq (cl := ev R) fun H => e_31 H (b.ents.getD i default) (hf.each _ (getD_in hi))
      have w1 : IntKind.i64.wrap ((i : Int) + 1) = ((i + 1 : Nat) : Int) := by rw [IntWalk.i64_in _ (by have := hf.len; omega)]; rfl
      refine badEn_ways b i ?_ ?_ ?_ ?_
      · intro h1 hb
        rw [hb]
        rw [h1] at p
        simp [evB, -List.getD_eq_getElem?_getD, -List.map_map, f11l0, g1, g3, c, hi, g, p]
      · intro h1 h2 h3 hb
        rw [hb]
        rw [h1] at p
        simp [evB, -List.getD_eq_getElem?_getD, -List.map_map, f11l0, g1, g3, c, hi, g, p, h2, h3]
      · intro h1 h2 h4 hb
        rw [hb]
        rw [h1] at p
        have c4 : ¬ (0 : Int) < (i : Int) := by omega
        have c5 : ¬ 0 < i := by omega
        have c6 := eq_true h4
        rcases h2 with h2 | ⟨h2, h3⟩
        · have h2 := eq_true h2
          simp [evB, -List.getD_eq_getElem?_getD, -List.map_map, f11l0, g1, g3, c, c4, c5, c6, hi, g, p, h2, w1]
        · simp [evB, -List.getD_eq_getElem?_getD, -List.map_map, f11l0, g1, g3, c, c4, c5, c6, hi, g, p, h2, h3, w1]
      · rintro h1 h2 h4 ⟨x, hx, hb⟩
        rw [hb]
        rw [h1] at p
        have w2 : IntKind.i64.wrap ((i : Int) - 1) = ((i - 1 : Nat) : Int) := by rw [IntWalk.i64_in _ (by have := hf.len; omega)]; omega
        have gp := ents_get b.ents (i - 1) (by omega)
        have c3 : i - 1 < b.ents.length := by omega
        have c4 : (0 : Int) < (i : Int) := by omega
        have c7 : ¬ i = 0 := by omega
        cases x <;> rcases h2 with h2 | ⟨h2, h3⟩
        · have h2 := eq_true h2
          simp [evB, -List.getD_eq_getElem?_getD, -List.map_map, f11l0, g1, g3, c, c3, c4, c7, h4, hi, g, gp, p, h2, w2, hx]
        · simp [evB, -List.getD_eq_getElem?_getD, -List.map_map, f11l0, g1, g3, c, c3, c4, c7, h4, hi, g, gp, p, h2, h3, w2, hx]
        · have h2 := eq_true h2
          simp [evB, -List.getD_eq_getElem?_getD, -List.map_map, f11l0, g1, g3, c, c3, c4, c7, h4, hi, g, gp, p, h2, w1, w2, hx]
        · simp [evB, -List.getD_eq_getElem?_getD, -List.map_map, f11l0, g1, g3, c, c3, c4, h4, hi, g, gp, p, h2, h3, w1, w2, hx])
    b.ents.length 0 () [(1, .ptr (hlen H) 0 0 0), (3, .d (.int .i64 0))] (ap H [.row 0 2 [.d (baD b)]]) (by omega) ⟨rfl, rfl, rfl⟩
  rw [runI_any] at key
  obtain ⟨o, e', X', he, hq⟩ := key.out
  have p1 := p_32 b.now 0 1000000
  unfold baseOk
  by_cases h : anyF (badEn b) b.ents.length 0 = true
  · rw [if_pos h] at hq
    obtain ⟨rfl, tk, g2⟩ := hq
    simp [evB, -List.getD_eq_getElem?_getD, -List.map_map, f11, he, tk, g2, h]
  · rw [if_neg h] at hq
    obtain ⟨rfl, rfl, g1⟩ := hq
    obtain ⟨x, hx⟩ : ∃ x, (decide (b.now ≥ 0) && decide (b.now ≤ 1000000)) = x := ⟨_, rfl⟩
    rw [hx] at p1
    have hx' : (decide (0 ≤ b.now) && decide (b.now ≤ 1000000)) = x := hx
    rw [hx']
    cases x
    · simp [evB, -List.getD_eq_getElem?_getD, -List.map_map, f11, he, g1, h, p1]
    · by_cases n2 : b.ents.length ≤ 12
      · have n3 : (b.ents.length : Int) ≤ 12 := by omega
        simp [evB, -List.getD_eq_getElem?_getD, -List.map_map, f11, he, g1, h, p1, n2, n3]
      · have n3 : ¬ (b.ents.length : Int) ≤ 12 := by omega
        simp [evB, -List.getD_eq_getElem?_getD, -List.map_map, f11, he, g1, h, p1, n2, n3]
theorem p_18 (b : Ba) (hf : BaFit b) : pureCall (ev R) 18 [.d (baD b)] = some (.d (.bool (baseOk b))) := pureCall_eq fun H => by
  refine ev_fn (fn := f18) rfl rfl ?_
  have key := loop_run (F := evCode (ev R) R.glob (hlen H) evLoop f18l0) (lv := [1, 16, 17, 18]) (fun i (_ : Unit) => if badEn b i = true then (.inr () : Unit ⊕ Unit) else .inl ()) b.ents.length
    (fun i _ e X => X = ap H [.row 0 2 [.d (baD b)]] ∧ e.get 1 = .ptr (hlen H) 0 0 0 ∧ e.get 16 = .d (entsD b.ents) ∧ e.get 17 = .d (.int .i64 b.ents.length) ∧ e.get 18 = .d (.int .i64 i))
    (fun _ o e X => o = .exit 0 ∧ X = ap H [.row 0 2 [.d (baD b)]]) (fun _ o e X => o = .ret ∧ htake X (hlen H) = H ∧ e.get 2 = .d (.bool false))
    (by
      rintro s e X ⟨rfl, g1, g16, g17, g18⟩
      simp [evB, -List.getD_eq_getElem?_getD, -List.map_map, f18l0, g1, g16, g17, g18])
    (by
      rintro i s e X hi ⟨rfl, g1, g16, g17, g18⟩
      have c : (i : Int) < (b.ents.length : Int) := by have := hi; omega
      have g := ents_get b.ents i hi
      have p := pureCall_eq (cl := ev R) fun H => e_41 H (b.ents.getD i default) (hf.each _ (getD_in hi))
      have w1 : IntKind.i64.wrap ((i : Int) + 1) = ((i + 1 : Nat) : Int) := by rw [IntWalk.i64_in _ (by have := hf.len; omega)]; rfl
      have w2 : 0 < i → IntKind.i64.wrap ((i : Int) - 1) = ((i - 1 : Nat) : Int) := fun h4 => by rw [IntWalk.i64_in _ (by have := hf.len; omega)]; omega
      have gp := fun h : 0 < i => ents_get b.ents (i - 1) (by omega)
      unfold badEn
      by_cases h1 : enOk (b.ents.getD i default) = true
      · rw [h1] at p
        by_cases h4 : 0 < i
        · have w2 := w2 h4
          have gp := gp h4
          have c3 : i - 1 < b.ents.length := by omega
          have c4 : (0 : Int) < (i : Int) := by omega
          have c7 : ¬ i = 0 := by omega
          generalize b.ents.getD i default = E at *
          generalize b.ents.getD (i - 1) default = E0 at *
          unfold badE
          rw [h1]
          obtain ⟨x, hx⟩ : ∃ x, Op.bytesLess E0.key E.key = x := ⟨_, rfl⟩
          cases x
          · simp [evB, -List.getD_eq_getElem?_getD, -List.map_map, f18l0, g1, g16, g17, g18, c, c3, c4, c7, h4, hi, g, gp, p, w2, hx]
          · by_cases h2 : E.till = 0
            · have h2 := eq_true h2
              simp [evB, -List.getD_eq_getElem?_getD, -List.map_map, f18l0, g1, g16, g17, g18, c, c3, c4, c7, h4, hi, g, gp, p, h2, w1, w2, hx]
            · by_cases h3 : E.till ≤ b.now
              · simp [evB, -List.getD_eq_getElem?_getD, -List.map_map, f18l0, g1, g16, g17, g18, c, c3, c4, c7, h4, hi, g, gp, p, h2, h3, w1, w2, hx]
              · simp [evB, -List.getD_eq_getElem?_getD, -List.map_map, f18l0, g1, g16, g17, g18, c, c3, c4, c7, h4, hi, g, gp, p, h2, h3, w1, w2, hx]
        · have c4 : ¬ (0 : Int) < (i : Int) := by omega
          have c6 : (i = 0) = True := eq_true (by omega)
          generalize b.ents.getD i default = E at *
          generalize b.ents.getD (i - 1) default = E0 at *
          unfold badE
          rw [h1]
          by_cases h2 : E.till = 0
          · have h2 := eq_true h2
            simp [evB, -List.getD_eq_getElem?_getD, -List.map_map, f18l0, g1, g16, g17, g18, c, c4, c6, h4, hi, g, p, h2, w1]
          · by_cases h3 : E.till ≤ b.now
            · simp [evB, -List.getD_eq_getElem?_getD, -List.map_map, f18l0, g1, g16, g17, g18, c, c4, c6, h4, hi, g, p, h2, h3, w1]
            · simp [evB, -List.getD_eq_getElem?_getD, -List.map_map, f18l0, g1, g16, g17, g18, c, c4, c6, h4, hi, g, p, h2, h3, w1]
      · rw [Bool.not_eq_true] at h1
        rw [h1] at p
        generalize b.ents.getD i default = E at *
        unfold badE
        rw [h1]
        simp [evB, -List.getD_eq_getElem?_getD, -List.map_map, f18l0, g1, g16, g17, g18, c, hi, g, p])
    b.ents.length 0 () [(1, .ptr (hlen H) 0 0 0), (16, .d (entsD b.ents)), (17, .d (.int .i64 b.ents.length)), (18, .d (.int .i64 0))] (ap H [.row 0 2 [.d (baD b)]]) (by omega) ⟨rfl, rfl, rfl, rfl, rfl⟩
  rw [runI_any] at key
  obtain ⟨o, e', X', he, hq⟩ := key.out
  have p1 := p_40 b.now 0 1000000
  unfold baseOk
  obtain ⟨x, hx⟩ : ∃ x, (decide (b.now ≥ 0) && decide (b.now ≤ 1000000)) = x := ⟨_, rfl⟩
  rw [hx] at p1
  have hx' : (decide (0 ≤ b.now) && decide (b.now ≤ 1000000)) = x := hx
  rw [hx']
  cases x
  · simp [evB, -List.getD_eq_getElem?_getD, -List.map_map, f18, p1]
  · by_cases n2 : b.ents.length ≤ 12
    · have n3 : ¬ (12 : Int) < (b.ents.length : Int) := by omega
      have n4 : ¬ 12 < b.ents.length := by omega
      by_cases h : anyF (badEn b) b.ents.length 0 = true
      · rw [if_pos h] at hq
        obtain ⟨rfl, tk, g2⟩ := hq
        simp [evB, -List.getD_eq_getElem?_getD, -List.map_map, f18, p1, n2, n3, n4, he, tk, g2, h]
      · rw [if_neg h] at hq
        obtain ⟨rfl, rfl⟩ := hq
        simp [evB, -List.getD_eq_getElem?_getD, -List.map_map, f18, p1, n2, n3, n4, he, h]
    · have n3 : (12 : Int) < (b.ents.length : Int) := by omega
      have n4 : 12 < b.ents.length := by omega
      simp [evB, -List.getD_eq_getElem?_getD, -List.map_map, f18, p1, n2, n3, n4]
end Go.Proofs.YtjdmiodinhlchaaGreat.Code
/- The reference: time passes. -/
namespace Go.Proofs.YtjdmiodinhlchaaGreat.Code
open Go Go.Ev Go.Proofs
set_option maxRecDepth 100000
set_option maxHeartbeats 2000000
set_option linter.unusedSimpArgs false
set_option linter.unusedVariables false
def stays (now : Int) (e : En) : Bool := decide (e.till = 0) || decide (now < e.till)
def rTick (b : Ba) (n : Int) : Ba := ⟨b.now + n, b.ents.filter (stays (b.now + n))⟩
def vTick (b : Ba) (n : Int) : Ba := if baseOk b = true then (if 0 ≤ n ∧ n ≤ 1000000 - b.now then rTick b n else b) else ⟨0, []⟩
theorem p_37 (b : Ba) (n : Int) (hb : BaSm b) (h1 : -1000000000 ≤ b.now ∧ b.now ≤ 1000000000) (h2 : -1000000000 ≤ n ∧ n ≤ 1000000000) : pureCall (ev R) 37 [.d (baD b), .d (.int .i64 n)] = some (.d (baD (rTick b n))) := pureCall_eq fun H => by
  refine ev_fn (fn := f37) rfl rfl ?_
  have hbl := hb.len
  unfold rTick
  obtain ⟨N, hN⟩ : ∃ N, b.now + n = N := ⟨_, rfl⟩
  have w : IntKind.i64.wrap (b.now + n) = N := by rw [IntWalk.i64_in _ (by omega), hN]
  rw [hN]
  obtain ⟨o, e', X', he, rfl, rfl, g4, g5⟩ := (loop_keep (F := evCode (ev R) R.glob (hlen H) evLoop f37l0) (lv := [2, 4, 5, 6]) b.ents.length
    (fun i e X => X = ap H (cpH b N ((b.ents.take i).filter (stays N)) H) ∧ e.get 2 = .ptr (hlen H) 0 0 0 ∧ e.get 4 = .ptr (hlen H + 1) 0 0 0 ∧ e.get 5 = .ptr (hlen H + 2) 0 0 0 ∧ e.get 6 = .d (.int .i64 i))
    (fun o e X => o = .exit 0 ∧ X = ap H (cpH b N (b.ents.filter (stays N)) H) ∧ e.get 4 = .ptr (hlen H + 1) 0 0 0 ∧ e.get 5 = .ptr (hlen H + 2) 0 0 0)
    (by
      rintro e X ⟨rfl, g2, g4, g5, g6⟩
      rw [List.take_length]
      cases hz : b.ents.filter (stays N) with
      | nil => simp (maxSteps := 1000000) [evL, -List.getD_eq_getElem?_getD, -List.map_map, f37l0, g2, g4, g5, g6, cpH]
      | cons z r => simp (maxSteps := 1000000) [evL, -List.getD_eq_getElem?_getD, -List.map_map, f37l0, g2, g4, g5, g6, cpH])
    (by
      rintro i e X hi ⟨rfl, g2, g4, g5, g6⟩
      have c : (i : Int) < (b.ents.length : Int) := by omega
      have c0 : (0 : Int) ≤ (i : Int) := by omega
      have g := ents_get b.ents i hi
      have p := p_63 (b.ents.getD i default) (hb.each _ (getD_in hi))
      have w1 : IntKind.i64.wrap ((i : Int) + 1) = (i : Int) + 1 := IntWalk.i64_in _ (by omega)
      rw [take_fil _ b.ents i default hi]
      have hl := fil_len (stays N) b.ents i hi
      have hs : stays N (b.ents.getD i default) = (decide ((b.ents.getD i default).till = 0) || decide (N < (b.ents.getD i default).till)) := rfl
      generalize b.ents.getD i default = x at *
      generalize (b.ents.take i).filter (stays N) = zs at *
      by_cases k : x.till = 0
      · have hs : stays N x = true := by rw [hs]; simp [k]
        rw [hs]
        simp only [if_true]
        cases zs with
        | nil => simp (maxSteps := 1000000) [evL, -List.getD_eq_getElem?_getD, -List.map_map, f37l0, g2, g4, g5, g6, c, c0, hi, g, p, w1, cpH, room, eq_true k]
        | cons z r =>
          have rm : (r.length + 1 + 1) * 120 ≤ room := by simp only [List.length_cons] at hl; unfold room; omega
          simp (maxSteps := 1000000) [evL, -List.getD_eq_getElem?_getD, -List.map_map, f37l0, g2, g4, g5, g6, c, c0, hi, g, p, w1, cpH, rm, eq_true k]
      · by_cases j : N < x.till
        · have hs : stays N x = true := by rw [hs]; simp [j]
          rw [hs]
          simp only [if_true]
          cases zs with
          | nil => simp (maxSteps := 1000000) [evL, -List.getD_eq_getElem?_getD, -List.map_map, f37l0, g2, g4, g5, g6, c, c0, hi, g, p, w1, cpH, room, eq_false k, eq_true j]
          | cons z r =>
            have rm : (r.length + 1 + 1) * 120 ≤ room := by simp only [List.length_cons] at hl; unfold room; omega
            simp (maxSteps := 1000000) [evL, -List.getD_eq_getElem?_getD, -List.map_map, f37l0, g2, g4, g5, g6, c, c0, hi, g, p, w1, cpH, rm, eq_false k, eq_true j]
        · have hs : stays N x = false := by rw [hs]; simp [k, j]
          rw [hs]
          simp only [Bool.false_eq_true, if_false, List.append_nil]
          cases zs with
          | nil => simp (maxSteps := 1000000) [evL, -List.getD_eq_getElem?_getD, -List.map_map, f37l0, g2, g4, g5, g6, c, c0, hi, g, w1, cpH, eq_false k, eq_false j]
          | cons z r => simp (maxSteps := 1000000) [evL, -List.getD_eq_getElem?_getD, -List.map_map, f37l0, g2, g4, g5, g6, c, c0, hi, g, w1, cpH, eq_false k, eq_false j])
    b.ents.length 0 [(2, .ptr (hlen H) 0 0 0), (4, .ptr (hlen H + 1) 0 0 0), (5, .ptr (hlen H + 2) 0 0 0), (6, .d (.int .i64 0))] (ap H (cpH b N [] H)) (by omega) ⟨rfl, rfl, rfl, rfl, rfl⟩).out
  cases hz : b.ents.filter (stays N) with
  | nil =>
    rw [hz] at he
    simp only [cpH] at he
    simp (maxSteps := 1000000) [evL, -List.getD_eq_getElem?_getD, -List.map_map, f37, w, he, g4, g5, baD_fold0, hz, cpH]
  | cons z r =>
    rw [hz] at he
    simp only [cpH] at he
    simp (maxSteps := 1000000) [evL, -List.getD_eq_getElem?_getD, -List.map_map, f37, w, he, g4, g5, hz, cpH]
    rfl
theorem rTick_g {b : Ba} (h : BaG b) {n : Int} (h2 : 0 ≤ b.now + n ∧ b.now + n ≤ 2000000) : BaG (rTick b n) :=
  ⟨Nat.le_trans (List.length_filter_le _ _) h.len, fun e he => h.each e (List.mem_filter.1 he).1, h2⟩
theorem vTick_g {b : Ba} (h : BaG b) (n : Int) : BaG (vTick b n) := by
  unfold vTick
  split
  · split
    · exact rTick_g h (by have := h.now; omega)
    · exact h
  · exact ⟨by simp, by simp, by simp⟩
theorem p_16 (b : Ba) (n : Int) (hb : BaSm b) (hf : BaFit b) (h1 : -1000000000 ≤ b.now ∧ b.now ≤ 1000000000) (h2 : -1000000000 ≤ n ∧ n ≤ 1000000000) : pureCall (ev R) 16 [.d (baD b), .d (.int .i64 n)] = some (.d (baD (vTick b n))) := pureCall_eq fun H => by
  refine ev_fn (fn := f16) rfl rfl ?_
  have p0 := e_36 b hb.len hb.each
  have z0 := z_36 b
  have t0 := t_36 b
  have p1 := p_11 b hf
  have p2 := p_32 n 0 (1000000 - b.now)
  have p3 := p_37 b n hb h1 h2
  have w : IntKind.i64.wrap (1000000 - b.now) = 1000000 - b.now := IntWalk.i64_in _ (by omega)
  unfold vTick
  generalize rTick b n = T at *
  cases hk : baseOk b with
  | false => rw [hk] at p1; simp (maxSteps := 1000000) [evL, -List.getD_eq_getElem?_getD, -List.map_map, f16, p1, baD_fold0]
  | true =>
    rw [hk] at p1
    by_cases a : 0 ≤ n
    · by_cases c : n ≤ 1000000 - b.now
      · simp (maxSteps := 1000000) [evL, -List.getD_eq_getElem?_getD, -List.map_map, f16, p0, ↓z0, ↓t0, p1, p2, p3, w, eq_true a, eq_true c]
      · simp (maxSteps := 1000000) [evL, -List.getD_eq_getElem?_getD, -List.map_map, f16, p0, ↓z0, ↓t0, p1, p2, p3, w, eq_true a, eq_false c]
    · simp (maxSteps := 1000000) [evL, -List.getD_eq_getElem?_getD, -List.map_map, f16, p0, ↓z0, ↓t0, p1, p2, p3, w, eq_false a]
end Go.Proofs.YtjdmiodinhlchaaGreat.Code
/- When a base is as it should be, said of all its entries. -/
namespace Go.Proofs.YtjdmiodinhlchaaGreat.Code
open Go Go.Ev Go.Proofs
set_option maxRecDepth 100000
set_option maxHeartbeats 2000000
set_option linter.unusedSimpArgs false
set_option linter.unusedVariables false
theorem less_lt : ∀ (x y : Txt), Op.bytesLess x y = decide (x < y)
  | [], [] => by decide
  | [], _ :: _ => by simp [Op.bytesLess]
  | _ :: _, [] => by simp [Op.bytesLess]
  | a :: x, c :: y => by
    simp only [Op.bytesLess, less_lt x y, List.cons_lt_cons_iff]
    by_cases h1 : a < c
    · simp [h1]
    · by_cases h2 : a = c
      · subst h2; simp
      · simp [h1, h2]
theorem less_trans {x y z : Txt} (h1 : Op.bytesLess x y = true) (h2 : Op.bytesLess y z = true) : Op.bytesLess x z = true := by
  rw [less_lt, decide_eq_true_eq] at *
  exact List.lt_trans h1 h2
def fresh (now : Int) (e : En) : Prop := e.till = 0 ∨ now < e.till
structure BaO (b : Ba) : Prop where
  now : 0 ≤ b.now ∧ b.now ≤ 1000000
  len : b.ents.length ≤ 12
  each : ∀ e ∈ b.ents, enOk e = true ∧ fresh b.now e
  asc : b.ents.Pairwise fun a c => Op.bytesLess a.key c.key = true
theorem chain_pair : ∀ (es : List En), (∀ i, 0 < i → i < es.length → Op.bytesLess (es.getD (i - 1) default).key (es.getD i default).key = true) → es.Pairwise fun a c => Op.bytesLess a.key c.key = true
  | [], _ => List.Pairwise.nil
  | [x], _ => List.pairwise_singleton _ _
  | x :: y :: r, h => by
    have ih := chain_pair (y :: r) fun i h1 h2 => by
      have := h (i + 1) (by omega) (by simp only [List.length_cons] at h2 ⊢; omega)
      have e1 : (x :: y :: r).getD (i + 1 - 1) default = (y :: r).getD (i - 1) default := by
        obtain ⟨j, rfl⟩ : ∃ j, i = j + 1 := ⟨i - 1, by omega⟩
        rfl
      rw [e1] at this
      exact this
    have hxy : Op.bytesLess x.key y.key = true := h 1 (by omega) (by simp)
    refine List.Pairwise.cons (fun z hz => ?_) ih
    rcases List.mem_cons.1 hz with rfl | hz
    · exact hxy
    · exact less_trans hxy (List.rel_of_pairwise_cons ih hz)
theorem pair_chain {es : List En} (h : es.Pairwise fun a c => Op.bytesLess a.key c.key = true) (i : Nat) (h0 : 0 < i) (hi : i < es.length) : Op.bytesLess (es.getD (i - 1) default).key (es.getD i default).key = true := by
  have := (List.pairwise_iff_getElem.1 h) (i - 1) i (by omega) hi (by omega)
  simpa [List.getD_eq_getElem?_getD, List.getElem?_eq_getElem hi, List.getElem?_eq_getElem (show i - 1 < es.length by omega)] using this
theorem baseOk_iff (b : Ba) : baseOk b = true ↔ BaO b := by
  unfold baseOk
  simp only [Bool.and_eq_true, Bool.not_eq_true', decide_eq_true_eq]
  constructor
  · rintro ⟨h1, ⟨h2, h3⟩, h4⟩
    have hb := fun i (hi : i < b.ents.length) => anyF_none h1 i (Nat.zero_le i) (by omega)
    refine ⟨⟨h2, h3⟩, h4, getD_mem_iff default fun i hi => ?_, chain_pair _ fun i h0 hi => ?_⟩
    · have := hb i hi
      unfold badEn badE at this
      simp only [Bool.or_eq_false_iff, Bool.not_eq_false', Bool.and_eq_false_iff, decide_eq_false_iff_not] at this
      refine ⟨this.1.1, ?_⟩
      unfold fresh
      rcases this.1.2 with h | h
      · exact .inl (Decidable.not_not.1 h)
      · exact .inr (by omega)
    · have := hb i hi
      unfold badEn badE at this
      simp only [Bool.or_eq_false_iff, Bool.not_eq_false', Bool.and_eq_false_iff, decide_eq_false_iff_not] at this
      rcases this.2 with h | h
      · omega
      · exact h
  · intro h
    refine ⟨anyF_mk fun i _ hi => ?_, h.now, h.len⟩
    have hi : i < b.ents.length := by omega
    have he := h.each _ (getD_in hi : b.ents.getD i default ∈ b.ents)
    unfold badEn badE
    rw [he.1]
    have h2 : (decide ((b.ents.getD i default).till ≠ 0) && decide ((b.ents.getD i default).till ≤ b.now)) = false := by
      rw [Bool.and_eq_false_iff, decide_eq_false_iff_not, decide_eq_false_iff_not]
      rcases he.2 with h | h
      · exact .inl (fun hn => hn h)
      · exact .inr (by omega)
    rw [h2]
    by_cases h0 : 0 < i
    · rw [pair_chain h.asc i h0 hi]; simp
    · simp [h0]
theorem BaO.g {b : Ba} (h : BaO b) : BaG b := ⟨h.len, fun e he => (h.each e he).1, by have := h.now; omega⟩
theorem stays_iff (n : Int) (e : En) : stays n e = true ↔ fresh n e := by
  unfold stays fresh
  rw [Bool.or_eq_true, decide_eq_true_eq, decide_eq_true_eq]
theorem rTick_o {b : Ba} (h : BaO b) {n : Int} (h0 : 0 ≤ n) (h1 : n ≤ 1000000 - b.now) : BaO (rTick b n) := by
  refine ⟨by have := h.now; show 0 ≤ b.now + n ∧ b.now + n ≤ 1000000; omega, Nat.le_trans (List.length_filter_le _ _) h.len, fun e he => ?_, h.asc.filter _⟩
  have := List.mem_filter.1 he
  exact ⟨(h.each e this.1).1, (stays_iff _ _).1 this.2⟩
theorem rTick_tick (b : Ba) {m n : Int} (h0 : 0 ≤ n) : rTick (rTick b m) n = rTick b (m + n) := by
  unfold rTick
  have e1 : b.now + m + n = b.now + (m + n) := by omega
  dsimp only
  rw [e1, List.filter_filter]
  congr 1
  apply List.filter_congr
  intro e _
  unfold stays
  by_cases a : e.till = 0
  · simp [a]
  · by_cases c : b.now + (m + n) < e.till
    · have : b.now + m < e.till := by omega
      simp [a, c, this]
    · simp [a, c]
end Go.Proofs.YtjdmiodinhlchaaGreat.Code
/- Copies, and time: the code under test. -/
namespace Go.Proofs.YtjdmiodinhlchaaGreat.Code
open Go Go.Ev Go.Proofs
set_option maxRecDepth 100000
set_option maxHeartbeats 4000000
set_option linter.unusedSimpArgs false
set_option linter.unusedVariables false
theorem e_60 (H : Hp) (xs : List Txt) (hx : xs.length ≤ 1000000) : ev R 60 [.d (txts xs)] H = some (.slc (hlen H) 0 0 xs.length, ap H [.row 0 1 ((xs.map D.str).map V.d)]) := by
  refine ev_fn (fn := f60) rfl rfl ?_
  have r : xs.length * 16 ≤ room := by unfold room; omega
  simp [evC, -List.getD_eq_getElem?_getD, -List.map_map, f60, txts, r, evO]
theorem p_60 (xs : List Txt) (hx : xs.length ≤ 1000000) : pureFCall (ev R) 60 [.d (txts xs)] = some (.d (txts xs)) := by
  refine pureFCall_eq fun H => ⟨_, _, e_60 H xs hx, ?_, ap_take H _⟩
  simp [evC, -List.getD_eq_getElem?_getD, -List.map_map, txts]
theorem p_60n (xs : List Txt) (hx : xs.length ≤ 1000000) : pureCall (ev R) 60 [.d (txts xs)] = none := by
  cases h : pureCall (ev R) 60 [.d (txts xs)] with
  | none => rfl
  | some v =>
    have h1 := pureCall_some h []
    rw [e_60 [] xs hx] at h1
    simp [ap] at h1
theorem e_61 (H : Hp) (xs : List Sc) (hx : xs.length ≤ 1000000) : ev R 61 [.d (scs xs)] H = some (.slc (hlen H) 0 0 xs.length, ap H [.row 0 2 ((xs.map scD).map V.d)]) := by
  refine ev_fn (fn := f61) rfl rfl ?_
  have r : xs.length * 24 ≤ room := by unfold room; omega
  simp [evC, -List.getD_eq_getElem?_getD, -List.map_map, f61, r, evO]
theorem p_61 (xs : List Sc) (hx : xs.length ≤ 1000000) : pureFCall (ev R) 61 [.d (scs xs)] = some (.d (scs xs)) := by
  refine pureFCall_eq fun H => ⟨_, _, e_61 H xs hx, ?_, ap_take H _⟩
  simp [evC, -List.getD_eq_getElem?_getD, -List.map_map]
theorem p_61n (xs : List Sc) (hx : xs.length ≤ 1000000) : pureCall (ev R) 61 [.d (scs xs)] = none := by
  cases h : pureCall (ev R) 61 [.d (scs xs)] with
  | none => rfl
  | some v =>
    have h1 := pureCall_some h []
    rw [e_61 [] xs hx] at h1
    simp [ap] at h1
theorem e_62 (H : Hp) (xs : List Pr) (hx : xs.length ≤ 1000000) : ev R 62 [.d (prs xs)] H = some (.slc (hlen H) 0 0 xs.length, ap H [.row 0 2 ((xs.map prD).map V.d)]) := by
  refine ev_fn (fn := f62) rfl rfl ?_
  have r : xs.length * 32 ≤ room := by unfold room; omega
  simp [evC, -List.getD_eq_getElem?_getD, -List.map_map, f62, r, evO]
theorem p_62 (xs : List Pr) (hx : xs.length ≤ 1000000) : pureFCall (ev R) 62 [.d (prs xs)] = some (.d (prs xs)) := by
  refine pureFCall_eq fun H => ⟨_, _, e_62 H xs hx, ?_, ap_take H _⟩
  simp [evC, -List.getD_eq_getElem?_getD, -List.map_map]
theorem p_62n (xs : List Pr) (hx : xs.length ≤ 1000000) : pureCall (ev R) 62 [.d (prs xs)] = none := by
  cases h : pureCall (ev R) 62 [.d (prs xs)] with
  | none => rfl
  | some v =>
    have h1 := pureCall_some h []
    rw [e_62 [] xs hx] at h1
    simp [ap] at h1
theorem p_35 (e : En) (h : EnSm e) : pureCall (ev R) 35 [.d (enD e)] = some (.d (enD e)) := pureCall_eq fun H => by
  refine ev_fn (fn := f35) rfl rfl ?_
  obtain ⟨key, till, kind, text, list, scores, fields⟩ := e
  obtain ⟨h1, h2, h3⟩ := h
  dsimp only at h1 h2 h3
  have a1 := p_60 list h1
  have a2 := p_60n list h1
  have b1 := p_61 scores h2
  have b2 := p_61n scores h2
  have c1 := p_62 fields h3
  have c2 := p_62n fields h3
  simp [evC, -List.getD_eq_getElem?_getD, -List.map_map, f35, a1, a2, b1, b2, c1, c2, txts]
def cbH (b : Ba) (n : Int) (zs : List En) (H : Hp) : Hp :=
  [.row 0 2 [.d (baD b)], .row 0 2 [.agg [.d (.int .i64 0), .nils 7]], .row zs.length 7 ((zs.map enD).map V.d), .row 0 2 [.agg [.d (.int .i64 n), .slc (hlen H + 2) zs.length 0 zs.length]]]
theorem e_34 (b : Ba) (hb : b.ents.length ≤ 1000000) (h : ∀ e ∈ b.ents, EnSm e) (H : Hp) : ev R 34 [.d (baD b)] H = some (.agg [.d (.int .i64 b.now), .slc (hlen H) 0 0 b.ents.length], ap H [.row 0 7 ((b.ents.map enD).map V.d)]) := by
  refine ev_fn (fn := f34) rfl rfl ?_
  obtain ⟨o, e', X', he, rfl, rfl, g2, g3⟩ := (loop_keep (F := evCode (ev R) R.glob (hlen H) evLoop f34l0) (lv := [2, 3, 11, 12, 13]) b.ents.length
    (fun i e X => X = ap H (cbH b b.now (b.ents.take i) H) ∧ e.get 2 = .ptr (hlen H + 1) 0 0 0 ∧ e.get 3 = .ptr (hlen H + 3) 0 0 0 ∧ e.get 11 = .d (entsD b.ents) ∧ e.get 12 = .d (.int .i64 b.ents.length) ∧ e.get 13 = .d (.int .i64 i))
    (fun o e X => o = .exit 0 ∧ X = ap H (cbH b b.now b.ents H) ∧ e.get 2 = .ptr (hlen H + 1) 0 0 0 ∧ e.get 3 = .ptr (hlen H + 3) 0 0 0)
    (by
      rintro e X ⟨rfl, g2, g3, g11, g12, g13⟩
      rw [List.take_length]
      simp (maxSteps := 1000000) [evL, -List.getD_eq_getElem?_getD, -List.map_map, f34l0, g2, g3, g11, g12, g13, cbH])
    (by
      rintro i e X hi ⟨rfl, g2, g3, g11, g12, g13⟩
      have c : (i : Int) < (b.ents.length : Int) := by omega
      have c0 : (0 : Int) ≤ (i : Int) := by omega
      have g := ents_get b.ents i hi
      have p := p_35 (b.ents.getD i default) (h _ (getD_in hi))
      have w1 : IntKind.i64.wrap ((i : Int) + 1) = (i : Int) + 1 := IntWalk.i64_in _ (by omega)
      have hs := take_snoc' b.ents i default hi
      have hl : (b.ents.take i).length = i := by rw [List.length_take]; omega
      have hl2 : (b.ents.take (i + 1)).length = i + 1 := by rw [List.length_take]; omega
      have sf : List.map V.d (List.map enD (b.ents.take i)) ++ [V.d (enD (b.ents.getD i default))] = List.map V.d (List.map enD (b.ents.take (i + 1))) := by rw [hs]; simp
      clear hs
      generalize b.ents.getD i default = x at *
      generalize b.ents.take i = zs at *
      generalize b.ents.take (i + 1) = ys at *
      have rm : (i + 1) * 120 ≤ room := by unfold room; omega
      simp (maxSteps := 1000000) [evL, -List.getD_eq_getElem?_getD, -List.map_map, f34l0, g2, g3, g11, g12, g13, c, c0, hi, g, p, w1, cbH, rm, hl, hl2, sf])
    b.ents.length 0 [(2, .ptr (hlen H + 1) 0 0 0), (3, .ptr (hlen H + 3) 0 0 0), (11, .d (entsD b.ents)), (12, .d (.int .i64 b.ents.length)), (13, .d (.int .i64 0))] (ap H (cbH b b.now [] H)) (by omega) ⟨rfl, rfl, rfl, rfl, rfl, rfl⟩).out
  simp only [cbH, List.map_nil, List.length_nil] at he
  simp (maxSteps := 1000000) [evL, -List.getD_eq_getElem?_getD, -List.map_map, f34, he, g2, g3, evO]
theorem p_34 (b : Ba) (hb : BaSm b) : pureFCall (ev R) 34 [.d (baD b)] = some (.d (baD b)) := by
  refine pureFCall_eq fun H => ⟨_, _, e_34 b hb.len hb.each H, ?_, ap_take H _⟩
  simp [evC, -List.getD_eq_getElem?_getD, -List.map_map]
theorem p_34n (b : Ba) (hb : BaSm b) : pureCall (ev R) 34 [.d (baD b)] = none := by
  cases h : pureCall (ev R) 34 [.d (baD b)] with
  | none => rfl
  | some v =>
    have h1 := pureCall_some h []
    rw [e_34 b hb.len hb.each []] at h1
    simp [ap] at h1
theorem p_14 (b : Ba) (n : Int) (hb : BaSm b) (hf : BaFit b) (h1 : -1000000000 ≤ b.now ∧ b.now ≤ 1000000000) (h2 : -1000000000 ≤ n ∧ n ≤ 1000000000) : pureCall (ev R) 14 [.d (baD b), .d (.int .i64 n)] = some (.d (baD (vTick b n))) := pureCall_eq fun H => by
  refine ev_fn (fn := f14) rfl rfl ?_
  have p0 := p_34 b hb
  have p0n := p_34n b hb
  have p1 := p_18 b hf
  have hbl := hb.len
  have w : IntKind.i64.wrap (1000000 - b.now) = 1000000 - b.now := IntWalk.i64_in _ (by omega)
  unfold vTick
  cases hk : baseOk b with
  | false => rw [hk] at p1; simp (maxSteps := 1000000) [evL, -List.getD_eq_getElem?_getD, -List.map_map, f14, p1, baD_fold0]
  | true =>
    rw [hk] at p1
    by_cases a : n < 0
    · have a' : ¬ 0 ≤ n := by omega
      simp (maxSteps := 1000000) [evL, -List.getD_eq_getElem?_getD, -List.map_map, f14, p0, p0n, p1, w, eq_true a, eq_false a']
    have a' : 0 ≤ n := by omega
    by_cases c : 1000000 - b.now < n
    · have c' : ¬ n ≤ 1000000 - b.now := by omega
      simp (maxSteps := 1000000) [evL, -List.getD_eq_getElem?_getD, -List.map_map, f14, p0, p0n, p1, w, eq_false a, eq_true a', eq_true c, eq_false c']
    have c' : n ≤ 1000000 - b.now := by omega
    unfold rTick
    obtain ⟨N, hN⟩ : ∃ N, b.now + n = N := ⟨_, rfl⟩
    have wN : IntKind.i64.wrap (b.now + n) = N := by rw [IntWalk.i64_in _ (by omega), hN]
    rw [hN]
    obtain ⟨o, e', X', he, rfl, rfl, g4, g5⟩ := (loop_keep (F := evCode (ev R) R.glob (hlen H) evLoop f14l0) (lv := [4, 5, 30, 31, 32]) b.ents.length
      (fun i e X => X = ap H (cbH b N ((b.ents.take i).filter (stays N)) H) ∧ e.get 4 = .ptr (hlen H + 1) 0 0 0 ∧ e.get 5 = .ptr (hlen H + 3) 0 0 0 ∧ e.get 30 = .d (entsD b.ents) ∧ e.get 31 = .d (.int .i64 b.ents.length) ∧ e.get 32 = .d (.int .i64 i))
      (fun o e X => o = .exit 0 ∧ X = ap H (cbH b N (b.ents.filter (stays N)) H) ∧ e.get 4 = .ptr (hlen H + 1) 0 0 0 ∧ e.get 5 = .ptr (hlen H + 3) 0 0 0)
      (by
        rintro e X ⟨rfl, g4, g5, g30, g31, g32⟩
        rw [List.take_length]
        simp (maxSteps := 1000000) [evL, -List.getD_eq_getElem?_getD, -List.map_map, f14l0, g4, g5, g30, g31, g32, cbH])
      (by
        rintro i e X hi ⟨rfl, g4, g5, g30, g31, g32⟩
        have ci : (i : Int) < (b.ents.length : Int) := by omega
        have c0 : (0 : Int) ≤ (i : Int) := by omega
        have g := ents_get b.ents i hi
        have p := p_35 (b.ents.getD i default) (hb.each _ (getD_in hi))
        have w1 : IntKind.i64.wrap ((i : Int) + 1) = (i : Int) + 1 := IntWalk.i64_in _ (by omega)
        have hfl := take_fil (stays N) b.ents i default hi
        have hl := fil_len (stays N) b.ents i hi
        have hs : stays N (b.ents.getD i default) = (decide ((b.ents.getD i default).till = 0) || decide (N < (b.ents.getD i default).till)) := rfl
        generalize b.ents.getD i default = x at *
        generalize (b.ents.take i).filter (stays N) = zs at *
        generalize (b.ents.take (i + 1)).filter (stays N) = ys at *
        have rm : (zs.length + 1) * 120 ≤ room := by unfold room; omega
        by_cases k : x.till = 0
        · have hs : stays N x = true := by rw [hs]; simp [k]
          rw [hs] at hfl
          simp only [if_true] at hfl
          have sf : List.map V.d (List.map enD zs) ++ [V.d (enD x)] = List.map V.d (List.map enD ys) := by rw [hfl]; simp
          have sl : ys.length = zs.length + 1 := by rw [hfl]; simp
          clear hfl
          simp (maxSteps := 1000000) [evL, -List.getD_eq_getElem?_getD, -List.map_map, f14l0, g4, g5, g30, g31, g32, ci, c0, hi, g, p, w1, cbH, rm, sf, sl, eq_true k]
        · by_cases j : N < x.till
          · have hs : stays N x = true := by rw [hs]; simp [j]
            rw [hs] at hfl
            simp only [if_true] at hfl
            have sf : List.map V.d (List.map enD zs) ++ [V.d (enD x)] = List.map V.d (List.map enD ys) := by rw [hfl]; simp
            have sl : ys.length = zs.length + 1 := by rw [hfl]; simp
            clear hfl
            simp (maxSteps := 1000000) [evL, -List.getD_eq_getElem?_getD, -List.map_map, f14l0, g4, g5, g30, g31, g32, ci, c0, hi, g, p, w1, cbH, rm, sf, sl, eq_false k, eq_true j]
          · have hs : stays N x = false := by rw [hs]; simp [k, j]
            rw [hs] at hfl
            simp only [Bool.false_eq_true, if_false, List.append_nil] at hfl
            subst hfl
            simp (maxSteps := 1000000) [evL, -List.getD_eq_getElem?_getD, -List.map_map, f14l0, g4, g5, g30, g31, g32, ci, c0, hi, g, w1, cbH, eq_false k, eq_false j])
      b.ents.length 0 [(4, .ptr (hlen H + 1) 0 0 0), (5, .ptr (hlen H + 3) 0 0 0), (30, .d (entsD b.ents)), (31, .d (.int .i64 b.ents.length)), (32, .d (.int .i64 0))] (ap H (cbH b N [] H)) (by omega) ⟨rfl, rfl, rfl, rfl, rfl, rfl⟩).out
    simp only [cbH, List.map_nil, List.length_nil] at he
    generalize b.ents.filter (stays N) = zs at *
    have ft : List.take zs.length ((zs.map enD).map V.d) = (zs.map enD).map V.d := List.take_of_length_le (by simp)
    simp (maxSteps := 1000000) [evL, -List.getD_eq_getElem?_getD, -List.map_map, f14, p1, w, wN, eq_false a, eq_true a', eq_false c, eq_true c', he, g4, g5, ft]
end Go.Proofs.YtjdmiodinhlchaaGreat.Code
/- Lists of texts, drawn. -/
namespace Go.Proofs.YtjdmiodinhlchaaGreat.Code
open Go Go.Ev Go.Proofs
set_option maxRecDepth 100000
set_option linter.unusedSimpArgs false
set_option linter.unusedVariables false
def textsV (bs : List Int) : Nat → Int → List Txt
  | 0, _ => []
  | n + 1, p => textV bs p :: textsV bs n (p + 1)
theorem textsV_len (bs : List Int) : ∀ (n : Nat) (p : Int), (textsV bs n p).length = n
  | 0, _ => rfl
  | n + 1, p => by simp [textsV, textsV_len bs n (p + 1)]
def rowT (k : Nat) (ts : List Txt) : Ev.Obj := .row k 1 ((ts.map D.str).map V.d)
theorem hget_behind {H : Hp} {r : Nat} {o : Ev.Obj} {bs : List Int} {p : Int} (h : hget H r = some (rd bs p)) (q : Int) : hget (hpush (hset H r (rd bs q)) o) r = some (rd bs q) := by
  have hl := hget_lt h
  rw [hget_hpush_lt _ (by rw [hlen_hset]; exact hl), hget_hset_self _ hl]
theorem rowT_row {H : Hp} {k : Nat} {ts : List Txt} {n : Nat} (hn : n = hlen H) : rowOf (hpush H (rowT k ts)) n k = some (1, (ts.map D.str).map V.d) := by
  subst hn; exact rowOf_self _ _ _ _
theorem rowT_set {H : Hp} {k : Nat} {ts : List Txt} {t : Txt} {n : Nat} (hn : n = hlen H) (o : Ev.Obj) : hset (hpush H o) n (.row k 1 ((ts.map D.str).map V.d ++ [.d (.str t)])) = hpush H (rowT k (ts ++ [t])) := by
  subst hn
  rw [hset_push]
  simp [rowT]
theorem l_101 (n0 : Nat) (H : Hp) (r : Nat) (bs : List Int) (p0 : Int) (h : hget H r = some (rd bs p0)) (hb : okBytes bs) : ∀ (n k : Nat) (ts : List Txt) (p : Int) (e : Env), n ≤ 1000 → ts.length + n ≤ 1000000 → 0 ≤ p → p + n ≤ 1000000000000 → e.get 0 = .ptr r 0 0 0 → e.get 5 = .slc (hlen H) k 0 ts.length → e.get 6 = .d (.int .i64 n) →
    ∃ e', evLoop (evCode (ev R) R.glob n0 evLoop f101l0) [0, 5, 6] ⟨e, hpush (hset H r (rd bs p)) (rowT k ts)⟩ = some (.exit 0, ⟨e', hpush (hset H r (rd bs (p + n))) (rowT (k + n) (ts ++ textsV bs n p))⟩) ∧ e'.get 5 = .slc (hlen H) (k + n) 0 (ts.length + n)
  | 0, k, ts, p, e, hn, hl, hp, hp2, h0, h5, h6 => by
    rw [evLoop_eq]
    refine ⟨?_, ?_, ?_⟩
    rotate_left
    · simp [evH, -List.getD_eq_getElem?_getD, -List.map_map, f101l0, h0, h5, h6, textsV]
      rfl
    · simp [evH, -List.getD_eq_getElem?_getD, -List.map_map, h5]
  | n + 1, k, ts, p, e, hn, hl, hp, hp2, h0, h5, h6 => by
    have c : (0 : Int) < ((n + 1 : Nat) : Int) := by omega
    have w1 : IntKind.i64.wrap (((n + 1 : Nat) : Int) - 1) = (n : Int) := by rw [IntWalk.i64_in _ (by omega)]; omega
    obtain ⟨m, hm⟩ : ∃ m : Int, ((n + 1 : Nat) : Int) = m := ⟨_, rfl⟩
    rw [hm] at c w1 h6
    have hg := hget_behind (o := rowT k ts) h p
    have q := e_75 (hpush (hset H r (rd bs p)) (rowT k ts)) r bs p hg hb hp (by omega)
    have hl2 : hlen H = hlen (hset H r (rd bs (p + 1))) := (hlen_hset _ _ _).symm
    have hlt := hget_lt h
    have e1 : hset (hpush (hset H r (rd bs p)) (rowT k ts)) r (rd bs (p + 1)) = hpush (hset H r (rd bs (p + 1))) (rowT k ts) := by
      rw [hset_push_lt (by rw [hlen_hset]; exact hlt), hset_hset]
    rw [e1] at q
    have q2 := rowT_row (k := k) (ts := ts) hl2
    have q3 := rowT_set (k := k + 1) (ts := ts) (t := textV bs p) hl2 (rowT k ts)
    have rm : (ts.length + 1) * 16 ≤ room := by unfold room; omega
    have ih := l_101 n0 H r bs p0 h hb n (k + 1) (ts ++ [textV bs p]) (p + 1)
    have r1 : p + ((n + 1 : Nat) : Int) = p + 1 + n := by omega
    have r2 : k + (n + 1) = k + 1 + n := by omega
    have r3 : ts ++ textsV bs (n + 1) p = (ts ++ [textV bs p]) ++ textsV bs n (p + 1) := by simp [textsV]
    have r4 : ts.length + (n + 1) = (ts ++ [textV bs p]).length + n := by simp; omega
    rw [r1, r2, r3, r4]
    generalize hpush (hset H r (rd bs (p + 1 + (n : Int)))) (rowT (k + 1 + n) (ts ++ [textV bs p] ++ textsV bs n (p + 1))) = HX at ih ⊢
    generalize hL : (ts ++ [textV bs p]).length = L at ih ⊢
    have hL' : L = ts.length + 1 := by rw [← hL]; simp
    generalize k + 1 + n = K at ih ⊢
    rw [evLoop_eq]
    generalize evLoop (evCode (ev R) R.glob n0 evLoop f101l0) [0, 5, 6] = F at ih ⊢
    subst hL'
    simp [evH, -List.getD_eq_getElem?_getD, -List.map_map, f101l0, h0, h5, h6, c, w1, q, q2, q3, rm, src]
    refine ih _ (by omega) (by omega) (by omega) (by omega) ?_ ?_ ?_ <;> rfl
theorem allD_d : ∀ (ds : List D), allD (ds.map V.d) = some ds
  | [] => rfl
  | d :: ds => by simp only [List.map_cons, allD, allD_d ds]
theorem e_101 (H : Hp) (r : Nat) (bs : List Int) (p most : Int) (h : hget H r = some (rd bs p)) (hb : okBytes bs) (hp : 0 ≤ p) (hp2 : p ≤ 100000000000) (hm : 0 ≤ most ∧ most ≤ 900) :
    ev R 101 [.ptr r 0 0 0, .d (.int .i64 most)] H = some (.slc (hlen H) 0 0 (pickV bs p (most + 1)).toNat, hpush (hset H r (rd bs (p + 1 + (pickV bs p (most + 1)).toNat))) (rowT 0 (textsV bs (pickV bs p (most + 1)).toNat (p + 1)))) := by
  refine ev_fn (fn := f101) rfl rfl ?_
  obtain ⟨k0, k1⟩ := pickV_in bs p (most + 1) hb hp (by omega)
  have k1 := k1 (by omega)
  have w : IntKind.i64.wrap (most + 1) = most + 1 := IntWalk.i64_in _ (by omega)
  have hlt := hget_lt h
  have hg : hget (hpush H (.row 0 1 [])) r = some (rd bs p) := by rw [hget_hpush_lt _ hlt]; exact h
  have q := e_54 (hpush H (.row 0 1 [])) r bs p (most + 1) hg hb hp (by omega)
  rw [hset_push_lt hlt] at q
  obtain ⟨N, hN⟩ : ∃ N, (pickV bs p (most + 1)).toNat = N := ⟨_, rfl⟩
  have hN' : pickV bs p (most + 1) = (N : Int) := by omega
  rw [hN]
  rw [hN'] at q
  obtain ⟨e', he, h5⟩ := l_101 (hlen H) H r bs p h hb N 0 [] (p + 1) [(0, .ptr r 0 0 0), (5, .slc (hlen H) 0 0 0), (6, .d (.int .i64 N))] (by omega) (by simp; omega) (by omega) (by omega) rfl rfl rfl
  have hl2 : hlen H = hlen (hset H r (rd bs (p + 1 + (N : Int)))) := (hlen_hset _ _ _).symm
  have ht : htake (hpush (hset H r (rd bs (p + 1 + (N : Int)))) (rowT (0 + N) ([] ++ textsV bs N (p + 1)))) (hlen H) = hset H r (rd bs (p + 1 + (N : Int))) := by
    rw [hl2]; exact htake_push _ _
  have hr := rowT_row (H := hset H r (rd bs (p + 1 + (N : Int)))) (k := 0 + N) (ts := [] ++ textsV bs N (p + 1)) hl2
  have e0 : rowT 0 [] = .row 0 1 [] := rfl
  rw [e0] at he
  have a := allD_d ((([] : List Txt) ++ textsV bs N (p + 1)).map D.str)
  have hfin : hpush (hset H r (rd bs (p + 1 + (N : Int)))) (.row 0 1 (((([] : List Txt) ++ textsV bs N (p + 1)).map D.str).map V.d)) = hpush (hset H r (rd bs (p + 1 + (N : Int)))) (rowT 0 (textsV bs N (p + 1))) := rfl
  rw [← hfin]
  generalize hset H r (rd bs (p + 1 + (N : Int))) = X at he hl2 ht hr ⊢
  generalize ((([] : List Txt) ++ textsV bs N (p + 1)).map D.str).map V.d = xs at a hr ⊢
  generalize rowT (0 + N) ([] ++ textsV bs N (p + 1)) = o at he ht hr
  have nl : ¬ hlen H < hlen H := by omega
  have len : ([] : List Txt).length + N = N := by simp
  rw [len] at h5
  simp only [List.length_nil, Nat.zero_add] at hr h5 ⊢
  have hl3 := hl2.symm
  simp [evH, -List.getD_eq_getElem?_getD, -List.map_map, f101, w, q, he, h5, ht, hr, a, nl, hl3, evO]
end Go.Proofs.YtjdmiodinhlchaaGreat.Code
/- What is the same is told so: texts. -/
namespace Go.Proofs.YtjdmiodinhlchaaGreat.Code
open Go Go.Ev Go.Proofs
set_option maxRecDepth 100000
set_option maxHeartbeats 2000000
set_option linter.unusedSimpArgs false
set_option linter.unusedVariables false
theorem l_9 (n0 : Nat) (xs : List Txt) (hx : xs.length ≤ 9223372036854775807) (ys : List Txt) (hy : ys.length = xs.length) (H : Hp) : ∀ (n i : Nat) (e : Env), i + n = xs.length → e.get 0 = .d (txts xs) → e.get 1 = .d (txts ys) → e.get 5 = .d (.int .i64 i) →
    ∃ e', evLoop (evCode (ev R) R.glob n0 evLoop f9l0) [0, 1, 5] ⟨e, H⟩ = some ((match seek (differ xs ys) n i with | some _ => .ret | none => .exit 0), ⟨e', H⟩) ∧
      (∀ j, seek (differ xs ys) n i = some j → e'.get 4 = .d (.bool false))
  | 0, i, e, hn, h0, h1, h5 => by
    have c : ¬ (i : Int) < (xs.length : Int) := by omega
    have c' : ¬ i < xs.length := by omega
    have gy : i < ys.length → (ys.map D.str).getD i .nilp = .str (ys.getD i []) := fun h => txts_get ys i h
    rw [evLoop_eq]
    refine ⟨?_, ?_, ?_⟩
    rotate_left
    · simp [evH, -List.getD_eq_getElem?_getD, -List.map_map, f9l0, h0, h1, h5, txts, c, c', seek, hy, gy]
      rfl
    · intro j hj; simp [seek] at hj
  | n + 1, i, e, hn, h0, h1, h5 => by
    have c : (i : Int) < (xs.length : Int) := by omega
    have c' : i < xs.length := by omega
    have g := txts_get xs i c'
    have w1 : IntKind.i64.wrap ((i : Int) + 1) = ((i + 1 : Nat) : Int) := by rw [IntWalk.i64_in _ (by omega)]; rfl
    have gy : i < ys.length → (ys.map D.str).getD i .nilp = .str (ys.getD i []) := fun h => txts_get ys i h
    have ih := l_9 n0 xs hx ys hy H n (i + 1)
    rw [evLoop_eq]
    generalize evLoop (evCode (ev R) R.glob n0 evLoop f9l0) [0, 1, 5] = F at ih ⊢
    by_cases hb : ¬ xs.getD i [] = ys.getD i []
    · skip
      refine ⟨?_, ?_, ?_⟩
      rotate_left
      · simp [evH, -List.getD_eq_getElem?_getD, -List.map_map, f9l0, h0, h1, h5, txts, c, c', g, seek, differ, hb, hy, gy]
        rfl
      · intro j hj
        simp [seek, differ, hb, -List.getD_eq_getElem?_getD] at hj
        try subst hj
        simp [evH, -List.getD_eq_getElem?_getD, -List.map_map]
    · rw [Classical.not_not] at hb
      have hs : seek (differ xs ys) (n + 1) i = seek (differ xs ys) n (i + 1) := by simp [seek, differ, hb, -List.getD_eq_getElem?_getD]
      rw [hs]
      simp [evH, -List.getD_eq_getElem?_getD, -List.map_map, f9l0, h0, h1, h5, txts, c, c', g, w1, hb, hy, gy]
      refine ih _ (by omega) ?_ ?_ ?_ <;> rfl
theorem e_9_same (H : Hp) (xs : List Txt) (hx : xs.length ≤ 9223372036854775807) : ev R 9 [.d (txts xs), .d (txts xs)] H = some (.d (.bool true), H) := by
  refine ev_fn (fn := f9) rfl rfl ?_
  obtain ⟨e', he, h1⟩ := l_9 (hlen H) xs hx xs rfl H xs.length 0 [(0, .d (txts xs)), (1, .d (txts xs)), (5, .d (.int .i64 0))] (by omega) rfl rfl rfl
  have hr : seek (differ xs xs) xs.length 0 = none := by
    cases hr : seek (differ xs xs) xs.length 0 with
    | none => rfl
    | some j =>
      have := (seek_some hr).2.2.1
      simp [differ] at this
  simp only [hr] at he
  simp [evH, -List.getD_eq_getElem?_getD, -List.map_map, f9, he]
theorem p_9_same (xs : List Txt) (hx : xs.length ≤ 9223372036854775807) : pureCall (ev R) 9 [.d (txts xs), .d (txts xs)] = some (.d (.bool true)) := pureCall_eq fun H => e_9_same H xs hx
end Go.Proofs.YtjdmiodinhlchaaGreat.Code
/- What is the same is told so: scores, fields, entries, bases. -/
namespace Go.Proofs.YtjdmiodinhlchaaGreat.Code
open Go Go.Ev Go.Proofs
set_option maxRecDepth 100000
set_option maxHeartbeats 2000000
set_option linter.unusedSimpArgs false
set_option linter.unusedVariables false
theorem p_38_same (xs : List Sc) (hx : xs.length ≤ 1000000) : pureCall (ev R) 38 [.d (scs xs), .d (scs xs)] = some (.d (.bool true)) := pureCall_eq fun H => by
  refine ev_fn (fn := f38) rfl rfl ?_
  obtain ⟨o, e', X', he, rfl, rfl⟩ := (loop_keep (F := evCode (ev R) R.glob (hlen H) evLoop f38l0) (lv := [0, 1, 5]) xs.length
    (fun i e X => X = H ∧ e.get 0 = .d (scs xs) ∧ e.get 1 = .d (scs xs) ∧ e.get 5 = .d (.int .i64 i))
    (fun o e X => o = .exit 0 ∧ X = H)
    (by
      rintro e X ⟨rfl, g0, g1, g5⟩
      simp (maxSteps := 1000000) [evL, -List.getD_eq_getElem?_getD, -List.map_map, f38l0, g0, g1, g5])
    (by
      rintro i e X hi ⟨rfl, g0, g1, g5⟩
      have c : (i : Int) < (xs.length : Int) := by omega
      have c0 : (0 : Int) ≤ (i : Int) := by omega
      have g := scs_get xs i hi
      have w1 : IntKind.i64.wrap ((i : Int) + 1) = ((i + 1 : Nat) : Int) := by rw [IntWalk.i64_in _ (by omega)]; rfl
      generalize xs.getD i ([], 0) = x at *
      obtain ⟨t, n⟩ := x
      simp [evA, -List.getD_eq_getElem?_getD, -List.map_map, f38l0, g0, g1, g5, c, c0, g, hi, w1, scalEqs, scalEq, Step, gives_some])
    xs.length 0 [(0, .d (scs xs)), (1, .d (scs xs)), (5, .d (.int .i64 0))] H (by omega) ⟨rfl, rfl, rfl, rfl⟩).out
  simp (maxSteps := 1000000) [evL, -List.getD_eq_getElem?_getD, -List.map_map, f38, he]
theorem p_39_same (xs : List Pr) (hx : xs.length ≤ 1000000) : pureCall (ev R) 39 [.d (prs xs), .d (prs xs)] = some (.d (.bool true)) := pureCall_eq fun H => by
  refine ev_fn (fn := f39) rfl rfl ?_
  obtain ⟨o, e', X', he, rfl, rfl⟩ := (loop_keep (F := evCode (ev R) R.glob (hlen H) evLoop f39l0) (lv := [0, 1, 5]) xs.length
    (fun i e X => X = H ∧ e.get 0 = .d (prs xs) ∧ e.get 1 = .d (prs xs) ∧ e.get 5 = .d (.int .i64 i))
    (fun o e X => o = .exit 0 ∧ X = H)
    (by
      rintro e X ⟨rfl, g0, g1, g5⟩
      simp (maxSteps := 1000000) [evL, -List.getD_eq_getElem?_getD, -List.map_map, f39l0, g0, g1, g5])
    (by
      rintro i e X hi ⟨rfl, g0, g1, g5⟩
      have c : (i : Int) < (xs.length : Int) := by omega
      have c0 : (0 : Int) ≤ (i : Int) := by omega
      have g := prs_get xs i hi
      have w1 : IntKind.i64.wrap ((i : Int) + 1) = ((i + 1 : Nat) : Int) := by rw [IntWalk.i64_in _ (by omega)]; rfl
      generalize xs.getD i ([], []) = x at *
      obtain ⟨t, n⟩ := x
      simp [evA, -List.getD_eq_getElem?_getD, -List.map_map, f39l0, g0, g1, g5, c, c0, g, hi, w1, scalEqs, scalEq, Step, gives_some])
    xs.length 0 [(0, .d (prs xs)), (1, .d (prs xs)), (5, .d (.int .i64 0))] H (by omega) ⟨rfl, rfl, rfl, rfl⟩).out
  simp (maxSteps := 1000000) [evL, -List.getD_eq_getElem?_getD, -List.map_map, f39, he]
theorem p_17_same (e : En) (h1 : e.list.length ≤ 1000000) (h2 : e.scores.length ≤ 1000000) (h3 : e.fields.length ≤ 1000000) : pureCall (ev R) 17 [.d (enD e), .d (enD e)] = some (.d (.bool true)) := pureCall_eq fun H => by
  refine ev_fn (fn := f17) rfl rfl ?_
  have p1 := p_9_same e.list (by omega)
  have p2 := p_38_same e.scores h2
  have p3 := p_39_same e.fields h3
  simp [evC, -List.getD_eq_getElem?_getD, -List.map_map, f17, p1, p2, p3]
theorem p_15_same (b : Ba) (hl : b.ents.length ≤ 1000000) (h : ∀ e ∈ b.ents, e.list.length ≤ 1000000 ∧ e.scores.length ≤ 1000000 ∧ e.fields.length ≤ 1000000) : pureCall (ev R) 15 [.d (baD b), .d (baD b)] = some (.d (.bool true)) := pureCall_eq fun H => by
  refine ev_fn (fn := f15) rfl rfl ?_
  obtain ⟨o, e', X', he, rfl, ht⟩ := (loop_keep (F := evCode (ev R) R.glob (hlen H) evLoop f15l0) (lv := [2, 3, 5]) b.ents.length
    (fun i e X => X = ap H [.row 0 2 [.d (baD b)], .row 0 2 [.d (baD b)]] ∧ e.get 2 = .ptr (hlen H) 0 0 0 ∧ e.get 3 = .ptr (hlen H + 1) 0 0 0 ∧ e.get 5 = .d (.int .i64 i))
    (fun o e X => o = .exit 0 ∧ htake X (hlen H) = H)
    (by
      rintro e X ⟨rfl, g2, g3, g5⟩
      simp [evC, -List.getD_eq_getElem?_getD, -List.map_map, f15l0, g2, g3, g5])
    (by
      rintro i e X hi ⟨rfl, g2, g3, g5⟩
      have c : (i : Int) < (b.ents.length : Int) := by omega
      have c0 : (0 : Int) ≤ (i : Int) := by omega
      have g := ents_get b.ents i hi
      have w1 : IntKind.i64.wrap ((i : Int) + 1) = ((i + 1 : Nat) : Int) := by rw [IntWalk.i64_in _ (by omega)]; rfl
      have hh := h _ (getD_in hi : b.ents.getD i default ∈ b.ents)
      have p := p_17_same (b.ents.getD i default) hh.1 hh.2.1 hh.2.2
      generalize b.ents.getD i default = x at *
      simp [evC, -List.getD_eq_getElem?_getD, -List.map_map, f15l0, g2, g3, g5, c, c0, g, hi, w1, p])
    b.ents.length 0 [(2, .ptr (hlen H) 0 0 0), (3, .ptr (hlen H + 1) 0 0 0), (5, .d (.int .i64 0))] (ap H [.row 0 2 [.d (baD b)], .row 0 2 [.d (baD b)]]) (by omega) ⟨rfl, rfl, rfl, rfl⟩).out
  simp [evC, -List.getD_eq_getElem?_getD, -List.map_map, f15, he, ht]
end Go.Proofs.YtjdmiodinhlchaaGreat.Code
/- Orders, drawn. -/
namespace Go.Proofs.YtjdmiodinhlchaaGreat.Code
open Go Go.Ev Go.Proofs
set_option maxRecDepth 100000
set_option linter.unusedSimpArgs false
set_option linter.unusedVariables false
theorem hset_same' {H : Hp} {r : Nat} {o : Ev.Obj} (h : hget H r = some o) : hset H r o = H := by
  induction H generalizing r with
  | nil => rfl
  | cons a H ih =>
    cases r with
    | zero => simp only [hget, Option.some.injEq] at h; subst h; rfl
    | succ r => exact congrArg (List.cons a) (ih h)
theorem textsV_short (bs : List Int) : ∀ (n : Nat) (p : Int), ∀ x ∈ textsV bs n p, x.length ≤ 40
  | 0, p => by simp [textsV]
  | n + 1, p => by
    intro x hx
    simp only [textsV, List.mem_cons] at hx
    rcases hx with rfl | hx
    · exact textV_len bs p
    · exact textsV_short bs n (p + 1) x hx
theorem of67 (H : Hp) (r : Nat) (bs : List Int) (q q' : Int) (xs : List Txt) {o : Ev.Obj} (h : hget H r = some o) (hb : okBytes bs) (hq : 0 ≤ q) (hq2 : q ≤ 100000000000) (hq' : q' = q + 1) (hx : 0 < xs.length) (hm : ∀ x ∈ xs, x.length ≤ 40) :
    ∃ t : Txt, t.length ≤ 40 ∧ ev R 29 [.ptr r 0 0 0, .d (txts xs)] (hset H r (rd bs q)) = some (.d (.str t), hset H r (rd bs q')) := by
  subst hq'
  have e := e_29 (hset H r (rd bs q)) r bs q xs (hget_hset_self _ (hget_lt h)) hb hq (by omega) hx
  rw [hset_hset] at e
  exact ⟨_, ofV_all bs q xs 40 hm, e⟩
theorem of71 (H : Hp) (r : Nat) (bs : List Int) (q q' : Int) {o : Ev.Obj} (h : hget H r = some o) (hb : okBytes bs) (hq : 0 ≤ q) (hq2 : q ≤ 100000000000) (hq' : q' = q + 1) :
    ∃ t : Txt, t.length ≤ 40 ∧ ev R 75 [.ptr r 0 0 0] (hset H r (rd bs q)) = some (.d (.str t), hset H r (rd bs q')) := by
  subst hq'
  have e := e_75 (hset H r (rd bs q)) r bs q (hget_hset_self _ (hget_lt h)) hb hq (by omega)
  rw [hset_hset] at e
  exact ⟨_, textV_len bs q, e⟩
theorem of45 (H : Hp) (r : Nat) (bs : List Int) (q q' n : Int) {o : Ev.Obj} (h : hget H r = some o) (hb : okBytes bs) (hq : 0 ≤ q) (hq2 : q ≤ 100000000000) (hq' : q' = q + 1) :
    ev R 54 [.ptr r 0 0 0, .d (.int .i64 n)] (hset H r (rd bs q)) = some (.d (.int .i64 (pickV bs q n)), hset H r (rd bs q')) := by
  subst hq'
  have e := e_54 (hset H r (rd bs q)) r bs q n (hget_hset_self _ (hget_lt h)) hb hq (by omega)
  rwa [hset_hset] at e
theorem of70 (H : Hp) (r : Nat) (bs : List Int) (q q' : Int) {o : Ev.Obj} (h : hget H r = some o) (hb : okBytes bs) (hq : 0 ≤ q) (hq2 : q ≤ 100000000000) (hq' : q' = q + 1) :
    ∃ t : Txt, t.length ≤ 40 ∧ ev R 69 [.ptr r 0 0 0] (hset H r (rd bs q)) = some (.d (.str t), hset H r (rd bs q')) := by
  obtain ⟨t, l, e⟩ := of67 H r bs q q' [[107], [108], [115], [122], [104], [107, 50], [108]] h hb hq hq2 hq' (by simp) (by simp)
  refine ⟨t, l, ev_fn (fn := f69) rfl rfl ?_⟩
  have hl := htake_self (hset H r (rd bs q'))
  rw [hlen_hset] at hl
  have hl2 := hlen_hset H r (rd bs q)
  simp only [txts, List.map_cons, List.map_nil] at e
  simp [evH, -List.getD_eq_getElem?_getD, -List.map_map, f69, e, hl, hl2]
theorem of72 (H : Hp) (r : Nat) (bs : List Int) (q q' : Int) {o : Ev.Obj} (h : hget H r = some o) (hb : okBytes bs) (hq : 0 ≤ q) (hq2 : q ≤ 100000000000) (hq' : q' = q + 1) :
    ∃ t : Txt, t.length ≤ 40 ∧ ev R 106 [.ptr r 0 0 0] (hset H r (rd bs q)) = some (.d (.str t), hset H r (rd bs q')) := by
  obtain ⟨t, l, e⟩ := of67 H r bs q q' [[48], [49], [45, 49], [50], [45, 50], [53], [49, 48, 48], [45, 49, 48, 48], [49, 48, 48, 48, 48, 48, 48, 48, 48, 48], [120]] h hb hq hq2 hq' (by simp) (by simp)
  refine ⟨t, l, ev_fn (fn := f106) rfl rfl ?_⟩
  have hl := htake_self (hset H r (rd bs q'))
  rw [hlen_hset] at hl
  have hl2 := hlen_hset H r (rd bs q)
  simp only [txts, List.map_cons, List.map_nil] at e
  simp [evH, -List.getD_eq_getElem?_getD, -List.map_map, f106, e, hl, hl2]
theorem of73 (H : Hp) (r : Nat) (bs : List Int) (q : Int) (mi : Int) (most : Nat) (hmi : mi = most) (L : List Txt) {o : Ev.Obj} (h : hget H r = some o) (hb : okBytes bs) (hq : 0 ≤ q) (hq2 : q ≤ 10000000000) (hm : most ≤ 3) :
    ∃ (N : Nat) (p9 : Int), N ≤ most ∧ (q ≤ p9 ∧ p9 ≤ q + 5) ∧ ev R 101 [.ptr r 0 0 0, .d (.int .i64 mi)] (hpush (hset H r (rd bs q)) (.row 0 1 ((L.map D.str).map V.d))) = some (.slc (hlen H + 1) 0 0 N, hpush (hpush (hset H r (rd bs p9)) (.row 0 1 ((L.map D.str).map V.d))) (rowT 0 (textsV bs N (q + 1)))) := by
  subst hmi
  have hr := hget_lt h
  have hg : hget (hpush (hset H r (rd bs q)) (.row 0 1 ((L.map D.str).map V.d))) r = some (rd bs q) := by
    rw [hget_hpush_lt _ (by rw [hlen_hset]; exact hr), hget_hset_self _ hr]
  have e := e_101 _ r bs q most hg hb hq (by omega) (by omega)
  obtain ⟨k0, k1⟩ := pickV_in bs q ((most : Int) + 1) hb hq (by omega)
  have k1 := k1 (by omega)
  obtain ⟨N, hN⟩ : ∃ N, (pickV bs q ((most : Int) + 1)).toNat = N := ⟨_, rfl⟩
  rw [hN, hlen_hpush, hlen_hset, hset_push_lt (by rw [hlen_hset]; exact hr), hset_hset] at e
  exact ⟨N, q + 1 + N, by omega, by omega, e⟩
theorem app_row (H X : Hp) (hl : hlen X = hlen H) (ds ts : List Txt) (N : Nat) (hN : ts.length = N) :
    rowOf (hpush (hpush X (.row 0 1 ((ds.map D.str).map V.d))) (rowT 0 ts)) (hlen H) 0 = some (1, (ds.map D.str).map V.d) ∧
    src (hpush (hpush X (.row 0 1 ((ds.map D.str).map V.d))) (rowT 0 ts)) (.slc (hlen H + 1) 0 0 N) = some (1, (ts.map D.str).map V.d, false) ∧
    hset (hpush (hpush X (.row 0 1 ((ds.map D.str).map V.d))) (rowT 0 ts)) (hlen H) (.row 1 1 ((ds.map D.str).map V.d ++ (ts.map D.str).map V.d)) = hpush (hpush X (.row 1 1 ((ds.map D.str).map V.d ++ (ts.map D.str).map V.d))) (rowT 0 ts) ∧
    fzC (hlen H) (hpush (hpush X (.row 1 1 ((ds.map D.str).map V.d ++ (ts.map D.str).map V.d))) (rowT 0 ts)) (.slc (hlen H) 1 0 (ds.length + N)) = some (.d (.vals 1 (ds.map D.str ++ ts.map D.str))) ∧
    htake (hpush (hpush X (.row 1 1 ((ds.map D.str).map V.d ++ (ts.map D.str).map V.d))) (rowT 0 ts)) (hlen H) = X ∧
    ((ts.map D.str).map V.d).all (okIn (hlen H) (hlen H)) = true := by
  subst hN
  rw [← hl]
  refine ⟨?_, ?_, ?_, ?_, ?_, ?_⟩
  · simp only [rowOf, hget_hpush_lt _ (show hlen X < hlen (hpush X (.row 0 1 ((ds.map D.str).map V.d))) by rw [hlen_hpush]; omega), hget_hpush_self]
    rfl
  · have hr : rowOf (hpush (hpush X (.row 0 1 ((ds.map D.str).map V.d))) (rowT 0 ts)) (hlen X + 1) 0 = some (1, (ts.map D.str).map V.d) := rowT_row (by rw [hlen_hpush])
    simp only [src, hr]
    rw [if_pos (by simp), List.drop_zero, List.take_of_length_le (by simp)]
  · rw [hset_push_lt (by rw [hlen_hpush]; omega), hset_push]
  · have hr : rowOf (hpush (hpush X (.row 1 1 ((ds.map D.str).map V.d ++ (ts.map D.str).map V.d))) (rowT 0 ts)) (hlen X) 1 = some (1, (ds.map D.str).map V.d ++ (ts.map D.str).map V.d) := by
      simp only [rowOf, hget_hpush_lt _ (show hlen X < hlen (hpush X (.row 1 1 ((ds.map D.str).map V.d ++ (ts.map D.str).map V.d))) by rw [hlen_hpush]; omega), hget_hpush_self]
      rfl
    have h := fz_row (n := hlen X) (d := 7) (i := 0) (k := ds.length + ts.length) (by omega) hr (by simp) (ys := ds.map D.str ++ ts.map D.str) (by
      rw [List.drop_zero, List.take_of_length_le (by simp), ← List.map_append]; exact mapO_d _)
    show (if hlen X < hlen X then _ else (match fz (hlen X) deep _ (.slc (hlen X) 1 0 (ds.length + ts.length)) with | some x => some (V.d x) | none => none)) = _
    rw [if_neg (by omega), show deep = 7 + 1 from rfl, h]
  · simp [htake, hpush, hlen]
  · simp [okIn, lowIn]
theorem own_row (H X : Hp) (hl : hlen X = hlen H) (ds : List Txt) :
    rowOf (hpush X (.row 0 1 ((ds.map D.str).map V.d))) (hlen H) 0 = some (1, (ds.map D.str).map V.d) ∧ htake (hpush X (.row 0 1 ((ds.map D.str).map V.d))) (hlen H) = X ∧ True := by
  rw [← hl]
  exact ⟨rowOf_self _ _ _ _, htake_push _ _, trivial⟩
theorem row_below (H X : Hp) (hl : hlen X = hlen H) (g : Nat) (ys : List V) (o : Ev.Obj) : rowOf (hpush (hpush X (.row g 1 ys)) o) (hlen H) g = some (1, ys) := by
  rw [← hl]
  simp only [rowOf, hget_hpush_lt _ (show hlen X < hlen (hpush X (.row g 1 ys)) by rw [hlen_hpush]; omega), hget_hpush_self]
  simp
def Ways (H : Hp) (r : Nat) (bs : List Int) (p : Int) : Prop :=
  ∃ (ts : List Txt) (p' : Int), ev R 81 [.ptr r 0 0 0] H = some (.slc (hlen H) 0 0 ts.length, hpush (hset H r (rd bs p')) (rowT 0 ts)) ∧ p ≤ p' ∧ p' ≤ p + 20 ∧ 1 ≤ ts.length ∧ ts.length ≤ 8 ∧ ∀ x ∈ ts, x.length ≤ 40
theorem way0 (H : Hp) (r : Nat) (bs : List Int) (p : Int) (h : hget H r = some (rd bs p)) (hb : okBytes bs) (hp : 0 ≤ p) (hp2 : p ≤ 1000000000) (hc : pickV bs (p + 2) 12 = 0) : Ways H r bs p := by
  obtain ⟨p1, hp1⟩ : ∃ q, q = p + 1 := ⟨_, rfl⟩
  obtain ⟨p2, hp2'⟩ : ∃ q, q = p1 + 1 := ⟨_, rfl⟩
  obtain ⟨p3, hp3⟩ : ∃ q, q = p2 + 1 := ⟨_, rfl⟩
  obtain ⟨kk, lk, qk⟩ := of70 H r bs p p1 h hb (by omega) (by omega) hp1
  rw [hset_same' h] at qk
  obtain ⟨tt, lt, qt⟩ := of71 H r bs p1 p2 h hb (by omega) (by omega) hp2'
  have qp := of45 H r bs p2 p3 12 h hb (by omega) (by omega) hp3
  rw [show p2 = p + 2 by omega] at qp
  rw [hc] at qp
  rw [show p + 2 = p2 by omega] at qp
  obtain ⟨p4, hp4⟩ : ∃ q, q = p3 + 1 := ⟨_, rfl⟩
  obtain ⟨t1, l1, q1⟩ := of67 H r bs p3 p4 [[71, 69, 84], [83, 84, 82, 76, 69, 78], [73, 78, 67, 82], [76, 80, 79, 80], [82, 80, 79, 80], [76, 76, 69, 78], [83, 77, 69, 77, 66, 69, 82, 83], [83, 67, 65, 82, 68], [90, 67, 65, 82, 68], [72, 71, 69, 84, 65, 76, 76], [72, 76, 69, 78], [84, 89, 80, 69], [84, 84, 76], [80, 69, 82, 83, 73, 83, 84]] h hb (by omega) (by omega) hp4 (by simp) (by simp [*])
  simp only [txts, List.map_cons, List.map_nil] at q1
  refine ⟨[t1, kk], p4, ?_, by omega, by omega, by simp, by simp, by simp [*]⟩
  obtain ⟨o1, o2, o3⟩ := own_row H (hset H r (rd bs p4)) (hlen_hset _ _ _) [t1, kk]
  refine ev_fn (fn := f81) rfl rfl ?_
  have hl := hlen_hset H r (rd bs p4)
  simp only [rowT, List.map_cons, List.map_nil, List.length_cons, List.length_nil, Nat.zero_add, Nat.reduceAdd] at o1 o2 ⊢
  simp [evH, -List.getD_eq_getElem?_getD, -List.map_map, f81, qk, qt, qp, q1, hl, o1, o2, evO]
theorem way1 (H : Hp) (r : Nat) (bs : List Int) (p : Int) (h : hget H r = some (rd bs p)) (hb : okBytes bs) (hp : 0 ≤ p) (hp2 : p ≤ 1000000000) (hc : pickV bs (p + 2) 12 = 1) : Ways H r bs p := by
  obtain ⟨p1, hp1⟩ : ∃ q, q = p + 1 := ⟨_, rfl⟩
  obtain ⟨p2, hp2'⟩ : ∃ q, q = p1 + 1 := ⟨_, rfl⟩
  obtain ⟨p3, hp3⟩ : ∃ q, q = p2 + 1 := ⟨_, rfl⟩
  obtain ⟨kk, lk, qk⟩ := of70 H r bs p p1 h hb (by omega) (by omega) hp1
  rw [hset_same' h] at qk
  obtain ⟨tt, lt, qt⟩ := of71 H r bs p1 p2 h hb (by omega) (by omega) hp2'
  have qp := of45 H r bs p2 p3 12 h hb (by omega) (by omega) hp3
  rw [show p2 = p + 2 by omega] at qp
  rw [hc] at qp
  rw [show p + 2 = p2 by omega] at qp
  obtain ⟨p4, hp4⟩ : ∃ q, q = p3 + 1 := ⟨_, rfl⟩
  obtain ⟨t1, l1, q1⟩ := of67 H r bs p3 p4 [[107], [107, 50]] h hb (by omega) (by omega) hp4 (by simp) (by simp [*])
  simp only [txts, List.map_cons, List.map_nil] at q1
  refine ⟨[[83, 69, 84], t1, tt], p4, ?_, by omega, by omega, by simp, by simp, by simp [*]⟩
  obtain ⟨o1, o2, o3⟩ := own_row H (hset H r (rd bs p4)) (hlen_hset _ _ _) [[83, 69, 84], t1, tt]
  refine ev_fn (fn := f81) rfl rfl ?_
  have hl := hlen_hset H r (rd bs p4)
  simp only [rowT, List.map_cons, List.map_nil, List.length_cons, List.length_nil, Nat.zero_add, Nat.reduceAdd] at o1 o2 ⊢
  simp [evH, -List.getD_eq_getElem?_getD, -List.map_map, f81, qk, qt, qp, q1, hl, o1, o2, evO]
theorem way2 (H : Hp) (r : Nat) (bs : List Int) (p : Int) (h : hget H r = some (rd bs p)) (hb : okBytes bs) (hp : 0 ≤ p) (hp2 : p ≤ 1000000000) (hc : pickV bs (p + 2) 12 = 2) : Ways H r bs p := by
  obtain ⟨p1, hp1⟩ : ∃ q, q = p + 1 := ⟨_, rfl⟩
  obtain ⟨p2, hp2'⟩ : ∃ q, q = p1 + 1 := ⟨_, rfl⟩
  obtain ⟨p3, hp3⟩ : ∃ q, q = p2 + 1 := ⟨_, rfl⟩
  obtain ⟨kk, lk, qk⟩ := of70 H r bs p p1 h hb (by omega) (by omega) hp1
  rw [hset_same' h] at qk
  obtain ⟨tt, lt, qt⟩ := of71 H r bs p1 p2 h hb (by omega) (by omega) hp2'
  have qp := of45 H r bs p2 p3 12 h hb (by omega) (by omega) hp3
  rw [show p2 = p + 2 by omega] at qp
  rw [hc] at qp
  rw [show p + 2 = p2 by omega] at qp
  obtain ⟨p4, hp4⟩ : ∃ q, q = p3 + 1 := ⟨_, rfl⟩
  obtain ⟨t1, l1, q1⟩ := of67 H r bs p3 p4 [[65, 80, 80, 69, 78, 68], [73, 78, 67, 82, 66, 89]] h hb (by omega) (by omega) hp4 (by simp) (by simp [*])
  simp only [txts, List.map_cons, List.map_nil] at q1
  obtain ⟨p5, hp5⟩ : ∃ q, q = p4 + 1 := ⟨_, rfl⟩
  obtain ⟨t2, l2, q2⟩ := of67 H r bs p4 p5 [[107], [107, 50]] h hb (by omega) (by omega) hp5 (by simp) (by simp [*])
  simp only [txts, List.map_cons, List.map_nil] at q2
  obtain ⟨p6, hp6⟩ : ∃ q, q = p5 + 1 := ⟨_, rfl⟩
  obtain ⟨t3, l3, q3⟩ := of72 H r bs p5 p6 h hb (by omega) (by omega) hp6
  obtain ⟨p7, hp7⟩ : ∃ q, q = p6 + 1 := ⟨_, rfl⟩
  obtain ⟨t4, l4, q4⟩ := of67 H r bs p6 p7 [tt, t3] h hb (by omega) (by omega) hp7 (by simp) (by simp [*])
  simp only [txts, List.map_cons, List.map_nil] at q4
  refine ⟨[t1, t2, t4], p7, ?_, by omega, by omega, by simp, by simp, by simp [*]⟩
  obtain ⟨o1, o2, o3⟩ := own_row H (hset H r (rd bs p7)) (hlen_hset _ _ _) [t1, t2, t4]
  refine ev_fn (fn := f81) rfl rfl ?_
  have hl := hlen_hset H r (rd bs p7)
  simp only [rowT, List.map_cons, List.map_nil, List.length_cons, List.length_nil, Nat.zero_add, Nat.reduceAdd] at o1 o2 ⊢
  simp [evH, -List.getD_eq_getElem?_getD, -List.map_map, f81, qk, qt, qp, q1, q2, q3, q4, hl, o1, o2, evO]
theorem way3 (H : Hp) (r : Nat) (bs : List Int) (p : Int) (h : hget H r = some (rd bs p)) (hb : okBytes bs) (hp : 0 ≤ p) (hp2 : p ≤ 1000000000) (hc : pickV bs (p + 2) 12 = 3) : Ways H r bs p := by
  obtain ⟨p1, hp1⟩ : ∃ q, q = p + 1 := ⟨_, rfl⟩
  obtain ⟨p2, hp2'⟩ : ∃ q, q = p1 + 1 := ⟨_, rfl⟩
  obtain ⟨p3, hp3⟩ : ∃ q, q = p2 + 1 := ⟨_, rfl⟩
  obtain ⟨kk, lk, qk⟩ := of70 H r bs p p1 h hb (by omega) (by omega) hp1
  rw [hset_same' h] at qk
  obtain ⟨tt, lt, qt⟩ := of71 H r bs p1 p2 h hb (by omega) (by omega) hp2'
  have qp := of45 H r bs p2 p3 12 h hb (by omega) (by omega) hp3
  rw [show p2 = p + 2 by omega] at qp
  rw [hc] at qp
  rw [show p + 2 = p2 by omega] at qp
  obtain ⟨p4, hp4⟩ : ∃ q, q = p3 + 1 := ⟨_, rfl⟩
  obtain ⟨t1, l1, q1⟩ := of67 H r bs p3 p4 [[76, 80, 85, 83, 72], [82, 80, 85, 83, 72]] h hb (by omega) (by omega) hp4 (by simp) (by simp [*])
  simp only [txts, List.map_cons, List.map_nil] at q1
  obtain ⟨p5, hp5⟩ : ∃ q, q = p4 + 1 := ⟨_, rfl⟩
  obtain ⟨t2, l2, q2⟩ := of67 H r bs p4 p5 [[108], [108], [107]] h hb (by omega) (by omega) hp5 (by simp) (by simp [*])
  simp only [txts, List.map_cons, List.map_nil] at q2
  obtain ⟨N, p9, nl, pl, q9⟩ := of73 H r bs p5 3 3 rfl ([t1, t2, tt] : List Txt) h hb (by omega) (by omega) (by omega)
  obtain ⟨a1, a2, a3, a4, a5, a6⟩ := app_row H (hset H r (rd bs p9)) (hlen_hset _ _ _) [t1, t2, tt] (textsV bs N (p5 + 1)) N (textsV_len bs N (p5 + 1))
  have tl := textsV_len bs N (p5 + 1)
  refine ⟨[t1, t2, tt] ++ textsV bs N (p5 + 1), p9, ?_, by omega, by omega, by simp, by simp [tl]; omega, fun x hx => ?_⟩
  · refine ev_fn (fn := f81) rfl rfl ?_
    have sh := textsV_short bs N (p5 + 1)
    clear sh
    generalize textsV bs N (p5 + 1) = ts at a1 a2 a3 a4 a5 a6 q9 tl ⊢
    simp only [List.map_cons, List.map_nil, List.cons_append, List.nil_append, List.length_cons, List.length_nil, txts, Nat.zero_add, Nat.reduceAdd] at a1 a2 a3 a4 a5 a6 q9 ⊢
    have rm : (N + 3) * 16 ≤ room := by unfold room; omega
    have rm2 : (3 + N) * 16 ≤ room := by unfold room; omega
    have hl := hlen_hset H r (rd bs p5)
    have aD := allD_d (ts.map D.str)
    have r1 : ∀ ys : List V, rowOf (hpush (hpush (hset H r (rd bs p9)) (.row 1 1 ys)) (rowT 0 ts)) (hlen H) 1 = some (1, ys) := fun ys => row_below H (hset H r (rd bs p9)) (hlen_hset _ _ _) 1 ys (rowT 0 ts)
    have hl9 := hlen_hset H r (rd bs p9)
    show _ = some (V.slc (hlen H) 0 0 _, hpush (hset H r (rd bs p9)) (.row 0 1 _))
    simp only [List.length_cons, List.length_nil, List.length_append, tl, Nat.zero_add, Nat.reduceAdd, List.map_cons, List.map_nil, List.cons_append, List.nil_append]
    simp [evH, -List.getD_eq_getElem?_getD, -List.map_map, f81, qk, qt, qp, q1, q2, hl, hl9, q9, a1, a2, a3, a5, a6, rm, rm2, tl, aD, r1, evO]
    omega
  · rcases List.mem_append.1 hx with hx | hx
    · simp only [List.mem_cons, List.not_mem_nil, or_false] at hx
      rcases hx with rfl | rfl | rfl <;> assumption
    · exact textsV_short bs N (p5 + 1) x hx
theorem way4 (H : Hp) (r : Nat) (bs : List Int) (p : Int) (h : hget H r = some (rd bs p)) (hb : okBytes bs) (hp : 0 ≤ p) (hp2 : p ≤ 1000000000) (hc : pickV bs (p + 2) 12 = 4) : Ways H r bs p := by
  obtain ⟨p1, hp1⟩ : ∃ q, q = p + 1 := ⟨_, rfl⟩
  obtain ⟨p2, hp2'⟩ : ∃ q, q = p1 + 1 := ⟨_, rfl⟩
  obtain ⟨p3, hp3⟩ : ∃ q, q = p2 + 1 := ⟨_, rfl⟩
  obtain ⟨kk, lk, qk⟩ := of70 H r bs p p1 h hb (by omega) (by omega) hp1
  rw [hset_same' h] at qk
  obtain ⟨tt, lt, qt⟩ := of71 H r bs p1 p2 h hb (by omega) (by omega) hp2'
  have qp := of45 H r bs p2 p3 12 h hb (by omega) (by omega) hp3
  rw [show p2 = p + 2 by omega] at qp
  rw [hc] at qp
  rw [show p + 2 = p2 by omega] at qp
  obtain ⟨p4, hp4⟩ : ∃ q, q = p3 + 1 := ⟨_, rfl⟩
  obtain ⟨t1, l1, q1⟩ := of67 H r bs p3 p4 [[76, 82, 65, 78, 71, 69], [76, 84, 82, 73, 77], [76, 83, 69, 84], [76, 82, 69, 77], [71, 69, 84, 82, 65, 78, 71, 69]] h hb (by omega) (by omega) hp4 (by simp) (by simp [*])
  simp only [txts, List.map_cons, List.map_nil] at q1
  obtain ⟨p5, hp5⟩ : ∃ q, q = p4 + 1 := ⟨_, rfl⟩
  obtain ⟨t2, l2, q2⟩ := of67 H r bs p4 p5 [[108], [108], [107]] h hb (by omega) (by omega) hp5 (by simp) (by simp [*])
  simp only [txts, List.map_cons, List.map_nil] at q2
  obtain ⟨p6, hp6⟩ : ∃ q, q = p5 + 1 := ⟨_, rfl⟩
  obtain ⟨t3, l3, q3⟩ := of72 H r bs p5 p6 h hb (by omega) (by omega) hp6
  obtain ⟨p7, hp7⟩ : ∃ q, q = p6 + 1 := ⟨_, rfl⟩
  obtain ⟨t4, l4, q4⟩ := of72 H r bs p6 p7 h hb (by omega) (by omega) hp7
  obtain ⟨p8, hp8⟩ : ∃ q, q = p7 + 1 := ⟨_, rfl⟩
  obtain ⟨t5, l5, q5⟩ := of67 H r bs p7 p8 [t4, tt] h hb (by omega) (by omega) hp8 (by simp) (by simp [*])
  simp only [txts, List.map_cons, List.map_nil] at q5
  refine ⟨[t1, t2, t3, t5], p8, ?_, by omega, by omega, by simp, by simp, by simp [*]⟩
  obtain ⟨o1, o2, o3⟩ := own_row H (hset H r (rd bs p8)) (hlen_hset _ _ _) [t1, t2, t3, t5]
  refine ev_fn (fn := f81) rfl rfl ?_
  have hl := hlen_hset H r (rd bs p8)
  simp only [rowT, List.map_cons, List.map_nil, List.length_cons, List.length_nil, Nat.zero_add, Nat.reduceAdd] at o1 o2 ⊢
  simp [evH, -List.getD_eq_getElem?_getD, -List.map_map, f81, qk, qt, qp, q1, q2, q3, q4, q5, hl, o1, o2, evO]
theorem way5 (H : Hp) (r : Nat) (bs : List Int) (p : Int) (h : hget H r = some (rd bs p)) (hb : okBytes bs) (hp : 0 ≤ p) (hp2 : p ≤ 1000000000) (hc : pickV bs (p + 2) 12 = 5) : Ways H r bs p := by
  obtain ⟨p1, hp1⟩ : ∃ q, q = p + 1 := ⟨_, rfl⟩
  obtain ⟨p2, hp2'⟩ : ∃ q, q = p1 + 1 := ⟨_, rfl⟩
  obtain ⟨p3, hp3⟩ : ∃ q, q = p2 + 1 := ⟨_, rfl⟩
  obtain ⟨kk, lk, qk⟩ := of70 H r bs p p1 h hb (by omega) (by omega) hp1
  rw [hset_same' h] at qk
  obtain ⟨tt, lt, qt⟩ := of71 H r bs p1 p2 h hb (by omega) (by omega) hp2'
  have qp := of45 H r bs p2 p3 12 h hb (by omega) (by omega) hp3
  rw [show p2 = p + 2 by omega] at qp
  rw [hc] at qp
  rw [show p + 2 = p2 by omega] at qp
  obtain ⟨p4, hp4⟩ : ∃ q, q = p3 + 1 := ⟨_, rfl⟩
  obtain ⟨t1, l1, q1⟩ := of67 H r bs p3 p4 [[83, 65, 68, 68], [83, 65, 68, 68], [83, 82, 69, 77]] h hb (by omega) (by omega) hp4 (by simp) (by simp [*])
  simp only [txts, List.map_cons, List.map_nil] at q1
  obtain ⟨p5, hp5⟩ : ∃ q, q = p4 + 1 := ⟨_, rfl⟩
  obtain ⟨t2, l2, q2⟩ := of67 H r bs p4 p5 [[115], [115, 50]] h hb (by omega) (by omega) hp5 (by simp) (by simp [*])
  simp only [txts, List.map_cons, List.map_nil] at q2
  obtain ⟨N, p9, nl, pl, q9⟩ := of73 H r bs p5 2 2 rfl ([t1, t2, tt] : List Txt) h hb (by omega) (by omega) (by omega)
  obtain ⟨a1, a2, a3, a4, a5, a6⟩ := app_row H (hset H r (rd bs p9)) (hlen_hset _ _ _) [t1, t2, tt] (textsV bs N (p5 + 1)) N (textsV_len bs N (p5 + 1))
  have tl := textsV_len bs N (p5 + 1)
  refine ⟨[t1, t2, tt] ++ textsV bs N (p5 + 1), p9, ?_, by omega, by omega, by simp, by simp [tl]; omega, fun x hx => ?_⟩
  · refine ev_fn (fn := f81) rfl rfl ?_
    have sh := textsV_short bs N (p5 + 1)
    clear sh
    generalize textsV bs N (p5 + 1) = ts at a1 a2 a3 a4 a5 a6 q9 tl ⊢
    simp only [List.map_cons, List.map_nil, List.cons_append, List.nil_append, List.length_cons, List.length_nil, txts, Nat.zero_add, Nat.reduceAdd] at a1 a2 a3 a4 a5 a6 q9 ⊢
    have rm : (N + 3) * 16 ≤ room := by unfold room; omega
    have rm2 : (3 + N) * 16 ≤ room := by unfold room; omega
    have hl := hlen_hset H r (rd bs p5)
    have aD := allD_d (ts.map D.str)
    have r1 : ∀ ys : List V, rowOf (hpush (hpush (hset H r (rd bs p9)) (.row 1 1 ys)) (rowT 0 ts)) (hlen H) 1 = some (1, ys) := fun ys => row_below H (hset H r (rd bs p9)) (hlen_hset _ _ _) 1 ys (rowT 0 ts)
    have hl9 := hlen_hset H r (rd bs p9)
    show _ = some (V.slc (hlen H) 0 0 _, hpush (hset H r (rd bs p9)) (.row 0 1 _))
    simp only [List.length_cons, List.length_nil, List.length_append, tl, Nat.zero_add, Nat.reduceAdd, List.map_cons, List.map_nil, List.cons_append, List.nil_append]
    simp [evH, -List.getD_eq_getElem?_getD, -List.map_map, f81, qk, qt, qp, q1, q2, hl, hl9, q9, a1, a2, a3, a5, a6, rm, rm2, tl, aD, r1, evO]
    omega
  · rcases List.mem_append.1 hx with hx | hx
    · simp only [List.mem_cons, List.not_mem_nil, or_false] at hx
      rcases hx with rfl | rfl | rfl <;> assumption
    · exact textsV_short bs N (p5 + 1) x hx
theorem way6 (H : Hp) (r : Nat) (bs : List Int) (p : Int) (h : hget H r = some (rd bs p)) (hb : okBytes bs) (hp : 0 ≤ p) (hp2 : p ≤ 1000000000) (hc : pickV bs (p + 2) 12 = 6) : Ways H r bs p := by
  obtain ⟨p1, hp1⟩ : ∃ q, q = p + 1 := ⟨_, rfl⟩
  obtain ⟨p2, hp2'⟩ : ∃ q, q = p1 + 1 := ⟨_, rfl⟩
  obtain ⟨p3, hp3⟩ : ∃ q, q = p2 + 1 := ⟨_, rfl⟩
  obtain ⟨kk, lk, qk⟩ := of70 H r bs p p1 h hb (by omega) (by omega) hp1
  rw [hset_same' h] at qk
  obtain ⟨tt, lt, qt⟩ := of71 H r bs p1 p2 h hb (by omega) (by omega) hp2'
  have qp := of45 H r bs p2 p3 12 h hb (by omega) (by omega) hp3
  rw [show p2 = p + 2 by omega] at qp
  rw [hc] at qp
  rw [show p + 2 = p2 by omega] at qp
  obtain ⟨p4, hp4⟩ : ∃ q, q = p3 + 1 := ⟨_, rfl⟩
  obtain ⟨t1, l1, q1⟩ := of67 H r bs p3 p4 [[83, 73, 83, 77, 69, 77, 66, 69, 82], [83, 73, 78, 84, 69, 82], [83, 85, 78, 73, 79, 78], [83, 68, 73, 70, 70]] h hb (by omega) (by omega) hp4 (by simp) (by simp [*])
  simp only [txts, List.map_cons, List.map_nil] at q1
  obtain ⟨p5, hp5⟩ : ∃ q, q = p4 + 1 := ⟨_, rfl⟩
  obtain ⟨t2, l2, q2⟩ := of67 H r bs p4 p5 [[115], [115, 50]] h hb (by omega) (by omega) hp5 (by simp) (by simp [*])
  simp only [txts, List.map_cons, List.map_nil] at q2
  obtain ⟨p6, hp6⟩ : ∃ q, q = p5 + 1 := ⟨_, rfl⟩
  obtain ⟨t3, l3, q3⟩ := of67 H r bs p5 p6 [[115], [115, 50], tt] h hb (by omega) (by omega) hp6 (by simp) (by simp [*])
  simp only [txts, List.map_cons, List.map_nil] at q3
  refine ⟨[t1, t2, t3], p6, ?_, by omega, by omega, by simp, by simp, by simp [*]⟩
  obtain ⟨o1, o2, o3⟩ := own_row H (hset H r (rd bs p6)) (hlen_hset _ _ _) [t1, t2, t3]
  refine ev_fn (fn := f81) rfl rfl ?_
  have hl := hlen_hset H r (rd bs p6)
  simp only [rowT, List.map_cons, List.map_nil, List.length_cons, List.length_nil, Nat.zero_add, Nat.reduceAdd] at o1 o2 ⊢
  simp [evH, -List.getD_eq_getElem?_getD, -List.map_map, f81, qk, qt, qp, q1, q2, q3, hl, o1, o2, evO]
theorem way7 (H : Hp) (r : Nat) (bs : List Int) (p : Int) (h : hget H r = some (rd bs p)) (hb : okBytes bs) (hp : 0 ≤ p) (hp2 : p ≤ 1000000000) (hc : pickV bs (p + 2) 12 = 7) : Ways H r bs p := by
  obtain ⟨p1, hp1⟩ : ∃ q, q = p + 1 := ⟨_, rfl⟩
  obtain ⟨p2, hp2'⟩ : ∃ q, q = p1 + 1 := ⟨_, rfl⟩
  obtain ⟨p3, hp3⟩ : ∃ q, q = p2 + 1 := ⟨_, rfl⟩
  obtain ⟨kk, lk, qk⟩ := of70 H r bs p p1 h hb (by omega) (by omega) hp1
  rw [hset_same' h] at qk
  obtain ⟨tt, lt, qt⟩ := of71 H r bs p1 p2 h hb (by omega) (by omega) hp2'
  have qp := of45 H r bs p2 p3 12 h hb (by omega) (by omega) hp3
  rw [show p2 = p + 2 by omega] at qp
  rw [hc] at qp
  rw [show p + 2 = p2 by omega] at qp
  obtain ⟨p4, hp4⟩ : ∃ q, q = p3 + 1 := ⟨_, rfl⟩
  obtain ⟨t1, l1, q1⟩ := of67 H r bs p3 p4 [[90, 65, 68, 68], [90, 65, 68, 68], [90, 73, 78, 67, 82, 66, 89], [90, 82, 65, 78, 71, 69], [90, 82, 65, 78, 71, 69, 66, 89, 83, 67, 79, 82, 69]] h hb (by omega) (by omega) hp4 (by simp) (by simp [*])
  simp only [txts, List.map_cons, List.map_nil] at q1
  obtain ⟨p5, hp5⟩ : ∃ q, q = p4 + 1 := ⟨_, rfl⟩
  obtain ⟨t2, l2, q2⟩ := of72 H r bs p4 p5 h hb (by omega) (by omega) hp5
  obtain ⟨p6, hp6⟩ : ∃ q, q = p5 + 1 := ⟨_, rfl⟩
  obtain ⟨t3, l3, q3⟩ := of72 H r bs p5 p6 h hb (by omega) (by omega) hp6
  obtain ⟨p7, hp7⟩ : ∃ q, q = p6 + 1 := ⟨_, rfl⟩
  obtain ⟨t4, l4, q4⟩ := of67 H r bs p6 p7 [tt, t3] h hb (by omega) (by omega) hp7 (by simp) (by simp [*])
  simp only [txts, List.map_cons, List.map_nil] at q4
  refine ⟨[t1, [122], t2, t4], p7, ?_, by omega, by omega, by simp, by simp, by simp [*]⟩
  obtain ⟨o1, o2, o3⟩ := own_row H (hset H r (rd bs p7)) (hlen_hset _ _ _) [t1, [122], t2, t4]
  refine ev_fn (fn := f81) rfl rfl ?_
  have hl := hlen_hset H r (rd bs p7)
  simp only [rowT, List.map_cons, List.map_nil, List.length_cons, List.length_nil, Nat.zero_add, Nat.reduceAdd] at o1 o2 ⊢
  simp [evH, -List.getD_eq_getElem?_getD, -List.map_map, f81, qk, qt, qp, q1, q2, q3, q4, hl, o1, o2, evO]
theorem way8 (H : Hp) (r : Nat) (bs : List Int) (p : Int) (h : hget H r = some (rd bs p)) (hb : okBytes bs) (hp : 0 ≤ p) (hp2 : p ≤ 1000000000) (hc : pickV bs (p + 2) 12 = 8) : Ways H r bs p := by
  obtain ⟨p1, hp1⟩ : ∃ q, q = p + 1 := ⟨_, rfl⟩
  obtain ⟨p2, hp2'⟩ : ∃ q, q = p1 + 1 := ⟨_, rfl⟩
  obtain ⟨p3, hp3⟩ : ∃ q, q = p2 + 1 := ⟨_, rfl⟩
  obtain ⟨kk, lk, qk⟩ := of70 H r bs p p1 h hb (by omega) (by omega) hp1
  rw [hset_same' h] at qk
  obtain ⟨tt, lt, qt⟩ := of71 H r bs p1 p2 h hb (by omega) (by omega) hp2'
  have qp := of45 H r bs p2 p3 12 h hb (by omega) (by omega) hp3
  rw [show p2 = p + 2 by omega] at qp
  rw [hc] at qp
  rw [show p + 2 = p2 by omega] at qp
  obtain ⟨p4, hp4⟩ : ∃ q, q = p3 + 1 := ⟨_, rfl⟩
  obtain ⟨t1, l1, q1⟩ := of67 H r bs p3 p4 [[90, 82, 69, 77], [90, 83, 67, 79, 82, 69], [90, 82, 65, 78, 75], [72, 71, 69, 84], [72, 68, 69, 76]] h hb (by omega) (by omega) hp4 (by simp) (by simp [*])
  simp only [txts, List.map_cons, List.map_nil] at q1
  obtain ⟨p5, hp5⟩ : ∃ q, q = p4 + 1 := ⟨_, rfl⟩
  obtain ⟨t2, l2, q2⟩ := of67 H r bs p4 p5 [[122], [104]] h hb (by omega) (by omega) hp5 (by simp) (by simp [*])
  simp only [txts, List.map_cons, List.map_nil] at q2
  refine ⟨[t1, t2, tt], p5, ?_, by omega, by omega, by simp, by simp, by simp [*]⟩
  obtain ⟨o1, o2, o3⟩ := own_row H (hset H r (rd bs p5)) (hlen_hset _ _ _) [t1, t2, tt]
  refine ev_fn (fn := f81) rfl rfl ?_
  have hl := hlen_hset H r (rd bs p5)
  simp only [rowT, List.map_cons, List.map_nil, List.length_cons, List.length_nil, Nat.zero_add, Nat.reduceAdd] at o1 o2 ⊢
  simp [evH, -List.getD_eq_getElem?_getD, -List.map_map, f81, qk, qt, qp, q1, q2, hl, o1, o2, evO]
theorem way9 (H : Hp) (r : Nat) (bs : List Int) (p : Int) (h : hget H r = some (rd bs p)) (hb : okBytes bs) (hp : 0 ≤ p) (hp2 : p ≤ 1000000000) (hc : pickV bs (p + 2) 12 = 9) : Ways H r bs p := by
  obtain ⟨p1, hp1⟩ : ∃ q, q = p + 1 := ⟨_, rfl⟩
  obtain ⟨p2, hp2'⟩ : ∃ q, q = p1 + 1 := ⟨_, rfl⟩
  obtain ⟨p3, hp3⟩ : ∃ q, q = p2 + 1 := ⟨_, rfl⟩
  obtain ⟨kk, lk, qk⟩ := of70 H r bs p p1 h hb (by omega) (by omega) hp1
  rw [hset_same' h] at qk
  obtain ⟨tt, lt, qt⟩ := of71 H r bs p1 p2 h hb (by omega) (by omega) hp2'
  have qp := of45 H r bs p2 p3 12 h hb (by omega) (by omega) hp3
  rw [show p2 = p + 2 by omega] at qp
  rw [hc] at qp
  rw [show p + 2 = p2 by omega] at qp
  obtain ⟨p4, hp4⟩ : ∃ q, q = p3 + 1 := ⟨_, rfl⟩
  obtain ⟨t1, l1, q1⟩ := of67 H r bs p3 p4 [[72, 83, 69, 84], [72, 83, 69, 84], [72, 73, 78, 67, 82, 66, 89]] h hb (by omega) (by omega) hp4 (by simp) (by simp [*])
  simp only [txts, List.map_cons, List.map_nil] at q1
  obtain ⟨p5, hp5⟩ : ∃ q, q = p4 + 1 := ⟨_, rfl⟩
  obtain ⟨t2, l2, q2⟩ := of67 H r bs p4 p5 [[97], [98], tt] h hb (by omega) (by omega) hp5 (by simp) (by simp [*])
  simp only [txts, List.map_cons, List.map_nil] at q2
  obtain ⟨p6, hp6⟩ : ∃ q, q = p5 + 1 := ⟨_, rfl⟩
  obtain ⟨t3, l3, q3⟩ := of72 H r bs p5 p6 h hb (by omega) (by omega) hp6
  obtain ⟨p7, hp7⟩ : ∃ q, q = p6 + 1 := ⟨_, rfl⟩
  obtain ⟨t4, l4, q4⟩ := of67 H r bs p6 p7 [tt, t3] h hb (by omega) (by omega) hp7 (by simp) (by simp [*])
  simp only [txts, List.map_cons, List.map_nil] at q4
  refine ⟨[t1, [104], t2, t4], p7, ?_, by omega, by omega, by simp, by simp, by simp [*]⟩
  obtain ⟨o1, o2, o3⟩ := own_row H (hset H r (rd bs p7)) (hlen_hset _ _ _) [t1, [104], t2, t4]
  refine ev_fn (fn := f81) rfl rfl ?_
  have hl := hlen_hset H r (rd bs p7)
  simp only [rowT, List.map_cons, List.map_nil, List.length_cons, List.length_nil, Nat.zero_add, Nat.reduceAdd] at o1 o2 ⊢
  simp [evH, -List.getD_eq_getElem?_getD, -List.map_map, f81, qk, qt, qp, q1, q2, q3, q4, hl, o1, o2, evO]
theorem way10 (H : Hp) (r : Nat) (bs : List Int) (p : Int) (h : hget H r = some (rd bs p)) (hb : okBytes bs) (hp : 0 ≤ p) (hp2 : p ≤ 1000000000) (hc : pickV bs (p + 2) 12 = 10) : Ways H r bs p := by
  obtain ⟨p1, hp1⟩ : ∃ q, q = p + 1 := ⟨_, rfl⟩
  obtain ⟨p2, hp2'⟩ : ∃ q, q = p1 + 1 := ⟨_, rfl⟩
  obtain ⟨p3, hp3⟩ : ∃ q, q = p2 + 1 := ⟨_, rfl⟩
  obtain ⟨kk, lk, qk⟩ := of70 H r bs p p1 h hb (by omega) (by omega) hp1
  rw [hset_same' h] at qk
  obtain ⟨tt, lt, qt⟩ := of71 H r bs p1 p2 h hb (by omega) (by omega) hp2'
  have qp := of45 H r bs p2 p3 12 h hb (by omega) (by omega) hp3
  rw [show p2 = p + 2 by omega] at qp
  rw [hc] at qp
  rw [show p + 2 = p2 by omega] at qp
  obtain ⟨p4, hp4⟩ : ∃ q, q = p3 + 1 := ⟨_, rfl⟩
  obtain ⟨t1, l1, q1⟩ := of67 H r bs p3 p4 [[69, 88, 80, 73, 82, 69], [69, 88, 80, 73, 82, 69, 65, 84], [82, 69, 78, 65, 77, 69]] h hb (by omega) (by omega) hp4 (by simp) (by simp [*])
  simp only [txts, List.map_cons, List.map_nil] at q1
  obtain ⟨p5, hp5⟩ : ∃ q, q = p4 + 1 := ⟨_, rfl⟩
  obtain ⟨t2, l2, q2⟩ := of67 H r bs p4 p5 [[53], [49], [49, 48, 48], [107], [108], [107, 50], [45, 49], [49, 48, 48, 48, 48, 48, 49]] h hb (by omega) (by omega) hp5 (by simp) (by simp [*])
  simp only [txts, List.map_cons, List.map_nil] at q2
  refine ⟨[t1, kk, t2], p5, ?_, by omega, by omega, by simp, by simp, by simp [*]⟩
  obtain ⟨o1, o2, o3⟩ := own_row H (hset H r (rd bs p5)) (hlen_hset _ _ _) [t1, kk, t2]
  refine ev_fn (fn := f81) rfl rfl ?_
  have hl := hlen_hset H r (rd bs p5)
  simp only [rowT, List.map_cons, List.map_nil, List.length_cons, List.length_nil, Nat.zero_add, Nat.reduceAdd] at o1 o2 ⊢
  simp [evH, -List.getD_eq_getElem?_getD, -List.map_map, f81, qk, qt, qp, q1, q2, hl, o1, o2, evO]
theorem way11 (H : Hp) (r : Nat) (bs : List Int) (p : Int) (h : hget H r = some (rd bs p)) (hb : okBytes bs) (hp : 0 ≤ p) (hp2 : p ≤ 1000000000) (hc : 11 ≤ pickV bs (p + 2) 12) : Ways H r bs p := by
  obtain ⟨p1, hp1⟩ : ∃ q, q = p + 1 := ⟨_, rfl⟩
  obtain ⟨p2, hp2'⟩ : ∃ q, q = p1 + 1 := ⟨_, rfl⟩
  obtain ⟨p3, hp3⟩ : ∃ q, q = p2 + 1 := ⟨_, rfl⟩
  obtain ⟨kk, lk, qk⟩ := of70 H r bs p p1 h hb (by omega) (by omega) hp1
  rw [hset_same' h] at qk
  obtain ⟨tt, lt, qt⟩ := of71 H r bs p1 p2 h hb (by omega) (by omega) hp2'
  have qp := of45 H r bs p2 p3 12 h hb (by omega) (by omega) hp3
  rw [show p2 = p + 2 by omega] at qp
  obtain ⟨_, pm⟩ := pickV_in bs (p + 2) 12 hb (by omega) (by omega)
  have pm := pm (by omega)
  rw [show pickV bs (p + 2) 12 = 11 by omega] at qp
  rw [show p + 2 = p2 by omega] at qp
  obtain ⟨p4, hp4⟩ : ∃ q, q = p3 + 1 := ⟨_, rfl⟩
  obtain ⟨t1, l1, q1⟩ := of67 H r bs p3 p4 [[68, 69, 76], [69, 88, 73, 83, 84, 83], [75, 69, 89, 83], [68, 66, 83, 73, 90, 69], [70, 76, 85, 83, 72], [78, 79, 78, 69], [68, 69, 76]] h hb (by omega) (by omega) hp4 (by simp) (by simp [*])
  simp only [txts, List.map_cons, List.map_nil] at q1
  obtain ⟨p5, hp5⟩ : ∃ q, q = p4 + 1 := ⟨_, rfl⟩
  obtain ⟨t2, l2, q2⟩ := of67 H r bs p4 p5 [kk, [42], [63], [107, 42], []] h hb (by omega) (by omega) hp5 (by simp) (by simp [*])
  simp only [txts, List.map_cons, List.map_nil] at q2
  obtain ⟨N, p9, nl, pl, q9⟩ := of73 H r bs p5 1 1 rfl ([t1, t2] : List Txt) h hb (by omega) (by omega) (by omega)
  obtain ⟨a1, a2, a3, a4, a5, a6⟩ := app_row H (hset H r (rd bs p9)) (hlen_hset _ _ _) [t1, t2] (textsV bs N (p5 + 1)) N (textsV_len bs N (p5 + 1))
  have tl := textsV_len bs N (p5 + 1)
  refine ⟨[t1, t2] ++ textsV bs N (p5 + 1), p9, ?_, by omega, by omega, by simp, by simp [tl]; omega, fun x hx => ?_⟩
  · refine ev_fn (fn := f81) rfl rfl ?_
    have sh := textsV_short bs N (p5 + 1)
    clear sh
    generalize textsV bs N (p5 + 1) = ts at a1 a2 a3 a4 a5 a6 q9 tl ⊢
    simp only [List.map_cons, List.map_nil, List.cons_append, List.nil_append, List.length_cons, List.length_nil, txts, Nat.zero_add, Nat.reduceAdd] at a1 a2 a3 a4 a5 a6 q9 ⊢
    have rm : (N + 2) * 16 ≤ room := by unfold room; omega
    have rm2 : (2 + N) * 16 ≤ room := by unfold room; omega
    have hl := hlen_hset H r (rd bs p5)
    have aD := allD_d (ts.map D.str)
    have r1 : ∀ ys : List V, rowOf (hpush (hpush (hset H r (rd bs p9)) (.row 1 1 ys)) (rowT 0 ts)) (hlen H) 1 = some (1, ys) := fun ys => row_below H (hset H r (rd bs p9)) (hlen_hset _ _ _) 1 ys (rowT 0 ts)
    have hl9 := hlen_hset H r (rd bs p9)
    show _ = some (V.slc (hlen H) 0 0 _, hpush (hset H r (rd bs p9)) (.row 0 1 _))
    simp only [List.length_cons, List.length_nil, List.length_append, tl, Nat.zero_add, Nat.reduceAdd, List.map_cons, List.map_nil, List.cons_append, List.nil_append]
    simp [evH, -List.getD_eq_getElem?_getD, -List.map_map, f81, qk, qt, qp, q1, q2, hl, hl9, q9, a1, a2, a3, a5, a6, rm, rm2, tl, aD, r1, evO]
    omega
  · rcases List.mem_append.1 hx with hx | hx
    · simp only [List.mem_cons, List.not_mem_nil, or_false] at hx
      rcases hx with rfl | rfl <;> assumption
    · exact textsV_short bs N (p5 + 1) x hx
theorem e_81 (H : Hp) (r : Nat) (bs : List Int) (p : Int) (h : hget H r = some (rd bs p)) (hb : okBytes bs) (hp : 0 ≤ p) (hp2 : p ≤ 1000000000) : Ways H r bs p := by
  obtain ⟨k0, k1⟩ := pickV_in bs (p + 2) 12 hb (by omega) (by omega)
  have k1 := k1 (by omega)
  have c : pickV bs (p + 2) 12 = 0 ∨ pickV bs (p + 2) 12 = 1 ∨ pickV bs (p + 2) 12 = 2 ∨ pickV bs (p + 2) 12 = 3 ∨ pickV bs (p + 2) 12 = 4 ∨ pickV bs (p + 2) 12 = 5 ∨ pickV bs (p + 2) 12 = 6 ∨ pickV bs (p + 2) 12 = 7 ∨ pickV bs (p + 2) 12 = 8 ∨ pickV bs (p + 2) 12 = 9 ∨ pickV bs (p + 2) 12 = 10 ∨ 11 ≤ pickV bs (p + 2) 12 := by omega
  rcases c with c | c | c | c | c | c | c | c | c | c | c | c
  · exact way0 H r bs p h hb hp hp2 c
  · exact way1 H r bs p h hb hp hp2 c
  · exact way2 H r bs p h hb hp hp2 c
  · exact way3 H r bs p h hb hp hp2 c
  · exact way4 H r bs p h hb hp hp2 c
  · exact way5 H r bs p h hb hp hp2 c
  · exact way6 H r bs p h hb hp hp2 c
  · exact way7 H r bs p h hb hp hp2 c
  · exact way8 H r bs p h hb hp hp2 c
  · exact way9 H r bs p h hb hp hp2 c
  · exact way10 H r bs p h hb hp hp2 c
  · exact way11 H r bs p h hb hp hp2 c
end Go.Proofs.YtjdmiodinhlchaaGreat.Code
/- The reader of a code behind other objects: draws out of it. -/
namespace Go.Proofs.YtjdmiodinhlchaaGreat.Code
open Go Go.Ev Go.Proofs
set_option maxRecDepth 100000
set_option maxHeartbeats 2000000
set_option linter.unusedSimpArgs false
set_option linter.unusedVariables false
def rh (H : Hp) (r : Nat) (bs : List Int) (q : Int) (l : Hp) : Hp := ap (hset H r (rd bs q)) l
section
variable (H l : Hp) (r : Nat) (bs : List Int) (q : Int)
theorem rh_push (o : Ev.Obj) : hpush (rh H r bs q l) o = rh H r bs q ((l : List Ev.Obj) ++ [o]) := ap_push _ _ _
theorem rh_len : hlen (rh H r bs q l) = hlen H + l.length := by unfold rh; rw [ap_len, hlen_hset]
theorem rh_get (k : Nat) : hget (rh H r bs q l) (hlen H + k) = hget l k := by
  have := ap_get (hset H r (rd bs q)) l k
  rwa [hlen_hset] at this
theorem rh_get0 : hget (rh H r bs q l) (hlen H) = hget l 0 := rh_get H l r bs q 0
theorem rh_set (k : Nat) (o : Ev.Obj) : hset (rh H r bs q l) (hlen H + k) o = rh H r bs q (hset l k o) := by
  have := ap_set (hset H r (rd bs q)) l k o
  rwa [hlen_hset] at this
theorem rh_set0 (o : Ev.Obj) : hset (rh H r bs q l) (hlen H) o = rh H r bs q (hset l 0 o) := rh_set H l r bs q 0 o
theorem rh_take : htake (rh H r bs q l) (hlen H) = hset H r (rd bs q) := by
  have := ap_take (hset H r (rd bs q)) l
  rwa [hlen_hset] at this
theorem rh_takeN (k : Nat) : htake (rh H r bs q l) (hlen H + k) = rh H r bs q (l.take k) := by
  have := ap_takeN (hset H r (rd bs q)) l k
  rwa [hlen_hset] at this
theorem rh_rd (hr : r < hlen H) : hget (rh H r bs q l) r = some (rd bs q) := by
  unfold rh
  rw [hget_at, ap, List.getElem?_append_left (by simpa [hlen_hset, hlen] using (show r < hlen (hset H r (rd bs q)) by rw [hlen_hset]; exact hr)), ← hget_at]
  exact hget_hset_self _ hr
theorem rh_move (hr : r < hlen H) (q' : Int) : hset (rh H r bs q l) r (rd bs q') = rh H r bs q' l := by
  unfold rh
  have : hlen (hset H r (rd bs q)) = (hset H r (rd bs q)).length := rfl
  rw [hset_at, ap, ap, List.set_append_left _ _ (by rw [← this, hlen_hset]; exact hr), ← hset_at, hset_hset]
theorem rh_fzC (k g i n : Nat) : fzC (hlen H) (rh H r bs q l) (.slc (hlen H + k) g i n) = (match hget l k with
    | some (.row g' e xs) => bif Nat.beq g' g then (if i + n ≤ xs.length then (match mapO (fz (hlen H) 7 (rh H r bs q l)) ((xs.drop i).take n) with | some ys => some (.d (.vals e ys)) | none => none) else none) else none
    | _ => none) := by
  have := fzC_ap (hset H r (rd bs q)) l k g i n
  rwa [hlen_hset] at this
theorem rh_fzC0 (g i n : Nat) : fzC (hlen H) (rh H r bs q l) (.slc (hlen H) g i n) = (match hget l 0 with
    | some (.row g' e xs) => bif Nat.beq g' g then (if i + n ≤ xs.length then (match mapO (fz (hlen H) 7 (rh H r bs q l)) ((xs.drop i).take n) with | some ys => some (.d (.vals e ys)) | none => none) else none) else none
    | _ => none) := rh_fzC H l r bs q 0 g i n
theorem rh_row (m k g e n : Nat) (ds : List D) (hm : m ≤ k) (h : hget l k = some (.row g e (ds.map V.d))) (hn : n = ds.length) : fzC (hlen H + m) (rh H r bs q l) (.slc (hlen H + k) g 0 n) = some (.d (.vals e ds)) := by
  have hr : rowOf (rh H r bs q l) (hlen H + k) g = some (e, ds.map V.d) := by
    unfold rowOf
    rw [rh_get, h]
    simp
  have hmm : mapO (fz (hlen H + m) 7 (rh H r bs q l)) (((ds.map V.d).drop 0).take n) = some ds := by
    rw [List.drop_zero, List.take_of_length_le (by rw [List.length_map]; omega)]
    exact mapO_fz_all (allD_d' ds)
  have := fz_row (n := hlen H + m) (d := 7) (r := hlen H + k) (g := g) (i := 0) (k := n) (by omega) hr (by rw [List.length_map]; omega) hmm
  show (if hlen H + k < hlen H + m then _ else (match fz (hlen H + m) deep _ (.slc (hlen H + k) g 0 n) with | some x => some (V.d x) | none => none)) = _
  rw [if_neg (by omega), show deep = 7 + 1 from rfl, this]
theorem rh_nil {p : Int} (h : hget H r = some (rd bs p)) : H = rh H r bs p [] := by
  unfold rh
  rw [ap_nil, hset_same' h]
theorem rh_ap (l' : Hp) : ap (rh H r bs q l) l' = rh H r bs q ((l : List Ev.Obj) ++ l') := by
  unfold rh; rw [ap_ap]
end
theorem rh_call {H l : Hp} {r : Nat} {bs : List Int} {q q' : Int} {k : Nat} {args : List V} {v : V} (hr : r < hlen H) (h : ev R k args (rh H r bs q l) = some (v, hset (rh H r bs q l) r (rd bs q'))) : ev R k args (rh H r bs q l) = some (v, rh H r bs q' l) := by
  rw [h, rh_move H l r bs q hr]
theorem rh_pick {H l : Hp} {r : Nat} {bs : List Int} {q : Int} (n : Int) (hr : r < hlen H) (hb : okBytes bs) (h0 : 0 ≤ q) (h1 : q ≤ 1000000000000) : ev R 54 [.ptr r 0 0 0, .d (.int .i64 n)] (rh H r bs q l) = some (.d (.int .i64 (pickV bs q n)), rh H r bs (q + 1) l) :=
  rh_call hr (e_54 _ r bs q n (rh_rd H l r bs q hr) hb h0 h1)
theorem rh_of {H l : Hp} {r : Nat} {bs : List Int} {q : Int} (xs : List Txt) (hr : r < hlen H) (hb : okBytes bs) (h0 : 0 ≤ q) (h1 : q ≤ 1000000000000) (hx : 0 < xs.length) : ev R 29 [.ptr r 0 0 0, .d (txts xs)] (rh H r bs q l) = some (.d (.str (ofV bs q xs)), rh H r bs (q + 1) l) :=
  rh_call hr (e_29 _ r bs q xs (rh_rd H l r bs q hr) hb h0 h1 hx)
abbrev ints (ns : List Int) : D := .vals 1 (ns.map (D.int .i64))
def oneV (bs : List Int) (q : Int) (ns : List Int) : Int := ns.getD (pickV bs q ns.length).toNat 0
theorem oneV_mem (bs : List Int) (q : Int) (ns : List Int) (hb : okBytes bs) (h0 : 0 ≤ q) (h1 : q ≤ 1000000000000) (hn : 0 < ns.length) : oneV bs q ns ∈ ns := by
  unfold oneV
  have := pickV_in bs q ns.length hb h0 h1
  have h2 := this.2 (by omega)
  have hi : (pickV bs q ns.length).toNat < ns.length := by omega
  rw [List.getD_eq_getElem?_getD, List.getElem?_eq_getElem hi]
  exact List.getElem_mem hi
theorem e_33 (H : Hp) (r : Nat) (bs : List Int) (p : Int) (ns : List Int) (h : hget H r = some (rd bs p)) (hb : okBytes bs) (hp : 0 ≤ p) (hp2 : p ≤ 1000000000000) (hx : 0 < ns.length) (hx2 : ns.length ≤ 1000000) : ev R 33 [.ptr r 0 0 0, .d (ints ns)] H = some (.d (.int .i64 (oneV bs p ns)), hset H r (rd bs (p + 1))) := by
  refine ev_fn (fn := f33) rfl rfl ?_
  have e := e_54 H r bs p ns.length h hb hp hp2
  obtain ⟨k0, k1⟩ := pickV_in bs p ns.length hb hp hp2
  have k1 := k1 (by omega)
  unfold oneV
  generalize pickV bs p ns.length = z at *
  obtain ⟨k, rfl⟩ := Int.eq_ofNat_of_zero_le k0
  have hk : k < ns.length := by omega
  have g : (ns.map (D.int .i64)).getD k .nilp = .int .i64 (ns.getD k 0) := by simp [List.getD_eq_getElem?_getD, hk]
  simp [evH, -List.getD_eq_getElem?_getD, -List.map_map, f33, e, k0, k1, hk, g, htake_hset]
theorem rh_one {H l : Hp} {r : Nat} {bs : List Int} {q : Int} (ns : List Int) (hr : r < hlen H) (hb : okBytes bs) (h0 : 0 ≤ q) (h1 : q ≤ 1000000000000) (hx : 0 < ns.length) (hx2 : ns.length ≤ 1000000) : ev R 33 [.ptr r 0 0 0, .d (ints ns)] (rh H r bs q l) = some (.d (.int .i64 (oneV bs q ns)), rh H r bs (q + 1) l) :=
  rh_call hr (e_33 _ r bs q ns (rh_rd H l r bs q hr) hb h0 h1 hx hx2)
theorem rh_order {H l : Hp} {r : Nat} {bs : List Int} {q : Int} (hr : r < hlen H) (hb : okBytes bs) (h0 : 0 ≤ q) (h1 : q ≤ 1000000000) :
    ∃ (ts : List Txt) (q' : Int), ev R 81 [.ptr r 0 0 0] (rh H r bs q l) = some (.slc (hlen H + l.length) 0 0 ts.length, rh H r bs q' ((l : List Ev.Obj) ++ [.row 0 1 ((ts.map D.str).map V.d)])) ∧ q ≤ q' ∧ q' ≤ q + 20 ∧ 1 ≤ ts.length ∧ ts.length ≤ 8 ∧ ∀ x ∈ ts, x.length ≤ 40 := by
  obtain ⟨ts, q', he, a, b, c, d, f⟩ := e_81 _ r bs q (rh_rd H l r bs q hr) hb h0 h1
  refine ⟨ts, q', ?_, a, b, c, d, f⟩
  rw [he, rh_move H l r bs q hr, rh_push, rh_len]
  rfl
end Go.Proofs.YtjdmiodinhlchaaGreat.Code
