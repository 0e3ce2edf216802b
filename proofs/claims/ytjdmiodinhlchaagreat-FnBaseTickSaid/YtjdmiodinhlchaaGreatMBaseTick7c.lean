/- Lemmas (several texts in one). -/
import Derived.Test.YtjdmiodinhlchaaGreatMBaseTick7b
/- The reference: an order as a whole. -/
namespace Go.Proofs.YtjdmiodinhlchaaGreat.Code
open Go Go.Ev Go.Proofs
set_option maxRecDepth 100000
set_option maxHeartbeats 2000000
set_option linter.unusedSimpArgs false
set_option linter.unusedVariables false
def rAct (b : Ba) (w : Txt) (r : List Txt) : Ba × Re :=
  if w = [71, 69, 84] then rGET b (r.getD 0 []) else
  if w = [83, 84, 82, 76, 69, 78] then rSTRLEN b (r.getD 0 []) else
  if w = [73, 78, 67, 82] then rADD b (r.getD 0 []) [49] else
  if w = [83, 69, 84] then rSET b (r.getD 0 []) (r.getD 1 []) else
  if w = [65, 80, 80, 69, 78, 68] then rAPPEND b (r.getD 0 []) (r.getD 1 []) else
  if w = [73, 78, 67, 82, 66, 89] then rADD b (r.getD 0 []) (r.getD 1 []) else
  if w = [71, 69, 84, 82, 65, 78, 71, 69] then rGETRANGE b (r.getD 0 []) (r.getD 1 []) (r.getD 2 []) else
  if w = [76, 80, 85, 83, 72] then rPUSH b (r.getD 0 []) true (r.drop 1) else
  if w = [82, 80, 85, 83, 72] then rPUSH b (r.getD 0 []) false (r.drop 1) else
  if w = [76, 80, 79, 80] then rPOP b (r.getD 0 []) true else
  if w = [82, 80, 79, 80] then rPOP b (r.getD 0 []) false else
  if w = [76, 76, 69, 78] then rLLEN b (r.getD 0 []) else
  if w = [76, 82, 65, 78, 71, 69] then rLRANGE b (r.getD 0 []) (r.getD 1 []) (r.getD 2 []) else
  if w = [76, 84, 82, 73, 77] then rLTRIM b (r.getD 0 []) (r.getD 1 []) (r.getD 2 []) else
  if w = [76, 83, 69, 84] then rLSET b (r.getD 0 []) (r.getD 1 []) (r.getD 2 []) else
  if w = [76, 82, 69, 77] then rLREM b (r.getD 0 []) (r.getD 1 []) (r.getD 2 []) else
  if w = [83, 65, 68, 68] then rSADD b (r.getD 0 []) (r.drop 1) else
  if w = [83, 82, 69, 77] then rSREM b (r.getD 0 []) (r.drop 1) else
  if w = [83, 77, 69, 77, 66, 69, 82, 83] then rSMEMBERS b (r.getD 0 []) else
  if w = [83, 67, 65, 82, 68] then rLLEN b (r.getD 0 []) else
  if w = [83, 73, 83, 77, 69, 77, 66, 69, 82] then rSISMEMBER b (r.getD 0 []) (r.getD 1 []) else
  if w = [83, 73, 78, 84, 69, 82] then rSINTER b (r.getD 0 []) (r.getD 1 []) else
  if w = [83, 85, 78, 73, 79, 78] then rSUNION b (r.getD 0 []) (r.getD 1 []) else
  if w = [83, 68, 73, 70, 70] then rSDIFF b (r.getD 0 []) (r.getD 1 []) else
  if w = [90, 65, 68, 68] then rZADD b (r.getD 0 []) (r.getD 1 []) (r.getD 2 []) else
  if w = [90, 73, 78, 67, 82, 66, 89] then rZINCRBY b (r.getD 0 []) (r.getD 1 []) (r.getD 2 []) else
  if w = [90, 82, 65, 78, 71, 69] then rZRANGE b (r.getD 0 []) (r.getD 1 []) (r.getD 2 []) else
  if w = [90, 82, 65, 78, 71, 69, 66, 89, 83, 67, 79, 82, 69] then rZRANGEBYSCORE b (r.getD 0 []) (r.getD 1 []) (r.getD 2 []) else
  if w = [90, 82, 69, 77] then rZREM b (r.getD 0 []) (r.getD 1 []) else
  if w = [90, 83, 67, 79, 82, 69] then rZSCORE b (r.getD 0 []) (r.getD 1 []) else
  if w = [90, 82, 65, 78, 75] then rZRANK b (r.getD 0 []) (r.getD 1 []) else
  if w = [90, 67, 65, 82, 68] then rZCARD b (r.getD 0 []) else
  if w = [72, 83, 69, 84] then rHSET b (r.getD 0 []) (r.getD 1 []) (r.getD 2 []) else
  if w = [72, 71, 69, 84] then rHGET b (r.getD 0 []) (r.getD 1 []) else
  if w = [72, 68, 69, 76] then rHDEL b (r.getD 0 []) (r.getD 1 []) else
  if w = [72, 71, 69, 84, 65, 76, 76] then rHGETALL b (r.getD 0 []) else
  if w = [72, 76, 69, 78] then rHLEN b (r.getD 0 []) else
  if w = [72, 73, 78, 67, 82, 66, 89] then rHINCRBY b (r.getD 0 []) (r.getD 1 []) (r.getD 2 []) else
  if w = [68, 69, 76] then rDEL b r else
  if w = [69, 88, 73, 83, 84, 83] then rEXISTS b r else
  if w = [84, 89, 80, 69] then rTYPE b (r.getD 0 []) else
  if w = [84, 84, 76] then rTTL b (r.getD 0 []) else
  if w = [80, 69, 82, 83, 73, 83, 84] then rPERSIST b (r.getD 0 []) else
  if w = [69, 88, 80, 73, 82, 69] then rEXPIRE b (r.getD 0 []) (r.getD 1 []) else
  if w = [69, 88, 80, 73, 82, 69, 65, 84] then rEXPIREAT b (r.getD 0 []) (r.getD 1 []) else
  if w = [82, 69, 78, 65, 77, 69] then rRENAME b (r.getD 0 []) (r.getD 1 []) else
  if w = [75, 69, 89, 83] then rKEYS b (r.getD 0 []) else
  if w = [68, 66, 83, 73, 90, 69] then rDBSIZE b else
  if w = [70, 76, 85, 83, 72] then rFLUSH b else
  (b, errRe [117, 110, 107, 110, 111, 119, 110])
def rDo (b : Ba) (args : List Txt) : Ba × Re := if readyV b args = [] then rAct b (args.getD 0 []) args.tail else (b, errRe (readyV b args))
theorem ready_len {b : Ba} {w : Txt} {r : List Txt} (h : readyV b (w :: r) = []) : (wordV w).1 ≤ (r.length : Int) + 1 ∧ (r.length : Int) + 1 ≤ (wordV w).2.1 := by
  unfold readyV at h
  have e0 : (w :: r).getD 0 [] = w := rfl
  have e2 : ((w :: r).length : Int) = (r.length : Int) + 1 := by rw [List.length_cons]; omega
  rw [e0, e2] at h
  split at h
  · simp at h
  · split at h
    · simp at h
    · rename_i h2; exact Decidable.not_not.1 h2
theorem w_82_GET (b : Ba) (r : List Txt) (hb : BaG b) (ha : ∀ x ∈ r, x.length ≤ 40) (hr : readyV b ([71, 69, 84] :: r) = []) : pureCall (ev R) 82 [.d (baD b), .d (txts ([71, 69, 84] :: r))] = some (pairD (rAct b [71, 69, 84] r)) := pureCall_eq fun H => by
  refine ev_fn (fn := f82) rfl rfl ?_
  have hl := ready_len hr
  have wv : wordV [71, 69, 84] = (2, 2, 1) := rfl
  rw [wv] at hl
  dsimp only at hl
  obtain ⟨k, rfl⟩ : ∃ k, r = [k] := by
    match r, hl with
    | [], hl => exact absurd hl (by simp)
    | [k], _ => exact ⟨k, rfl⟩
    | k :: z :: ts, hl => exact absurd hl (by simp only [List.length_cons]; omega)
  have hk : k.length ≤ 40 := ha k (by simp)
  have p1 := p_107 b ([[71, 69, 84], k]) hb.sm (by simp only [List.length_cons, List.length_nil]; omega) (by simp)
  rw [hr] at p1
  have p2 := p_109 [71, 69, 84]
  rw [wv] at p2
  have p3 := p_110_GET b k hb hk
  have re : rAct b [71, 69, 84] [k] = rGET b k := rfl
  rw [re]
  generalize rGET b k = P at *
  simp only [txts, List.map_cons, List.map_nil] at p1 p3
  simp (maxSteps := 1000000) [evL, -List.getD_eq_getElem?_getD, -List.map_map, f82, p1, p2, p3, pairD]
theorem w_82_STRLEN (b : Ba) (r : List Txt) (hb : BaG b) (ha : ∀ x ∈ r, x.length ≤ 40) (hr : readyV b ([83, 84, 82, 76, 69, 78] :: r) = []) : pureCall (ev R) 82 [.d (baD b), .d (txts ([83, 84, 82, 76, 69, 78] :: r))] = some (pairD (rAct b [83, 84, 82, 76, 69, 78] r)) := pureCall_eq fun H => by
  refine ev_fn (fn := f82) rfl rfl ?_
  have hl := ready_len hr
  have wv : wordV [83, 84, 82, 76, 69, 78] = (2, 2, 1) := rfl
  rw [wv] at hl
  dsimp only at hl
  obtain ⟨k, rfl⟩ : ∃ k, r = [k] := by
    match r, hl with
    | [], hl => exact absurd hl (by simp)
    | [k], _ => exact ⟨k, rfl⟩
    | k :: z :: ts, hl => exact absurd hl (by simp only [List.length_cons]; omega)
  have hk : k.length ≤ 40 := ha k (by simp)
  have p1 := p_107 b ([[83, 84, 82, 76, 69, 78], k]) hb.sm (by simp only [List.length_cons, List.length_nil]; omega) (by simp)
  rw [hr] at p1
  have p2 := p_109 [83, 84, 82, 76, 69, 78]
  rw [wv] at p2
  have p3 := p_110_STRLEN b k hb hk
  have re : rAct b [83, 84, 82, 76, 69, 78] [k] = rSTRLEN b k := rfl
  rw [re]
  generalize rSTRLEN b k = P at *
  simp only [txts, List.map_cons, List.map_nil] at p1 p3
  simp (maxSteps := 1000000) [evL, -List.getD_eq_getElem?_getD, -List.map_map, f82, p1, p2, p3, pairD]
theorem w_82_INCR (b : Ba) (r : List Txt) (hb : BaG b) (ha : ∀ x ∈ r, x.length ≤ 40) (hr : readyV b ([73, 78, 67, 82] :: r) = []) : pureCall (ev R) 82 [.d (baD b), .d (txts ([73, 78, 67, 82] :: r))] = some (pairD (rAct b [73, 78, 67, 82] r)) := pureCall_eq fun H => by
  refine ev_fn (fn := f82) rfl rfl ?_
  have hl := ready_len hr
  have wv : wordV [73, 78, 67, 82] = (2, 2, 1) := rfl
  rw [wv] at hl
  dsimp only at hl
  obtain ⟨k, rfl⟩ : ∃ k, r = [k] := by
    match r, hl with
    | [], hl => exact absurd hl (by simp)
    | [k], _ => exact ⟨k, rfl⟩
    | k :: z :: ts, hl => exact absurd hl (by simp only [List.length_cons]; omega)
  have hk : k.length ≤ 40 := ha k (by simp)
  have p1 := p_107 b ([[73, 78, 67, 82], k]) hb.sm (by simp only [List.length_cons, List.length_nil]; omega) (by simp)
  rw [hr] at p1
  have p2 := p_109 [73, 78, 67, 82]
  rw [wv] at p2
  have p3 := p_110_INCR b k hb hk
  have re : rAct b [73, 78, 67, 82] [k] = rADD b k [49] := rfl
  rw [re]
  generalize rADD b k [49] = P at *
  simp only [txts, List.map_cons, List.map_nil] at p1 p3
  simp (maxSteps := 1000000) [evL, -List.getD_eq_getElem?_getD, -List.map_map, f82, p1, p2, p3, pairD]
theorem w_82_SET (b : Ba) (r : List Txt) (hb : BaG b) (ha : ∀ x ∈ r, x.length ≤ 40) (hr : readyV b ([83, 69, 84] :: r) = []) : pureCall (ev R) 82 [.d (baD b), .d (txts ([83, 69, 84] :: r))] = some (pairD (rAct b [83, 69, 84] r)) := pureCall_eq fun H => by
  refine ev_fn (fn := f82) rfl rfl ?_
  have hl := ready_len hr
  have wv : wordV [83, 69, 84] = (3, 3, 0) := rfl
  rw [wv] at hl
  dsimp only at hl
  obtain ⟨k, x, rfl⟩ : ∃ k x, r = [k, x] := by
    match r, hl with
    | [], hl => exact absurd hl (by simp)
    | [a0], hl => exact absurd hl (by simp)
    | [k, x], _ => exact ⟨k, x, rfl⟩
    | k :: x :: z :: ts, hl => exact absurd hl (by simp only [List.length_cons]; omega)
  have hk : k.length ≤ 40 := ha k (by simp)
  have hx : x.length ≤ 40 := ha x (by simp)
  have p1 := p_107 b ([[83, 69, 84], k, x]) hb.sm (by simp only [List.length_cons, List.length_nil]; omega) (by simp)
  rw [hr] at p1
  have p2 := p_109 [83, 69, 84]
  rw [wv] at p2
  have p3 := p_110_SET b k x hb hk hx
  have re : rAct b [83, 69, 84] [k, x] = rSET b k x := rfl
  rw [re]
  generalize rSET b k x = P at *
  simp only [txts, List.map_cons, List.map_nil] at p1 p3
  simp (maxSteps := 1000000) [evL, -List.getD_eq_getElem?_getD, -List.map_map, f82, p1, p2, p3, pairD]
theorem w_82_APPEND (b : Ba) (r : List Txt) (hb : BaG b) (ha : ∀ x ∈ r, x.length ≤ 40) (hr : readyV b ([65, 80, 80, 69, 78, 68] :: r) = []) : pureCall (ev R) 82 [.d (baD b), .d (txts ([65, 80, 80, 69, 78, 68] :: r))] = some (pairD (rAct b [65, 80, 80, 69, 78, 68] r)) := pureCall_eq fun H => by
  refine ev_fn (fn := f82) rfl rfl ?_
  have hl := ready_len hr
  have wv : wordV [65, 80, 80, 69, 78, 68] = (3, 3, 1) := rfl
  rw [wv] at hl
  dsimp only at hl
  obtain ⟨k, x, rfl⟩ : ∃ k x, r = [k, x] := by
    match r, hl with
    | [], hl => exact absurd hl (by simp)
    | [a0], hl => exact absurd hl (by simp)
    | [k, x], _ => exact ⟨k, x, rfl⟩
    | k :: x :: z :: ts, hl => exact absurd hl (by simp only [List.length_cons]; omega)
  have hk : k.length ≤ 40 := ha k (by simp)
  have hx : x.length ≤ 40 := ha x (by simp)
  have p1 := p_107 b ([[65, 80, 80, 69, 78, 68], k, x]) hb.sm (by simp only [List.length_cons, List.length_nil]; omega) (by simp)
  rw [hr] at p1
  have p2 := p_109 [65, 80, 80, 69, 78, 68]
  rw [wv] at p2
  have p3 := p_110_APPEND b k x hb hk hx
  have re : rAct b [65, 80, 80, 69, 78, 68] [k, x] = rAPPEND b k x := rfl
  rw [re]
  generalize rAPPEND b k x = P at *
  simp only [txts, List.map_cons, List.map_nil] at p1 p3
  simp (maxSteps := 1000000) [evL, -List.getD_eq_getElem?_getD, -List.map_map, f82, p1, p2, p3, pairD]
theorem w_82_INCRBY (b : Ba) (r : List Txt) (hb : BaG b) (ha : ∀ x ∈ r, x.length ≤ 40) (hr : readyV b ([73, 78, 67, 82, 66, 89] :: r) = []) : pureCall (ev R) 82 [.d (baD b), .d (txts ([73, 78, 67, 82, 66, 89] :: r))] = some (pairD (rAct b [73, 78, 67, 82, 66, 89] r)) := pureCall_eq fun H => by
  refine ev_fn (fn := f82) rfl rfl ?_
  have hl := ready_len hr
  have wv : wordV [73, 78, 67, 82, 66, 89] = (3, 3, 1) := rfl
  rw [wv] at hl
  dsimp only at hl
  obtain ⟨k, x, rfl⟩ : ∃ k x, r = [k, x] := by
    match r, hl with
    | [], hl => exact absurd hl (by simp)
    | [a0], hl => exact absurd hl (by simp)
    | [k, x], _ => exact ⟨k, x, rfl⟩
    | k :: x :: z :: ts, hl => exact absurd hl (by simp only [List.length_cons]; omega)
  have hk : k.length ≤ 40 := ha k (by simp)
  have hx : x.length ≤ 40 := ha x (by simp)
  have p1 := p_107 b ([[73, 78, 67, 82, 66, 89], k, x]) hb.sm (by simp only [List.length_cons, List.length_nil]; omega) (by simp)
  rw [hr] at p1
  have p2 := p_109 [73, 78, 67, 82, 66, 89]
  rw [wv] at p2
  have p3 := p_110_INCRBY b k x hb hk hx
  have re : rAct b [73, 78, 67, 82, 66, 89] [k, x] = rADD b k x := rfl
  rw [re]
  generalize rADD b k x = P at *
  simp only [txts, List.map_cons, List.map_nil] at p1 p3
  simp (maxSteps := 1000000) [evL, -List.getD_eq_getElem?_getD, -List.map_map, f82, p1, p2, p3, pairD]
theorem w_82_GETRANGE (b : Ba) (r : List Txt) (hb : BaG b) (ha : ∀ x ∈ r, x.length ≤ 40) (hr : readyV b ([71, 69, 84, 82, 65, 78, 71, 69] :: r) = []) : pureCall (ev R) 82 [.d (baD b), .d (txts ([71, 69, 84, 82, 65, 78, 71, 69] :: r))] = some (pairD (rAct b [71, 69, 84, 82, 65, 78, 71, 69] r)) := pureCall_eq fun H => by
  refine ev_fn (fn := f82) rfl rfl ?_
  have hl := ready_len hr
  have wv : wordV [71, 69, 84, 82, 65, 78, 71, 69] = (4, 4, 1) := rfl
  rw [wv] at hl
  dsimp only at hl
  obtain ⟨k, x, y, rfl⟩ : ∃ k x y, r = [k, x, y] := by
    match r, hl with
    | [], hl => exact absurd hl (by simp)
    | [a0], hl => exact absurd hl (by simp)
    | [a0, a1], hl => exact absurd hl (by simp)
    | [k, x, y], _ => exact ⟨k, x, y, rfl⟩
    | k :: x :: y :: z :: ts, hl => exact absurd hl (by simp only [List.length_cons]; omega)
  have hk : k.length ≤ 40 := ha k (by simp)
  have hx : x.length ≤ 40 := ha x (by simp)
  have hy : y.length ≤ 40 := ha y (by simp)
  have p1 := p_107 b ([[71, 69, 84, 82, 65, 78, 71, 69], k, x, y]) hb.sm (by simp only [List.length_cons, List.length_nil]; omega) (by simp)
  rw [hr] at p1
  have p2 := p_109 [71, 69, 84, 82, 65, 78, 71, 69]
  rw [wv] at p2
  have p3 := p_110_GETRANGE b k x y hb hk hx hy
  have re : rAct b [71, 69, 84, 82, 65, 78, 71, 69] [k, x, y] = rGETRANGE b k x y := rfl
  rw [re]
  generalize rGETRANGE b k x y = P at *
  simp only [txts, List.map_cons, List.map_nil] at p1 p3
  simp (maxSteps := 1000000) [evL, -List.getD_eq_getElem?_getD, -List.map_map, f82, p1, p2, p3, pairD]
theorem w_82_LPUSH (b : Ba) (r : List Txt) (hb : BaG b) (ha : ∀ x ∈ r, x.length ≤ 40) (hr : readyV b ([76, 80, 85, 83, 72] :: r) = []) : pureCall (ev R) 82 [.d (baD b), .d (txts ([76, 80, 85, 83, 72] :: r))] = some (pairD (rAct b [76, 80, 85, 83, 72] r)) := pureCall_eq fun H => by
  refine ev_fn (fn := f82) rfl rfl ?_
  have hl := ready_len hr
  have wv : wordV [76, 80, 85, 83, 72] = (3, 8, 2) := rfl
  rw [wv] at hl
  dsimp only at hl
  obtain ⟨k, ts, rfl⟩ : ∃ k ts, r = k :: ts := by
    match r, hl with
    | [], hl => simp at hl
    | k :: ts, _ => exact ⟨k, ts, rfl⟩
  simp only [List.length_cons] at hl
  have hk : k.length ≤ 40 := ha k (by simp)
  have c00 : (0 : Int) < (ts.length : Int) + 1 + 1 := by omega
  have p1 := p_107 b ([76, 80, 85, 83, 72] :: k :: ts) hb.sm (by simp only [List.length_cons, List.length_nil]; omega) (by simp)
  rw [hr] at p1
  have p2 := p_109 [76, 80, 85, 83, 72]
  rw [wv] at p2
  have p3 := p_111_LPUSH b k ts hb hk (by omega)
  have re : rAct b [76, 80, 85, 83, 72] (k :: ts) = rPUSH b k true ts := rfl
  rw [re]
  generalize rPUSH b k true ts = P at *
  simp only [txts, List.map_cons, List.map_nil] at p1 p3
  simp (maxSteps := 1000000) [evL, -List.getD_eq_getElem?_getD, -List.map_map, f82, p1, p2, p3, pairD, c00]
theorem w_82_RPUSH (b : Ba) (r : List Txt) (hb : BaG b) (ha : ∀ x ∈ r, x.length ≤ 40) (hr : readyV b ([82, 80, 85, 83, 72] :: r) = []) : pureCall (ev R) 82 [.d (baD b), .d (txts ([82, 80, 85, 83, 72] :: r))] = some (pairD (rAct b [82, 80, 85, 83, 72] r)) := pureCall_eq fun H => by
  refine ev_fn (fn := f82) rfl rfl ?_
  have hl := ready_len hr
  have wv : wordV [82, 80, 85, 83, 72] = (3, 8, 2) := rfl
  rw [wv] at hl
  dsimp only at hl
  obtain ⟨k, ts, rfl⟩ : ∃ k ts, r = k :: ts := by
    match r, hl with
    | [], hl => simp at hl
    | k :: ts, _ => exact ⟨k, ts, rfl⟩
  simp only [List.length_cons] at hl
  have hk : k.length ≤ 40 := ha k (by simp)
  have c00 : (0 : Int) < (ts.length : Int) + 1 + 1 := by omega
  have p1 := p_107 b ([82, 80, 85, 83, 72] :: k :: ts) hb.sm (by simp only [List.length_cons, List.length_nil]; omega) (by simp)
  rw [hr] at p1
  have p2 := p_109 [82, 80, 85, 83, 72]
  rw [wv] at p2
  have p3 := p_111_RPUSH b k ts hb hk (by omega)
  have re : rAct b [82, 80, 85, 83, 72] (k :: ts) = rPUSH b k false ts := rfl
  rw [re]
  generalize rPUSH b k false ts = P at *
  simp only [txts, List.map_cons, List.map_nil] at p1 p3
  simp (maxSteps := 1000000) [evL, -List.getD_eq_getElem?_getD, -List.map_map, f82, p1, p2, p3, pairD, c00]
theorem w_82_LPOP (b : Ba) (r : List Txt) (hb : BaG b) (ha : ∀ x ∈ r, x.length ≤ 40) (hr : readyV b ([76, 80, 79, 80] :: r) = []) : pureCall (ev R) 82 [.d (baD b), .d (txts ([76, 80, 79, 80] :: r))] = some (pairD (rAct b [76, 80, 79, 80] r)) := pureCall_eq fun H => by
  refine ev_fn (fn := f82) rfl rfl ?_
  have hl := ready_len hr
  have wv : wordV [76, 80, 79, 80] = (2, 2, 2) := rfl
  rw [wv] at hl
  dsimp only at hl
  obtain ⟨k, rfl⟩ : ∃ k, r = [k] := by
    match r, hl with
    | [], hl => exact absurd hl (by simp)
    | [k], _ => exact ⟨k, rfl⟩
    | k :: z :: ts, hl => exact absurd hl (by simp only [List.length_cons]; omega)
  have hk : k.length ≤ 40 := ha k (by simp)
  have p1 := p_107 b ([[76, 80, 79, 80], k]) hb.sm (by simp only [List.length_cons, List.length_nil]; omega) (by simp)
  rw [hr] at p1
  have p2 := p_109 [76, 80, 79, 80]
  rw [wv] at p2
  have p3 := p_111_LPOP b k hb hk
  have re : rAct b [76, 80, 79, 80] [k] = rPOP b k true := rfl
  rw [re]
  generalize rPOP b k true = P at *
  simp only [txts, List.map_cons, List.map_nil] at p1 p3
  simp (maxSteps := 1000000) [evL, -List.getD_eq_getElem?_getD, -List.map_map, f82, p1, p2, p3, pairD]
theorem w_82_RPOP (b : Ba) (r : List Txt) (hb : BaG b) (ha : ∀ x ∈ r, x.length ≤ 40) (hr : readyV b ([82, 80, 79, 80] :: r) = []) : pureCall (ev R) 82 [.d (baD b), .d (txts ([82, 80, 79, 80] :: r))] = some (pairD (rAct b [82, 80, 79, 80] r)) := pureCall_eq fun H => by
  refine ev_fn (fn := f82) rfl rfl ?_
  have hl := ready_len hr
  have wv : wordV [82, 80, 79, 80] = (2, 2, 2) := rfl
  rw [wv] at hl
  dsimp only at hl
  obtain ⟨k, rfl⟩ : ∃ k, r = [k] := by
    match r, hl with
    | [], hl => exact absurd hl (by simp)
    | [k], _ => exact ⟨k, rfl⟩
    | k :: z :: ts, hl => exact absurd hl (by simp only [List.length_cons]; omega)
  have hk : k.length ≤ 40 := ha k (by simp)
  have p1 := p_107 b ([[82, 80, 79, 80], k]) hb.sm (by simp only [List.length_cons, List.length_nil]; omega) (by simp)
  rw [hr] at p1
  have p2 := p_109 [82, 80, 79, 80]
  rw [wv] at p2
  have p3 := p_111_RPOP b k hb hk
  have re : rAct b [82, 80, 79, 80] [k] = rPOP b k false := rfl
  rw [re]
  generalize rPOP b k false = P at *
  simp only [txts, List.map_cons, List.map_nil] at p1 p3
  simp (maxSteps := 1000000) [evL, -List.getD_eq_getElem?_getD, -List.map_map, f82, p1, p2, p3, pairD]
theorem w_82_LLEN (b : Ba) (r : List Txt) (hb : BaG b) (ha : ∀ x ∈ r, x.length ≤ 40) (hr : readyV b ([76, 76, 69, 78] :: r) = []) : pureCall (ev R) 82 [.d (baD b), .d (txts ([76, 76, 69, 78] :: r))] = some (pairD (rAct b [76, 76, 69, 78] r)) := pureCall_eq fun H => by
  refine ev_fn (fn := f82) rfl rfl ?_
  have hl := ready_len hr
  have wv : wordV [76, 76, 69, 78] = (2, 2, 2) := rfl
  rw [wv] at hl
  dsimp only at hl
  obtain ⟨k, rfl⟩ : ∃ k, r = [k] := by
    match r, hl with
    | [], hl => exact absurd hl (by simp)
    | [k], _ => exact ⟨k, rfl⟩
    | k :: z :: ts, hl => exact absurd hl (by simp only [List.length_cons]; omega)
  have hk : k.length ≤ 40 := ha k (by simp)
  have p1 := p_107 b ([[76, 76, 69, 78], k]) hb.sm (by simp only [List.length_cons, List.length_nil]; omega) (by simp)
  rw [hr] at p1
  have p2 := p_109 [76, 76, 69, 78]
  rw [wv] at p2
  have p3 := p_111_LLEN b k hb hk
  have re : rAct b [76, 76, 69, 78] [k] = rLLEN b k := rfl
  rw [re]
  generalize rLLEN b k = P at *
  simp only [txts, List.map_cons, List.map_nil] at p1 p3
  simp (maxSteps := 1000000) [evL, -List.getD_eq_getElem?_getD, -List.map_map, f82, p1, p2, p3, pairD]
theorem w_82_LRANGE (b : Ba) (r : List Txt) (hb : BaG b) (ha : ∀ x ∈ r, x.length ≤ 40) (hr : readyV b ([76, 82, 65, 78, 71, 69] :: r) = []) : pureCall (ev R) 82 [.d (baD b), .d (txts ([76, 82, 65, 78, 71, 69] :: r))] = some (pairD (rAct b [76, 82, 65, 78, 71, 69] r)) := pureCall_eq fun H => by
  refine ev_fn (fn := f82) rfl rfl ?_
  have hl := ready_len hr
  have wv : wordV [76, 82, 65, 78, 71, 69] = (4, 4, 2) := rfl
  rw [wv] at hl
  dsimp only at hl
  obtain ⟨k, x, y, rfl⟩ : ∃ k x y, r = [k, x, y] := by
    match r, hl with
    | [], hl => exact absurd hl (by simp)
    | [a0], hl => exact absurd hl (by simp)
    | [a0, a1], hl => exact absurd hl (by simp)
    | [k, x, y], _ => exact ⟨k, x, y, rfl⟩
    | k :: x :: y :: z :: ts, hl => exact absurd hl (by simp only [List.length_cons]; omega)
  have hk : k.length ≤ 40 := ha k (by simp)
  have hx : x.length ≤ 40 := ha x (by simp)
  have hy : y.length ≤ 40 := ha y (by simp)
  have p1 := p_107 b ([[76, 82, 65, 78, 71, 69], k, x, y]) hb.sm (by simp only [List.length_cons, List.length_nil]; omega) (by simp)
  rw [hr] at p1
  have p2 := p_109 [76, 82, 65, 78, 71, 69]
  rw [wv] at p2
  have p3 := p_111_LRANGE b k x y hb hk hx hy
  have re : rAct b [76, 82, 65, 78, 71, 69] [k, x, y] = rLRANGE b k x y := rfl
  rw [re]
  generalize rLRANGE b k x y = P at *
  simp only [txts, List.map_cons, List.map_nil] at p1 p3
  simp (maxSteps := 1000000) [evL, -List.getD_eq_getElem?_getD, -List.map_map, f82, p1, p2, p3, pairD]
theorem w_82_LTRIM (b : Ba) (r : List Txt) (hb : BaG b) (ha : ∀ x ∈ r, x.length ≤ 40) (hr : readyV b ([76, 84, 82, 73, 77] :: r) = []) : pureCall (ev R) 82 [.d (baD b), .d (txts ([76, 84, 82, 73, 77] :: r))] = some (pairD (rAct b [76, 84, 82, 73, 77] r)) := pureCall_eq fun H => by
  refine ev_fn (fn := f82) rfl rfl ?_
  have hl := ready_len hr
  have wv : wordV [76, 84, 82, 73, 77] = (4, 4, 2) := rfl
  rw [wv] at hl
  dsimp only at hl
  obtain ⟨k, x, y, rfl⟩ : ∃ k x y, r = [k, x, y] := by
    match r, hl with
    | [], hl => exact absurd hl (by simp)
    | [a0], hl => exact absurd hl (by simp)
    | [a0, a1], hl => exact absurd hl (by simp)
    | [k, x, y], _ => exact ⟨k, x, y, rfl⟩
    | k :: x :: y :: z :: ts, hl => exact absurd hl (by simp only [List.length_cons]; omega)
  have hk : k.length ≤ 40 := ha k (by simp)
  have hx : x.length ≤ 40 := ha x (by simp)
  have hy : y.length ≤ 40 := ha y (by simp)
  have p1 := p_107 b ([[76, 84, 82, 73, 77], k, x, y]) hb.sm (by simp only [List.length_cons, List.length_nil]; omega) (by simp)
  rw [hr] at p1
  have p2 := p_109 [76, 84, 82, 73, 77]
  rw [wv] at p2
  have p3 := p_111_LTRIM b k x y hb hk hx hy
  have re : rAct b [76, 84, 82, 73, 77] [k, x, y] = rLTRIM b k x y := rfl
  rw [re]
  generalize rLTRIM b k x y = P at *
  simp only [txts, List.map_cons, List.map_nil] at p1 p3
  simp (maxSteps := 1000000) [evL, -List.getD_eq_getElem?_getD, -List.map_map, f82, p1, p2, p3, pairD]
theorem w_82_LSET (b : Ba) (r : List Txt) (hb : BaG b) (ha : ∀ x ∈ r, x.length ≤ 40) (hr : readyV b ([76, 83, 69, 84] :: r) = []) : pureCall (ev R) 82 [.d (baD b), .d (txts ([76, 83, 69, 84] :: r))] = some (pairD (rAct b [76, 83, 69, 84] r)) := pureCall_eq fun H => by
  refine ev_fn (fn := f82) rfl rfl ?_
  have hl := ready_len hr
  have wv : wordV [76, 83, 69, 84] = (4, 4, 2) := rfl
  rw [wv] at hl
  dsimp only at hl
  obtain ⟨k, x, y, rfl⟩ : ∃ k x y, r = [k, x, y] := by
    match r, hl with
    | [], hl => exact absurd hl (by simp)
    | [a0], hl => exact absurd hl (by simp)
    | [a0, a1], hl => exact absurd hl (by simp)
    | [k, x, y], _ => exact ⟨k, x, y, rfl⟩
    | k :: x :: y :: z :: ts, hl => exact absurd hl (by simp only [List.length_cons]; omega)
  have hk : k.length ≤ 40 := ha k (by simp)
  have hx : x.length ≤ 40 := ha x (by simp)
  have hy : y.length ≤ 40 := ha y (by simp)
  have p1 := p_107 b ([[76, 83, 69, 84], k, x, y]) hb.sm (by simp only [List.length_cons, List.length_nil]; omega) (by simp)
  rw [hr] at p1
  have p2 := p_109 [76, 83, 69, 84]
  rw [wv] at p2
  have p3 := p_111_LSET b k x y hb hk hx hy
  have re : rAct b [76, 83, 69, 84] [k, x, y] = rLSET b k x y := rfl
  rw [re]
  generalize rLSET b k x y = P at *
  simp only [txts, List.map_cons, List.map_nil] at p1 p3
  simp (maxSteps := 1000000) [evL, -List.getD_eq_getElem?_getD, -List.map_map, f82, p1, p2, p3, pairD]
theorem w_82_LREM (b : Ba) (r : List Txt) (hb : BaG b) (ha : ∀ x ∈ r, x.length ≤ 40) (hr : readyV b ([76, 82, 69, 77] :: r) = []) : pureCall (ev R) 82 [.d (baD b), .d (txts ([76, 82, 69, 77] :: r))] = some (pairD (rAct b [76, 82, 69, 77] r)) := pureCall_eq fun H => by
  refine ev_fn (fn := f82) rfl rfl ?_
  have hl := ready_len hr
  have wv : wordV [76, 82, 69, 77] = (4, 4, 2) := rfl
  rw [wv] at hl
  dsimp only at hl
  obtain ⟨k, x, y, rfl⟩ : ∃ k x y, r = [k, x, y] := by
    match r, hl with
    | [], hl => exact absurd hl (by simp)
    | [a0], hl => exact absurd hl (by simp)
    | [a0, a1], hl => exact absurd hl (by simp)
    | [k, x, y], _ => exact ⟨k, x, y, rfl⟩
    | k :: x :: y :: z :: ts, hl => exact absurd hl (by simp only [List.length_cons]; omega)
  have hk : k.length ≤ 40 := ha k (by simp)
  have hx : x.length ≤ 40 := ha x (by simp)
  have hy : y.length ≤ 40 := ha y (by simp)
  have p1 := p_107 b ([[76, 82, 69, 77], k, x, y]) hb.sm (by simp only [List.length_cons, List.length_nil]; omega) (by simp)
  rw [hr] at p1
  have p2 := p_109 [76, 82, 69, 77]
  rw [wv] at p2
  have p3 := p_111_LREM b k x y hb hk hx hy
  have re : rAct b [76, 82, 69, 77] [k, x, y] = rLREM b k x y := rfl
  rw [re]
  generalize rLREM b k x y = P at *
  simp only [txts, List.map_cons, List.map_nil] at p1 p3
  simp (maxSteps := 1000000) [evL, -List.getD_eq_getElem?_getD, -List.map_map, f82, p1, p2, p3, pairD]
theorem w_82_SADD (b : Ba) (r : List Txt) (hb : BaG b) (ha : ∀ x ∈ r, x.length ≤ 40) (hr : readyV b ([83, 65, 68, 68] :: r) = []) : pureCall (ev R) 82 [.d (baD b), .d (txts ([83, 65, 68, 68] :: r))] = some (pairD (rAct b [83, 65, 68, 68] r)) := pureCall_eq fun H => by
  refine ev_fn (fn := f82) rfl rfl ?_
  have hl := ready_len hr
  have wv : wordV [83, 65, 68, 68] = (3, 8, 3) := rfl
  rw [wv] at hl
  dsimp only at hl
  obtain ⟨k, ts, rfl⟩ : ∃ k ts, r = k :: ts := by
    match r, hl with
    | [], hl => simp at hl
    | k :: ts, _ => exact ⟨k, ts, rfl⟩
  simp only [List.length_cons] at hl
  have hk : k.length ≤ 40 := ha k (by simp)
  have c00 : (0 : Int) < (ts.length : Int) + 1 + 1 := by omega
  have p1 := p_107 b ([83, 65, 68, 68] :: k :: ts) hb.sm (by simp only [List.length_cons, List.length_nil]; omega) (by simp)
  rw [hr] at p1
  have p2 := p_109 [83, 65, 68, 68]
  rw [wv] at p2
  have p3 := p_112_SADD b k ts hb hk (by omega)
  have re : rAct b [83, 65, 68, 68] (k :: ts) = rSADD b k ts := rfl
  rw [re]
  generalize rSADD b k ts = P at *
  simp only [txts, List.map_cons, List.map_nil] at p1 p3
  simp (maxSteps := 1000000) [evL, -List.getD_eq_getElem?_getD, -List.map_map, f82, p1, p2, p3, pairD, c00]
theorem w_82_SREM (b : Ba) (r : List Txt) (hb : BaG b) (ha : ∀ x ∈ r, x.length ≤ 40) (hr : readyV b ([83, 82, 69, 77] :: r) = []) : pureCall (ev R) 82 [.d (baD b), .d (txts ([83, 82, 69, 77] :: r))] = some (pairD (rAct b [83, 82, 69, 77] r)) := pureCall_eq fun H => by
  refine ev_fn (fn := f82) rfl rfl ?_
  have hl := ready_len hr
  have wv : wordV [83, 82, 69, 77] = (3, 8, 3) := rfl
  rw [wv] at hl
  dsimp only at hl
  obtain ⟨k, ts, rfl⟩ : ∃ k ts, r = k :: ts := by
    match r, hl with
    | [], hl => simp at hl
    | k :: ts, _ => exact ⟨k, ts, rfl⟩
  simp only [List.length_cons] at hl
  have hk : k.length ≤ 40 := ha k (by simp)
  have c00 : (0 : Int) < (ts.length : Int) + 1 + 1 := by omega
  have p1 := p_107 b ([83, 82, 69, 77] :: k :: ts) hb.sm (by simp only [List.length_cons, List.length_nil]; omega) (by simp)
  rw [hr] at p1
  have p2 := p_109 [83, 82, 69, 77]
  rw [wv] at p2
  have p3 := p_112_SREM b k ts hb hk (by omega)
  have re : rAct b [83, 82, 69, 77] (k :: ts) = rSREM b k ts := rfl
  rw [re]
  generalize rSREM b k ts = P at *
  simp only [txts, List.map_cons, List.map_nil] at p1 p3
  simp (maxSteps := 1000000) [evL, -List.getD_eq_getElem?_getD, -List.map_map, f82, p1, p2, p3, pairD, c00]
theorem w_82_SMEMBERS (b : Ba) (r : List Txt) (hb : BaG b) (ha : ∀ x ∈ r, x.length ≤ 40) (hr : readyV b ([83, 77, 69, 77, 66, 69, 82, 83] :: r) = []) : pureCall (ev R) 82 [.d (baD b), .d (txts ([83, 77, 69, 77, 66, 69, 82, 83] :: r))] = some (pairD (rAct b [83, 77, 69, 77, 66, 69, 82, 83] r)) := pureCall_eq fun H => by
  refine ev_fn (fn := f82) rfl rfl ?_
  have hl := ready_len hr
  have wv : wordV [83, 77, 69, 77, 66, 69, 82, 83] = (2, 2, 3) := rfl
  rw [wv] at hl
  dsimp only at hl
  obtain ⟨k, rfl⟩ : ∃ k, r = [k] := by
    match r, hl with
    | [], hl => exact absurd hl (by simp)
    | [k], _ => exact ⟨k, rfl⟩
    | k :: z :: ts, hl => exact absurd hl (by simp only [List.length_cons]; omega)
  have hk : k.length ≤ 40 := ha k (by simp)
  have p1 := p_107 b ([[83, 77, 69, 77, 66, 69, 82, 83], k]) hb.sm (by simp only [List.length_cons, List.length_nil]; omega) (by simp)
  rw [hr] at p1
  have p2 := p_109 [83, 77, 69, 77, 66, 69, 82, 83]
  rw [wv] at p2
  have p3 := p_112_SMEMBERS b k hb hk
  have re : rAct b [83, 77, 69, 77, 66, 69, 82, 83] [k] = rSMEMBERS b k := rfl
  rw [re]
  generalize rSMEMBERS b k = P at *
  simp only [txts, List.map_cons, List.map_nil] at p1 p3
  simp (maxSteps := 1000000) [evL, -List.getD_eq_getElem?_getD, -List.map_map, f82, p1, p2, p3, pairD]
theorem w_82_SCARD (b : Ba) (r : List Txt) (hb : BaG b) (ha : ∀ x ∈ r, x.length ≤ 40) (hr : readyV b ([83, 67, 65, 82, 68] :: r) = []) : pureCall (ev R) 82 [.d (baD b), .d (txts ([83, 67, 65, 82, 68] :: r))] = some (pairD (rAct b [83, 67, 65, 82, 68] r)) := pureCall_eq fun H => by
  refine ev_fn (fn := f82) rfl rfl ?_
  have hl := ready_len hr
  have wv : wordV [83, 67, 65, 82, 68] = (2, 2, 3) := rfl
  rw [wv] at hl
  dsimp only at hl
  obtain ⟨k, rfl⟩ : ∃ k, r = [k] := by
    match r, hl with
    | [], hl => exact absurd hl (by simp)
    | [k], _ => exact ⟨k, rfl⟩
    | k :: z :: ts, hl => exact absurd hl (by simp only [List.length_cons]; omega)
  have hk : k.length ≤ 40 := ha k (by simp)
  have p1 := p_107 b ([[83, 67, 65, 82, 68], k]) hb.sm (by simp only [List.length_cons, List.length_nil]; omega) (by simp)
  rw [hr] at p1
  have p2 := p_109 [83, 67, 65, 82, 68]
  rw [wv] at p2
  have p3 := p_112_SCARD b k hb hk
  have re : rAct b [83, 67, 65, 82, 68] [k] = rLLEN b k := rfl
  rw [re]
  generalize rLLEN b k = P at *
  simp only [txts, List.map_cons, List.map_nil] at p1 p3
  simp (maxSteps := 1000000) [evL, -List.getD_eq_getElem?_getD, -List.map_map, f82, p1, p2, p3, pairD]
theorem w_82_SISMEMBER (b : Ba) (r : List Txt) (hb : BaG b) (ha : ∀ x ∈ r, x.length ≤ 40) (hr : readyV b ([83, 73, 83, 77, 69, 77, 66, 69, 82] :: r) = []) : pureCall (ev R) 82 [.d (baD b), .d (txts ([83, 73, 83, 77, 69, 77, 66, 69, 82] :: r))] = some (pairD (rAct b [83, 73, 83, 77, 69, 77, 66, 69, 82] r)) := pureCall_eq fun H => by
  refine ev_fn (fn := f82) rfl rfl ?_
  have hl := ready_len hr
  have wv : wordV [83, 73, 83, 77, 69, 77, 66, 69, 82] = (3, 3, 3) := rfl
  rw [wv] at hl
  dsimp only at hl
  obtain ⟨k, x, rfl⟩ : ∃ k x, r = [k, x] := by
    match r, hl with
    | [], hl => exact absurd hl (by simp)
    | [a0], hl => exact absurd hl (by simp)
    | [k, x], _ => exact ⟨k, x, rfl⟩
    | k :: x :: z :: ts, hl => exact absurd hl (by simp only [List.length_cons]; omega)
  have hk : k.length ≤ 40 := ha k (by simp)
  have hx : x.length ≤ 40 := ha x (by simp)
  have p1 := p_107 b ([[83, 73, 83, 77, 69, 77, 66, 69, 82], k, x]) hb.sm (by simp only [List.length_cons, List.length_nil]; omega) (by simp)
  rw [hr] at p1
  have p2 := p_109 [83, 73, 83, 77, 69, 77, 66, 69, 82]
  rw [wv] at p2
  have p3 := p_112_SISMEMBER b k x hb hk hx
  have re : rAct b [83, 73, 83, 77, 69, 77, 66, 69, 82] [k, x] = rSISMEMBER b k x := rfl
  rw [re]
  generalize rSISMEMBER b k x = P at *
  simp only [txts, List.map_cons, List.map_nil] at p1 p3
  simp (maxSteps := 1000000) [evL, -List.getD_eq_getElem?_getD, -List.map_map, f82, p1, p2, p3, pairD]
theorem w_82_SINTER (b : Ba) (r : List Txt) (hb : BaG b) (ha : ∀ x ∈ r, x.length ≤ 40) (hr : readyV b ([83, 73, 78, 84, 69, 82] :: r) = []) : pureCall (ev R) 82 [.d (baD b), .d (txts ([83, 73, 78, 84, 69, 82] :: r))] = some (pairD (rAct b [83, 73, 78, 84, 69, 82] r)) := pureCall_eq fun H => by
  refine ev_fn (fn := f82) rfl rfl ?_
  have hl := ready_len hr
  have wv : wordV [83, 73, 78, 84, 69, 82] = (3, 3, 3) := rfl
  rw [wv] at hl
  dsimp only at hl
  obtain ⟨k, x, rfl⟩ : ∃ k x, r = [k, x] := by
    match r, hl with
    | [], hl => exact absurd hl (by simp)
    | [a0], hl => exact absurd hl (by simp)
    | [k, x], _ => exact ⟨k, x, rfl⟩
    | k :: x :: z :: ts, hl => exact absurd hl (by simp only [List.length_cons]; omega)
  have hk : k.length ≤ 40 := ha k (by simp)
  have hx : x.length ≤ 40 := ha x (by simp)
  have p1 := p_107 b ([[83, 73, 78, 84, 69, 82], k, x]) hb.sm (by simp only [List.length_cons, List.length_nil]; omega) (by simp)
  rw [hr] at p1
  have p2 := p_109 [83, 73, 78, 84, 69, 82]
  rw [wv] at p2
  have p3 := p_112_SINTER b k x hb hk hx
  have re : rAct b [83, 73, 78, 84, 69, 82] [k, x] = rSINTER b k x := rfl
  rw [re]
  generalize rSINTER b k x = P at *
  simp only [txts, List.map_cons, List.map_nil] at p1 p3
  simp (maxSteps := 1000000) [evL, -List.getD_eq_getElem?_getD, -List.map_map, f82, p1, p2, p3, pairD]
theorem w_82_SUNION (b : Ba) (r : List Txt) (hb : BaG b) (ha : ∀ x ∈ r, x.length ≤ 40) (hr : readyV b ([83, 85, 78, 73, 79, 78] :: r) = []) : pureCall (ev R) 82 [.d (baD b), .d (txts ([83, 85, 78, 73, 79, 78] :: r))] = some (pairD (rAct b [83, 85, 78, 73, 79, 78] r)) := pureCall_eq fun H => by
  refine ev_fn (fn := f82) rfl rfl ?_
  have hl := ready_len hr
  have wv : wordV [83, 85, 78, 73, 79, 78] = (3, 3, 3) := rfl
  rw [wv] at hl
  dsimp only at hl
  obtain ⟨k, x, rfl⟩ : ∃ k x, r = [k, x] := by
    match r, hl with
    | [], hl => exact absurd hl (by simp)
    | [a0], hl => exact absurd hl (by simp)
    | [k, x], _ => exact ⟨k, x, rfl⟩
    | k :: x :: z :: ts, hl => exact absurd hl (by simp only [List.length_cons]; omega)
  have hk : k.length ≤ 40 := ha k (by simp)
  have hx : x.length ≤ 40 := ha x (by simp)
  have p1 := p_107 b ([[83, 85, 78, 73, 79, 78], k, x]) hb.sm (by simp only [List.length_cons, List.length_nil]; omega) (by simp)
  rw [hr] at p1
  have p2 := p_109 [83, 85, 78, 73, 79, 78]
  rw [wv] at p2
  have p3 := p_112_SUNION b k x hb hk hx
  have re : rAct b [83, 85, 78, 73, 79, 78] [k, x] = rSUNION b k x := rfl
  rw [re]
  generalize rSUNION b k x = P at *
  simp only [txts, List.map_cons, List.map_nil] at p1 p3
  simp (maxSteps := 1000000) [evL, -List.getD_eq_getElem?_getD, -List.map_map, f82, p1, p2, p3, pairD]
theorem w_82_SDIFF (b : Ba) (r : List Txt) (hb : BaG b) (ha : ∀ x ∈ r, x.length ≤ 40) (hr : readyV b ([83, 68, 73, 70, 70] :: r) = []) : pureCall (ev R) 82 [.d (baD b), .d (txts ([83, 68, 73, 70, 70] :: r))] = some (pairD (rAct b [83, 68, 73, 70, 70] r)) := pureCall_eq fun H => by
  refine ev_fn (fn := f82) rfl rfl ?_
  have hl := ready_len hr
  have wv : wordV [83, 68, 73, 70, 70] = (3, 3, 3) := rfl
  rw [wv] at hl
  dsimp only at hl
  obtain ⟨k, x, rfl⟩ : ∃ k x, r = [k, x] := by
    match r, hl with
    | [], hl => exact absurd hl (by simp)
    | [a0], hl => exact absurd hl (by simp)
    | [k, x], _ => exact ⟨k, x, rfl⟩
    | k :: x :: z :: ts, hl => exact absurd hl (by simp only [List.length_cons]; omega)
  have hk : k.length ≤ 40 := ha k (by simp)
  have hx : x.length ≤ 40 := ha x (by simp)
  have p1 := p_107 b ([[83, 68, 73, 70, 70], k, x]) hb.sm (by simp only [List.length_cons, List.length_nil]; omega) (by simp)
  rw [hr] at p1
  have p2 := p_109 [83, 68, 73, 70, 70]
  rw [wv] at p2
  have p3 := p_112_SDIFF b k x hb hk hx
  have re : rAct b [83, 68, 73, 70, 70] [k, x] = rSDIFF b k x := rfl
  rw [re]
  generalize rSDIFF b k x = P at *
  simp only [txts, List.map_cons, List.map_nil] at p1 p3
  simp (maxSteps := 1000000) [evL, -List.getD_eq_getElem?_getD, -List.map_map, f82, p1, p2, p3, pairD]
theorem w_82_ZADD (b : Ba) (r : List Txt) (hb : BaG b) (ha : ∀ x ∈ r, x.length ≤ 40) (hr : readyV b ([90, 65, 68, 68] :: r) = []) : pureCall (ev R) 82 [.d (baD b), .d (txts ([90, 65, 68, 68] :: r))] = some (pairD (rAct b [90, 65, 68, 68] r)) := pureCall_eq fun H => by
  refine ev_fn (fn := f82) rfl rfl ?_
  have hl := ready_len hr
  have wv : wordV [90, 65, 68, 68] = (4, 4, 4) := rfl
  rw [wv] at hl
  dsimp only at hl
  obtain ⟨k, x, y, rfl⟩ : ∃ k x y, r = [k, x, y] := by
    match r, hl with
    | [], hl => exact absurd hl (by simp)
    | [a0], hl => exact absurd hl (by simp)
    | [a0, a1], hl => exact absurd hl (by simp)
    | [k, x, y], _ => exact ⟨k, x, y, rfl⟩
    | k :: x :: y :: z :: ts, hl => exact absurd hl (by simp only [List.length_cons]; omega)
  have hk : k.length ≤ 40 := ha k (by simp)
  have hx : x.length ≤ 40 := ha x (by simp)
  have hy : y.length ≤ 40 := ha y (by simp)
  have p1 := p_107 b ([[90, 65, 68, 68], k, x, y]) hb.sm (by simp only [List.length_cons, List.length_nil]; omega) (by simp)
  rw [hr] at p1
  have p2 := p_109 [90, 65, 68, 68]
  rw [wv] at p2
  have p3 := p_113_ZADD b k x y hb hk hx hy
  have re : rAct b [90, 65, 68, 68] [k, x, y] = rZADD b k x y := rfl
  rw [re]
  generalize rZADD b k x y = P at *
  simp only [txts, List.map_cons, List.map_nil] at p1 p3
  simp (maxSteps := 1000000) [evL, -List.getD_eq_getElem?_getD, -List.map_map, f82, p1, p2, p3, pairD]
theorem w_82_ZINCRBY (b : Ba) (r : List Txt) (hb : BaG b) (ha : ∀ x ∈ r, x.length ≤ 40) (hr : readyV b ([90, 73, 78, 67, 82, 66, 89] :: r) = []) : pureCall (ev R) 82 [.d (baD b), .d (txts ([90, 73, 78, 67, 82, 66, 89] :: r))] = some (pairD (rAct b [90, 73, 78, 67, 82, 66, 89] r)) := pureCall_eq fun H => by
  refine ev_fn (fn := f82) rfl rfl ?_
  have hl := ready_len hr
  have wv : wordV [90, 73, 78, 67, 82, 66, 89] = (4, 4, 4) := rfl
  rw [wv] at hl
  dsimp only at hl
  obtain ⟨k, x, y, rfl⟩ : ∃ k x y, r = [k, x, y] := by
    match r, hl with
    | [], hl => exact absurd hl (by simp)
    | [a0], hl => exact absurd hl (by simp)
    | [a0, a1], hl => exact absurd hl (by simp)
    | [k, x, y], _ => exact ⟨k, x, y, rfl⟩
    | k :: x :: y :: z :: ts, hl => exact absurd hl (by simp only [List.length_cons]; omega)
  have hk : k.length ≤ 40 := ha k (by simp)
  have hx : x.length ≤ 40 := ha x (by simp)
  have hy : y.length ≤ 40 := ha y (by simp)
  have p1 := p_107 b ([[90, 73, 78, 67, 82, 66, 89], k, x, y]) hb.sm (by simp only [List.length_cons, List.length_nil]; omega) (by simp)
  rw [hr] at p1
  have p2 := p_109 [90, 73, 78, 67, 82, 66, 89]
  rw [wv] at p2
  have p3 := p_113_ZINCRBY b k x y hb hk hx hy
  have re : rAct b [90, 73, 78, 67, 82, 66, 89] [k, x, y] = rZINCRBY b k x y := rfl
  rw [re]
  generalize rZINCRBY b k x y = P at *
  simp only [txts, List.map_cons, List.map_nil] at p1 p3
  simp (maxSteps := 1000000) [evL, -List.getD_eq_getElem?_getD, -List.map_map, f82, p1, p2, p3, pairD]
theorem w_82_ZRANGE (b : Ba) (r : List Txt) (hb : BaG b) (ha : ∀ x ∈ r, x.length ≤ 40) (hr : readyV b ([90, 82, 65, 78, 71, 69] :: r) = []) : pureCall (ev R) 82 [.d (baD b), .d (txts ([90, 82, 65, 78, 71, 69] :: r))] = some (pairD (rAct b [90, 82, 65, 78, 71, 69] r)) := pureCall_eq fun H => by
  refine ev_fn (fn := f82) rfl rfl ?_
  have hl := ready_len hr
  have wv : wordV [90, 82, 65, 78, 71, 69] = (4, 4, 4) := rfl
  rw [wv] at hl
  dsimp only at hl
  obtain ⟨k, x, y, rfl⟩ : ∃ k x y, r = [k, x, y] := by
    match r, hl with
    | [], hl => exact absurd hl (by simp)
    | [a0], hl => exact absurd hl (by simp)
    | [a0, a1], hl => exact absurd hl (by simp)
    | [k, x, y], _ => exact ⟨k, x, y, rfl⟩
    | k :: x :: y :: z :: ts, hl => exact absurd hl (by simp only [List.length_cons]; omega)
  have hk : k.length ≤ 40 := ha k (by simp)
  have hx : x.length ≤ 40 := ha x (by simp)
  have hy : y.length ≤ 40 := ha y (by simp)
  have p1 := p_107 b ([[90, 82, 65, 78, 71, 69], k, x, y]) hb.sm (by simp only [List.length_cons, List.length_nil]; omega) (by simp)
  rw [hr] at p1
  have p2 := p_109 [90, 82, 65, 78, 71, 69]
  rw [wv] at p2
  have p3 := p_113_ZRANGE b k x y hb hk hx hy
  have re : rAct b [90, 82, 65, 78, 71, 69] [k, x, y] = rZRANGE b k x y := rfl
  rw [re]
  generalize rZRANGE b k x y = P at *
  simp only [txts, List.map_cons, List.map_nil] at p1 p3
  simp (maxSteps := 1000000) [evL, -List.getD_eq_getElem?_getD, -List.map_map, f82, p1, p2, p3, pairD]
theorem w_82_ZRANGEBYSCORE (b : Ba) (r : List Txt) (hb : BaG b) (ha : ∀ x ∈ r, x.length ≤ 40) (hr : readyV b ([90, 82, 65, 78, 71, 69, 66, 89, 83, 67, 79, 82, 69] :: r) = []) : pureCall (ev R) 82 [.d (baD b), .d (txts ([90, 82, 65, 78, 71, 69, 66, 89, 83, 67, 79, 82, 69] :: r))] = some (pairD (rAct b [90, 82, 65, 78, 71, 69, 66, 89, 83, 67, 79, 82, 69] r)) := pureCall_eq fun H => by
  refine ev_fn (fn := f82) rfl rfl ?_
  have hl := ready_len hr
  have wv : wordV [90, 82, 65, 78, 71, 69, 66, 89, 83, 67, 79, 82, 69] = (4, 4, 4) := rfl
  rw [wv] at hl
  dsimp only at hl
  obtain ⟨k, x, y, rfl⟩ : ∃ k x y, r = [k, x, y] := by
    match r, hl with
    | [], hl => exact absurd hl (by simp)
    | [a0], hl => exact absurd hl (by simp)
    | [a0, a1], hl => exact absurd hl (by simp)
    | [k, x, y], _ => exact ⟨k, x, y, rfl⟩
    | k :: x :: y :: z :: ts, hl => exact absurd hl (by simp only [List.length_cons]; omega)
  have hk : k.length ≤ 40 := ha k (by simp)
  have hx : x.length ≤ 40 := ha x (by simp)
  have hy : y.length ≤ 40 := ha y (by simp)
  have p1 := p_107 b ([[90, 82, 65, 78, 71, 69, 66, 89, 83, 67, 79, 82, 69], k, x, y]) hb.sm (by simp only [List.length_cons, List.length_nil]; omega) (by simp)
  rw [hr] at p1
  have p2 := p_109 [90, 82, 65, 78, 71, 69, 66, 89, 83, 67, 79, 82, 69]
  rw [wv] at p2
  have p3 := p_113_ZRANGEBYSCORE b k x y hb hk hx hy
  have re : rAct b [90, 82, 65, 78, 71, 69, 66, 89, 83, 67, 79, 82, 69] [k, x, y] = rZRANGEBYSCORE b k x y := rfl
  rw [re]
  generalize rZRANGEBYSCORE b k x y = P at *
  simp only [txts, List.map_cons, List.map_nil] at p1 p3
  simp (maxSteps := 1000000) [evL, -List.getD_eq_getElem?_getD, -List.map_map, f82, p1, p2, p3, pairD]
theorem w_82_ZREM (b : Ba) (r : List Txt) (hb : BaG b) (ha : ∀ x ∈ r, x.length ≤ 40) (hr : readyV b ([90, 82, 69, 77] :: r) = []) : pureCall (ev R) 82 [.d (baD b), .d (txts ([90, 82, 69, 77] :: r))] = some (pairD (rAct b [90, 82, 69, 77] r)) := pureCall_eq fun H => by
  refine ev_fn (fn := f82) rfl rfl ?_
  have hl := ready_len hr
  have wv : wordV [90, 82, 69, 77] = (3, 3, 4) := rfl
  rw [wv] at hl
  dsimp only at hl
  obtain ⟨k, x, rfl⟩ : ∃ k x, r = [k, x] := by
    match r, hl with
    | [], hl => exact absurd hl (by simp)
    | [a0], hl => exact absurd hl (by simp)
    | [k, x], _ => exact ⟨k, x, rfl⟩
    | k :: x :: z :: ts, hl => exact absurd hl (by simp only [List.length_cons]; omega)
  have hk : k.length ≤ 40 := ha k (by simp)
  have hx : x.length ≤ 40 := ha x (by simp)
  have p1 := p_107 b ([[90, 82, 69, 77], k, x]) hb.sm (by simp only [List.length_cons, List.length_nil]; omega) (by simp)
  rw [hr] at p1
  have p2 := p_109 [90, 82, 69, 77]
  rw [wv] at p2
  have p3 := p_113_ZREM b k x hb hk hx
  have re : rAct b [90, 82, 69, 77] [k, x] = rZREM b k x := rfl
  rw [re]
  generalize rZREM b k x = P at *
  simp only [txts, List.map_cons, List.map_nil] at p1 p3
  simp (maxSteps := 1000000) [evL, -List.getD_eq_getElem?_getD, -List.map_map, f82, p1, p2, p3, pairD]
theorem w_82_ZSCORE (b : Ba) (r : List Txt) (hb : BaG b) (ha : ∀ x ∈ r, x.length ≤ 40) (hr : readyV b ([90, 83, 67, 79, 82, 69] :: r) = []) : pureCall (ev R) 82 [.d (baD b), .d (txts ([90, 83, 67, 79, 82, 69] :: r))] = some (pairD (rAct b [90, 83, 67, 79, 82, 69] r)) := pureCall_eq fun H => by
  refine ev_fn (fn := f82) rfl rfl ?_
  have hl := ready_len hr
  have wv : wordV [90, 83, 67, 79, 82, 69] = (3, 3, 4) := rfl
  rw [wv] at hl
  dsimp only at hl
  obtain ⟨k, x, rfl⟩ : ∃ k x, r = [k, x] := by
    match r, hl with
    | [], hl => exact absurd hl (by simp)
    | [a0], hl => exact absurd hl (by simp)
    | [k, x], _ => exact ⟨k, x, rfl⟩
    | k :: x :: z :: ts, hl => exact absurd hl (by simp only [List.length_cons]; omega)
  have hk : k.length ≤ 40 := ha k (by simp)
  have hx : x.length ≤ 40 := ha x (by simp)
  have p1 := p_107 b ([[90, 83, 67, 79, 82, 69], k, x]) hb.sm (by simp only [List.length_cons, List.length_nil]; omega) (by simp)
  rw [hr] at p1
  have p2 := p_109 [90, 83, 67, 79, 82, 69]
  rw [wv] at p2
  have p3 := p_113_ZSCORE b k x hb hk hx
  have re : rAct b [90, 83, 67, 79, 82, 69] [k, x] = rZSCORE b k x := rfl
  rw [re]
  generalize rZSCORE b k x = P at *
  simp only [txts, List.map_cons, List.map_nil] at p1 p3
  simp (maxSteps := 1000000) [evL, -List.getD_eq_getElem?_getD, -List.map_map, f82, p1, p2, p3, pairD]
theorem w_82_ZRANK (b : Ba) (r : List Txt) (hb : BaG b) (ha : ∀ x ∈ r, x.length ≤ 40) (hr : readyV b ([90, 82, 65, 78, 75] :: r) = []) : pureCall (ev R) 82 [.d (baD b), .d (txts ([90, 82, 65, 78, 75] :: r))] = some (pairD (rAct b [90, 82, 65, 78, 75] r)) := pureCall_eq fun H => by
  refine ev_fn (fn := f82) rfl rfl ?_
  have hl := ready_len hr
  have wv : wordV [90, 82, 65, 78, 75] = (3, 3, 4) := rfl
  rw [wv] at hl
  dsimp only at hl
  obtain ⟨k, x, rfl⟩ : ∃ k x, r = [k, x] := by
    match r, hl with
    | [], hl => exact absurd hl (by simp)
    | [a0], hl => exact absurd hl (by simp)
    | [k, x], _ => exact ⟨k, x, rfl⟩
    | k :: x :: z :: ts, hl => exact absurd hl (by simp only [List.length_cons]; omega)
  have hk : k.length ≤ 40 := ha k (by simp)
  have hx : x.length ≤ 40 := ha x (by simp)
  have p1 := p_107 b ([[90, 82, 65, 78, 75], k, x]) hb.sm (by simp only [List.length_cons, List.length_nil]; omega) (by simp)
  rw [hr] at p1
  have p2 := p_109 [90, 82, 65, 78, 75]
  rw [wv] at p2
  have p3 := p_113_ZRANK b k x hb hk hx
  have re : rAct b [90, 82, 65, 78, 75] [k, x] = rZRANK b k x := rfl
  rw [re]
  generalize rZRANK b k x = P at *
  simp only [txts, List.map_cons, List.map_nil] at p1 p3
  simp (maxSteps := 1000000) [evL, -List.getD_eq_getElem?_getD, -List.map_map, f82, p1, p2, p3, pairD]
theorem w_82_ZCARD (b : Ba) (r : List Txt) (hb : BaG b) (ha : ∀ x ∈ r, x.length ≤ 40) (hr : readyV b ([90, 67, 65, 82, 68] :: r) = []) : pureCall (ev R) 82 [.d (baD b), .d (txts ([90, 67, 65, 82, 68] :: r))] = some (pairD (rAct b [90, 67, 65, 82, 68] r)) := pureCall_eq fun H => by
  refine ev_fn (fn := f82) rfl rfl ?_
  have hl := ready_len hr
  have wv : wordV [90, 67, 65, 82, 68] = (2, 2, 4) := rfl
  rw [wv] at hl
  dsimp only at hl
  obtain ⟨k, rfl⟩ : ∃ k, r = [k] := by
    match r, hl with
    | [], hl => exact absurd hl (by simp)
    | [k], _ => exact ⟨k, rfl⟩
    | k :: z :: ts, hl => exact absurd hl (by simp only [List.length_cons]; omega)
  have hk : k.length ≤ 40 := ha k (by simp)
  have p1 := p_107 b ([[90, 67, 65, 82, 68], k]) hb.sm (by simp only [List.length_cons, List.length_nil]; omega) (by simp)
  rw [hr] at p1
  have p2 := p_109 [90, 67, 65, 82, 68]
  rw [wv] at p2
  have p3 := p_113_ZCARD b k hb hk
  have re : rAct b [90, 67, 65, 82, 68] [k] = rZCARD b k := rfl
  rw [re]
  generalize rZCARD b k = P at *
  simp only [txts, List.map_cons, List.map_nil] at p1 p3
  simp (maxSteps := 1000000) [evL, -List.getD_eq_getElem?_getD, -List.map_map, f82, p1, p2, p3, pairD]
theorem w_82_HSET (b : Ba) (r : List Txt) (hb : BaG b) (ha : ∀ x ∈ r, x.length ≤ 40) (hr : readyV b ([72, 83, 69, 84] :: r) = []) : pureCall (ev R) 82 [.d (baD b), .d (txts ([72, 83, 69, 84] :: r))] = some (pairD (rAct b [72, 83, 69, 84] r)) := pureCall_eq fun H => by
  refine ev_fn (fn := f82) rfl rfl ?_
  have hl := ready_len hr
  have wv : wordV [72, 83, 69, 84] = (4, 4, 5) := rfl
  rw [wv] at hl
  dsimp only at hl
  obtain ⟨k, x, y, rfl⟩ : ∃ k x y, r = [k, x, y] := by
    match r, hl with
    | [], hl => exact absurd hl (by simp)
    | [a0], hl => exact absurd hl (by simp)
    | [a0, a1], hl => exact absurd hl (by simp)
    | [k, x, y], _ => exact ⟨k, x, y, rfl⟩
    | k :: x :: y :: z :: ts, hl => exact absurd hl (by simp only [List.length_cons]; omega)
  have hk : k.length ≤ 40 := ha k (by simp)
  have hx : x.length ≤ 40 := ha x (by simp)
  have hy : y.length ≤ 40 := ha y (by simp)
  have p1 := p_107 b ([[72, 83, 69, 84], k, x, y]) hb.sm (by simp only [List.length_cons, List.length_nil]; omega) (by simp)
  rw [hr] at p1
  have p2 := p_109 [72, 83, 69, 84]
  rw [wv] at p2
  have p3 := p_114_HSET b k x y hb hk hx hy
  have re : rAct b [72, 83, 69, 84] [k, x, y] = rHSET b k x y := rfl
  rw [re]
  generalize rHSET b k x y = P at *
  simp only [txts, List.map_cons, List.map_nil] at p1 p3
  simp (maxSteps := 1000000) [evL, -List.getD_eq_getElem?_getD, -List.map_map, f82, p1, p2, p3, pairD]
theorem w_82_HGET (b : Ba) (r : List Txt) (hb : BaG b) (ha : ∀ x ∈ r, x.length ≤ 40) (hr : readyV b ([72, 71, 69, 84] :: r) = []) : pureCall (ev R) 82 [.d (baD b), .d (txts ([72, 71, 69, 84] :: r))] = some (pairD (rAct b [72, 71, 69, 84] r)) := pureCall_eq fun H => by
  refine ev_fn (fn := f82) rfl rfl ?_
  have hl := ready_len hr
  have wv : wordV [72, 71, 69, 84] = (3, 3, 5) := rfl
  rw [wv] at hl
  dsimp only at hl
  obtain ⟨k, x, rfl⟩ : ∃ k x, r = [k, x] := by
    match r, hl with
    | [], hl => exact absurd hl (by simp)
    | [a0], hl => exact absurd hl (by simp)
    | [k, x], _ => exact ⟨k, x, rfl⟩
    | k :: x :: z :: ts, hl => exact absurd hl (by simp only [List.length_cons]; omega)
  have hk : k.length ≤ 40 := ha k (by simp)
  have hx : x.length ≤ 40 := ha x (by simp)
  have p1 := p_107 b ([[72, 71, 69, 84], k, x]) hb.sm (by simp only [List.length_cons, List.length_nil]; omega) (by simp)
  rw [hr] at p1
  have p2 := p_109 [72, 71, 69, 84]
  rw [wv] at p2
  have p3 := p_114_HGET b k x hb hk hx
  have re : rAct b [72, 71, 69, 84] [k, x] = rHGET b k x := rfl
  rw [re]
  generalize rHGET b k x = P at *
  simp only [txts, List.map_cons, List.map_nil] at p1 p3
  simp (maxSteps := 1000000) [evL, -List.getD_eq_getElem?_getD, -List.map_map, f82, p1, p2, p3, pairD]
theorem w_82_HDEL (b : Ba) (r : List Txt) (hb : BaG b) (ha : ∀ x ∈ r, x.length ≤ 40) (hr : readyV b ([72, 68, 69, 76] :: r) = []) : pureCall (ev R) 82 [.d (baD b), .d (txts ([72, 68, 69, 76] :: r))] = some (pairD (rAct b [72, 68, 69, 76] r)) := pureCall_eq fun H => by
  refine ev_fn (fn := f82) rfl rfl ?_
  have hl := ready_len hr
  have wv : wordV [72, 68, 69, 76] = (3, 3, 5) := rfl
  rw [wv] at hl
  dsimp only at hl
  obtain ⟨k, x, rfl⟩ : ∃ k x, r = [k, x] := by
    match r, hl with
    | [], hl => exact absurd hl (by simp)
    | [a0], hl => exact absurd hl (by simp)
    | [k, x], _ => exact ⟨k, x, rfl⟩
    | k :: x :: z :: ts, hl => exact absurd hl (by simp only [List.length_cons]; omega)
  have hk : k.length ≤ 40 := ha k (by simp)
  have hx : x.length ≤ 40 := ha x (by simp)
  have p1 := p_107 b ([[72, 68, 69, 76], k, x]) hb.sm (by simp only [List.length_cons, List.length_nil]; omega) (by simp)
  rw [hr] at p1
  have p2 := p_109 [72, 68, 69, 76]
  rw [wv] at p2
  have p3 := p_114_HDEL b k x hb hk hx
  have re : rAct b [72, 68, 69, 76] [k, x] = rHDEL b k x := rfl
  rw [re]
  generalize rHDEL b k x = P at *
  simp only [txts, List.map_cons, List.map_nil] at p1 p3
  simp (maxSteps := 1000000) [evL, -List.getD_eq_getElem?_getD, -List.map_map, f82, p1, p2, p3, pairD]
theorem w_82_HGETALL (b : Ba) (r : List Txt) (hb : BaG b) (ha : ∀ x ∈ r, x.length ≤ 40) (hr : readyV b ([72, 71, 69, 84, 65, 76, 76] :: r) = []) : pureCall (ev R) 82 [.d (baD b), .d (txts ([72, 71, 69, 84, 65, 76, 76] :: r))] = some (pairD (rAct b [72, 71, 69, 84, 65, 76, 76] r)) := pureCall_eq fun H => by
  refine ev_fn (fn := f82) rfl rfl ?_
  have hl := ready_len hr
  have wv : wordV [72, 71, 69, 84, 65, 76, 76] = (2, 2, 5) := rfl
  rw [wv] at hl
  dsimp only at hl
  obtain ⟨k, rfl⟩ : ∃ k, r = [k] := by
    match r, hl with
    | [], hl => exact absurd hl (by simp)
    | [k], _ => exact ⟨k, rfl⟩
    | k :: z :: ts, hl => exact absurd hl (by simp only [List.length_cons]; omega)
  have hk : k.length ≤ 40 := ha k (by simp)
  have p1 := p_107 b ([[72, 71, 69, 84, 65, 76, 76], k]) hb.sm (by simp only [List.length_cons, List.length_nil]; omega) (by simp)
  rw [hr] at p1
  have p2 := p_109 [72, 71, 69, 84, 65, 76, 76]
  rw [wv] at p2
  have p3 := p_114_HGETALL b k hb hk
  have re : rAct b [72, 71, 69, 84, 65, 76, 76] [k] = rHGETALL b k := rfl
  rw [re]
  generalize rHGETALL b k = P at *
  simp only [txts, List.map_cons, List.map_nil] at p1 p3
  simp (maxSteps := 1000000) [evL, -List.getD_eq_getElem?_getD, -List.map_map, f82, p1, p2, p3, pairD]
theorem w_82_HLEN (b : Ba) (r : List Txt) (hb : BaG b) (ha : ∀ x ∈ r, x.length ≤ 40) (hr : readyV b ([72, 76, 69, 78] :: r) = []) : pureCall (ev R) 82 [.d (baD b), .d (txts ([72, 76, 69, 78] :: r))] = some (pairD (rAct b [72, 76, 69, 78] r)) := pureCall_eq fun H => by
  refine ev_fn (fn := f82) rfl rfl ?_
  have hl := ready_len hr
  have wv : wordV [72, 76, 69, 78] = (2, 2, 5) := rfl
  rw [wv] at hl
  dsimp only at hl
  obtain ⟨k, rfl⟩ : ∃ k, r = [k] := by
    match r, hl with
    | [], hl => exact absurd hl (by simp)
    | [k], _ => exact ⟨k, rfl⟩
    | k :: z :: ts, hl => exact absurd hl (by simp only [List.length_cons]; omega)
  have hk : k.length ≤ 40 := ha k (by simp)
  have p1 := p_107 b ([[72, 76, 69, 78], k]) hb.sm (by simp only [List.length_cons, List.length_nil]; omega) (by simp)
  rw [hr] at p1
  have p2 := p_109 [72, 76, 69, 78]
  rw [wv] at p2
  have p3 := p_114_HLEN b k hb hk
  have re : rAct b [72, 76, 69, 78] [k] = rHLEN b k := rfl
  rw [re]
  generalize rHLEN b k = P at *
  simp only [txts, List.map_cons, List.map_nil] at p1 p3
  simp (maxSteps := 1000000) [evL, -List.getD_eq_getElem?_getD, -List.map_map, f82, p1, p2, p3, pairD]
theorem w_82_HINCRBY (b : Ba) (r : List Txt) (hb : BaG b) (ha : ∀ x ∈ r, x.length ≤ 40) (hr : readyV b ([72, 73, 78, 67, 82, 66, 89] :: r) = []) : pureCall (ev R) 82 [.d (baD b), .d (txts ([72, 73, 78, 67, 82, 66, 89] :: r))] = some (pairD (rAct b [72, 73, 78, 67, 82, 66, 89] r)) := pureCall_eq fun H => by
  refine ev_fn (fn := f82) rfl rfl ?_
  have hl := ready_len hr
  have wv : wordV [72, 73, 78, 67, 82, 66, 89] = (4, 4, 5) := rfl
  rw [wv] at hl
  dsimp only at hl
  obtain ⟨k, x, y, rfl⟩ : ∃ k x y, r = [k, x, y] := by
    match r, hl with
    | [], hl => exact absurd hl (by simp)
    | [a0], hl => exact absurd hl (by simp)
    | [a0, a1], hl => exact absurd hl (by simp)
    | [k, x, y], _ => exact ⟨k, x, y, rfl⟩
    | k :: x :: y :: z :: ts, hl => exact absurd hl (by simp only [List.length_cons]; omega)
  have hk : k.length ≤ 40 := ha k (by simp)
  have hx : x.length ≤ 40 := ha x (by simp)
  have hy : y.length ≤ 40 := ha y (by simp)
  have p1 := p_107 b ([[72, 73, 78, 67, 82, 66, 89], k, x, y]) hb.sm (by simp only [List.length_cons, List.length_nil]; omega) (by simp)
  rw [hr] at p1
  have p2 := p_109 [72, 73, 78, 67, 82, 66, 89]
  rw [wv] at p2
  have p3 := p_114_HINCRBY b k x y hb hk hx hy
  have re : rAct b [72, 73, 78, 67, 82, 66, 89] [k, x, y] = rHINCRBY b k x y := rfl
  rw [re]
  generalize rHINCRBY b k x y = P at *
  simp only [txts, List.map_cons, List.map_nil] at p1 p3
  simp (maxSteps := 1000000) [evL, -List.getD_eq_getElem?_getD, -List.map_map, f82, p1, p2, p3, pairD]
theorem w_82_DEL (b : Ba) (r : List Txt) (hb : BaG b) (ha : ∀ x ∈ r, x.length ≤ 40) (hr : readyV b ([68, 69, 76] :: r) = []) : pureCall (ev R) 82 [.d (baD b), .d (txts ([68, 69, 76] :: r))] = some (pairD (rAct b [68, 69, 76] r)) := pureCall_eq fun H => by
  refine ev_fn (fn := f82) rfl rfl ?_
  have hl := ready_len hr
  have wv : wordV [68, 69, 76] = (2, 8, 0) := rfl
  rw [wv] at hl
  dsimp only at hl
  have p1 := p_107 b ([68, 69, 76] :: r) hb.sm (by simp only [List.length_cons, List.length_nil]; omega) (by simp)
  rw [hr] at p1
  have p2 := p_109 [68, 69, 76]
  rw [wv] at p2
  have p3 := p_115_DEL b r hb (by omega)
  have re : rAct b [68, 69, 76] r = rDEL b r := rfl
  rw [re]
  generalize rDEL b r = P at *
  simp only [txts, List.map_cons, List.map_nil] at p1 p3
  simp (maxSteps := 1000000) [evL, -List.getD_eq_getElem?_getD, -List.map_map, f82, p1, p2, p3, pairD]
theorem w_82_EXISTS (b : Ba) (r : List Txt) (hb : BaG b) (ha : ∀ x ∈ r, x.length ≤ 40) (hr : readyV b ([69, 88, 73, 83, 84, 83] :: r) = []) : pureCall (ev R) 82 [.d (baD b), .d (txts ([69, 88, 73, 83, 84, 83] :: r))] = some (pairD (rAct b [69, 88, 73, 83, 84, 83] r)) := pureCall_eq fun H => by
  refine ev_fn (fn := f82) rfl rfl ?_
  have hl := ready_len hr
  have wv : wordV [69, 88, 73, 83, 84, 83] = (2, 8, 0) := rfl
  rw [wv] at hl
  dsimp only at hl
  have p1 := p_107 b ([69, 88, 73, 83, 84, 83] :: r) hb.sm (by simp only [List.length_cons, List.length_nil]; omega) (by simp)
  rw [hr] at p1
  have p2 := p_109 [69, 88, 73, 83, 84, 83]
  rw [wv] at p2
  have p3 := p_115_EXISTS b r hb (by omega)
  have re : rAct b [69, 88, 73, 83, 84, 83] r = rEXISTS b r := rfl
  rw [re]
  generalize rEXISTS b r = P at *
  simp only [txts, List.map_cons, List.map_nil] at p1 p3
  simp (maxSteps := 1000000) [evL, -List.getD_eq_getElem?_getD, -List.map_map, f82, p1, p2, p3, pairD]
theorem w_82_TYPE (b : Ba) (r : List Txt) (hb : BaG b) (ha : ∀ x ∈ r, x.length ≤ 40) (hr : readyV b ([84, 89, 80, 69] :: r) = []) : pureCall (ev R) 82 [.d (baD b), .d (txts ([84, 89, 80, 69] :: r))] = some (pairD (rAct b [84, 89, 80, 69] r)) := pureCall_eq fun H => by
  refine ev_fn (fn := f82) rfl rfl ?_
  have hl := ready_len hr
  have wv : wordV [84, 89, 80, 69] = (2, 2, 0) := rfl
  rw [wv] at hl
  dsimp only at hl
  obtain ⟨k, rfl⟩ : ∃ k, r = [k] := by
    match r, hl with
    | [], hl => exact absurd hl (by simp)
    | [k], _ => exact ⟨k, rfl⟩
    | k :: z :: ts, hl => exact absurd hl (by simp only [List.length_cons]; omega)
  have hk : k.length ≤ 40 := ha k (by simp)
  have p1 := p_107 b ([[84, 89, 80, 69], k]) hb.sm (by simp only [List.length_cons, List.length_nil]; omega) (by simp)
  rw [hr] at p1
  have p2 := p_109 [84, 89, 80, 69]
  rw [wv] at p2
  have p3 := p_115_TYPE b k hb hk
  have re : rAct b [84, 89, 80, 69] [k] = rTYPE b k := rfl
  rw [re]
  generalize rTYPE b k = P at *
  simp only [txts, List.map_cons, List.map_nil] at p1 p3
  simp (maxSteps := 1000000) [evL, -List.getD_eq_getElem?_getD, -List.map_map, f82, p1, p2, p3, pairD]
theorem w_82_TTL (b : Ba) (r : List Txt) (hb : BaG b) (ha : ∀ x ∈ r, x.length ≤ 40) (hr : readyV b ([84, 84, 76] :: r) = []) : pureCall (ev R) 82 [.d (baD b), .d (txts ([84, 84, 76] :: r))] = some (pairD (rAct b [84, 84, 76] r)) := pureCall_eq fun H => by
  refine ev_fn (fn := f82) rfl rfl ?_
  have hl := ready_len hr
  have wv : wordV [84, 84, 76] = (2, 2, 0) := rfl
  rw [wv] at hl
  dsimp only at hl
  obtain ⟨k, rfl⟩ : ∃ k, r = [k] := by
    match r, hl with
    | [], hl => exact absurd hl (by simp)
    | [k], _ => exact ⟨k, rfl⟩
    | k :: z :: ts, hl => exact absurd hl (by simp only [List.length_cons]; omega)
  have hk : k.length ≤ 40 := ha k (by simp)
  have p1 := p_107 b ([[84, 84, 76], k]) hb.sm (by simp only [List.length_cons, List.length_nil]; omega) (by simp)
  rw [hr] at p1
  have p2 := p_109 [84, 84, 76]
  rw [wv] at p2
  have p3 := p_115_TTL b k hb hk
  have re : rAct b [84, 84, 76] [k] = rTTL b k := rfl
  rw [re]
  generalize rTTL b k = P at *
  simp only [txts, List.map_cons, List.map_nil] at p1 p3
  simp (maxSteps := 1000000) [evL, -List.getD_eq_getElem?_getD, -List.map_map, f82, p1, p2, p3, pairD]
theorem w_82_PERSIST (b : Ba) (r : List Txt) (hb : BaG b) (ha : ∀ x ∈ r, x.length ≤ 40) (hr : readyV b ([80, 69, 82, 83, 73, 83, 84] :: r) = []) : pureCall (ev R) 82 [.d (baD b), .d (txts ([80, 69, 82, 83, 73, 83, 84] :: r))] = some (pairD (rAct b [80, 69, 82, 83, 73, 83, 84] r)) := pureCall_eq fun H => by
  refine ev_fn (fn := f82) rfl rfl ?_
  have hl := ready_len hr
  have wv : wordV [80, 69, 82, 83, 73, 83, 84] = (2, 2, 0) := rfl
  rw [wv] at hl
  dsimp only at hl
  obtain ⟨k, rfl⟩ : ∃ k, r = [k] := by
    match r, hl with
    | [], hl => exact absurd hl (by simp)
    | [k], _ => exact ⟨k, rfl⟩
    | k :: z :: ts, hl => exact absurd hl (by simp only [List.length_cons]; omega)
  have hk : k.length ≤ 40 := ha k (by simp)
  have p1 := p_107 b ([[80, 69, 82, 83, 73, 83, 84], k]) hb.sm (by simp only [List.length_cons, List.length_nil]; omega) (by simp)
  rw [hr] at p1
  have p2 := p_109 [80, 69, 82, 83, 73, 83, 84]
  rw [wv] at p2
  have p3 := p_115_PERSIST b k hb hk
  have re : rAct b [80, 69, 82, 83, 73, 83, 84] [k] = rPERSIST b k := rfl
  rw [re]
  generalize rPERSIST b k = P at *
  simp only [txts, List.map_cons, List.map_nil] at p1 p3
  simp (maxSteps := 1000000) [evL, -List.getD_eq_getElem?_getD, -List.map_map, f82, p1, p2, p3, pairD]
theorem w_82_EXPIRE (b : Ba) (r : List Txt) (hb : BaG b) (ha : ∀ x ∈ r, x.length ≤ 40) (hr : readyV b ([69, 88, 80, 73, 82, 69] :: r) = []) : pureCall (ev R) 82 [.d (baD b), .d (txts ([69, 88, 80, 73, 82, 69] :: r))] = some (pairD (rAct b [69, 88, 80, 73, 82, 69] r)) := pureCall_eq fun H => by
  refine ev_fn (fn := f82) rfl rfl ?_
  have hl := ready_len hr
  have wv : wordV [69, 88, 80, 73, 82, 69] = (3, 3, 0) := rfl
  rw [wv] at hl
  dsimp only at hl
  obtain ⟨k, x, rfl⟩ : ∃ k x, r = [k, x] := by
    match r, hl with
    | [], hl => exact absurd hl (by simp)
    | [a0], hl => exact absurd hl (by simp)
    | [k, x], _ => exact ⟨k, x, rfl⟩
    | k :: x :: z :: ts, hl => exact absurd hl (by simp only [List.length_cons]; omega)
  have hk : k.length ≤ 40 := ha k (by simp)
  have hx : x.length ≤ 40 := ha x (by simp)
  have p1 := p_107 b ([[69, 88, 80, 73, 82, 69], k, x]) hb.sm (by simp only [List.length_cons, List.length_nil]; omega) (by simp)
  rw [hr] at p1
  have p2 := p_109 [69, 88, 80, 73, 82, 69]
  rw [wv] at p2
  have p3 := p_115_EXPIRE b k x hb hk hx
  have re : rAct b [69, 88, 80, 73, 82, 69] [k, x] = rEXPIRE b k x := rfl
  rw [re]
  generalize rEXPIRE b k x = P at *
  simp only [txts, List.map_cons, List.map_nil] at p1 p3
  simp (maxSteps := 1000000) [evL, -List.getD_eq_getElem?_getD, -List.map_map, f82, p1, p2, p3, pairD]
theorem w_82_EXPIREAT (b : Ba) (r : List Txt) (hb : BaG b) (ha : ∀ x ∈ r, x.length ≤ 40) (hr : readyV b ([69, 88, 80, 73, 82, 69, 65, 84] :: r) = []) : pureCall (ev R) 82 [.d (baD b), .d (txts ([69, 88, 80, 73, 82, 69, 65, 84] :: r))] = some (pairD (rAct b [69, 88, 80, 73, 82, 69, 65, 84] r)) := pureCall_eq fun H => by
  refine ev_fn (fn := f82) rfl rfl ?_
  have hl := ready_len hr
  have wv : wordV [69, 88, 80, 73, 82, 69, 65, 84] = (3, 3, 0) := rfl
  rw [wv] at hl
  dsimp only at hl
  obtain ⟨k, x, rfl⟩ : ∃ k x, r = [k, x] := by
    match r, hl with
    | [], hl => exact absurd hl (by simp)
    | [a0], hl => exact absurd hl (by simp)
    | [k, x], _ => exact ⟨k, x, rfl⟩
    | k :: x :: z :: ts, hl => exact absurd hl (by simp only [List.length_cons]; omega)
  have hk : k.length ≤ 40 := ha k (by simp)
  have hx : x.length ≤ 40 := ha x (by simp)
  have p1 := p_107 b ([[69, 88, 80, 73, 82, 69, 65, 84], k, x]) hb.sm (by simp only [List.length_cons, List.length_nil]; omega) (by simp)
  rw [hr] at p1
  have p2 := p_109 [69, 88, 80, 73, 82, 69, 65, 84]
  rw [wv] at p2
  have p3 := p_115_EXPIREAT b k x hb hk hx
  have re : rAct b [69, 88, 80, 73, 82, 69, 65, 84] [k, x] = rEXPIREAT b k x := rfl
  rw [re]
  generalize rEXPIREAT b k x = P at *
  simp only [txts, List.map_cons, List.map_nil] at p1 p3
  simp (maxSteps := 1000000) [evL, -List.getD_eq_getElem?_getD, -List.map_map, f82, p1, p2, p3, pairD]
theorem w_82_RENAME (b : Ba) (r : List Txt) (hb : BaG b) (ha : ∀ x ∈ r, x.length ≤ 40) (hr : readyV b ([82, 69, 78, 65, 77, 69] :: r) = []) : pureCall (ev R) 82 [.d (baD b), .d (txts ([82, 69, 78, 65, 77, 69] :: r))] = some (pairD (rAct b [82, 69, 78, 65, 77, 69] r)) := pureCall_eq fun H => by
  refine ev_fn (fn := f82) rfl rfl ?_
  have hl := ready_len hr
  have wv : wordV [82, 69, 78, 65, 77, 69] = (3, 3, 0) := rfl
  rw [wv] at hl
  dsimp only at hl
  obtain ⟨k, x, rfl⟩ : ∃ k x, r = [k, x] := by
    match r, hl with
    | [], hl => exact absurd hl (by simp)
    | [a0], hl => exact absurd hl (by simp)
    | [k, x], _ => exact ⟨k, x, rfl⟩
    | k :: x :: z :: ts, hl => exact absurd hl (by simp only [List.length_cons]; omega)
  have hk : k.length ≤ 40 := ha k (by simp)
  have hx : x.length ≤ 40 := ha x (by simp)
  have p1 := p_107 b ([[82, 69, 78, 65, 77, 69], k, x]) hb.sm (by simp only [List.length_cons, List.length_nil]; omega) (by simp)
  rw [hr] at p1
  have p2 := p_109 [82, 69, 78, 65, 77, 69]
  rw [wv] at p2
  have p3 := p_115_RENAME b k x hb hk hx
  have re : rAct b [82, 69, 78, 65, 77, 69] [k, x] = rRENAME b k x := rfl
  rw [re]
  generalize rRENAME b k x = P at *
  simp only [txts, List.map_cons, List.map_nil] at p1 p3
  simp (maxSteps := 1000000) [evL, -List.getD_eq_getElem?_getD, -List.map_map, f82, p1, p2, p3, pairD]
theorem w_82_KEYS (b : Ba) (r : List Txt) (hb : BaG b) (ha : ∀ x ∈ r, x.length ≤ 40) (hr : readyV b ([75, 69, 89, 83] :: r) = []) : pureCall (ev R) 82 [.d (baD b), .d (txts ([75, 69, 89, 83] :: r))] = some (pairD (rAct b [75, 69, 89, 83] r)) := pureCall_eq fun H => by
  refine ev_fn (fn := f82) rfl rfl ?_
  have hl := ready_len hr
  have wv : wordV [75, 69, 89, 83] = (2, 2, 0) := rfl
  rw [wv] at hl
  dsimp only at hl
  obtain ⟨k, rfl⟩ : ∃ k, r = [k] := by
    match r, hl with
    | [], hl => exact absurd hl (by simp)
    | [k], _ => exact ⟨k, rfl⟩
    | k :: z :: ts, hl => exact absurd hl (by simp only [List.length_cons]; omega)
  have hk : k.length ≤ 40 := ha k (by simp)
  have p1 := p_107 b ([[75, 69, 89, 83], k]) hb.sm (by simp only [List.length_cons, List.length_nil]; omega) (by simp)
  rw [hr] at p1
  have p2 := p_109 [75, 69, 89, 83]
  rw [wv] at p2
  have p3 := p_115_KEYS b k hb hk
  have re : rAct b [75, 69, 89, 83] [k] = rKEYS b k := rfl
  rw [re]
  generalize rKEYS b k = P at *
  simp only [txts, List.map_cons, List.map_nil] at p1 p3
  simp (maxSteps := 1000000) [evL, -List.getD_eq_getElem?_getD, -List.map_map, f82, p1, p2, p3, pairD]
theorem w_82_DBSIZE (b : Ba) (r : List Txt) (hb : BaG b) (ha : ∀ x ∈ r, x.length ≤ 40) (hr : readyV b ([68, 66, 83, 73, 90, 69] :: r) = []) : pureCall (ev R) 82 [.d (baD b), .d (txts ([68, 66, 83, 73, 90, 69] :: r))] = some (pairD (rAct b [68, 66, 83, 73, 90, 69] r)) := pureCall_eq fun H => by
  refine ev_fn (fn := f82) rfl rfl ?_
  have hl := ready_len hr
  have wv : wordV [68, 66, 83, 73, 90, 69] = (1, 1, 0) := rfl
  rw [wv] at hl
  dsimp only at hl
  obtain rfl : r = [] := by
    match r, hl with
    | [], _ => rfl
    | k :: ts, hl => simp only [List.length_cons] at hl; omega
  have p1 := p_107 b ([[68, 66, 83, 73, 90, 69]]) hb.sm (by simp only [List.length_cons, List.length_nil]; omega) (by simp)
  rw [hr] at p1
  have p2 := p_109 [68, 66, 83, 73, 90, 69]
  rw [wv] at p2
  have p3 := p_115_DBSIZE b  hb 
  have re : rAct b [68, 66, 83, 73, 90, 69] [] = rDBSIZE b := rfl
  rw [re]
  generalize rDBSIZE b = P at *
  simp only [txts, List.map_cons, List.map_nil] at p1 p3
  simp (maxSteps := 1000000) [evL, -List.getD_eq_getElem?_getD, -List.map_map, f82, p1, p2, p3, pairD]
theorem w_82_FLUSH (b : Ba) (r : List Txt) (hb : BaG b) (ha : ∀ x ∈ r, x.length ≤ 40) (hr : readyV b ([70, 76, 85, 83, 72] :: r) = []) : pureCall (ev R) 82 [.d (baD b), .d (txts ([70, 76, 85, 83, 72] :: r))] = some (pairD (rAct b [70, 76, 85, 83, 72] r)) := pureCall_eq fun H => by
  refine ev_fn (fn := f82) rfl rfl ?_
  have hl := ready_len hr
  have wv : wordV [70, 76, 85, 83, 72] = (1, 1, 0) := rfl
  rw [wv] at hl
  dsimp only at hl
  obtain rfl : r = [] := by
    match r, hl with
    | [], _ => rfl
    | k :: ts, hl => simp only [List.length_cons] at hl; omega
  have p1 := p_107 b ([[70, 76, 85, 83, 72]]) hb.sm (by simp only [List.length_cons, List.length_nil]; omega) (by simp)
  rw [hr] at p1
  have p2 := p_109 [70, 76, 85, 83, 72]
  rw [wv] at p2
  have p3 := p_115_FLUSH b  hb 
  have re : rAct b [70, 76, 85, 83, 72] [] = rFLUSH b := rfl
  rw [re]
  generalize rFLUSH b = P at *
  simp only [txts, List.map_cons, List.map_nil] at p1 p3
  simp (maxSteps := 1000000) [evL, -List.getD_eq_getElem?_getD, -List.map_map, f82, p1, p2, p3, pairD]
theorem p_82 (b : Ba) (args : List Txt) (hb : BaG b) (ha : okArgs args = true) : pureCall (ev R) 82 [.d (baD b), .d (txts args)] = some (pairD (rDo b args)) := by
  have hl := okArgs_len ha
  have hx := okArgs_each ha
  obtain ⟨w, r, rfl⟩ : ∃ w r, args = w :: r := by
    cases args with
    | nil => simp at hl
    | cons w r => exact ⟨w, r, rfl⟩
  by_cases hr : readyV b (w :: r) = []
  · have hd : rDo b (w :: r) = rAct b w r := by unfold rDo; rw [if_pos hr]; rfl
    rw [hd]
    have hx' : ∀ x ∈ r, x.length ≤ 40 := fun x h => hx x (by simp [h])
    by_cases h0 : w = [71, 69, 84]
    · subst h0; exact w_82_GET b r hb hx' hr
    by_cases h1 : w = [83, 84, 82, 76, 69, 78]
    · subst h1; exact w_82_STRLEN b r hb hx' hr
    by_cases h2 : w = [73, 78, 67, 82]
    · subst h2; exact w_82_INCR b r hb hx' hr
    by_cases h3 : w = [83, 69, 84]
    · subst h3; exact w_82_SET b r hb hx' hr
    by_cases h4 : w = [65, 80, 80, 69, 78, 68]
    · subst h4; exact w_82_APPEND b r hb hx' hr
    by_cases h5 : w = [73, 78, 67, 82, 66, 89]
    · subst h5; exact w_82_INCRBY b r hb hx' hr
    by_cases h6 : w = [71, 69, 84, 82, 65, 78, 71, 69]
    · subst h6; exact w_82_GETRANGE b r hb hx' hr
    by_cases h7 : w = [76, 80, 85, 83, 72]
    · subst h7; exact w_82_LPUSH b r hb hx' hr
    by_cases h8 : w = [82, 80, 85, 83, 72]
    · subst h8; exact w_82_RPUSH b r hb hx' hr
    by_cases h9 : w = [76, 80, 79, 80]
    · subst h9; exact w_82_LPOP b r hb hx' hr
    by_cases h10 : w = [82, 80, 79, 80]
    · subst h10; exact w_82_RPOP b r hb hx' hr
    by_cases h11 : w = [76, 76, 69, 78]
    · subst h11; exact w_82_LLEN b r hb hx' hr
    by_cases h12 : w = [76, 82, 65, 78, 71, 69]
    · subst h12; exact w_82_LRANGE b r hb hx' hr
    by_cases h13 : w = [76, 84, 82, 73, 77]
    · subst h13; exact w_82_LTRIM b r hb hx' hr
    by_cases h14 : w = [76, 83, 69, 84]
    · subst h14; exact w_82_LSET b r hb hx' hr
    by_cases h15 : w = [76, 82, 69, 77]
    · subst h15; exact w_82_LREM b r hb hx' hr
    by_cases h16 : w = [83, 65, 68, 68]
    · subst h16; exact w_82_SADD b r hb hx' hr
    by_cases h17 : w = [83, 82, 69, 77]
    · subst h17; exact w_82_SREM b r hb hx' hr
    by_cases h18 : w = [83, 77, 69, 77, 66, 69, 82, 83]
    · subst h18; exact w_82_SMEMBERS b r hb hx' hr
    by_cases h19 : w = [83, 67, 65, 82, 68]
    · subst h19; exact w_82_SCARD b r hb hx' hr
    by_cases h20 : w = [83, 73, 83, 77, 69, 77, 66, 69, 82]
    · subst h20; exact w_82_SISMEMBER b r hb hx' hr
    by_cases h21 : w = [83, 73, 78, 84, 69, 82]
    · subst h21; exact w_82_SINTER b r hb hx' hr
    by_cases h22 : w = [83, 85, 78, 73, 79, 78]
    · subst h22; exact w_82_SUNION b r hb hx' hr
    by_cases h23 : w = [83, 68, 73, 70, 70]
    · subst h23; exact w_82_SDIFF b r hb hx' hr
    by_cases h24 : w = [90, 65, 68, 68]
    · subst h24; exact w_82_ZADD b r hb hx' hr
    by_cases h25 : w = [90, 73, 78, 67, 82, 66, 89]
    · subst h25; exact w_82_ZINCRBY b r hb hx' hr
    by_cases h26 : w = [90, 82, 65, 78, 71, 69]
    · subst h26; exact w_82_ZRANGE b r hb hx' hr
    by_cases h27 : w = [90, 82, 65, 78, 71, 69, 66, 89, 83, 67, 79, 82, 69]
    · subst h27; exact w_82_ZRANGEBYSCORE b r hb hx' hr
    by_cases h28 : w = [90, 82, 69, 77]
    · subst h28; exact w_82_ZREM b r hb hx' hr
    by_cases h29 : w = [90, 83, 67, 79, 82, 69]
    · subst h29; exact w_82_ZSCORE b r hb hx' hr
    by_cases h30 : w = [90, 82, 65, 78, 75]
    · subst h30; exact w_82_ZRANK b r hb hx' hr
    by_cases h31 : w = [90, 67, 65, 82, 68]
    · subst h31; exact w_82_ZCARD b r hb hx' hr
    by_cases h32 : w = [72, 83, 69, 84]
    · subst h32; exact w_82_HSET b r hb hx' hr
    by_cases h33 : w = [72, 71, 69, 84]
    · subst h33; exact w_82_HGET b r hb hx' hr
    by_cases h34 : w = [72, 68, 69, 76]
    · subst h34; exact w_82_HDEL b r hb hx' hr
    by_cases h35 : w = [72, 71, 69, 84, 65, 76, 76]
    · subst h35; exact w_82_HGETALL b r hb hx' hr
    by_cases h36 : w = [72, 76, 69, 78]
    · subst h36; exact w_82_HLEN b r hb hx' hr
    by_cases h37 : w = [72, 73, 78, 67, 82, 66, 89]
    · subst h37; exact w_82_HINCRBY b r hb hx' hr
    by_cases h38 : w = [68, 69, 76]
    · subst h38; exact w_82_DEL b r hb hx' hr
    by_cases h39 : w = [69, 88, 73, 83, 84, 83]
    · subst h39; exact w_82_EXISTS b r hb hx' hr
    by_cases h40 : w = [84, 89, 80, 69]
    · subst h40; exact w_82_TYPE b r hb hx' hr
    by_cases h41 : w = [84, 84, 76]
    · subst h41; exact w_82_TTL b r hb hx' hr
    by_cases h42 : w = [80, 69, 82, 83, 73, 83, 84]
    · subst h42; exact w_82_PERSIST b r hb hx' hr
    by_cases h43 : w = [69, 88, 80, 73, 82, 69]
    · subst h43; exact w_82_EXPIRE b r hb hx' hr
    by_cases h44 : w = [69, 88, 80, 73, 82, 69, 65, 84]
    · subst h44; exact w_82_EXPIREAT b r hb hx' hr
    by_cases h45 : w = [82, 69, 78, 65, 77, 69]
    · subst h45; exact w_82_RENAME b r hb hx' hr
    by_cases h46 : w = [75, 69, 89, 83]
    · subst h46; exact w_82_KEYS b r hb hx' hr
    by_cases h47 : w = [68, 66, 83, 73, 90, 69]
    · subst h47; exact w_82_DBSIZE b r hb hx' hr
    by_cases h48 : w = [70, 76, 85, 83, 72]
    · subst h48; exact w_82_FLUSH b r hb hx' hr
    exfalso
    have hw := wordV_no w (eq_false h0) (eq_false h1) (eq_false h2) (eq_false h3) (eq_false h4) (eq_false h5) (eq_false h6) (eq_false h7) (eq_false h8) (eq_false h9) (eq_false h10) (eq_false h11) (eq_false h12) (eq_false h13) (eq_false h14) (eq_false h15) (eq_false h16) (eq_false h17) (eq_false h18) (eq_false h19) (eq_false h20) (eq_false h21) (eq_false h22) (eq_false h23) (eq_false h24) (eq_false h25) (eq_false h26) (eq_false h27) (eq_false h28) (eq_false h29) (eq_false h30) (eq_false h31) (eq_false h32) (eq_false h33) (eq_false h34) (eq_false h35) (eq_false h36) (eq_false h37) (eq_false h38) (eq_false h39) (eq_false h40) (eq_false h41) (eq_false h42) (eq_false h43) (eq_false h44) (eq_false h45) (eq_false h46) (eq_false h47) (eq_false h48)
    unfold readyV at hr
    rw [show (w :: r).getD 0 [] = w from rfl, hw] at hr
    simp at hr
  · have hd : rDo b (w :: r) = (b, errRe (readyV b (w :: r))) := by unfold rDo; rw [if_neg hr]
    rw [hd]
    refine pureCall_eq fun H => ?_
    refine ev_fn (fn := f82) rfl rfl ?_
    have p1 := p_107 b (w :: r) hb.sm (by omega) (by simp)
    have p2 := p_108 (readyV b (w :: r))
    generalize readyV b (w :: r) = t at *
    simp only [txts, List.map_cons, List.map_nil] at p1
    simp (maxSteps := 1000000) [evL, -List.getD_eq_getElem?_getD, -List.map_map, f82, p1, p2, eq_false hr, pairD, errRe]
end Go.Proofs.YtjdmiodinhlchaaGreat.Code
