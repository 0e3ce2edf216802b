/- Each operation of compact code does what the model's operation does: arithmetic, comparisons, conversions, function values. -/
import Derived.Test.YtpmphmpaeooeeaaDoorE7
import Derived.Laws.StructEq
import Derived.Laws.Strings
namespace Go.Ev
open Go
set_option linter.unusedSimpArgs false
set_option linter.unusedVariables false

section
variable {P : Program} {cl : Callf} {G : Glob} {w : World} {pl : Pl} {Bd : Nat → Prop} {H : Hp} {env : Env} {a : Act}

theorem RV.dd {O : Own} {n : Nat} {x : D} {u : Value} (h : RV w O pl n (.d x) u) : RD w O x u := by cases h with | d _ _ h => exact h
theorem RD.int_eq {O : Own} {k : IntKind} {m : Int} {u : Value} (h : RD w O (.int k m) u) : u = .int k m := by cases h; rfl
theorem RD.bool_eq {O : Own} {b : Bool} {u : Value} (h : RD w O (.bool b) u) : u = .bool b := by cases h; rfl
theorem RD.str_eq {O : Own} {s : List UInt8} {u : Value} (h : RD w O (.str s) u) : ∃ t : ByteArray, u = .string t ∧ t.toList = s ∧ t.size = s.length := by
  cases h
  rename_i t ht
  exact ⟨t, rfl, by rw [ByteArray.toList_eq, ht], by rw [← ht]; simp⟩

def sval : D → Value
  | .int k n => .int k n
  | .bool b => .bool b
  | .str s => .string ⟨s.toArray⟩
  | _ => undef
def isSv : D → Bool
  | .int _ _ => true
  | .bool _ => true
  | .str _ => true
  | _ => false
theorem sval_rd {O : Own} {z : D} (h : isSv z = true) : RD w O z (sval z) := by
  cases z <;> simp [isSv] at h
  · exact .bool _
  · exact .int _ _
  · exact .str _ _ (by simp)

theorem run_shift {op : BinOp} {k yk : IntKind} {x y : Int} {z : D} (h : shInt op k x y = some z) (t : TypeId) (X Y : Operand) (hop : op = .shl ∨ op = .shr) :
    (do eqGuard op t X Y (.int k x) (.int yk y); binOp op t (.int k x) (.int yk y) : Sem Value).run P w = .ok (sval z) w ∧ isSv z = true := by
  unfold shInt at h
  split at h
  · simp at h
  · rename_i hy
    rcases hop with rfl | rfl <;> simp at h <;> subst h <;> refine ⟨?_, rfl⟩ <;> simp [eqGuard, binOp, Op.shift, hy, sval]

theorem run_binInt {op : BinOp} {k : IntKind} {x y : Int} {z : D} (h : binInt op k x y = some z) (t : TypeId) (X Y : Operand) (h1 : op ≠ .shl) (h2 : op ≠ .shr) :
    (do eqGuard op t X Y (.int k x) (.int k y); binOp op t (.int k x) (.int k y) : Sem Value).run P w = .ok (sval z) w ∧ isSv z = true := by
  cases op
  case shl => exact absurd rfl h1
  case shr => exact absurd rfl h2
  case quo =>
    simp only [binInt] at h
    split at h
    · simp at h
    · rename_i h0
      simp at h; subst h
      exact ⟨by simp [eqGuard, binOp, Op.intDiv, h0, sval], rfl⟩
  case rem =>
    simp only [binInt] at h
    split at h
    · simp at h
    · rename_i h0
      simp at h; subst h
      exact ⟨by simp [eqGuard, binOp, Op.intDiv, h0, sval], rfl⟩
  case eql => simp only [binInt, Option.some.injEq] at h; subst h; exact ⟨by simp only [eqGuard_at_int, binOp_eql, Sem.run_bind, Sem.run_pure, Result.andThen_ok, sval]; rfl, rfl⟩
  case neq => simp only [binInt, Option.some.injEq] at h; subst h; exact ⟨by simp only [eqGuard_at_int, binOp_neq, Sem.run_bind, Sem.run_pure, Result.andThen_ok, sval]; rfl, rfl⟩
  case and => simp only [binInt, bitsOp, Option.some.injEq] at h; subst h; exact ⟨by simp only [eqGuard_at_int, binOp_and, Sem.run_bind, Sem.run_pure, Result.andThen_ok, sval]; rfl, rfl⟩
  case or => simp only [binInt, bitsOp, Option.some.injEq] at h; subst h; exact ⟨by simp only [eqGuard_at_int, binOp_or, Sem.run_bind, Sem.run_pure, Result.andThen_ok, sval]; rfl, rfl⟩
  case xor => simp only [binInt, bitsOp, Option.some.injEq] at h; subst h; exact ⟨by simp only [eqGuard_at_int, binOp_xor, Sem.run_bind, Sem.run_pure, Result.andThen_ok, sval]; rfl, rfl⟩
  case andNot => simp only [binInt, bitsOp, Option.some.injEq] at h; subst h; exact ⟨by simp only [eqGuard_at_int, binOp_andNot, Sem.run_bind, Sem.run_pure, Result.andThen_ok, sval]; rfl, rfl⟩
  all_goals (simp only [binInt, Option.some.injEq] at h; subst h; exact ⟨by simp [eqGuard, binOp, Op.intArith, Op.intCmp, sval], rfl⟩)

theorem run_binStr {op : BinOp} {x y : List UInt8} {z : D} (h : binStr op x y = some z) (t : TypeId) (X Y : Operand) {s s' : ByteArray} (hs : s.toList = x) (hs' : s'.toList = y) :
    ∃ u, (do eqGuard op t X Y (.string s) (.string s'); binOp op t (.string s) (.string s') : Sem Value).run P w = .ok u w ∧ RD w (owned pl H) z u := by
  have hz : s.size = x.length := by rw [← hs, ByteArray.toList_eq]; simp
  have hz' : s'.size = y.length := by rw [← hs', ByteArray.toList_eq]; simp
  have hbeq : (s.toList == s'.toList) = decide (x = y) := by rw [hs, hs', Bool.eq_iff_iff]; simp
  have hlt : Op.bytesLess s.toList s'.toList = Op.bytesLess x y := by rw [hs, hs']
  cases op <;> simp only [binStr, Option.some.injEq, reduceCtorEq] at h
  case add =>
    split at h
    · rename_i hroom
      simp only [Option.some.injEq] at h
      subst h
      refine ⟨.string (s ++ s'), ?_, .str _ _ ?_⟩
      · have : ¬ (((s.size + s'.size : Nat) : Int) > IntKind.i64.max) := by rw [hz, hz']; simp [strRoom] at hroom ⊢; omega
        simp only [eqGuard_at_string, binOp, Op.stringOp, Sem.run_bind, Sem.run_pure, Result.andThen_ok, if_neg this]
      · rw [← hs, ← hs', ByteArray.toList_eq, ByteArray.toList_eq]
        simp
    · simp at h
  all_goals
    subst h
    refine ⟨.bool _, by simp only [eqGuard_at_string, binOp, Op.stringOp, Sem.run_bind, Sem.run_pure, Result.andThen_ok]; rfl, ?_⟩
    try rw [hbeq]
    try rw [hlt]
    exact .bool _

theorem descIs_some {t : Nat} {p : TypeDesc → Bool} (h : descIs P t p = true) : ∃ d, P.underlying t = some d ∧ p d = true := by
  unfold descIs at h
  split at h
  · rename_i d hd; exact ⟨d, hd, h⟩
  · simp at h

/-- Scalars of one kind, held against each other. -/
theorem run_scalEq {d : Nat} {k : SK} {x y : D} {b : Bool} {t : Nat} (h : scalEq k x y = some b) (ht : descIs P t (kindIs k) = true) {O : Own} {u v : Value} (hu : RD w O x u) (hv : RD w O y v) :
    (Op.equalIn (d + 1) t u v).run P w = .ok b w := by
  obtain ⟨ds, hds, hk⟩ := descIs_some ht
  unfold scalEq at h
  split at h
  · split at h
    · rename_i k1 a1 k2 b1 hkk
      subst hkk
      simp at h; subst h
      rw [hu.int_eq, hv.int_eq]
      cases ds <;> simp [kindIs] at hk
      rw [run_equalIn_int w d t k1 _ a1 b1 hds]
      rfl
    · simp at h
  · rename_i a1 b1
    simp at h; subst h
    obtain ⟨s1, rfl, e1, _⟩ := hu.str_eq
    obtain ⟨s2, rfl, e2, _⟩ := hv.str_eq
    cases ds <;> simp [kindIs] at hk
    rw [run_equalIn_string w d t s1 s2 hds, e1, e2]
    congr 1
    rw [Bool.eq_iff_iff]; simp
  · rename_i a1 b1
    simp at h; subst h
    rw [hu.bool_eq, hv.bool_eq]
    cases ds <;> simp [kindIs] at hk
    exact run_equalIn_bool' w d t a1 b1 hds
  · simp at h

theorem scalEqs_len : ∀ {ks : List SK} {as bs : List D} {r : Bool}, scalEqs ks as bs = some r → as.length = ks.length ∧ bs.length = ks.length
  | [], [], [], _, _ => ⟨rfl, rfl⟩
  | [], [], _ :: _, _, h => by simp [scalEqs] at h
  | [], _ :: _, _, _, h => by simp [scalEqs] at h
  | _ :: _, [], _, _, h => by simp [scalEqs] at h
  | _ :: _, _ :: _, [], _, h => by simp [scalEqs] at h
  | k :: ks, a :: as, b :: bs, r, h => by
    simp only [scalEqs] at h
    split at h
    · rename_i x y h1 h2
      obtain ⟨l1, l2⟩ := scalEqs_len h2
      exact ⟨by simp [l1], by simp [l2]⟩
    · simp at h

theorem run_part1 {t : Nat} (hsz : szIs P t 1 = true) {k : SK} (hk : descIs P t (kindIs k) = true) {xs : Array Value} {n : Nat} (hn : n < xs.size) : (part t xs n).run P w = .ok (xs.getD n undef) w := by
  obtain ⟨ds, hds, hkk⟩ := descIs_some hk
  have hag : aggIs P t false = true := by
    unfold aggIs; rw [hds]; cases ds <;> first | rfl | (cases k <;> simp [kindIs] at hkk)
  simp [part, run_isAgg hag, Array.getElem?_eq_getElem hn, hn]

theorem run_eqFields {d : Nat} {xs ys : Array Value} {O : Own} : ∀ (fs : List Field) (ks : List SK) (n : Nat) (as bs : List D) (r : Bool), scalFields P n fs ks = true → scalEqs ks as bs = some r →
    n + as.length ≤ xs.size → n + bs.length ≤ ys.size → (∀ i, i < as.length → RD w O (as.getD i .nilp) (xs.getD (n + i) undef)) → (∀ i, i < bs.length → RD w O (bs.getD i .nilp) (ys.getD (n + i) undef)) →
    (Op.eqFields (d + 1) xs ys fs).run P w = .ok r w
  | [], [], n, as, bs, r, _, h, _, _, _, _ => by
    match as, bs, h with
    | [], [], h => simp [scalEqs] at h; subst h; rfl
    | [], _ :: _, h => simp [scalEqs] at h
    | _ :: _, _, h => simp [scalEqs] at h
  | [], _ :: _, _, _, _, _, hf, _, _, _, _, _ => by simp [scalFields] at hf
  | _ :: _, [], _, _, _, _, hf, _, _, _, _, _ => by simp [scalFields] at hf
  | f :: fs, k :: ks, n, as, bs, r, hf, h, hx, hy, h1, h2 => by
    match as, bs, h with
    | [], _, h => simp [scalEqs] at h
    | _ :: _, [], h => simp [scalEqs] at h
    | a :: as, b :: bs, h =>
      simp only [scalFields, Bool.and_eq_true, decide_eq_true_eq] at hf
      obtain ⟨⟨⟨⟨f1, f2⟩, f3⟩, f4⟩, f5⟩ := hf
      have f1 := Nat.eq_of_beq_eq_true f1
      simp only [scalEqs] at h
      split at h
      · rename_i p q hp hq
        simp at h; subst h
        simp only [List.length_cons] at hx hy h1 h2
        have ih := run_eqFields (d := d) (xs := xs) (ys := ys) (O := O) fs ks (n + 1) as bs q f5 hq (by omega) (by omega)
          (fun i hi => by have := h1 (i + 1) (by omega); rw [show n + 1 + i = n + (i + 1) by omega]; simpa using this)
          (fun i hi => by have := h2 (i + 1) (by omega); rw [show n + 1 + i = n + (i + 1) by omega]; simpa using this)
        have ha := h1 0 (by omega)
        have hb := h2 0 (by omega)
        have he := run_scalEq (P := P) (d := d) hp f3 ha hb
        simp only [Op.eqFields, if_pos f4, f1, Sem.run_bind, run_part1 f2 f3 (show n < xs.size by omega), run_part1 f2 f3 (show n < ys.size by omega), Result.andThen_ok]
        rw [show xs.getD n undef = xs.getD (n + 0) undef from rfl, show ys.getD n undef = ys.getD (n + 0) undef from rfl, he]
        cases p
        · simp
        · simp [ih]
      · simp at h

theorem run_eqNN {d t : Nat} {ms : Array (String × TypeId)} (h : P.underlying t = some (.interface ms)) : (Op.equalIn (d + 1) t .nilIface .nilIface).run P w = .ok true w := by simp [Op.equalIn, run_underlying h]
theorem run_eqNI {d t k : Nat} {u : Value} {ms : Array (String × TypeId)} (h : P.underlying t = some (.interface ms)) : (Op.equalIn (d + 1) t .nilIface (.iface k u)).run P w = .ok false w := by simp [Op.equalIn, run_underlying h]
theorem run_eqIN {d t k : Nat} {u : Value} {ms : Array (String × TypeId)} (h : P.underlying t = some (.interface ms)) : (Op.equalIn (d + 1) t (.iface k u) .nilIface).run P w = .ok false w := by simp [Op.equalIn, run_underlying h]

theorem run_eqOf {ty : BTy} {t : Nat} {X Y : Operand} {x y : D} {b : Bool} (hty : ty ≠ .val) (h : eqOf ty x y = some b) (hc : binOk P ty t Y = true) {O : Own} {u v : Value} (hu : RD w O x u) (hv : RD w O y v) :
    (do eqGuard .eql t X Y u v; binOp .eql t u v : Sem Value).run P w = .ok (.bool b) w ∧ (do eqGuard .neq t X Y u v; binOp .neq t u v : Sem Value).run P w = .ok (.bool !b) w := by
  unfold eqOf at h
  split at h
  · rename_i p q
    simp at h; subst h
    rw [hu.bool_eq, hv.bool_eq]
    obtain ⟨ds, hds, hk⟩ := descIs_some (show descIs P t isBool = true from hc)
    cases ds <;> simp [isBool] at hk
    have he := run_equalIn_bool' (P := P) w 9999 t p q hds
    simp only [eqGuard_at_bool, binOp, Op.equal, Op.maxDepth, Sem.run_bind, Sem.run_pure, Result.andThen_ok, he]
    exact ⟨trivial, trivial⟩
  · rename_i ks as bs
    have hlen := scalEqs_len h
    simp only [binOk, Bool.and_eq_true, Bool.not_eq_true'] at hc
    obtain ⟨⟨c1, c2⟩, c3⟩ := hc
    cases hu with
    | agg _ us hl1 _ hu =>
      cases hv with
      | agg _ vs hl2 _ hv =>
        cases hfs : fieldsOf P t with
        | none => rw [hfs] at c1; simp at c1
        | some fs =>
          rw [hfs] at c1
          have hund : P.underlying t = some (.struct fs) := by
            unfold fieldsOf at hfs
            split at hfs
            · rename_i fs' h'; simp at hfs; subst hfs; exact h'
            · simp at hfs
          have hfo : P.fieldsOf t = fs := by simp [Program.fieldsOf, hund]
          have hrun := run_eqFields (P := P) (w := w) (d := 9998) (xs := us) (ys := vs) fs.toList ks 0 as bs b c1 h (by omega) (by omega) (fun i hi => by rw [Nat.zero_add]; exact hu i hi) (fun i hi => by rw [Nat.zero_add]; exact hv i hi)
          have he := run_equalIn_struct (P := P) w 9999 t us vs (by rw [hfo]; exact hund) c2
          rw [hfo] at he
          simp only [Sem.run_bind, run_eqGuard_agg w _ t X Y us vs c3, Result.andThen_ok, run_eql_struct, run_neq_struct, he, hrun]
          exact ⟨trivial, trivial⟩
  · simp at h; subst h
    cases hu; cases hv
    simp only [binOk, Bool.and_eq_true] at hc
    obtain ⟨ds, hds, hk⟩ := descIs_some hc.1
    cases ds <;> simp [isIface] at hk
    cases Y <;> simp at hc
    have he := run_eqNN (P := P) (w := w) (d := 9999) hds
    simp only [eqGuard_nil_constR, binOp, Op.equal, Op.maxDepth, Sem.run_bind, Sem.run_pure, Result.andThen_ok, he]
    exact ⟨trivial, trivial⟩
  · simp at h; subst h
    cases hu
    simp only [binOk, Bool.and_eq_true] at hc
    obtain ⟨ds, hds, hk⟩ := descIs_some hc.1
    cases ds <;> simp [isIface] at hk
    cases hv
    rename_i x v hv
    have he := fun k => run_eqNI (P := P) (w := w) (d := 9999) (k := k) (u := v) hds
    simp only [eqGuard_nil_iface, binOp, Op.equal, Op.maxDepth, Sem.run_bind, Sem.run_pure, Result.andThen_ok]
    simp only [he, Result.andThen_ok]
    exact ⟨trivial, trivial⟩
  · simp at h; subst h
    cases hv
    simp only [binOk, Bool.and_eq_true] at hc
    obtain ⟨ds, hds, hk⟩ := descIs_some hc.1
    cases ds <;> simp [isIface] at hk
    cases hu
    rename_i x v hu
    have he := fun k => run_eqIN (P := P) (w := w) (d := 9999) (k := k) (u := v) hds
    simp only [eqGuard_at_iface, binOp, Op.equal, Op.maxDepth, Sem.run_bind, Sem.run_pure, Result.andThen_ok]
    simp only [he, Result.andThen_ok]
    exact ⟨trivial, trivial⟩
  · simp at h

theorem sim_bin (hG : GR G w (owned pl H)) (hH : HR w pl Bd H) (hE : RE w (owned pl H) pl (hlen H) env a) {o : Oper} {op : BinOp} {t ty' : TypeId} {X Y : Operand} (ho : o.op = .binOp op t X Y ty') {x y : AOpd} (hx : opdOk x X = true) (hy : opdOk y Y = true)
    {ty : BTy} (hc : binOk P ty t Y = true) {p q z : D} (hp : opd G env x = .d p) (hq : opd G env y = .d q) (hz : binD op ty p q = some z) : OpSim P o a w pl Bd H (.d z) H := by
  have hu := opd_ok hx hG hE (by rw [hp]; rfl)
  have hv := opd_ok hy hG hE (by rw [hq]; rfl)
  rw [hp] at hu
  rw [hq] at hv
  have hu := hu.dd
  have hv := hv.dd
  suffices hs : ∃ u, (do eqGuard op t X Y (a.eval X) (a.eval Y); binOp op t (a.eval X) (a.eval Y) : Sem Value).run P w = .ok u w ∧ RD w (owned pl H) z u by
    obtain ⟨u, hrun, hrd⟩ := hs
    exact .pure hH (u := u) (by simp only [execOp, ho]; rw [Sem.run_bind, hrun]; rfl) (.d _ _ hrd)
  generalize a.eval X = u at *
  generalize a.eval Y = v at *
  unfold binD at hz
  split at hz
  · split at hz
    · rw [hu.int_eq, hv.int_eq]
      obtain ⟨h1, h2⟩ := run_shift (P := P) (w := w) hz t X Y (.inl rfl)
      exact ⟨_, h1, sval_rd h2⟩
    · rw [hu.int_eq, hv.int_eq]
      obtain ⟨h1, h2⟩ := run_shift (P := P) (w := w) hz t X Y (.inr rfl)
      exact ⟨_, h1, sval_rd h2⟩
    · split at hz
      · rename_i hn1 hn2 hk
        subst hk
        rw [hu.int_eq, hv.int_eq]
        have h1 : op ≠ .shl := by rintro rfl; exact absurd rfl (by first | exact hn1 _ _ _ _ rfl rfl | exact fun _ => hn1 _ _ _ _ rfl rfl rfl | assumption)
        have h2 : op ≠ .shr := by rintro rfl; exact absurd rfl (by first | exact hn2 _ _ _ _ rfl rfl | exact fun _ => hn2 _ _ _ _ rfl rfl rfl | assumption)
        obtain ⟨h1, h2⟩ := run_binInt (P := P) (w := w) hz t X Y h1 h2
        exact ⟨_, h1, sval_rd h2⟩
      · simp at hz
    · obtain ⟨s1, rfl, e1, _⟩ := hu.str_eq
      obtain ⟨s2, rfl, e2, _⟩ := hv.str_eq
      exact run_binStr hz t X Y e1 e2
    · simp at hz
  · rename_i hty
    split at hz
    · split at hz
      · rename_i b hb
        simp at hz; subst hz
        exact ⟨_, (run_eqOf (X := X) (by intro h; exact hty h) hb hc hu hv).1, .bool _⟩
      · simp at hz
    · split at hz
      · rename_i b hb
        simp at hz; subst hz
        exact ⟨_, (run_eqOf (X := X) (by intro h; exact hty h) hb hc hu hv).2, .bool _⟩
      · simp at hz
    · simp at hz
end
end Go.Ev
