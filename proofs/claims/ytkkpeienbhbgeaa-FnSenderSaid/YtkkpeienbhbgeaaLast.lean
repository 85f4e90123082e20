/-
  A region that draws its order, under a condition on the world that is owed behind some of its operations only.
-/
import Derived.Test.YtkkpeienbhbgeaaReg
import Derived.Deep.RegionHeld3
namespace Go.Proofs.Ytkkpeienbhbgeaa
open Go

section
variable {P : Program} {ops : Array Oper} {Q : Exit → Act → World → Prop} {md : Region.Mode} {S : World → Prop} {B : Nat → Bool}

/-- In whatever order; S is owed behind those that B names. -/
def owedAny (P : Program) (md : Region.Mode) (ops : Array Oper) (Q : Exit → Act → World → Prop) (S : World → Prop) (B : Nat → Bool) : Nat → Array Bool → Act → World → Prop
  | 0, done, a, w => Region.ready md ops done = [] ∧ Q .normal a w
  | n + 1, done, a, w => (Region.ready md ops done = [] → Q .normal a w) ∧ ∀ k, k ∈ Region.ready md ops done → wpOp P ops Q k (fun b x => (B k = true → S x) ∧ owedAny P md ops Q S B n (done.setIfInBounds k true) b x) a w

theorem owed_any {n : Nat} : ∀ {done : Array Bool} {a : Act} {w : World}, owedAny P md ops Q S B n done a w → wpAny P md ops Q n done a w := by
  induction n with
  | zero => exact fun h => h
  | succ n ih => exact fun h => ⟨h.1, fun k hk => wpOp_mono (fun _ _ hb => ih hb.2) (h.2 k hk)⟩

/-- Whoever may come before number i leaves S, and does not meet it; those in Z come behind it. -/
def before (md : Region.Mode) (ops : Array Oper) (B Z : Nat → Bool) (done : Array Bool) (i : Nat) : Bool :=
  match ops[i]? with
  | none => false
  | some oi => (List.range ops.size).all fun k => k == i || done.getD k true || match ops[k]? with
    | none => true
    | some ok => (Z k && ok.after.any fun e => Region.binds md e && (e.on == i || (Z e.on && !done.getD e.on true))) || (!Z k && (oi.apart ops ok && B k))
theorem before_out {Z : Nat → Bool} {i : Nat} {oi : Oper} {done : Array Bool} (hi : ops[i]? = some oi) (h : before md ops B Z done i = true) (hid : done.getD i true = false) {k : Nat} {ok : Oper} (hk : ops[k]? = some ok) (hne : k ≠ i) (hun : done.getD k true = false)
    (hwait : ∀ e ∈ ok.after, Region.binds md e = true → done.getD e.on false = true) : Z k = false ∧ oi.apart ops ok = true ∧ B k = true := by
  unfold before at h
  rw [hi] at h
  have h1 := List.all_eq_true.1 h k (List.mem_range.2 (Array.getElem?_eq_some_iff.1 hk).1)
  rw [hk, hun] at h1
  simp only [Bool.or_false, Bool.or_eq_true, beq_iff_eq, hne, false_or, Bool.and_eq_true] at h1
  rcases h1 with ⟨hz, h1⟩ | h1
  · exfalso
    obtain ⟨q, hq, h2⟩ := Array.any_eq_true.1 h1
    simp only [Bool.and_eq_true, Bool.or_eq_true, beq_iff_eq] at h2
    have h3 := hwait _ (Array.getElem_mem hq) h2.1
    rcases h2.2 with h4 | ⟨_, h4⟩
    · rw [h4] at h3
      rw [Array.getD_eq_getD_getElem?] at h3 hid
      cases hx : done[i]? <;> simp_all
    · simp only [Bool.not_eq_true'] at h4
      rw [Array.getD_eq_getD_getElem?] at h3 h4
      cases hx : done[ok.after[q].on]? <;> simp_all
  · exact ⟨by simpa using h1.1, h1.2⟩
theorem unset {done : Array Bool} {j k : Nat} (hne : j ≠ k) : (done.setIfInBounds j true).getD k true = done.getD k true := by
  rw [Array.getD_eq_getD_getElem?, Array.getD_eq_getD_getElem?, Array.getElem?_setIfInBounds_ne hne]
theorem before_more {Z : Nat → Bool} {i k : Nat} {oi : Oper} {done : Array Bool} (hi : ops[i]? = some oi) (h : before md ops B Z done i = true) (hz : Z k = false) : before md ops B Z (done.setIfInBounds k true) i = true := by
  unfold before at h ⊢
  rw [hi] at h ⊢
  rw [List.all_eq_true] at h ⊢
  intro q hq
  have hb := h q hq
  have hmono : ∀ j, done.getD j true = true → (done.setIfInBounds k true).getD j true = true := fun j hj => by
    rw [Array.getD_eq_getD_getElem?] at hj ⊢
    rw [Array.getElem?_setIfInBounds]
    split
    · split <;> simp
    · exact hj
  simp only [Bool.or_eq_true] at hb ⊢
  rcases hb with (hb | hb) | hb
  · exact .inl (.inl hb)
  · exact .inl (.inr (hmono q hb))
  · refine .inr ?_
    cases hoq : ops[q]? with
    | none => rfl
    | some ok =>
      rw [hoq] at hb
      simp only [Bool.or_eq_true, Bool.and_eq_true] at hb ⊢
      rcases hb with ⟨h1, h2⟩ | hb
      · refine .inl ⟨h1, ?_⟩
        obtain ⟨r, hr, h3⟩ := Array.any_eq_true.1 h2
        refine Array.any_eq_true.2 ⟨r, hr, ?_⟩
        simp only [Bool.and_eq_true, Bool.or_eq_true] at h3 ⊢
        refine ⟨h3.1, h3.2.imp id fun ⟨h4, h5⟩ => ⟨h4, ?_⟩⟩
        have hne : k ≠ ok.after[r].on := by
          rintro rfl
          rw [hz] at h4
          cases h4
        rw [unset hne]
        exact h5
      · exact .inr hb

/-- T: what the operation asks of the world; it holds wherever S does, or always. -/
theorem owed_first {T : World → Prop} {Z : Nat → Bool} {B' : Nat → Bool} {i : Nat} {oi : Oper} {v : Value} (hi : ops[i]? = some oi) (hsel : Region.noSelect ops = true) (hQ : ∀ c a w, Q (.panic c) (a.put oi.dst v) w → Q (.panic c) a w)
    (hT : ∀ k x, B' k = true → (B k = true → S x) → T x) (hTi : ∀ x, T x → B i = true → S x) (n : Nat) :
    ∀ (done : Array Bool) (a : Act) (w : World), before md ops B' Z done i = true → i ∈ Region.ready md ops done → YieldsIf P ops T oi v a → T w →
      owedAny P md ops Q S B n (done.setIfInBounds i true) (a.put oi.dst v) w → owedAny P md ops Q S B (n + 1) done a w := by
  have hns := Region.noSelect_spec hsel
  induction n with
  | zero =>
    intro done a w _ hr hy hS H
    constructor
    · intro h0
      rw [h0] at hr
      cases hr
    · intro k hk
      rcases Nat.decEq k i with hne | rfl
      · have := ready_mono hk hne
        rw [H.1] at this
        cases this
      · exact hy.wpOp hi hS ⟨hTi w hS, H⟩
  | succ n ih =>
    intro done a w hbef hr hy hS H
    constructor
    · intro h0
      rw [h0] at hr
      cases hr
    · intro k hk
      rcases Nat.decEq k i with hne | rfl
      · obtain ⟨hun, ok, hok, hwait⟩ := mem_ready.1 hk
        have hun0 := (mem_ready.1 hr).1
        obtain ⟨hz, hap, hB⟩ := before_out hi hbef hun0 hok hne hun hwait
        have h3 := wpOp_putIf hok hap (fun cs b => hns i oi cs b hi) (fun cs b => hns k ok cs b hok) hQ hy (H.2 k (ready_mono hk hne))
        refine wpOp_mono (fun b x hx => ?_) h3
        obtain ⟨hyb, hSx, hHx⟩ := hx
        refine ⟨hSx, ih _ b x (before_more hi hbef hz) (ready_mono hr (Ne.symm hne)) hyb (hT k x hB hSx) ?_⟩
        rw [Array.setIfInBounds_comm _ _ hne]
        exact hHx
      · exact hy.wpOp hi hS ⟨hTi w hS, H⟩
theorem owed_take (Z : Nat → Bool) {i : Nat} {oi : Oper} {v : Value} {n : Nat} {done : Array Bool} {a : Act} {w : World} (hi : ops[i]? = some oi) (hsel : Region.noSelect ops = true) (hf : before md ops B Z done i = true) (hr : (Region.ready md ops done).contains i = true)
    (hQ : ∀ c a w, Q (.panic c) (a.put oi.dst v) w → Q (.panic c) a w) (hy : YieldsIf P ops S oi v a) (hS : S w) (h : owedAny P md ops Q S B n (done.setIfInBounds i true) (a.put oi.dst v) w) : owedAny P md ops Q S B (n + 1) done a w :=
  owed_first (T := S) (B' := B) hi hsel hQ (fun _ _ hb h => h hb) (fun _ h _ => h) n done a w hf (by simpa using hr) hy hS h
theorem owed_take_free (Z : Nat → Bool) {i : Nat} {oi : Oper} {v : Value} {n : Nat} {done : Array Bool} {a : Act} {w : World} (hi : ops[i]? = some oi) (hsel : Region.noSelect ops = true) (hf : before md ops (fun _ => true) Z done i = true) (hr : (Region.ready md ops done).contains i = true)
    (hQ : ∀ c a w, Q (.panic c) (a.put oi.dst v) w → Q (.panic c) a w) (hy : YieldsIf P ops (fun _ => True) oi v a) (hB : B i = false) (h : owedAny P md ops Q S B n (done.setIfInBounds i true) (a.put oi.dst v) w) : owedAny P md ops Q S B (n + 1) done a w :=
  owed_first (T := fun _ => True) (B' := fun _ => true) hi hsel hQ (fun _ _ _ _ => trivial) (fun _ _ h => by rw [hB] at h; cases h) n done a w hf (by simpa using hr) hy trivial h
/-- Each of these comes up next. -/
def owedEach (P : Program) (md : Region.Mode) (ops : Array Oper) (Q : Exit → Act → World → Prop) (S : World → Prop) (B : Nat → Bool) (n : Nat) (done : Array Bool) (a : Act) (w : World) (rs : List Nat) : Prop :=
  ∀ k, k ∈ rs → wpOp P ops Q k (fun b x => (B k = true → S x) ∧ owedAny P md ops Q S B n (done.setIfInBounds k true) b x) a w
theorem owedEach.nil {n : Nat} {done : Array Bool} {a : Act} {w : World} : owedEach P md ops Q S B n done a w [] := fun _ h => by cases h
theorem owedEach.cons {n : Nat} {done : Array Bool} {a : Act} {w : World} {k : Nat} {o : Oper} {rs : List Nat} (ho : ops[k]? = some o)
    (h : ∀ K' : Act → World → Prop, Shut (∀ b x, (B k = true → S x) → ((B k = true → S x) → owedAny P md ops Q S B n (done.setIfInBounds k true) b x) → K' b x) → if Region.wanted o (yielded ops a.tmps) = true then Oper.wp P o a w K' Q else K' (a.put o.dst undef) w)
    (hs : owedEach P md ops Q S B n done a w rs) : owedEach P md ops Q S B n done a w (k :: rs) := by
  intro j hj
  rcases List.mem_cons.1 hj with rfl | hj
  · exact wpOp_step ho fun K' hK => h K' fun b x h1 h2 => hK b x ⟨h1, h2 h1⟩
  · exact hs j hj
theorem owed_ready {rs : List Nat} {n : Nat} {done : Array Bool} {a : Act} {w : World} (hr : Region.ready md ops done = rs) (hne : rs ≠ []) (h : owedEach P md ops Q S B n done a w rs) : owedAny P md ops Q S B (n + 1) done a w := by
  subst hr
  exact ⟨fun h0 => absurd h0 hne, h⟩
theorem owed_done {n : Nat} {done : Array Bool} {a : Act} {w : World} (hr : Region.ready md ops done = []) (h : Q .normal a w) : owedAny P md ops Q S B n done a w := by
  cases n with
  | zero => exact ⟨hr, h⟩
  | succ n => exact ⟨fun _ => h, fun k hk => by rw [hr] at hk; cases hk⟩
theorem wp_region_owed {id : Nat} {a : Act} {w : World} (hm : P.follows .mixedOrders = true) (hS : S w.drew) (h : S w.drew → owedAny P .any ops Q S B ops.size (Array.replicate ops.size false) a w.drew) : (Code.region id ops true).wp P Q a w :=
  wp_region_any hm (owed_any (h hS))
end
end Go.Proofs.Ytkkpeienbhbgeaa
