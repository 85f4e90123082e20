/-
  Contracts of HwOf and CacheOk, the program's and the reference's, and of the reference's search.
-/
import Derived.Test.YteaniiponikpjaaOpnEntry
import Derived.Test.YteaniiponikpjaaNum
namespace Go.Proofs.Yteaniiponikpjaa
set_option maxRecDepth 100000
open Go.RowKit
theorem still_of {f : FuncId} {args : Array Value} {w : World} {v : Value} (h : Calls Try.prog f args w fun e w' => e = .returned v ∧ w = w') : Calls Try.prog f args w fun e w' => e = .returned v ∧ w' = w :=
  h.mono fun _ _ ⟨he, hw⟩ => ⟨he, hw.symm⟩
/-- The address of an ip. -/
def hwR : List REntry → Int → Int × Bool
  | [], _ => (0, false)
  | e :: l, ip => if e.1 = ip then (e.2.1, true) else hwR l ip
def isIp (ip : Int) (e : REntry) : Bool := decide (e.1 = ip)
theorem hwR_at {ip : Int} : ∀ {l : List REntry} {k : Nat} {e : REntry} (hk : k < l.length), (l.take k).any (isIp ip) = false → l[k] = e → e.1 = ip → hwR l ip = (e.2.1, true)
  | x :: l, 0, e, _, _, he, hi => by
    simp only [List.getElem_cons_zero] at he
    subst he
    rw [hwR, if_pos hi]
  | x :: l, k + 1, e, hk, hn, he, hi => by
    rw [List.take_succ_cons, List.any_cons, Bool.or_eq_false_iff] at hn
    rw [hwR, if_neg (by have := hn.1; simpa [isIp] using this)]
    exact hwR_at (by simpa using hk) hn.2 he hi
theorem hwR_no {ip : Int} : ∀ {l : List REntry}, l.any (isIp ip) = false → hwR l ip = (0, false)
  | [], _ => rfl
  | x :: l, hn => by
    rw [List.any_cons, Bool.or_eq_false_iff] at hn
    rw [hwR, if_neg (by have := hn.1; simpa [isIp] using this)]
    exact hwR_no hn.2
theorem hwR_two {ip : Int} : ∀ {l : List REntry}, (hwR l ip).2 = l.any (isIp ip)
  | [] => rfl
  | x :: l => by
    rw [List.any_cons, hwR]
    by_cases h : x.1 = ip
    · rw [if_pos h]
      simp [isIp, h]
    · rw [if_neg h, hwR_two]
      simp [isIp, h]
/-- Where an ip stands, or -1. -/
def atI : List REntry → Int → Int
  | [], _ => -1
  | e :: l, ip => if e.1 = ip then 0 else if atI l ip < 0 then -1 else atI l ip + 1
theorem atI_at {ip : Int} : ∀ {l : List REntry} {k : Nat} {e : REntry} (hk : k < l.length), (l.take k).any (isIp ip) = false → l[k] = e → e.1 = ip → atI l ip = k
  | x :: l, 0, e, _, _, he, hi => by
    simp only [List.getElem_cons_zero] at he
    subst he
    rw [atI, if_pos hi]
    rfl
  | x :: l, k + 1, e, hk, hn, he, hi => by
    rw [List.take_succ_cons, List.any_cons, Bool.or_eq_false_iff] at hn
    have h := atI_at (by simpa using hk) hn.2 he hi
    rw [atI, if_neg (by have := hn.1; simpa [isIp] using this), h, if_neg (by omega)]
    omega
theorem atI_no {ip : Int} : ∀ {l : List REntry}, l.any (isIp ip) = false → atI l ip = -1
  | [], _ => rfl
  | x :: l, hn => by
    rw [List.any_cons, Bool.or_eq_false_iff] at hn
    rw [atI, if_neg (by have := hn.1; simpa [isIp] using this), atI_no hn.2]
    rfl
theorem atI_cases (ip : Int) : ∀ l : List REntry, (atI l ip = -1 ∧ l.any (isIp ip) = false) ∨ (∃ (k : Nat) (hk : k < l.length), atI l ip = k ∧ l[k].1 = ip ∧ (l.take k).any (isIp ip) = false)
  | [] => .inl ⟨rfl, rfl⟩
  | x :: l => by
    by_cases h : x.1 = ip
    · exact .inr ⟨0, by simp, by rw [atI, if_pos h]; rfl, h, rfl⟩
    · rcases atI_cases ip l with ⟨h1, h2⟩ | ⟨k, hk, h1, h2, h3⟩
      · exact .inl ⟨by rw [atI, if_neg h, h1]; rfl, by rw [List.any_cons, h2]; simp [isIp, h]⟩
      · exact .inr ⟨k + 1, by simpa using hk, by rw [atI, if_neg h, h1, if_neg (by omega)]; omega, h2, by rw [List.take_succ_cons, List.any_cons, h3]; simp [isIp, h]⟩
theorem atI_sign (ip : Int) (l : List REntry) {B : Bool} (h : l.any (isIp ip) = B) : decide (0 ≤ atI l ip) = B := by
  rcases atI_cases ip l with ⟨h1, h2⟩ | ⟨k, hk, h1, h2, _⟩
  · rw [h1, ← h, h2]
    rfl
  · have : l.any (isIp ip) = true := by
      rw [List.any_eq_true]
      exact ⟨l[k], List.getElem_mem hk, by simpa [isIp] using h2⟩
    rw [h1, ← h, this]
    simp
theorem any_noE {l : List REntry} {p : REntry → Bool} {k : Nat} {y : REntry} (h : (l.take k).any p = false) (hk : k < l.length) (hy : l[k] = y) (hp : p y = false) : (l.take (k + 1)).any p = false := by
  rw [List.take_succ_eq_append_getElem hk, List.any_append, h, hy]
  simp [hp]
theorem any_yesE {l : List REntry} {p : REntry → Bool} {k : Nat} {y : REntry} (hk : k < l.length) (hy : l[k] = y) (hp : p y = true) : l.any p = true := by
  rw [List.any_eq_true]
  exact ⟨y, by rw [← hy]; exact List.getElem_mem hk, hp⟩
theorem Rd.takeE {α : Type} {enc : α → List Value} {w : World} {B n c : Nat} {A : Option Addr} {l : List α} (h : Rd w B (.slice A n c) n (cellsOf enc l)) (q : Nat) (hq : q ≤ n) : Rd w B (.slice A q c) q (cellsOf enc (l.take q)) := by
  obtain ⟨A', c', e, ⟨h1, h2, h3⟩, hx⟩ := h
  cases e
  have hsp : cellsOf enc l = cellsOf enc (l.take q) ++ cellsOf enc (l.drop q) := by rw [← cells_append, List.take_append_drop]
  refine ⟨A, c, rfl, ⟨by omega, h2, h3⟩, fun hl => ?_⟩
  obtain ⟨b, off, ea, hb, hj⟩ := hx (by rw [hsp, List.length_append]; omega)
  refine ⟨b, off, ea, hb, fun j u hu => hj j u ?_⟩
  rw [hsp, List.getElem?_append_left (List.getElem?_eq_some_iff.1 hu).1]
  exact hu
def entOk (l : List REntry) (i : Nat) : Bool := match l[i]? with
  | some e => wordB e.1 32 && (wordB e.2.1 48 && (inB e.2.2 0 9 && !((l.take i).any (isIp e.1))))
  | none => true
def cacheTo (l : List REntry) (m : Nat) : Bool := (List.range m).all (entOk l)
theorem cacheTo_succ (l : List REntry) (m : Nat) : cacheTo l (m + 1) = (cacheTo l m && entOk l m) := by
  simp [cacheTo, List.range_succ]
theorem cacheTo_no {l : List REntry} {m n : Nat} (h : entOk l m = false) (hm : m < n) : cacheTo l n = false := by
  rw [cacheTo, List.all_eq_false]
  exact ⟨m, by simpa using hm, by simp [h]⟩
theorem cacheTo_more {l : List REntry} {q : Nat} (h : cacheTo l q = true) (h2 : entOk l q = true) : cacheTo l (q + 1) = true := by
  rw [cacheTo_succ, h, h2]
  rfl
theorem entOk_is {l : List REntry} {q : Nat} {e : REntry} {a b c d : Bool} (hq : q < l.length) (hz : l[q] = e) (h1 : wordB e.1 32 = a) (h2 : wordB e.2.1 48 = b) (h3 : inB e.2.2 0 9 = c) (h4 : (l.take q).any (isIp e.1) = d) : entOk l q = (a && (b && (c && !d))) := by
  unfold entOk
  rw [List.getElem?_eq_getElem hq, hz]
  simp [h1, h2, h3, h4]
def cacheB (l : List REntry) : Bool := decide (l.length ≤ 4) && cacheTo l l.length

abbrev vSl (_ : List REntry) (v : Value) : Value := v
theorem szEntryL_any (x : List REntry) (v : Value) (_f : FitEntry x) (n : x.length ≤ maxLen) (left : Int) (g1 : 0 ≤ left) (g2 : left ≤ 1048576) (w : World) (h : RdEntry w v x) :
    Calls Try.prog 14 #[vSl x v, .int .i64 left] w (SzEntry x left w) := szEntryS_any v x n left g1 g2 w h
theorem toEntryL_any (x : List REntry) (v : Value) (n : x.length ≤ 1048576) (w : World) (h : RdEntry w v x) :
    Calls Try.prog 16 #[vSl x v] w (NewEntry w x) := toEntryS_any v x n w h
theorem eqEntryL_same (x : List REntry) (v1 v2 : Value) (n : x.length ≤ maxLen) (w : World) (h1 : RdEntry w v1 x) (h2 : RdEntry w v2 x) :
    Calls Try.prog 18 #[vSl x v1, vSl x v2] w fun e w' => e = .returned (.bool true) ∧ Below w.heap.size w w' := eqEntryS_same v1 v2 x n w h1 h2

theorem HwOf_any (v : Value) (l : List REntry) (ip : Int) (hn : l.length ≤ maxLen) (w : World) (h : RdEntry w v l) :
    Calls Try.prog 17 #[v, .int .i64 ip] w fun e w' => e = .returned (.tuple #[.int .i64 (hwR l ip).1, .bool (hwR l ip).2]) ∧ Below w.heap.size w w' := by
  unfold maxLen at hn
  obtain ⟨A, c, rfl, -⟩ := id h
  have H := Lib.hid h
  clear h
  go_enter Try.func17, Try.ntmps17
  go_wp2_with fail
  go_loopw [10] (fun i wr => ∃ q : Nat, q ≤ l.length ∧ i = .int .i64 q ∧ Hid ((l.take q).any (isIp ip) = false) ∧ Below w.heap.size w wr) (fun i _ => l.length - (intOf i).toNat)
  case atStart => exact ⟨0, by omega, rfl, rfl, (by repeat (first | with_reducible exact Below.refl _ _ | with_reducible assumption | with_reducible refine Below.drew ?_ | with_reducible refine Below.alloc ?_ (by first | exact Nat.le_refl _ | omega | (simp; done) | (simp; omega)) _ | with_reducible refine Below.setCell ?_ (by first | exact Nat.le_refl _ | omega | (simp; done) | (simp; omega)) _ | (with_reducible refine ext_trans ?_ (by with_reducible assumption))))⟩
  case round =>
    obtain ⟨q, hq, rfl, hno, hbw⟩ := hrel
    have hbs := hbw.size
    by_cases hlt : q < l.length
    · obtain ⟨b, off, rfl, hbB, hcell⟩ := H.out.elem eEntry_len (by omega) q hlt
      obtain ⟨z, hz⟩ : ∃ z, l[q] = z := ⟨_, rfl⟩
      rw [hz] at hcell
      obtain ⟨y0, y1, y2⟩ := z
      have c0 : wr.cell? ⟨b, off + q * 3, none⟩ = some (.int .i64 y0) := (hbw.cell (p := ⟨b, _, none⟩) hbB).trans (hcell 0 (by omega))
      have c1 : wr.cell? ⟨b, off + q * 3 + 1, none⟩ = some (.int .i64 y1) := (hbw.cell (p := ⟨b, _, none⟩) hbB).trans (hcell 1 (by omega))
      have c2 : wr.cell? ⟨b, off + q * 3 + 2, none⟩ = some (.int .i64 y2) := (hbw.cell (p := ⟨b, _, none⟩) hbB).trans (hcell 2 (by omega))
      have hnq : (q : Int) < (l.length : Int) := by omega
      have HZ := Lib.hid hz
      clear hcell hz
      by_cases hin : y0 = ip
      · have HP := Lib.hid hin
        subst hin
        go_wp2_with fail
        go_ret2
        exact ⟨by rw [hwR_at hlt hno.out HZ.out rfl]; rfl, (by repeat (first | with_reducible exact Below.refl _ _ | with_reducible assumption | with_reducible refine Below.drew ?_ | with_reducible refine Below.alloc ?_ (by first | exact Nat.le_refl _ | omega | (simp; done) | (simp; omega)) _ | with_reducible refine Below.setCell ?_ (by first | exact Nat.le_refl _ | omega | (simp; done) | (simp; omega)) _ | (with_reducible refine ext_trans ?_ (by with_reducible assumption))))⟩
      · have hm := Lib.hid (any_noE hno.out hlt HZ.out (by simpa [isIp] using hin))
        go_wp2_with fail
        exact ⟨⟨q + 1, by omega, by go_num, hm.out, (by repeat (first | with_reducible exact Below.refl _ _ | with_reducible assumption | with_reducible refine Below.drew ?_ | with_reducible refine Below.alloc ?_ (by first | exact Nat.le_refl _ | omega | (simp; done) | (simp; omega)) _ | with_reducible refine Below.setCell ?_ (by first | exact Nat.le_refl _ | omega | (simp; done) | (simp; omega)) _ | (with_reducible refine ext_trans ?_ (by with_reducible assumption))))⟩, by simp [intOf]; omega⟩
    · obtain rfl : q = l.length := by omega
      have hall : Hid (l.any (isIp ip) = false) := (by have := hno.out; rwa [List.take_length] at this : l.any (isIp ip) = false)
      go_wp2_with fail
      go_ret2
      exact ⟨by rw [hwR_no hall.out]; rfl, (by repeat (first | with_reducible exact Below.refl _ _ | with_reducible assumption | with_reducible refine Below.drew ?_ | with_reducible refine Below.alloc ?_ (by first | exact Nat.le_refl _ | omega | (simp; done) | (simp; omega)) _ | with_reducible refine Below.setCell ?_ (by first | exact Nat.le_refl _ | omega | (simp; done) | (simp; omega)) _ | (with_reducible refine ext_trans ?_ (by with_reducible assumption))))⟩

theorem l15At_any (v : Value) (l : List REntry) (ip : Int) (hn : l.length ≤ maxLen) (w : World) (h : RdEntry w v l) :
    Calls Try.prog 49 #[v, .int .i64 ip] w fun e w' => e = .returned (.int .i64 (atI l ip)) ∧ w = w' := by
  unfold maxLen at hn
  obtain ⟨A, c, rfl, -⟩ := id h
  have H := Lib.hid h
  clear h
  go_enter Try.func49, Try.ntmps49
  go_wp2_with fail
  go_loopw [5] (fun i wr => ∃ q : Nat, q ≤ l.length ∧ i = .int .i64 q ∧ Hid ((l.take q).any (isIp ip) = false) ∧ w = wr) (fun i _ => l.length - (intOf i).toNat)
  case atStart => exact ⟨0, by omega, rfl, rfl, rfl⟩
  case round =>
    obtain ⟨q, hq, rfl, hno, rfl⟩ := hrel
    by_cases hlt : q < l.length
    · obtain ⟨b, off, rfl, hbB, hcell⟩ := H.out.elem eEntry_len (by omega) q hlt
      obtain ⟨z, hz⟩ : ∃ z, l[q] = z := ⟨_, rfl⟩
      rw [hz] at hcell
      obtain ⟨y0, y1, y2⟩ := z
      have c0 : w.cell? ⟨b, off + q * 3, none⟩ = some (.int .i64 y0) := (hcell 0 (by omega))
      have c1 : w.cell? ⟨b, off + q * 3 + 1, none⟩ = some (.int .i64 y1) := (hcell 1 (by omega))
      have c2 : w.cell? ⟨b, off + q * 3 + 2, none⟩ = some (.int .i64 y2) := (hcell 2 (by omega))
      have hnq : (q : Int) < (l.length : Int) := by omega
      have HZ := Lib.hid hz
      clear hcell hz
      by_cases hin : y0 = ip
      · have HP := Lib.hid hin
        subst hin
        go_wp2_with fail
        go_ret
        exact ⟨by rw [atI_at hlt hno.out HZ.out rfl]; rfl, rfl⟩
      · have hm := Lib.hid (any_noE hno.out hlt HZ.out (by simpa [isIp] using hin))
        go_wp2_with fail
        refine ⟨⟨q + 1, by omega, by go_num, hm.out, ?_⟩, by simp [intOf]; omega⟩
        trivial
    · obtain rfl : q = l.length := by omega
      have hall : Hid (l.any (isIp ip) = false) := (by have := hno.out; rwa [List.take_length] at this : l.any (isIp ip) = false)
      go_wp2_with fail
      go_ret
      exact ⟨by rw [atI_no hall.out]; rfl, rfl⟩

theorem sHwOf_any (v : Value) (l : List REntry) (ip : Int) (hn : l.length ≤ maxLen) (w : World) (h : RdEntry w v l) :
    Calls Try.prog 15 #[v, .int .i64 ip] w fun e w' => e = .returned (.tuple #[.int .i64 (hwR l ip).1, .bool (hwR l ip).2]) ∧ Below w.heap.size w w' := by
  obtain ⟨A, c, rfl, -⟩ := id h
  have H := Lib.hid h
  have N := Lib.hid hn
  unfold maxLen at hn
  clear h
  go_enter Try.func15, Try.ntmps15
  go_wp2_with fail
  refine (l15At_any _ l ip N.out _ H.out).mono ?_
  rintro e w1 ⟨rfl, rfl⟩
  rcases atI_cases ip l with ⟨hat, hno⟩ | ⟨k, hk, hat, hip, hno⟩
  · rw [hat]
    have HNO := Lib.hid hno
    clear hno
    go_wp2_with fail
    go_ret2
    exact ⟨by rw [hwR_no HNO.out]; rfl, (by repeat (first | with_reducible exact Below.refl _ _ | with_reducible assumption | with_reducible refine Below.drew ?_ | with_reducible refine Below.alloc ?_ (by first | exact Nat.le_refl _ | omega | (simp; done) | (simp; omega)) _ | with_reducible refine Below.setCell ?_ (by first | exact Nat.le_refl _ | omega | (simp; done) | (simp; omega)) _ | (with_reducible refine ext_trans ?_ (by with_reducible assumption))))⟩
  · rw [hat]
    have HNO := Lib.hid hno
    clear hno
    obtain ⟨b, off, rfl, hbB, hcell⟩ := H.out.elem eEntry_len (by omega) k hk
    obtain ⟨z, hz⟩ : ∃ z, l[k] = z := ⟨_, rfl⟩
    rw [hz] at hcell hip
    obtain ⟨y0, y1, y2⟩ := z
    have c1 : w.cell? ⟨b, off + k * 3 + 1, none⟩ = some (.int .i64 y1) := hcell 1 (by omega)
    have hnk : (k : Int) < (l.length : Int) := by omega
    have hk0 : (0 : Int) ≤ (k : Int) := by omega
    have HZ := Lib.hid hz
    have HIP := Lib.hid hip
    clear hcell hz hip
    go_wp2_with fail
    go_ret2
    exact ⟨by rw [hwR_at hk HNO.out HZ.out HIP.out]; rfl, (by repeat (first | with_reducible exact Below.refl _ _ | with_reducible assumption | with_reducible refine Below.drew ?_ | with_reducible refine Below.alloc ?_ (by first | exact Nat.le_refl _ | omega | (simp; done) | (simp; omega)) _ | with_reducible refine Below.setCell ?_ (by first | exact Nat.le_refl _ | omega | (simp; done) | (simp; omega)) _ | (with_reducible refine ext_trans ?_ (by with_reducible assumption))))⟩

end Go.Proofs.Yteaniiponikpjaa
