/- The solver of chapter 07, as plain functions. -/
import Derived.Test.YtpepmhmgfpkdmaaClC
/- The solver of chapter 07, as plain functions. -/
namespace Go.Sat
open Go Go.Cl

/-- The solver's state: clauses, who watches, values, levels, reasons, heat, the trail, marks, the proof, what fuel is left. -/
structure S where
  cl : List (List Int)
  wt : Int → List Nat
  va : List Int
  lv : List Nat
  re : List Int
  he : List Nat
  tr : List Int
  dn : Nat
  ms : List Nat
  pf : List (List Int)
  lf : Nat

def S.is (s : S) (l : Int) : Int := if l < 0 then - s.va.getD l.natAbs 0 else s.va.getD l.natAbs 0
def S.lev (s : S) (l : Int) : Nat := s.lv.getD l.natAbs 0
def S.sub (s : S) (l : Int) (x : List Nat) : S := { s with wt := fun y => if y = l then x else s.wt y }
def S.more (s : S) (m : Nat) : S := { s with lf := s.lf + m }

def S.burn (s : S) : Option S := if s.lf = 0 then none else some { s with lf := s.lf - 1 }

def S.set (s : S) (l r : Int) : Option S :=
  if s.lf = 0 then none else
  some { s with lf := s.lf - 1, va := s.va.set l.natAbs (if l < 0 then -1 else 1), lv := s.lv.set l.natAbs s.ms.length, re := s.re.set l.natAbs r, tr := s.tr ++ [l] }

def S.push (s : S) (l : Int) (n : Nat) : S := s.sub l (s.wt l ++ [n])

def S.add (s : S) (c : List Int) : S :=
  ({ s with cl := s.cl ++ [c] }.push (c.getD 0 0) s.cl.length).push (c.getD 1 0) s.cl.length

/-- Two places of a row, one for the other. -/
def swap (c : List Int) (i j : Nat) : List Int := (c.set i (c.getD j 0)).set j (c.getD i 0)

/-- The first place from k on whose literal is not false. -/
def S.find (s : S) (c : List Int) (k : Nat) : Option Nat := ((c.drop k).findIdx? fun x => s.is x != -1).map (k + ·)

inductive Vis where
  | moved (s : S)
  | kept (s : S)
  | bad (s : S)
  | out

/-- The clause that is visited: the watched literal that is false stands behind. -/
def turn (c : List Int) (l : Int) : List Int := if c.getD 0 0 = l then swap c 0 1 else c

def S.put (s : S) (n : Nat) (c : List Int) : S := { s with cl := s.cl.set n c }

def S.visD (s : S) (n : Nat) (c : List Int) : Vis :=
  if s.is (c.getD 0 0) = 1 then .kept (s.put n c) else
  match s.find c 2 with
  | some k => .moved (((s.put n c).put n (swap c 1 k)).push (c.getD k 0) n)
  | none => if s.is (c.getD 0 0) = -1 then .bad (s.put n c) else
    match (s.put n c).set (c.getD 0 0) n with
    | none => .out
    | some s => .kept s

def S.visit (s : S) (n : Nat) (l : Int) : Vis := s.visD n (turn (s.cl.getD n []) l)

def S.pass (l : Int) : List Nat → List Nat → S → Option (S × Option Nat)
  | kept, [], s => some (s.sub l kept, none)
  | kept, n :: r, s => match s.visit n l with
    | .moved s => S.pass l kept r s
    | .kept s => S.pass l (kept ++ [n]) r s
    | .bad s => some (s.sub l (kept ++ n :: r), some n)
    | .out => none

def S.spreadN : Nat → S → Option (S × Option Nat)
  | 0, s => some (s, none)
  | k + 1, s => match s.tr[s.dn]? with
    | none => some (s, none)
    | some l => match S.pass (-l) [] (s.wt (-l)) { s with dn := s.dn + 1 } with
      | none => none
      | some (s, some n) => some (s, some n)
      | some (s, none) => S.spreadN k s

def S.room (s : S) : Nat := s.lf + (s.tr.length - s.dn)
def S.spread (s : S) : Option (S × Option Nat) := S.spreadN (s.room + 1) s

def zeros (va : List Int) (l : List Int) : List Int := l.foldl (fun va x => va.set x.natAbs 0) va

def S.back (s : S) (level : Nat) : S :=
  match s.ms[level]? with
  | none => s
  | some m => { s with va := zeros s.va (s.tr.drop m), tr := s.tr.take m, ms := s.ms.take level, dn := m }

/-- What a conflict has taught so far. -/
structure L where
  seen : List Nat
  out : List Int
  op : Nat
  level : Nat
  he : List Nat

def L.mark1 (lv : List Nat) (D : Nat) (st : L) (x : Int) : L :=
  if x.natAbs ∈ st.seen ∨ lv.getD x.natAbs 0 = 0 then st else
  if lv.getD x.natAbs 0 = D then { st with seen := st.seen ++ [x.natAbs], he := st.he.set x.natAbs (st.he.getD x.natAbs 0 + 1), op := st.op + 1 }
  else { st with seen := st.seen ++ [x.natAbs], he := st.he.set x.natAbs (st.he.getD x.natAbs 0 + 1), out := st.out ++ [x], level := max st.level (lv.getD x.natAbs 0) }

def L.mark (lv : List Nat) (D : Nat) (st : L) (c : List Int) : L := c.foldl (L.mark1 lv D) st

def S.reason (s : S) (l : Int) : List Int := (s.cl.getD (s.re.getD l.natAbs 0).toNat []).filter fun x => x != l

def S.walk (s : S) : List Int → L → Option (Int × L)
  | [], _ => none
  | l :: rt, st => if l.natAbs ∈ st.seen then (if st.op = 1 then some (l, st) else S.walk s rt (L.mark s.lv s.ms.length { st with op := st.op - 1 } (s.reason l))) else S.walk s rt st

def S.learn (s : S) (n : Nat) : Option (List Int × Nat × S) :=
  (s.walk s.tr.reverse (L.mark s.lv s.ms.length ⟨[], [], 0, 0, s.he⟩ (s.cl.getD n []))).map fun p => (-p.1 :: p.2.out, p.2.level, { s with he := p.2.he })

def S.pick (s : S) : Nat := ((List.range (s.va.length - 1)).map (· + 1)).foldl (fun b v => if s.va.getD v 0 = 0 ∧ (b = 0 ∨ s.he.getD b 0 < s.he.getD v 0) then v else b) 0

/-- The first place, behind the first one, of a greatest level. -/
def S.far (s : S) (c : List Int) : Nat := ((List.range (c.length - 1)).map (· + 1)).foldl (fun b k => if s.lev (c.getD b 0) < s.lev (c.getD k 0) then k else b) 1

def S.teach (s : S) (c : List Int) (level : Nat) : Option S :=
  let s := { s with pf := s.pf ++ [(cleanS c).1] }.back level
  if c.length = 1 then s.set (c.getD 0 0) (-1) else
  let c := swap c 1 (s.far c)
  (s.add c).set (c.getD 0 0) s.cl.length

/-- A round of run: known, or a state to go on from. -/
def S.round (s : S) : Option (S × Option Bool) :=
  match s.spread with
  | none => none
  | some (s, some n) =>
    if s.ms.length = 0 then some ({ s with pf := s.pf ++ [[]] }, some false) else
    match s.burn with
    | none => none
    | some s => match s.learn n with
      | none => none
      | some (c, level, s) => (s.teach c level).map fun s => (s, none)
  | some (s, none) =>
    if s.pick = 0 then some (s, some true) else
    ({ s with ms := s.ms ++ [s.tr.length] }.set (-(s.pick : Int)) (-1)).map fun s => (s, none)

def S.runN : Nat → S → Option (S × Bool)
  | 0, _ => none
  | k + 1, s => match s.round with
    | none => none
    | some (s, some b) => some (s, b)
    | some (s, none) => S.runN k s

def S.run (s : S) : Option (S × Bool) := S.runN (s.lf + 1) s

/-- Begin: all clauses are there (none), or it is known. -/
def S.begin : List (List Int) → S → Option (S × Option Bool)
  | [], s => some (s, none)
  | c :: F, s =>
    if (cleanS c).2 = false then S.begin F s else
    match (cleanS c).1 with
    | [] => some ({ s with pf := s.pf ++ [[]] }, some false)
    | [l] => if s.is l = -1 then some ({ s with pf := s.pf ++ [[]] }, some false) else
      if s.is l = 0 then (match s.set l (-1) with | none => none | some s => S.begin F s) else S.begin F s
    | c => S.begin F (s.add c)

def S.new (vars fuel : Nat) : S := ⟨[], fun _ => [], List.replicate (vars + 1) 0, List.replicate (vars + 1) 0, List.replicate (vars + 1) 0, List.replicate (vars + 1) 0, [], 0, [], [], fuel⟩

def solve (vars : Nat) (F : List (List Int)) (fuel : Nat) : Option (S × Bool) :=
  match S.begin F (S.new vars fuel) with
  | none => none
  | some (s, some b) => some (s, b)
  | some (s, none) => s.run

end Go.Sat

/- The solver's invariant; a literal is set. -/
namespace Go.Sat
open Go Go.Cl

def Okc (N : Nat) (c : List Int) : Prop := (∀ l ∈ c, l ≠ 0 ∧ l.natAbs < N) ∧ (c.map Int.natAbs).Nodup

theorem nodup_inj {c : List Int} (h : (c.map Int.natAbs).Nodup) {a b : Int} (ha : a ∈ c) (hb : b ∈ c) (e : a.natAbs = b.natAbs) : a = b := by
  induction c with
  | nil => cases ha
  | cons x c ih =>
    rw [List.map_cons, List.nodup_cons] at h
    rcases List.mem_cons.1 ha with rfl | ha' <;> rcases List.mem_cons.1 hb with rfl | hb'
    · rfl
    · exact absurd (List.mem_map.2 ⟨b, hb', e.symm⟩) h.1
    · exact absurd (List.mem_map.2 ⟨a, ha', e⟩) h.1
    · exact ih h.2 ha' hb'

theorem Okc.neg {N : Nat} {c : List Int} (h : Okc N c) {l : Int} (hl : l ∈ c) : -l ∉ c := fun h' => by
  have := nodup_inj h.2 hl h' (by simp)
  have := (h.1 l hl).1
  omega

theorem Okc.nodup {N : Nat} {c : List Int} (h : Okc N c) : c.Nodup := List.Pairwise.of_map Int.natAbs (fun a b hab e => hab (congrArg Int.natAbs e)) h.2

def Wat (cl : List (List Int)) (m : Nat) (l : Int) : Prop := ∃ c, cl[m]? = some c ∧ (c[0]? = some l ∨ c[1]? = some l)

/-- A reason of the literal at place i: in its clause all others are false by literals ahead of it. -/
def Rea (s : S) (i : Nat) (l : Int) : Prop := ∃ (r : Nat) (c : List Int), s.re.getD l.natAbs 0 = r ∧ s.cl[r]? = some c ∧ l ∈ c ∧ ∀ x ∈ c, x ≠ l → ∃ j : Nat, j < i ∧ s.tr[j]? = some (-x)

structure Inv (N : Nat) (s : S) : Prop where
  nva : s.va.length = N
  nlv : s.lv.length = N
  nre : s.re.length = N
  nhe : s.he.length = N
  cls : ∀ c ∈ s.cl, 2 ≤ c.length ∧ Okc N c
  wat : ∀ l, (s.wt l).Nodup ∧ ∀ m, m ∈ s.wt l ↔ Wat s.cl m l
  tro : Okc N s.tr
  val : ∀ v : Nat, s.va.getD v 0 = if (v : Int) ∈ s.tr then 1 else if -(v : Int) ∈ s.tr then -1 else 0
  lev : ∀ l ∈ s.tr, s.lev l ≤ s.ms.length
  mks : ∀ (k m : Nat), s.ms[k]? = some m → m ≤ s.tr.length ∧ ∀ (i : Nat) (l : Int), s.tr[i]? = some l → (m ≤ i ↔ k < s.lev l)
  rea : ∀ (i : Nat) (l : Int), s.tr[i]? = some l → 0 < s.lev l → s.ms[s.lev l - 1]? ≠ some i → Rea s i l
  dnl : s.dn ≤ s.tr.length
  dnm : ∀ m ∈ s.ms, m ≤ s.dn

theorem Inv.is_val {N : Nat} {s : S} (h : Inv N s) (l : Int) : s.is l = if l ∈ s.tr then 1 else if -l ∈ s.tr then -1 else 0 := by
  unfold S.is
  have hv := h.val l.natAbs
  by_cases hl : l < 0
  · have e : (l.natAbs : Int) = -l := by omega
    rw [e, Int.neg_neg] at hv
    rw [if_pos hl, hv]
    by_cases h1 : l ∈ s.tr
    · rw [if_pos h1, if_pos h1, if_neg (h.tro.neg h1)]; rfl
    · rw [if_neg h1, if_neg h1]
      split <;> rfl
  · have e : (l.natAbs : Int) = l := by omega
    rw [e] at hv
    rw [if_neg hl, hv]

theorem Inv.is_one {N : Nat} {s : S} (h : Inv N s) {l : Int} : s.is l = 1 ↔ l ∈ s.tr := by
  rw [h.is_val]; repeat' split
  all_goals simp_all
theorem Inv.is_neg {N : Nat} {s : S} (h : Inv N s) {l : Int} : s.is l = -1 ↔ -l ∈ s.tr := by
  rw [h.is_val]
  by_cases h1 : l ∈ s.tr
  · rw [if_pos h1]; simp [h.tro.neg h1]
  · rw [if_neg h1]; split <;> simp_all
theorem Inv.is_zero {N : Nat} {s : S} (h : Inv N s) {l : Int} : s.is l = 0 ↔ l ∉ s.tr ∧ -l ∉ s.tr := by
  rw [h.is_val]; repeat' split
  all_goals simp_all

/-- What stays, and what goes on. -/
structure Ext (s s' : S) : Prop where
  ms : s'.ms = s.ms
  dn : s'.dn = s.dn
  pf : s'.pf = s.pf
  len : s'.cl.length = s.cl.length
  tr : ∃ t, s'.tr = s.tr ++ t
  lf : s'.lf + s'.tr.length = s.lf + s.tr.length
  le : s'.lf ≤ s.lf
  he : s'.he = s.he

theorem Ext.refl (s : S) : Ext s s := ⟨rfl, rfl, rfl, rfl, ⟨[], by simp⟩, rfl, Nat.le_refl _, rfl⟩
theorem Ext.trans {a b c : S} (h : Ext a b) (k : Ext b c) : Ext a c :=
  ⟨k.ms.trans h.ms, k.dn.trans h.dn, k.pf.trans h.pf, k.len.trans h.len, by obtain ⟨t, e⟩ := h.tr; obtain ⟨u, f⟩ := k.tr; exact ⟨t ++ u, by rw [f, e, List.append_assoc]⟩, k.lf.trans h.lf, Nat.le_trans k.le h.le, k.he.trans h.he⟩
theorem Ext.mem {s s' : S} (h : Ext s s') {l : Int} (hl : l ∈ s.tr) : l ∈ s'.tr := by
  obtain ⟨t, e⟩ := h.tr
  rw [e]; exact List.mem_append_left _ hl

theorem S.set_some {s s' : S} {l r : Int} (e : s.set l r = some s') : s.lf ≠ 0 ∧ s' = { s with lf := s.lf - 1, va := s.va.set l.natAbs (if l < 0 then -1 else 1), lv := s.lv.set l.natAbs s.ms.length, re := s.re.set l.natAbs r, tr := s.tr ++ [l] } := by
  unfold S.set at e
  split at e
  · cases e
  · rename_i h
    exact ⟨h, (Option.some.inj e).symm⟩

theorem set_ext {s s' : S} {l r : Int} (e : s.set l r = some s') : Ext s s' := by
  obtain ⟨h, rfl⟩ := S.set_some e
  exact ⟨rfl, rfl, rfl, rfl, ⟨[l], rfl⟩, by simp; omega, Nat.sub_le _ _, rfl⟩

theorem getD_set {α : Type} (l : List α) (i j : Nat) (a d : α) : (l.set i a).getD j d = if i = j ∧ i < l.length then a else l.getD j d := by
  simp only [List.getD_eq_getElem?_getD, List.getElem?_set]
  by_cases h : i = j
  · subst h
    by_cases h2 : i < l.length
    · simp [h2]
    · simp [h2]
  · simp [h]

theorem Inv.set {N : Nat} {s s' : S} (h : Inv N s) {l r : Int} (e : s.set l r = some s') (h0 : l ≠ 0) (hN : l.natAbs < N) (h1 : l ∉ s.tr) (h2 : -l ∉ s.tr)
    (hr : s.ms.length = 0 ∨ s.ms[s.ms.length - 1]? = some s.tr.length ∨ ∃ (n : Nat) (c : List Int), r = n ∧ s.cl[n]? = some c ∧ l ∈ c ∧ ∀ x ∈ c, x ≠ l → -x ∈ s.tr) : Inv N s' := by
  obtain ⟨hf, rfl⟩ := S.set_some e
  have hne : ∀ x ∈ s.tr, l.natAbs ≠ x.natAbs := fun x hx e => by
    have : x = l ∨ x = -l := by omega
    rcases this with rfl | rfl
    · exact h1 hx
    · exact h2 hx
  have hlev : ∀ x ∈ s.tr, (s.lv.set l.natAbs s.ms.length).getD x.natAbs 0 = s.lev x := fun x hx => by
    rw [getD_set, if_neg (fun q => hne x hx q.1)]; rfl
  have hlevl : (s.lv.set l.natAbs s.ms.length).getD l.natAbs 0 = s.ms.length := by
    rw [getD_set, if_pos ⟨rfl, by rw [h.nlv]; exact hN⟩]
  have hat : ∀ (i : Nat) (x : Int), (s.tr ++ [l])[i]? = some x → (s.tr[i]? = some x ∧ i < s.tr.length) ∨ (i = s.tr.length ∧ x = l) := fun i x hx => by
    rw [List.getElem?_append] at hx
    split at hx
    · rename_i hi; exact .inl ⟨hx, hi⟩
    · rename_i hi
      have : i - s.tr.length = 0 := by
        rcases Nat.eq_zero_or_pos (i - s.tr.length) with h | h
        · exact h
        · rw [List.getElem?_eq_none (by simp; omega)] at hx; cases hx
      rw [this] at hx
      simp at hx
      exact .inr ⟨by omega, hx.symm⟩
  constructor
  · simp [h.nva]
  · simp [h.nlv]
  · simp [h.nre]
  · exact h.nhe
  · exact h.cls
  · exact h.wat
  · refine ⟨fun x hx => ?_, ?_⟩
    · rcases List.mem_append.1 hx with hx | hx
      · exact h.tro.1 x hx
      · simp at hx; subst hx; exact ⟨h0, hN⟩
    · simp only [List.map_append, List.map_cons, List.map_nil]
      rw [List.nodup_append]
      refine ⟨h.tro.2, by simp, fun a ha b hb => ?_⟩
      obtain ⟨x, hx, rfl⟩ := List.mem_map.1 ha
      simp at hb; subst hb
      exact fun e => hne x hx e.symm
  · intro v
    have hv := h.val v
    simp only [getD_set, h.nva, List.mem_append, List.mem_singleton]
    by_cases hvl : l.natAbs = v
    · rw [if_pos ⟨hvl, hN⟩]
      by_cases hneg : l < 0
      · have a1 : ((v : Int) ∈ s.tr ∨ (v : Int) = l) ↔ False := by
          have : (v : Int) = -l := by omega
          rw [this]; simp only [iff_false, not_or]; exact ⟨h2, by omega⟩
        have a2 : (-(v : Int) ∈ s.tr ∨ -(v : Int) = l) ↔ True := by
          simp only [iff_true]; right; omega
        simp [a1, a2, hneg]
      · have a1 : ((v : Int) ∈ s.tr ∨ (v : Int) = l) ↔ True := by simp only [iff_true]; right; omega
        simp [a1, hneg]
    · rw [if_neg (fun q => hvl q.1), hv]
      have a1 : (v : Int) ≠ l := by omega
      have a2 : -(v : Int) ≠ l := by omega
      simp [a1, a2]
  · intro x hx
    rcases List.mem_append.1 hx with hx | hx
    · show (s.lv.set l.natAbs s.ms.length).getD x.natAbs 0 ≤ _
      rw [hlev x hx]; exact h.lev x hx
    · simp at hx; subst hx
      show (s.lv.set x.natAbs s.ms.length).getD x.natAbs 0 ≤ _
      rw [hlevl]; exact Nat.le_refl _
  · intro k m hk
    obtain ⟨g1, g2⟩ := h.mks k m hk
    refine ⟨by simp; omega, fun i x hx => ?_⟩
    show m ≤ i ↔ k < (s.lv.set l.natAbs s.ms.length).getD x.natAbs 0
    rcases hat i x hx with ⟨hx, _⟩ | ⟨rfl, rfl⟩
    · rw [hlev x (List.mem_of_getElem? hx)]; exact g2 i x hx
    · rw [hlevl]
      exact ⟨fun _ => (List.getElem?_eq_some_iff.1 hk).1, fun _ => g1⟩
  · intro i x hx hl hk
    replace hl : 0 < (s.lv.set l.natAbs s.ms.length).getD x.natAbs 0 := hl
    replace hk : s.ms[(s.lv.set l.natAbs s.ms.length).getD x.natAbs 0 - 1]? ≠ some i := hk
    have hput : ∀ {j : Nat} {y : Int}, s.tr[j]? = some y → (s.tr ++ [l])[j]? = some y := fun {j y} hj => by
      rw [List.getElem?_append_left (List.getElem?_eq_some_iff.1 hj).1]; exact hj
    rcases hat i x hx with ⟨hx, _⟩ | ⟨rfl, rfl⟩
    · rw [hlev x (List.mem_of_getElem? hx)] at hl hk
      obtain ⟨r', c, g1, g2, g3, g4⟩ := h.rea i x hx hl hk
      refine ⟨r', c, ?_, g2, g3, fun y hy hyx => ?_⟩
      · show (s.re.set l.natAbs r).getD x.natAbs 0 = _
        rw [getD_set, if_neg (fun q => hne x (List.mem_of_getElem? hx) q.1)]; exact g1
      · obtain ⟨j, hj, hj'⟩ := g4 y hy hyx
        exact ⟨j, hj, hput hj'⟩
    · rw [hlevl] at hl hk
      rcases hr with hr | hr | ⟨n, c, rfl, g2, g3, g4⟩
      · omega
      · exact absurd hr hk
      · refine ⟨n, c, ?_, g2, g3, fun y hy hyx => ?_⟩
        · show (s.re.set x.natAbs _).getD x.natAbs 0 = _
          rw [getD_set, if_pos ⟨rfl, by rw [h.nre]; exact hN⟩]
        · obtain ⟨j, hj⟩ := List.getElem?_of_mem (g4 y hy hyx)
          exact ⟨j, (List.getElem?_eq_some_iff.1 hj).1, hput hj⟩
  · have := h.dnl; simp; omega
  · exact h.dnm

end Go.Sat

/- The solver's invariant: clauses, visits, what is looked at. -/
namespace Go.Sat
open Go Go.Cl

/-- Who watches does not matter to the rest. -/
theorem Inv.rewat {N : Nat} {s : S} (h : Inv N s) {cl : List (List Int)} {wt : Int → List Nat} (hc : ∀ c ∈ cl, 2 ≤ c.length ∧ Okc N c) (hw : ∀ l, (wt l).Nodup ∧ ∀ m, m ∈ wt l ↔ Wat cl m l)
    (hr : ∀ (r : Nat) (c : List Int), s.cl[r]? = some c → ∃ d, cl[r]? = some d ∧ ∀ x, x ∈ d ↔ x ∈ c) : Inv N { s with cl := cl, wt := wt } := by
  refine ⟨h.nva, h.nlv, h.nre, h.nhe, hc, hw, h.tro, h.val, h.lev, h.mks, fun i l hl h0 h1 => ?_, h.dnl, h.dnm⟩
  obtain ⟨r, c, g1, g2, g3, g4⟩ := h.rea i l hl h0 h1
  obtain ⟨d, k1, k2⟩ := hr r c g2
  exact ⟨r, d, g1, k1, (k2 l).2 g3, fun x hx hxl => g4 x ((k2 x).1 hx) hxl⟩

theorem swap_length (c : List Int) (i j : Nat) : (swap c i j).length = c.length := by simp [swap]

theorem swap_getD (c : List Int) {i j : Nat} (hi : i < c.length) (hj : j < c.length) (k : Nat) : (swap c i j)[k]? = if k = j then c[i]? else if k = i then c[j]? else c[k]? := by
  unfold swap
  simp only [List.getElem?_set, List.length_set, List.getD_eq_getElem?_getD]
  by_cases h1 : j = k
  · subst h1
    simp [hj, hi]
  · rw [if_neg h1, if_neg (Ne.symm h1)]
    by_cases h2 : i = k
    · subst h2
      simp [hi, hj]
    · rw [if_neg h2, if_neg (Ne.symm h2)]

theorem swap_perm (c : List Int) {i j : Nat} (hi : i < c.length) (hj : j < c.length) : (swap c i j).Perm c := by
  rw [List.perm_iff_count]
  intro a
  unfold swap
  have e1 : c.getD i 0 = c[i] := by simp [List.getD_eq_getElem?_getD, hi]
  have e2 : c.getD j 0 = c[j] := by simp [List.getD_eq_getElem?_getD, hj]
  rw [e1, e2, List.count_set (by simpa using hj), List.count_set hi]
  simp only [List.getElem_set, beq_iff_eq]
  by_cases hij : i = j
  · subst hij
    simp
    split <;> (have := List.count_pos_iff.2 (List.getElem_mem hi); simp_all) <;> omega
  · simp only [if_neg hij]
    have p1 : c[i] = a → 0 < c.count a := fun h => List.count_pos_iff.2 (h ▸ List.getElem_mem hi)
    have p2 : c[j] = a → 0 < c.count a := fun h => List.count_pos_iff.2 (h ▸ List.getElem_mem hj)
    by_cases h1 : c[i] = a <;> by_cases h2 : c[j] = a <;> simp [h1, h2] <;> first | (have := p1 h1; omega) | (have := p2 h2; omega) | skip

theorem Okc.perm {N : Nat} {c d : List Int} (h : Okc N c) (p : d.Perm c) : Okc N d := ⟨fun l hl => h.1 l (p.mem_iff.1 hl), (p.map _).nodup_iff.2 h.2⟩

theorem swap_ok {N : Nat} {c : List Int} (h : 2 ≤ c.length ∧ Okc N c) {i j : Nat} (hi : i < c.length) (hj : j < c.length) : 2 ≤ (swap c i j).length ∧ Okc N (swap c i j) :=
  ⟨by rw [swap_length]; exact h.1, h.2.perm (swap_perm c hi hj)⟩

theorem getD_some {α : Type} {l : List α} {i : Nat} {a d : α} (h : l[i]? = some a) : l.getD i d = a := by simp [List.getD_eq_getElem?_getD, h]
theorem some_getD {α : Type} {l : List α} {i : Nat} {d : α} (h : i < l.length) : l[i]? = some (l.getD i d) := by simp [List.getD_eq_getElem?_getD, h]

/-- A clause of the state, its places turned about. -/
theorem set_cls {N : Nat} {cl : List (List Int)} (h : ∀ c ∈ cl, 2 ≤ c.length ∧ Okc N c) {n : Nat} {d : List Int} (hd : 2 ≤ d.length ∧ Okc N d) : ∀ c ∈ cl.set n d, 2 ≤ c.length ∧ Okc N c := fun c hc => by
  rcases List.mem_or_eq_of_mem_set hc with hc | rfl
  · exact h c hc
  · exact hd

theorem set_mem {cl : List (List Int)} {n : Nat} {c d : List Int} (hc : cl[n]? = some c) (hd : ∀ x, x ∈ d ↔ x ∈ c) : ∀ (r : Nat) (c : List Int), cl[r]? = some c → ∃ d', (cl.set n d)[r]? = some d' ∧ ∀ x, x ∈ d' ↔ x ∈ c := fun r c' hr => by
  rw [List.getElem?_set]
  by_cases e : n = r
  · subst e
    rw [hc] at hr; cases hr
    exact ⟨d, by rw [if_pos rfl, if_pos (List.getElem?_eq_some_iff.1 hc).1], hd⟩
  · exact ⟨c', by rw [if_neg e]; exact hr, fun _ => Iff.rfl⟩

theorem wat_set {cl : List (List Int)} {n : Nat} {c d : List Int} (hc : cl[n]? = some c) (m : Nat) (l : Int) : Wat (cl.set n d) m l ↔ if m = n then (d[0]? = some l ∨ d[1]? = some l) else Wat cl m l := by
  unfold Wat
  rw [List.getElem?_set]
  by_cases e : m = n
  · subst e
    rw [if_pos rfl, if_pos rfl, if_pos (List.getElem?_eq_some_iff.1 hc).1]
    exact ⟨fun ⟨x, e, h⟩ => by cases e; exact h, fun h => ⟨d, rfl, h⟩⟩
  · rw [if_neg (Ne.symm e), if_neg e]

theorem wat_of {cl : List (List Int)} {n : Nat} {c : List Int} (hc : cl[n]? = some c) (l : Int) : Wat cl n l ↔ (c[0]? = some l ∨ c[1]? = some l) :=
  ⟨fun ⟨x, e, h⟩ => by rw [hc] at e; cases e; exact h, fun h => ⟨c, hc, h⟩⟩

theorem two_swap01 {c : List Int} (h : 2 ≤ c.length) (l : Int) : ((swap c 0 1)[0]? = some l ∨ (swap c 0 1)[1]? = some l) ↔ (c[0]? = some l ∨ c[1]? = some l) := by
  rw [swap_getD c (by omega) (by omega), swap_getD c (by omega) (by omega)]
  simp only [Nat.zero_ne_one, if_false, if_true, Nat.one_ne_zero]
  exact Or.comm

theorem turn_perm {c : List Int} (h : 2 ≤ c.length) (l : Int) : (turn c l).Perm c := by
  unfold turn; split
  · exact swap_perm c (by omega) (by omega)
  · exact .refl _
theorem turn_two {c : List Int} (h : 2 ≤ c.length) (l x : Int) : ((turn c l)[0]? = some x ∨ (turn c l)[1]? = some x) ↔ (c[0]? = some x ∨ c[1]? = some x) := by
  unfold turn; split
  · exact two_swap01 h x
  · exact Iff.rfl
theorem turn_one {c : List Int} (h : 2 ≤ c.length) {l : Int} (hl : c[0]? = some l ∨ c[1]? = some l) : (turn c l)[1]? = some l := by
  unfold turn; split
  · rename_i e
    rw [swap_getD c (by omega) (by omega), if_pos rfl, some_getD (d := 0) (by omega : 0 < c.length), e]
  · rename_i e
    rcases hl with hl | hl
    · exact absurd (getD_some hl) e
    · exact hl

end Go.Sat

/- The solver's invariant: visits, passes, what is looked at. -/
namespace Go.Sat
open Go Go.Cl

theorem find_some {s : S} {c : List Int} {k i : Nat} (h : s.find c k = some i) : k ≤ i ∧ i < c.length ∧ s.is (c.getD i 0) ≠ -1 ∧ ∀ j, k ≤ j → j < i → s.is (c.getD j 0) = -1 := by
  unfold S.find at h
  rw [Option.map_eq_some_iff] at h
  obtain ⟨j, hj, rfl⟩ := h
  rw [List.findIdx?_eq_some_iff_getElem] at hj
  obtain ⟨h1, h2, h3⟩ := hj
  have hlen : k + j < c.length := by simp at h1; omega
  refine ⟨by omega, hlen, ?_, fun i hi hi' => ?_⟩
  · simpa [List.getD_eq_getElem?_getD, hlen] using h2
  · have := h3 (i - k) (by omega)
    have hil : i < c.length := by omega
    have e : k + (i - k) = i := by omega
    simpa [List.getD_eq_getElem?_getD, hil, e] using this

theorem find_none {s : S} {c : List Int} {k : Nat} (h : s.find c k = none) : ∀ (j : Nat) (x : Int), k ≤ j → c[j]? = some x → s.is x = -1 := by
  unfold S.find at h
  rw [Option.map_eq_none_iff, List.findIdx?_eq_none_iff] at h
  intro j x hj hx
  have : x ∈ c.drop k := by
    rw [List.mem_iff_getElem?]
    exact ⟨j - k, by rw [List.getElem?_drop, Nat.add_sub_cancel' hj]; exact hx⟩
  simpa using h x this

theorem nodup_at {c : List Int} (h : c.Nodup) {i j : Nat} {x : Int} (hi : c[i]? = some x) (hj : c[j]? = some x) : i = j := by
  have a := List.getElem?_eq_some_iff.1 hi
  have b := List.getElem?_eq_some_iff.1 hj
  obtain ⟨a1, a2⟩ := a
  obtain ⟨b1, b2⟩ := b
  rcases Nat.lt_trichotomy i j with hlt | he | hlt
  · exact absurd (a2.trans b2.symm) (List.pairwise_iff_getElem.1 h i j a1 b1 hlt)
  · exact he
  · exact absurd (b2.trans a2.symm) (List.pairwise_iff_getElem.1 h j i b1 a1 hlt)

/-- What a visit leaves. -/
def VisOk (N : Nat) (s : S) (l : Int) (kept : List Nat) (n : Nat) (rest : List Nat) : Vis → Prop
  | .out => True
  | .kept s' => Inv N (s'.sub l (kept ++ [n] ++ rest)) ∧ Ext s s'
  | .moved s' => Inv N (s'.sub l (kept ++ rest)) ∧ Ext s s'
  | .bad s' => Inv N (s'.sub l (kept ++ n :: rest)) ∧ Ext s s' ∧ ∃ c, s'.cl[n]? = some c ∧ l ∈ c ∧ ∀ x ∈ c, -x ∈ s'.tr

theorem sub_wt (s : S) (l : Int) (x : List Nat) (y : Int) : (s.sub l x).wt y = if y = l then x else s.wt y := rfl

theorem visit_inv {N : Nat} {s : S} {l : Int} {kept rest : List Nat} {n : Nat} (h : Inv N (s.sub l (kept ++ n :: rest))) (hl : -l ∈ s.tr) : VisOk N s l kept n rest (s.visit n l) := by
  have hw := h.wat
  obtain ⟨c, hc, htwo⟩ := ((hw l).2 n).1 (by rw [sub_wt, if_pos rfl]; simp)
  replace hc : s.cl[n]? = some c := hc
  have hcok := h.cls c (List.mem_of_getElem? hc)
  have hcD : s.cl.getD n [] = c := getD_some hc
  generalize hd : turn c l = d
  have hper : d.Perm c := hd ▸ turn_perm hcok.1 l
  have hdok : 2 ≤ d.length ∧ Okc N d := ⟨by rw [hper.length_eq]; exact hcok.1, hcok.2.perm hper⟩
  have hd1 : d[1]? = some l := hd ▸ turn_one hcok.1 htwo
  have hdtwo : ∀ x, (d[0]? = some x ∨ d[1]? = some x) ↔ (c[0]? = some x ∨ c[1]? = some x) := fun x => hd ▸ turn_two hcok.1 l x
  have hd0 : d[0]? = some (d.getD 0 0) := some_getD (by omega)
  have hnl : n < s.cl.length := (List.getElem?_eq_some_iff.1 hc).1
  have hdn := hdok.2.nodup
  have h1 : Inv N ((s.put n d).sub l (kept ++ n :: rest)) := by
    refine h.rewat (cl := s.cl.set n d) (wt := (s.sub l (kept ++ n :: rest)).wt) (set_cls h.cls hdok) (fun x => ⟨(hw x).1, fun m => ?_⟩) (set_mem hc fun x => hper.mem_iff)
    rw [(hw x).2 m, wat_set hc]
    split
    · rename_i e; subst e
      rw [hdtwo]; exact wat_of hc x
    · exact Iff.rfl
  have hval : ∀ x, s.is x = -1 ↔ -x ∈ s.tr := fun x => h.is_neg (l := x)
  have hone : ∀ x, s.is x = 1 ↔ x ∈ s.tr := fun x => h.is_one (l := x)
  unfold S.visit
  rw [hcD, hd]
  unfold S.visD
  have hext : Ext s (s.put n d) := ⟨rfl, rfl, rfl, by simp [S.put], ⟨[], by simp [S.put]⟩, rfl, Nat.le_refl _, rfl⟩
  split
  · refine ⟨?_, hext⟩
    rw [List.append_assoc]; exact h1
  rename_i g1
  replace g1 : ¬ s.is (d.getD 0 0) = 1 := g1
  split
  · rename_i k hk
    obtain ⟨k1, k2, k3, _⟩ := find_some hk
    generalize hx : d.getD k 0 = x at *
    have hdk : d[k]? = some x := hx ▸ some_getD k2
    have hxl : x ≠ l := fun e => by have := nodup_at hdn (e ▸ hdk) hd1; omega
    have hx0 : x ≠ d.getD 0 0 := fun e => by have := nodup_at hdn (e ▸ hdk) hd0; omega
    have hl0 : l ≠ d.getD 0 0 := fun e => by have := nodup_at hdn hd1 (e ▸ hd0); omega
    have hs0 : (swap d 1 k)[0]? = some (d.getD 0 0) := by rw [swap_getD d (by omega) k2, if_neg (by omega), if_neg (by omega)]; exact hd0
    have hs1 : (swap d 1 k)[1]? = some x := by rw [swap_getD d (by omega) k2, if_neg (by omega), if_pos rfl]; exact hdk
    have hper2 := swap_perm d (i := 1) (j := k) (by omega) k2
    have hnx : n ∉ s.wt x := fun hm => by
      have := ((hw x).2 n).1 (by rw [sub_wt, if_neg hxl]; exact hm)
      rw [show Wat (s.sub l (kept ++ n :: rest)).cl n x ↔ _ from wat_of hc x, ← hdtwo] at this
      rcases this with e | e
      · exact hx0 (Option.some.inj (e.symm.trans hd0))
      · exact hxl (Option.some.inj (e.symm.trans hd1))
    refine ⟨?_, ⟨rfl, rfl, rfl, by simp [S.push, S.sub, S.put], ⟨[], by simp [S.push, S.sub, S.put]⟩, rfl, Nat.le_refl _, rfl⟩⟩
    refine h.rewat (cl := (s.cl.set n d).set n (swap d 1 k)) (wt := fun y => if y = l then kept ++ rest else if y = x then s.wt x ++ [n] else s.wt y) (set_cls (set_cls h.cls hdok) (swap_ok hdok (by omega) k2)) (fun y => ?_) ?_
    · rw [List.set_set]
      have hwy := hw y
      rw [sub_wt] at hwy
      by_cases e1 : y = l
      · subst e1
        rw [if_pos rfl] at hwy ⊢
        have hnd := hwy.1
        rw [List.nodup_append] at hnd
        obtain ⟨a1, a2, a3⟩ := hnd
        rw [List.nodup_cons] at a2
        have hnk : n ∉ kept := fun hm => a3 n hm n (by simp) rfl
        refine ⟨List.nodup_append.2 ⟨a1, a2.2, fun a ha b hb => a3 a ha b (List.mem_cons_of_mem _ hb)⟩, fun m => ?_⟩
        rw [wat_set hc]
        split
        · rename_i e; subst e
          rw [hs0, hs1]
          refine ⟨fun hm => ?_, fun hm => ?_⟩
          · rcases List.mem_append.1 hm with hm | hm
            · exact absurd hm hnk
            · exact absurd hm a2.1
          · rcases hm with e | e
            · exact absurd (Option.some.inj e).symm hl0
            · exact absurd (Option.some.inj e) hxl
        · rename_i e
          rw [← show _ ↔ Wat s.cl m y from hwy.2 m]
          simp [e]
      · rw [if_neg e1] at hwy ⊢
        by_cases e2 : y = x
        · subst e2
          rw [if_pos rfl]
          refine ⟨List.nodup_append.2 ⟨hwy.1, by simp, fun a ha b hb e => hnx (by simp at hb; rw [← hb, ← e]; exact ha)⟩, fun m => ?_⟩
          rw [wat_set hc]
          split
          · rename_i e; subst e
            simp [hs1]
          · rename_i e
            rw [← show _ ↔ Wat s.cl m y from hwy.2 m]
            simp [e]
        · rw [if_neg e2]
          refine ⟨hwy.1, fun m => ?_⟩
          rw [hwy.2 m, wat_set hc]
          split
          · rename_i e; subst e
            rw [show Wat (s.sub l (kept ++ m :: rest)).cl m y ↔ _ from wat_of hc y, ← hdtwo, hs0, hs1, hd1, hd0]
            simp [Ne.symm e1, Ne.symm e2]
          · exact Iff.rfl
    · rw [List.set_set]
      exact set_mem hc fun y => (hper2.trans hper).mem_iff
  rename_i hnone
  split
  · rename_i g2
    refine ⟨h1, hext, d, ?_, List.mem_of_getElem? hd1, fun x hx => ?_⟩
    · show (s.cl.set n d)[n]? = some d
      rw [List.getElem?_set, if_pos rfl, if_pos hnl]
    · obtain ⟨j, hj⟩ := List.getElem?_of_mem hx
      rcases Nat.lt_or_ge j 2 with h2 | h2
      · rcases Nat.lt_or_ge j 1 with h3 | h3
        · have : j = 0 := by omega
          subst this
          rw [hd0] at hj; cases hj
          exact (hval _).1 g2
        · have : j = 1 := by omega
          subst this
          rw [hd1] at hj; cases hj
          exact hl
      · exact (hval x).1 (find_none hnone j x h2 hj)
  rename_i g2
  replace g2 : ¬ s.is (d.getD 0 0) = -1 := g2
  split
  · trivial
  · rename_i s' hs'
    refine ⟨?_, hext.trans (set_ext hs')⟩
    rw [List.append_assoc]
    refine h1.set (l := d.getD 0 0) (r := n) (s' := s'.sub l (kept ++ n :: rest)) ?_ (hdok.2.1 _ (List.mem_of_getElem? hd0)).1 (hdok.2.1 _ (List.mem_of_getElem? hd0)).2 (fun e => g1 ((hone _).2 e)) (fun e => g2 ((hval _).2 e)) (.inr (.inr ⟨n, d, rfl, ?_, List.mem_of_getElem? hd0, fun x hx hx0 => ?_⟩))
    · obtain ⟨a, rfl⟩ := S.set_some hs'
      unfold S.set
      rw [if_neg (show ¬ ((s.put n d).sub l (kept ++ n :: rest)).lf = 0 from a)]; rfl
    · show (s.cl.set n d)[n]? = some d
      rw [List.getElem?_set, if_pos rfl, if_pos hnl]
    · obtain ⟨j, hj⟩ := List.getElem?_of_mem hx
      rcases Nat.lt_or_ge j 2 with h2 | h2
      · rcases Nat.lt_or_ge j 1 with h3 | h3
        · have : j = 0 := by omega
          subst this
          rw [hd0] at hj; cases hj
          exact absurd rfl hx0
        · have : j = 1 := by omega
          subst this
          rw [hd1] at hj; cases hj
          exact hl
      · exact (hval x).1 (find_none hnone j x h2 hj)

/-- What a pass over those that watch a literal leaves. -/
def PassOk (N : Nat) (s : S) (l : Int) : Option (S × Option Nat) → Prop
  | none => True
  | some (s', none) => Inv N s' ∧ Ext s s'
  | some (s', some n) => Inv N s' ∧ Ext s s' ∧ ∃ c, s'.cl[n]? = some c ∧ l ∈ c ∧ ∀ x ∈ c, -x ∈ s'.tr

theorem PassOk.of {N : Nat} {s s' : S} {l : Int} (h : Ext s s') : ∀ {r : Option (S × Option Nat)}, PassOk N s' l r → PassOk N s l r
  | none, _ => trivial
  | some (_, none), k => ⟨k.1, h.trans k.2⟩
  | some (_, some _), k => ⟨k.1, h.trans k.2.1, k.2.2⟩

theorem sub_ext (s : S) (l : Int) (x : List Nat) : Ext s (s.sub l x) := ⟨rfl, rfl, rfl, rfl, ⟨[], by simp [S.sub]⟩, rfl, Nat.le_refl _, rfl⟩

theorem pass_inv {N : Nat} {l : Int} : ∀ (rest kept : List Nat) (s : S), Inv N (s.sub l (kept ++ rest)) → -l ∈ s.tr → PassOk N s l (S.pass l kept rest s)
  | [], kept, s, h, hl => by
    rw [List.append_nil] at h
    exact ⟨h, sub_ext _ _ _⟩
  | n :: rest, kept, s, h, hl => by
    have hv := visit_inv h hl
    unfold S.pass
    generalize s.visit n l = v at hv
    cases v with
    | moved s' => exact .of hv.2 (pass_inv rest kept s' hv.1 (hv.2.mem hl))
    | kept s' => exact .of hv.2 (pass_inv rest (kept ++ [n]) s' hv.1 (hv.2.mem hl))
    | bad s' => exact ⟨hv.1, hv.2.1.trans (sub_ext _ _ _), hv.2.2⟩
    | out => trivial

/-- The same but for what was looked at. -/
structure Ext' (s s' : S) : Prop where
  ms : s'.ms = s.ms
  pf : s'.pf = s.pf
  len : s'.cl.length = s.cl.length
  tr : ∃ t, s'.tr = s.tr ++ t
  lf : s'.lf + s'.tr.length = s.lf + s.tr.length
  le : s'.lf ≤ s.lf
  he : s'.he = s.he

theorem Ext'.refl (s : S) : Ext' s s := ⟨rfl, rfl, rfl, ⟨[], by simp⟩, rfl, Nat.le_refl _, rfl⟩
theorem Ext'.trans {a b c : S} (h : Ext' a b) (k : Ext' b c) : Ext' a c :=
  ⟨k.ms.trans h.ms, k.pf.trans h.pf, k.len.trans h.len, by obtain ⟨t, e⟩ := h.tr; obtain ⟨u, f⟩ := k.tr; exact ⟨t ++ u, by rw [f, e, List.append_assoc]⟩, k.lf.trans h.lf, Nat.le_trans k.le h.le, k.he.trans h.he⟩

/-- What looking at all that follows leaves. -/
def SpreadOk (N : Nat) (s : S) : Option (S × Option Nat) → Prop
  | none => True
  | some (s', none) => Inv N s' ∧ Ext' s s' ∧ s'.dn = s'.tr.length
  | some (s', some n) => Inv N s' ∧ Ext' s s' ∧ ∃ c, s'.cl[n]? = some c ∧ (∀ x ∈ c, -x ∈ s'.tr) ∧ ∃ x ∈ c, s'.lev x = s'.ms.length

theorem SpreadOk.of {N : Nat} {s s' : S} (h : Ext' s s') : ∀ {r : Option (S × Option Nat)}, SpreadOk N s' r → SpreadOk N s r
  | none, _ => trivial
  | some (_, none), k => ⟨k.1, h.trans k.2.1, k.2.2⟩
  | some (_, some _), k => ⟨k.1, h.trans k.2.1, k.2.2⟩

theorem Inv.look {N : Nat} {s : S} (h : Inv N s) (hd : s.dn < s.tr.length) : Inv N { s with dn := s.dn + 1 } :=
  ⟨h.nva, h.nlv, h.nre, h.nhe, h.cls, h.wat, h.tro, h.val, h.lev, h.mks, h.rea, hd, fun m hm => Nat.le_succ_of_le (h.dnm m hm)⟩

theorem sub_self (s : S) (l : Int) : s.sub l (s.wt l) = s := by
  unfold S.sub
  have : (fun y => if y = l then s.wt l else s.wt y) = s.wt := funext fun y => by split <;> simp_all
  rw [this]

/-- What is behind the last mark is on the level that is gone on. -/
theorem Inv.lev_top {N : Nat} {s : S} (h : Inv N s) {i : Nat} {l : Int} (hi : s.tr[i]? = some l) (hd : ∀ m ∈ s.ms, m ≤ i) : s.lev l = s.ms.length := by
  refine Nat.le_antisymm (h.lev l (List.mem_of_getElem? hi)) ?_
  rcases Nat.eq_zero_or_pos s.ms.length with h0 | h0
  · omega
  have hk : s.ms[s.ms.length - 1]? = some s.ms[s.ms.length - 1] := List.getElem?_eq_getElem (by omega)
  have := ((h.mks _ _ hk).2 i l hi).1 (hd _ (List.mem_of_getElem? hk))
  omega

theorem lev_neg (s : S) (l : Int) : s.lev (-l) = s.lev l := by simp [S.lev]

theorem spread_inv {N : Nat} : ∀ (k : Nat) (s : S), Inv N s → s.room < k → SpreadOk N s (S.spreadN k s)
  | 0, s, _, h => by omega
  | k + 1, s, h, hk => by
    unfold S.spreadN
    split
    · rename_i e
      rw [List.getElem?_eq_none_iff] at e
      exact ⟨h, .refl s, Nat.le_antisymm h.dnl e⟩
    · rename_i l e
      have hlt := (List.getElem?_eq_some_iff.1 e).1
      have h1 := h.look hlt
      have hp := pass_inv (N := N) (l := -l) (s.wt (-l)) [] { s with dn := s.dn + 1 } (by rw [List.nil_append]; exact (sub_self { s with dn := s.dn + 1 } (-l)).symm ▸ h1) (by rw [Int.neg_neg]; exact List.mem_of_getElem? e)
      generalize S.pass (-l) [] (s.wt (-l)) { s with dn := s.dn + 1 } = r at hp
      match r, hp with
      | none, _ => trivial
      | some (s', some n), hp =>
        obtain ⟨a1, a2, c, a3, a4, a5⟩ := hp
        refine ⟨a1, ⟨a2.ms, a2.pf, a2.len, a2.tr, a2.lf, a2.le, a2.he⟩, c, a3, a5, -l, a4, ?_⟩
        obtain ⟨t, ht⟩ := a2.tr
        rw [lev_neg]
        refine a1.lev_top (i := s.dn) ?_ fun m hm => ?_
        · rw [ht, List.getElem?_append_left hlt]; exact e
        · rw [a2.ms] at hm; exact h.dnm m hm
      | some (s', none), hp =>
        obtain ⟨a1, a2⟩ := hp
        refine SpreadOk.of (s := s) (s' := s') ⟨a2.ms, a2.pf, a2.len, a2.tr, a2.lf, a2.le, a2.he⟩ (spread_inv k s' a1 ?_)
        have b1 := a2.lf
        have b2 := a2.dn
        have b3 := a2.le
        obtain ⟨t, ht⟩ := a2.tr
        have b4 := congrArg List.length ht
        simp only [List.length_append] at b1 b4
        replace b1 : s'.lf + s'.tr.length = s.lf + s.tr.length := b1
        replace b2 : s'.dn = s.dn + 1 := b2
        replace b3 : s'.lf ≤ s.lf := b3
        unfold S.room at hk ⊢
        omega

end Go.Sat

/- The solver's invariant: clauses that are added, levels that are undone, what a conflict teaches. -/
namespace Go.Sat
open Go Go.Cl

theorem add_wt {s : S} {c : List Int} (h : c.getD 0 0 ≠ c.getD 1 0) (y : Int) : (s.add c).wt y = if y = c.getD 0 0 ∨ y = c.getD 1 0 then s.wt y ++ [s.cl.length] else s.wt y := by
  unfold S.add S.push S.sub
  generalize c.getD 0 0 = a at *
  generalize c.getD 1 0 = b at *
  by_cases h1 : y = b
  · subst h1
    simp [Ne.symm h]
  · by_cases h0 : y = a
    · subst h0
      simp [h1]
    · simp [h0, h1]

theorem Wat.lt {cl : List (List Int)} {m : Nat} {l : Int} : Wat cl m l → m < cl.length := fun ⟨_, h, _⟩ => (List.getElem?_eq_some_iff.1 h).1

theorem add_inv {N : Nat} {s : S} (h : Inv N s) {c : List Int} (hc : 2 ≤ c.length ∧ Okc N c) : Inv N (s.add c) := by
  have h0 : c[0]? = some (c.getD 0 0) := some_getD (by omega)
  have h1 : c[1]? = some (c.getD 1 0) := some_getD (by omega)
  have hne : c.getD 0 0 ≠ c.getD 1 0 := fun e => by have := nodup_at hc.2.nodup (e ▸ h0) h1; omega
  refine h.rewat (cl := s.cl ++ [c]) (wt := (s.add c).wt) (fun d hd => ?_) (fun y => ?_) (fun r d hr => ⟨d, by rw [List.getElem?_append_left (List.getElem?_eq_some_iff.1 hr).1]; exact hr, fun _ => Iff.rfl⟩)
  · rcases List.mem_append.1 hd with hd | hd
    · exact h.cls d hd
    · simp at hd; subst hd; exact hc
  · rw [add_wt hne]
    have hw := h.wat y
    have hn : s.cl.length ∉ s.wt y := fun hm => by have := ((hw.2 _).1 hm).lt; omega
    have key : ∀ m, Wat (s.cl ++ [c]) m y ↔ Wat s.cl m y ∨ (m = s.cl.length ∧ (c[0]? = some y ∨ c[1]? = some y)) := fun m => by
      unfold Wat
      rw [List.getElem?_append]
      split
      · rename_i hm
        refine ⟨.inl, fun x => x.elim id fun y => by omega⟩
      · rename_i hm
        rw [List.getElem?_eq_none (l := s.cl) (by omega)]
        by_cases e : m = s.cl.length
        · subst e
          simp
        · rw [List.getElem?_eq_none (by simp; omega)]
          simp [e]
    by_cases hy : y = c.getD 0 0 ∨ y = c.getD 1 0
    · rw [if_pos hy]
      refine ⟨List.nodup_append.2 ⟨hw.1, by simp, fun a ha b hb e => hn (by simp at hb; rw [← hb, ← e]; exact ha)⟩, fun m => ?_⟩
      have htwo : c[0]? = some y ∨ c[1]? = some y := hy.elim (fun e => .inl (by rw [e]; exact h0)) fun e => .inr (by rw [e]; exact h1)
      rw [key, List.mem_append, hw.2 m, List.mem_singleton]
      simp [htwo]
    · rw [if_neg hy]
      refine ⟨hw.1, fun m => ?_⟩
      have htwo : ¬ (c[0]? = some y ∨ c[1]? = some y) := fun h => hy (h.imp (fun e => Option.some.inj (e.symm.trans h0)) fun e => Option.some.inj (e.symm.trans h1))
      rw [key, hw.2 m]
      simp [htwo]

theorem zeros_length (l : List Int) : ∀ va : List Int, (zeros va l).length = va.length := by
  induction l with
  | nil => intro va; rfl
  | cons x l ih => intro va; show (zeros (va.set x.natAbs 0) l).length = _; rw [ih, List.length_set]

theorem zeros_get (l : List Int) (v : Nat) : ∀ va : List Int, (zeros va l).getD v 0 = if v ∈ l.map Int.natAbs then 0 else va.getD v 0 := by
  induction l with
  | nil => intro va; simp [zeros]
  | cons x l ih =>
    intro va
    show (zeros (va.set x.natAbs 0) l).getD v 0 = _
    rw [ih, getD_set]
    by_cases h1 : v ∈ l.map Int.natAbs
    · rw [if_pos h1, if_pos (show v ∈ (x :: l).map Int.natAbs by rw [List.map_cons]; exact List.mem_cons_of_mem _ h1)]
    · rw [if_neg h1]
      by_cases h2 : x.natAbs = v
      · rw [if_pos (show v ∈ (x :: l).map Int.natAbs by rw [List.map_cons, h2]; exact List.mem_cons_self ..)]
        by_cases h3 : x.natAbs < va.length
        · rw [if_pos ⟨h2, h3⟩]
        · rw [if_neg fun q => h3 q.2, List.getD_eq_getElem?_getD, List.getElem?_eq_none (by omega)]; rfl
      · rw [if_neg fun q => h2 q.1, if_neg (show ¬ v ∈ (x :: l).map Int.natAbs by rw [List.map_cons, List.mem_cons]; exact fun q => q.elim (fun e => h2 e.symm) h1)]

theorem Inv.marks_le {N : Nat} {s : S} (h : Inv N s) {i j a b : Nat} (hi : s.ms[i]? = some a) (hj : s.ms[j]? = some b) (hij : i ≤ j) : a ≤ b := by
  rcases Nat.lt_or_ge b a with hlt | hge
  · have ha := (h.mks i a hi).1
    have hb : s.tr[b]? = some s.tr[b] := List.getElem?_eq_getElem (by omega)
    have h1 := ((h.mks j b hj).2 b _ hb).1 (Nat.le_refl _)
    have h2 := ((h.mks i a hi).2 b _ hb).2 (by omega)
    omega
  · exact hge

/-- What is left of the trail, when levels are undone. -/
theorem Inv.mem_take {N : Nat} {s : S} (h : Inv N s) {level m : Nat} (hm : s.ms[level]? = some m) {x : Int} (hx : x ∈ s.tr) : x ∈ s.tr.take m ↔ s.lev x ≤ level := by
  obtain ⟨i, hi⟩ := List.getElem?_of_mem hx
  have h1 := (h.mks level m hm).2 i x hi
  constructor
  · intro ht
    obtain ⟨j, hj⟩ := List.getElem?_of_mem ht
    rw [List.getElem?_take] at hj
    split at hj
    · have := nodup_at h.tro.nodup hi hj
      omega
    · cases hj
  · intro hl
    rw [List.mem_iff_getElem?]
    exact ⟨i, by rw [List.getElem?_take, if_pos (by omega)]; exact hi⟩

theorem S.back_of {s : S} {level m : Nat} (hm : s.ms[level]? = some m) : s.back level = { s with va := zeros s.va (s.tr.drop m), tr := s.tr.take m, ms := s.ms.take level, dn := m } := by
  unfold S.back; rw [hm]

theorem back_inv {N : Nat} {s : S} (h : Inv N s) {level m : Nat} (hm : s.ms[level]? = some m) : Inv N (s.back level) := by
  rw [S.back_of hm]
  have hml := (h.mks level m hm).1
  have hlen : (s.tr.take m).length = m := by simp; omega
  have hlv := (List.getElem?_eq_some_iff.1 hm).1
  have hmem : ∀ x, x ∈ s.tr.take m → x ∈ s.tr := fun x hx => List.mem_of_mem_take hx
  have hget : ∀ {i : Nat} {x : Int}, (s.tr.take m)[i]? = some x → s.tr[i]? = some x ∧ i < m := fun {i x} hx => by
    rw [List.getElem?_take] at hx
    split at hx
    · rename_i hi; exact ⟨hx, hi⟩
    · cases hx
  have hmk : ∀ {k a : Nat}, (s.ms.take level)[k]? = some a → s.ms[k]? = some a ∧ k < level ∧ a ≤ m := fun {k a} hk => by
    rw [List.getElem?_take] at hk
    split at hk
    · rename_i hi; exact ⟨hk, hi, h.marks_le hk hm (by omega)⟩
    · cases hk
  refine ⟨by simp [zeros_length, h.nva], h.nlv, h.nre, h.nhe, h.cls, h.wat, ⟨fun l hl => h.tro.1 l (hmem l hl), ?_⟩, fun v => ?_, fun l hl => ?_, fun k a hk => ?_, fun i l hl h0 h1 => ?_, Nat.le_of_eq hlen.symm, fun a ha => ?_⟩
  · show ((s.tr.take m).map Int.natAbs).Nodup
    rw [List.map_take]
    exact h.tro.2.sublist (List.take_sublist _ _)
  · show (zeros s.va (s.tr.drop m)).getD v 0 = if (v : Int) ∈ s.tr.take m then 1 else if -(v : Int) ∈ s.tr.take m then -1 else 0
    rw [zeros_get, h.val v]
    have hsplit : ∀ x, x ∈ s.tr ↔ x ∈ s.tr.take m ∨ x ∈ s.tr.drop m := fun x => by rw [← List.mem_append, List.take_append_drop]
    have hdis : ∀ x y, x ∈ s.tr.take m → y ∈ s.tr.drop m → x.natAbs ≠ y.natAbs := fun x y hx hy e => by
      have hnd := h.tro.2
      rw [← List.take_append_drop m s.tr, List.map_append, List.nodup_append] at hnd
      exact hnd.2.2 _ (List.mem_map.2 ⟨x, hx, rfl⟩) _ (List.mem_map.2 ⟨y, hy, rfl⟩) e
    by_cases hv : v ∈ (s.tr.drop m).map Int.natAbs
    · rw [if_pos hv]
      obtain ⟨y, hy, rfl⟩ := List.mem_map.1 hv
      rw [if_neg fun hx => hdis _ y hx hy (by simp), if_neg fun hx => hdis _ y hx hy (by simp)]
    · rw [if_neg hv]
      have e1 : ∀ x : Int, x.natAbs = v → (x ∈ s.tr ↔ x ∈ s.tr.take m) := fun x hx => by
        rw [hsplit]
        exact ⟨fun o => o.elim id fun hd => absurd (List.mem_map.2 ⟨x, hd, hx⟩) hv, .inl⟩
      simp only [e1 (v : Int) (by simp), e1 (-(v : Int)) (by simp)]
  · show s.lev l ≤ (s.ms.take level).length
    rw [List.length_take, Nat.min_eq_left (by omega)]
    exact (h.mem_take hm (hmem l hl)).1 hl
  · obtain ⟨g1, g2, g3⟩ := hmk hk
    exact ⟨by rw [show ({ s with va := zeros s.va (s.tr.drop m), tr := s.tr.take m, ms := s.ms.take level, dn := m } : S).tr = s.tr.take m from rfl, hlen]; exact g3, fun i l hl => (h.mks k a g1).2 i l (hget hl).1⟩
  · have hl' := hget hl
    have hle : s.lev l ≤ level := (h.mem_take hm (List.mem_of_getElem? hl'.1)).1 (List.mem_of_getElem? hl)
    replace h0 : 0 < s.lev l := h0
    obtain ⟨r, c, g1, g2, g3, g4⟩ := h.rea i l hl'.1 h0 fun e => h1 (by
      show (s.ms.take level)[s.lev l - 1]? = some i
      rw [List.getElem?_take, if_pos (by omega)]; exact e)
    refine ⟨r, c, g1, g2, g3, fun x hx hxl => ?_⟩
    obtain ⟨j, hj, hj'⟩ := g4 x hx hxl
    exact ⟨j, hj, by
      show (s.tr.take m)[j]? = some (-x)
      rw [List.getElem?_take, if_pos (by omega)]; exact hj'⟩
  · obtain ⟨k, hk⟩ := List.getElem?_of_mem ha
    exact (hmk hk).2.2

theorem countP_add {α : Type} [DecidableEq α] {p q : α → Bool} {y : α} : ∀ {l : List α}, l.Nodup → y ∈ l → p y = false → q y = true → (∀ x ∈ l, x ≠ y → q x = p x) → l.countP q = l.countP p + 1
  | [], _, h, _, _, _ => by cases h
  | a :: l, hn, hy, hp, hq, hx => by
    rw [List.nodup_cons] at hn
    rw [List.countP_cons, List.countP_cons]
    by_cases e : a = y
    · subst e
      have : l.countP q = l.countP p := List.countP_congr fun x hxl => by rw [hx x (List.mem_cons_of_mem _ hxl) fun e => hn.1 (e ▸ hxl)]
      rw [this, hp, hq]; simp
    · have hyl : y ∈ l := by exact (List.mem_cons.1 hy).elim (fun h => absurd h.symm e) id
      have := countP_add hn.2 hyl hp hq fun x hxl => hx x (List.mem_cons_of_mem _ hxl)
      rw [this, hx a (by simp) e]; omega

/-- Has a literal of the trail been met, on the level that is gone on? -/
def cnt (s : S) (seen : List Nat) (x : Int) : Bool := decide (x.natAbs ∈ seen) && decide (s.lev x = s.ms.length)

/-- What a conflict has taught, with p of the trail to be looked at. -/
structure LInv (N : Nat) (s : S) (p : Nat) (st : L) : Prop where
  ple : p ≤ s.tr.length
  hlen : st.he.length = N
  heat : ∀ v, st.he.getD v 0 = if v ∈ st.seen then s.he.getD v 0 + 1 else s.he.getD v 0
  opn : st.op = (s.tr.take p).countP (cnt s st.seen)
  sn : ∀ v ∈ st.seen, v < N
  out : ∀ x ∈ st.out, -x ∈ s.tr ∧ 0 < s.lev x ∧ s.lev x < s.ms.length ∧ s.lev x ≤ st.level ∧ x.natAbs ∈ st.seen
  outn : (st.out.map Int.natAbs).Nodup
  lvl : st.level = 0 ∧ st.out = [] ∨ ∃ x ∈ st.out, s.lev x = st.level

theorem mark1_inv {N : Nat} {s : S} (h : Inv N s) {p : Nat} {st : L} (hs : LInv N s p st) {x : Int} {i : Nat} (hi : i < p) (hx : s.tr[i]? = some (-x)) : LInv N s p (L.mark1 s.lv s.ms.length st x) ∧ (∀ v ∈ st.seen, v ∈ (L.mark1 s.lv s.ms.length st x).seen) ∧ (0 < s.lev x → x.natAbs ∈ (L.mark1 s.lv s.ms.length st x).seen) := by
  have hxm := List.mem_of_getElem? hx
  have hxN : x.natAbs < N := by have := (h.tro.1 _ hxm).2; simpa using this
  have hxt : -x ∈ s.tr.take p := by
    rw [List.mem_iff_getElem?]
    exact ⟨i, by rw [List.getElem?_take, if_pos hi]; exact hx⟩
  unfold L.mark1
  by_cases g1 : x.natAbs ∈ st.seen ∨ s.lv.getD x.natAbs 0 = 0
  · rw [if_pos g1]
    exact ⟨hs, fun _ => id, fun h0 => g1.elim id fun e => by replace e : s.lev x = 0 := e; omega⟩
  rw [if_neg g1]
  rw [not_or] at g1
  have hheat : ∀ v, (st.he.set x.natAbs (st.he.getD x.natAbs 0 + 1)).getD v 0 = if v ∈ st.seen ++ [x.natAbs] then s.he.getD v 0 + 1 else s.he.getD v 0 := fun v => by
    rw [getD_set, hs.hlen]
    by_cases e : x.natAbs = v
    · subst e
      rw [if_pos ⟨rfl, hxN⟩, hs.heat, if_neg g1.1, if_pos (by simp)]
    · rw [if_neg fun q => e q.1, hs.heat]
      by_cases e2 : v ∈ st.seen
      · rw [if_pos e2, if_pos (List.mem_append_left _ e2)]
      · rw [if_neg e2, if_neg (show ¬ v ∈ st.seen ++ [x.natAbs] by rw [List.mem_append, List.mem_singleton]; exact fun q => q.elim e2 fun q => e q.symm)]
  have hsn : ∀ v ∈ st.seen ++ [x.natAbs], v < N := fun v hv => by
    rcases List.mem_append.1 hv with hv | hv
    · exact hs.sn v hv
    · simp at hv; subst hv; exact hxN
  have hnd : (s.tr.take p).Nodup := h.tro.nodup.sublist (List.take_sublist _ _)
  have hother : ∀ y ∈ s.tr.take p, y ≠ -x → y.natAbs ≠ x.natAbs := fun y hy hne e => hne (nodup_inj h.tro.2 (List.mem_of_mem_take hy) hxm (by simpa using e))
  have hcnt : ∀ y ∈ s.tr.take p, y ≠ -x → cnt s (st.seen ++ [x.natAbs]) y = cnt s st.seen y := fun y hy hne => by
    unfold cnt
    have := hother y hy hne
    simp [this]
  by_cases g2 : s.lv.getD x.natAbs 0 = s.ms.length
  · rw [if_pos g2]
    replace g2 : s.lev x = s.ms.length := g2
    refine ⟨⟨hs.ple, by simp [hs.hlen], hheat, ?_, hsn, fun y hy => ?_, hs.outn, hs.lvl⟩, fun v hv => List.mem_append_left _ hv, fun _ => by simp⟩
    · show st.op + 1 = _
      rw [hs.opn]
      refine (countP_add hnd hxt ?_ ?_ hcnt).symm
      · unfold cnt; simp [g1.1]
      · unfold cnt; simp [lev_neg, g2]
    · obtain ⟨a1, a2, a3, a4, a5⟩ := hs.out y hy
      exact ⟨a1, a2, a3, a4, List.mem_append_left _ a5⟩
  · rw [if_neg g2]
    replace g2 : s.lev x ≠ s.ms.length := g2
    have hlt : s.lev x < s.ms.length := by have := h.lev _ hxm; rw [lev_neg] at this; omega
    have hpos : 0 < s.lev x := Nat.pos_of_ne_zero g1.2
    refine ⟨⟨hs.ple, by simp [hs.hlen], hheat, ?_, hsn, fun y hy => ?_, ?_, .inr ?_⟩, fun v hv => List.mem_append_left _ hv, fun _ => by simp⟩
    · show st.op = _
      rw [hs.opn]
      refine List.countP_congr fun y hy => ?_
      by_cases e : y = -x
      · subst e
        unfold cnt; simp [lev_neg, g2]
      · rw [hcnt y hy e]
    · rcases List.mem_append.1 hy with hy | hy
      · obtain ⟨a1, a2, a3, a4, a5⟩ := hs.out y hy
        exact ⟨a1, a2, a3, Nat.le_trans a4 (Nat.le_max_left _ _), List.mem_append_left _ a5⟩
      · simp at hy; subst hy
        exact ⟨hxm, hpos, hlt, Nat.le_max_right _ _, by simp⟩
    · show ((st.out ++ [x]).map Int.natAbs).Nodup
      rw [List.map_append, List.nodup_append]
      refine ⟨hs.outn, by simp, fun a ha b hb e => ?_⟩
      obtain ⟨y, hy, rfl⟩ := List.mem_map.1 ha
      simp at hb
      exact g1.1 (by rw [← hb, ← e]; exact (hs.out y hy).2.2.2.2)
    · show ∃ y ∈ st.out ++ [x], s.lev y = max st.level (s.lev x)
      rcases Nat.le_total st.level (s.lev x) with hle | hle
      · exact ⟨x, by simp, by omega⟩
      · rcases hs.lvl with ⟨h1, h2⟩ | ⟨y, hy, he⟩
        · exact ⟨x, by simp, by omega⟩
        · exact ⟨y, List.mem_append_left _ hy, by omega⟩

theorem mark_inv {N : Nat} {s : S} (h : Inv N s) {p : Nat} : ∀ {c : List Int} {st : L}, LInv N s p st → (∀ x ∈ c, ∃ i, i < p ∧ s.tr[i]? = some (-x)) →
    LInv N s p (L.mark s.lv s.ms.length st c) ∧ (∀ v ∈ st.seen, v ∈ (L.mark s.lv s.ms.length st c).seen) ∧ ∀ x ∈ c, 0 < s.lev x → x.natAbs ∈ (L.mark s.lv s.ms.length st c).seen
  | [], st, hs, _ => ⟨hs, fun _ => id, fun x hx => by cases hx⟩
  | x :: c, st, hs, hc => by
    obtain ⟨i, hi, hx⟩ := hc x (by simp)
    obtain ⟨g1, g2, g3⟩ := mark1_inv h hs hi hx
    obtain ⟨k1, k2, k3⟩ := mark_inv h g1 fun y hy => hc y (List.mem_cons_of_mem _ hy)
    refine ⟨k1, fun v hv => k2 v (g2 v hv), fun y hy h0 => ?_⟩
    rcases List.mem_cons.1 hy with rfl | hy
    · exact k2 _ (g3 h0)
    · exact k3 y hy h0

/-- On a level above another one later. -/
theorem Inv.lev_mono {N : Nat} {s : S} (h : Inv N s) {i j : Nat} {x y : Int} (hi : s.tr[i]? = some x) (hj : s.tr[j]? = some y) (hij : i ≤ j) : s.lev x ≤ s.lev y := by
  rcases Nat.eq_zero_or_pos (s.lev x) with h0 | h0
  · omega
  have hle := h.lev x (List.mem_of_getElem? hi)
  have hk : s.ms[s.lev x - 1]? = some s.ms[s.lev x - 1] := List.getElem?_eq_getElem (by omega)
  have h1 := ((h.mks _ _ hk).2 i x hi).2 (by omega)
  have h2 := ((h.mks _ _ hk).2 j y hj).1 (by omega)
  omega

theorem walk_inv {N : Nat} {s : S} (h : Inv N s) (hD : 0 < s.ms.length) : ∀ (p : Nat) (st : L), LInv N s p st → 1 ≤ st.op →
    ∃ l st' p', s.walk (s.tr.take p).reverse st = some (l, st') ∧ LInv N s p' st' ∧ l ∈ s.tr ∧ s.lev l = s.ms.length
  | 0, st, hs, ho => by have := hs.opn; simp at this; omega
  | p + 1, st, hs, ho => by
    have hp := hs.ple
    obtain ⟨l, hl⟩ : ∃ l, s.tr[p]? = some l := ⟨_, List.getElem?_eq_getElem (by omega)⟩
    have htake : s.tr.take (p + 1) = s.tr.take p ++ [l] := by
      rw [List.take_add_one, hl]; rfl
    have hopn := hs.opn
    rw [htake, List.countP_append] at hopn
    rw [htake, List.reverse_append, List.reverse_singleton, List.singleton_append]
    unfold S.walk
    by_cases g1 : l.natAbs ∈ st.seen
    · rw [if_pos g1]
      have hlev : s.lev l = s.ms.length := by
        have hle := h.lev l (List.mem_of_getElem? hl)
        by_cases e : s.lev l = s.ms.length
        · exact e
        exfalso
        have hz : [l].countP (cnt s st.seen) = 0 := by simp [cnt, e]
        rw [hz] at hopn
        obtain ⟨y, hy, hyc⟩ := List.countP_pos_iff.1 (show 0 < (s.tr.take p).countP (cnt s st.seen) by omega)
        obtain ⟨i, hi⟩ := List.getElem?_of_mem hy
        rw [List.getElem?_take] at hi
        split at hi
        · have := h.lev_mono hi hl (by omega)
          simp [cnt] at hyc
          omega
        · cases hi
      have h1 : [l].countP (cnt s st.seen) = 1 := by simp [cnt, g1, hlev]
      rw [h1] at hopn
      by_cases g2 : st.op = 1
      · rw [if_pos g2]
        exact ⟨l, st, p + 1, rfl, hs, List.mem_of_getElem? hl, hlev⟩
      · rw [if_neg g2]
        have hrea : Rea s p l := by
          refine h.rea p l hl (by omega) fun e => ?_
          obtain ⟨y, hy, hyc⟩ := List.countP_pos_iff.1 (show 0 < (s.tr.take p).countP (cnt s st.seen) by omega)
          obtain ⟨i, hi⟩ := List.getElem?_of_mem hy
          rw [List.getElem?_take] at hi
          split at hi
          · simp [cnt] at hyc
            have := ((h.mks _ _ e).2 i y hi).2 (by omega)
            omega
          · cases hi
        obtain ⟨r, c, r1, r2, r3, r4⟩ := hrea
        have hreason : s.reason l = c.filter fun x => x != l := by
          unfold S.reason; rw [r1, Int.toNat_natCast, getD_some r2]
        have hs' : LInv N s p { st with op := st.op - 1 } := ⟨by omega, hs.hlen, hs.heat, by show st.op - 1 = (s.tr.take p).countP (cnt s st.seen); omega, hs.sn, hs.out, hs.outn, hs.lvl⟩
        have hm := mark_inv h hs' (c := s.reason l) fun x hx => by
          rw [hreason, List.mem_filter] at hx
          exact r4 x hx.1 (by simpa using hx.2)
        refine walk_inv h hD p _ hm.1 ?_
        rw [hm.1.opn]
        have : 0 < (s.tr.take p).countP (cnt s st.seen) := by omega
        obtain ⟨y, hy, hyc⟩ := List.countP_pos_iff.1 this
        refine List.countP_pos_iff.2 ⟨y, hy, ?_⟩
        simp only [cnt, Bool.and_eq_true, decide_eq_true_eq] at hyc ⊢
        exact ⟨hm.2.1 _ hyc.1, hyc.2⟩
    · rw [if_neg g1]
      have h0 : [l].countP (cnt s st.seen) = 0 := by simp [cnt, g1]
      rw [h0] at hopn
      exact walk_inv h hD p st ⟨by omega, hs.hlen, hs.heat, hopn, hs.sn, hs.out, hs.outn, hs.lvl⟩ ho

/-- What a conflict teaches: a clause, false but for the levels above one, the first literal of which is on the level that is gone on. -/
structure Taught (N : Nat) (s : S) (c : List Int) (level : Nat) (he : List Nat) : Prop where
  head : ∃ l out, c = -l :: out ∧ l ∈ s.tr ∧ s.lev l = s.ms.length ∧ (∀ x ∈ out, -x ∈ s.tr ∧ 0 < s.lev x ∧ s.lev x ≤ level) ∧ (out = [] → level = 0) ∧ (out = [] ∨ ∃ x ∈ out, s.lev x = level)
  lt : level < s.ms.length
  ok : Okc N c
  hlen : he.length = N
  heat : ∀ v, he.getD v 0 ≤ s.he.getD v 0 + 1

theorem learn_inv {N : Nat} {s : S} (h : Inv N s) (hD : 0 < s.ms.length) {n : Nat} {c : List Int} (hc : s.cl[n]? = some c) (hf : ∀ x ∈ c, -x ∈ s.tr) {y : Int} (hy : y ∈ c) (hyl : s.lev y = s.ms.length) :
    ∃ d level he, s.learn n = some (d, level, { s with he := he }) ∧ Taught N s d level he := by
  have hz : 0 = (s.tr.take s.tr.length).countP (cnt s []) := by
    rw [eq_comm, List.countP_eq_zero]
    intro x hx; simp [cnt]
  have hs0 : LInv N s s.tr.length ⟨[], [], 0, 0, s.he⟩ := ⟨Nat.le_refl _, h.nhe, (fun v => by simp), hz, (fun v hv => by cases hv), (fun x hx => by cases hx), (by simp), .inl ⟨rfl, rfl⟩⟩
  have hm := mark_inv h hs0 (c := c) fun x hx => by
    obtain ⟨i, hi⟩ := List.getElem?_of_mem (hf x hx)
    exact ⟨i, (List.getElem?_eq_some_iff.1 hi).1, hi⟩
  have hop : 1 ≤ (L.mark s.lv s.ms.length ⟨[], [], 0, 0, s.he⟩ c).op := by
    rw [hm.1.opn, List.take_length]
    refine List.countP_pos_iff.2 ⟨-y, hf y hy, ?_⟩
    simp only [cnt, Bool.and_eq_true, decide_eq_true_eq, lev_neg, Int.natAbs_neg]
    exact ⟨hm.2.2 y hy (by omega), hyl⟩
  obtain ⟨l, st, p, e, hst, hl, hll⟩ := walk_inv h hD _ _ hm.1 hop
  rw [List.take_length] at e
  refine ⟨-l :: st.out, st.level, st.he, ?_, ⟨⟨l, st.out, rfl, hl, hll, fun x hx => ?_, fun e => ?_, hst.lvl.imp And.right id⟩, ?_, ?_, hst.hlen, fun v => ?_⟩⟩
  · unfold S.learn
    rw [getD_some hc, e]; rfl
  · obtain ⟨a1, a2, a3, a4, a5⟩ := hst.out x hx
    exact ⟨a1, a2, a4⟩
  · rcases hst.lvl with ⟨a, _⟩ | ⟨x, hx, _⟩
    · exact a
    · rw [e] at hx; cases hx
  · rcases hst.lvl with ⟨a, _⟩ | ⟨x, hx, a⟩
    · omega
    · have := (hst.out x hx).2.2.1; omega
  · refine ⟨fun x hx => ?_, ?_⟩
    · rcases List.mem_cons.1 hx with rfl | hx
      · have := h.tro.1 l hl
        exact ⟨by omega, by simpa using this.2⟩
      · have := h.tro.1 _ (hst.out x hx).1
        exact ⟨by omega, by simpa using this.2⟩
    · rw [List.map_cons, List.nodup_cons]
      refine ⟨fun hm => ?_, hst.outn⟩
      obtain ⟨x, hx, e⟩ := List.mem_map.1 hm
      have h1 := hst.out x hx
      have : s.lev x = s.lev l := by unfold S.lev; rw [e, Int.natAbs_neg]
      omega
  · rw [hst.heat]; split <;> omega

theorem Inv.heat {N : Nat} {s : S} (h : Inv N s) {he : List Nat} (hl : he.length = N) : Inv N { s with he := he } :=
  ⟨h.nva, h.nlv, h.nre, hl, h.cls, h.wat, h.tro, h.val, h.lev, h.mks, h.rea, h.dnl, h.dnm⟩
theorem Inv.proof {N : Nat} {s : S} (h : Inv N s) (pf : List (List Int)) : Inv N { s with pf := pf } :=
  ⟨h.nva, h.nlv, h.nre, h.nhe, h.cls, h.wat, h.tro, h.val, h.lev, h.mks, h.rea, h.dnl, h.dnm⟩
theorem Inv.fuel {N : Nat} {s : S} (h : Inv N s) (lf : Nat) : Inv N { s with lf := lf } :=
  ⟨h.nva, h.nlv, h.nre, h.nhe, h.cls, h.wat, h.tro, h.val, h.lev, h.mks, h.rea, h.dnl, h.dnm⟩

theorem fold_range {P : Nat → Prop} (f : Nat → Nat → Nat) {b : Nat} (hb : P b) : ∀ (l : List Nat), (∀ k ∈ l, P k) → (∀ a k, f a k = a ∨ f a k = k) → P (l.foldl f b) := by
  intro l
  induction l generalizing b with
  | nil => intro _ _; exact hb
  | cons k l ih =>
    intro hk hf
    refine ih ?_ (fun j hj => hk j (List.mem_cons_of_mem _ hj)) hf
    rcases hf b k with e | e <;> rw [e]
    · exact hb
    · exact hk k (by simp)

theorem far_range {s : S} {c : List Int} (h : 2 ≤ c.length) : 1 ≤ s.far c ∧ s.far c < c.length := by
  unfold S.far
  refine fold_range (P := fun k => 1 ≤ k ∧ k < c.length) _ ⟨by omega, by omega⟩ _ (fun k hk => ?_) fun a k => ?_
  · simp at hk; omega
  · split <;> simp

theorem teach_inv {N : Nat} {s : S} (h : Inv N s) {c : List Int} {level : Nat} {he : List Nat} (ht : Taught N s c level he) {s' : S} (e : s.teach c level = some s') : Inv N s' ∧ s'.lf + 1 = s.lf := by
  obtain ⟨l, out, rfl, hl, hll, hout, hlev0, _⟩ := ht.head
  have hlt := ht.lt
  obtain ⟨m, hm⟩ : ∃ m, s.ms[level]? = some m := ⟨_, List.getElem?_eq_getElem hlt⟩
  have hp := h.proof (s.pf ++ [(cleanS (-l :: out)).1])
  have hm' : ({ s with pf := s.pf ++ [(cleanS (-l :: out)).1] } : S).ms[level]? = some m := hm
  have hb := back_inv hp hm'
  unfold S.teach at e
  simp only at e
  have hlf : ∀ {x : S}, x.back level = x.back level → ({ s with pf := s.pf ++ [(cleanS (-l :: out)).1] } : S).back level = ({ s with pf := s.pf ++ [(cleanS (-l :: out)).1] } : S).back level := fun _ => rfl
  have hbk := S.back_of hm'
  generalize hs1 : ({ s with pf := s.pf ++ [(cleanS (-l :: out)).1] } : S).back level = s1 at e hb hbk
  have htr : s1.tr = s.tr.take m := by rw [hbk]
  have hms : s1.ms.length = level := by rw [hbk]; show (s.ms.take level).length = level; simp; omega
  have hsl : s1.lf = s.lf := by rw [hbk]
  have hll1 : l ∉ s1.tr := fun hx => by
    rw [htr] at hx
    have := (h.mem_take hm hl).1 hx
    omega
  have hll2 : -l ∉ s1.tr := fun hx => by
    rw [htr] at hx
    exact h.tro.neg hl (List.mem_of_mem_take hx)
  have hout1 : ∀ x ∈ out, -x ∈ s1.tr := fun x hx => by
    obtain ⟨a1, a2, a3⟩ := hout x hx
    rw [htr, h.mem_take hm a1, lev_neg]; exact a3
  have hok := ht.ok
  have hlok := hok.1 (-l) (by simp)
  by_cases g1 : (-l :: out).length = 1
  · rw [if_pos g1] at e
    have ho : out = [] := by simpa using g1
    refine ⟨hb.set (l := -l) e hlok.1 hlok.2 hll2 (by rw [Int.neg_neg]; exact hll1) (.inl (by rw [hms]; exact hlev0 ho)), ?_⟩
    obtain ⟨a, rfl⟩ := S.set_some e
    show s1.lf - 1 + 1 = s.lf
    omega
  · rw [if_neg g1] at e
    have h2 : 2 ≤ (-l :: out).length := by simp at g1 ⊢; cases out <;> simp_all
    obtain ⟨f1, f2⟩ := far_range (s := s1) h2
    generalize s1.far (-l :: out) = f at *
    have hper := swap_perm (-l :: out) (i := 1) (j := f) (by omega) f2
    have h0 : (swap (-l :: out) 1 f)[0]? = some (-l) := by rw [swap_getD _ (by omega) f2, if_neg (by omega), if_neg (by omega)]; rfl
    have h0D : (swap (-l :: out) 1 f).getD 0 0 = -l := getD_some h0
    rw [h0D] at e
    have ha := add_inv hb (c := swap (-l :: out) 1 f) ⟨by rw [swap_length]; exact h2, hok.perm hper⟩
    refine ⟨ha.set (l := -l) (r := s1.cl.length) e hlok.1 hlok.2 hll2 (by rw [Int.neg_neg]; exact hll1) (.inr (.inr ⟨s1.cl.length, swap (-l :: out) 1 f, rfl, ?_, List.mem_of_getElem? h0, fun x hx hxl => ?_⟩)), ?_⟩
    · show (s1.cl ++ [swap (-l :: out) 1 f])[s1.cl.length]? = _
      simp
    · have := hper.mem_iff.1 hx
      rcases List.mem_cons.1 this with h | h
      · exact absurd h hxl
      · exact hout1 x h
    · obtain ⟨a, rfl⟩ := S.set_some e
      replace a : s1.lf ≠ 0 := a
      show s1.lf - 1 + 1 = s.lf
      omega

end Go.Sat

/- The solver's invariant: rounds, and how it begins. -/
namespace Go.Sat
open Go Go.Cl

theorem pick_ok {s : S} : s.pick = 0 ∨ (1 ≤ s.pick ∧ s.pick < s.va.length ∧ s.va.getD s.pick 0 = 0) := by
  unfold S.pick
  have key : ∀ (l : List Nat) (b : Nat), (∀ k ∈ l, 1 ≤ k ∧ k < s.va.length) → (b = 0 ∨ (1 ≤ b ∧ b < s.va.length ∧ s.va.getD b 0 = 0)) →
      (l.foldl (fun b v => if s.va.getD v 0 = 0 ∧ (b = 0 ∨ s.he.getD b 0 < s.he.getD v 0) then v else b) b = 0 ∨ (1 ≤ l.foldl (fun b v => if s.va.getD v 0 = 0 ∧ (b = 0 ∨ s.he.getD b 0 < s.he.getD v 0) then v else b) b ∧ l.foldl (fun b v => if s.va.getD v 0 = 0 ∧ (b = 0 ∨ s.he.getD b 0 < s.he.getD v 0) then v else b) b < s.va.length ∧ s.va.getD (l.foldl (fun b v => if s.va.getD v 0 = 0 ∧ (b = 0 ∨ s.he.getD b 0 < s.he.getD v 0) then v else b) b) 0 = 0)) := by
    intro l
    induction l with
    | nil => intro b _ hb; exact hb
    | cons k l ih =>
      intro b hk hb
      rw [List.foldl_cons]
      refine ih _ (fun j hj => hk j (List.mem_cons_of_mem _ hj)) ?_
      split
      · rename_i h
        exact .inr ⟨(hk k (by simp)).1, (hk k (by simp)).2, h.1⟩
      · exact hb
  exact key _ 0 (fun k hk => by simp at hk; omega) (.inl rfl)

theorem Inv.decide {N : Nat} {s : S} (h : Inv N s) (hd : s.dn = s.tr.length) : Inv N { s with ms := s.ms ++ [s.tr.length] } := by
  refine ⟨h.nva, h.nlv, h.nre, h.nhe, h.cls, h.wat, h.tro, h.val, fun l hl => ?_, fun k m hk => ?_, fun i l hl h0 h1 => ?_, h.dnl, fun m hm => ?_⟩
  · show s.lev l ≤ (s.ms ++ [s.tr.length]).length
    have := h.lev l hl
    simp; omega
  · replace hk : (s.ms ++ [s.tr.length])[k]? = some m := hk
    rw [List.getElem?_append] at hk
    split at hk
    · exact h.mks k m hk
    · rename_i hge
      have hk0 : k - s.ms.length = 0 := by
        rcases Nat.eq_zero_or_pos (k - s.ms.length) with h | h
        · exact h
        · rw [List.getElem?_eq_none (by simp; omega)] at hk; cases hk
      rw [hk0] at hk
      simp at hk
      subst hk
      refine ⟨Nat.le_refl _, fun i l hl => ?_⟩
      have h1 := (List.getElem?_eq_some_iff.1 hl).1
      have h2 := h.lev l (List.mem_of_getElem? hl)
      show s.tr.length ≤ i ↔ k < s.lev l
      replace h1 : i < s.tr.length := h1
      omega
  · replace h0 : 0 < s.lev l := h0
    replace h1 : (s.ms ++ [s.tr.length])[s.lev l - 1]? ≠ some i := h1
    have h2 := h.lev l (List.mem_of_getElem? hl)
    rw [List.getElem?_append_left (by omega)] at h1
    exact h.rea i l hl h0 h1
  · rcases List.mem_append.1 hm with hm | hm
    · exact h.dnm m hm
    · simp at hm
      show m ≤ s.dn
      omega

/-- What a round leaves. -/
def RoundOk (N : Nat) (s : S) : Option (S × Option Bool) → Prop
  | none => True
  | some (s', none) => Inv N s' ∧ s'.lf < s.lf
  | some (s', some _) => Inv N s' ∧ s'.lf ≤ s.lf

theorem round_inv {N : Nat} {s : S} (h : Inv N s) : RoundOk N s s.round := by
  have hs := spread_inv (s.room + 1) s h (Nat.lt_succ_self _)
  unfold S.round S.spread
  generalize S.spreadN (s.room + 1) s = r at hs
  match r, hs with
  | none, _ => trivial
  | some (s1, some n), hs =>
    obtain ⟨h1, h2, c, h3, h4, y, h5, h6⟩ := hs
    simp only
    by_cases g1 : s1.ms.length = 0
    · rw [if_pos g1]
      exact ⟨h1.proof _, h2.le⟩
    · rw [if_neg g1]
      unfold S.burn
      by_cases g2 : s1.lf = 0
      · rw [if_pos g2]; trivial
      · rw [if_neg g2]
        have hb := h1.fuel (s1.lf - 1)
        obtain ⟨d, level, he, e, ht⟩ := learn_inv hb (Nat.pos_of_ne_zero g1) h3 h4 h5 h6
        simp only [e]
        have hh := hb.heat ht.hlen
        have ht' : Taught N { s1 with lf := s1.lf - 1, he := he } d level he := ⟨ht.head, ht.lt, ht.ok, ht.hlen, fun v => Nat.le_succ _⟩
        cases hte : S.teach { s1 with lf := s1.lf - 1, he := he } d level with
        | none => trivial
        | some s2 =>
          obtain ⟨k1, k2⟩ := teach_inv hh ht' hte
          have := h2.le
          refine ⟨k1, ?_⟩
          replace k2 : s2.lf + 1 = s1.lf - 1 := k2
          omega
  | some (s1, none), hs =>
    obtain ⟨h1, h2, h3⟩ := hs
    simp only
    by_cases g1 : s1.pick = 0
    · rw [if_pos g1]; exact ⟨h1, h2.le⟩
    · rw [if_neg g1]
      obtain ⟨p1, p2, p3⟩ := pick_ok.resolve_left g1
      have hd := h1.decide h3
      have hz : s1.is (s1.pick : Int) = 0 := by unfold S.is; rw [if_neg (by omega)]; simpa using p3
      rw [h1.is_zero] at hz
      cases hse : S.set { s1 with ms := s1.ms ++ [s1.tr.length] } (-(s1.pick : Int)) (-1) with
      | none => trivial
      | some s2 =>
        refine ⟨hd.set hse (by omega) (by rw [Int.natAbs_neg, Int.natAbs_natCast]; rw [← h1.nva]; exact p2) hz.2 (by rw [Int.neg_neg]; exact hz.1) (.inr (.inl (by simp))), ?_⟩
        obtain ⟨a, rfl⟩ := S.set_some hse
        have := h2.le
        replace a : s1.lf ≠ 0 := a
        show s1.lf - 1 < s.lf
        omega

theorem runN_inv {N : Nat} : ∀ (k : Nat) (s : S), Inv N s → ∀ r, S.runN k s = some r → Inv N r.1
  | 0, _, _, r, e => by cases e
  | k + 1, s, h, r, e => by
    have hr := round_inv h
    unfold S.runN at e
    generalize s.round = x at hr e
    match x, hr, e with
    | none, _, e => cases e
    | some (s1, some b), hr, e => cases e; exact hr.1
    | some (s1, none), hr, e => exact runN_inv k s1 hr.1 r e

theorem new_inv (vars fuel : Nat) : Inv (vars + 1) (S.new vars fuel) := by
  have hz : ∀ v : Nat, (List.replicate (vars + 1) (0 : Int)).getD v 0 = 0 := fun v => by
    rw [List.getD_eq_getElem?_getD, List.getElem?_replicate]; split <;> rfl
  refine ⟨by simp [S.new], by simp [S.new], by simp [S.new], by simp [S.new], (fun c hc => by cases hc), (fun l => ⟨by simp [S.new], fun m => ⟨(fun h => by cases h), fun ⟨c, h, _⟩ => by simp [S.new] at h⟩⟩), ⟨(fun l hl => by cases hl), by simp [S.new]⟩, fun v => ?_, (fun l hl => by cases hl), (fun k m hk => by simp [S.new] at hk), (fun i l hl => by simp [S.new] at hl), Nat.le_refl _, fun m hm => by cases hm⟩
  show (List.replicate (vars + 1) (0 : Int)).getD v 0 = _
  rw [hz]; simp [S.new]

/-- A clean clause. -/
theorem clean_ok {N : Nat} {c row : List Int} (hc : ∀ l ∈ c, l ≠ 0 ∧ l.natAbs < N) (e : cleanS c = (row, true)) : Okc N row ∧ ∀ x, x ∈ row ↔ x ∈ c := by
  unfold cleanS at e
  split at e
  · cases e
  · rename_i hb
    cases e
    have hb' : bad c = false := by simpa using hb
    have hm : ∀ x, x ∈ canon c ↔ x ∈ c := fun x => by unfold canon; rw [mem_sortV, mem_dd]
    refine ⟨⟨fun l hl => hc l ((hm l).1 hl), ?_⟩, hm⟩
    have hs := (srt_canon hb')
    refine List.pairwise_map.2 (hs.imp fun {a b} h e => ?_)
    have : av a = av b := by unfold av; split <;> split <;> omega
    omega

/-- What begin leaves. -/
def BeginOk (N : Nat) (s : S) : Option (S × Option Bool) → Prop
  | none => True
  | some (s', _) => Inv N s' ∧ s'.ms = [] ∧ s'.lf ≤ s.lf

theorem begin_inv {N : Nat} : ∀ (F : List (List Int)) (s : S), (∀ c ∈ F, ∀ l ∈ c, l ≠ 0 ∧ l.natAbs < N) → Inv N s → s.ms = [] → BeginOk N s (S.begin F s)
  | [], s, _, h, hm => ⟨h, hm, Nat.le_refl _⟩
  | c :: F, s, hF, h, hm => by
    have hF' : ∀ c ∈ F, ∀ l ∈ c, l ≠ 0 ∧ l.natAbs < N := fun d hd => hF d (List.mem_cons_of_mem _ hd)
    unfold S.begin
    by_cases g : (cleanS c).2 = false
    · rw [if_pos g]; exact begin_inv F s hF' h hm
    · rw [if_neg g]
      obtain ⟨row, e⟩ : ∃ row, cleanS c = (row, true) := ⟨(cleanS c).1, Prod.ext rfl (by simpa using g)⟩
      have hok := (clean_ok (hF c (by simp)) e).1
      rw [e]
      match row, hok with
      | [], _ => exact ⟨h.proof _, hm, Nat.le_refl _⟩
      | [l], hok =>
        simp only
        by_cases g1 : s.is l = -1
        · rw [if_pos g1]; exact ⟨h.proof _, hm, Nat.le_refl _⟩
        · rw [if_neg g1]
          by_cases g2 : s.is l = 0
          · rw [if_pos g2]
            obtain ⟨z1, z2⟩ := h.is_zero.1 g2
            cases hse : s.set l (-1) with
            | none => trivial
            | some s1 =>
              have hl := hok.1 l (by simp)
              have hx := set_ext hse
              have := begin_inv F s1 hF' (h.set hse hl.1 hl.2 z1 z2 (.inl (by rw [hm]; rfl))) (hx.ms.trans hm)
              simp only
              generalize S.begin F s1 = r at this
              match r, this with
              | none, _ => trivial
              | some (s2, _), k => exact ⟨k.1, k.2.1, Nat.le_trans k.2.2 hx.le⟩
          · rw [if_neg g2]; exact begin_inv F s hF' h hm
      | a :: b :: r, hok => exact begin_inv F (s.add (a :: b :: r)) hF' (add_inv h ⟨by simp, hok⟩) hm

end Go.Sat

/- The solver: more fuel, less fuel. -/
namespace Go.Sat
open Go Go.Cl

/-- With so much more fuel: the same, with more left; where there was not enough, what is left is less than what is more. -/
def Up {α : Type} (m : Nat) (lf : α → Nat) (up : α → α) : Option α → Option α → Prop
  | some x, b => b = some (up x)
  | none, none => True
  | none, some y => lf y < m

theorem Up.no {α : Type} {m : Nat} {lf : α → Nat} {up : α → α} {b : Option α} (h : ∀ y, b = some y → lf y < m) : Up m lf up none b := by
  cases b with
  | none => trivial
  | some y => exact h y rfl
theorem Up.lt {α : Type} {m : Nat} {lf : α → Nat} {up : α → α} {b : Option α} (h : Up m lf up none b) {y : α} (e : b = some y) : lf y < m := by
  subst e; exact h

theorem visit_ext (s : S) (n : Nat) (l : Int) : (∀ s', s.visit n l = .moved s' → Ext s s') ∧ (∀ s', s.visit n l = .kept s' → Ext s s') ∧ (∀ s', s.visit n l = .bad s' → Ext s s') := by
  unfold S.visit
  generalize turn (s.cl.getD n []) l = d
  have hp : ∀ (s : S) d, Ext s (s.put n d) := fun s d => ⟨rfl, rfl, rfl, by simp [S.put], ⟨[], by simp [S.put]⟩, rfl, Nat.le_refl _, rfl⟩
  unfold S.visD
  by_cases g1 : s.is (d.getD 0 0) = 1
  · rw [if_pos g1]
    exact ⟨(fun s' e => by cases e), (fun s' e => by cases e; exact hp _ _), (fun s' e => by cases e)⟩
  rw [if_neg g1]
  cases s.find d 2 with
  | some k => exact ⟨(fun s' e => by cases e; exact ((hp _ _).trans (hp _ _)).trans (sub_ext _ _ _)), (fun s' e => by cases e), (fun s' e => by cases e)⟩
  | none =>
    simp only
    by_cases g2 : s.is (d.getD 0 0) = -1
    · rw [if_pos g2]
      exact ⟨(fun s' e => by cases e), (fun s' e => by cases e), (fun s' e => by cases e; exact hp _ _)⟩
    rw [if_neg g2]
    cases h1 : (s.put n d).set (d.getD 0 0) n with
    | none => exact ⟨(fun s' e => by cases e), (fun s' e => by cases e), (fun s' e => by cases e)⟩
    | some x => exact ⟨(fun s' e => by cases e), (fun s' e => by cases e; exact (hp _ _).trans (set_ext h1)), (fun s' e => by cases e)⟩

theorem pass_ext {l : Int} : ∀ (rest kept : List Nat) (s : S) (r : S × Option Nat), S.pass l kept rest s = some r → Ext s r.1
  | [], kept, s, r, e => by cases e; exact sub_ext _ _ _
  | n :: rest, kept, s, r, e => by
    have hv := visit_ext s n l
    unfold S.pass at e
    cases hx : s.visit n l with
    | moved s' => rw [hx] at e hv; exact (hv.1 _ rfl).trans (pass_ext rest kept s' r e)
    | kept s' => rw [hx] at e hv; exact (hv.2.1 _ rfl).trans (pass_ext rest _ s' r e)
    | bad s' => rw [hx] at e hv; cases e; exact (hv.2.2 _ rfl).trans (sub_ext _ _ _)
    | out => rw [hx] at e; cases e

theorem back_lf (s : S) (level : Nat) : (s.back level).lf = s.lf := by
  unfold S.back
  cases s.ms[level]? <;> rfl

theorem teach_lf {s s' : S} {c : List Int} {level : Nat} (h : s.teach c level = some s') : s'.lf < s.lf := by
  unfold S.teach at h
  simp only at h
  have hl : (({ s with pf := s.pf ++ [(cleanS c).1] } : S).back level).lf = s.lf := back_lf _ _
  split at h
  · obtain ⟨a, rfl⟩ := S.set_some h
    rw [hl] at a
    show (({ s with pf := s.pf ++ [(cleanS c).1] } : S).back level).lf - 1 < s.lf
    omega
  · obtain ⟨a, rfl⟩ := S.set_some h
    replace a : (({ s with pf := s.pf ++ [(cleanS c).1] } : S).back level).lf ≠ 0 := a
    show (({ s with pf := s.pf ++ [(cleanS c).1] } : S).back level).lf - 1 < s.lf
    omega

end Go.Sat

/- The solver is sound, and complete: visits, passes, what is looked at. -/
namespace Go.Sat
open Go Go.Cl

def tru (M : Nat → Bool) (l : Int) : Bool := if l < 0 then !M l.natAbs else M l.natAbs
theorem tru_neg {M : Nat → Bool} {l : Int} (h : l ≠ 0) : tru M (-l) = !tru M l := by
  unfold tru
  rw [Int.natAbs_neg]
  by_cases g : l < 0
  · rw [if_neg (by omega), if_pos g]; simp
  · rw [if_pos (by omega), if_neg g]
def Holds (M : Nat → Bool) (c : List Int) : Prop := ∃ l ∈ c, tru M l = true

theorem Holds.sub {M : Nat → Bool} {c d : List Int} (h : Holds M c) (hs : ∀ x ∈ c, x ∈ d) : Holds M d := by
  obtain ⟨l, h1, h2⟩ := h
  exact ⟨l, hs l h1, h2⟩

/-- In each model all clauses hold, and what is on no level. -/
def Snd (Q : (Nat → Bool) → Prop) (s : S) : Prop := ∀ M, Q M → (∀ c ∈ s.cl, Holds M c) ∧ ∀ l ∈ s.tr, s.lev l = 0 → tru M l = true

/-- All clauses of a formula are there, or held by what is on no level, or always. -/
def Cov (F : List (List Int)) (s : S) : Prop := ∀ c ∈ F, (∃ l ∈ c, -l ∈ c) ∨ (∃ l ∈ c, l ∈ s.tr ∧ s.lev l = 0) ∨ ∃ d ∈ s.cl, ∀ x ∈ d, x ∈ c

/-- Two watched literals of a clause. -/
def Pair (c : List Int) (a b : Int) : Prop := (c[0]? = some a ∧ c[1]? = some b) ∨ (c[0]? = some b ∧ c[1]? = some a)

/-- Where a watched literal is false, and was looked at, the other one holds, on no later level. -/
def Cmp (s : S) (ex : Nat → Int → Prop) : Prop := ∀ (m : Nat) (c : List Int), s.cl[m]? = some c → ∀ a b, Pair c a b → ∀ i : Nat, i < s.dn → s.tr[i]? = some (-a) → ¬ ex m a → b ∈ s.tr ∧ s.lev b ≤ s.lev a

/-- Clauses turned about, no others. -/
structure Trn (s s' : S) : Prop where
  fw : ∀ c ∈ s.cl, ∃ d ∈ s'.cl, ∀ x, x ∈ d ↔ x ∈ c
  bk : ∀ d ∈ s'.cl, ∃ c ∈ s.cl, ∀ x, x ∈ d ↔ x ∈ c

theorem Trn.refl (s : S) : Trn s s := ⟨fun c hc => ⟨c, hc, fun _ => Iff.rfl⟩, fun c hc => ⟨c, hc, fun _ => Iff.rfl⟩⟩
theorem Trn.trans {a b c : S} (h : Trn a b) (k : Trn b c) : Trn a c :=
  ⟨fun x hx => by
    obtain ⟨y, hy, e⟩ := h.fw x hx
    obtain ⟨z, hz, f⟩ := k.fw y hy
    exact ⟨z, hz, fun q => (f q).trans (e q)⟩, fun x hx => by
    obtain ⟨y, hy, e⟩ := k.bk x hx
    obtain ⟨z, hz, f⟩ := h.bk y hy
    exact ⟨z, hz, fun q => (e q).trans (f q)⟩⟩
theorem Trn.put {s : S} {n : Nat} {c d : List Int} (hc : s.cl[n]? = some c) (hd : ∀ x, x ∈ d ↔ x ∈ c) : Trn s (s.put n d) :=
  ⟨fun x hx => by
    obtain ⟨i, hi⟩ := List.getElem?_of_mem hx
    obtain ⟨y, hy, e⟩ := set_mem hc hd i x hi
    exact ⟨y, List.mem_of_getElem? hy, e⟩, fun x hx => by
    rcases List.mem_or_eq_of_mem_set hx with hx | rfl
    · exact ⟨x, hx, fun _ => Iff.rfl⟩
    · exact ⟨c, List.mem_of_getElem? hc, hd⟩⟩

/-- A change of what is told: literals more, each on the level that is gone on, those that are on no level hold in each model. -/
structure Tel (Q : (Nat → Bool) → Prop) (s s' : S) : Prop where
  ex : ∃ t, s'.tr = s.tr ++ t ∧ (∀ l ∈ t, s'.lev l = s.ms.length ∧ (s.ms.length = 0 → ∀ M, Q M → tru M l = true))
  lv : ∀ l, l ∈ s.tr ∨ -l ∈ s.tr → s'.lev l = s.lev l
  trn : Trn s s'

theorem Tel.refl (Q : (Nat → Bool) → Prop) (s : S) : Tel Q s s := ⟨⟨[], by simp, fun l hl => by cases hl⟩, fun _ _ => rfl, .refl s⟩
theorem Tel.mem {Q : (Nat → Bool) → Prop} {s s' : S} (h : Tel Q s s') {l : Int} (hl : l ∈ s.tr) : l ∈ s'.tr := by
  obtain ⟨t, e, _⟩ := h.ex
  rw [e]; exact List.mem_append_left _ hl
theorem Tel.trans {Q : (Nat → Bool) → Prop} {a b c : S} (h : Tel Q a b) (k : Tel Q b c) (hm : b.ms = a.ms) : Tel Q a c := by
  obtain ⟨t, e, ht⟩ := h.ex
  obtain ⟨u, f, hu⟩ := k.ex
  refine ⟨⟨t ++ u, by rw [f, e, List.append_assoc], fun l hl => ?_⟩, fun l hl => ?_, h.trn.trans k.trn⟩
  · rcases List.mem_append.1 hl with hl | hl
    · rw [k.lv l (.inl (by rw [e]; exact List.mem_append_right _ hl))]; exact ht l hl
    · rw [← hm]; exact hu l hl
  · rw [k.lv l (hl.imp h.mem h.mem)]; exact h.lv l hl

theorem Tel.snd {Q : (Nat → Bool) → Prop} {s s' : S} (h : Tel Q s s') (hs : Snd Q s) : Snd Q s' := fun M hM => by
  obtain ⟨g1, g2⟩ := hs M hM
  obtain ⟨t, e, ht⟩ := h.ex
  refine ⟨fun d hd => ?_, fun l hl h0 => ?_⟩
  · obtain ⟨c, hc, k⟩ := h.trn.bk d hd
    exact (g1 c hc).sub fun x hx => (k x).2 hx
  · rw [e] at hl
    rcases List.mem_append.1 hl with hl | hl
    · rw [h.lv l (.inl hl)] at h0; exact g2 l hl h0
    · have := ht l hl
      exact this.2 (by omega) M hM

theorem Tel.cov {Q : (Nat → Bool) → Prop} {F : List (List Int)} {s s' : S} (h : Tel Q s s') (hs : Cov F s) : Cov F s' := fun c hc => by
  rcases hs c hc with g | ⟨l, h1, h2, h3⟩ | ⟨d, h1, h2⟩
  · exact .inl g
  · exact .inr (.inl ⟨l, h1, h.mem h2, by rw [h.lv l (.inl h2)]; exact h3⟩)
  · obtain ⟨d', k1, k2⟩ := h.trn.fw d h1
    exact .inr (.inr ⟨d', k1, fun x hx => h2 x ((k2 x).1 hx)⟩)

theorem set_tel {Q : (Nat → Bool) → Prop} {s s' : S} {l r : Int} (e : s.set l r = some s') (hN : l.natAbs < s.lv.length) (h1 : l ∉ s.tr) (h2 : -l ∉ s.tr) (hr : s.ms.length = 0 → ∀ M, Q M → tru M l = true) : Tel Q s s' := by
  obtain ⟨_, rfl⟩ := S.set_some e
  refine ⟨⟨[l], rfl, fun x hx => ?_⟩, fun x hx => ?_, ⟨fun c hc => ⟨c, hc, fun _ => Iff.rfl⟩, fun c hc => ⟨c, hc, fun _ => Iff.rfl⟩⟩⟩
  · simp at hx; subst hx
    refine ⟨?_, hr⟩
    show (s.lv.set x.natAbs s.ms.length).getD x.natAbs 0 = _
    rw [getD_set, if_pos ⟨rfl, hN⟩]
  · show (s.lv.set l.natAbs s.ms.length).getD x.natAbs 0 = s.lev x
    have hne : l.natAbs ≠ x.natAbs := fun e => by
      have : x = l ∨ x = -l := by omega
      rcases this with rfl | rfl
      · exact hx.elim h1 h2
      · rw [Int.neg_neg] at hx
        exact hx.elim h2 h1
    rw [getD_set, if_neg fun q => hne q.1]; rfl

/-- What a visit does. -/
inductive VisC (s : S) (n : Nat) (d : List Int) : Vis → Prop
  | out : VisC s n d .out
  | held : d.getD 0 0 ∈ s.tr → VisC s n d (.kept (s.put n d))
  | moved (k : Nat) (x : Int) : 2 ≤ k → d[k]? = some x → -x ∉ s.tr → VisC s n d (.moved ((s.put n (swap d 1 k)).push x n))
  | bad : VisC s n d (.bad (s.put n d))
  | set (s' : S) : (s.put n d).set (d.getD 0 0) n = some s' → d.getD 0 0 ∉ s.tr → -(d.getD 0 0) ∉ s.tr → (∀ x ∈ d, x ≠ d.getD 0 0 → -x ∈ s.tr) → VisC s n d (.kept s')

theorem visit_cases {N : Nat} {s : S} {l : Int} {W : List Nat} {n : Nat} (h : Inv N (s.sub l W)) (hn : n ∈ W) (hl : -l ∈ s.tr) :
    ∃ c d, s.cl[n]? = some c ∧ d.Perm c ∧ d[0]? = some (d.getD 0 0) ∧ d[1]? = some l ∧ Okc N d ∧ (∀ x, Pair c x l ↔ x = d.getD 0 0) ∧ VisC s n d (s.visit n l) := by
  have hw := h.wat
  obtain ⟨c, hc, htwo⟩ := ((hw l).2 n).1 (by rw [sub_wt, if_pos rfl]; exact hn)
  replace hc : s.cl[n]? = some c := hc
  have hcok := h.cls c (List.mem_of_getElem? hc)
  have hcD : s.cl.getD n [] = c := getD_some hc
  generalize hd : turn c l = d
  have hper : d.Perm c := hd ▸ turn_perm hcok.1 l
  have hdl : 2 ≤ d.length := by rw [hper.length_eq]; exact hcok.1
  have hdok : Okc N d := hcok.2.perm hper
  have hd1 : d[1]? = some l := hd ▸ turn_one hcok.1 htwo
  have hdtwo : ∀ x, (d[0]? = some x ∨ d[1]? = some x) ↔ (c[0]? = some x ∨ c[1]? = some x) := fun x => hd ▸ turn_two hcok.1 l x
  have hd0 : d[0]? = some (d.getD 0 0) := some_getD (by omega)
  have hl0 : l ≠ d.getD 0 0 := fun e => by have := nodup_at hdok.nodup hd1 (e ▸ hd0); omega
  have hval : ∀ x, s.is x = -1 ↔ -x ∈ s.tr := fun x => h.is_neg (l := x)
  have hone : ∀ x, s.is x = 1 ↔ x ∈ s.tr := fun x => h.is_one (l := x)
  refine ⟨c, d, hc, hper, hd0, hd1, hdok, fun x => ?_, ?_⟩
  · unfold Pair
    constructor
    · intro hp
      have hx : d[0]? = some x ∨ d[1]? = some x := (hdtwo x).2 (hp.imp And.left And.right)
      rcases hx with hx | hx
      · exact Option.some.inj (hx.symm.trans hd0)
      · have e : x = l := Option.some.inj (hx.symm.trans hd1)
        subst e
        rcases hp with ⟨a, b⟩ | ⟨a, b⟩ <;> (have := nodup_at hcok.2.nodup a b; omega)
    · rintro rfl
      have e0 := (hdtwo (d.getD 0 0)).1 (.inl hd0)
      rcases e0 with e0 | e0 <;> rcases htwo with e1 | e1
      · exact absurd (Option.some.inj (e1.symm.trans e0)) hl0
      · exact .inl ⟨e0, e1⟩
      · exact .inr ⟨e1, e0⟩
      · exact absurd (Option.some.inj (e1.symm.trans e0)) hl0
  unfold S.visit
  rw [hcD, hd]
  unfold S.visD
  by_cases g1 : s.is (d.getD 0 0) = 1
  · rw [if_pos g1]; exact .held ((hone _).1 g1)
  rw [if_neg g1]
  cases hf : s.find d 2 with
  | some k =>
    obtain ⟨k1, k2, k3, _⟩ := find_some hf
    have e : (s.put n d).put n (swap d 1 k) = s.put n (swap d 1 k) := by unfold S.put; simp
    show VisC s n d (.moved (((s.put n d).put n (swap d 1 k)).push (d.getD k 0) n))
    rw [e]
    exact .moved k _ k1 (some_getD k2) fun hx => k3 ((hval _).2 hx)
  | none =>
    simp only
    by_cases g2 : s.is (d.getD 0 0) = -1
    · rw [if_pos g2]; exact .bad
    rw [if_neg g2]
    cases h1 : (s.put n d).set (d.getD 0 0) n with
    | none => exact .out
    | some s' =>
      refine .set s' h1 (fun hx => g1 ((hone _).2 hx)) (fun hx => g2 ((hval _).2 hx)) fun x hx hx0 => ?_
      obtain ⟨j, hj⟩ := List.getElem?_of_mem hx
      rcases Nat.lt_or_ge j 2 with h2 | h2
      · rcases Nat.lt_or_ge j 1 with h3 | h3
        · have : j = 0 := by omega
          subst this
          rw [hd0] at hj; cases hj
          exact absurd rfl hx0
        · have : j = 1 := by omega
          subst this
          rw [hd1] at hj; cases hj
          exact hl
      · exact (hval x).1 (find_none hf j x h2 hj)

theorem put_tel {Q : (Nat → Bool) → Prop} {s : S} {n : Nat} {c d : List Int} (hc : s.cl[n]? = some c) (hd : ∀ x, x ∈ d ↔ x ∈ c) : Tel Q s (s.put n d) :=
  ⟨⟨[], by simp [S.put], fun l hl => by cases hl⟩, fun _ _ => rfl, .put hc hd⟩

/-- Where the only level is the first one, what a clause tells holds in each model. -/
theorem told {Q : (Nat → Bool) → Prop} {N : Nat} {s : S} {l' : Int} {W : List Nat} (hi : Inv N (s.sub l' W)) (h : Snd Q s) (h0 : s.ms.length = 0) {c : List Int} (hc : c ∈ s.cl) {l : Int} (hf : ∀ x ∈ c, x ≠ l → -x ∈ s.tr) : ∀ M, Q M → tru M l = true := fun M hM => by
  obtain ⟨g1, g2⟩ := h M hM
  obtain ⟨x, hx, ht⟩ := g1 c hc
  by_cases e : x = l
  · subst e; exact ht
  · have hx' := hf x hx e
    have hl : s.lev (-x) ≤ s.ms.length := hi.lev _ hx'
    have := g2 _ hx' (by omega)
    have hx0 := (hi.tro.1 _ hx').1
    rw [tru_neg (by omega), ht] at this
    cases this

/-- What the visits of a literal's clauses that are to come are not asked. -/
def exl (l : Int) (rest : List Nat) : Nat → Int → Prop := fun m a => a = l ∧ m ∈ rest

theorem Cmp.tel {Q : (Nat → Bool) → Prop} {N : Nat} {s s' : S} {l : Int} {W : List Nat} (hi : Inv N (s.sub l W)) {ex : Nat → Int → Prop} (h : Cmp s ex) (ht : Tel Q s s') (hd : s'.dn = s.dn) {m : Nat} {c : List Int} (hc : s.cl[m]? = some c) {a b : Int} (hp : Pair c a b) {i : Nat} (hlt : i < s'.dn) (hx : s'.tr[i]? = some (-a)) (hex : ¬ ex m a) : b ∈ s'.tr ∧ s'.lev b ≤ s'.lev a := by
  obtain ⟨t, e, _⟩ := ht.ex
  have hdl : s.dn ≤ s.tr.length := hi.dnl
  rw [e, List.getElem?_append_left (by omega)] at hx
  obtain ⟨g1, g2⟩ := h m c hc a b hp i (by omega) hx hex
  exact ⟨ht.mem g1, by rw [ht.lv b (.inl g1), ht.lv a (.inr (List.mem_of_getElem? hx))]; exact g2⟩

/-- What a visit leaves, of models. -/
def VisT (Q : (Nat → Bool) → Prop) (s : S) (l : Int) (n : Nat) (rest : List Nat) : Vis → Prop
  | .out => True
  | .kept s' => Tel Q s s' ∧ Cmp s' (exl l rest)
  | .moved s' => Tel Q s s' ∧ Cmp s' (exl l rest)
  | .bad s' => Tel Q s s' ∧ Cmp s' (exl l (n :: rest))

theorem visit_tel {Q : (Nat → Bool) → Prop} {N : Nat} {s : S} {l : Int} {kept rest : List Nat} {n : Nat} (h : Inv N (s.sub l (kept ++ n :: rest))) (hl : -l ∈ s.tr) (hlev : s.lev l = s.ms.length) (hs : Snd Q s) (hc : Cmp s (exl l (n :: rest))) :
    VisT Q s l n rest (s.visit n l) := by
  obtain ⟨c, d, hcn, hper, hd0, hd1, hdok, hpair, hv⟩ := visit_cases (n := n) h (by simp) hl
  have hmem : ∀ x, x ∈ d ↔ x ∈ c := fun x => hper.mem_iff
  have hnl : n < s.cl.length := (List.getElem?_eq_some_iff.1 hcn).1
  have hput := put_tel (Q := Q) hcn hmem
  have hlno : l ∉ s.tr := fun hx => h.tro.neg hx hl
  have hl0 : d.getD 0 0 ≠ l := fun e => by have := nodup_at hdok.nodup hd1 (e ▸ hd0); omega
  have hdn : s.dn ≤ s.tr.length := h.dnl
  -- the other watched literal, false and looked at: not so
  have hno : ∀ i : Nat, i < s.dn → s.tr[i]? = some (-(d.getD 0 0)) → False := fun i hi hx => by
    have := hc n c hcn (d.getD 0 0) l ((hpair _).2 rfl) i hi hx fun e => hl0 e.1
    exact hlno this.1
  have hpd : ∀ {a b : Int}, Pair d a b → (a = d.getD 0 0 ∧ b = l) ∨ (a = l ∧ b = d.getD 0 0) := fun {a b} hp => by
    rcases hp with ⟨e1, e2⟩ | ⟨e1, e2⟩
    · exact .inl ⟨Option.some.inj (e1.symm.trans hd0), Option.some.inj (e2.symm.trans hd1)⟩
    · exact .inr ⟨Option.some.inj (e2.symm.trans hd1), Option.some.inj (e1.symm.trans hd0)⟩
  have hcl : ∀ {d' : List Int} {m : Nat} {x : List Int}, (s.cl.set n d')[m]? = some x → (m = n ∧ x = d') ∨ (m ≠ n ∧ s.cl[m]? = some x) := fun {d' m x} hx => by
    rw [List.getElem?_set] at hx
    by_cases e : n = m
    · subst e
      rw [if_pos rfl, if_pos hnl] at hx; cases hx
      exact .inl ⟨rfl, rfl⟩
    · rw [if_neg e] at hx
      exact .inr ⟨Ne.symm e, hx⟩
  have hexn : ∀ {m : Nat} {a : Int}, m ≠ n → ¬ exl l rest m a → ¬ exl l (n :: rest) m a := fun {m a} hm hx e => hx ⟨e.1, (List.mem_cons.1 e.2).resolve_left hm⟩
  generalize s.visit n l = v at hv
  cases hv with
  | out => trivial
  | held hin =>
    refine ⟨hput, fun m x hx a b hp i hi ha hex => ?_⟩
    rcases hcl hx with ⟨rfl, rfl⟩ | ⟨hm, hx⟩
    · rcases hpd hp with ⟨rfl, rfl⟩ | ⟨rfl, rfl⟩
      · exact absurd (List.mem_of_getElem? ha) (h.tro.neg hin)
      · refine ⟨hin, ?_⟩
        show s.lev _ ≤ s.lev _
        rw [hlev]; exact h.lev _ hin
    · exact hc.tel h hput rfl hx hp hi ha (hexn hm hex)
  | moved k x hk hdk hx =>
    have hkl := (List.getElem?_eq_some_iff.1 hdk).1
    have hs0 : (swap d 1 k)[0]? = some (d.getD 0 0) := by rw [swap_getD d (by omega) hkl, if_neg (by omega), if_neg (by omega)]; exact hd0
    have hs1 : (swap d 1 k)[1]? = some x := by rw [swap_getD d (by omega) hkl, if_neg (by omega), if_pos rfl]; exact hdk
    have hput1 : Tel Q s (s.put n (swap d 1 k)) := put_tel (Q := Q) (s := s) hcn fun y => (swap_perm d (by omega) hkl).mem_iff.trans (hmem y)
    have hput2 : Tel Q s ((s.put n (swap d 1 k)).push x n) := ⟨hput1.ex, hput1.lv, ⟨hput1.trn.fw, hput1.trn.bk⟩⟩
    refine ⟨hput2, fun m y hy a b hp i hi ha hex => ?_⟩
    rcases hcl hy with ⟨rfl, rfl⟩ | ⟨hm, hy⟩
    · rcases hp with ⟨e1, e2⟩ | ⟨e1, e2⟩
      · have : a = d.getD 0 0 := Option.some.inj (e1.symm.trans hs0)
        subst this
        exact (hno i hi ha).elim
      · have : a = x := Option.some.inj (e2.symm.trans hs1)
        subst this
        exact absurd (List.mem_of_getElem? ha) hx
    · exact hc.tel h hput2 rfl hy hp hi ha (hexn hm hex)
  | bad =>
    refine ⟨hput, fun m x hx a b hp i hi ha hex => ?_⟩
    rcases hcl hx with ⟨rfl, rfl⟩ | ⟨hm, hx⟩
    · rcases hpd hp with ⟨rfl, rfl⟩ | ⟨rfl, rfl⟩
      · exact (hno i hi ha).elim
      · exact absurd ⟨rfl, by simp⟩ hex
    · exact hc.tel h hput rfl hx hp hi ha hex
  | set s' e h1 h2 h3 =>
    have hlN : (d.getD 0 0).natAbs < (s.put n d).lv.length := by
      rw [show (s.put n d).lv.length = N from h.nlv]; exact (hdok.1 _ (List.mem_of_getElem? hd0)).2
    have htold : (s.put n d).ms.length = 0 → ∀ M, Q M → tru M (d.getD 0 0) = true := fun h0 => told h hs h0 (List.mem_of_getElem? hcn) fun x hx hx0 => h3 x ((hmem x).2 hx) hx0
    have hset := set_tel (Q := Q) e hlN h1 h2 htold
    have hall := hput.trans hset rfl
    obtain ⟨_, hs'⟩ := S.set_some e
    have hdn' : s'.dn = s.dn := by rw [hs']; rfl
    have htr' : s'.tr = s.tr ++ [d.getD 0 0] := by rw [hs']; rfl
    have hcl' : s'.cl = s.cl.set n d := by rw [hs']; rfl
    have hnew : s'.lev (d.getD 0 0) = s.ms.length := by
      obtain ⟨t, et, htt⟩ := hset.ex
      have e2 : (s.put n d).tr ++ t = s.tr ++ [d.getD 0 0] := et.symm.trans htr'
      have e3 : t = [d.getD 0 0] := List.append_cancel_left e2
      exact (htt _ (by rw [e3]; simp)).1
    have hmen : d.getD 0 0 ∈ s'.tr := by rw [htr']; simp
    refine ⟨hall, fun m x hx a b hp i hi ha hex => ?_⟩
    rw [hcl'] at hx
    rcases hcl hx with ⟨rfl, rfl⟩ | ⟨hm, hx⟩
    · rcases hpd hp with ⟨rfl, rfl⟩ | ⟨rfl, rfl⟩
      · rw [htr', List.getElem?_append_left (by omega)] at ha
        exact absurd (List.mem_of_getElem? ha) h2
      · refine ⟨hmen, ?_⟩
        rw [hnew, hall.lv _ (.inr hl), hlev]
        exact Nat.le_refl _
    · exact hc.tel h hall hdn' hx hp hi ha (hexn hm hex)

end Go.Sat

/- The solver is sound, and complete: passes, what is looked at, levels undone, what is learned. -/
namespace Go.Sat
open Go Go.Cl

theorem Cmp.mono {s : S} {ex ex' : Nat → Int → Prop} (h : Cmp s ex) (k : ∀ m a, ex m a → ex' m a) : Cmp s ex' := fun m c hc a b hp i hi hx he => h m c hc a b hp i hi hx fun e => he (k m a e)

abbrev noex : Nat → Int → Prop := fun _ _ => False

theorem Tel.sub {Q : (Nat → Bool) → Prop} {s s' : S} (h : Tel Q s s') (l : Int) (x : List Nat) : Tel Q s (s'.sub l x) := ⟨h.ex, h.lv, ⟨h.trn.fw, h.trn.bk⟩⟩

def PassT (Q : (Nat → Bool) → Prop) (s : S) (l : Int) : Option (S × Option Nat) → Prop
  | none => True
  | some (s', none) => Tel Q s s' ∧ Cmp s' noex
  | some (s', some _) => Tel Q s s' ∧ Cmp s' fun _ a => a = l

theorem PassT.of {Q : (Nat → Bool) → Prop} {s s' : S} {l : Int} (h : Tel Q s s') (hm : s'.ms = s.ms) : ∀ {r : Option (S × Option Nat)}, PassT Q s' l r → PassT Q s l r
  | none, _ => trivial
  | some (_, none), k => ⟨h.trans k.1 hm, k.2⟩
  | some (_, some _), k => ⟨h.trans k.1 hm, k.2⟩

theorem pass_tel {Q : (Nat → Bool) → Prop} {N : Nat} {l : Int} : ∀ (rest kept : List Nat) (s : S), Inv N (s.sub l (kept ++ rest)) → -l ∈ s.tr → s.lev l = s.ms.length → Snd Q s → Cmp s (exl l rest) → PassT Q s l (S.pass l kept rest s)
  | [], kept, s, h, hl, _, _, hc => ⟨(Tel.refl Q s).sub _ _, hc.mono fun m a e => by cases e.2⟩
  | n :: rest, kept, s, h, hl, hlev, hs, hc => by
    have hv := visit_inv h hl
    have ht := visit_tel h hl hlev hs hc
    unfold S.pass
    generalize s.visit n l = v at hv ht
    cases v with
    | moved s' => exact .of ht.1 hv.2.ms (pass_tel rest kept s' hv.1 (ht.1.mem hl) (by rw [ht.1.lv l (.inr hl), hv.2.ms]; exact hlev) (ht.1.snd hs) ht.2)
    | kept s' => exact .of ht.1 hv.2.ms (pass_tel rest _ s' hv.1 (ht.1.mem hl) (by rw [ht.1.lv l (.inr hl), hv.2.ms]; exact hlev) (ht.1.snd hs) ht.2)
    | bad s' => exact ⟨ht.1.sub _ _, ht.2.mono fun m a e => e.1⟩
    | out => trivial

def SpreadT (Q : (Nat → Bool) → Prop) (s : S) : Option (S × Option Nat) → Prop
  | none => True
  | some (s', none) => Tel Q s s' ∧ Cmp s' noex
  | some (s', some _) => Tel Q s s' ∧ Cmp s' fun _ a => s'.ms.length ≤ s'.lev a

theorem SpreadT.of {Q : (Nat → Bool) → Prop} {s s' : S} (h : Tel Q s s') (hm : s'.ms = s.ms) : ∀ {r : Option (S × Option Nat)}, SpreadT Q s' r → SpreadT Q s r
  | none, _ => trivial
  | some (_, none), k => ⟨h.trans k.1 hm, k.2⟩
  | some (_, some _), k => ⟨h.trans k.1 hm, k.2⟩

theorem spread_tel {Q : (Nat → Bool) → Prop} {N : Nat} : ∀ (k : Nat) (s : S), Inv N s → s.room < k → Snd Q s → Cmp s noex → SpreadT Q s (S.spreadN k s)
  | 0, s, _, h, _, _ => by omega
  | k + 1, s, h, hk, hs, hc => by
    unfold S.spreadN
    split
    · exact ⟨.refl Q s, hc⟩
    · rename_i l e
      have hlt := (List.getElem?_eq_some_iff.1 e).1
      have h1 := h.look hlt
      have hlev : s.lev l = s.ms.length := h.lev_top e h.dnm
      have hp := pass_inv (N := N) (l := -l) (s.wt (-l)) [] { s with dn := s.dn + 1 } (by rw [List.nil_append]; exact (sub_self { s with dn := s.dn + 1 } (-l)).symm ▸ h1) (by rw [Int.neg_neg]; exact List.mem_of_getElem? e)
      have hc1 : Cmp { s with dn := s.dn + 1 } (exl (-l) (s.wt (-l))) := fun m c hm a b hab i hi hx hex => by
        replace hi : i < s.dn + 1 := hi
        rcases Nat.lt_or_ge i s.dn with h2 | h2
        · exact hc m c hm a b hab i h2 hx id
        · have : i = s.dn := by omega
          subst this
          have ea : -a = l := Option.some.inj (hx.symm.trans e)
          have ea' : a = -l := by omega
          refine absurd ⟨ea', ?_⟩ hex
          rw [← ea', (h.wat a).2 m]
          exact ⟨c, hm, hab.elim (fun q => .inl q.1) fun q => .inr q.2⟩
      have ht := pass_tel (Q := Q) (N := N) (l := -l) (s.wt (-l)) [] { s with dn := s.dn + 1 } (by rw [List.nil_append]; exact (sub_self { s with dn := s.dn + 1 } (-l)).symm ▸ h1) (by rw [Int.neg_neg]; exact List.mem_of_getElem? e) (by rw [lev_neg]; exact hlev) hs hc1
      generalize S.pass (-l) [] (s.wt (-l)) { s with dn := s.dn + 1 } = r at hp ht
      match r, hp, ht with
      | none, _, _ => trivial
      | some (s', some n), hp, ht =>
        have ht1 : Tel Q s s' := ⟨ht.1.ex, ht.1.lv, ⟨ht.1.trn.fw, ht.1.trn.bk⟩⟩
        refine ⟨ht1, ht.2.mono fun m a ea => ?_⟩
        subst ea
        rw [lev_neg, ht1.lv l (.inl (List.mem_of_getElem? e)), hlev, hp.2.1.ms]
        exact Nat.le_refl _
      | some (s', none), hp, ht =>
        obtain ⟨a1, a2⟩ := hp
        have ht1 : Tel Q s s' := ⟨ht.1.ex, ht.1.lv, ⟨ht.1.trn.fw, ht.1.trn.bk⟩⟩
        refine SpreadT.of ht1 a2.ms (spread_tel k s' a1 ?_ (ht1.snd hs) ht.2)
        have b1 := a2.lf
        have b2 := a2.dn
        have b3 := a2.le
        obtain ⟨t, ht⟩ := a2.tr
        have b4 := congrArg List.length ht
        simp only [List.length_append] at b1 b2 b3 b4
        unfold S.room at hk ⊢
        omega

theorem back_snd {Q : (Nat → Bool) → Prop} {s : S} (h : Snd Q s) {level m : Nat} (hm : s.ms[level]? = some m) : Snd Q (s.back level) := fun M hM => by
  rw [S.back_of hm]
  exact ⟨(h M hM).1, fun l hl h0 => (h M hM).2 l (List.mem_of_mem_take hl) h0⟩

theorem back_cov {F : List (List Int)} {N : Nat} {s : S} (hi : Inv N s) (h : Cov F s) {level m : Nat} (hm : s.ms[level]? = some m) : Cov F (s.back level) := fun c hc => by
  rw [S.back_of hm]
  rcases h c hc with g | ⟨l, h1, h2, h3⟩ | g
  · exact .inl g
  · exact .inr (.inl ⟨l, h1, (hi.mem_take hm h2).2 (by omega), h3⟩)
  · exact .inr (.inr g)

theorem back_cmp {N : Nat} {s : S} (hi : Inv N s) (h : Cmp s fun _ a => s.ms.length ≤ s.lev a) {level m : Nat} (hm : s.ms[level]? = some m) : Cmp (s.back level) noex := fun n c hc a b hp i hlt hx _ => by
  rw [S.back_of hm] at hc hlt hx ⊢
  have hlv := (List.getElem?_eq_some_iff.1 hm).1
  replace hx : (s.tr.take m)[i]? = some (-a) := hx
  replace hlt : i < m := hlt
  rw [List.getElem?_take, if_pos hlt] at hx
  have hxm := List.mem_of_getElem? hx
  have hle : s.lev (-a) ≤ level := (hi.mem_take hm hxm).1 (List.mem_iff_getElem?.2 ⟨i, by rw [List.getElem?_take, if_pos hlt]; exact hx⟩)
  rw [lev_neg] at hle
  have hd := hi.dnm m (List.mem_of_getElem? hm)
  obtain ⟨g1, g2⟩ := h n c hc a b hp i (by omega) hx (by omega)
  exact ⟨(hi.mem_take hm g1).2 (by omega), g2⟩

/-- All that was met stands on the level that is gone on, or is told. -/
def Met (s : S) (st : L) : Prop := ∀ y, -y ∈ s.tr → y.natAbs ∈ st.seen → s.lev y = s.ms.length ∨ y ∈ st.out

theorem mark1_met {N : Nat} {s : S} (h : Inv N s) {st : L} (hs : Met s st) {x : Int} (hx : -x ∈ s.tr) : Met s (L.mark1 s.lv s.ms.length st x) ∧ (∀ y ∈ st.out, y ∈ (L.mark1 s.lv s.ms.length st x).out) ∧ (∀ v ∈ st.seen, v ∈ (L.mark1 s.lv s.ms.length st x).seen) ∧ (0 < s.lev x → x.natAbs ∈ (L.mark1 s.lv s.ms.length st x).seen) := by
  have huni : ∀ y, -y ∈ s.tr → y.natAbs = x.natAbs → y = x := fun y hy e => by
    have := nodup_inj h.tro.2 hy hx (by simpa using e)
    omega
  unfold L.mark1
  by_cases g1 : x.natAbs ∈ st.seen ∨ s.lv.getD x.natAbs 0 = 0
  · rw [if_pos g1]
    exact ⟨hs, fun _ => id, fun _ => id, fun h0 => g1.elim id fun e => by replace e : s.lev x = 0 := e; omega⟩
  rw [if_neg g1]
  by_cases g2 : s.lv.getD x.natAbs 0 = s.ms.length
  · rw [if_pos g2]
    refine ⟨fun y hy hm => ?_, fun _ => id, fun v hv => List.mem_append_left _ hv, fun _ => by simp⟩
    rcases List.mem_append.1 hm with hm | hm
    · exact hs y hy hm
    · simp at hm
      rw [huni y hy hm]; exact .inl g2
  · rw [if_neg g2]
    refine ⟨fun y hy hm => ?_, fun y hy => List.mem_append_left _ hy, fun v hv => List.mem_append_left _ hv, fun _ => by simp⟩
    rcases List.mem_append.1 hm with hm | hm
    · exact (hs y hy hm).imp id fun q => List.mem_append_left _ q
    · simp at hm
      rw [huni y hy hm]; exact .inr (by simp)

theorem mark_met {N : Nat} {s : S} (h : Inv N s) : ∀ {c : List Int} {st : L}, Met s st → (∀ x ∈ c, -x ∈ s.tr) →
    Met s (L.mark s.lv s.ms.length st c) ∧ (∀ y ∈ st.out, y ∈ (L.mark s.lv s.ms.length st c).out) ∧ (∀ v ∈ st.seen, v ∈ (L.mark s.lv s.ms.length st c).seen) ∧ ∀ x ∈ c, 0 < s.lev x → x.natAbs ∈ (L.mark s.lv s.ms.length st c).seen
  | [], st, hs, _ => ⟨hs, fun _ => id, fun _ => id, fun x hx => by cases hx⟩
  | x :: c, st, hs, hc => by
    obtain ⟨g1, g2, g3, g4⟩ := mark1_met h hs (hc x (by simp))
    obtain ⟨k1, k2, k3, k4⟩ := mark_met h g1 fun y hy => hc y (List.mem_cons_of_mem _ hy)
    refine ⟨k1, fun v hv => k2 v (g2 v hv), fun v hv => k3 v (g3 v hv), fun y hy h0 => ?_⟩
    rcases List.mem_cons.1 hy with rfl | hy
    · exact k3 _ (g4 h0)
    · exact k4 y hy h0

/-- Of what was met one holds. -/
def One (s : S) (M : Nat → Bool) (p : Nat) (st : L) : Prop := ∃ x, tru M x = true ∧ (x ∈ st.out ∨ (-x ∈ s.tr.take p ∧ x.natAbs ∈ st.seen ∧ s.lev x = s.ms.length))

/-- A literal that holds is not false on no level. -/
theorem Snd.lev {Q : (Nat → Bool) → Prop} {N : Nat} {s : S} (hi : Inv N s) (h : Snd Q s) {M : Nat → Bool} (hM : Q M) {x : Int} (hx : -x ∈ s.tr) (ht : tru M x = true) : 0 < s.lev x := by
  rcases Nat.eq_zero_or_pos (s.lev x) with h0 | h0
  · have := (h M hM).2 _ hx (by rw [lev_neg]; exact h0)
    have hx0 := (hi.tro.1 _ hx).1
    rw [tru_neg (by omega), ht] at this
    cases this
  · exact h0

theorem walk_lev {N : Nat} {s : S} (h : Inv N s) {p : Nat} {st : L} (hs : LInv N s (p + 1) st) (ho : 1 ≤ st.op) {l : Int} (hl : s.tr[p]? = some l) : (l.natAbs ∈ st.seen → s.lev l = s.ms.length) ∧ st.op = (s.tr.take p).countP (cnt s st.seen) + [l].countP (cnt s st.seen) := by
  have htake : s.tr.take (p + 1) = s.tr.take p ++ [l] := by rw [List.take_add_one, hl]; rfl
  have hopn := hs.opn
  rw [htake, List.countP_append] at hopn
  refine ⟨fun g1 => ?_, hopn⟩
  have hle := h.lev l (List.mem_of_getElem? hl)
  by_cases e : s.lev l = s.ms.length
  · exact e
  exfalso
  have hz : [l].countP (cnt s st.seen) = 0 := by simp [cnt, e]
  rw [hz] at hopn
  obtain ⟨y, hy, hyc⟩ := List.countP_pos_iff.1 (show 0 < (s.tr.take p).countP (cnt s st.seen) by omega)
  obtain ⟨i, hi⟩ := List.getElem?_of_mem hy
  rw [List.getElem?_take] at hi
  split at hi
  · have := h.lev_mono hi hl (by omega)
    simp [cnt] at hyc
    omega
  · cases hi

theorem walk_next {N : Nat} {s : S} (h : Inv N s) (hD : 0 < s.ms.length) {p : Nat} {st : L} (hs : LInv N s (p + 1) st) (ho : 1 ≤ st.op) {l : Int} (hl : s.tr[p]? = some l) (g1 : l.natAbs ∈ st.seen) (g2 : st.op ≠ 1) :
    ∃ (r : Nat) (c : List Int), s.re.getD l.natAbs 0 = r ∧ s.cl[r]? = some c ∧ s.reason l = c.filter (fun x => x != l) ∧ l ∈ c ∧ (∀ x, x ∈ s.reason l ↔ x ∈ c ∧ x ≠ l) ∧ (∀ x ∈ s.reason l, ∃ j, j < p ∧ s.tr[j]? = some (-x)) ∧ LInv N s p { st with op := st.op - 1 } ∧ LInv N s p (L.mark s.lv s.ms.length { st with op := st.op - 1 } (s.reason l)) ∧ 1 ≤ (L.mark s.lv s.ms.length { st with op := st.op - 1 } (s.reason l)).op := by
  obtain ⟨k1, hopn⟩ := walk_lev h hs ho hl
  have hlev := k1 g1
  have hp := hs.ple
  have h1 : [l].countP (cnt s st.seen) = 1 := by simp [cnt, g1, hlev]
  rw [h1] at hopn
  have hrea : Rea s p l := by
    refine h.rea p l hl (by omega) fun e => ?_
    obtain ⟨y, hy, hyc⟩ := List.countP_pos_iff.1 (show 0 < (s.tr.take p).countP (cnt s st.seen) by omega)
    obtain ⟨i, hi⟩ := List.getElem?_of_mem hy
    rw [List.getElem?_take] at hi
    split at hi
    · simp [cnt] at hyc
      have := ((h.mks _ _ e).2 i y hi).2 (by omega)
      omega
    · cases hi
  obtain ⟨r, c, r1, r2, r3, r4⟩ := hrea
  have hreason : s.reason l = c.filter fun x => x != l := by
    unfold S.reason; rw [r1, Int.toNat_natCast, getD_some r2]
  have hs' : LInv N s p { st with op := st.op - 1 } := ⟨by omega, hs.hlen, hs.heat, by show st.op - 1 = (s.tr.take p).countP (cnt s st.seen); omega, hs.sn, hs.out, hs.outn, hs.lvl⟩
  have hf : ∀ x ∈ s.reason l, ∃ j, j < p ∧ s.tr[j]? = some (-x) := fun x hx => by
    rw [hreason, List.mem_filter] at hx
    exact r4 x hx.1 (by simpa using hx.2)
  have hm := mark_inv h hs' (c := s.reason l) hf
  refine ⟨r, c, r1, r2, hreason, r3, fun x => by rw [hreason, List.mem_filter]; simp, hf, hs', hm.1, ?_⟩
  rw [hm.1.opn]
  obtain ⟨y, hy, hyc⟩ := List.countP_pos_iff.1 (show 0 < (s.tr.take p).countP (cnt s st.seen) by omega)
  refine List.countP_pos_iff.2 ⟨y, hy, ?_⟩
  simp only [cnt, Bool.and_eq_true, decide_eq_true_eq] at hyc ⊢
  exact ⟨hm.2.1 _ hyc.1, hyc.2⟩

theorem mem_take_at {s : S} {p i : Nat} {x : Int} (hi : i < p) (hx : s.tr[i]? = some x) : x ∈ s.tr.take p :=
  List.mem_iff_getElem?.2 ⟨i, by rw [List.getElem?_take, if_pos hi]; exact hx⟩

/-- What is marked of a clause that holds. -/
theorem mark_one {Q : (Nat → Bool) → Prop} {N : Nat} {s : S} (h : Inv N s) (hs : Snd Q s) {M : Nat → Bool} (hM : Q M) {p : Nat} {c : List Int} {st : L} (hm : Met s st) (hf : ∀ x ∈ c, ∃ j, j < p ∧ s.tr[j]? = some (-x)) {x : Int} (hx : x ∈ c) (ht : tru M x = true) : One s M p (L.mark s.lv s.ms.length st c) := by
  have hf' : ∀ x ∈ c, -x ∈ s.tr := fun x hx => by obtain ⟨j, _, hj⟩ := hf x hx; exact List.mem_of_getElem? hj
  obtain ⟨k1, k2, k3, k4⟩ := mark_met h hm hf'
  obtain ⟨j, hj, hj'⟩ := hf x hx
  have hseen := k4 x hx (hs.lev h hM (hf' x hx) ht)
  rcases k1 x (hf' x hx) hseen with e | e
  · exact ⟨x, ht, .inr ⟨mem_take_at hj hj', hseen, e⟩⟩
  · exact ⟨x, ht, .inl e⟩

theorem walk_snd {Q : (Nat → Bool) → Prop} {N : Nat} {s : S} (h : Inv N s) (hs : Snd Q s) (hD : 0 < s.ms.length) {M : Nat → Bool} (hM : Q M) : ∀ (p : Nat) (st : L) (l : Int) (st' : L), LInv N s p st → 1 ≤ st.op → Met s st → One s M p st → s.walk (s.tr.take p).reverse st = some (l, st') → Holds M (-l :: st'.out)
  | 0, st, l, st', _, _, _, _, e => by simp [S.walk] at e
  | p + 1, st, l', st', hl, hop, hm, ho, e => by
    have hp := hl.ple
    obtain ⟨l, hlp⟩ : ∃ l, s.tr[p]? = some l := ⟨_, List.getElem?_eq_getElem (by omega)⟩
    have htake : s.tr.take (p + 1) = s.tr.take p ++ [l] := by rw [List.take_add_one, hlp]; rfl
    obtain ⟨k1, hopn⟩ := walk_lev h hl hop hlp
    rw [htake, List.reverse_append, List.reverse_singleton, List.singleton_append] at e
    unfold S.walk at e
    obtain ⟨x, hx, hxo⟩ := ho
    by_cases g1 : l.natAbs ∈ st.seen
    · rw [if_pos g1] at e
      have h1 : [l].countP (cnt s st.seen) = 1 := by simp [cnt, g1, k1 g1]
      rw [h1] at hopn
      by_cases g2 : st.op = 1
      · rw [if_pos g2] at e
        cases e
        rcases hxo with hxo | ⟨a1, a2, a3⟩
        · exact ⟨x, List.mem_cons_of_mem _ hxo, hx⟩
        · rw [htake] at a1
          rcases List.mem_append.1 a1 with a1 | a1
          · exfalso
            have hxc : cnt s st.seen (-x) = true := by simp [cnt, a2, lev_neg, a3]
            have : 0 < (s.tr.take p).countP (cnt s st.seen) := List.countP_pos_iff.2 ⟨-x, a1, hxc⟩
            omega
          · simp at a1
            exact ⟨x, by rw [← a1]; simp, hx⟩
      · rw [if_neg g2] at e
        obtain ⟨r, c, _, c1', _, c2, c3, c4, _, c5, c6⟩ := walk_next h hD hl hop hlp g1 g2
        have c1 := List.mem_of_getElem? c1'
        have hm' : Met s { st with op := st.op - 1 } := hm
        have hf' : ∀ x ∈ s.reason l, -x ∈ s.tr := fun x hx => by obtain ⟨j, _, hj⟩ := c4 x hx; exact List.mem_of_getElem? hj
        obtain ⟨m1, m2, m3, m4⟩ := mark_met h hm' hf'
        refine walk_snd h hs hD hM p _ l' st' c5 c6 m1 ?_ e
        have hold : x ≠ -l → One s M p (L.mark s.lv s.ms.length { st with op := st.op - 1 } (s.reason l)) := fun hne => by
          rcases hxo with hxo | ⟨a1, a2, a3⟩
          · exact ⟨x, hx, .inl (m2 x hxo)⟩
          · rw [htake] at a1
            rcases List.mem_append.1 a1 with a1 | a1
            · exact ⟨x, hx, .inr ⟨a1, m3 _ a2, a3⟩⟩
            · simp at a1; omega
        by_cases hne : x = -l
        · obtain ⟨y, hy, hyt⟩ := (hs M hM).1 c c1
          have hl0 := (h.tro.1 l (List.mem_of_getElem? hlp)).1
          have hyl : y ≠ l := fun e => by
            subst e
            rw [hne, tru_neg hl0, hyt] at hx
            cases hx
          exact mark_one h hs hM hm' c4 ((c3 y).2 ⟨hy, hyl⟩) hyt
        · exact hold hne
    · rw [if_neg g1] at e
      have h0 : [l].countP (cnt s st.seen) = 0 := by simp [cnt, g1]
      rw [h0] at hopn
      refine walk_snd h hs hD hM p st l' st' ⟨by omega, hl.hlen, hl.heat, hopn, hl.sn, hl.out, hl.outn, hl.lvl⟩ hop hm ⟨x, hx, hxo.imp id fun ⟨a1, a2, a3⟩ => ⟨?_, a2, a3⟩⟩ e
      rw [htake] at a1
      rcases List.mem_append.1 a1 with a1 | a1
      · exact a1
      · simp at a1
        exact absurd (by rw [← a1, Int.natAbs_neg]; exact a2) g1

theorem learn_snd {Q : (Nat → Bool) → Prop} {N : Nat} {s : S} (h : Inv N s) (hs : Snd Q s) (hD : 0 < s.ms.length) {n : Nat} {c : List Int} (hc : s.cl[n]? = some c) (hf : ∀ x ∈ c, -x ∈ s.tr) {y : Int} (hy : y ∈ c) (hyl : s.lev y = s.ms.length) {d : List Int} {level : Nat} {s' : S} (e : s.learn n = some (d, level, s')) : ∀ M, Q M → Holds M d := fun M hM => by
  unfold S.learn at e
  rw [getD_some hc, Option.map_eq_some_iff] at e
  obtain ⟨⟨l, st⟩, e1, e2⟩ := e
  have hd : d = -l :: st.out := (Prod.mk.inj e2).1.symm
  rw [hd]
  have hz : 0 = (s.tr.take s.tr.length).countP (cnt s []) := by
    rw [eq_comm, List.countP_eq_zero]
    intro x hx; simp [cnt]
  have hs0 : LInv N s s.tr.length ⟨[], [], 0, 0, s.he⟩ := ⟨Nat.le_refl _, h.nhe, (fun v => by simp), hz, (fun v hv => by cases hv), (fun x hx => by cases hx), (by simp), .inl ⟨rfl, rfl⟩⟩
  have hff : ∀ x ∈ c, ∃ j, j < s.tr.length ∧ s.tr[j]? = some (-x) := fun x hx => by
    obtain ⟨i, hi⟩ := List.getElem?_of_mem (hf x hx)
    exact ⟨i, (List.getElem?_eq_some_iff.1 hi).1, hi⟩
  have hm := mark_inv h hs0 (c := c) hff
  have hop : 1 ≤ (L.mark s.lv s.ms.length ⟨[], [], 0, 0, s.he⟩ c).op := by
    rw [hm.1.opn, List.take_length]
    refine List.countP_pos_iff.2 ⟨-y, hf y hy, ?_⟩
    simp only [cnt, Bool.and_eq_true, decide_eq_true_eq, lev_neg, Int.natAbs_neg]
    exact ⟨hm.2.2 y hy (by omega), hyl⟩
  have hmet : Met s ⟨[], [], 0, 0, s.he⟩ := fun y _ hy => by cases hy
  obtain ⟨x, hx, hxt⟩ := (hs M hM).1 c (List.mem_of_getElem? hc)
  refine walk_snd h hs hD hM s.tr.length _ l st hm.1 hop (mark_met h hmet hf).1 (mark_one h hs hM hmet hff hx hxt) ?_
  rw [List.take_length]; exact e1

end Go.Sat

/- The solver is sound, and complete: rounds, and how it begins. -/
namespace Go.Sat
open Go Go.Cl

/-- All that is known of a state. -/
structure All (N : Nat) (Q : (Nat → Bool) → Prop) (F : List (List Int)) (s : S) : Prop where
  inv : Inv N s
  snd : Snd Q s
  cov : Cov F s

theorem Tel.all {N : Nat} {Q : (Nat → Bool) → Prop} {F : List (List Int)} {s s' : S} (h : Tel Q s s') (ha : All N Q F s) (hi : Inv N s') : All N Q F s' := ⟨hi, h.snd ha.snd, h.cov ha.cov⟩

theorem Cmp.more {Q : (Nat → Bool) → Prop} {s s' : S} {ex : Nat → Int → Prop} (h : Cmp s ex) (ht : Tel Q s s') (hd : s'.dn = s.dn) (hdl : s.dn ≤ s.tr.length) (hc : s'.cl = s.cl) : Cmp s' ex := fun m c hm a b hp i hi hx hex => by
  obtain ⟨t, e, _⟩ := ht.ex
  rw [e, List.getElem?_append_left (by omega)] at hx
  rw [hc] at hm
  obtain ⟨g1, g2⟩ := h m c hm a b hp i (by omega) hx hex
  exact ⟨ht.mem g1, by rw [ht.lv b (.inl g1), ht.lv a (.inr (List.mem_of_getElem? hx))]; exact g2⟩

theorem far_max (s : S) (c : List Int) : ∀ k, 1 ≤ k → k < c.length → s.lev (c.getD k 0) ≤ s.lev (c.getD (s.far c) 0) := by
  intro k h1 h2
  unfold S.far
  have key : ∀ (l : List Nat) (b : Nat), s.lev (c.getD b 0) ≤ s.lev (c.getD (l.foldl (fun b k => if s.lev (c.getD b 0) < s.lev (c.getD k 0) then k else b) b) 0) ∧
      ∀ k ∈ l, s.lev (c.getD k 0) ≤ s.lev (c.getD (l.foldl (fun b k => if s.lev (c.getD b 0) < s.lev (c.getD k 0) then k else b) b) 0) := by
    intro l
    induction l with
    | nil => exact fun b => ⟨Nat.le_refl _, fun k hk => by cases hk⟩
    | cons j l ih =>
      intro b
      rw [List.foldl_cons]
      by_cases g : s.lev (c.getD b 0) < s.lev (c.getD j 0)
      · rw [if_pos g]
        obtain ⟨i1, i2⟩ := ih j
        refine ⟨Nat.le_trans (Nat.le_of_lt g) i1, fun k hk => ?_⟩
        rcases List.mem_cons.1 hk with rfl | hk
        · exact i1
        · exact i2 k hk
      · rw [if_neg g]
        obtain ⟨i1, i2⟩ := ih b
        refine ⟨i1, fun k hk => ?_⟩
        rcases List.mem_cons.1 hk with rfl | hk
        · exact Nat.le_trans (Nat.le_of_not_lt g) i1
        · exact i2 k hk
  refine (key _ 1).2 k ?_
  simp only [List.mem_map, List.mem_range]
  exact ⟨k - 1, by omega, by omega⟩

theorem teach_all {N : Nat} {Q : (Nat → Bool) → Prop} {F : List (List Int)} {s : S} (ha : All N Q F s) (hc : Cmp s fun _ a => s.ms.length ≤ s.lev a) {c : List Int} {level : Nat} {he : List Nat} (ht : Taught N s c level he) (hh : ∀ M, Q M → Holds M c) {s' : S} (e : s.teach c level = some s') : All N Q F s' ∧ Cmp s' noex := by
  have hinv := (teach_inv ha.inv ht e).1
  obtain ⟨l, out, rfl, hl, hll, hout, hlev0, hlevs⟩ := ht.head
  have h := ha.inv
  have hlt := ht.lt
  obtain ⟨m, hm⟩ : ∃ m, s.ms[level]? = some m := ⟨_, List.getElem?_eq_getElem hlt⟩
  have hm' : ({ s with pf := s.pf ++ [(cleanS (-l :: out)).1] } : S).ms[level]? = some m := hm
  have hp := h.proof (s.pf ++ [(cleanS (-l :: out)).1])
  have hb := back_inv hp hm'
  have hbs : Snd Q (({ s with pf := s.pf ++ [(cleanS (-l :: out)).1] } : S).back level) := back_snd (s := { s with pf := s.pf ++ [(cleanS (-l :: out)).1] }) ha.snd hm'
  have hbc : Cov F (({ s with pf := s.pf ++ [(cleanS (-l :: out)).1] } : S).back level) := back_cov (s := { s with pf := s.pf ++ [(cleanS (-l :: out)).1] }) hp ha.cov hm'
  have hbm : Cmp (({ s with pf := s.pf ++ [(cleanS (-l :: out)).1] } : S).back level) noex := back_cmp (s := { s with pf := s.pf ++ [(cleanS (-l :: out)).1] }) hp hc hm'
  unfold S.teach at e
  simp only at e
  have hbk := S.back_of hm'
  generalize hs1 : ({ s with pf := s.pf ++ [(cleanS (-l :: out)).1] } : S).back level = s1 at e hb hbk hbs hbc hbm
  have htr : s1.tr = s.tr.take m := by rw [hbk]
  have hms : s1.ms.length = level := by rw [hbk]; show (s.ms.take level).length = level; simp; omega
  have hslv : s1.lv = s.lv := by rw [hbk]
  have hslev : ∀ x, s1.lev x = s.lev x := fun x => by unfold S.lev; rw [hslv]
  have hdn1 : s1.dn = s1.tr.length := by
    rw [hbk]
    show m = (s.tr.take m).length
    have := (h.mks level m hm).1
    simp; omega
  have hll1 : l ∉ s1.tr := fun hx => by
    rw [htr] at hx
    have := (h.mem_take hm hl).1 hx
    omega
  have hll2 : -l ∉ s1.tr := fun hx => by
    rw [htr] at hx
    exact h.tro.neg hl (List.mem_of_mem_take hx)
  have hok := ht.ok
  have hlN : (-l).natAbs < N := (hok.1 (-l) (by simp)).2
  by_cases g1 : (-l :: out).length = 1
  · rw [if_pos g1] at e
    have ho : out = [] := by simpa using g1
    have htel : Tel Q s1 s' := set_tel (Q := Q) (l := -l) e (by rw [hb.nlv]; exact hlN) hll2 (by rw [Int.neg_neg]; exact hll1) fun _ M hM => by
      obtain ⟨x, hx, hxt⟩ := hh M hM
      rw [ho] at hx
      simp at hx; subst hx; exact hxt
    obtain ⟨_, hs'⟩ := S.set_some e
    exact ⟨htel.all ⟨hb, hbs, hbc⟩ hinv, hbm.more htel (by rw [hs']) (Nat.le_of_eq hdn1) (by rw [hs'])⟩
  · rw [if_neg g1] at e
    have h2 : 2 ≤ (-l :: out).length := by
      rw [List.length_cons] at g1 ⊢
      omega
    have hone : out ≠ [] := fun q => g1 (by rw [q]; rfl)
    have hmax := far_max s1 (-l :: out)
    obtain ⟨f1, f2⟩ := far_range (s := s1) h2
    generalize s1.far (-l :: out) = f at *
    have hper := swap_perm (-l :: out) (i := 1) (j := f) (by omega) f2
    have h0 : (swap (-l :: out) 1 f)[0]? = some (-l) := by rw [swap_getD _ (by omega) f2, if_neg (by omega), if_neg (by omega)]; rfl
    have hw : (swap (-l :: out) 1 f)[1]? = some ((-l :: out).getD f 0) := by
      rw [swap_getD _ (by omega) f2]
      by_cases q : 1 = f
      · rw [if_pos q, q]; exact some_getD f2
      · rw [if_neg q, if_pos rfl]; exact some_getD f2
    have h0D : (swap (-l :: out) 1 f).getD 0 0 = -l := getD_some h0
    rw [h0D] at e
    have hwl : level ≤ s.lev ((-l :: out).getD f 0) := by
      obtain ⟨x, hx, hxl⟩ := hlevs.resolve_left hone
      obtain ⟨k, hk⟩ := List.getElem?_of_mem hx
      have hkl := (List.getElem?_eq_some_iff.1 hk).1
      have := hmax (k + 1) (by omega) (by simp; omega)
      rw [hslev, hslev, show (-l :: out).getD (k + 1) 0 = x from getD_some (by simpa using hk), hxl] at this
      exact this
    have hwm : -((-l :: out).getD f 0) ∈ s1.tr := by
      have hmem : (-l :: out).getD f 0 ∈ out := by
        obtain ⟨k, rfl⟩ : ∃ k, f = k + 1 := ⟨f - 1, by omega⟩
        have : out[k]? = some ((-l :: out).getD (k + 1) 0) := by
          rw [← List.getElem?_cons_succ (a := -l)]; exact some_getD f2
        exact List.mem_of_getElem? this
      obtain ⟨a1, a2, a3⟩ := hout _ hmem
      rw [htr, h.mem_take hm a1, lev_neg]; exact a3
    have hlev1 : 0 < level := by
      obtain ⟨x, hx, hxl⟩ := hlevs.resolve_left hone
      have := (hout x hx).2.1
      omega
    generalize hcc : swap (-l :: out) 1 f = c' at *
    have ha2 := add_inv hb (c := c') ⟨by rw [hper.length_eq]; exact h2, hok.perm hper⟩
    have hs2 : Snd Q (s1.add c') := fun M hM => ⟨fun d hd => by
      replace hd : d ∈ s1.cl ++ [c'] := hd
      rcases List.mem_append.1 hd with hd | hd
      · exact (hbs M hM).1 d hd
      · simp at hd; subst hd
        exact (hh M hM).sub fun x hx => hper.mem_iff.2 hx, (hbs M hM).2⟩
    have hc2 : Cov F (s1.add c') := fun d hd => (hbc d hd).imp id fun q => q.imp id fun ⟨x, h1, h2⟩ => ⟨x, List.mem_append_left _ h1, h2⟩
    have htel : Tel Q (s1.add c') s' := set_tel (Q := Q) (l := -l) e (by rw [ha2.nlv]; exact hlN) hll2 (by rw [Int.neg_neg]; exact hll1) fun h0 => by
      replace h0 : s1.ms.length = 0 := h0
      omega
    obtain ⟨_, hs'⟩ := S.set_some e
    refine ⟨htel.all ⟨ha2, hs2, hc2⟩ hinv, ?_⟩
    have hdn' : s'.dn = s1.dn := by rw [hs']; rfl
    have hcl' : s'.cl = s1.cl ++ [c'] := by rw [hs']; rfl
    have htr' : s'.tr = s1.tr ++ [-l] := by rw [hs']; rfl
    have hlv' : ∀ x, x ∈ s1.tr ∨ -x ∈ s1.tr → s'.lev x = s.lev x := fun x hx => (htel.lv x hx).trans (hslev x)
    have hlvl : s'.lev (-l) = level := by
      obtain ⟨t, et, htt⟩ := htel.ex
      have e2 : s1.tr ++ t = s1.tr ++ [-l] := et.symm.trans htr'
      have e3 : t = [-l] := List.append_cancel_left e2
      exact (htt _ (by rw [e3]; simp)).1.trans hms
    intro k x hx a b hpab i hi hxa hex
    rw [hcl', List.getElem?_append] at hx
    rw [hdn'] at hi
    rw [htr', List.getElem?_append_left (by omega)] at hxa
    split at hx
    · obtain ⟨q1, q2⟩ := hbm k x hx a b hpab i hi hxa hex
      refine ⟨by rw [htr']; exact List.mem_append_left _ q1, ?_⟩
      rw [hlv' b (.inl q1), hlv' a (.inr (List.mem_of_getElem? hxa)), ← hslev, ← hslev]; exact q2
    · have hk0 : k - s1.cl.length = 0 := by
        rcases Nat.eq_zero_or_pos (k - s1.cl.length) with q | q
        · exact q
        · rw [List.getElem?_eq_none (by simp; omega)] at hx; cases hx
      rw [hk0] at hx
      simp at hx
      subst hx
      rcases hpab with ⟨p1, p2⟩ | ⟨p1, p2⟩
      · have : a = -l := Option.some.inj (p1.symm.trans h0)
        rw [this, Int.neg_neg] at hxa
        exact absurd (List.mem_of_getElem? hxa) hll1
      · have eb : b = -l := Option.some.inj (p1.symm.trans h0)
        have ea : a = (-l :: out).getD f 0 := Option.some.inj (p2.symm.trans hw)
        rw [eb, ea]
        refine ⟨by rw [htr']; simp, ?_⟩
        rw [hlvl, hlv' _ (.inr hwm)]; exact hwl

/-- What a round leaves, of models. -/
def RoundT (N : Nat) (Q : (Nat → Bool) → Prop) (F : List (List Int)) : Option (S × Option Bool) → Prop
  | none => True
  | some (s', none) => All N Q F s' ∧ Cmp s' noex
  | some (_, some false) => ∀ M, ¬ Q M
  | some (s', some true) => All N Q F s' ∧ Cmp s' noex ∧ s'.dn = s'.tr.length ∧ s'.pick = 0

theorem round_all {N : Nat} {Q : (Nat → Bool) → Prop} {F : List (List Int)} {s : S} (ha : All N Q F s) (hc : Cmp s noex) : RoundT N Q F s.round := by
  have hs := spread_inv (s.room + 1) s ha.inv (Nat.lt_succ_self _)
  have ht := spread_tel (s.room + 1) s ha.inv (Nat.lt_succ_self _) ha.snd hc
  unfold S.round S.spread
  generalize S.spreadN (s.room + 1) s = r at hs ht
  match r, hs, ht with
  | none, _, _ => trivial
  | some (s1, some n), hs, ht =>
    obtain ⟨h1, h2, c, h3, h4, y, h5, h6⟩ := hs
    obtain ⟨t1, t2⟩ := ht
    have ha1 := t1.all ha h1
    simp only
    by_cases g1 : s1.ms.length = 0
    · rw [if_pos g1]
      intro M hM
      obtain ⟨x, hx, hxt⟩ := (ha1.snd M hM).1 c (List.mem_of_getElem? h3)
      have := ha1.snd.lev h1 hM (h4 x hx) hxt
      have h7 := h1.lev _ (h4 x hx)
      rw [lev_neg] at h7
      omega
    · rw [if_neg g1]
      unfold S.burn
      by_cases g2 : s1.lf = 0
      · rw [if_pos g2]; trivial
      · rw [if_neg g2]
        have hb := h1.fuel (s1.lf - 1)
        obtain ⟨d, level, he, e, hta⟩ := learn_inv hb (Nat.pos_of_ne_zero g1) h3 h4 h5 h6
        have hls := learn_snd (Q := Q) hb ha1.snd (Nat.pos_of_ne_zero g1) h3 h4 h5 h6 e
        simp only [e]
        have hh := hb.heat hta.hlen
        have ht' : Taught N { s1 with lf := s1.lf - 1, he := he } d level he := ⟨hta.head, hta.lt, hta.ok, hta.hlen, fun v => Nat.le_succ _⟩
        cases hte : S.teach { s1 with lf := s1.lf - 1, he := he } d level with
        | none => trivial
        | some s2 => exact teach_all (s := { s1 with lf := s1.lf - 1, he := he }) ⟨hh, ha1.snd, ha1.cov⟩ t2 ht' hls hte
  | some (s1, none), hs, ht =>
    obtain ⟨h1, h2, h3⟩ := hs
    obtain ⟨t1, t2⟩ := ht
    have ha1 := t1.all ha h1
    simp only
    by_cases g1 : s1.pick = 0
    · rw [if_pos g1]; exact ⟨ha1, t2, h3, g1⟩
    · rw [if_neg g1]
      obtain ⟨p1, p2, p3⟩ := pick_ok.resolve_left g1
      have hd := h1.decide h3
      have hz : s1.is (s1.pick : Int) = 0 := by unfold S.is; rw [if_neg (by omega)]; simpa using p3
      rw [h1.is_zero] at hz
      cases hse : S.set { s1 with ms := s1.ms ++ [s1.tr.length] } (-(s1.pick : Int)) (-1) with
      | none => trivial
      | some s2 =>
        have hpN : (-(s1.pick : Int)).natAbs < N := by rw [Int.natAbs_neg, Int.natAbs_natCast, ← h1.nva]; exact p2
        have hi2 := hd.set hse (by omega) hpN hz.2 (by rw [Int.neg_neg]; exact hz.1) (.inr (.inl (by simp)))
        have htel := set_tel (Q := Q) hse (by rw [hd.nlv]; exact hpN) hz.2 (by rw [Int.neg_neg]; exact hz.1) fun h0 => by simp at h0
        obtain ⟨_, hs'⟩ := S.set_some hse
        have hdd : ({ s1 with ms := s1.ms ++ [s1.tr.length] } : S).dn ≤ ({ s1 with ms := s1.ms ++ [s1.tr.length] } : S).tr.length := Nat.le_of_eq h3
        exact ⟨htel.all ⟨hd, ha1.snd, ha1.cov⟩ hi2, Cmp.more (s := { s1 with ms := s1.ms ++ [s1.tr.length] }) t2 htel (by rw [hs']) hdd (by rw [hs'])⟩

/-- What a known answer tells. -/
def Tells (Q : (Nat → Bool) → Prop) (F : List (List Int)) : S × Bool → Prop
  | (_, false) => ∀ M, ¬ Q M
  | (s, true) => ∃ M, (∀ v, 1 ≤ v → v < s.va.length → M v = decide (s.va.getD v 0 = 1)) ∧ ∀ c ∈ F, Holds M c

theorem pick_zero {s : S} (h : s.pick = 0) : ∀ v, 1 ≤ v → v < s.va.length → s.va.getD v 0 ≠ 0 := by
  unfold S.pick at h
  have key : ∀ (l : List Nat) (b : Nat), (∀ k ∈ l, 1 ≤ k) → (l.foldl (fun b v => if s.va.getD v 0 = 0 ∧ (b = 0 ∨ s.he.getD b 0 < s.he.getD v 0) then v else b) b = 0) → b = 0 ∧ ∀ k ∈ l, s.va.getD k 0 ≠ 0 := by
    intro l
    induction l with
    | nil => exact fun b _ hb => ⟨hb, fun k hk => by cases hk⟩
    | cons j l ih =>
      intro b hk hb
      rw [List.foldl_cons] at hb
      obtain ⟨i1, i2⟩ := ih _ (fun k hk' => hk k (List.mem_cons_of_mem _ hk')) hb
      have hj := hk j (by simp)
      split at i1
      · omega
      · rename_i g
        refine ⟨i1, fun k hk' => ?_⟩
        rcases List.mem_cons.1 hk' with rfl | hk'
        · exact fun e => g ⟨e, .inl i1⟩
        · exact i2 k hk'
  intro v h1 h2
  refine (key _ 0 (fun k hk => by simp at hk; omega) h).2 v ?_
  simp only [List.mem_map, List.mem_range]
  exact ⟨v - 1, by omega, by omega⟩

theorem model_of {N : Nat} {Q : (Nat → Bool) → Prop} {F : List (List Int)} (hF : ∀ c ∈ F, ∀ l ∈ c, l ≠ 0 ∧ l.natAbs < N) {s : S} (ha : All N Q F s) (hc : Cmp s noex) (hd : s.dn = s.tr.length) (hp : s.pick = 0) : Tells Q F (s, true) := by
  have h := ha.inv
  refine ⟨fun v => decide (s.va.getD v 0 = 1), fun v _ _ => rfl, ?_⟩
  have htru : ∀ l, l ≠ 0 → l ∈ s.tr → tru (fun v => decide (s.va.getD v 0 = 1)) l = true := fun l h0 hl => by
    have h1 := h.is_one.2 hl
    unfold S.is at h1
    unfold tru
    split at h1
    · rename_i g
      rw [if_pos g]
      have : s.va.getD l.natAbs 0 = -1 := by omega
      show (!decide (s.va.getD l.natAbs 0 = 1)) = true
      rw [this]; rfl
    · rename_i g
      rw [if_neg g]
      exact decide_eq_true h1
  have hall : ∀ l, l ≠ 0 → l.natAbs < N → l ∈ s.tr ∨ -l ∈ s.tr := fun l h0 hl => by
    have h1 := pick_zero hp l.natAbs (by omega) (by rw [h.nva]; exact hl)
    by_cases g1 : l ∈ s.tr
    · exact .inl g1
    by_cases g2 : -l ∈ s.tr
    · exact .inr g2
    have h2 := h.is_zero.2 ⟨g1, g2⟩
    unfold S.is at h2
    split at h2 <;> omega
  have hcl : ∀ c ∈ s.cl, ∃ l ∈ c, l ∈ s.tr := fun c hcm => by
    obtain ⟨m, hm⟩ := List.getElem?_of_mem hcm
    have hok := h.cls c hcm
    have h0 : c[0]? = some (c.getD 0 0) := some_getD (by omega)
    have h1 : c[1]? = some (c.getD 1 0) := some_getD (by omega)
    have k0 := hok.2.1 _ (List.mem_of_getElem? h0)
    rcases hall _ k0.1 k0.2 with g | g
    · exact ⟨_, List.mem_of_getElem? h0, g⟩
    · obtain ⟨i, hi⟩ := List.getElem?_of_mem g
      have := hc m c hm (c.getD 0 0) (c.getD 1 0) (.inl ⟨h0, h1⟩) i (by rw [hd]; exact (List.getElem?_eq_some_iff.1 hi).1) hi id
      exact ⟨_, List.mem_of_getElem? h1, this.1⟩
  intro c hcm
  rcases ha.cov c hcm with ⟨l, h1, h2⟩ | ⟨l, h1, h2, _⟩ | ⟨d, h1, h2⟩
  · have hl0 := (hF c hcm l h1).1
    by_cases g : tru (fun v => decide (s.va.getD v 0 = 1)) l = true
    · exact ⟨l, h1, g⟩
    · exact ⟨-l, h2, by rw [tru_neg hl0]; simpa using g⟩
  · exact ⟨l, h1, htru l (hF c hcm l h1).1 h2⟩
  · obtain ⟨l, k1, k2⟩ := hcl d h1
    exact ⟨l, h2 l k1, htru l (h.tro.1 l k2).1 k2⟩

theorem runN_all {N : Nat} {Q : (Nat → Bool) → Prop} {F : List (List Int)} (hF : ∀ c ∈ F, ∀ l ∈ c, l ≠ 0 ∧ l.natAbs < N) : ∀ (k : Nat) (s : S), All N Q F s → Cmp s noex → ∀ r, S.runN k s = some r → Tells Q F r
  | 0, _, _, _, r, e => by cases e
  | k + 1, s, ha, hc, r, e => by
    have hr := round_all ha hc
    unfold S.runN at e
    generalize s.round = x at hr e
    match x, hr, e with
    | none, _, e => cases e
    | some (s1, some false), hr, e => cases e; exact hr
    | some (s1, some true), hr, e => cases e; exact model_of hF hr.1 hr.2.1 hr.2.2.1 hr.2.2.2
    | some (s1, none), hr, e => exact runN_all hF k s1 hr.1 hr.2 r e

end Go.Sat

