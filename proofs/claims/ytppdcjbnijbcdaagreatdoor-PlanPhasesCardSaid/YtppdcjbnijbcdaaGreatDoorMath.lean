/- Plain mathematics of numbering plans: no Go in sight. -/
namespace Pl
abbrev S := List UInt8
def dig (c : UInt8) : Bool := decide (48 ≤ c.toNat) && decide (c.toNat ≤ 57)
def digits (s : S) : Bool := s.all dig
def apart (a b : S) : Bool := !(a.isPrefixOf b) && !(b.isPrefixOf a)
structure Cd where
  old : S
  new : S
  len : Int
def within (n lo hi : Int) : Bool := decide (lo ≤ n) && decide (n ≤ hi)
def room (c : Cd) : Int := c.len - c.old.length
def isCode (c : Cd) : Bool :=
  digits (c.old ++ c.new) && within c.old.length 1 4 && within c.new.length 1 5 && within c.len (c.old.length + 1) 7 && decide (room c ≤ 8 - c.new.length) && apart c.old c.new
def differ (a b : Cd) : Bool := apart a.old b.old && apart a.new b.new && apart a.old b.new && apart a.new b.old
/-- every pair (later, earlier) is accepted -/
def allPairs (p : List Cd) : Bool := (List.range p.length).all fun i => (p.take i).all fun b => match p[i]? with | some a => differ a b | none => true
def valid (p : List Cd) : Bool := p.all isCode && decide (p.length ≤ 20) && allPairs p
def isPhase (n : Int) : Bool := within n 1 3
def zeros (n : Nat) : S := List.replicate n 48
structure Ent where
  code : Int
  length : Int
  stands : S
def ents (p : List Cd) (ph : Int) : List (S × Ent) :=
  p.zipIdx.flatMap fun (c, i) =>
    (if ph ≠ 3 then [(c.old, ⟨(i : Int), c.len, c.new ++ zeros (8 - c.new.length - room c).toNat⟩)] else []) ++
    (if ph ≠ 1 then [(c.new, ⟨(i : Int), 8, c.new⟩)] else [])
def val (s : S) : Nat := s.foldl (fun n c => 10 * n + (c.toNat - 48)) 0
structure Dialled where
  kind : Int
  number : Int
  code : Int
  used : Int
deriving DecidableEq
def begun (es : List (S × Ent)) (s : S) : Option (Nat × Ent) :=
  (List.range (s.length + 1)).findSome? fun k => (es.lookup (s.take k)).map fun x => (k, x)
def read (p : List Cd) (s : S) (ph : Int) : Dialled × Int :=
  if !valid p || !digits s || !decide (s.length ≤ 16) || !isPhase ph then (⟨0, 0, 0, 0⟩, 120) else
  match begun (ents p ph) s with
  | some (k, x) => if (s.length : Int) < x.length then (⟨1, 0, 0, 0⟩, 0) else (⟨2, val (x.stands ++ (s.take x.length.toNat).drop k), x.code, x.length⟩, 0)
  | none => if (ents p ph).any fun e => s.isPrefixOf e.1 then (⟨1, 0, 0, 0⟩, 0) else (⟨0, 0, 0, 0⟩, 0)
def digitAt (n k : Nat) : UInt8 := 48 + UInt8.ofNat (n / 10 ^ (7 - k) % 10)
def eight (n : Nat) : S := (List.range 8).map (digitAt n)
def write (p : List Cd) (n : Int) (ph : Int) : S × Int :=
  if !valid p || !isPhase ph || !within n 0 99999999 then ([], 120) else
  match p.find? (fun c => c.new.isPrefixOf (eight n.toNat)) with
  | none => ([], 120)
  | some c => if ph ≠ 1 then (eight n.toNat, 0) else
    let cut := (8 - room c).toNat
    if ((eight n.toNat).take cut).drop c.new.length = zeros (cut - c.new.length) then (c.old ++ (eight n.toNat).drop cut, 0) else ([], 120)
def range (p : List Cd) (i : Int) (ph : Int) : Int × Int × Int :=
  if !valid p || !within i 0 ((p.length : Int) - 1) || !isPhase ph then (0, 0, 120) else
  match p[i.toNat]? with
  | none => (0, 0, 120)
  | some c =>
    let from_ := (val c.new : Int) * 10 ^ (8 - c.new.length)
    let size : Int := if ph = 1 then 10 ^ (room c).toNat else 10 ^ (8 - c.new.length)
    (from_, from_ + size, 0)
def reads (p : List Cd) (s : S) : Int × Bool :=
  let r := read p s 2
  (r.1.number, r.2 == 0 && r.1.kind == 2 && r.1.used == s.length)
def same (p : List Cd) (a b : S) : Bool := (reads p a).2 && (reads p b).2 && (reads p a).1 == (reads p b).1
def pick (c n : Int) : Int := (if c < 0 then -(c + 1) else c) % n
def pref (c : Nat) : Nat → S
  | 0 => []
  | k + 1 => (48 + UInt8.ofNat (c % 10)) :: pref (c / 10) k
structure T3 where
  a : Int
  b : Int
  c : Int
def one (x : T3) : Cd :=
  let o := pref (pick (x.a.tdiv 3) 1000).toNat (1 + pick x.a 3).toNat
  let n := pref (pick (x.b.tdiv 3) 1000).toNat (1 + pick x.b 3).toNat
  ⟨o, n, o.length + 1 + pick x.c (min (7 - (o.length : Int)) (8 - (n.length : Int)))⟩
def madeStep (p : List Cd) (x : T3) : List Cd :=
  if p.length < 8 then (if valid (p ++ [one x]) then p ++ [one x] else p) else p
def made (x : List T3) : List Cd := (x.take 16).foldl madeStep []
def number (p : List Cd) (which n : Int) : Int :=
  if p.length = 0 ∨ pick which 16 = 15 then pick n 100000000 else
  let r := range p (pick (which.tdiv 16) p.length) (1 + pick which 3)
  r.1 + pick n (r.2.1 - r.1)
def text (x : List Int) : S := (x.take 17).map fun c => 48 + UInt8.ofNat (pick c 10).toNat

/-- the pairs whose later element is among the first k -/
def pairsTo (p : List Cd) (k : Nat) : Bool := (List.range k).all fun i => (p.take i).all fun b => match p[i]? with | some a => differ a b | none => true
theorem allPairs_eq (p : List Cd) : allPairs p = pairsTo p p.length := rfl
theorem pairsTo_zero (p : List Cd) : pairsTo p 0 = true := rfl
theorem pairsTo_succ (p : List Cd) (k : Nat) (h : k < p.length) : pairsTo p (k + 1) = (pairsTo p k && (p.take k).all fun b => differ p[k] b) := by
  simp [pairsTo, List.range_succ, List.getElem?_eq_getElem h]
theorem allPairs_bad (p : List Cd) (k m : Nat) (h : k < p.length) (hm : m < k) (hd : differ p[k] p[m] = false) : allPairs p = false := by
  rw [allPairs_eq]
  simp only [pairsTo, List.all_eq_false]
  refine ⟨k, by simpa using h, ?_⟩
  simp only [Bool.not_eq_true, List.all_eq_false]
  exact ⟨p[m], List.mem_take_iff_getElem.2 ⟨m, by omega, rfl⟩, by simp [List.getElem?_eq_getElem h, hd]⟩
/-- what a valid plan says of a code of it -/
structure Fine (c : Cd) : Prop where
  dold : digits c.old = true
  dnew : digits c.new = true
  o1 : 1 ≤ c.old.length
  o4 : c.old.length ≤ 4
  n1 : 1 ≤ c.new.length
  n5 : c.new.length ≤ 5
  l1 : (c.old.length : Int) + 1 ≤ c.len
  l7 : c.len ≤ 7
  fit : room c ≤ 8 - c.new.length
  ap : apart c.old c.new = true
theorem fine_of {c : Cd} (h : isCode c = true) : Fine c := by
  simp only [isCode, within, Bool.and_eq_true, decide_eq_true_eq, digits, List.all_append] at h
  obtain ⟨⟨⟨⟨⟨⟨h1, h2⟩, h3, h4⟩, h5, h6⟩, h7, h8⟩, h9⟩, h10⟩ := h
  exact ⟨h1, h2, by omega, by omega, by omega, by omega, h7, h8, h9, h10⟩
theorem valid_fine {p : List Cd} (h : valid p = true) {c : Cd} (hc : c ∈ p) : Fine c := by
  simp only [valid, Bool.and_eq_true, List.all_eq_true] at h
  exact fine_of (h.1.1 c hc)
theorem valid_len {p : List Cd} (h : valid p = true) : p.length ≤ 20 := by
  simp only [valid, Bool.and_eq_true, decide_eq_true_eq] at h
  exact h.1.2
theorem digits_mem {s : S} (h : digits s = true) : ∀ c ∈ s, 48 ≤ c.toNat ∧ c.toNat ≤ 57 := by
  intro c hc
  have := List.all_eq_true.1 h c hc
  simpa [dig] using this
/-! ### small laws -/
theorem eight_len (n : Nat) : (eight n).length = 8 := by simp [eight]
theorem eight_drop (n k : Nat) (hk : k < 8) (c : Nat) (hc : c = n / 10 ^ k) : [48 + UInt8.ofNat (c % 10)] ++ (eight n).drop (8 - k) = (eight n).drop (8 - (k + 1)) := by
  have h : 8 - (k + 1) < (eight n).length := by rw [eight_len]; omega
  rw [List.drop_eq_getElem_cons h, show 8 - (k + 1) + 1 = 8 - k by omega]
  have : (eight n)[8 - (k + 1)] = 48 + UInt8.ofNat (c % 10) := by
    simp only [eight, List.getElem_map, List.getElem_range, digitAt]
    rw [show 7 - (8 - (k + 1)) = k by omega, hc]
  rw [this]; rfl
theorem take_snoc {α : Type} (s : List α) (k : Nat) (hk : k < s.length) : s.take (k + 1) = s.take k ++ [s[k]] := by
  rw [List.take_succ_eq_append_getElem hk]
theorem digits_good (s : S) (k : Nat) (hk : k < s.length) (h : 48 ≤ s[k].toNat ∧ s[k].toNat ≤ 57) (hd : digits (s.take k) = true) : digits (s.take (k + 1)) = true := by
  rw [take_snoc s k hk]
  simp only [digits, List.all_append, Bool.and_eq_true] at *
  exact ⟨hd, by simp [dig, h]⟩
theorem digits_bad (s : S) (k : Nat) (hk : k < s.length) (h : s[k].toNat < 48 ∨ 57 < s[k].toNat) : digits s = false := by
  simp only [digits, List.all_eq_false]
  exact ⟨s[k], List.getElem_mem hk, by simp [dig]; omega⟩
end Pl
