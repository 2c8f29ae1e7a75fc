/- Plain functions on names, keys, values, atoms: what the program's small functions compute. No program is in sight here. -/
namespace Go.Proofs.Ythidakffgcjjiaa

/-- A name: eight bytes. -/
structure Nm where
  b0 : UInt8
  b1 : UInt8
  b2 : UInt8
  b3 : UInt8
  b4 : UInt8
  b5 : UInt8
  b6 : UInt8
  b7 : UInt8
  deriving DecidableEq, Inhabited

structure Ky where
  sort : UInt8
  cart : UInt16
  item : Nm
  rep : UInt8
  seq : UInt32
  deriving DecidableEq, Inhabited

structure Vl where
  n : UInt64
  text : Nm
  deriving DecidableEq, Inhabited

structure At where
  k : Ky
  v : Vl
  deriving DecidableEq, Inhabited

def Nm.list (n : Nm) : List UInt8 := [n.b0, n.b1, n.b2, n.b3, n.b4, n.b5, n.b6, n.b7]
def Nm.zero : Nm := ⟨0, 0, 0, 0, 0, 0, 0, 0⟩

def isLetter (c : UInt8) : Bool := decide (97 ≤ c.toNat) && decide (c.toNat ≤ 122)
def isOther (c : UInt8) : Bool := isLetter c || (decide (48 ≤ c.toNat) && decide (c.toNat ≤ 57)) || c.toNat == 45
def isNul (c : UInt8) : Bool := c.toNat == 0

/-- How many bytes stand ahead of the first zero. -/
def Nm.size (n : Nm) : Nat := (n.list.takeWhile (fun c => !isNul c)).length
theorem Nm.size_le (n : Nm) : n.size ≤ 8 := by
  have := (List.takeWhile_sublist (l := n.list) (fun c => !isNul c)).length_le
  simpa [Nm.size, Nm.list] using this
def Nm.right (n : Nm) : Bool := isLetter n.b0 && (n.list.take n.size).all isOther && (n.list.drop n.size).all isNul

def numOf (l : List UInt8) : Nat := l.foldl (fun x c => x * 256 + c.toNat) 0
def Nm.num (n : Nm) : Nat := numOf n.list

theorem numOf_lt (l : List UInt8) : numOf l < 256 ^ l.length := by
  have h : ∀ (l : List UInt8) (x m : Nat), x < 256 ^ m → l.foldl (fun x c => x * 256 + c.toNat) x < 256 ^ (m + l.length) := by
    intro l
    induction l with
    | nil => intro x m h; simpa using h
    | cons c l ih =>
      intro x m h
      have hc := c.toNat_lt
      have := ih (x * 256 + c.toNat) (m + 1) (by rw [Nat.pow_succ]; omega)
      simpa [Nat.add_comm, Nat.add_left_comm, Nat.add_assoc] using this
  simpa [numOf] using h l 0 0 (by simp)

def Ky.dot (k : Ky) : Nat := k.rep.toNat * 4294967296 + k.seq.toNat
def Ky.w0 (k : Ky) : Nat := k.sort.toNat * 65536 + k.cart.toNat
/-- Keys as triples of numbers, the first one first. -/
def Ky.lt (a b : Ky) : Bool := if a.w0 ≠ b.w0 then decide (a.w0 < b.w0) else if a.item.num ≠ b.item.num then decide (a.item.num < b.item.num) else decide (a.dot < b.dot)
def Ky.right (k : Ky) : Bool :=
  if k.sort.toNat = 4 then decide (k = ⟨k.sort, k.cart, Nm.zero, 0, 0⟩)
  else if k.sort.toNat = 1 then (!(k.seq.toNat == 0) && k.item.right) && decide (k.rep.toNat < 16)
  else if k.sort.toNat = 2 ∨ k.sort.toNat = 3 then (k.seq.toNat == 0 && k.item.right) && decide (k.rep.toNat < 16)
  else false
theorem Nm.num_lt (n : Nm) : n.num < 18446744073709551616 := by
  have h := numOf_lt n.list
  have hl : n.list.length = 8 := rfl
  rw [hl] at h
  exact Nat.lt_of_lt_of_le h (by decide)
theorem Ky.dot_lt (k : Ky) : k.dot < 1099511627776 := by
  have h1 := k.rep.toNat_lt
  have h2 := k.seq.toNat_lt
  unfold Ky.dot; omega
theorem Ky.w0_lt (k : Ky) : k.w0 < 16777216 := by
  have h1 := k.sort.toNat_lt
  have h2 := k.cart.toNat_lt
  unfold Ky.w0; omega

def Vl.bare (v : Vl) : Bool := decide (v.text = Nm.zero)
/-- Is a number a stamp; else the error's number. -/
def stampErr (x : Nat) : Int := if 16 ≤ x % 256 ∨ 1099511627775 < x then 2 else if x / 256 % 4294967296 = 0 then 3 else 0
def Vl.half (v : Vl) : Bool := (v.bare && decide (1 ≤ v.n.toNat)) && decide (v.n.toNat ≤ 4294967295)
def Vl.tag (v : Vl) : Bool := v.bare && (v.n.toNat == 1 || v.n.toNat == 2)
def Vl.note (v : Vl) : Bool := decide (stampErr v.n.toNat = 0) && (v.bare || v.text.right)
def At.right (a : At) : Bool := a.k.right && (if a.k.sort.toNat = 1 then a.v.tag else if a.k.sort.toNat = 4 then a.v.note else a.v.half)
def Vl.over (x y : Vl) : Bool := decide (y.n.toNat < x.n.toNat) || (x.n.toNat == y.n.toNat && !decide (x.text.num < y.text.num))
def Vl.more (x y : Vl) : Vl := if x.over y then x else y
def Ky.ord (a b : Ky) : Int := if a = b then 0 else if a.lt b then -1 else 1

end Go.Proofs.Ythidakffgcjjiaa
