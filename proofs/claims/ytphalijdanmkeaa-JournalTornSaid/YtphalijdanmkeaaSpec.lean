/- The plain side of the journal: what its functions compute, as functions on lists of bytes. No program in sight. -/
namespace Go.Proofs.Ytphalijdanmkeaa.J

abbrev Bytes := List UInt8

/-- a text is a line -/
def isLine (s : Bytes) : Bool := decide (1 ≤ s.length) && decide (s.length ≤ 120) && s.all (fun c => decide (32 ≤ c.toNat) && decide (c.toNat ≤ 126))

def wsum : Nat → Bytes → Nat
  | _, [] => 0
  | k, c :: s => (k + 1) * c.toNat + wsum (k + 1) s

def sum (s : Bytes) (n : Nat) : Nat := (7 * n + wsum 0 s) % 127

def digits : Nat → Nat → Bytes
  | 0, _ => []
  | m + 1, n => digits m (n / 10) ++ [UInt8.ofNat (48 + n % 10)]

def record (s : Bytes) (n : Nat) : Bytes := digits 2 n ++ digits 3 s.length ++ digits 3 (sum s n) ++ s ++ [10]

/-- the error of a line and a number -/
def check (s : Bytes) (n : Int) : Int := if !isLine s then 2 else if !(decide (0 ≤ n) && decide (n ≤ 59)) then 3 else 0

def journalFrom : Nat → List Bytes → Bytes
  | _, [] => []
  | k, s :: r => record s k ++ journalFrom (k + 1) r
def journal (l : List Bytes) : Bytes := journalFrom 0 l

/-- the length that a record's head tells; 0 if it tells none -/
def lengthL : Bytes → Nat
  | _ :: _ :: a :: b :: c :: _ :: _ :: _ :: _ =>
    if 48 ≤ a.toNat ∧ a.toNat ≤ 57 ∧ 48 ≤ b.toNat ∧ b.toNat ≤ 57 ∧ 48 ≤ c.toNat ∧ c.toNat ≤ 57 then (a.toNat - 48) * 100 + (b.toNat - 48) * 10 + (c.toNat - 48) else 0
  | _ => 0

/-- the line of the record with a number with which some bytes begin -/
def first (b : Bytes) (num : Nat) : Option Bytes :=
  let n := lengthL b
  if 1 ≤ n ∧ n ≤ 120 ∧ n + 9 ≤ b.length then
    let line := (b.drop 8).take n
    if isLine line && (record line num == b.take (n + 9)) then some line else none
  else none

/-- the lines that can be read: so many records at most, from a number on -/
def recover : Nat → Nat → Bytes → List Bytes
  | 0, _, _ => []
  | f + 1, num, b => match first b num with
    | none => []
    | some l => l :: recover f (num + 1) (b.drop (l.length + 9))
def read (b : Bytes) : List Bytes := recover 60 0 b
/-- how long the records of lines are together -/
def good : List Bytes → Nat
  | [] => 0
  | l :: r => (l.length + 9) + good r

def formed (b : Bytes) : Bool := decide (b.length % 32 = 0) && (decide (1 ≤ b.length / 32) && decide (b.length / 32 ≤ 250))
def clean (b : Bytes) : Bool := (b.drop (good (read b))).all (fun c => c == 0)
def checkD (b : Bytes) : Int := if !formed b then 4 else if !clean b then 9 else 0
def room (len lines gd : Nat) : Nat := if lines = 60 then 0 else min (len - gd - 9) 120

def pad (s : Bytes) (n : Nat) : Bytes := s.take n ++ List.replicate (n - s.length) 0
def chunk (n : Nat) (b : Bytes) : Bytes := (b.drop (32 * n)).take 32
/-- the blocks, from k on, m of them, in which bytes differ -/
def blocksFrom : Nat → Nat → Bytes → Bytes → List (Int × Bytes)
  | _, 0, _, _ => []
  | k, m + 1, b, t => if chunk k b = chunk k t then blocksFrom (k + 1) m b t else ((k : Int), chunk k t) :: blocksFrom (k + 1) m b t
def blocks (b t : Bytes) : List (Int × Bytes) := blocksFrom 0 (b.length / 32) b t
def toD (b s : Bytes) : List (Int × Bytes) := blocks b (pad s b.length)

end Go.Proofs.Ytphalijdanmkeaa.J
