/- Texts of this claim, joined by a program of this session (wip/pack.py): PCrc. -/

-- PCrc
namespace PCrc
def poly : BitVec 32 := 0x82F63B78#32
/-- one bit's step -/
def z (r : BitVec 32) : BitVec 32 := if r.getLsbD 0 then (r >>> 1) ^^^ poly else r >>> 1
def zs : Nat → BitVec 32 → BitVec 32
  | 0, r => r
  | n + 1, r => zs n (z r)
/-- one byte's step -/
def step (r : BitVec 32) (c : UInt8) : BitVec 32 := zs 8 (r ^^^ c.toBitVec.setWidth 32)
end PCrc
