
import Derived.Test.YtgjppekjkofdiaaGreatDoorK21
import Derived.KernelRfl
namespace Go.Proofs.YtgjppekjkofdiaaGreatDoor
open Go.RowKit
namespace Sn

def p0 : List Ln := [⟨1, 0, 3, 0⟩, ⟨3, 0, 0, 0⟩]
def p1 : List Ln := [⟨1, 0, 4, 0⟩, ⟨3, 0, 0, 0⟩]
def t0 : Tst := ⟨.nilIface, [0, 0, 0, 0], 0, 8⟩
def x0 : List Ed := [⟨0, ⟨1, 0, 4, 0⟩⟩]
def o0 : ByteArray := ⟨#[116, 101, 115, 116, 32, 48, 32, 48, 32, 48, 32, 48, 32, 48, 32, 56]⟩
def o1 : ByteArray := ⟨#[99, 104, 101, 99, 107]⟩
def o2 : ByteArray := ⟨#[102, 105, 120]⟩
def o3 : ByteArray := ⟨#[99, 104, 101, 99, 107]⟩
def o4 : ByteArray := ⟨#[108, 111, 99, 107, 32, 48]⟩
def o6 : ByteArray := ⟨#[117, 110, 100, 111]⟩
def s1 : Bn := ⟨[p0], [], [t0], [], 0, 0, [o0]⟩
def s3 : Bn := ⟨[p0, p1], [x0], [t0], [], 1, 0, [o0, o2]⟩
def s4 : Bn := ⟨[p0, p1], [x0], [t0], [], 1, 1, [o0, o2, o3]⟩
def s5 : Bn := ⟨[p0, p1], [x0], [t0], [0], 1, 1, [o0, o2, o3, o4]⟩
end Sn
end Go.Proofs.YtgjppekjkofdiaaGreatDoor
