/- MerkleChecks' walk, as its row calls it. -/
import Derived.Test.YtfkeaglbfembnaaDoorMk11
import Derived.Test.YtfkeaglbfembnaaDoorLift3
namespace Go.Proofs.YtfkeaglbfembnaaDoor.Mk12
open Go Go.RowKit Go.Proofs.YtfkeaglbfembnaaDoor.Sha1 Go.Proofs.YtfkeaglbfembnaaDoor.Sha2 Go.Proofs.YtfkeaglbfembnaaDoor.Sha5 Go.Proofs.YtfkeaglbfembnaaDoor.Sha7 Go.Proofs.YtfkeaglbfembnaaDoor.Sha8 Go.Proofs.YtfkeaglbfembnaaDoor.Mk1 Go.Proofs.YtfkeaglbfembnaaDoor.Mk4
theorem w_merkleChecks (W : World) (hG : Glob W) (root : Nat → B8) (T : Option Addr) (t : Bytes8) (ct : Nat) (hct : t.length ≤ ct) (ht : BSl W W.heap.size T t) (htl : t.length < 1000000000000000) (i n : Int) (A : Option Addr) (m cap : Nat) (f : Nat → Dig) (hm : m ≤ cap) (hd : DSl W W.heap.size A m f) (hml : m < 1000000000000000) :
    Calls Tryd.prog 9 #[.agg (brow 32 root), .slice T t.length ct, .agg #[.int .i64 i, .int .i64 n, .slice A m cap]] W fun e w' => e = .returned (.bool true) ∧ Below W.heap.size W w' :=
  Mk11.c_checks root T t ct i n A m cap f W hG hct ht htl hm hd hml
end Go.Proofs.YtfkeaglbfembnaaDoor.Mk12
