/- The cells of a call of the mover's laws. -/
import Derived.Test.YtglcmlicfmmlpaaMover1
namespace Go.Proofs.Ytglcmlicfmmlpaa
open Go.RowKit

abbrev mopC (kd : Int) (x : Mv) (ga : Int) (c : Cmd) (vc : Value) (why : Int) (wait : Bool) (rw_ ra : Int) (vr vd : Value) : Array Value :=
  #[.int .i64 kd, .int .i64 x.slot, .int .i64 x.src, .int .i64 x.dst, .int .i64 x.epoch, .int .i64 x.phase, .int .i64 x.n, .int .i64 ga, .int .i64 c.kind, .int .i64 c.op.kind, .string c.op.src, .string c.op.dst, .int .i64 c.op.amt, .string c.op.key, .int .i64 c.op.slot, .int .i64 c.op.shard, .string c.id, .string c.name, .int .i64 c.n, .int .i64 c.why, .int .i64 c.slot, .int .i64 c.epoch, .int .i64 c.at_, .bool c.last, vc, .int .i64 why, .bool wait, .int .i64 rw_, .int .i64 ra, vr, vd]
end Go.Proofs.Ytglcmlicfmmlpaa
