import Derived.Test.YtijkmhmgigaieaaTp1
namespace Go.Proofs.Ytijkmhmgigaieaa
namespace Tp
def i64 (x:Int):Prop:=-9223372036854775808≤x∧x≤9223372036854775807
def lkI (x:Lk):Prop:=i64 x.a∧i64 x.pa∧i64 x.b∧i64 x.pb∧i64 x.least∧i64 x.most
def hsI (x:Hs):Prop:=i64 x.at_∧i64 x.port
end Tp
end Go.Proofs.Ytijkmhmgigaieaa
