/- Chapter 19: SubsNobody. -/
import Derived.Test.YthkadehlclcggaaGreatDoorGx57
import Derived.Test.YthkadehlclcggaaGreatDoorGx66
namespace Go.Proofs.YthkadehlclcggaaGreatDoor
set_option linter.unusedSimpArgs false
set_option linter.unusedVariables false
open Go.RowKit
open Go.Lib (hid)
structure ActN where
 kind:Int
 now:Int
 num:Int
 state:Int
 text:T
 r:ReqP
def actN (a:ActN) (v:RqV):Array Value:=#[.int .i64 a.kind,.int .i64 a.now,.int .i64 a.num,.int .i64 a.state,.string (str a.text),.string (str a.r.method),.string (str a.r.target.scheme),.string (str a.r.target.user),.string (str a.r.target.host),.int .i64 a.r.target.port,v.tp,v.th,.string (str a.r.branch),.string (str a.r.sentby),.string (str a.r.from_.display),.string (str a.r.from_.uri.scheme),.string (str a.r.from_.uri.user),.string (str a.r.from_.uri.host),.int .i64 a.r.from_.uri.port,v.fp,v.fh,v.fa,.string (str a.r.to_.display),.string (str a.r.to_.uri.scheme),.string (str a.r.to_.uri.user),.string (str a.r.to_.uri.host),.int .i64 a.r.to_.uri.port,v.op,v.oh,v.oa,.string (str a.r.ftag),.string (str a.r.ttag),.string (str a.r.callid),.int .i64 a.r.seq,.int .i64 a.r.exp,.string (str a.r.ev.name),v.ev,v.co,v.ro,v.ac,.string (str a.r.typ),.string (str a.r.mtch),.string (str a.r.body)]
end Go.Proofs.YthkadehlclcggaaGreatDoor
